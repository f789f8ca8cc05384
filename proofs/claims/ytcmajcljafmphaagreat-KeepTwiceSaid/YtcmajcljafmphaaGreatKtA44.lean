/- keep.lay, walked. Conditions: in the statements. -/
import Derived.Test.YtcmajcljafmphaaGreatKtA43
import Derived.Test.YtcmajcljafmphaaGreatKtA23
import Derived.Test.YtcmajcljafmphaaGreatKtA39
namespace Go.Proofs.YtcmajcljafmphaaGreat
open Go.RowKit Go.Maps
set_option maxRecDepth 100000
set_option linter.unusedVariables false
attribute [local go_sem] Oper.semAt_some

def fromN (b : Bool) : Nat := if b then 256 else 1
def KLayP (base d kb : Nat) (zs : List Nat) (x : Nat) (v0 : Array Value) (sec down : Bool) (s : DskV) (l : List Nod) (w : World) (e : Ending) (w' : World) : Prop :=
  (e = .returned (.int .i64 0) ∧ ∃ s' z o cp, LaidP s s' (fromN !sec) (encT x l) (((encT x l).length + 255) / 256) (if sec then 0 else 1) ∧ Dk base (z :: kb :: zs) d s' w' ∧
    w'.heap[kb]? = some (.cells #[.pointer (some ⟨d, 0, none⟩), .int .u64 (x : Int), .slice (some ⟨z, o, none⟩) l.length cp, .bool (!sec), .bool down] 64 (0, 0)) ∧ NodsAt w' (.slice (some ⟨z, o, none⟩) l.length cp) l ∧ Fr base zs w w') ∨
  (e = .returned (.int .i64 22) ∧ ∃ s', CutP s s' ∧ Dk base (kb :: zs) d s' w' ∧ w'.heap[kb]? = some (.cells v0 64 (0, 0)) ∧ Fr base zs w w')
theorem BytesAt.there {w : World} {v : Value} {l : List UInt8} (h : BytesAt w v l) (hl : l ≠ []) : ∃ b o c, v = .slice (some ⟨b, o, none⟩) l.length c ∧ b < w.heap.size ∧ l.length ≤ c ∧ c ≤ maxLen := by
  obtain ⟨a, c, rfl, h1, h2, h3⟩ := h.form
  have hp : 0 < l.length := List.length_pos_iff.2 hl
  obtain ⟨b, o, e, hc⟩ := h.cell 0 hp
  exact ⟨b, o, c, by rw [e], World.block_lt_of_cell? w _ hc, h1, h2⟩
theorem encT_ne (x : Nat) (l : List Nod) : encT x l ≠ [] := by
  intro e
  have := congrArg List.length e
  unfold encT at this
  simp [numBytes_length] at this
set_option maxHeartbeats 25600000 in
theorem klay_any (base d kb : Nat) (zs : List Nat) (x0 x : Nat) (v0 v : Value) (sec down : Bool) (s : DskV) (l : List Nod) (w : World) (h : Dk base (kb :: zs) d s w) (hbase : base ≤ w.heap.size) (hok : DOk s) (hw9 : s.writes ≤ 90000000) (hoff : s.off = false) (hp : s.pend = [])
    (hkb : w.heap[kb]? = some (.cells #[.pointer (some ⟨d, 0, none⟩), .int .u64 (x0 : Int), v0, .bool sec, .bool down] 64 (0, 0))) (hkz : kb ∉ zs) (hkbb : base ≤ kb) (hv : NodsAt w v l) (hva : ∀ j, v.ownBlock = some j → j ∈ zs ∨ j < base) (hne : l ≠ []) (hd0 : dropL l 0 = l) (hl : l.length ≤ 900) (hx : x < 18446744073709551616) (hno : ∀ n ∈ l, NodOk n) (hds : ∀ n ∈ l, (encN n).length ≤ 100000) (hL : (encT x l).length ≤ 65280) :
    Calls Tryz.prog 30 #[.pointer (some ⟨kb, 0, none⟩), .agg #[.int .u64 (x : Int), v]] w (KLayP base d kb zs x #[.pointer (some ⟨d, 0, none⟩), .int .u64 (x0 : Int), v0, .bool sec, .bool down] sec down s l w) := by
  obtain ⟨va, vc, rfl, _, _⟩ := hv.form
  have mixed : Tryz.prog.follows Departure.mixedOrders = true := by first | kernel_rfl | decide
  refine calls_of_at Tryz.func30 rfl ?_
  simp only [Tryz.ntmps30, List.size_toArray, List.length_cons, List.length_nil, Nat.reduceAdd, Nat.reduceSub, Array.replicate_succ, Array.replicate_zero, List.push_toArray, List.append_toArray, List.nil_append, List.cons_append]
  obtain ⟨W, hW⟩ : ∃ W, W = ((w.alloc (.cells #[.pointer (some ⟨kb, 0, none⟩)] 27)).alloc (.cells #[.int .u64 (x : Int), .slice va l.length vc] 33)).alloc (.cells #[.int .i64 0] 24) := ⟨_, rfl⟩
  have hb0 : Below w.heap.size w W := by rw [hW]; exact (((Below.refl _ _).alloc (Nat.le_refl _) _).alloc (by simp) _).alloc (by simp; omega) _
  have hWs : W.heap.size = w.heap.size + 3 := by rw [hW]; simp
  have hK0 : W.heap[kb]? = _ := (hb0.block kb (lt_of_block hkb)).trans hkb
  have hT0 : W.heap[w.heap.size + 1]? = some (.cells #[.int .u64 (x : Int), .slice va l.length vc] 33 (0, 0)) := by rw [hW]; exact (Below.heap_alloc _ _ _ (by simp)).trans (heap2 _ _ _)
  have hB0 : W.heap[w.heap.size]? = some (.cells #[.pointer (some ⟨kb, 0, none⟩)] 27 (0, 0)) := by rw [hW]; exact (Below.heap_alloc _ _ _ (by simp; omega)).trans ((Below.heap_alloc _ _ _ (by simp)).trans (heap_alloc_new _ _))
  have hen := hid (nencode_new (.slice va l.length vc) x l W (hv.below hb0) hl hx hno hds)
  obtain ⟨c, hc⟩ : ∃ c, c = encT x l := ⟨_, rfl⟩
  rw [← hc] at hen hL
  have t0 := block_cell hT0 0
  have t1 := block_cell hT0 1
  have b0 := block_cell hB0 0
  have k2 := block_cell hK0 3
  obtain ⟨a0, ha0⟩ : ∃ a0 : Nat, a0 = fromN (!sec) := ⟨_, rfl⟩
  have hfr := hid (show ∀ w, Calls Tryz.prog 31 #[.bool (!sec)] w fun e w' => e = .returned (.int .i64 (a0 : Int)) ∧ w' = w from fun w => by
    have := kfrom_any (!sec) w
    rw [ha0]
    cases sec <;> exact this)
  replace ha0 := hid ha0
  have ha1 : 1 ≤ a0 ∧ a0 + (c.length + 255) / 256 ≤ 512 := by rw [ha0.out]; unfold fromN; cases sec <;> simp <;> omega
  replace h := hid h
  replace hv := hid hv
  replace hok := hid hok
  replace hkb := hid hkb
  replace hb0 := hid hb0
  replace hno := hid hno
  replace hds := hid hds
  replace hc := hid hc
  refine wpAt_then 5 ?_
  gi_wp2_with (rw [← hW]; replace hW := hid hW)
  refine wpAt_then 5 ?_
  gi_wp2
  refine wpAt_then 5 ?_
  gi_wp2_with (refine ⟨trivial, ?_⟩; gi_at_call 54; refine (callsIn_wide.2 hen.out).mono ?_; rintro e w1 ⟨v1, rfl, hv1, hb1⟩; obtain ⟨bb, o, cp, rfl, hbb, hcp1, hcp2⟩ := hv1.1.there (by rw [hc.out]; exact encT_ne _ _))
  have hb9 := hv1.2 bb rfl
  have d0 := block_cell ((hb1.block _ (lt_of_block hB0)).trans hB0) 0
  have d2 := block_cell ((hb1.block _ (lt_of_block hK0)).trans hK0) 3
  have hT1 := (hb1.block _ (lt_of_block hT0)).trans hT0
  have hbw := hid (show w1.heap.size < w1.heap.size + 1 from by omega)
  replace hv1 := hid hv1
  replace hb1 := hid hb1
  replace hT1 := hid hT1
  unfold maxLen at hcp2
  clear t0 t1 b0 k2
  refine wpAt_then 5 ?_
  gi_wp2_with (refine ⟨trivial, ?_⟩; gi_at_call 31; refine (callsIn_wide.2 (hfr.out _)).mono ?_; rintro e w2 ⟨rfl, hw2⟩; rw [hw2]; clear hw2)
  refine wpAt_seq ?_
  refine wpAt_then 5 ?_
  gi_wp2_with (refine ⟨trivial, ?_⟩; gi_at_call 44; refine (callsIn_wide.2 (chunk_any _ _ _ _)).mono ?_; rintro e w2 ⟨rfl, rfl⟩)
  refine wpAt_block ?_
  simp only [Nat.add_assoc, Nat.reduceAdd]
  obtain ⟨kc, hkc⟩ : ∃ kc : Array Value, kc = #[.pointer (some ⟨d, 0, none⟩), .int .u64 (x0 : Int), v0, .bool sec, .bool down] := ⟨_, rfl⟩
  obtain ⟨tv, htv⟩ : ∃ tv : Array Value, tv = #[.int .u64 (x : Int), .slice va l.length vc] := ⟨_, rfl⟩
  have hlk0 := hid (LayK.start a0 c hok.out hoff hp)
  replace hkc := hid hkc
  have hkc3 := hid (fun (X : World) (av : Int) (t : DskV) (h9 : LayS w base d kb zs kc tv c o cp bb w.heap.size w1.heap.size av t X) => show X.cell? ⟨kb, 3, none⟩ = some (.bool sec) from by
    have := block_cell h9.hkb 3
    rw [hkc.out] at this
    exact this)
  have hk00 := hid (fun (X : World) (av : Int) (t : DskV) (h9 : LayS w base d kb zs kc tv c o cp bb w.heap.size w1.heap.size av t X) => show X.cell? ⟨kb, 0, none⟩ = some (.pointer (some ⟨d, 0, none⟩)) from by
    have := block_cell h9.hkb 0
    rw [hkc.out] at this
    exact this)
  have htv3 := hid (show (∀ (X : World) (av : Int) (t : DskV), LayS w base d kb zs kc tv c o cp bb w.heap.size w1.heap.size av t X → X.cell? ⟨w.heap.size + 1, 0, none⟩ = some (.int .u64 (x : Int))) ∧ (∀ (X : World) (av : Int) (t : DskV), LayS w base d kb zs kc tv c o cp bb w.heap.size w1.heap.size av t X → X.cell? ⟨w.heap.size + 1, 1, none⟩ = some (.slice va l.length vc)) from by
    constructor
    · intro X av t h9
      have := block_cell h9.hT 0
      rw [htv] at this
      exact this
    · intro X av t h9
      have := block_cell h9.hT 1
      rw [htv] at this
      exact this)
  have hkB := hid (show w.heap.size ≠ kb ∧ w.heap.size + 1 ≠ kb from by have := h.out.zlt kb List.mem_cons_self; omega)
  replace htv := hid htv
  replace hWs := hid hWs
  clear hK0 hT0 hB0 hen hfr hT1 d0 d2
  refine wpAt_rangeFunc (n := 5) (rangeAt_P (F := Fence.wide) (n := 5) 30 trivial rfl (by decide) (gf := 75) (lb := #[.pointer (some ⟨w1.heap.size + 1, 0, none⟩), .pointer (some ⟨w1.heap.size + 2, 0, none⟩)]) rfl trivial (enters_of Tryz.func75 (by kernel_rfl) rfl)
    (chunk1_seq (w1.heap.size + 1) (w1.heap.size + 2) bb o c.length cp (by omega) hcp1 (by omega) 4 (by decide)) rfl (fun k W => ∃ sk, LayK s sk a0 c k ∧ LayS w base d kb zs kc tv c o cp bb w.heap.size w1.heap.size ((a0 + k : Nat) : Int) sk W)
    (fun ch W => ch = errChain 22 ∧ ∃ s' av, CutP s s' ∧ LayS w base d kb zs kc tv c o cp bb w.heap.size w1.heap.size av s' W) ?own ?drew ?put ?start ?round ?done ?pan (.inl ⟨_, Tryz.func30⟩))
  case own => rintro k W ⟨sk, _, h⟩; exact ⟨block_cell h.hS 0, block_cell h.hN 0⟩
  case drew => rintro k W ⟨sk, h1, h⟩; exact ⟨sk, h1, h.pure (Below.refl _ _).drew⟩
  case put => rintro k W ob ⟨sk, h1, h⟩; simp only [World.size_alloc, Nat.add_assoc, Nat.reduceAdd]; exact ⟨sk, h1, h.rcd _ (.inr rfl) ob⟩
  case start =>
    intro r
    refine ⟨s, hlk0.out, ?_⟩
    rw [hkc.out, htv.out]
    exact LayS.start h.out hkb.out (by rw [← hW.out]; exact hb1.out) hv1.out.1 (by have := hWs.out; omega) hbb
  case pan =>
    rintro ch W ⟨rfl, s', av, hc', hS⟩ hD
    simp only [World.size_alloc, Nat.add_assoc, Nat.reduceAdd] at hD ⊢
    have hS2 := hS.rcd _ (.inl rfl) (.deferred none)
    simp only [Exit.inBlock, Exit.then, postC, LeavesC]
    refine ⟨_, _, rfl, run_takeDeferred hD, ?_⟩
    obtain ⟨e1, e2, e3⟩ := hS2.err (.int .i64 ((22 : Nat) : Int))
    rw [hkc.out] at e2
    exact kend_bad hS2.hE (by simp [go_sem]) ⟨_, dresults_c1 rfl _ _ (w.heap.size + 2) _ rfl (drld_errno (block_cell (block_set hS2.hE 0 _) 0)), .inr ⟨rfl, s', hc', e1, e2, e3⟩⟩
  case done =>
    rintro W ⟨sk, hk, hS⟩ hD
    simp only [World.size_alloc, Nat.add_assoc, Nat.reduceAdd] at hD ⊢
    simp only [Exit.inBlock, Exit.then]
    refine wpAt_of (n := 5) (wpIn_wide.2 ?_)
    obtain ⟨n, hn⟩ : ∃ n, n = (c.length + 255) / 256 := ⟨_, rfl⟩
    rw [← hn] at hk hS ha1
    have hn9 : n ≤ 256 := by omega
    have hsy := hid (ksync_any hS.dk (fun x hx => ((hk.ok hok.out ha1.1 ha1.2 hw9).pin x hx).2.1) hk.off)
    have hSy := hid (hk.sync hok.out ha1.1 ha1.2 hw9)
    obtain ⟨s1, hs1⟩ : ∃ t, t = sk.settled fun _ => true := ⟨_, rfl⟩
    rw [← hs1] at hsy hSy
    clear hs1
    have b0 := block_cell hS.hB 0
    have q0 : W.cell? ⟨kb, 0, none⟩ = some (.pointer (some ⟨d, 0, none⟩)) := by have := block_cell hS.hkb 0; rw [hkc.out] at this; exact this
    replace hS := hid hS
    replace hn := hid hn
    clear hk hlk0
    obtain ⟨wh, hwh⟩ : ∃ wh, wh = cond sec 0 1 := ⟨_, rfl⟩
    replace hwh := hid hwh
    have hwh2 : wh ≤ 1 := by rw [hwh.out]; cases sec <;> decide
    go_upto_region 9 with (first
      | (go_at_call 58; refine hsy.out.mono ?_; rintro e X ⟨rfl, hX⟩; have hSX := hS.out.step hX; have b1 := block_cell hSX.hB 0; have q3 := hkc3.out X _ _ hSX)
      | (go_at_call 55; refine (show Calls Tryz.prog 55 #[.int .i64 0] _ _ from kmust_ok _).mono ?_; rintro e w5 ⟨rfl, hw5⟩; rw [hw5]; clear hw5))
    go_step; go_step; go_step; go_step; go_step; go_step; go_step; go_step
    have hDX := hid ((hX.2.keep (w1.heap.size + 3) (by simp [layZ])).trans hD)
    replace hX := hid hX
    have hz9 := hid (show w1.heap.size < X.heap.size from hSX.dk.zlt _ (by simp [layZ]))
    replace hSX := hid hSX
    go_cut [8] from 40 to 44 (fun s8 wx => s8 = .int .u64 (wh : Int) ∧ wx = X)
    case first =>
      cases sec
      all_goals
        go_wp2_with fail
        go_meet
        exact ⟨by rw [hwh.out]; rfl, rfl⟩
    case rest =>
      obtain ⟨rfl, hwc⟩ := hcut
      rw [hwc]
      clear hwc
      go_wp2_with fail
      obtain ⟨V, hV⟩ : ∃ V, V = X.alloc (.cells #[.slice none 0 0] 102) := ⟨_, rfl⟩
      obtain ⟨U, hU⟩ : ∃ U, U = V.alloc (.cells #[.int .u64 280368729932, .int .u64 (wh : Int), .int .u64 (c.length : Int)] 30) := ⟨_, rfl⟩
      have hVs : V.heap.size = X.heap.size + 1 := by rw [hV]; simp
      have hO : OutIs V X.heap.size [] := ⟨.slice none 0 0, 102, by rw [hV]; exact heap_alloc_new _ _, World.ownsRow_nil _ _ _ _⟩
      have hbU : Below V.heap.size V U := by rw [hU]; exact (Below.refl _ _).alloc (Nat.le_refl _) _
      have hbV : Below X.heap.size X U := (show Below X.heap.size X V from by rw [hV]; exact (Below.refl _ _).alloc (Nat.le_refl _) _).trans (hbU.mono (by omega))
      have hQ := hid (kept_new hO hbU (Nat.le_refl _) (show U.heap[V.heap.size]? = some (.cells #[.int .u64 280368729932, .int .u64 (wh : Int), .int .u64 (c.length : Int)] 30 (0, 0)) by rw [hU]; exact heap_alloc_new _ _))
      have hO2 := hid (hO.below hbU)
      have hX0 := hid hbV
      rw [hVs] at hQ
      have hUV : (X.alloc (.cells #[.slice none 0 0] 102)).alloc (.cells #[.int .u64 280368729932, .int .u64 (wh : Int), .int .u64 (c.length : Int)] 30) = U := by rw [hU, hV]
      rw [hUV]
      replace hUV := hid hUV
      replace hV := hid hV
      replace hU := hid hU
      clear hO hbU hbV
      obtain ⟨Z, hZ⟩ : ∃ Z, Z = X.heap.size := ⟨_, rfl⟩
      rw [← hZ] at hQ hO2 hX0 hVs
      rw [← hZ]
      have hZ9 := hid hZ
      clear hZ
      go_loopw [51] (fun kv wr => ∃ j : Nat, j ≤ 3 ∧ kv = .int .i64 (j : Int) ∧ Hid (OutIs wr Z (([280368729932, wh, c.length].take j).flatMap (fun u => numBytes u 8))) ∧ Hid (Below Z X wr) ∧ Hid (KeptB wr Z (Z + 1) (.cells #[.int .u64 280368729932, .int .u64 (wh : Int), .int .u64 (c.length : Int)] 30 (0, 0)))) (fun kv _ => 3 - (intOf kv).toNat)
      case atStart => exact ⟨0, by omega, rfl, hO2, hX0, hQ⟩
      case round =>
       obtain ⟨j, hj, rfl, hO, hB, hQ⟩ := hrel
       by_cases hj3 : j < 3
       · obtain ⟨u, hu, hu64, hcu⟩ : ∃ u, [280368729932, wh, c.length][j]? = some u ∧ u < 18446744073709551616 ∧ wr.cell? ⟨Z + 1, j, none⟩ = some (.int .u64 (u : Int)) := by
           have hb := fun i => block_cell hQ.out.1 i
           match j, hj3 with
           | 0, _ => exact ⟨280368729932, rfl, by decide, hb 0⟩
           | 1, _ => exact ⟨wh, rfl, by omega, hb 1⟩
           | 2, _ => exact ⟨c.length, rfl, by omega, hb 2⟩
         have i1 : (0 : Int) ≤ (j : Int) := by omega
         have i2 : (j : Int) < 3 := by omega
         have htl := hid (show ([280368729932, wh, c.length].take (j + 1)).flatMap (fun u => numBytes u 8) = ([280368729932, wh, c.length].take j).flatMap (fun u => numBytes u 8) ++ numBytes u 8 by
           have hl4 : j < [280368729932, wh, c.length].length := hj3
           rw [List.take_succ_eq_append_getElem hl4, List.flatMap_append]
           have : [280368729932, wh, c.length][j] = u := by
             rw [List.getElem?_eq_getElem hl4] at hu; exact Option.some.inj hu
           rw [this]; simp)
         obtain ⟨ys, hys⟩ : ∃ ys, ys = ([280368729932, wh, c.length].take j).flatMap (fun u => numBytes u 8) := ⟨_, rfl⟩
         rw [← hys] at hO
         have hyl : ys.length ≤ 100 := by
           rw [hys]
           match j, hj3 with
           | 0, _ => simp
           | 1, _ => simp [numBytes_length]
           | 2, _ => simp [numBytes_length]
         have hp := hid (put_step Z ys 8 u wr hu64 (by omega) (by omega) (by omega) hO.out)
         replace hys := hid hys
         replace hu := hid hu
         go_wp2_with fail
         refine hp.out.mono ?_
         rintro e w3 ⟨rfl, ho, hs⟩
         have hQ2 := hid (hQ.out.step hs)
         have hB2 := hid (hB.out.trans hs.below)
         replace ho := hid ho
         clear hp hs hO hB hQ hcu i1 i2
         go_wp2_with fail
         go_roundw
         case rel => exact ⟨j + 1, by omega, by go_num, by rw [htl.out, ← hys.out]; exact ho, hB2, hQ2⟩
         case measure => simp [intOf]; omega
       · obtain rfl : j = 3 := by omega
         have hhd : ([280368729932, wh, c.length].take 3).flatMap (fun u => numBytes u 8) = headB wh c.length := by
           unfold headB; simp
         rw [hhd] at hO
         have hby := hid (out_bytes_new Z (headB wh c.length) wr.drew (by rw [headB_len]; decide) (hO.out.below (Below.refl _ _).drew))
         have hSW := hSX.out.pure (by rw [hZ9.out] at hB; exact hB.out)
         have hDw := hid ((hB.out.block (w1.heap.size + 3) (by rw [hZ9.out]; exact hSX.out.dk.zlt _ (by simp [layZ]))).trans hDX.out)
         have hD4t := hid (fun (w4 : World) (hb : Below wr.drew.heap.size wr.drew w4) => (hb.block (w1.heap.size + 3) (hSW.dk.zlt _ (by simp [layZ]))).trans hDw.out)
         have b2 := block_cell hSW.hB 0
         have q2 : wr.cell? ⟨kb, 0, none⟩ = some (.pointer (some ⟨d, 0, none⟩)) := by have := block_cell hSW.hkb 0; rw [hkc.out] at this; exact this
         have hdk := hid hSW.dk.base
         replace hSW := hid hSW
         clear hB hO hQ hX0 hO2 hhd b0 b1 q0 q3
         go_wp2_with fail
         by_cases hcut : s1.armed = true ∧ s1.left = 1
         · have hwr := hid (fun (w4 : World) (v4 : Value) (h4 : LayS w base d kb zs kc tv c o cp bb w.heap.size w1.heap.size ((a0 + n : Nat) : Int) s1 w4) (hv4 : BytesAt w4 v4 (sectL (headB wh c.length))) (hf : v4.ownBlock ≠ some d) => show Calls Tryz.prog 56 #[.pointer (some ⟨d, 0, none⟩), .int .i64 0, v4] w4 fun e w5 => e = .returned (.int .i64 22) ∧ LayS w base d kb zs kc tv c o cp bb w.heap.size w1.heap.size ((a0 + n : Nat) : Int) (DskV.cut { s1 with left := 0 } s1.keep) w5 ∧ w5.heap[w1.heap.size + 3]? = w4.heap[w1.heap.size + 3]? from by
             have h9 := kwrite_any h4.dk hSy.out.ok hSy.out.off 0 (by have := hSy.out.ok.least; omega) v4 _ hv4 hf (sectL_len _ (by rw [headB_len]; decide))
             have e9 : s1.write 0 (sectL (headB wh c.length)) = ((DskV.cut { s1 with left := 0 } s1.keep), 22) := if_pos hcut
             rw [e9] at h9
             refine h9.mono ?_
             rintro e w5 ⟨rfl, hD5⟩
             exact ⟨rfl, h4.step hD5, hD5.2.keep _ (by simp [layZ])⟩)
           refine wp_region_heldD (S := (fun X => X.cell? ⟨w.heap.size, 0, none⟩ = some (.pointer (some ⟨kb, 0, none⟩)) ∧ X.cell? ⟨kb, 0, none⟩ = some (.pointer (some ⟨d, 0, none⟩)))) [(4, .pointer (some ⟨w.heap.size + 2, 0, none⟩))] mixed (by kernel_rfl) ⟨rfl, trivial⟩ ⟨b2, q2⟩ (fun hHeld0 => ?_)
           refine wpAnyH_take (i := 0) (oi := _) (v := ?_) (take_list rfl) (by kernel_rfl) (by kernel_rfl) (by kernel_rfl) (fun _ _ _ h => h) (Or.inl ⟨by rfl, ?_⟩) (by assumption) ?_
           rotate_left
           · intro w hSw; (try dsimp only at hSw); go_simp; try (with_reducible rfl)
           try simp only [Act.put, List.setIfInBounds_toArray, List.set_cons_zero, List.set_cons_succ]
           refine wpAnyH_take (i := 1) (oi := _) (v := ?_) (take_list rfl) (by kernel_rfl) (by kernel_rfl) (by kernel_rfl) (fun _ _ _ h => h) (Or.inl ⟨by rfl, ?_⟩) (by assumption) ?_
           rotate_left
           · intro w hSw; (try dsimp only at hSw); go_simp; try (with_reducible rfl)
           try simp only [Act.put, List.setIfInBounds_toArray, List.set_cons_zero, List.set_cons_succ]
           refine wpAnyH_take (i := 2) (oi := _) (v := ?_) (take_list rfl) (by kernel_rfl) (by kernel_rfl) (by kernel_rfl) (fun _ _ _ h => h) (Or.inl ⟨by rfl, ?_⟩) (by assumption) ?_
           rotate_left
           · intro w hSw; (try dsimp only at hSw); go_simp; try (with_reducible rfl)
           try simp only [Act.put, List.setIfInBounds_toArray, List.set_cons_zero, List.set_cons_succ]
           refine wpAnyH_take (i := 3) (oi := _) (v := ?_) (take_list rfl) (by kernel_rfl) (by kernel_rfl) (by kernel_rfl) (fun _ _ _ h => h) (Or.inl ⟨by rfl, ?_⟩) (by assumption) ?_
           rotate_left
           · intro w hSw; (try dsimp only at hSw); go_simp; try (with_reducible rfl)
           try simp only [Act.put, List.setIfInBounds_toArray, List.set_cons_zero, List.set_cons_succ]
           refine wpAnyH_ready (rs := [4]) (by kernel_rfl) (by simp) ?_
           refine AllReadyH.cons (take_list rfl) (fun K hK => ?_) ?_
           go_simp
           ((first
             | (go_at_call 60; refine hby.out.mono ?_; rintro e w3 ⟨v3, rfl, hv3, hb3⟩; have hS3 := hSW.out.pure (Below.of_drew hb3); have s3 : w3.cell? ⟨w.heap.size, 0, none⟩ = some (.pointer (some ⟨kb, 0, none⟩)) ∧ w3.cell? ⟨kb, 0, none⟩ = some (.pointer (some ⟨d, 0, none⟩)) := ⟨block_cell hS3.hB 0, hk00.out _ _ _ hS3⟩; have hsec := hid (ksector_any v3 (headB wh c.length) w3 hv3.1 (by rw [headB_len]; decide)); have hb33 := hid hb3; replace hS3 := hid hS3; replace hv3 := hid hv3; clear hb3)
             | (go_at_call 57; refine hsec.out.mono ?_; rintro e w4 ⟨v4, rfl, hv4, hb4⟩; have hS4 := hS3.out.pure hb4; have s4 : w4.cell? ⟨w.heap.size, 0, none⟩ = some (.pointer (some ⟨kb, 0, none⟩)) ∧ w4.cell? ⟨kb, 0, none⟩ = some (.pointer (some ⟨d, 0, none⟩)) := ⟨block_cell hS4.hB 0, hk00.out _ _ _ hS4⟩; have hw4 := hid (hwr.out w4 v4 hS4 hv4.1 (fun e => by have h8 : w3.heap.size ≤ d := hv4.2 d e; have := hS3.out.dk.base.2; omega)); replace hS4 := hid hS4; have hb44 := hid hb4; clear hb4)
             | (go_at_call 56; refine hw4.out.mono ?_; rintro e w5 ⟨rfl, hS5, hD5⟩; have s5 : w5.cell? ⟨w.heap.size, 0, none⟩ = some (.pointer (some ⟨kb, 0, none⟩)) ∧ w5.cell? ⟨kb, 0, none⟩ = some (.pointer (some ⟨d, 0, none⟩)) := ⟨block_cell hS5.hB 0, hk00.out _ _ _ hS5⟩; replace hS5 := hid hS5; replace hD5 := hid hD5)
             | (go_at_call 55; refine (show Calls Tryz.prog 55 #[.int .i64 22] w5 _ from kmust_bad 22 (by decide) w5).mono ?_; rintro e w6 ⟨rfl, hw6⟩; rw [hw6]; clear hw6)))
           go_wp2_with fail
           refine hK.out _ _ ?_ (fun hHeld1 => ?_)
           · try dsimp only
             (first | exact s5 | exact s4 | exact s3 | exact ⟨b2, q2⟩)
           clear hK K hHeld0
           try simp only [Act.put, List.setIfInBounds_toArray, List.set_cons_zero, List.set_cons_succ]
           refine wpAnyH_ready (rs := [5]) (by kernel_rfl) (by simp) ?_
           refine AllReadyH.cons (take_list rfl) (fun K hK => ?_) ?_
           go_simp
           ((first
             | (go_at_call 60; refine hby.out.mono ?_; rintro e w3 ⟨v3, rfl, hv3, hb3⟩; have hS3 := hSW.out.pure (Below.of_drew hb3); have s3 : w3.cell? ⟨w.heap.size, 0, none⟩ = some (.pointer (some ⟨kb, 0, none⟩)) ∧ w3.cell? ⟨kb, 0, none⟩ = some (.pointer (some ⟨d, 0, none⟩)) := ⟨block_cell hS3.hB 0, hk00.out _ _ _ hS3⟩; have hsec := hid (ksector_any v3 (headB wh c.length) w3 hv3.1 (by rw [headB_len]; decide)); have hb33 := hid hb3; replace hS3 := hid hS3; replace hv3 := hid hv3; clear hb3)
             | (go_at_call 57; refine hsec.out.mono ?_; rintro e w4 ⟨v4, rfl, hv4, hb4⟩; have hS4 := hS3.out.pure hb4; have s4 : w4.cell? ⟨w.heap.size, 0, none⟩ = some (.pointer (some ⟨kb, 0, none⟩)) ∧ w4.cell? ⟨kb, 0, none⟩ = some (.pointer (some ⟨d, 0, none⟩)) := ⟨block_cell hS4.hB 0, hk00.out _ _ _ hS4⟩; have hw4 := hid (hwr.out w4 v4 hS4 hv4.1 (fun e => by have h8 : w3.heap.size ≤ d := hv4.2 d e; have := hS3.out.dk.base.2; omega)); replace hS4 := hid hS4; have hb44 := hid hb4; clear hb4)
             | (go_at_call 56; refine hw4.out.mono ?_; rintro e w5 ⟨rfl, hS5, hD5⟩; have s5 : w5.cell? ⟨w.heap.size, 0, none⟩ = some (.pointer (some ⟨kb, 0, none⟩)) ∧ w5.cell? ⟨kb, 0, none⟩ = some (.pointer (some ⟨d, 0, none⟩)) := ⟨block_cell hS5.hB 0, hk00.out _ _ _ hS5⟩; replace hS5 := hid hS5; replace hD5 := hid hD5)
             | (go_at_call 55; refine (show Calls Tryz.prog 55 #[.int .i64 22] w5 _ from kmust_bad 22 (by decide) w5).mono ?_; rintro e w6 ⟨rfl, hw6⟩; rw [hw6]; clear hw6)))
           go_wp2_with fail
           refine hK.out _ _ ?_ (fun hHeld2 => ?_)
           · try dsimp only
             (first | exact s5 | exact s4 | exact s3 | exact ⟨b2, q2⟩)
           clear hK K hHeld1
           try simp only [Act.put, List.setIfInBounds_toArray, List.set_cons_zero, List.set_cons_succ]
           refine wpAnyH_ready (rs := [6]) (by kernel_rfl) (by simp) ?_
           refine AllReadyH.cons (take_list rfl) (fun K hK => ?_) ?_
           go_simp
           ((first
             | (go_at_call 60; refine hby.out.mono ?_; rintro e w3 ⟨v3, rfl, hv3, hb3⟩; have hS3 := hSW.out.pure (Below.of_drew hb3); have s3 : w3.cell? ⟨w.heap.size, 0, none⟩ = some (.pointer (some ⟨kb, 0, none⟩)) ∧ w3.cell? ⟨kb, 0, none⟩ = some (.pointer (some ⟨d, 0, none⟩)) := ⟨block_cell hS3.hB 0, hk00.out _ _ _ hS3⟩; have hsec := hid (ksector_any v3 (headB wh c.length) w3 hv3.1 (by rw [headB_len]; decide)); have hb33 := hid hb3; replace hS3 := hid hS3; replace hv3 := hid hv3; clear hb3)
             | (go_at_call 57; refine hsec.out.mono ?_; rintro e w4 ⟨v4, rfl, hv4, hb4⟩; have hS4 := hS3.out.pure hb4; have s4 : w4.cell? ⟨w.heap.size, 0, none⟩ = some (.pointer (some ⟨kb, 0, none⟩)) ∧ w4.cell? ⟨kb, 0, none⟩ = some (.pointer (some ⟨d, 0, none⟩)) := ⟨block_cell hS4.hB 0, hk00.out _ _ _ hS4⟩; have hw4 := hid (hwr.out w4 v4 hS4 hv4.1 (fun e => by have h8 : w3.heap.size ≤ d := hv4.2 d e; have := hS3.out.dk.base.2; omega)); replace hS4 := hid hS4; have hb44 := hid hb4; clear hb4)
             | (go_at_call 56; refine hw4.out.mono ?_; rintro e w5 ⟨rfl, hS5, hD5⟩; have s5 : w5.cell? ⟨w.heap.size, 0, none⟩ = some (.pointer (some ⟨kb, 0, none⟩)) ∧ w5.cell? ⟨kb, 0, none⟩ = some (.pointer (some ⟨d, 0, none⟩)) := ⟨block_cell hS5.hB 0, hk00.out _ _ _ hS5⟩; replace hS5 := hid hS5; replace hD5 := hid hD5)
             | (go_at_call 55; refine (show Calls Tryz.prog 55 #[.int .i64 22] w5 _ from kmust_bad 22 (by decide) w5).mono ?_; rintro e w6 ⟨rfl, hw6⟩; rw [hw6]; clear hw6)))
           go_wp2_with fail
           refine hK.out _ _ ?_ (fun hHeld3 => ?_)
           · try dsimp only
             (first | exact s5 | exact s4 | exact s3 | exact ⟨b2, q2⟩)
           clear hK K hHeld2
           try simp only [Act.put, List.setIfInBounds_toArray, List.set_cons_zero, List.set_cons_succ]
           refine wpAnyH_ready (rs := [7]) (by kernel_rfl) (by simp) ?_
           refine AllReadyH.cons (take_list rfl) (fun K hK => ?_) ?_
           go_simp
           ((first
             | (go_at_call 60; refine hby.out.mono ?_; rintro e w3 ⟨v3, rfl, hv3, hb3⟩; have hS3 := hSW.out.pure (Below.of_drew hb3); have s3 : w3.cell? ⟨w.heap.size, 0, none⟩ = some (.pointer (some ⟨kb, 0, none⟩)) ∧ w3.cell? ⟨kb, 0, none⟩ = some (.pointer (some ⟨d, 0, none⟩)) := ⟨block_cell hS3.hB 0, hk00.out _ _ _ hS3⟩; have hsec := hid (ksector_any v3 (headB wh c.length) w3 hv3.1 (by rw [headB_len]; decide)); have hb33 := hid hb3; replace hS3 := hid hS3; replace hv3 := hid hv3; clear hb3)
             | (go_at_call 57; refine hsec.out.mono ?_; rintro e w4 ⟨v4, rfl, hv4, hb4⟩; have hS4 := hS3.out.pure hb4; have s4 : w4.cell? ⟨w.heap.size, 0, none⟩ = some (.pointer (some ⟨kb, 0, none⟩)) ∧ w4.cell? ⟨kb, 0, none⟩ = some (.pointer (some ⟨d, 0, none⟩)) := ⟨block_cell hS4.hB 0, hk00.out _ _ _ hS4⟩; have hw4 := hid (hwr.out w4 v4 hS4 hv4.1 (fun e => by have h8 : w3.heap.size ≤ d := hv4.2 d e; have := hS3.out.dk.base.2; omega)); replace hS4 := hid hS4; have hb44 := hid hb4; clear hb4)
             | (go_at_call 56; refine hw4.out.mono ?_; rintro e w5 ⟨rfl, hS5, hD5⟩; have s5 : w5.cell? ⟨w.heap.size, 0, none⟩ = some (.pointer (some ⟨kb, 0, none⟩)) ∧ w5.cell? ⟨kb, 0, none⟩ = some (.pointer (some ⟨d, 0, none⟩)) := ⟨block_cell hS5.hB 0, hk00.out _ _ _ hS5⟩; replace hS5 := hid hS5; replace hD5 := hid hD5)
             | (go_at_call 55; refine (show Calls Tryz.prog 55 #[.int .i64 22] w5 _ from kmust_bad 22 (by decide) w5).mono ?_; rintro e w6 ⟨rfl, hw6⟩; rw [hw6]; clear hw6)))
           go_wp2_with fail
           rotate_left
           exact AllReadyH.nil
           exact AllReadyH.nil
           exact AllReadyH.nil
           exact AllReadyH.nil
           all_goals
             first
               | (intro a' hd hx; have hx4 := hx _ List.mem_cons_self; have hd2 : a'.defers = { target := .collected (w1.heap.size + 3), args := #[] } :: [{ target := .fn (.func 53) #[], args := #[.pointer (some ⟨w.heap.size + 2, 0, none⟩)] }] := hd; have hS6 := hS5.out.rcd _ (.inl rfl) (.deferred none); simp only [Exit.then, postC, hd2, LeavesC]; refine ⟨_, _, rfl, run_takeDeferred (hD5.out.trans (hD4t.out w4 (sn hb33.out hb44.out))), ?_⟩; obtain ⟨e1, e2, e3⟩ := hS6.err (.int .i64 ((22 : Nat) : Int)); rw [hkc.out] at e2; exact kend_bad hS6.hE (by simp [go_sem]) ⟨_, dresults_c1 rfl _ _ (w.heap.size + 2) _ hx4 (drld_errno (block_cell (block_set hS6.hE 0 _) 0)), .inr ⟨rfl, _, hSy.out.cut ha1.1 hn9 hcut.1, e1, e2, e3⟩⟩)
               | trace_state
         · have hwr := hid (fun (w4 : World) (v4 : Value) (h4 : LayS w base d kb zs kc tv c o cp bb w.heap.size w1.heap.size ((a0 + n : Nat) : Int) s1 w4) (hv4 : BytesAt w4 v4 (sectL (headB wh c.length))) (hf : v4.ownBlock ≠ some d) => show Calls Tryz.prog 56 #[.pointer (some ⟨d, 0, none⟩), .int .i64 0, v4] w4 fun e w5 => e = .returned (.int .i64 0) ∧ LayS w base d kb zs kc tv c o cp bb w.heap.size w1.heap.size ((a0 + n : Nat) : Int) (s1.tick.wrote 0 (sectL (headB wh c.length))) w5 ∧ w5.heap[w1.heap.size + 3]? = w4.heap[w1.heap.size + 3]? from by
             have h9 := kwrite_any h4.dk hSy.out.ok hSy.out.off 0 (by have := hSy.out.ok.least; omega) v4 _ hv4 hf (sectL_len _ (by rw [headB_len]; decide))
             have e9 : s1.write 0 (sectL (headB wh c.length)) = ((s1.tick.wrote 0 (sectL (headB wh c.length))), 0) := if_neg hcut
             rw [e9] at h9
             refine h9.mono ?_
             rintro e w5 ⟨rfl, hD5⟩
             exact ⟨rfl, h4.step hD5, hD5.2.keep _ (by simp [layZ])⟩)
           refine wp_region_heldD (S := (fun X => X.cell? ⟨w.heap.size, 0, none⟩ = some (.pointer (some ⟨kb, 0, none⟩)) ∧ X.cell? ⟨kb, 0, none⟩ = some (.pointer (some ⟨d, 0, none⟩)))) [(4, .pointer (some ⟨w.heap.size + 2, 0, none⟩))] mixed (by kernel_rfl) ⟨rfl, trivial⟩ ⟨b2, q2⟩ (fun hHeld0 => ?_)
           refine wpAnyH_take (i := 0) (oi := _) (v := ?_) (take_list rfl) (by kernel_rfl) (by kernel_rfl) (by kernel_rfl) (fun _ _ _ h => h) (Or.inl ⟨by rfl, ?_⟩) (by assumption) ?_
           rotate_left
           · intro w hSw; (try dsimp only at hSw); go_simp; try (with_reducible rfl)
           try simp only [Act.put, List.setIfInBounds_toArray, List.set_cons_zero, List.set_cons_succ]
           refine wpAnyH_take (i := 1) (oi := _) (v := ?_) (take_list rfl) (by kernel_rfl) (by kernel_rfl) (by kernel_rfl) (fun _ _ _ h => h) (Or.inl ⟨by rfl, ?_⟩) (by assumption) ?_
           rotate_left
           · intro w hSw; (try dsimp only at hSw); go_simp; try (with_reducible rfl)
           try simp only [Act.put, List.setIfInBounds_toArray, List.set_cons_zero, List.set_cons_succ]
           refine wpAnyH_take (i := 2) (oi := _) (v := ?_) (take_list rfl) (by kernel_rfl) (by kernel_rfl) (by kernel_rfl) (fun _ _ _ h => h) (Or.inl ⟨by rfl, ?_⟩) (by assumption) ?_
           rotate_left
           · intro w hSw; (try dsimp only at hSw); go_simp; try (with_reducible rfl)
           try simp only [Act.put, List.setIfInBounds_toArray, List.set_cons_zero, List.set_cons_succ]
           refine wpAnyH_take (i := 3) (oi := _) (v := ?_) (take_list rfl) (by kernel_rfl) (by kernel_rfl) (by kernel_rfl) (fun _ _ _ h => h) (Or.inl ⟨by rfl, ?_⟩) (by assumption) ?_
           rotate_left
           · intro w hSw; (try dsimp only at hSw); go_simp; try (with_reducible rfl)
           try simp only [Act.put, List.setIfInBounds_toArray, List.set_cons_zero, List.set_cons_succ]
           refine wpAnyH_ready (rs := [4]) (by kernel_rfl) (by simp) ?_
           refine AllReadyH.cons (take_list rfl) (fun K hK => ?_) ?_
           go_simp
           ((first
             | (go_at_call 60; refine hby.out.mono ?_; rintro e w3 ⟨v3, rfl, hv3, hb3⟩; have hS3 := hSW.out.pure (Below.of_drew hb3); have s3 : w3.cell? ⟨w.heap.size, 0, none⟩ = some (.pointer (some ⟨kb, 0, none⟩)) ∧ w3.cell? ⟨kb, 0, none⟩ = some (.pointer (some ⟨d, 0, none⟩)) := ⟨block_cell hS3.hB 0, hk00.out _ _ _ hS3⟩; have hsec := hid (ksector_any v3 (headB wh c.length) w3 hv3.1 (by rw [headB_len]; decide)); have hb33 := hid hb3; replace hS3 := hid hS3; replace hv3 := hid hv3; clear hb3)
             | (go_at_call 57; refine hsec.out.mono ?_; rintro e w4 ⟨v4, rfl, hv4, hb4⟩; have hS4 := hS3.out.pure hb4; have s4 : w4.cell? ⟨w.heap.size, 0, none⟩ = some (.pointer (some ⟨kb, 0, none⟩)) ∧ w4.cell? ⟨kb, 0, none⟩ = some (.pointer (some ⟨d, 0, none⟩)) := ⟨block_cell hS4.hB 0, hk00.out _ _ _ hS4⟩; have hw4 := hid (hwr.out w4 v4 hS4 hv4.1 (fun e => by have h8 : w3.heap.size ≤ d := hv4.2 d e; have := hS3.out.dk.base.2; omega)); replace hS4 := hid hS4; have hb44 := hid hb4; clear hb4)
             | (go_at_call 56; refine hw4.out.mono ?_; rintro e w5 ⟨rfl, hS5, hD5⟩; have s5 : w5.cell? ⟨w.heap.size, 0, none⟩ = some (.pointer (some ⟨kb, 0, none⟩)) ∧ w5.cell? ⟨kb, 0, none⟩ = some (.pointer (some ⟨d, 0, none⟩)) := ⟨block_cell hS5.hB 0, hk00.out _ _ _ hS5⟩; replace hS5 := hid hS5; replace hD5 := hid hD5)
             | (go_at_call 55; refine (kmust_ok w5).mono ?_; rintro e w6 ⟨rfl, hw6⟩; rw [hw6]; clear hw6)))
           go_wp2_with fail
           refine hK.out _ _ ?_ (fun hHeld1 => ?_)
           · try dsimp only
             (first | exact s5 | exact s4 | exact s3 | exact ⟨b2, q2⟩)
           clear hK K hHeld0
           try simp only [Act.put, List.setIfInBounds_toArray, List.set_cons_zero, List.set_cons_succ]
           refine wpAnyH_ready (rs := [5]) (by kernel_rfl) (by simp) ?_
           refine AllReadyH.cons (take_list rfl) (fun K hK => ?_) ?_
           go_simp
           ((first
             | (go_at_call 60; refine hby.out.mono ?_; rintro e w3 ⟨v3, rfl, hv3, hb3⟩; have hS3 := hSW.out.pure (Below.of_drew hb3); have s3 : w3.cell? ⟨w.heap.size, 0, none⟩ = some (.pointer (some ⟨kb, 0, none⟩)) ∧ w3.cell? ⟨kb, 0, none⟩ = some (.pointer (some ⟨d, 0, none⟩)) := ⟨block_cell hS3.hB 0, hk00.out _ _ _ hS3⟩; have hsec := hid (ksector_any v3 (headB wh c.length) w3 hv3.1 (by rw [headB_len]; decide)); have hb33 := hid hb3; replace hS3 := hid hS3; replace hv3 := hid hv3; clear hb3)
             | (go_at_call 57; refine hsec.out.mono ?_; rintro e w4 ⟨v4, rfl, hv4, hb4⟩; have hS4 := hS3.out.pure hb4; have s4 : w4.cell? ⟨w.heap.size, 0, none⟩ = some (.pointer (some ⟨kb, 0, none⟩)) ∧ w4.cell? ⟨kb, 0, none⟩ = some (.pointer (some ⟨d, 0, none⟩)) := ⟨block_cell hS4.hB 0, hk00.out _ _ _ hS4⟩; have hw4 := hid (hwr.out w4 v4 hS4 hv4.1 (fun e => by have h8 : w3.heap.size ≤ d := hv4.2 d e; have := hS3.out.dk.base.2; omega)); replace hS4 := hid hS4; have hb44 := hid hb4; clear hb4)
             | (go_at_call 56; refine hw4.out.mono ?_; rintro e w5 ⟨rfl, hS5, hD5⟩; have s5 : w5.cell? ⟨w.heap.size, 0, none⟩ = some (.pointer (some ⟨kb, 0, none⟩)) ∧ w5.cell? ⟨kb, 0, none⟩ = some (.pointer (some ⟨d, 0, none⟩)) := ⟨block_cell hS5.hB 0, hk00.out _ _ _ hS5⟩; replace hS5 := hid hS5; replace hD5 := hid hD5)
             | (go_at_call 55; refine (kmust_ok w5).mono ?_; rintro e w6 ⟨rfl, hw6⟩; rw [hw6]; clear hw6)))
           go_wp2_with fail
           refine hK.out _ _ ?_ (fun hHeld2 => ?_)
           · try dsimp only
             (first | exact s5 | exact s4 | exact s3 | exact ⟨b2, q2⟩)
           clear hK K hHeld1
           try simp only [Act.put, List.setIfInBounds_toArray, List.set_cons_zero, List.set_cons_succ]
           refine wpAnyH_ready (rs := [6]) (by kernel_rfl) (by simp) ?_
           refine AllReadyH.cons (take_list rfl) (fun K hK => ?_) ?_
           go_simp
           ((first
             | (go_at_call 60; refine hby.out.mono ?_; rintro e w3 ⟨v3, rfl, hv3, hb3⟩; have hS3 := hSW.out.pure (Below.of_drew hb3); have s3 : w3.cell? ⟨w.heap.size, 0, none⟩ = some (.pointer (some ⟨kb, 0, none⟩)) ∧ w3.cell? ⟨kb, 0, none⟩ = some (.pointer (some ⟨d, 0, none⟩)) := ⟨block_cell hS3.hB 0, hk00.out _ _ _ hS3⟩; have hsec := hid (ksector_any v3 (headB wh c.length) w3 hv3.1 (by rw [headB_len]; decide)); have hb33 := hid hb3; replace hS3 := hid hS3; replace hv3 := hid hv3; clear hb3)
             | (go_at_call 57; refine hsec.out.mono ?_; rintro e w4 ⟨v4, rfl, hv4, hb4⟩; have hS4 := hS3.out.pure hb4; have s4 : w4.cell? ⟨w.heap.size, 0, none⟩ = some (.pointer (some ⟨kb, 0, none⟩)) ∧ w4.cell? ⟨kb, 0, none⟩ = some (.pointer (some ⟨d, 0, none⟩)) := ⟨block_cell hS4.hB 0, hk00.out _ _ _ hS4⟩; have hw4 := hid (hwr.out w4 v4 hS4 hv4.1 (fun e => by have h8 : w3.heap.size ≤ d := hv4.2 d e; have := hS3.out.dk.base.2; omega)); replace hS4 := hid hS4; have hb44 := hid hb4; clear hb4)
             | (go_at_call 56; refine hw4.out.mono ?_; rintro e w5 ⟨rfl, hS5, hD5⟩; have s5 : w5.cell? ⟨w.heap.size, 0, none⟩ = some (.pointer (some ⟨kb, 0, none⟩)) ∧ w5.cell? ⟨kb, 0, none⟩ = some (.pointer (some ⟨d, 0, none⟩)) := ⟨block_cell hS5.hB 0, hk00.out _ _ _ hS5⟩; replace hS5 := hid hS5; replace hD5 := hid hD5)
             | (go_at_call 55; refine (kmust_ok w5).mono ?_; rintro e w6 ⟨rfl, hw6⟩; rw [hw6]; clear hw6)))
           go_wp2_with fail
           refine hK.out _ _ ?_ (fun hHeld3 => ?_)
           · try dsimp only
             (first | exact s5 | exact s4 | exact s3 | exact ⟨b2, q2⟩)
           clear hK K hHeld2
           try simp only [Act.put, List.setIfInBounds_toArray, List.set_cons_zero, List.set_cons_succ]
           refine wpAnyH_ready (rs := [7]) (by kernel_rfl) (by simp) ?_
           refine AllReadyH.cons (take_list rfl) (fun K hK => ?_) ?_
           go_simp
           ((first
             | (go_at_call 60; refine hby.out.mono ?_; rintro e w3 ⟨v3, rfl, hv3, hb3⟩; have hS3 := hSW.out.pure (Below.of_drew hb3); have s3 : w3.cell? ⟨w.heap.size, 0, none⟩ = some (.pointer (some ⟨kb, 0, none⟩)) ∧ w3.cell? ⟨kb, 0, none⟩ = some (.pointer (some ⟨d, 0, none⟩)) := ⟨block_cell hS3.hB 0, hk00.out _ _ _ hS3⟩; have hsec := hid (ksector_any v3 (headB wh c.length) w3 hv3.1 (by rw [headB_len]; decide)); have hb33 := hid hb3; replace hS3 := hid hS3; replace hv3 := hid hv3; clear hb3)
             | (go_at_call 57; refine hsec.out.mono ?_; rintro e w4 ⟨v4, rfl, hv4, hb4⟩; have hS4 := hS3.out.pure hb4; have s4 : w4.cell? ⟨w.heap.size, 0, none⟩ = some (.pointer (some ⟨kb, 0, none⟩)) ∧ w4.cell? ⟨kb, 0, none⟩ = some (.pointer (some ⟨d, 0, none⟩)) := ⟨block_cell hS4.hB 0, hk00.out _ _ _ hS4⟩; have hw4 := hid (hwr.out w4 v4 hS4 hv4.1 (fun e => by have h8 : w3.heap.size ≤ d := hv4.2 d e; have := hS3.out.dk.base.2; omega)); replace hS4 := hid hS4; have hb44 := hid hb4; clear hb4)
             | (go_at_call 56; refine hw4.out.mono ?_; rintro e w5 ⟨rfl, hS5, hD5⟩; have s5 : w5.cell? ⟨w.heap.size, 0, none⟩ = some (.pointer (some ⟨kb, 0, none⟩)) ∧ w5.cell? ⟨kb, 0, none⟩ = some (.pointer (some ⟨d, 0, none⟩)) := ⟨block_cell hS5.hB 0, hk00.out _ _ _ hS5⟩; replace hS5 := hid hS5; replace hD5 := hid hD5)
             | (go_at_call 55; refine (kmust_ok w5).mono ?_; rintro e w6 ⟨rfl, hw6⟩; rw [hw6]; clear hw6)))
           go_wp2_with fail
           refine hK.out _ _ ?_ (fun hHeld4 => ?_)
           · try dsimp only
             (first | exact s5 | exact s4 | exact s3 | exact ⟨b2, q2⟩)
           clear hK K hHeld3
           try simp only [Act.put, List.setIfInBounds_toArray, List.set_cons_zero, List.set_cons_succ]
           refine wpAnyH_done (by kernel_rfl) ?_ _
           rotate_left
           exact AllReadyH.nil
           exact AllReadyH.nil
           exact AllReadyH.nil
           exact AllReadyH.nil
           all_goals
             simp only [Keep, addD, List.nil_append]
             have hH := hid (hSy.out.head hcut ha1.1 hn9 hw9 wh)
             have hsy2 := hid (ksync_any hS5.out.dk hH.out.1 hH.out.2.1)
             go_wp2_with (first
               | (go_at_call 58; refine hsy2.out.mono ?_; rintro e w6 ⟨rfl, hX6⟩; have hS6 := hS5.out.step hX6; have q63 := hkc3.out _ _ _ hS6; have q60 := hk00.out _ _ _ hS6; have b6 := block_cell hS6.hB 0; have t60 : w6.cell? ⟨w.heap.size + 1, 0, none⟩ = some (.int .u64 (x : Int)) := htv3.out.1 _ _ _ hS6; have t61 : w6.cell? ⟨w.heap.size + 1, 1, none⟩ = some (.slice va l.length vc) := htv3.out.2 _ _ _ hS6; have hD6 := hid ((hX6.2.keep (w1.heap.size + 3) (by simp [layZ])).trans (hD5.out.trans (hD4t.out w4 (sn hb33.out hb44.out)))); have hap := hid (kapart_any (.slice va l.length vc) x l w6.drew ((hv.out.fr (fun j hj => (hva j hj).elim (hS6.keep j) (hS6.below.block j))).below (Below.refl _ _).drew) hl); replace hX6 := hid hX6; replace hS6 := hid hS6)
               | (go_at_call 55; refine (show Calls Tryz.prog 55 #[.int .i64 0] _ _ from kmust_ok _).mono ?_; rintro e w7 ⟨rfl, hw7⟩; rw [hw7]; clear hw7))
             refine wp_region_heldD (S := (fun X => X.cell? ⟨w.heap.size, 0, none⟩ = some (.pointer (some ⟨kb, 0, none⟩)) ∧ X.cell? ⟨w.heap.size + 1, 0, none⟩ = some (.int .u64 (x : Int)) ∧ X.cell? ⟨w.heap.size + 1, 1, none⟩ = some (.slice va l.length vc))) [(4, .pointer (some ⟨w.heap.size + 2, 0, none⟩))] mixed (by kernel_rfl) ⟨rfl, trivial⟩ ⟨b6, t60, t61⟩ (fun hHeld0 => ?_)
             refine wpAnyH_take (i := 0) (oi := _) (v := ?_) (take_list rfl) (by kernel_rfl) (by kernel_rfl) (by kernel_rfl) (fun _ _ _ h => h) (Or.inl ⟨by rfl, ?_⟩) (by assumption) ?_
             rotate_left
             · intro w hSw; (try dsimp only at hSw); go_simp; try (with_reducible rfl)
             try simp only [Act.put, List.setIfInBounds_toArray, List.set_cons_zero, List.set_cons_succ]
             refine wpAnyH_take (i := 1) (oi := _) (v := ?_) (take_list rfl) (by kernel_rfl) (by kernel_rfl) (by kernel_rfl) (fun _ _ _ h => h) (Or.inl ⟨by rfl, ?_⟩) (by assumption) ?_
             rotate_left
             · intro w hSw; (try dsimp only at hSw); go_simp; try (with_reducible rfl)
             try simp only [Act.put, List.setIfInBounds_toArray, List.set_cons_zero, List.set_cons_succ]
             refine wpAnyH_take (i := 2) (oi := _) (v := ?_) (take_list rfl) (by kernel_rfl) (by kernel_rfl) (by kernel_rfl) (fun _ _ _ h => h) (Or.inl ⟨by rfl, ?_⟩) (by assumption) ?_
             rotate_left
             · intro w hSw; (try dsimp only at hSw); go_simp; try (with_reducible rfl)
             try simp only [Act.put, List.setIfInBounds_toArray, List.set_cons_zero, List.set_cons_succ]
             refine wpAnyH_take (i := 4) (oi := _) (v := ?_) (take_list rfl) (by kernel_rfl) (by kernel_rfl) (by kernel_rfl) (fun _ _ _ h => h) (Or.inl ⟨by rfl, ?_⟩) (by assumption) ?_
             rotate_left
             · intro w hSw; (try dsimp only at hSw); go_simp; try (with_reducible rfl)
             try simp only [Act.put, List.setIfInBounds_toArray, List.set_cons_zero, List.set_cons_succ]
             refine wpAnyH_take (i := 5) (oi := _) (v := ?_) (take_list rfl) (by kernel_rfl) (by kernel_rfl) (by kernel_rfl) (fun _ _ _ h => h) (Or.inl ⟨by rfl, ?_⟩) (by assumption) ?_
             rotate_left
             · intro w hSw; (try dsimp only at hSw); go_simp; try (with_reducible rfl)
             try simp only [Act.put, List.setIfInBounds_toArray, List.set_cons_zero, List.set_cons_succ]
             refine wpAnyH_take (i := 6) (oi := _) (v := ?_) (take_list rfl) (by kernel_rfl) (by kernel_rfl) (by kernel_rfl) (fun _ _ _ h => h) (Or.inl ⟨by rfl, ?_⟩) (by assumption) ?_
             rotate_left
             · intro w hSw; (try dsimp only at hSw); go_simp; try (with_reducible rfl)
             try simp only [Act.put, List.setIfInBounds_toArray, List.set_cons_zero, List.set_cons_succ]
             refine wpAnyH_ready (rs := [3, 7]) (by kernel_rfl) (by simp) ?_
             refine AllReadyH.cons (take_list rfl) (fun K hK => ?_) ?_
             go_simp
             ((go_at_call 34; refine hap.out.mono ?_; rintro e w7 ⟨v7, rfl, hn7, hf7, hb7⟩; rw [hd0] at hn7; obtain ⟨z7, o7, cp7, rfl, hz7⟩ := hn7.lt hne; have hS7 := hS6.out.pure (Below.of_drew hb7); have hSt := hid (fun (W' : World) (hW' : ∀ j, j ≠ kb → W'.heap[j]? = w7.heap[j]?) => show W'.cell? ⟨w.heap.size, 0, none⟩ = some (.pointer (some ⟨kb, 0, none⟩)) ∧ W'.cell? ⟨w.heap.size + 1, 0, none⟩ = some (.int .u64 (x : Int)) ∧ W'.cell? ⟨w.heap.size + 1, 1, none⟩ = some (.slice va l.length vc) from ⟨block_cell ((hW' _ hkB.out.1).trans hS7.hB) 0, by have h9 := block_cell ((hW' _ hkB.out.2).trans hS7.hT) 0; rw [htv.out] at h9; exact h9, by have h9 := block_cell ((hW' _ hkB.out.2).trans hS7.hT) 1; rw [htv.out] at h9; exact h9⟩); have hK7 := hS7.hkb; rw [hkc.out] at hK7; have k71 := block_cell hK7 1; have k72 := block_cell hK7 2; have k73 := block_cell hK7 3; have g71 := block_free hK7 1; have g72 := block_free hK7 2; have g73 := block_free hK7 3; have hbb7 := hid hb7; replace hn7 := hid hn7; replace hf7 := hid hf7; replace hS7 := hid hS7; replace hK7 := hid hK7; clear hb7))
             go_wp2_with fail
             refine hK.out _ _ ?_ (fun hHeld1 => ?_)
             · try dsimp only
               (first | exact hSt.out _ (fun j hj => (block_set_other hj).trans ((block_set_other hj).trans (block_set_other hj))) | exact hSt.out _ (fun j hj => (block_set_other hj).trans (block_set_other hj)) | exact hSt.out _ (fun j hj => block_set_other hj) | exact hSt.out _ (fun j hj => rfl) | exact ⟨b6, t60, t61⟩)
             clear hK K hHeld0
             try simp only [Act.put, List.setIfInBounds_toArray, List.set_cons_zero, List.set_cons_succ]
             refine wpAnyH_ready (rs := [7]) (by kernel_rfl) (by simp) ?_
             refine AllReadyH.cons (take_list rfl) (fun K hK => ?_) ?_
             go_simp
             refine hK.out _ _ ?_ (fun hHeld2 => ?_)
             · try dsimp only
               (first | exact hSt.out _ (fun j hj => (block_set_other hj).trans ((block_set_other hj).trans (block_set_other hj))) | exact hSt.out _ (fun j hj => (block_set_other hj).trans (block_set_other hj)) | exact hSt.out _ (fun j hj => block_set_other hj) | exact hSt.out _ (fun j hj => rfl) | exact ⟨b6, t60, t61⟩)
             clear hK K hHeld1
             try simp only [Act.put, List.setIfInBounds_toArray, List.set_cons_zero, List.set_cons_succ]
             refine wpAnyH_take (i := 8) (oi := _) (v := ?_) (take_list rfl) (by kernel_rfl) (by kernel_rfl) (by kernel_rfl) (fun _ _ _ h => h) (Or.inl ⟨by rfl, ?_⟩) (by assumption) ?_
             rotate_left
             · intro w hSw; (try dsimp only at hSw); go_simp; try (with_reducible rfl)
             try simp only [Act.put, List.setIfInBounds_toArray, List.set_cons_zero, List.set_cons_succ]
             refine wpAnyH_take (i := 9) (oi := _) (v := ?_) (take_list rfl) (by kernel_rfl) (by kernel_rfl) (by kernel_rfl) (fun _ _ _ h => h) (Or.inl ⟨by rfl, ?_⟩) (by assumption) ?_
             rotate_left
             · intro w hSw; (try dsimp only at hSw); go_simp; try (with_reducible rfl)
             try simp only [Act.put, List.setIfInBounds_toArray, List.set_cons_zero, List.set_cons_succ]
             refine wpAnyH_take (i := 10) (oi := _) (v := ?_) (take_list rfl) (by kernel_rfl) (by kernel_rfl) (by kernel_rfl) (fun _ _ _ h => h) (Or.inl ⟨by rfl, ?_⟩) (by assumption) ?_
             rotate_left
             · intro w hSw; (try dsimp only at hSw); go_simp; try (with_reducible rfl)
             try simp only [Act.put, List.setIfInBounds_toArray, List.set_cons_zero, List.set_cons_succ]
             refine wpAnyH_ready (rs := [11]) (by kernel_rfl) (by simp) ?_
             refine AllReadyH.cons (take_list rfl) (fun K hK => ?_) ?_
             go_simp
             refine hK.out _ _ ?_ (fun hHeld3 => ?_)
             · try dsimp only
               (first | exact hSt.out _ (fun j hj => (block_set_other hj).trans ((block_set_other hj).trans (block_set_other hj))) | exact hSt.out _ (fun j hj => (block_set_other hj).trans (block_set_other hj)) | exact hSt.out _ (fun j hj => block_set_other hj) | exact hSt.out _ (fun j hj => rfl) | exact ⟨b6, t60, t61⟩)
             clear hK K hHeld2
             try simp only [Act.put, List.setIfInBounds_toArray, List.set_cons_zero, List.set_cons_succ]
             refine wpAnyH_take (i := 12) (oi := _) (v := ?_) (take_list rfl) (by kernel_rfl) (by kernel_rfl) (by kernel_rfl) (fun _ _ _ h => h) (Or.inl ⟨by rfl, ?_⟩) (by assumption) ?_
             rotate_left
             · intro w hSw; (try dsimp only at hSw); go_simp; try (with_reducible rfl)
             try simp only [Act.put, List.setIfInBounds_toArray, List.set_cons_zero, List.set_cons_succ]
             refine wpAnyH_take (i := 13) (oi := _) (v := ?_) (take_list rfl) (by kernel_rfl) (by kernel_rfl) (by kernel_rfl) (fun _ _ _ h => h) (Or.inl ⟨by rfl, ?_⟩) (by assumption) ?_
             rotate_left
             · intro w hSw; (try dsimp only at hSw); go_simp; try (with_reducible rfl)
             try simp only [Act.put, List.setIfInBounds_toArray, List.set_cons_zero, List.set_cons_succ]
             refine wpAnyH_ready (rs := [14]) (by kernel_rfl) (by simp) ?_
             refine AllReadyH.cons (take_list rfl) (fun K hK => ?_) ?_
             go_simp
             refine hK.out _ _ ?_ (fun hHeld4 => ?_)
             · try dsimp only
               (first | exact hSt.out _ (fun j hj => (block_set_other hj).trans ((block_set_other hj).trans (block_set_other hj))) | exact hSt.out _ (fun j hj => (block_set_other hj).trans (block_set_other hj)) | exact hSt.out _ (fun j hj => block_set_other hj) | exact hSt.out _ (fun j hj => rfl) | exact ⟨b6, t60, t61⟩)
             clear hK K hHeld3
             try simp only [Act.put, List.setIfInBounds_toArray, List.set_cons_zero, List.set_cons_succ]
             refine wpAnyH_done (by kernel_rfl) ?_ _
             rotate_left
             exact AllReadyH.nil
             exact AllReadyH.nil
             exact AllReadyH.nil
             refine AllReadyH.cons (take_list rfl) (fun K hK => ?_) ?_
             go_simp
             refine hK.out _ _ ?_ (fun hHeld1 => ?_)
             · try dsimp only
               (first | exact hSt.out _ (fun j hj => (block_set_other hj).trans ((block_set_other hj).trans (block_set_other hj))) | exact hSt.out _ (fun j hj => (block_set_other hj).trans (block_set_other hj)) | exact hSt.out _ (fun j hj => block_set_other hj) | exact hSt.out _ (fun j hj => rfl) | exact ⟨b6, t60, t61⟩)
             clear hK K hHeld0
             try simp only [Act.put, List.setIfInBounds_toArray, List.set_cons_zero, List.set_cons_succ]
             refine wpAnyH_take (i := 8) (oi := _) (v := ?_) (take_list rfl) (by kernel_rfl) (by kernel_rfl) (by kernel_rfl) (fun _ _ _ h => h) (Or.inl ⟨by rfl, ?_⟩) (by assumption) ?_
             rotate_left
             · intro w hSw; (try dsimp only at hSw); go_simp; try (with_reducible rfl)
             try simp only [Act.put, List.setIfInBounds_toArray, List.set_cons_zero, List.set_cons_succ]
             refine wpAnyH_ready (rs := [3]) (by kernel_rfl) (by simp) ?_
             refine AllReadyH.cons (take_list rfl) (fun K hK => ?_) ?_
             go_simp
             ((go_at_call 34; refine hap.out.mono ?_; rintro e w7 ⟨v7, rfl, hn7, hf7, hb7⟩; rw [hd0] at hn7; obtain ⟨z7, o7, cp7, rfl, hz7⟩ := hn7.lt hne; have hS7 := hS6.out.pure (Below.of_drew hb7); have hSt := hid (fun (W' : World) (hW' : ∀ j, j ≠ kb → W'.heap[j]? = w7.heap[j]?) => show W'.cell? ⟨w.heap.size, 0, none⟩ = some (.pointer (some ⟨kb, 0, none⟩)) ∧ W'.cell? ⟨w.heap.size + 1, 0, none⟩ = some (.int .u64 (x : Int)) ∧ W'.cell? ⟨w.heap.size + 1, 1, none⟩ = some (.slice va l.length vc) from ⟨block_cell ((hW' _ hkB.out.1).trans hS7.hB) 0, by have h9 := block_cell ((hW' _ hkB.out.2).trans hS7.hT) 0; rw [htv.out] at h9; exact h9, by have h9 := block_cell ((hW' _ hkB.out.2).trans hS7.hT) 1; rw [htv.out] at h9; exact h9⟩); have hK7 := hS7.hkb; rw [hkc.out] at hK7; have k71 := block_cell hK7 1; have k72 := block_cell hK7 2; have k73 := block_cell hK7 3; have g71 := block_free hK7 1; have g72 := block_free hK7 2; have g73 := block_free hK7 3; have hbb7 := hid hb7; replace hn7 := hid hn7; replace hf7 := hid hf7; replace hS7 := hid hS7; replace hK7 := hid hK7; clear hb7))
             go_wp2_with fail
             refine hK.out _ _ ?_ (fun hHeld2 => ?_)
             · try dsimp only
               (first | exact hSt.out _ (fun j hj => (block_set_other hj).trans ((block_set_other hj).trans (block_set_other hj))) | exact hSt.out _ (fun j hj => (block_set_other hj).trans (block_set_other hj)) | exact hSt.out _ (fun j hj => block_set_other hj) | exact hSt.out _ (fun j hj => rfl) | exact ⟨b6, t60, t61⟩)
             clear hK K hHeld1
             try simp only [Act.put, List.setIfInBounds_toArray, List.set_cons_zero, List.set_cons_succ]
             refine wpAnyH_take (i := 9) (oi := _) (v := ?_) (take_list rfl) (by kernel_rfl) (by kernel_rfl) (by kernel_rfl) (fun _ _ _ h => h) (Or.inl ⟨by rfl, ?_⟩) (by assumption) ?_
             rotate_left
             · intro w hSw; (try dsimp only at hSw); go_simp; try (with_reducible rfl)
             try simp only [Act.put, List.setIfInBounds_toArray, List.set_cons_zero, List.set_cons_succ]
             refine wpAnyH_take (i := 10) (oi := _) (v := ?_) (take_list rfl) (by kernel_rfl) (by kernel_rfl) (by kernel_rfl) (fun _ _ _ h => h) (Or.inl ⟨by rfl, ?_⟩) (by assumption) ?_
             rotate_left
             · intro w hSw; (try dsimp only at hSw); go_simp; try (with_reducible rfl)
             try simp only [Act.put, List.setIfInBounds_toArray, List.set_cons_zero, List.set_cons_succ]
             refine wpAnyH_ready (rs := [11]) (by kernel_rfl) (by simp) ?_
             refine AllReadyH.cons (take_list rfl) (fun K hK => ?_) ?_
             go_simp
             refine hK.out _ _ ?_ (fun hHeld3 => ?_)
             · try dsimp only
               (first | exact hSt.out _ (fun j hj => (block_set_other hj).trans ((block_set_other hj).trans (block_set_other hj))) | exact hSt.out _ (fun j hj => (block_set_other hj).trans (block_set_other hj)) | exact hSt.out _ (fun j hj => block_set_other hj) | exact hSt.out _ (fun j hj => rfl) | exact ⟨b6, t60, t61⟩)
             clear hK K hHeld2
             try simp only [Act.put, List.setIfInBounds_toArray, List.set_cons_zero, List.set_cons_succ]
             refine wpAnyH_take (i := 12) (oi := _) (v := ?_) (take_list rfl) (by kernel_rfl) (by kernel_rfl) (by kernel_rfl) (fun _ _ _ h => h) (Or.inl ⟨by rfl, ?_⟩) (by assumption) ?_
             rotate_left
             · intro w hSw; (try dsimp only at hSw); go_simp; try (with_reducible rfl)
             try simp only [Act.put, List.setIfInBounds_toArray, List.set_cons_zero, List.set_cons_succ]
             refine wpAnyH_take (i := 13) (oi := _) (v := ?_) (take_list rfl) (by kernel_rfl) (by kernel_rfl) (by kernel_rfl) (fun _ _ _ h => h) (Or.inl ⟨by rfl, ?_⟩) (by assumption) ?_
             rotate_left
             · intro w hSw; (try dsimp only at hSw); go_simp; try (with_reducible rfl)
             try simp only [Act.put, List.setIfInBounds_toArray, List.set_cons_zero, List.set_cons_succ]
             refine wpAnyH_ready (rs := [14]) (by kernel_rfl) (by simp) ?_
             refine AllReadyH.cons (take_list rfl) (fun K hK => ?_) ?_
             go_simp
             refine hK.out _ _ ?_ (fun hHeld4 => ?_)
             · try dsimp only
               (first | exact hSt.out _ (fun j hj => (block_set_other hj).trans ((block_set_other hj).trans (block_set_other hj))) | exact hSt.out _ (fun j hj => (block_set_other hj).trans (block_set_other hj)) | exact hSt.out _ (fun j hj => block_set_other hj) | exact hSt.out _ (fun j hj => rfl) | exact ⟨b6, t60, t61⟩)
             clear hK K hHeld3
             try simp only [Act.put, List.setIfInBounds_toArray, List.set_cons_zero, List.set_cons_succ]
             refine wpAnyH_done (by kernel_rfl) ?_ _
             rotate_left
             exact AllReadyH.nil
             exact AllReadyH.nil
             exact AllReadyH.nil
             exact AllReadyH.nil
             all_goals
               simp only [Keep, addD, List.nil_append]
               have hS6k := hS6.out
               rw [hkc.out] at hS6k
               obtain ⟨w8, h8, hE8, hD9, hfin⟩ := hS6k.done (x := x) (b' := !sec) (Below.of_drew hbb7.out) z7 o7 cp7 l hne (hf7.out z7 rfl) hn7.out hkz hkbb hD6.out
               rw [← h8]
               have c0 := block_cell hE8 0
               have f0 := block_free hE8 0
               have hLP : LaidP s ((s1.tick.wrote 0 (sectL (headB wh c.length))).settled fun _ => true) (fromN !sec) (encT x l) (((encT x l).length + 255) / 256) (cond sec 0 1) := by
                 have h9 := hH.out.2.2
                 generalize (s1.tick.wrote 0 (sectL (headB wh c.length))).settled (fun _ => true) = st at h9 ⊢
                 rw [ha0.out, hn.out, hc.out, hwh.out] at h9
                 exact h9
               replace h8 := hid h8
               replace hLP := hid hLP
               replace hfin := hid hfin
               replace hE8 := hid hE8
               clear hS6k k71 k72 k73 g71 g72 g73
               go_wp2_with fail
               simp only [postC, LeavesC]
               refine ⟨_, _, rfl, run_takeDeferred hD9, ?_⟩
               obtain ⟨f1, f2, f3, f4, f5⟩ := hfin.out _ rfl
               exact kend_ok (by simp [go_sem]) ⟨_, dresults_c1 rfl _ _ (w.heap.size + 2) _ rfl (drld_errno f1), .inl ⟨rfl, _, z7, o7, cp7, by cases sec <;> exact hLP.out, f2, f3, f4, f5⟩⟩
  case round =>
    rintro k W W2 - ⟨sk, hk, hS⟩ hkn
    simp only [World.size_alloc, Nat.add_assoc, Nat.reduceAdd]
    have hi9 : a0 + k < s.kept.length := by have := hok.out.least; omega
    have hck := hid (chunk_at hS.hb k (by omega))
    have hsec := hid (ksector_any (chunkV bb o c.length k) (chunkL c k) W2.drew (RowAt.below hck.out (Below.refl _ _).drew) (chunk_small c k))
    have hokk := hid (hk.ok hok.out ha1.1 (by omega) hw9)
    have hkept := hid hk.kept
    have hoffk := hid hk.off
    have b0 := block_cell hS.hB 0
    have a9 := block_cell hS.hA 0
    have q0 : W2.cell? ⟨kb, 0, none⟩ = some (.pointer (some ⟨d, 0, none⟩)) := by have := block_cell hS.hkb 0; rw [hkc.out] at this; exact this
    have hdk := hid hS.dk.base
    have hA4 := hid (show w1.heap.size + 4 < W2.heap.size from hS.dk.zlt _ (by simp [layZ]))
    replace hS := hid hS
    replace hk := hid hk
    gi_wp2
    refine ⟨trivial, ?_⟩
    gi_wp2
    by_cases hcut : sk.armed = true ∧ sk.left = 1
    · have hwr := hid (fun (w3 : World) (v3 : Value) (h3 : LayS w base d kb zs kc tv c o cp bb w.heap.size w1.heap.size ((a0 + k : Nat) : Int) sk w3) (hv3 : BytesAt w3 v3 (sectL (chunkL c k))) (hf : v3.ownBlock ≠ some d) => show Calls Tryz.prog 56 #[.pointer (some ⟨d, 0, none⟩), .int .i64 ((a0 : Int) + (k : Int)), v3] w3 fun e w4 => e = .returned (.int .i64 22) ∧ LayS w base d kb zs kc tv c o cp bb w.heap.size w1.heap.size ((a0 + k : Nat) : Int) (DskV.cut { sk with left := 0 } sk.keep) w4 ∧ w4.heap[w1.heap.size + 3]? = w3.heap[w1.heap.size + 3]? ∧ w4.heap[w1.heap.size + 4]? = w3.heap[w1.heap.size + 4]? from by
        have h9 := kwrite_any h3.dk hokk.out hoffk.out (a0 + k) (by rw [hkept.out]; exact hi9) v3 _ hv3 hf (sectL_len _ (chunk_small c k))
        have e9 : sk.write (a0 + k) (sectL (chunkL c k)) = (DskV.cut { sk with left := 0 } sk.keep, 22) := if_pos hcut
        rw [e9] at h9
        refine h9.mono ?_
        rintro e w4 ⟨rfl, hD4⟩
        exact ⟨rfl, h3.step hD4, hD4.2.keep _ (by simp [layZ]), hD4.2.keep _ (by simp [layZ])⟩)
      -- round
      refine wpIn_round_held (S := (fun X => X.cell? ⟨w.heap.size, 0, none⟩ = some (.pointer (some ⟨kb, 0, none⟩)) ∧ X.cell? ⟨kb, 0, none⟩ = some (.pointer (some ⟨d, 0, none⟩)) ∧ X.cell? ⟨w1.heap.size, 0, none⟩ = some (.int .i64 ((a0 : Int) + (k : Int))))) (by kernel_rfl) (by kernel_rfl) (by rintro ⟨_, _, h⟩; exact h) ?_ (fun hHeld0 => ?_)
      · try dsimp only
        (first | exact s4 | exact s3 | exact ⟨b0, q0, a9⟩)
      refine wpAnyH_take (i := 0) (oi := _) (v := ?_) (take_list rfl) (by kernel_rfl) (by kernel_rfl) (by kernel_rfl) (fun _ _ _ h => h) (Or.inl ⟨by rfl, ?_⟩) (by assumption) ?_
      rotate_left
      · intro w hSw; (try dsimp only at hSw); go_simp; try (with_reducible rfl)
      try simp only [Act.put, List.setIfInBounds_toArray, List.set_cons_zero, List.set_cons_succ]
      refine wpAnyH_take (i := 1) (oi := _) (v := ?_) (take_list rfl) (by kernel_rfl) (by kernel_rfl) (by kernel_rfl) (fun _ _ _ h => h) (Or.inl ⟨by rfl, ?_⟩) (by assumption) ?_
      rotate_left
      · intro w hSw; (try dsimp only at hSw); go_simp; try (with_reducible rfl)
      try simp only [Act.put, List.setIfInBounds_toArray, List.set_cons_zero, List.set_cons_succ]
      refine wpAnyH_take (i := 2) (oi := _) (v := ?_) (take_list rfl) (by kernel_rfl) (by kernel_rfl) (by kernel_rfl) (fun _ _ _ h => h) (Or.inl ⟨by rfl, ?_⟩) (by assumption) ?_
      rotate_left
      · intro w hSw; (try dsimp only at hSw); go_simp; try (with_reducible rfl)
      try simp only [Act.put, List.setIfInBounds_toArray, List.set_cons_zero, List.set_cons_succ]
      refine wpAnyH_take (i := 3) (oi := _) (v := ?_) (take_list rfl) (by kernel_rfl) (by kernel_rfl) (by kernel_rfl) (fun _ _ _ h => h) (Or.inl ⟨by rfl, ?_⟩) (by assumption) ?_
      rotate_left
      · intro w hSw; (try dsimp only at hSw); go_simp; try (with_reducible rfl)
      try simp only [Act.put, List.setIfInBounds_toArray, List.set_cons_zero, List.set_cons_succ]
      refine wpAnyH_take (i := 4) (oi := _) (v := ?_) (take_list rfl) (by kernel_rfl) (by kernel_rfl) (by kernel_rfl) (fun _ _ _ h => h) (Or.inl ⟨by rfl, ?_⟩) (by assumption) ?_
      rotate_left
      · intro w hSw; (try dsimp only at hSw); go_simp; try (with_reducible rfl)
      try simp only [Act.put, List.setIfInBounds_toArray, List.set_cons_zero, List.set_cons_succ]
      refine wpAnyH_take (i := 5) (oi := _) (v := ?_) (take_list rfl) (by kernel_rfl) (by kernel_rfl) (by kernel_rfl) (fun _ _ _ h => h) (Or.inl ⟨by rfl, ?_⟩) (by assumption) ?_
      rotate_left
      · intro w hSw; (try dsimp only at hSw); go_simp; try (with_reducible rfl)
      try simp only [Act.put, List.setIfInBounds_toArray, List.set_cons_zero, List.set_cons_succ]
      refine wpAnyH_ready (rs := [6]) (by kernel_rfl) (by simp) ?_
      refine AllReadyH.cons (take_list rfl) (fun K hK => ?_) ?_
      go_simp
      ((first
        | (go_at_call 57; refine hsec.out.mono ?_; rintro e w3 ⟨v3, rfl, hv3, hb3⟩; have hS3 := hS.out.pure (Below.of_drew hb3); have s3 : w3.cell? ⟨w.heap.size, 0, none⟩ = some (.pointer (some ⟨kb, 0, none⟩)) ∧ w3.cell? ⟨kb, 0, none⟩ = some (.pointer (some ⟨d, 0, none⟩)) ∧ w3.cell? ⟨w1.heap.size, 0, none⟩ = some (.int .i64 ((a0 : Int) + (k : Int))) := ⟨block_cell hS3.hB 0, (by have := block_cell hS3.hkb 0; rw [hkc.out] at this; exact this), block_cell hS3.hA 0⟩; have hw3 := hid (hwr.out w3 v3 hS3 hv3.1 (fun e => by have h8 : W2.heap.size ≤ d := hv3.2 d e; have := hdk.out.2; omega)); have hb3' := hid hb3; replace hS3 := hid hS3; clear hb3)
        | (go_at_call 56; refine hw3.out.mono ?_; rintro e w4 ⟨rfl, hS4, hD4, hL4⟩; have s4 : w4.cell? ⟨w.heap.size, 0, none⟩ = some (.pointer (some ⟨kb, 0, none⟩)) ∧ w4.cell? ⟨kb, 0, none⟩ = some (.pointer (some ⟨d, 0, none⟩)) ∧ w4.cell? ⟨w1.heap.size, 0, none⟩ = some (.int .i64 ((a0 : Int) + (k : Int))) := ⟨block_cell hS4.hB 0, (by have := block_cell hS4.hkb 0; rw [hkc.out] at this; exact this), block_cell hS4.hA 0⟩; replace hS4 := hid hS4; replace hD4 := hid hD4; replace hL4 := hid hL4)
        | (go_at_call 55; refine (show Calls Tryz.prog 55 #[.int .i64 22] w4 _ from kmust_bad 22 (by decide) w4).mono ?_; rintro e w5 ⟨rfl, hw5⟩; rw [hw5]; clear hw5)))
      go_wp2_with fail
      refine hK.out _ _ ?_ (fun hHeld1 => ?_)
      · try dsimp only
        (first | exact s4 | exact s3 | exact ⟨b0, q0, a9⟩)
      clear hK K hHeld0
      try simp only [Act.put, List.setIfInBounds_toArray, List.set_cons_zero, List.set_cons_succ]
      refine wpAnyH_ready (rs := [7]) (by kernel_rfl) (by simp) ?_
      refine AllReadyH.cons (take_list rfl) (fun K hK => ?_) ?_
      go_simp
      ((first
        | (go_at_call 57; refine hsec.out.mono ?_; rintro e w3 ⟨v3, rfl, hv3, hb3⟩; have hS3 := hS.out.pure (Below.of_drew hb3); have s3 : w3.cell? ⟨w.heap.size, 0, none⟩ = some (.pointer (some ⟨kb, 0, none⟩)) ∧ w3.cell? ⟨kb, 0, none⟩ = some (.pointer (some ⟨d, 0, none⟩)) ∧ w3.cell? ⟨w1.heap.size, 0, none⟩ = some (.int .i64 ((a0 : Int) + (k : Int))) := ⟨block_cell hS3.hB 0, (by have := block_cell hS3.hkb 0; rw [hkc.out] at this; exact this), block_cell hS3.hA 0⟩; have hw3 := hid (hwr.out w3 v3 hS3 hv3.1 (fun e => by have h8 : W2.heap.size ≤ d := hv3.2 d e; have := hdk.out.2; omega)); have hb3' := hid hb3; replace hS3 := hid hS3; clear hb3)
        | (go_at_call 56; refine hw3.out.mono ?_; rintro e w4 ⟨rfl, hS4, hD4, hL4⟩; have s4 : w4.cell? ⟨w.heap.size, 0, none⟩ = some (.pointer (some ⟨kb, 0, none⟩)) ∧ w4.cell? ⟨kb, 0, none⟩ = some (.pointer (some ⟨d, 0, none⟩)) ∧ w4.cell? ⟨w1.heap.size, 0, none⟩ = some (.int .i64 ((a0 : Int) + (k : Int))) := ⟨block_cell hS4.hB 0, (by have := block_cell hS4.hkb 0; rw [hkc.out] at this; exact this), block_cell hS4.hA 0⟩; replace hS4 := hid hS4; replace hD4 := hid hD4; replace hL4 := hid hL4)
        | (go_at_call 55; refine (show Calls Tryz.prog 55 #[.int .i64 22] w4 _ from kmust_bad 22 (by decide) w4).mono ?_; rintro e w5 ⟨rfl, hw5⟩; rw [hw5]; clear hw5)))
      go_wp2_with fail
      refine hK.out _ _ ?_ (fun hHeld2 => ?_)
      · try dsimp only
        (first | exact s4 | exact s3 | exact ⟨b0, q0, a9⟩)
      clear hK K hHeld1
      try simp only [Act.put, List.setIfInBounds_toArray, List.set_cons_zero, List.set_cons_succ]
      refine wpAnyH_ready (rs := [8]) (by kernel_rfl) (by simp) ?_
      refine AllReadyH.cons (take_list rfl) (fun K hK => ?_) ?_
      go_simp
      ((first
        | (go_at_call 57; refine hsec.out.mono ?_; rintro e w3 ⟨v3, rfl, hv3, hb3⟩; have hS3 := hS.out.pure (Below.of_drew hb3); have s3 : w3.cell? ⟨w.heap.size, 0, none⟩ = some (.pointer (some ⟨kb, 0, none⟩)) ∧ w3.cell? ⟨kb, 0, none⟩ = some (.pointer (some ⟨d, 0, none⟩)) ∧ w3.cell? ⟨w1.heap.size, 0, none⟩ = some (.int .i64 ((a0 : Int) + (k : Int))) := ⟨block_cell hS3.hB 0, (by have := block_cell hS3.hkb 0; rw [hkc.out] at this; exact this), block_cell hS3.hA 0⟩; have hw3 := hid (hwr.out w3 v3 hS3 hv3.1 (fun e => by have h8 : W2.heap.size ≤ d := hv3.2 d e; have := hdk.out.2; omega)); have hb3' := hid hb3; replace hS3 := hid hS3; clear hb3)
        | (go_at_call 56; refine hw3.out.mono ?_; rintro e w4 ⟨rfl, hS4, hD4, hL4⟩; have s4 : w4.cell? ⟨w.heap.size, 0, none⟩ = some (.pointer (some ⟨kb, 0, none⟩)) ∧ w4.cell? ⟨kb, 0, none⟩ = some (.pointer (some ⟨d, 0, none⟩)) ∧ w4.cell? ⟨w1.heap.size, 0, none⟩ = some (.int .i64 ((a0 : Int) + (k : Int))) := ⟨block_cell hS4.hB 0, (by have := block_cell hS4.hkb 0; rw [hkc.out] at this; exact this), block_cell hS4.hA 0⟩; replace hS4 := hid hS4; replace hD4 := hid hD4; replace hL4 := hid hL4)
        | (go_at_call 55; refine (show Calls Tryz.prog 55 #[.int .i64 22] w4 _ from kmust_bad 22 (by decide) w4).mono ?_; rintro e w5 ⟨rfl, hw5⟩; rw [hw5]; clear hw5)))
      go_wp2_with fail
      rotate_left
      exact AllReadyH.nil
      exact AllReadyH.nil
      exact AllReadyH.nil
      all_goals
        first
          | exact ⟨hD4.out.trans (hb3'.out.block _ (by have := hA4.out; show _ < W2.heap.size; omega)), rfl, rfl, _, _, hk.out.cut hok.out ha1.1 (by omega) (by omega) hw9 hcut.1, hS4.out⟩
          | trace_state
    · have hwr := hid (fun (w3 : World) (v3 : Value) (h3 : LayS w base d kb zs kc tv c o cp bb w.heap.size w1.heap.size ((a0 + k : Nat) : Int) sk w3) (hv3 : BytesAt w3 v3 (sectL (chunkL c k))) (hf : v3.ownBlock ≠ some d) => show Calls Tryz.prog 56 #[.pointer (some ⟨d, 0, none⟩), .int .i64 ((a0 : Int) + (k : Int)), v3] w3 fun e w4 => e = .returned (.int .i64 0) ∧ LayS w base d kb zs kc tv c o cp bb w.heap.size w1.heap.size ((a0 + k : Nat) : Int) (sk.tick.wrote (a0 + k) (sectL (chunkL c k))) w4 ∧ w4.heap[w1.heap.size + 3]? = w3.heap[w1.heap.size + 3]? ∧ w4.heap[w1.heap.size + 4]? = w3.heap[w1.heap.size + 4]? from by
        have h9 := kwrite_any h3.dk hokk.out hoffk.out (a0 + k) (by rw [hkept.out]; exact hi9) v3 _ hv3 hf (sectL_len _ (chunk_small c k))
        have e9 : sk.write (a0 + k) (sectL (chunkL c k)) = (sk.tick.wrote (a0 + k) (sectL (chunkL c k)), 0) := if_neg hcut
        rw [e9] at h9
        refine h9.mono ?_
        rintro e w4 ⟨rfl, hD4⟩
        exact ⟨rfl, h3.step hD4, hD4.2.keep _ (by simp [layZ]), hD4.2.keep _ (by simp [layZ])⟩)
      -- round
      refine wpIn_round_held (S := (fun X => X.cell? ⟨w.heap.size, 0, none⟩ = some (.pointer (some ⟨kb, 0, none⟩)) ∧ X.cell? ⟨kb, 0, none⟩ = some (.pointer (some ⟨d, 0, none⟩)) ∧ X.cell? ⟨w1.heap.size, 0, none⟩ = some (.int .i64 ((a0 : Int) + (k : Int))))) (by kernel_rfl) (by kernel_rfl) (by rintro ⟨_, _, h⟩; exact h) ?_ (fun hHeld0 => ?_)
      · try dsimp only
        (first | exact s4 | exact s3 | exact ⟨b0, q0, a9⟩)
      refine wpAnyH_take (i := 0) (oi := _) (v := ?_) (take_list rfl) (by kernel_rfl) (by kernel_rfl) (by kernel_rfl) (fun _ _ _ h => h) (Or.inl ⟨by rfl, ?_⟩) (by assumption) ?_
      rotate_left
      · intro w hSw; (try dsimp only at hSw); go_simp; try (with_reducible rfl)
      try simp only [Act.put, List.setIfInBounds_toArray, List.set_cons_zero, List.set_cons_succ]
      refine wpAnyH_take (i := 1) (oi := _) (v := ?_) (take_list rfl) (by kernel_rfl) (by kernel_rfl) (by kernel_rfl) (fun _ _ _ h => h) (Or.inl ⟨by rfl, ?_⟩) (by assumption) ?_
      rotate_left
      · intro w hSw; (try dsimp only at hSw); go_simp; try (with_reducible rfl)
      try simp only [Act.put, List.setIfInBounds_toArray, List.set_cons_zero, List.set_cons_succ]
      refine wpAnyH_take (i := 2) (oi := _) (v := ?_) (take_list rfl) (by kernel_rfl) (by kernel_rfl) (by kernel_rfl) (fun _ _ _ h => h) (Or.inl ⟨by rfl, ?_⟩) (by assumption) ?_
      rotate_left
      · intro w hSw; (try dsimp only at hSw); go_simp; try (with_reducible rfl)
      try simp only [Act.put, List.setIfInBounds_toArray, List.set_cons_zero, List.set_cons_succ]
      refine wpAnyH_take (i := 3) (oi := _) (v := ?_) (take_list rfl) (by kernel_rfl) (by kernel_rfl) (by kernel_rfl) (fun _ _ _ h => h) (Or.inl ⟨by rfl, ?_⟩) (by assumption) ?_
      rotate_left
      · intro w hSw; (try dsimp only at hSw); go_simp; try (with_reducible rfl)
      try simp only [Act.put, List.setIfInBounds_toArray, List.set_cons_zero, List.set_cons_succ]
      refine wpAnyH_take (i := 4) (oi := _) (v := ?_) (take_list rfl) (by kernel_rfl) (by kernel_rfl) (by kernel_rfl) (fun _ _ _ h => h) (Or.inl ⟨by rfl, ?_⟩) (by assumption) ?_
      rotate_left
      · intro w hSw; (try dsimp only at hSw); go_simp; try (with_reducible rfl)
      try simp only [Act.put, List.setIfInBounds_toArray, List.set_cons_zero, List.set_cons_succ]
      refine wpAnyH_take (i := 5) (oi := _) (v := ?_) (take_list rfl) (by kernel_rfl) (by kernel_rfl) (by kernel_rfl) (fun _ _ _ h => h) (Or.inl ⟨by rfl, ?_⟩) (by assumption) ?_
      rotate_left
      · intro w hSw; (try dsimp only at hSw); go_simp; try (with_reducible rfl)
      try simp only [Act.put, List.setIfInBounds_toArray, List.set_cons_zero, List.set_cons_succ]
      refine wpAnyH_ready (rs := [6]) (by kernel_rfl) (by simp) ?_
      refine AllReadyH.cons (take_list rfl) (fun K hK => ?_) ?_
      go_simp
      ((first
        | (go_at_call 57; refine hsec.out.mono ?_; rintro e w3 ⟨v3, rfl, hv3, hb3⟩; have hS3 := hS.out.pure (Below.of_drew hb3); have s3 : w3.cell? ⟨w.heap.size, 0, none⟩ = some (.pointer (some ⟨kb, 0, none⟩)) ∧ w3.cell? ⟨kb, 0, none⟩ = some (.pointer (some ⟨d, 0, none⟩)) ∧ w3.cell? ⟨w1.heap.size, 0, none⟩ = some (.int .i64 ((a0 : Int) + (k : Int))) := ⟨block_cell hS3.hB 0, (by have := block_cell hS3.hkb 0; rw [hkc.out] at this; exact this), block_cell hS3.hA 0⟩; have hw3 := hid (hwr.out w3 v3 hS3 hv3.1 (fun e => by have h8 : W2.heap.size ≤ d := hv3.2 d e; have := hdk.out.2; omega)); have hb3' := hid hb3; replace hS3 := hid hS3; clear hb3)
        | (go_at_call 56; refine hw3.out.mono ?_; rintro e w4 ⟨rfl, hS4, hD4, hL4⟩; have s4 : w4.cell? ⟨w.heap.size, 0, none⟩ = some (.pointer (some ⟨kb, 0, none⟩)) ∧ w4.cell? ⟨kb, 0, none⟩ = some (.pointer (some ⟨d, 0, none⟩)) ∧ w4.cell? ⟨w1.heap.size, 0, none⟩ = some (.int .i64 ((a0 : Int) + (k : Int))) := ⟨block_cell hS4.hB 0, (by have := block_cell hS4.hkb 0; rw [hkc.out] at this; exact this), block_cell hS4.hA 0⟩; replace hS4 := hid hS4; replace hD4 := hid hD4; replace hL4 := hid hL4)
        | (go_at_call 55; refine (kmust_ok w4).mono ?_; rintro e w5 ⟨rfl, hw5⟩; rw [hw5]; clear hw5)))
      go_wp2_with fail
      refine hK.out _ _ ?_ (fun hHeld1 => ?_)
      · try dsimp only
        (first | exact s4 | exact s3 | exact ⟨b0, q0, a9⟩)
      clear hK K hHeld0
      try simp only [Act.put, List.setIfInBounds_toArray, List.set_cons_zero, List.set_cons_succ]
      refine wpAnyH_ready (rs := [7]) (by kernel_rfl) (by simp) ?_
      refine AllReadyH.cons (take_list rfl) (fun K hK => ?_) ?_
      go_simp
      ((first
        | (go_at_call 57; refine hsec.out.mono ?_; rintro e w3 ⟨v3, rfl, hv3, hb3⟩; have hS3 := hS.out.pure (Below.of_drew hb3); have s3 : w3.cell? ⟨w.heap.size, 0, none⟩ = some (.pointer (some ⟨kb, 0, none⟩)) ∧ w3.cell? ⟨kb, 0, none⟩ = some (.pointer (some ⟨d, 0, none⟩)) ∧ w3.cell? ⟨w1.heap.size, 0, none⟩ = some (.int .i64 ((a0 : Int) + (k : Int))) := ⟨block_cell hS3.hB 0, (by have := block_cell hS3.hkb 0; rw [hkc.out] at this; exact this), block_cell hS3.hA 0⟩; have hw3 := hid (hwr.out w3 v3 hS3 hv3.1 (fun e => by have h8 : W2.heap.size ≤ d := hv3.2 d e; have := hdk.out.2; omega)); have hb3' := hid hb3; replace hS3 := hid hS3; clear hb3)
        | (go_at_call 56; refine hw3.out.mono ?_; rintro e w4 ⟨rfl, hS4, hD4, hL4⟩; have s4 : w4.cell? ⟨w.heap.size, 0, none⟩ = some (.pointer (some ⟨kb, 0, none⟩)) ∧ w4.cell? ⟨kb, 0, none⟩ = some (.pointer (some ⟨d, 0, none⟩)) ∧ w4.cell? ⟨w1.heap.size, 0, none⟩ = some (.int .i64 ((a0 : Int) + (k : Int))) := ⟨block_cell hS4.hB 0, (by have := block_cell hS4.hkb 0; rw [hkc.out] at this; exact this), block_cell hS4.hA 0⟩; replace hS4 := hid hS4; replace hD4 := hid hD4; replace hL4 := hid hL4)
        | (go_at_call 55; refine (kmust_ok w4).mono ?_; rintro e w5 ⟨rfl, hw5⟩; rw [hw5]; clear hw5)))
      go_wp2_with fail
      refine hK.out _ _ ?_ (fun hHeld2 => ?_)
      · try dsimp only
        (first | exact s4 | exact s3 | exact ⟨b0, q0, a9⟩)
      clear hK K hHeld1
      try simp only [Act.put, List.setIfInBounds_toArray, List.set_cons_zero, List.set_cons_succ]
      refine wpAnyH_ready (rs := [8]) (by kernel_rfl) (by simp) ?_
      refine AllReadyH.cons (take_list rfl) (fun K hK => ?_) ?_
      go_simp
      ((first
        | (go_at_call 57; refine hsec.out.mono ?_; rintro e w3 ⟨v3, rfl, hv3, hb3⟩; have hS3 := hS.out.pure (Below.of_drew hb3); have s3 : w3.cell? ⟨w.heap.size, 0, none⟩ = some (.pointer (some ⟨kb, 0, none⟩)) ∧ w3.cell? ⟨kb, 0, none⟩ = some (.pointer (some ⟨d, 0, none⟩)) ∧ w3.cell? ⟨w1.heap.size, 0, none⟩ = some (.int .i64 ((a0 : Int) + (k : Int))) := ⟨block_cell hS3.hB 0, (by have := block_cell hS3.hkb 0; rw [hkc.out] at this; exact this), block_cell hS3.hA 0⟩; have hw3 := hid (hwr.out w3 v3 hS3 hv3.1 (fun e => by have h8 : W2.heap.size ≤ d := hv3.2 d e; have := hdk.out.2; omega)); have hb3' := hid hb3; replace hS3 := hid hS3; clear hb3)
        | (go_at_call 56; refine hw3.out.mono ?_; rintro e w4 ⟨rfl, hS4, hD4, hL4⟩; have s4 : w4.cell? ⟨w.heap.size, 0, none⟩ = some (.pointer (some ⟨kb, 0, none⟩)) ∧ w4.cell? ⟨kb, 0, none⟩ = some (.pointer (some ⟨d, 0, none⟩)) ∧ w4.cell? ⟨w1.heap.size, 0, none⟩ = some (.int .i64 ((a0 : Int) + (k : Int))) := ⟨block_cell hS4.hB 0, (by have := block_cell hS4.hkb 0; rw [hkc.out] at this; exact this), block_cell hS4.hA 0⟩; replace hS4 := hid hS4; replace hD4 := hid hD4; replace hL4 := hid hL4)
        | (go_at_call 55; refine (kmust_ok w4).mono ?_; rintro e w5 ⟨rfl, hw5⟩; rw [hw5]; clear hw5)))
      go_wp2_with fail
      refine hK.out _ _ ?_ (fun hHeld3 => ?_)
      · try dsimp only
        (first | exact s4 | exact s3 | exact ⟨b0, q0, a9⟩)
      clear hK K hHeld2
      try simp only [Act.put, List.setIfInBounds_toArray, List.set_cons_zero, List.set_cons_succ]
      refine wpAnyH_done (by kernel_rfl) ?_ _
      rotate_left
      exact AllReadyH.nil
      exact AllReadyH.nil
      exact AllReadyH.nil
      all_goals
        have a4 := s4.2.2
        have f4 : w4.frozen? ⟨w1.heap.size, 0, none⟩ = false := block_free hS4.out.hA 0
        gi_wp2
        have hne : w1.heap.size + 3 ≠ w1.heap.size := by omega
        have hne2 : w1.heap.size + 4 ≠ w1.heap.size := by omega
        have hz2 : w1.heap.size + 4 < W2.drew.heap.size := hA4.out
        exact ⟨(block_set_other hne).trans (hD4.out.trans (hb3'.out.block _ (by omega))), (block_set_other hne2).trans (hL4.out.trans (hb3'.out.block _ hz2)), _, hk.out.next hcut, hS4.out.put ((a0 + (k + 1) : Nat) : Int)⟩
end Go.Proofs.YtcmajcljafmphaaGreat
