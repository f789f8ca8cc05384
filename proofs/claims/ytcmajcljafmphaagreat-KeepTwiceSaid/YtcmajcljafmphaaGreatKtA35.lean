/- slices.Equal of nodes, the program's Same. Conditions: at most a thousand nodes. And the texts behind it. -/
import Derived.Test.YtcmajcljafmphaaGreatKtA34
import Derived.Test.YtcmajcljafmphaaGreatKtA23
import Derived.Test.YtcmajcljafmphaaGreatKtA25
import Derived.Test.YtcmajcljafmphaaGreatKtA30
import Derived.Test.YtcmajcljafmphaaGreatKtA33
import Derived.Test.YtcmajcljafmphaaGreatKtA08
import Derived.Test.YtcmajcljafmphaaGreatKtA22
namespace Go.Proofs.YtcmajcljafmphaaGreat
section
open Go.RowKit
set_option maxRecDepth 100000
set_option linter.unusedVariables false

theorem eqL_len {l m : List Nod} (h : l.length ≠ m.length) : eqL l m = false := by
  cases he : eqL l m with
  | false => rfl
  | true => rw [eqL_iff.1 he] at h; exact absurd rfl h
set_option maxHeartbeats 3200000 in
theorem nequal_any (v u : Value) (l m : List Nod) (w : World) (hv : NodsAt w v l) (hu : NodsAt w u m) (hl : l.length ≤ 1000) (hm : m.length ≤ 1000) :
    Calls Tryz.prog 39 #[v, u] w fun e w' => e = .returned (.bool (eqL l m)) ∧ Below w.heap.size w w' := by
  obtain ⟨a, c, rfl, g1, g2⟩ := hv.form
  obtain ⟨a2, c2, rfl, g3, g4⟩ := hu.form
  unfold maxLen at g2 g4
  have mixed : Tryz.prog.follows Departure.mixedOrders = true := by first | kernel_rfl | decide
  replace hv := hid hv
  replace hu := hid hu
  have k2 : ((l.length : Int) != (m.length : Int)) = !decide (l.length = m.length) := by rw [Bool.eq_iff_iff]; simp; omega
  go_enter Tryz.func39, Tryz.ntmps39
  by_cases hlm : l.length = m.length
  case neg =>
    rw [decide_eq_false hlm] at k2
    have hE := hid (eqL_len hlm)
    replace hlm := hid hlm
    go_wp2_with fail
    go_ret
    exact ⟨by rw [hE.out]; rfl, Below.refl _ _⟩
  rw [decide_eq_true hlm] at k2
  replace hlm := hid hlm
  go_wp2_with fail
  go_loopw [13] (fun kv wr => Hid (Below w.heap.size w wr) ∧ ∃ k : Nat, k ≤ l.length ∧ kv = .int .i64 (k : Int) ∧ Hid (eqL l m = eqL (l.drop k) (m.drop k))) (fun kv _ => l.length - (intOf kv).toNat)
  case atStart => exact ⟨hid (Below.refl _ _), 0, by omega, rfl, hid rfl⟩
  case round =>
    obtain ⟨hB, k, hk, rfl, hF⟩ := hrel
    by_cases hkl : k < l.length
    · have hkm : k < m.length := by have := hlm.out; omega
      obtain ⟨b, o, ha, hr⟩ := (hv.out.below hB.out).range k hkl
      obtain ⟨b2, o2, ha2, hr2⟩ := (hu.out.below hB.out).range k hkm
      subst ha ha2
      have hst := hid (hF.out.trans (eqL_step hkl hkm))
      generalize l[k] = n at *
      generalize m[k] = p at *
      replace hr := hid hr
      replace hr2 := hid hr2
      have i1 : (k : Int) < (l.length : Int) := by omega
      obtain ⟨bE, hbE⟩ : ∃ b, b = !eqN n p := ⟨_, rfl⟩
      replace hbE := hid hbE
      go_wp2_with fail
      go_cut [24] (fun s wx => s = .bool bE ∧ Hid (wx = wr.drew))
      case first => as_aux_lemma =>
        rename_i J K' hJ hK
        refine wp_region_noPanic ?_
        refine wp_region_held (S := (fun w' => w' = wr.drew)) mixed ?_
        refine (show wpAnyH Tryz.prog .any ops_eq6 _ _ _ _ _ _ → _ from fun h => h) ?_
        refine eq6_all (w1 := wr.drew) (n := n) (p := p) hl hm hkl hkm hr.out hr2.out (fun _ _ _ _ _ h => h) (FrL.of_all (by rfl) rfl ⟨rfl, rfl, rfl, rfl, rfl, rfl, rfl, rfl, rfl, rfl, rfl, rfl, rfl, rfl, trivial⟩) rfl (fun a w' hF hS => ?_)
        rw [← hbE.out] at hF
        exact hK _ _ (Met.intro (hJ _ _ ⟨a.tmps.getD 14 undef, a.tmps.getD 15 undef, a.tmps.getD 16 undef, a.tmps.getD 17 undef, a.tmps.getD 18 undef, a.tmps.getD 19 undef, a.tmps.getD 20 undef, a.tmps.getD 21 undef, a.tmps.getD 22 undef, a.tmps.getD 23 undef, .bool bE, a.tmps.getD 25 undef, ⟨rfl, hid hS⟩, frame_eq hF _ (by rfl) ⟨hF.get 0 _ rfl, hF.get 1 _ rfl, hF.get 2 _ rfl, hF.get 3 _ rfl, hF.get 4 _ rfl, hF.get 5 _ rfl, hF.get 6 _ rfl, hF.get 7 _ rfl, hF.get 8 _ rfl, hF.get 9 _ rfl, hF.get 10 _ rfl, hF.get 11 _ rfl, hF.get 12 _ rfl, hF.get 13 _ rfl, hF.any 14 (by decide), hF.any 15 (by decide), hF.any 16 (by decide), hF.any 17 (by decide), hF.any 18 (by decide), hF.any 19 (by decide), hF.any 20 (by decide), hF.any 21 (by decide), hF.any 22 (by decide), hF.any 23 (by decide), hF.get 24 _ rfl, hF.any 25 (by decide), trivial⟩⟩))
      case rest =>
        obtain ⟨rfl, hw⟩ := hcut
        have hBd := hid (show Below w.heap.size w wc by rw [hw.out]; exact hB.out.drew)
        cases bE with
        | true =>
          have hR := hid (show eqL l m = false by rw [hst.out, show eqN n p = _ from (Bool.not_eq_eq_eq_not.1 hbE.out.symm)]; rfl)
          go_wp2_with fail
          go_ret
          exact ⟨by rw [hR.out]; rfl, hBd.out⟩
        | false =>
          have hR := hid (show eqL l m = eqL (l.drop (k + 1)) (m.drop (k + 1)) by rw [hst.out, show eqN n p = _ from (Bool.not_eq_eq_eq_not.1 hbE.out.symm)]; rfl)
          go_wp2_with fail
          go_roundw
          case rel => exact ⟨hBd, k + 1, by omega, by go_num, hR⟩
          case measure => simp [intOf]; omega
    · obtain rfl : k = l.length := by omega
      have hR := hid (show eqL l m = true by rw [hF.out, List.drop_of_length_le (Nat.le_refl _), List.drop_of_length_le (by have := hlm.out; omega)]; rfl)
      go_wp2_with fail
      go_ret
      exact ⟨by rw [hR.out]; rfl, hB.out⟩
end
end Go.Proofs.YtcmajcljafmphaaGreat

namespace Go.Proofs.YtcmajcljafmphaaGreat
section
open Go.RowKit
set_option maxRecDepth 100000
set_option linter.unusedVariables false

set_option maxHeartbeats 3200000 in
theorem nsame_any (v u : Value) (x y : Nat) (l m : List Nod) (w : World) (hv : NodsAt w v l) (hu : NodsAt w u m) (hl : l.length ≤ 1000) (hm : m.length ≤ 1000) :
    Calls Tryz.prog 18 #[.agg #[.int .u64 (x : Int), v], .agg #[.int .u64 (y : Int), u]] w fun e w' => e = .returned (.bool (decide (x = y) && eqL l m)) ∧ Below w.heap.size w w' := by
  obtain ⟨a, c, rfl, g1, g2⟩ := hv.form
  obtain ⟨a2, c2, rfl, g3, g4⟩ := hu.form
  unfold maxLen at g2 g4
  obtain ⟨W, hW⟩ : ∃ W, W = (w.alloc (.cells #[.int .u64 (x : Int), .slice a l.length c] 33)).alloc (.cells #[.int .u64 (y : Int), .slice a2 m.length c2] 33) := ⟨_, rfl⟩
  have hb0 : Below w.heap.size w W := by rw [hW]; exact ((Below.refl w.heap.size w).alloc (Nat.le_refl _) _).alloc (by simp) _
  have hx0 : W.heap[w.heap.size]? = some (.cells #[.int .u64 (x : Int), .slice a l.length c] 33 (0, 0)) := by rw [hW, heap_alloc_old _ _ (by simp), heap_alloc_new]
  have hy0 : W.heap[w.heap.size + 1]? = some (.cells #[.int .u64 (y : Int), .slice a2 m.length c2] 33 (0, 0)) := by rw [hW]; exact heap2 _ _ _
  have e0 := block_cell hx0 0
  have e1 := block_cell hx0 1
  have e2 := block_cell hy0 0
  have e3 := block_cell hy0 1
  have heq := hid (nequal_any _ _ l m W (hv.below hb0) (hu.below hb0) hl hm)
  replace hv := hid hv
  replace hu := hid hu
  replace hb0 := hid hb0
  clear hx0 hy0
  have k1 : ((x : Int) == (y : Int)) = decide (x = y) := dec_int _ _
  go_enter Tryz.func18, Tryz.ntmps18
  rcases hxy : decide (x = y) with _ | _
  · rw [hxy] at k1
    replace hxy := hid hxy
    go_wp2_with (rw [← hW]; replace hW := hid hW)
    go_ret
    exact ⟨rfl, hb0.out⟩
  · rw [hxy] at k1
    replace hxy := hid hxy
    go_wp2_with (rw [← hW]; replace hW := hid hW)
    refine heq.out.mono ?_
    rintro e w2 ⟨rfl, hb2⟩
    have hB2 := hid (sn hb0.out hb2)
    obtain ⟨bE, hbE⟩ : ∃ b, b = eqL l m := ⟨_, rfl⟩
    rw [← hbE]
    replace hbE := hid hbE
    clear hb2 heq e0 e1 e2 e3
    go_wp2_with fail
    go_ret
    exact ⟨by simp; exact hbE.out, hB2.out⟩
end
end Go.Proofs.YtcmajcljafmphaaGreat

namespace Go.Proofs.YtcmajcljafmphaaGreat
section
open Go.RowKit
set_option maxRecDepth 100000
set_option linter.unusedVariables false

theorem flat_take {α β : Type} (L : List α) (f : α → List β) (j : Nat) : ((L.take j).flatMap f).length ≤ (L.flatMap f).length := by
  conv => rhs; rw [← List.take_append_drop j L, List.flatMap_append, List.length_append]
  omega
set_option maxHeartbeats 6400000 in
theorem nencode_new (v : Value) (x : Nat) (l : List Nod) (w : World) (hv : NodsAt w v l) (hl : l.length ≤ 900) (hx : x < 18446744073709551616) (hok : ∀ n ∈ l, NodOk n) (hds : ∀ n ∈ l, (encN n).length ≤ 100000) :
    Calls Tryz.prog 54 #[.agg #[.int .u64 (x : Int), v]] w (RetNew w (encT x l)) := by
  obtain ⟨a, c, rfl, g1, g2⟩ := hv.form
  unfold maxLen at g2
  obtain ⟨W, hW⟩ : ∃ W, W = (w.alloc (.cells #[.int .u64 (x : Int), .slice a l.length c] 33)).alloc (.cells #[.slice none 0 0] 102) := ⟨_, rfl⟩
  have hb0 : Below w.heap.size w W := by rw [hW]; exact ((Below.refl w.heap.size w).alloc (Nat.le_refl _) _).alloc (by simp) _
  have hO : OutIs W (w.heap.size + 1) [] := ⟨.slice none 0 0, 102, by rw [hW]; exact heap2 _ _ _, World.ownsRow_nil _ _ _ _⟩
  have hX : KeptB W (w.heap.size + 1) w.heap.size (.cells #[.int .u64 (x : Int), .slice a l.length c] 33 (0, 0)) := by
    refine ⟨by rw [hW, heap_alloc_old _ _ (by simp), heap_alloc_new], ?_⟩
    rintro (h | ⟨u, h1, h2⟩)
    · omega
    · have : W.cell? ⟨w.heap.size + 1, 0, none⟩ = some (.slice none 0 0) := by
        have hh : W.heap[w.heap.size + 1]? = some (.cells #[.slice none 0 0] 102 (0, 0)) := by rw [hW]; exact heap2 _ _ _
        exact block_cell hh 0
      rw [this] at h1
      cases h1
      cases h2
  have hS := hid (show EnS w w.heap.size (w.heap.size + 1) x (.slice a l.length c) l [] W from ⟨hb0, hX, hv, hO, by omega, hb0.size⟩)
  have e0 := block_cell hX.1 0
  have e1 := block_cell hX.1 1
  have hp := hid (put_step (w.heap.size + 1) [] 8 x W hx (by omega) (by omega) (by simp) hO)
  have hlz := hid hl
  replace hok := hid hok
  replace hds := hid hds
  clear hO hX hb0 hv
  go_enter Tryz.func54, Tryz.ntmps54
  go_wp2_with (rw [← hW]; replace hW := hid hW)
  refine hp.out.mono ?_
  rintro e w2 ⟨rfl, ho, hs⟩
  have hS2 := hid (hS.out.step hs ho)
  clear hp ho hs hS e0 e1
  have e1 := block_cell hS2.out.box.1 1
  have cv : IntKind.u64.wrap ((l.length : Nat) : Int) = ((l.length : Nat) : Int) := IntWalk.u64_in _ (by omega)
  have hp := hid (put_step (w.heap.size + 1) _ 4 l.length w2 (by omega) (by omega) (by omega) (by simp [numBytes_length]) hS2.out.out)
  go_wp2_with fail
  refine hp.out.mono ?_
  rintro e w3 ⟨rfl, ho, hs⟩
  have hS3 := hid (hS2.out.step hs ho)
  clear hp ho hs hS2 e1 cv
  have e1 := block_cell hS3.out.box.1 1
  go_wp2_with fail
  go_loopw [22] (fun kv wr => ∃ k : Nat, k ≤ l.length ∧ kv = .int .i64 (k : Int) ∧ Hid (EnS w w.heap.size (w.heap.size + 1) x (.slice a l.length c) l (numBytes x 8 ++ numBytes l.length 4 ++ (l.take k).flatMap encN) wr)) (fun kv _ => l.length - (intOf kv).toNat)
  case atStart => exact ⟨0, by omega, rfl, hid (by simpa using hS3.out)⟩
  case round =>
    clear hS3 e1
    obtain ⟨k, hk, rfl, hS⟩ := hrel
    by_cases hkl : k < l.length
    · obtain ⟨b, o, ha, hr⟩ := hS.out.rows.range k hkl
      subst ha
      obtain ⟨n, hn⟩ : ∃ n, n = l[k] := ⟨_, rfl⟩
      rw [← hn] at hr
      have hmem : n ∈ l := by rw [hn]; exact List.getElem_mem hkl
      have hno := hid (hok.out n hmem)
      have hst := hid (show (l.take (k + 1)).flatMap encN = (l.take k).flatMap encN ++ encN n by rw [List.take_succ_eq_append_getElem hkl, List.flatMap_append, ← hn]; simp)
      have hpl := enc_flat (l := l.take k) (fun m hm => hds.out m (List.mem_of_mem_take hm))
      rw [List.length_take] at hpl
      have hnl := hid (hds.out n hmem)
      obtain ⟨pre, hpre⟩ : ∃ pre, pre = numBytes x 8 ++ numBytes l.length 4 ++ (l.take k).flatMap encN := ⟨_, rfl⟩
      rw [← hpre] at hS
      have hprl : pre.length ≤ 90000012 := by rw [hpre]; simp only [List.length_append, numBytes_length]; omega
      replace hpre := hid hpre
      replace hn := hid hn
      replace hr := hid hr
      have i1 : (0 : Int) ≤ (k : Int) := by omega
      have i2 : (k : Int) < (l.length : Int) := by omega
      have hnew := hid (heap_alloc_new wr (.cells zeroNod.cells 68))
      obtain ⟨V, hV⟩ : ∃ V, V = boxN wr n := ⟨_, rfl⟩
      have hbV : Below wr.heap.size wr V := by rw [hV]; exact boxN_below _ _
      have hZ := hid (kept_new hS.out.out hbV (Nat.le_refl _) (show V.heap[wr.heap.size]? = some (.cells n.cells 68 (0, 0)) by rw [hV]; exact boxN_heap _ _))
      have hS1 := hid (hS.out.next hbV)
      unfold boxN at hV
      rw [zeroNod_cells] at hV hnew
      have p0 : V.cell? ⟨wr.heap.size, 0, none⟩ = some (.int .u64 (n.path : Int)) := block_cell hZ.out.1 0
      have hp := hid (put_step (w.heap.size + 1) pre 8 n.path V hno.out.path (by omega) (by omega) (by omega) hS1.out.out)
      clear hbV hS hpl hmem
      go_wp2_with (first
        | (rw [← hV]; replace hV := hid hV)
        | (refine wpList_load_cells (by rfl) 68 (.tmp 24) (by rfl) b (o + k * 12) (by rfl) n.cells _ hr.out Tryz.underlying68 (by rfl) (by kernel_rfl) ?_)
        | (refine wpList_store_row (by rfl) 68 (.tmp 5) (.tmp 25) (by rfl) wr.heap.size n.cells (by rfl) (by rfl) 68 _ hnew.out (by kernel_rfl) (by kernel_rfl) (nod_one n) ?_))
      refine hp.out.mono ?_
      rintro e w2 ⟨rfl, ho, hs⟩
      have hS2 := hid (hS1.out.step hs ho)
      have hZ2 := hid (hZ.out.step hs)
      clear hp ho hs hS1 hZ p0 hnew i1 i2
      generalize wr.heap.size = z at *
      have p1 : w2.cell? ⟨z, 1, none⟩ = some (.int .u32 (n.vers : Int)) := block_cell hZ2.out.1 1
      have p2 : w2.cell? ⟨z, 2, none⟩ = some (.int .u32 (n.mode : Int)) := block_cell hZ2.out.1 2
      have p3 : w2.cell? ⟨z, 3, none⟩ = some (.int .u32 (n.atm : Int)) := block_cell hZ2.out.1 3
      have p4 : w2.cell? ⟨z, 4, none⟩ = some (.int .u32 (n.mtm : Int)) := block_cell hZ2.out.1 4
      obtain ⟨U, hU⟩ : ∃ U, U = w2.alloc (.cells #[.int .u32 (n.vers : Int), .int .u32 (n.mode : Int), .int .u32 (n.atm : Int), .int .u32 (n.mtm : Int)] 35) := ⟨_, rfl⟩
      have hbU : Below w2.heap.size w2 U := by rw [hU]; exact (Below.refl _ _).alloc (Nat.le_refl _) _
      have hQ := hid (kept_new hS2.out.out hbU (Nat.le_refl _) (show U.heap[w2.heap.size]? = some (.cells #[.int .u32 (n.vers : Int), .int .u32 (n.mode : Int), .int .u32 (n.atm : Int), .int .u32 (n.mtm : Int)] 35 (0, 0)) by rw [hU, heap_alloc_new]))
      have hZ3 := hid (hZ2.out.next hS2.out.out hbU)
      have hS3 := hid (hS2.out.next hbU)
      clear hbU hS2 hZ2
      go_wp2_with (rw [← hU]; replace hU := hid hU)
      generalize w2.heap.size = q at *
      go_loopw [39] (fun kv wr => ∃ j : Nat, j ≤ 4 ∧ kv = .int .i64 (j : Int) ∧ Hid (EnS w w.heap.size (w.heap.size + 1) x (.slice (some ⟨b, o, none⟩) l.length c) l (pre ++ numBytes n.path 8 ++ ([n.vers, n.mode, n.atm, n.mtm].take j).flatMap (fun u => numBytes u 4)) wr) ∧ Hid (KeptB wr (w.heap.size + 1) z (.cells n.cells 68 (0, 0))) ∧ Hid (KeptB wr (w.heap.size + 1) q (.cells #[.int .u32 (n.vers : Int), .int .u32 (n.mode : Int), .int .u32 (n.atm : Int), .int .u32 (n.mtm : Int)] 35 (0, 0)))) (fun kv _ => 4 - (intOf kv).toNat)
      case atStart => exact ⟨0, by omega, rfl, hid (by simpa using hS3.out), hZ3, hQ⟩
      case round =>
        clear hS3 hZ3 hQ p1 p2 p3 p4
        obtain ⟨j, hj, rfl, hS, hZ, hQ⟩ := hrel
        by_cases hj4 : j < 4
        · obtain ⟨u, hu, hu32, hcu⟩ : ∃ u, [n.vers, n.mode, n.atm, n.mtm][j]? = some u ∧ u < 4294967296 ∧ wr.cell? ⟨q, j, none⟩ = some (.int .u32 (u : Int)) := by
            have hb := fun i => block_cell hQ.out.1 i
            match j, hj4 with
            | 0, _ => exact ⟨n.vers, rfl, hno.out.vers, hb 0⟩
            | 1, _ => exact ⟨n.mode, rfl, hno.out.mode, hb 1⟩
            | 2, _ => exact ⟨n.atm, rfl, hno.out.atm, hb 2⟩
            | 3, _ => exact ⟨n.mtm, rfl, hno.out.mtm, hb 3⟩
          have i1 : (0 : Int) ≤ (j : Int) := by omega
          have i2 : (j : Int) < 4 := by omega
          have cv : IntKind.u64.wrap ((u : Nat) : Int) = ((u : Nat) : Int) := IntWalk.u64_in _ (by omega)
          have htl := hid (show ([n.vers, n.mode, n.atm, n.mtm].take (j + 1)).flatMap (fun u => numBytes u 4) = ([n.vers, n.mode, n.atm, n.mtm].take j).flatMap (fun u => numBytes u 4) ++ numBytes u 4 by
            have hl4 : j < [n.vers, n.mode, n.atm, n.mtm].length := hj4
            rw [List.take_succ_eq_append_getElem hl4, List.flatMap_append]
            have : [n.vers, n.mode, n.atm, n.mtm][j] = u := by
              rw [List.getElem?_eq_getElem hl4] at hu; exact Option.some.inj hu
            rw [this]; simp)
          obtain ⟨ys, hys⟩ : ∃ ys, ys = pre ++ numBytes n.path 8 ++ ([n.vers, n.mode, n.atm, n.mtm].take j).flatMap (fun u => numBytes u 4) := ⟨_, rfl⟩
          rw [← hys] at hS
          have hyl : ys.length ≤ 90000100 := by
            rw [hys]
            have h1 : (([n.vers, n.mode, n.atm, n.mtm].take j).flatMap (fun u => numBytes u 4)).length = ([n.vers, n.mode, n.atm, n.mtm].take j).length * 4 := by
              generalize [n.vers, n.mode, n.atm, n.mtm].take j = L
              induction L with
              | nil => rfl
              | cons a L ih => rw [List.flatMap_cons, List.length_append, ih, numBytes_length, List.length_cons]; omega
            have h2 : ([n.vers, n.mode, n.atm, n.mtm].take j).length ≤ 4 := by rw [List.length_take]; omega
            simp only [List.length_append, numBytes_length, h1]
            omega
          have hp := hid (put_step (w.heap.size + 1) ys 4 u wr (by omega) (by omega) (by omega) (by omega) hS.out.out)
          replace hys := hid hys
          replace hu := hid hu
          go_wp2_with fail
          refine hp.out.mono ?_
          rintro e w3 ⟨rfl, ho, hs⟩
          have hS2 := hid (hS.out.step hs ho)
          have hZ2 := hid (hZ.out.step hs)
          have hQ2 := hid (hQ.out.step hs)
          clear hp ho hs hS hZ hQ hcu i1 i2 cv
          go_wp2_with fail
          go_roundw
          case rel => exact ⟨j + 1, by omega, by go_num, hid (by rw [htl.out, ← List.append_assoc, ← hys.out]; exact hS2.out), hZ2, hQ2⟩
          case measure => simp [intOf]; omega
        · obtain rfl : j = 4 := by omega
          obtain ⟨ys, hys⟩ : ∃ ys, ys = pre ++ numBytes n.path 8 ++ ([n.vers, n.mode, n.atm, n.mtm].take 4).flatMap (fun u => numBytes u 4) := ⟨_, rfl⟩
          rw [← hys] at hS
          have hyl : ys.length ≤ 90000100 := by
            rw [hys]
            simp [numBytes_length]
            omega
          have p9 : wr.cell? ⟨z, 9, none⟩ = some (.int .u64 (n.up : Int)) := block_cell hZ.out.1 9
          have hp := hid (put_step (w.heap.size + 1) ys 8 n.up wr hno.out.up (by omega) (by omega) (by omega) hS.out.out)
          replace hys := hid hys
          go_wp2_with fail
          refine hp.out.mono ?_
          rintro e w3 ⟨rfl, ho, hs⟩
          have hS2 := hid (hS.out.step hs ho)
          have hZ2 := hid (hZ.out.step hs)
          clear hp ho hs hS hZ hQ p9
          have p10 : w3.cell? ⟨z, 10, none⟩ = some (.bool n.gone) := block_cell hZ2.out.1 10
          have hp := hid (put_step (w.heap.size + 1) (ys ++ numBytes n.up 8) 1 (goneN1 n) w3 (by unfold goneN1; split <;> omega) (by omega) (by omega) (by rw [List.length_append, numBytes_length]; omega) hS2.out.out)
          obtain ⟨gv, hgv⟩ : ∃ g : Nat, g = goneN1 n := ⟨_, rfl⟩
          rw [← hgv] at hp
          have hgg : (n.gone = false ∧ gv = 0) ∨ (n.gone = true ∧ gv = 1) := by
            rw [hgv]; unfold goneN1
            cases n.gone
            · exact .inl ⟨rfl, rfl⟩
            · exact .inr ⟨rfl, rfl⟩
          replace hgv := hid hgv
          rcases hgg with ⟨hg, rfl⟩ | ⟨hg, rfl⟩
          all_goals
            rw [hg] at p10
            replace hg := hid hg
            go_wp2_with fail
            refine hp.out.mono ?_
            rintro e w4 ⟨rfl, ho, hs⟩
            have hS3 := hid (hS2.out.step hs ho)
            have hZ3 := hid (hZ2.out.step hs)
            clear hp ho hs hS2 hZ2 p10
            have hnn : pre ++ encNums n = ys ++ numBytes n.up 8 ++ numBytes (goneN1 n) 1 := by
              rw [hys.out]; unfold encNums; simp [List.append_assoc]
            rw [← hgv.out] at hnn
            rw [← hnn] at hS3
            have hzl : (pre ++ encNums n).length ≤ 90000200 := by
              rw [hnn]; simp only [List.length_append, numBytes_length]; omega
            obtain ⟨zs, hzs⟩ : ∃ zs, zs = pre ++ encNums n := ⟨_, rfl⟩
            rw [← hzs] at hS3 hzl
            replace hzs := hid hzs
            clear hnn hyl hprl
            have p5 : w4.cell? ⟨z, 5, none⟩ = some (.string n.name) := block_cell hZ3.out.1 5
            have p6 : w4.cell? ⟨z, 6, none⟩ = some (.string n.uid) := block_cell hZ3.out.1 6
            have p7 : w4.cell? ⟨z, 7, none⟩ = some (.string n.gid) := block_cell hZ3.out.1 7
            have p8 : w4.cell? ⟨z, 8, none⟩ = some (.string n.muid) := block_cell hZ3.out.1 8
            have p11 : w4.cell? ⟨z, 11, none⟩ = some (.string n.data) := block_cell hZ3.out.1 11
            obtain ⟨U2, hU2⟩ : ∃ U, U = w4.alloc (.cells #[.string n.name, .string n.uid, .string n.gid, .string n.muid, .string n.data] 9) := ⟨_, rfl⟩
            have hbU2 : Below w4.heap.size w4 U2 := by rw [hU2]; exact (Below.refl _ _).alloc (Nat.le_refl _) _
            have hQ5 := hid (kept_new hS3.out.out hbU2 (Nat.le_refl _) (show U2.heap[w4.heap.size]? = some (.cells #[.string n.name, .string n.uid, .string n.gid, .string n.muid, .string n.data] 9 (0, 0)) by rw [hU2, heap_alloc_new]))
            have hS5 := hid (hS3.out.next hbU2)
            clear hbU2 hS3 hZ3
            go_wp2_with (rw [← hU2]; replace hU2 := hid hU2)
            generalize w4.heap.size = q5 at *
            clear p5 p6 p7 p8 p11
            go_loopw [66] (fun kv wr => ∃ j : Nat, j ≤ 5 ∧ kv = .int .i64 (j : Int) ∧ Hid (EnS w w.heap.size (w.heap.size + 1) x (.slice (some ⟨b, o, none⟩) l.length c) l (zs ++ ([n.name, n.uid, n.gid, n.muid, n.data].take j).flatMap txtB) wr) ∧ Hid (KeptB wr (w.heap.size + 1) q5 (.cells #[.string n.name, .string n.uid, .string n.gid, .string n.muid, .string n.data] 9 (0, 0)))) (fun kv _ => 5 - (intOf kv).toNat)
            case atStart => exact ⟨0, by omega, rfl, hid (by simpa using hS5.out), hQ5⟩
            case round =>
              clear hS5 hQ5
              obtain ⟨j, hj, rfl, hS, hQ⟩ := hrel
              by_cases hj5 : j < 5
              · obtain ⟨s, hs5, hcs⟩ : ∃ s, [n.name, n.uid, n.gid, n.muid, n.data][j]? = some s ∧ wr.cell? ⟨q5, j, none⟩ = some (.string s) := by
                  have hb := fun i => block_cell hQ.out.1 i
                  match j, hj5 with
                  | 0, _ => exact ⟨n.name, rfl, hb 0⟩
                  | 1, _ => exact ⟨n.uid, rfl, hb 1⟩
                  | 2, _ => exact ⟨n.gid, rfl, hb 2⟩
                  | 3, _ => exact ⟨n.muid, rfl, hb 3⟩
                  | 4, _ => exact ⟨n.data, rfl, hb 4⟩
                have hmem := List.mem_of_getElem? hs5
                have hsz : s.size ≤ 100000 := by
                  have h1 := hnl.out
                  rw [encN_len] at h1
                  simp only [List.mem_cons, List.not_mem_nil, or_false] at hmem
                  rcases hmem with rfl | rfl | rfl | rfl | rfl <;> omega
                clear hmem
                have htl := hid (show ([n.name, n.uid, n.gid, n.muid, n.data].take (j + 1)).flatMap txtB = ([n.name, n.uid, n.gid, n.muid, n.data].take j).flatMap txtB ++ (numBytes s.size 4 ++ s.data.toList) by
                  have hl5 : j < [n.name, n.uid, n.gid, n.muid, n.data].length := hj5
                  rw [List.take_succ_eq_append_getElem hl5, List.flatMap_append]
                  have : [n.name, n.uid, n.gid, n.muid, n.data][j] = s := by
                    rw [List.getElem?_eq_getElem hl5] at hs5; exact Option.some.inj hs5
                  rw [this]; simp [txtB])
                have hpl := flat_take [n.name, n.uid, n.gid, n.muid, n.data] txtB j
                have hpl2 : ([n.name, n.uid, n.gid, n.muid, n.data].flatMap txtB).length ≤ 100000 := by
                  have h1 := hnl.out
                  unfold encN at h1
                  rw [List.length_append] at h1
                  omega
                obtain ⟨ts, hts⟩ : ∃ ts, ts = zs ++ ([n.name, n.uid, n.gid, n.muid, n.data].take j).flatMap txtB := ⟨_, rfl⟩
                rw [← hts] at hS
                have htl2 : ts.length ≤ 90100200 := by rw [hts, List.length_append]; omega
                replace hts := hid hts
                replace hs5 := hid hs5
                clear hpl hpl2
                have i1 : (0 : Int) ≤ (j : Int) := by omega
                have i2 : (j : Int) < 5 := by omega
                have cv : IntKind.u64.wrap ((s.size : Nat) : Int) = ((s.size : Nat) : Int) := IntWalk.u64_in _ (by omega)
                have hp := hid (put_step (w.heap.size + 1) ts 4 s.size wr (by omega) (by omega) (by omega) (by omega) hS.out.out)
                go_wp2_with fail
                refine hp.out.mono ?_
                rintro e w5 ⟨rfl, ho, hs⟩
                have hS2 := hid (hS.out.step hs ho)
                have hQ2 := hid (hQ.out.step hs)
                clear hp ho hs hS hQ hcs cv i1 i2
                have hcv := fun W => Lib.run_convert_string_bytes (P := Tryz.prog) W 9 53 5 s Tryz.underlying9 Tryz.underlying53 Tryz.underlying5
                have hbB := below_bytesWorld w5 5 s
                have hS3 := hid (hS2.out.next hbB)
                have hQ3 := hid (hQ2.out.next hS2.out.out hbB)
                have hby := bytesWorld_bytes w5 s (by omega)
                have hrw := hid (raw_step (w.heap.size + 1) (ts ++ numBytes s.size 4) s.data.toList _ _ hby (by rw [List.length_append, numBytes_length]; simp; omega) hS3.out.out)
                clear hbB hby hS2 hQ2
                go_wp2_with fail
                refine hrw.out.mono ?_
                rintro e w6 ⟨rfl, ho, hs⟩
                have hS4 := hid (hS3.out.step hs ho)
                have hQ4 := hid (hQ3.out.step hs)
                clear hrw ho hs hS3 hQ3 hcv
                go_wp2_with fail
                go_roundw
                case rel => exact ⟨j + 1, by omega, by go_num, hid (by rw [htl.out, ← List.append_assoc, ← hts.out, ← List.append_assoc]; exact hS4.out), hQ4⟩
                case measure => simp [intOf]; omega
              · obtain rfl : j = 5 := by omega
                have hfin := hid (show EnS w w.heap.size (w.heap.size + 1) x (.slice (some ⟨b, o, none⟩) l.length c) l (numBytes x 8 ++ numBytes l.length 4 ++ (l.take (k + 1)).flatMap encN) wr from by
                  have h1 := hS.out
                  rw [hzs.out, hpre.out] at h1
                  rw [hst.out, show encN n = encNums n ++ [n.name, n.uid, n.gid, n.muid, n.data].flatMap txtB from rfl]
                  simpa [List.append_assoc] using h1)
                clear hS hQ
                go_wp2_with fail
                go_roundw
                case rel => exact ⟨k + 1, by omega, by go_num, hfin⟩
                case measure => simp [intOf]; omega
    · obtain rfl : k = l.length := by omega
      have hfin := hS.out.out
      rw [List.take_length] at hfin
      have hlen := enc_flat (l := l) hds.out
      have hbt := hid (out_bytes_new (w.heap.size + 1) (encT x l) wr (by unfold encT; simp only [List.length_append, numBytes_length]; omega) hfin)
      have hBw := hid hS.out.bel
      clear hfin hlen hS
      go_wp2_with fail
      refine hbt.out.mono ?_
      rintro e w9 ⟨v9, rfl, h9, hb9⟩
      have hB9 := hid (sn hBw.out hb9)
      replace h9 := hid h9
      clear hb9 hbt
      go_wp2_with fail
      go_ret
      exact ⟨v9, rfl, ⟨h9.out.1, fun k hk => Nat.le_trans hBw.out.size (h9.out.2 k hk)⟩, hB9.out⟩
end
end Go.Proofs.YtcmajcljafmphaaGreat

namespace Go.Proofs.YtcmajcljafmphaaGreat
section
open Go.RowKit
set_option maxRecDepth 100000
set_option linter.unusedVariables false
end
end Go.Proofs.YtcmajcljafmphaaGreat

namespace Go.Proofs.YtcmajcljafmphaaGreat
section
open Go.RowKit
set_option maxRecDepth 100000
set_option linter.unusedVariables false
theorem encT_length (x : Nat) (l : List Nod) : (encT x l).length = 12 + (l.flatMap encN).length := by
  unfold encT; simp [numBytes_length]; omega
end
end Go.Proofs.YtcmajcljafmphaaGreat

namespace Go.Proofs.YtcmajcljafmphaaGreat
section
open Go.RowKit
set_option maxRecDepth 100000
set_option linter.unusedVariables false

theorem fewL_names2 {l : List Nod} (h : fewL l = true) (n : Nod) (hn : n ∈ l) : n.name.size ≤ 100 ∧ n.uid.size ≤ 100 ∧ n.gid.size ≤ 100 ∧ n.muid.size ≤ 100 := by
  unfold fewL fewN at h
  simp at h
  have := h.2 n hn
  omega
theorem enc_one2 {n : Nod} {l : List Nod} (h : n ∈ l) : (encN n).length ≤ (l.flatMap encN).length := by
  induction l with
  | nil => cases h
  | cons m l ih =>
    rw [List.flatMap_cons, List.length_append]
    rcases List.mem_cons.1 h with rfl | h
    · omega
    · have := ih h; omega
theorem enc_bound2 : ∀ (l : List Nod), (∀ n ∈ l, n.name.size ≤ 100 ∧ n.uid.size ≤ 100 ∧ n.gid.size ≤ 100 ∧ n.muid.size ≤ 100) → (l.flatMap encN).length ≤ l.length * 453 + bytesL l
  | [], _ => by simp
  | n :: l, h => by
    have h1 := h n (by simp)
    have h2 := enc_bound2 l (fun m hm => h m (by simp [hm]))
    rw [List.flatMap_cons, List.length_append, encN_len, List.length_cons, bytes_cons]
    omega
theorem few_enc2 {x : Nat} {l : List Nod} (hf : fewL l = true) (hok : OkC ⟨x, l⟩) : (∀ n ∈ l, (encN n).length ≤ 47000) ∧ (encT x l).length ≤ 47000 := by
  have h1 : ∀ n ∈ l, n.name.size ≤ 100 ∧ n.uid.size ≤ 100 ∧ n.gid.size ≤ 100 ∧ n.muid.size ≤ 100 := fun n hn => fewL_names2 hf n hn
  have h2 := enc_bound2 l h1
  have h3 := hok.few
  have h4 := hok.byt
  simp only at h3 h4
  have h5 : (encT x l).length ≤ 47000 := by rw [encT_length]; omega
  refine ⟨fun n hn => ?_, h5⟩
  have := enc_one2 hn
  rw [encT_length] at h5
  omega
end
end Go.Proofs.YtcmajcljafmphaaGreat
