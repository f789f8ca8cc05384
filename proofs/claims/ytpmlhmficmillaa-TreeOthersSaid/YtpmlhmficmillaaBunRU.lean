/- The reference's Put. Conditions: what TrOk asks.
The reference's Rename. Conditions: what TrOk asks. -/
import Derived.Test.YtpmlhmficmillaaBunRT
import Derived.Test.YtpmlhmficmillaaBunTB
import Derived.Test.YtpmlhmficmillaaRNd1Z
import Derived.Test.YtpmlhmficmillaaBunVT
namespace Go.Proofs.Ytpmlhmficmillaa
section
open Go.RowKit
set_option maxRecDepth 100000
set_option linter.unusedVariables false

set_option maxHeartbeats 25600000 in
theorem rput_any (v : Value) (x : Nat) (l : List Nod) (p off : Nat) (b who : ByteArray) (now : Nat) (w : World) (hv : NodsAt w v l) (ht : TrOk l) (hne : l ≠ []) (hoff : off < 18446744073709551616) (hbs0 : b.size ≤ 1000000) :
    Calls Try.prog 36 #[.agg #[.int .u64 (x : Int), v], .int .u64 (p : Int), .int .u64 (off : Int), .string b, .string who, .int .u32 (now : Int)] w (RErr w (putT ⟨x, l⟩ p off b who now)) := by
  obtain ⟨a, c, rfl, g1, g2⟩ := hv.form
  unfold maxLen at g2
  have hvo := hid (rown hv hne)
  obtain ⟨W, hW⟩ : ∃ W, W = (w.alloc (.cells #[.int .u64 (x : Int), .slice a l.length c] 32)).alloc (.cells #[.int .u64 0, .slice none 0 0] 32) := ⟨_, rfl⟩
  have hb0 : Below w.heap.size w W := by rw [hW]; exact ((Below.refl w.heap.size w).alloc (Nat.le_refl _) _).alloc (by simp) _
  have hx0 : W.heap[w.heap.size]? = some (.cells #[.int .u64 (x : Int), .slice a l.length c] 32 (0, 0)) := by rw [hW, heap_alloc_old _ _ (by simp), heap_alloc_new]
  have hy0 : W.heap[w.heap.size + 1]? = some (.cells #[.int .u64 0, .slice none 0 0] 32 (0, 0)) := by rw [hW]; exact heap2 _ _ _
  have hfi := hid (rget_any _ x l p W (hv.below hb0) (by have := ht.few; omega))
  have e0 := block_cell hx0 0
  have e1 := block_cell hx0 1
  have hv0 := hid (hv.below hb0)
  replace hb0 := hid hb0
  replace hx0 := hid hx0
  replace hy0 := hid hy0
  go_enter Try.func36, Try.ntmps36
  go_upto_region 1 with (rw [← hW]; replace hW := hid hW)
  try (rw [← hW]; replace hW := hid hW)
  go_wp2_with fail
  refine hfi.out.mono ?_
  rintro e w2 ⟨rfl, hb2⟩
  have hB2 := hid (sn hb0.out hb2)
  have hs2 := hid (lt_of_block ((hb2.block _ (lt_of_block hy0.out)).trans hy0.out))
  obtain ⟨n, hn⟩ : ∃ n, n = getN l p := ⟨_, rfl⟩
  have hnew := hid (heap_alloc_new w2 (.cells zeroNod.cells 71))
  obtain ⟨X, hX⟩ : ∃ W, W = boxR w2 n := ⟨_, rfl⟩
  have hbX : Below w2.heap.size w2 X := by rw [hX]; exact boxR_below _ _
  have hBX := hid (sn hB2.out hbX)
  have hA : TrR w.heap.size w2.heap.size (w.heap.size + 1) x (.slice a l.length c) l n X :=
    ⟨(hbX.block _ (by have := hs2.out; omega)).trans ((hb2.block _ (lt_of_block hx0.out)).trans hx0.out), by rw [hX]; exact boxR_heap _ _, (hbX.block _ hs2.out).trans ((hb2.block _ (lt_of_block hy0.out)).trans hy0.out), (hv0.out.below hb2).below hbX⟩
  have q0 := hA.t0
  have q1 := hA.t1
  unfold boxR at hX
  rw [zeroNod_cells] at hX hnew
  rw [← hn]
  clear hb2 hbX hfi e0 e1 hB2 hx0 hy0 hv0 hb0
  replace hA := hid hA
  replace hn := hid hn
  go_upto_region 2 with (first
    | (rw [← hX]; replace hX := hid hX)
    | (refine wpList_store_row (by rfl) 71 (.tmp 14) (.tmp 22) (by rfl) w2.heap.size n.cells (by rfl) (by rfl) 71 _ hnew.out (by kernel_rfl) (by kernel_rfl) (nod_one n) ?_))
  try (rw [← hX]; replace hX := hid hX)
  clear hnew
  generalize w2.heap.size = z at *
  cases hg : getL l p with
  | none =>
    have hdE := hid (show putT ⟨x, l⟩ p off b who now = (⟨x, l⟩, 6) by unfold putT; rw [hg])
    simp only [Option.isSome_none]
    clear hg
    have hres := hid hA.out.res
    have hlt := hid (lt_of_block hA.out.res)
    have hN := hid (NodsAt.other (w' := X.setRow (w.heap.size + 1) #[.int .u64 (x : Int), .slice a l.length c]) hA.out.row (w.heap.size + 1) (fun e => by have := hvo.out _ e; omega) (by simp) (fun k hk => setRow_other _ _ _ _ hk))
    go_wp2_with (refine wpList_store_row (by rfl) 32 (.tmp 12) (.tmp 26) (by rfl) (w.heap.size + 1) #[.int .u64 (x : Int), .slice a l.length c] (by rfl) (by rfl) 32 _ hres.out (by kernel_rfl) (by kernel_rfl) (by kernel_rfl) ?_)
    refine bodyPost_ret (results_cs rfl _ _ (w.heap.size + 1) _ _ _ _ _ rfl rfl (setRow_heap _ _ _ #[.int .u64 (x : Int), .slice a l.length c] _ _ hres.out) Try.underlying32 rfl (by kernel_rfl)) rfl ?_
    refine ⟨.slice a l.length c, ?_, ?_, below_setRow hBX.out (by omega) _⟩
    · rw [hdE.out]; rfl
    · rw [hdE.out]; exact hN.out
  | some y =>
    have hny : n = y := by rw [hn.out]; unfold getN; rw [hg]; rfl
    subst hny
    simp only [Option.isSome_some]
    obtain ⟨hmem, hpath⟩ := getL_some hg
    have hnok := hid (ht.ok n hmem)
    have hdir := hid (rdir_any n X hnok.out)
    have hnd := hid hA.out.nd
    go_wp2_with (refine wpList_load_row (by rfl) 71 (.tmp 14) (by rfl) z (by rfl) 71 n.cells (0, 0) _ hnd.out Try.underlying71 (by rfl) (by kernel_rfl) ?_)
    refine hdir.out.mono ?_
    rintro e w3 ⟨rfl, hb3⟩
    have hA0 := hA.out.below hb3
    have hBX0 := hid (sn hBX.out hb3)
    clear hA hBX q0 q1 hb3 hdir hnd
    have hA := hid hA0
    have hBX := hBX0
    clear hBX0
    have q0 := hA0.t0
    have q1 := hA0.t1
    clear hA0
    cases hdb : dirB n with
    | true =>
      have hdE := hid (show putT ⟨x, l⟩ p off b who now = (⟨x, l⟩, 12) by unfold putT; rw [hg]; simp only; rw [hdb]; rfl)
      clear hg hdb
      have hres := hid hA.out.res
      have hlt := hid (lt_of_block hA.out.res)
      have hN := hid (NodsAt.other (w' := w3.setRow (w.heap.size + 1) #[.int .u64 (x : Int), .slice a l.length c]) hA.out.row (w.heap.size + 1) (fun e => by have := hvo.out _ e; omega) (by simp) (fun k hk => setRow_other _ _ _ _ hk))
      go_wp2_with (refine wpList_store_row (by rfl) 32 (.tmp 12) (.tmp 29) (by rfl) (w.heap.size + 1) #[.int .u64 (x : Int), .slice a l.length c] (by rfl) (by rfl) 32 _ hres.out (by kernel_rfl) (by kernel_rfl) (by kernel_rfl) ?_)
      refine bodyPost_ret (results_cs rfl _ _ (w.heap.size + 1) _ _ _ _ _ rfl rfl (setRow_heap _ _ _ #[.int .u64 (x : Int), .slice a l.length c] _ _ hres.out) Try.underlying32 rfl (by kernel_rfl)) rfl ?_
      refine ⟨.slice a l.length c, ?_, ?_, below_setRow hBX.out (by omega) _⟩
      · rw [hdE.out]; rfl
      · rw [hdE.out]; exact hN.out
    | false =>
      obtain ⟨o, ho⟩ : ∃ o, o = if appB n then n.data.size else off := ⟨_, rfl⟩
      have hdT0 := hid (show putT ⟨x, l⟩ p off b who now = if 4096 < o ∨ 4096 - o < b.size then (⟨x, l⟩, 3) else if b.size = 0 then (⟨x, l⟩, 0) else dataT ⟨x, l⟩ n (putD n.data o b) who now by rw [ho]; unfold putT; rw [hg]; simp only; rw [hdb]; rfl)
      have hnl := ht.len n hmem
      have c2 : w3.cell? ⟨z, 2, none⟩ = some (.int .u32 (n.mode : Int)) := block_cell hA.out.nd 2
      have c11 : w3.cell? ⟨z, 11, none⟩ = some (.string n.data) := block_cell hA.out.nd 11
      have hap2 := app_mode n.mode hnok.out.mode
      have hab : Hid (appB n = !decide (n.mode &&& 1073741824 = 0)) := hid rfl
      have hkon : IntKind.u64.wrap (n.data.size : Int) = (n.data.size : Int) := IntWalk.u64_in _ (by omega)
      generalize decide (n.mode &&& 1073741824 = 0) = ab at *
      clear hg hdb
      cases ab with
      | true =>
        have hoo : o = off := by rw [ho, hab.out]; rfl
        rw [← hoo] at hoff
        have hmode : (bits .and .u32 (n.mode : Int) 1073741824 != 0) = false := hap2
        clear ho hap2 hab
        subst hoo
        by_cases h1 : 4096 < o
        · have hdE := hid (show putT ⟨x, l⟩ p o b who now = (⟨x, l⟩, 3) by rw [hdT0.out, if_pos (.inl h1)])
          have h2 : (4096 : Int) < (o : Int) := by omega
          clear hdT0
          have hres := hid hA.out.res
          have hlt := hid (lt_of_block hA.out.res)
          have hN := hid (NodsAt.other (w' := w3.setRow (w.heap.size + 1) #[.int .u64 (x : Int), .slice a l.length c]) hA.out.row (w.heap.size + 1) (fun e => by have := hvo.out _ e; omega) (by simp) (fun k hk => setRow_other _ _ _ _ hk))
          go_wp2_with (refine wpList_store_row (by rfl) 32 (.tmp 12) (.tmp 48) (by rfl) (w.heap.size + 1) #[.int .u64 (x : Int), .slice a l.length c] (by rfl) (by rfl) 32 _ hres.out (by kernel_rfl) (by kernel_rfl) (by kernel_rfl) ?_)
          refine bodyPost_ret (results_cs rfl _ _ (w.heap.size + 1) _ _ _ _ _ rfl rfl (setRow_heap _ _ _ #[.int .u64 (x : Int), .slice a l.length c] _ _ hres.out) Try.underlying32 rfl (by kernel_rfl)) rfl ?_
          refine ⟨.slice a l.length c, ?_, ?_, below_setRow hBX.out (by omega) _⟩
          · rw [hdE.out]; rfl
          · rw [hdE.out]; exact hN.out
        have h2 : ¬ (4096 : Int) < (o : Int) := by omega
        obtain ⟨rr, hrr⟩ : ∃ r, r = 4096 - o := ⟨_, rfl⟩
        have krr : IntKind.u64.wrap (4096 - (o : Int)) = (rr : Int) := by rw [show (4096 : Int) - (o : Int) = (rr : Int) by omega]; exact IntWalk.u64_in _ (by omega)
        have kbz : IntKind.u64.wrap (b.size : Int) = (b.size : Int) := IntWalk.u64_in _ (by omega)
        by_cases h3 : 4096 - o < b.size
        · have hdE := hid (show putT ⟨x, l⟩ p o b who now = (⟨x, l⟩, 3) by rw [hdT0.out, if_pos (.inr h3)])
          have h4 : (rr : Int) < (b.size : Int) := by omega
          clear hdT0
          replace hrr := hid hrr
          have hres := hid hA.out.res
          have hlt := hid (lt_of_block hA.out.res)
          have hN := hid (NodsAt.other (w' := w3.setRow (w.heap.size + 1) #[.int .u64 (x : Int), .slice a l.length c]) hA.out.row (w.heap.size + 1) (fun e => by have := hvo.out _ e; omega) (by simp) (fun k hk => setRow_other _ _ _ _ hk))
          go_wp2_with (refine wpList_store_row (by rfl) 32 (.tmp 12) (.tmp 48) (by rfl) (w.heap.size + 1) #[.int .u64 (x : Int), .slice a l.length c] (by rfl) (by rfl) 32 _ hres.out (by kernel_rfl) (by kernel_rfl) (by kernel_rfl) ?_)
          refine bodyPost_ret (results_cs rfl _ _ (w.heap.size + 1) _ _ _ _ _ rfl rfl (setRow_heap _ _ _ #[.int .u64 (x : Int), .slice a l.length c] _ _ hres.out) Try.underlying32 rfl (by kernel_rfl)) rfl ?_
          refine ⟨.slice a l.length c, ?_, ?_, below_setRow hBX.out (by omega) _⟩
          · rw [hdE.out]; rfl
          · rw [hdE.out]; exact hN.out
        have h4 : ¬ (rr : Int) < (b.size : Int) := by omega
        by_cases h7 : b.size = 0
        · have hdE := hid (show putT ⟨x, l⟩ p o b who now = (⟨x, l⟩, 0) by rw [hdT0.out, if_neg (by omega), if_pos h7])
          obtain ⟨z1, z2⟩ := str_empty h7
          clear hdT0
          replace hrr := hid hrr
          have hres := hid hA.out.res
          have hlt := hid (lt_of_block hA.out.res)
          have hN := hid (NodsAt.other (w' := w3.setRow (w.heap.size + 1) #[.int .u64 (x : Int), .slice a l.length c]) hA.out.row (w.heap.size + 1) (fun e => by have := hvo.out _ e; omega) (by simp) (fun k hk => setRow_other _ _ _ _ hk))
          go_wp2_with (refine wpList_store_row (by rfl) 32 (.tmp 12) (.tmp 51) (by rfl) (w.heap.size + 1) #[.int .u64 (x : Int), .slice a l.length c] (by rfl) (by rfl) 32 _ hres.out (by kernel_rfl) (by kernel_rfl) (by kernel_rfl) ?_)
          refine bodyPost_ret (results_cs rfl _ _ (w.heap.size + 1) _ _ _ _ _ rfl rfl (setRow_heap _ _ _ #[.int .u64 (x : Int), .slice a l.length c] _ _ hres.out) Try.underlying32 rfl (by kernel_rfl)) rfl ?_
          refine ⟨.slice a l.length c, ?_, ?_, below_setRow hBX.out (by omega) _⟩
          · rw [hdE.out]; rfl
          · rw [hdE.out]; exact hN.out
        obtain ⟨z1, z2⟩ := str_full (show 0 < b.size by omega)
        have hdT1 := hid (show putT ⟨x, l⟩ p o b who now = dataT ⟨x, l⟩ n (putD n.data o b) who now by rw [hdT0.out, if_neg (by omega), if_neg h7])
        have hol : o ≤ 4096 := by omega
        have hbl : b.size ≤ 4096 := by omega
        have hpad := hid (rpadded_any n.data o w3 (by omega) (by omega))
        have hfs : (strL (padL n.data.data.toList o)).size = o := by rw [strL_size, padL_length]
        obtain ⟨fb, hfb⟩ : ∃ fb, fb = strL (padL n.data.data.toList o) := ⟨_, rfl⟩
        rw [← hfb] at hpad hfs
        obtain ⟨E0, hE0⟩ : ∃ E, E = o + b.size := ⟨_, rfl⟩
        have ki : IntKind.i64.wrap (o : Int) = (o : Int) := IntWalk.i64_in _ (by omega)
        have kq : IntKind.i64.wrap ((o : Int) + (b.size : Int)) = (E0 : Int) := by rw [show (o : Int) + (b.size : Int) = (E0 : Int) by omega]; exact IntWalk.i64_in _ (by omega)
        obtain ⟨fb2, hfb2⟩ : ∃ s, s = fb ++ b := ⟨_, rfl⟩
        have hf2s : fb2.size = fb.size + b.size := by rw [hfb2]; exact ByteArray.size_append
        have ks1 : ¬ 9223372036854775807 < fb.size + b.size := by omega
        have ec1 : fb ++ b = fb2 := hfb2.symm
        clear hdT0 h7
        replace hpath := hid hpath
        by_cases hen : E0 < n.data.size
        · have hez : (E0 : Int) < (n.data.size : Int) := by omega
          have hez2 : (E0 : Int) ≤ (n.data.size : Int) := by omega
          obtain ⟨tl, htl⟩ : ∃ s, s = n.data.extract E0 n.data.size := ⟨_, rfl⟩
          obtain ⟨nb, hnb⟩ : ∃ s, s = fb2 ++ tl := ⟨_, rfl⟩
          have htls : tl.size ≤ n.data.size := by rw [htl, ByteArray.size_extract]; omega
          have ks2 : ¬ 9223372036854775807 < fb2.size + tl.size := by omega
          have ec2 : fb2 ++ tl = nb := hnb.symm
          have ec3 : n.data.extract E0 n.data.size = tl := htl.symm
          have hput : nb = putD n.data o b := by
            rw [hnb, hfb2, htl, hfb]
            exact putD_eq n.data b o E0 (by omega)
          have hnbs : nb.size ≤ 10000 := by rw [hput, putD_size]; omega
          have hdT := hid (show putT ⟨x, l⟩ p o b who now = dataT ⟨x, l⟩ n nb who now by rw [hdT1.out, hput])
          clear hdT1
          replace hput := hid hput
          replace hf2s := hid hf2s
          replace hfs := hid hfs
          replace hfb2 := hid hfb2
          replace hfb := hid hfb
          replace hE0 := hid hE0
          replace hrr := hid hrr
          replace htls := hid htls
          replace htl := hid htl
          replace hnb := hid hnb
          go_upto_region 13 with fail
          go_wp2_with fail
          refine hpad.out.mono ?_
          rintro e w4 ⟨rfl, hb4⟩
          have hA0 := hA.out.below hb4
          have hBX0 := hid (sn hBX.out hb4)
          clear hA hBX q0 q1 c11 c2 hb4 hpad h2 h4 krr kbz kq z1 z2 hmode hkon
          have hA := hid hA0
          have hBX := hBX0
          clear hBX0
          have q0 := hA0.t0
          have q1 := hA0.t1
          have c11 : w4.cell? ⟨z, 11, none⟩ = some (.string n.data) := block_cell hA0.nd 11
          clear hA0
          go_upto_region 16 with fail
          clear hez
          have hB19 := bytesL_le (l := l) (fun m hm => show m.data.size ≤ 1000000 by have := ht.len m hm; omega)
          have hby := hid (fun Z (h : NodsAt Z (.slice a l.length c) l) => rbytes_any _ x l Z h (by have := ht.few; omega) (fun m hm => by have := ht.len m hm; omega))
          have hnB := bytes_mem hmem
          obtain ⟨B, hB⟩ : ∃ B, B = bytesL l := ⟨_, rfl⟩
          rw [← hB] at hby hB19 hnB
          have hBle : B ≤ 1000000000 := by have := ht.few; omega
          obtain ⟨D, hD⟩ : ∃ D, D = B - n.data.size := ⟨_, rfl⟩
          obtain ⟨E, hE⟩ : ∃ E, E = D + nb.size := ⟨_, rfl⟩
          have k1 : IntKind.i64.wrap ((B : Int) - (n.data.size : Int)) = (D : Int) := by rw [show (B : Int) - (n.data.size : Int) = (D : Int) by omega]; exact IntWalk.i64_in _ (by omega)
          have k2 : IntKind.i64.wrap ((D : Int) + (nb.size : Int)) = (E : Int) := by rw [show (D : Int) + (nb.size : Int) = (E : Int) by omega]; exact IntWalk.i64_in _ (by omega)
          replace hdT := hid (show putT ⟨x, l⟩ p o b who now = if 16384 < E then (⟨x, l⟩, 14) else (⟨x, setL l (touchN { n with data := nb } who now)⟩, 0) by rw [hdT.out, hE, hD, hB]; rfl)
          have hnok2 := hid (show NodOk { n with data := nb } from ⟨hnok.out.path, hnok.out.vers, hnok.out.mode, hnok.out.atm, hnok.out.mtm, hnok.out.name, hnok.out.uid, hnok.out.gid, hnok.out.muid, hnok.out.up, by show nb.size ≤ maxLen; unfold maxLen; omega⟩)
          replace hB := hid hB
          replace hD := hid hD
          replace hE := hid hE
          replace hmem := hid hmem
          clear hB19 hnB
          go_wp2_with fail
          have hZX := hid (lt_of_block hA.out.res)
          have hA1 := hA.out.below ((Below.refl w4.heap.size w4).drew)
          have hBd := sn hBX.out ((Below.refl w4.heap.size w4).drew)
          clear hA hBX q0 q1 c11
          have q0 := hA1.t0
          have q1 := hA1.t1
          have q11 := nodS' hA1.nd
          go_region_held3 (fun w' => w'.cell? ⟨w.heap.size, 0, none⟩ = some (.int .u64 (x : Int)) ∧ w'.cell? ⟨w.heap.size, 1, none⟩ = some (.slice a l.length c) ∧ w'.cell? ⟨z, 11, none⟩ = some (.string n.data))
            (first | exact ⟨hA1.t0, hA1.t1, nodS' hA1.nd⟩ | go_keep)
            ((go_at_call 44; (with_reducible refine (hby.out _ hA1.row).mono ?_); rintro e w5 ⟨rfl, hb5⟩; replace hA1 := hA1.below hb5; replace hBd := sn hBd hb5))
          have hA := hid hA1
          have hBX := hid hBd
          clear hA1 hBd q0 q1 q11 k1 k2 hb5 hby
          have q0 := hA.out.t0
          have q1 := hA.out.t1
          by_cases hE1 : 16384 < E
          · have hdE := hid (show putT ⟨x, l⟩ p o b who now = (⟨x, l⟩, 14) by rw [hdT.out, if_pos hE1])
            have k3 : decide ((16384 : Int) < (E : Int)) = true := by simp; omega
            have k4 : decide (16384 < E) = true := by simp; omega
            have k5 : (16384 : Int) < (E : Int) := by omega
            have hres := hid hA.out.res
            have hlt := hid (lt_of_block hA.out.res)
            have hN := hid (NodsAt.other (w' := w5.setRow (w.heap.size + 1) #[.int .u64 (x : Int), .slice a l.length c]) hA.out.row (w.heap.size + 1) (fun e => by have := hvo.out _ e; omega) (by simp) (fun k hk => setRow_other _ _ _ _ hk))
            go_wp2_with (refine wpList_store_row (by rfl) 32 (.tmp 12) (.tmp 85) (by rfl) (w.heap.size + 1) #[.int .u64 (x : Int), .slice a l.length c] (by rfl) (by rfl) 32 _ hres.out (by kernel_rfl) (by kernel_rfl) (by kernel_rfl) ?_)
            refine bodyPost_ret (results_cs rfl _ _ (w.heap.size + 1) _ _ _ _ _ rfl rfl (setRow_heap _ _ _ #[.int .u64 (x : Int), .slice a l.length c] _ _ hres.out) Try.underlying32 rfl (by kernel_rfl)) rfl ?_
            refine ⟨.slice a l.length c, ?_, ?_, below_setRow hBX.out (by omega) _⟩
            · rw [hdE.out]; rfl
            · rw [hdE.out]; exact hN.out
          have k3 : decide ((16384 : Int) < (E : Int)) = false := by simp; omega
          have k4 : decide (16384 < E) = false := by simp; omega
          have k5 : ¬ (16384 : Int) < (E : Int) := by omega
          obtain ⟨n2, hn2⟩ : ∃ n2 : Nod, n2 = { n with data := nb } := ⟨_, rfl⟩
          rw [← hn2] at hdT hnok2
          obtain ⟨n3, hn3⟩ : ∃ n3 : Nod, n3 = touchN n2 who now := ⟨_, rfl⟩
          have hdE := hid (show putT ⟨x, l⟩ p o b who now = (⟨x, setL l n3⟩, 0) by rw [hdT.out, if_neg hE1, hn3])
          have c11 : w5.cell? ⟨z, 11, none⟩ = some (.string n.data) := block_cell hA.out.nd 11
          have f11 : w5.frozen? ⟨z, 11, none⟩ = false := block_free hA.out.nd 11
          obtain ⟨Y, hY⟩ : ∃ Y, Y = w5.setCell ⟨z, 11, none⟩ (.string nb) := ⟨_, rfl⟩
          have hBY : Below w.heap.size w Y := by rw [hY]; exact hBX.out.setCell (by show w.heap.size ≤ z; have := hs2.out; omega) _
          have hAY : TrR w.heap.size z (w.heap.size + 1) x (.slice a l.length c) l n2 Y := by
            have hrow := hv.below hBY
            rw [hY] at hrow ⊢
            exact hA.out.put (by have := hs2.out; omega) (by have := hs2.out; omega) 11 (.string nb) (by rw [hn2]; rfl) hrow
          have htc : Hid (∀ Z, Calls Try.prog 71 #[.agg #[.int .u64 (n2.path : Int), .int .u32 (n2.vers : Int), .int .u32 (n2.mode : Int), .int .u32 (n2.atm : Int), .int .u32 (n2.mtm : Int), .string n2.name, .string n2.uid, .string n2.gid, .string n2.muid, .int .u64 (n2.up : Int), .bool n2.gone, .string n2.data], .string who, .int .u32 (now : Int)] Z fun e w' => e = .returned (.agg n3.cells) ∧ Below Z.heap.size Z w') := hid (fun Z => by rw [hn3]; exact rtouched_any n2 who now Z hnok2.out)
          have hst : Hid (∀ Z, NodsAt Z (.slice a l.length c) l → Calls Try.prog 70 #[.agg #[.int .u64 (x : Int), .slice a l.length c], .agg n3.cells] Z (SetPost Z x (setL l n3))) := hid (fun Z hZ => by rw [← setR_eq ht.sort]; exact rset_any _ x l n3 Z hZ (by have := ht.few; omega))
          clear hdT
          go_upto_region 19 with (rw [← hY]; replace hY := hid hY)
          try (rw [← hY]; replace hY := hid hY)
          clear q0 q1 hA hBX c11 f11 k3 k4 k5 hE1
          replace hn2 := hid hn2
          replace hn3 := hid hn3
          replace ht := hid ht
          replace hv := hid hv
          go_wp2_with fail
          have hZY := hid (lt_of_block hAY.res)
          have hT := hAY.below ((Below.refl Y.heap.size Y).drew)
          have hBd := (sn hBY ((Below.refl Y.heap.size Y).drew))
          clear hAY hBY
          have q0 := hT.t0
          have q1 := hT.t1
          obtain ⟨d0, d1, d2, d3, d4, d5, d6, d7, d8, d9, d10, d11⟩ := nodSR hT.nd
          go_region_with (first
            | (go_at_call 71; (with_reducible refine (htc.out _).mono ?_); rintro e wt ⟨rfl, hbt⟩; replace hT := hT.below hbt; have q8 := hid hT.tr; replace hBd := sn hBd hbt; have q2 := hT.t0; have q3 := hT.t1)
            | (go_at_call 70; (with_reducible refine (hst.out _ hT.row).mono ?_); rintro e w6 ⟨v6, rfl, hv6, hf6, hb6⟩; obtain ⟨a6, c6, rfl, _, _⟩ := hv6.form; replace hT := hT.below hb6; replace hBd := sn hBd hb6; have g0 := block_cell hT.res 0; have g1 := block_cell hT.res 1; have e0 := block_free hT.res 0; have e1 := block_free hT.res 1))
          all_goals
            obtain ⟨Y9, hY9⟩ : ∃ Z, Z = (w6.setCell ⟨w.heap.size + 1, 0, none⟩ (.int .u64 (x : Int))).setCell ⟨w.heap.size + 1, 1, none⟩ (.slice a6 (setL l n3).length c6) := ⟨_, rfl⟩
            rw [← hY9]
            have hlq := lt_of_block q8.out
            have hzq := hZX.out
            have hres := hid (show Y9.heap[w.heap.size + 1]? = some (.cells #[.int .u64 (x : Int), .slice a6 (setL l n3).length c6] 32 (0, 0)) by rw [hY9]; exact block_set (block_set hT.res 0 _) 1 _)
            have hszt := hbt.size
            have hszd := hid hBd.size
            have hN9 := hid (show NodsAt Y9 (.slice a6 (setL l n3).length c6) (setL l n3) by
              rw [hY9]; exact NodsAt.other hv6 (w.heap.size + 1) (fun e => by have := hf6 _ e; have := hZY.out; simp at hszt; omega) (by simp) (fun k hk => (block_set_other (by show k ≠ w.heap.size + 1; exact hk)).trans (block_set_other (by show k ≠ w.heap.size + 1; exact hk))))
            have hB9 := hid (show Below w.heap.size w Y9 by rw [hY9]; exact (hBd.setCell (by show w.heap.size ≤ w.heap.size + 1; omega) _).setCell (by show w.heap.size ≤ w.heap.size + 1; omega) _)
            replace hY9 := hid hY9
            clear hT hBd hbt hb6 hv6 hf6 g0 g1 e0 e1 q0 q1 q2 q3 d0 d1 d2 d3 d4 d5 d6 d7 d8 d9 d10 d11 hlq hzq hszt
            go_wp2_with fail
            refine bodyPost_ret (results_cs rfl _ _ (w.heap.size + 1) _ _ _ _ _ rfl rfl hres.out Try.underlying32 rfl (by kernel_rfl)) rfl ?_
            refine ⟨.slice a6 (setL l n3).length c6, ?_, ?_, hB9.out⟩
            · rw [hdE.out]; rfl
            · rw [hdE.out]; exact hN9.out
        · have hez : ¬ (E0 : Int) < (n.data.size : Int) := by omega
          obtain ⟨nb, hnb⟩ : ∃ s, s = fb2 := ⟨_, rfl⟩
          have hput : nb = putD n.data o b := by
            rw [← putD_eq n.data b o n.data.size (by omega), ← hfb, ← hfb2, hnb]
            exact toListInj2 (by simp)
          have hnbs : nb.size ≤ 10000 := by rw [hput, putD_size]; omega
          have hdT := hid (show putT ⟨x, l⟩ p o b who now = dataT ⟨x, l⟩ n nb who now by rw [hdT1.out, hput])
          clear hdT1
          replace hput := hid hput
          replace hf2s := hid hf2s
          replace hfs := hid hfs
          replace hfb2 := hid hfb2
          replace hfb := hid hfb
          replace hE0 := hid hE0
          replace hrr := hid hrr
          subst hnb
          go_upto_region 13 with fail
          go_wp2_with fail
          refine hpad.out.mono ?_
          rintro e w4 ⟨rfl, hb4⟩
          have hA0 := hA.out.below hb4
          have hBX0 := hid (sn hBX.out hb4)
          clear hA hBX q0 q1 c11 c2 hb4 hpad h2 h4 krr kbz kq z1 z2 hmode hkon
          have hA := hid hA0
          have hBX := hBX0
          clear hBX0
          have q0 := hA0.t0
          have q1 := hA0.t1
          have c11 : w4.cell? ⟨z, 11, none⟩ = some (.string n.data) := block_cell hA0.nd 11
          clear hA0
          go_upto_region 16 with fail
          clear hez
          have hB19 := bytesL_le (l := l) (fun m hm => show m.data.size ≤ 1000000 by have := ht.len m hm; omega)
          have hby := hid (fun Z (h : NodsAt Z (.slice a l.length c) l) => rbytes_any _ x l Z h (by have := ht.few; omega) (fun m hm => by have := ht.len m hm; omega))
          have hnB := bytes_mem hmem
          obtain ⟨B, hB⟩ : ∃ B, B = bytesL l := ⟨_, rfl⟩
          rw [← hB] at hby hB19 hnB
          have hBle : B ≤ 1000000000 := by have := ht.few; omega
          obtain ⟨D, hD⟩ : ∃ D, D = B - n.data.size := ⟨_, rfl⟩
          obtain ⟨E, hE⟩ : ∃ E, E = D + nb.size := ⟨_, rfl⟩
          have k1 : IntKind.i64.wrap ((B : Int) - (n.data.size : Int)) = (D : Int) := by rw [show (B : Int) - (n.data.size : Int) = (D : Int) by omega]; exact IntWalk.i64_in _ (by omega)
          have k2 : IntKind.i64.wrap ((D : Int) + (nb.size : Int)) = (E : Int) := by rw [show (D : Int) + (nb.size : Int) = (E : Int) by omega]; exact IntWalk.i64_in _ (by omega)
          replace hdT := hid (show putT ⟨x, l⟩ p o b who now = if 16384 < E then (⟨x, l⟩, 14) else (⟨x, setL l (touchN { n with data := nb } who now)⟩, 0) by rw [hdT.out, hE, hD, hB]; rfl)
          have hnok2 := hid (show NodOk { n with data := nb } from ⟨hnok.out.path, hnok.out.vers, hnok.out.mode, hnok.out.atm, hnok.out.mtm, hnok.out.name, hnok.out.uid, hnok.out.gid, hnok.out.muid, hnok.out.up, by show nb.size ≤ maxLen; unfold maxLen; omega⟩)
          replace hB := hid hB
          replace hD := hid hD
          replace hE := hid hE
          replace hmem := hid hmem
          clear hB19 hnB
          go_wp2_with fail
          have hZX := hid (lt_of_block hA.out.res)
          have hA1 := hA.out.below ((Below.refl w4.heap.size w4).drew)
          have hBd := sn hBX.out ((Below.refl w4.heap.size w4).drew)
          clear hA hBX q0 q1 c11
          have q0 := hA1.t0
          have q1 := hA1.t1
          have q11 := nodS' hA1.nd
          go_region_held3 (fun w' => w'.cell? ⟨w.heap.size, 0, none⟩ = some (.int .u64 (x : Int)) ∧ w'.cell? ⟨w.heap.size, 1, none⟩ = some (.slice a l.length c) ∧ w'.cell? ⟨z, 11, none⟩ = some (.string n.data))
            (first | exact ⟨hA1.t0, hA1.t1, nodS' hA1.nd⟩ | go_keep)
            ((go_at_call 44; (with_reducible refine (hby.out _ hA1.row).mono ?_); rintro e w5 ⟨rfl, hb5⟩; replace hA1 := hA1.below hb5; replace hBd := sn hBd hb5))
          have hA := hid hA1
          have hBX := hid hBd
          clear hA1 hBd q0 q1 q11 k1 k2 hb5 hby
          have q0 := hA.out.t0
          have q1 := hA.out.t1
          by_cases hE1 : 16384 < E
          · have hdE := hid (show putT ⟨x, l⟩ p o b who now = (⟨x, l⟩, 14) by rw [hdT.out, if_pos hE1])
            have k3 : decide ((16384 : Int) < (E : Int)) = true := by simp; omega
            have k4 : decide (16384 < E) = true := by simp; omega
            have k5 : (16384 : Int) < (E : Int) := by omega
            have hres := hid hA.out.res
            have hlt := hid (lt_of_block hA.out.res)
            have hN := hid (NodsAt.other (w' := w5.setRow (w.heap.size + 1) #[.int .u64 (x : Int), .slice a l.length c]) hA.out.row (w.heap.size + 1) (fun e => by have := hvo.out _ e; omega) (by simp) (fun k hk => setRow_other _ _ _ _ hk))
            go_wp2_with (refine wpList_store_row (by rfl) 32 (.tmp 12) (.tmp 85) (by rfl) (w.heap.size + 1) #[.int .u64 (x : Int), .slice a l.length c] (by rfl) (by rfl) 32 _ hres.out (by kernel_rfl) (by kernel_rfl) (by kernel_rfl) ?_)
            refine bodyPost_ret (results_cs rfl _ _ (w.heap.size + 1) _ _ _ _ _ rfl rfl (setRow_heap _ _ _ #[.int .u64 (x : Int), .slice a l.length c] _ _ hres.out) Try.underlying32 rfl (by kernel_rfl)) rfl ?_
            refine ⟨.slice a l.length c, ?_, ?_, below_setRow hBX.out (by omega) _⟩
            · rw [hdE.out]; rfl
            · rw [hdE.out]; exact hN.out
          have k3 : decide ((16384 : Int) < (E : Int)) = false := by simp; omega
          have k4 : decide (16384 < E) = false := by simp; omega
          have k5 : ¬ (16384 : Int) < (E : Int) := by omega
          obtain ⟨n2, hn2⟩ : ∃ n2 : Nod, n2 = { n with data := nb } := ⟨_, rfl⟩
          rw [← hn2] at hdT hnok2
          obtain ⟨n3, hn3⟩ : ∃ n3 : Nod, n3 = touchN n2 who now := ⟨_, rfl⟩
          have hdE := hid (show putT ⟨x, l⟩ p o b who now = (⟨x, setL l n3⟩, 0) by rw [hdT.out, if_neg hE1, hn3])
          have c11 : w5.cell? ⟨z, 11, none⟩ = some (.string n.data) := block_cell hA.out.nd 11
          have f11 : w5.frozen? ⟨z, 11, none⟩ = false := block_free hA.out.nd 11
          obtain ⟨Y, hY⟩ : ∃ Y, Y = w5.setCell ⟨z, 11, none⟩ (.string nb) := ⟨_, rfl⟩
          have hBY : Below w.heap.size w Y := by rw [hY]; exact hBX.out.setCell (by show w.heap.size ≤ z; have := hs2.out; omega) _
          have hAY : TrR w.heap.size z (w.heap.size + 1) x (.slice a l.length c) l n2 Y := by
            have hrow := hv.below hBY
            rw [hY] at hrow ⊢
            exact hA.out.put (by have := hs2.out; omega) (by have := hs2.out; omega) 11 (.string nb) (by rw [hn2]; rfl) hrow
          have htc : Hid (∀ Z, Calls Try.prog 71 #[.agg #[.int .u64 (n2.path : Int), .int .u32 (n2.vers : Int), .int .u32 (n2.mode : Int), .int .u32 (n2.atm : Int), .int .u32 (n2.mtm : Int), .string n2.name, .string n2.uid, .string n2.gid, .string n2.muid, .int .u64 (n2.up : Int), .bool n2.gone, .string n2.data], .string who, .int .u32 (now : Int)] Z fun e w' => e = .returned (.agg n3.cells) ∧ Below Z.heap.size Z w') := hid (fun Z => by rw [hn3]; exact rtouched_any n2 who now Z hnok2.out)
          have hst : Hid (∀ Z, NodsAt Z (.slice a l.length c) l → Calls Try.prog 70 #[.agg #[.int .u64 (x : Int), .slice a l.length c], .agg n3.cells] Z (SetPost Z x (setL l n3))) := hid (fun Z hZ => by rw [← setR_eq ht.sort]; exact rset_any _ x l n3 Z hZ (by have := ht.few; omega))
          clear hdT
          go_upto_region 19 with (rw [← hY]; replace hY := hid hY)
          try (rw [← hY]; replace hY := hid hY)
          clear q0 q1 hA hBX c11 f11 k3 k4 k5 hE1
          replace hn2 := hid hn2
          replace hn3 := hid hn3
          replace ht := hid ht
          replace hv := hid hv
          go_wp2_with fail
          have hZY := hid (lt_of_block hAY.res)
          have hT := hAY.below ((Below.refl Y.heap.size Y).drew)
          have hBd := (sn hBY ((Below.refl Y.heap.size Y).drew))
          clear hAY hBY
          have q0 := hT.t0
          have q1 := hT.t1
          obtain ⟨d0, d1, d2, d3, d4, d5, d6, d7, d8, d9, d10, d11⟩ := nodSR hT.nd
          go_region_with (first
            | (go_at_call 71; (with_reducible refine (htc.out _).mono ?_); rintro e wt ⟨rfl, hbt⟩; replace hT := hT.below hbt; have q8 := hid hT.tr; replace hBd := sn hBd hbt; have q2 := hT.t0; have q3 := hT.t1)
            | (go_at_call 70; (with_reducible refine (hst.out _ hT.row).mono ?_); rintro e w6 ⟨v6, rfl, hv6, hf6, hb6⟩; obtain ⟨a6, c6, rfl, _, _⟩ := hv6.form; replace hT := hT.below hb6; replace hBd := sn hBd hb6; have g0 := block_cell hT.res 0; have g1 := block_cell hT.res 1; have e0 := block_free hT.res 0; have e1 := block_free hT.res 1))
          all_goals
            obtain ⟨Y9, hY9⟩ : ∃ Z, Z = (w6.setCell ⟨w.heap.size + 1, 0, none⟩ (.int .u64 (x : Int))).setCell ⟨w.heap.size + 1, 1, none⟩ (.slice a6 (setL l n3).length c6) := ⟨_, rfl⟩
            rw [← hY9]
            have hlq := lt_of_block q8.out
            have hzq := hZX.out
            have hres := hid (show Y9.heap[w.heap.size + 1]? = some (.cells #[.int .u64 (x : Int), .slice a6 (setL l n3).length c6] 32 (0, 0)) by rw [hY9]; exact block_set (block_set hT.res 0 _) 1 _)
            have hszt := hbt.size
            have hszd := hid hBd.size
            have hN9 := hid (show NodsAt Y9 (.slice a6 (setL l n3).length c6) (setL l n3) by
              rw [hY9]; exact NodsAt.other hv6 (w.heap.size + 1) (fun e => by have := hf6 _ e; have := hZY.out; simp at hszt; omega) (by simp) (fun k hk => (block_set_other (by show k ≠ w.heap.size + 1; exact hk)).trans (block_set_other (by show k ≠ w.heap.size + 1; exact hk))))
            have hB9 := hid (show Below w.heap.size w Y9 by rw [hY9]; exact (hBd.setCell (by show w.heap.size ≤ w.heap.size + 1; omega) _).setCell (by show w.heap.size ≤ w.heap.size + 1; omega) _)
            replace hY9 := hid hY9
            clear hT hBd hbt hb6 hv6 hf6 g0 g1 e0 e1 q0 q1 q2 q3 d0 d1 d2 d3 d4 d5 d6 d7 d8 d9 d10 d11 hlq hzq hszt
            go_wp2_with fail
            refine bodyPost_ret (results_cs rfl _ _ (w.heap.size + 1) _ _ _ _ _ rfl rfl hres.out Try.underlying32 rfl (by kernel_rfl)) rfl ?_
            refine ⟨.slice a6 (setL l n3).length c6, ?_, ?_, hB9.out⟩
            · rw [hdE.out]; rfl
            · rw [hdE.out]; exact hN9.out
      | false =>
        have hoo : o = n.data.size := by rw [ho, hab.out]; rfl
        have hmode : (bits .and .u32 (n.mode : Int) 1073741824 != 0) = true := hap2
        clear ho hap2 hab
        subst hoo
        by_cases h1 : 4096 < n.data.size
        · have hdE := hid (show putT ⟨x, l⟩ p off b who now = (⟨x, l⟩, 3) by rw [hdT0.out, if_pos (.inl h1)])
          have h2 : (4096 : Int) < (n.data.size : Int) := by omega
          clear hdT0
          have hres := hid hA.out.res
          have hlt := hid (lt_of_block hA.out.res)
          have hN := hid (NodsAt.other (w' := w3.setRow (w.heap.size + 1) #[.int .u64 (x : Int), .slice a l.length c]) hA.out.row (w.heap.size + 1) (fun e => by have := hvo.out _ e; omega) (by simp) (fun k hk => setRow_other _ _ _ _ hk))
          go_wp2_with (refine wpList_store_row (by rfl) 32 (.tmp 12) (.tmp 48) (by rfl) (w.heap.size + 1) #[.int .u64 (x : Int), .slice a l.length c] (by rfl) (by rfl) 32 _ hres.out (by kernel_rfl) (by kernel_rfl) (by kernel_rfl) ?_)
          refine bodyPost_ret (results_cs rfl _ _ (w.heap.size + 1) _ _ _ _ _ rfl rfl (setRow_heap _ _ _ #[.int .u64 (x : Int), .slice a l.length c] _ _ hres.out) Try.underlying32 rfl (by kernel_rfl)) rfl ?_
          refine ⟨.slice a l.length c, ?_, ?_, below_setRow hBX.out (by omega) _⟩
          · rw [hdE.out]; rfl
          · rw [hdE.out]; exact hN.out
        have h2 : ¬ (4096 : Int) < (n.data.size : Int) := by omega
        obtain ⟨rr, hrr⟩ : ∃ r, r = 4096 - n.data.size := ⟨_, rfl⟩
        have krr : IntKind.u64.wrap (4096 - (n.data.size : Int)) = (rr : Int) := by rw [show (4096 : Int) - (n.data.size : Int) = (rr : Int) by omega]; exact IntWalk.u64_in _ (by omega)
        have kbz : IntKind.u64.wrap (b.size : Int) = (b.size : Int) := IntWalk.u64_in _ (by omega)
        by_cases h3 : 4096 - n.data.size < b.size
        · have hdE := hid (show putT ⟨x, l⟩ p off b who now = (⟨x, l⟩, 3) by rw [hdT0.out, if_pos (.inr h3)])
          have h4 : (rr : Int) < (b.size : Int) := by omega
          clear hdT0
          replace hrr := hid hrr
          have hres := hid hA.out.res
          have hlt := hid (lt_of_block hA.out.res)
          have hN := hid (NodsAt.other (w' := w3.setRow (w.heap.size + 1) #[.int .u64 (x : Int), .slice a l.length c]) hA.out.row (w.heap.size + 1) (fun e => by have := hvo.out _ e; omega) (by simp) (fun k hk => setRow_other _ _ _ _ hk))
          go_wp2_with (refine wpList_store_row (by rfl) 32 (.tmp 12) (.tmp 48) (by rfl) (w.heap.size + 1) #[.int .u64 (x : Int), .slice a l.length c] (by rfl) (by rfl) 32 _ hres.out (by kernel_rfl) (by kernel_rfl) (by kernel_rfl) ?_)
          refine bodyPost_ret (results_cs rfl _ _ (w.heap.size + 1) _ _ _ _ _ rfl rfl (setRow_heap _ _ _ #[.int .u64 (x : Int), .slice a l.length c] _ _ hres.out) Try.underlying32 rfl (by kernel_rfl)) rfl ?_
          refine ⟨.slice a l.length c, ?_, ?_, below_setRow hBX.out (by omega) _⟩
          · rw [hdE.out]; rfl
          · rw [hdE.out]; exact hN.out
        have h4 : ¬ (rr : Int) < (b.size : Int) := by omega
        by_cases h7 : b.size = 0
        · have hdE := hid (show putT ⟨x, l⟩ p off b who now = (⟨x, l⟩, 0) by rw [hdT0.out, if_neg (by omega), if_pos h7])
          obtain ⟨z1, z2⟩ := str_empty h7
          clear hdT0
          replace hrr := hid hrr
          have hres := hid hA.out.res
          have hlt := hid (lt_of_block hA.out.res)
          have hN := hid (NodsAt.other (w' := w3.setRow (w.heap.size + 1) #[.int .u64 (x : Int), .slice a l.length c]) hA.out.row (w.heap.size + 1) (fun e => by have := hvo.out _ e; omega) (by simp) (fun k hk => setRow_other _ _ _ _ hk))
          go_wp2_with (refine wpList_store_row (by rfl) 32 (.tmp 12) (.tmp 51) (by rfl) (w.heap.size + 1) #[.int .u64 (x : Int), .slice a l.length c] (by rfl) (by rfl) 32 _ hres.out (by kernel_rfl) (by kernel_rfl) (by kernel_rfl) ?_)
          refine bodyPost_ret (results_cs rfl _ _ (w.heap.size + 1) _ _ _ _ _ rfl rfl (setRow_heap _ _ _ #[.int .u64 (x : Int), .slice a l.length c] _ _ hres.out) Try.underlying32 rfl (by kernel_rfl)) rfl ?_
          refine ⟨.slice a l.length c, ?_, ?_, below_setRow hBX.out (by omega) _⟩
          · rw [hdE.out]; rfl
          · rw [hdE.out]; exact hN.out
        obtain ⟨z1, z2⟩ := str_full (show 0 < b.size by omega)
        have hdT1 := hid (show putT ⟨x, l⟩ p off b who now = dataT ⟨x, l⟩ n (putD n.data n.data.size b) who now by rw [hdT0.out, if_neg (by omega), if_neg h7])
        have hol : n.data.size ≤ 4096 := by omega
        have hbl : b.size ≤ 4096 := by omega
        have hpad := hid (rpadded_any n.data n.data.size w3 (by omega) (by omega))
        have hfs : (strL (padL n.data.data.toList n.data.size)).size = n.data.size := by rw [strL_size, padL_length]
        obtain ⟨fb, hfb⟩ : ∃ fb, fb = strL (padL n.data.data.toList n.data.size) := ⟨_, rfl⟩
        rw [← hfb] at hpad hfs
        obtain ⟨E0, hE0⟩ : ∃ E, E = n.data.size + b.size := ⟨_, rfl⟩
        have ki : IntKind.i64.wrap (n.data.size : Int) = (n.data.size : Int) := IntWalk.i64_in _ (by omega)
        have kq : IntKind.i64.wrap ((n.data.size : Int) + (b.size : Int)) = (E0 : Int) := by rw [show (n.data.size : Int) + (b.size : Int) = (E0 : Int) by omega]; exact IntWalk.i64_in _ (by omega)
        obtain ⟨fb2, hfb2⟩ : ∃ s, s = fb ++ b := ⟨_, rfl⟩
        have hf2s : fb2.size = fb.size + b.size := by rw [hfb2]; exact ByteArray.size_append
        have ks1 : ¬ 9223372036854775807 < fb.size + b.size := by omega
        have ec1 : fb ++ b = fb2 := hfb2.symm
        clear hdT0 h7
        replace hpath := hid hpath
        by_cases hen : E0 < n.data.size
        · have hez : (E0 : Int) < (n.data.size : Int) := by omega
          have hez2 : (E0 : Int) ≤ (n.data.size : Int) := by omega
          obtain ⟨tl, htl⟩ : ∃ s, s = n.data.extract E0 n.data.size := ⟨_, rfl⟩
          obtain ⟨nb, hnb⟩ : ∃ s, s = fb2 ++ tl := ⟨_, rfl⟩
          have htls : tl.size ≤ n.data.size := by rw [htl, ByteArray.size_extract]; omega
          have ks2 : ¬ 9223372036854775807 < fb2.size + tl.size := by omega
          have ec2 : fb2 ++ tl = nb := hnb.symm
          have ec3 : n.data.extract E0 n.data.size = tl := htl.symm
          have hput : nb = putD n.data n.data.size b := by
            rw [hnb, hfb2, htl, hfb]
            exact putD_eq n.data b n.data.size E0 (by omega)
          have hnbs : nb.size ≤ 10000 := by rw [hput, putD_size]; omega
          have hdT := hid (show putT ⟨x, l⟩ p off b who now = dataT ⟨x, l⟩ n nb who now by rw [hdT1.out, hput])
          clear hdT1
          replace hput := hid hput
          replace hf2s := hid hf2s
          replace hfs := hid hfs
          replace hfb2 := hid hfb2
          replace hfb := hid hfb
          replace hE0 := hid hE0
          replace hrr := hid hrr
          replace htls := hid htls
          replace htl := hid htl
          replace hnb := hid hnb
          go_upto_region 13 with fail
          go_wp2_with fail
          refine hpad.out.mono ?_
          rintro e w4 ⟨rfl, hb4⟩
          have hA0 := hA.out.below hb4
          have hBX0 := hid (sn hBX.out hb4)
          clear hA hBX q0 q1 c11 c2 hb4 hpad h2 h4 krr kbz kq z1 z2 hmode hkon
          have hA := hid hA0
          have hBX := hBX0
          clear hBX0
          have q0 := hA0.t0
          have q1 := hA0.t1
          have c11 : w4.cell? ⟨z, 11, none⟩ = some (.string n.data) := block_cell hA0.nd 11
          clear hA0
          go_upto_region 16 with fail
          clear hez
          have hB19 := bytesL_le (l := l) (fun m hm => show m.data.size ≤ 1000000 by have := ht.len m hm; omega)
          have hby := hid (fun Z (h : NodsAt Z (.slice a l.length c) l) => rbytes_any _ x l Z h (by have := ht.few; omega) (fun m hm => by have := ht.len m hm; omega))
          have hnB := bytes_mem hmem
          obtain ⟨B, hB⟩ : ∃ B, B = bytesL l := ⟨_, rfl⟩
          rw [← hB] at hby hB19 hnB
          have hBle : B ≤ 1000000000 := by have := ht.few; omega
          obtain ⟨D, hD⟩ : ∃ D, D = B - n.data.size := ⟨_, rfl⟩
          obtain ⟨E, hE⟩ : ∃ E, E = D + nb.size := ⟨_, rfl⟩
          have k1 : IntKind.i64.wrap ((B : Int) - (n.data.size : Int)) = (D : Int) := by rw [show (B : Int) - (n.data.size : Int) = (D : Int) by omega]; exact IntWalk.i64_in _ (by omega)
          have k2 : IntKind.i64.wrap ((D : Int) + (nb.size : Int)) = (E : Int) := by rw [show (D : Int) + (nb.size : Int) = (E : Int) by omega]; exact IntWalk.i64_in _ (by omega)
          replace hdT := hid (show putT ⟨x, l⟩ p off b who now = if 16384 < E then (⟨x, l⟩, 14) else (⟨x, setL l (touchN { n with data := nb } who now)⟩, 0) by rw [hdT.out, hE, hD, hB]; rfl)
          have hnok2 := hid (show NodOk { n with data := nb } from ⟨hnok.out.path, hnok.out.vers, hnok.out.mode, hnok.out.atm, hnok.out.mtm, hnok.out.name, hnok.out.uid, hnok.out.gid, hnok.out.muid, hnok.out.up, by show nb.size ≤ maxLen; unfold maxLen; omega⟩)
          replace hB := hid hB
          replace hD := hid hD
          replace hE := hid hE
          replace hmem := hid hmem
          clear hB19 hnB
          go_wp2_with fail
          have hZX := hid (lt_of_block hA.out.res)
          have hA1 := hA.out.below ((Below.refl w4.heap.size w4).drew)
          have hBd := sn hBX.out ((Below.refl w4.heap.size w4).drew)
          clear hA hBX q0 q1 c11
          have q0 := hA1.t0
          have q1 := hA1.t1
          have q11 := nodS' hA1.nd
          go_region_held3 (fun w' => w'.cell? ⟨w.heap.size, 0, none⟩ = some (.int .u64 (x : Int)) ∧ w'.cell? ⟨w.heap.size, 1, none⟩ = some (.slice a l.length c) ∧ w'.cell? ⟨z, 11, none⟩ = some (.string n.data))
            (first | exact ⟨hA1.t0, hA1.t1, nodS' hA1.nd⟩ | go_keep)
            ((go_at_call 44; (with_reducible refine (hby.out _ hA1.row).mono ?_); rintro e w5 ⟨rfl, hb5⟩; replace hA1 := hA1.below hb5; replace hBd := sn hBd hb5))
          have hA := hid hA1
          have hBX := hid hBd
          clear hA1 hBd q0 q1 q11 k1 k2 hb5 hby
          have q0 := hA.out.t0
          have q1 := hA.out.t1
          by_cases hE1 : 16384 < E
          · have hdE := hid (show putT ⟨x, l⟩ p off b who now = (⟨x, l⟩, 14) by rw [hdT.out, if_pos hE1])
            have k3 : decide ((16384 : Int) < (E : Int)) = true := by simp; omega
            have k4 : decide (16384 < E) = true := by simp; omega
            have k5 : (16384 : Int) < (E : Int) := by omega
            have hres := hid hA.out.res
            have hlt := hid (lt_of_block hA.out.res)
            have hN := hid (NodsAt.other (w' := w5.setRow (w.heap.size + 1) #[.int .u64 (x : Int), .slice a l.length c]) hA.out.row (w.heap.size + 1) (fun e => by have := hvo.out _ e; omega) (by simp) (fun k hk => setRow_other _ _ _ _ hk))
            go_wp2_with (refine wpList_store_row (by rfl) 32 (.tmp 12) (.tmp 85) (by rfl) (w.heap.size + 1) #[.int .u64 (x : Int), .slice a l.length c] (by rfl) (by rfl) 32 _ hres.out (by kernel_rfl) (by kernel_rfl) (by kernel_rfl) ?_)
            refine bodyPost_ret (results_cs rfl _ _ (w.heap.size + 1) _ _ _ _ _ rfl rfl (setRow_heap _ _ _ #[.int .u64 (x : Int), .slice a l.length c] _ _ hres.out) Try.underlying32 rfl (by kernel_rfl)) rfl ?_
            refine ⟨.slice a l.length c, ?_, ?_, below_setRow hBX.out (by omega) _⟩
            · rw [hdE.out]; rfl
            · rw [hdE.out]; exact hN.out
          have k3 : decide ((16384 : Int) < (E : Int)) = false := by simp; omega
          have k4 : decide (16384 < E) = false := by simp; omega
          have k5 : ¬ (16384 : Int) < (E : Int) := by omega
          obtain ⟨n2, hn2⟩ : ∃ n2 : Nod, n2 = { n with data := nb } := ⟨_, rfl⟩
          rw [← hn2] at hdT hnok2
          obtain ⟨n3, hn3⟩ : ∃ n3 : Nod, n3 = touchN n2 who now := ⟨_, rfl⟩
          have hdE := hid (show putT ⟨x, l⟩ p off b who now = (⟨x, setL l n3⟩, 0) by rw [hdT.out, if_neg hE1, hn3])
          have c11 : w5.cell? ⟨z, 11, none⟩ = some (.string n.data) := block_cell hA.out.nd 11
          have f11 : w5.frozen? ⟨z, 11, none⟩ = false := block_free hA.out.nd 11
          obtain ⟨Y, hY⟩ : ∃ Y, Y = w5.setCell ⟨z, 11, none⟩ (.string nb) := ⟨_, rfl⟩
          have hBY : Below w.heap.size w Y := by rw [hY]; exact hBX.out.setCell (by show w.heap.size ≤ z; have := hs2.out; omega) _
          have hAY : TrR w.heap.size z (w.heap.size + 1) x (.slice a l.length c) l n2 Y := by
            have hrow := hv.below hBY
            rw [hY] at hrow ⊢
            exact hA.out.put (by have := hs2.out; omega) (by have := hs2.out; omega) 11 (.string nb) (by rw [hn2]; rfl) hrow
          have htc : Hid (∀ Z, Calls Try.prog 71 #[.agg #[.int .u64 (n2.path : Int), .int .u32 (n2.vers : Int), .int .u32 (n2.mode : Int), .int .u32 (n2.atm : Int), .int .u32 (n2.mtm : Int), .string n2.name, .string n2.uid, .string n2.gid, .string n2.muid, .int .u64 (n2.up : Int), .bool n2.gone, .string n2.data], .string who, .int .u32 (now : Int)] Z fun e w' => e = .returned (.agg n3.cells) ∧ Below Z.heap.size Z w') := hid (fun Z => by rw [hn3]; exact rtouched_any n2 who now Z hnok2.out)
          have hst : Hid (∀ Z, NodsAt Z (.slice a l.length c) l → Calls Try.prog 70 #[.agg #[.int .u64 (x : Int), .slice a l.length c], .agg n3.cells] Z (SetPost Z x (setL l n3))) := hid (fun Z hZ => by rw [← setR_eq ht.sort]; exact rset_any _ x l n3 Z hZ (by have := ht.few; omega))
          clear hdT
          go_upto_region 19 with (rw [← hY]; replace hY := hid hY)
          try (rw [← hY]; replace hY := hid hY)
          clear q0 q1 hA hBX c11 f11 k3 k4 k5 hE1
          replace hn2 := hid hn2
          replace hn3 := hid hn3
          replace ht := hid ht
          replace hv := hid hv
          go_wp2_with fail
          have hZY := hid (lt_of_block hAY.res)
          have hT := hAY.below ((Below.refl Y.heap.size Y).drew)
          have hBd := (sn hBY ((Below.refl Y.heap.size Y).drew))
          clear hAY hBY
          have q0 := hT.t0
          have q1 := hT.t1
          obtain ⟨d0, d1, d2, d3, d4, d5, d6, d7, d8, d9, d10, d11⟩ := nodSR hT.nd
          go_region_with (first
            | (go_at_call 71; (with_reducible refine (htc.out _).mono ?_); rintro e wt ⟨rfl, hbt⟩; replace hT := hT.below hbt; have q8 := hid hT.tr; replace hBd := sn hBd hbt; have q2 := hT.t0; have q3 := hT.t1)
            | (go_at_call 70; (with_reducible refine (hst.out _ hT.row).mono ?_); rintro e w6 ⟨v6, rfl, hv6, hf6, hb6⟩; obtain ⟨a6, c6, rfl, _, _⟩ := hv6.form; replace hT := hT.below hb6; replace hBd := sn hBd hb6; have g0 := block_cell hT.res 0; have g1 := block_cell hT.res 1; have e0 := block_free hT.res 0; have e1 := block_free hT.res 1))
          all_goals
            obtain ⟨Y9, hY9⟩ : ∃ Z, Z = (w6.setCell ⟨w.heap.size + 1, 0, none⟩ (.int .u64 (x : Int))).setCell ⟨w.heap.size + 1, 1, none⟩ (.slice a6 (setL l n3).length c6) := ⟨_, rfl⟩
            rw [← hY9]
            have hlq := lt_of_block q8.out
            have hzq := hZX.out
            have hres := hid (show Y9.heap[w.heap.size + 1]? = some (.cells #[.int .u64 (x : Int), .slice a6 (setL l n3).length c6] 32 (0, 0)) by rw [hY9]; exact block_set (block_set hT.res 0 _) 1 _)
            have hszt := hbt.size
            have hszd := hid hBd.size
            have hN9 := hid (show NodsAt Y9 (.slice a6 (setL l n3).length c6) (setL l n3) by
              rw [hY9]; exact NodsAt.other hv6 (w.heap.size + 1) (fun e => by have := hf6 _ e; have := hZY.out; simp at hszt; omega) (by simp) (fun k hk => (block_set_other (by show k ≠ w.heap.size + 1; exact hk)).trans (block_set_other (by show k ≠ w.heap.size + 1; exact hk))))
            have hB9 := hid (show Below w.heap.size w Y9 by rw [hY9]; exact (hBd.setCell (by show w.heap.size ≤ w.heap.size + 1; omega) _).setCell (by show w.heap.size ≤ w.heap.size + 1; omega) _)
            replace hY9 := hid hY9
            clear hT hBd hbt hb6 hv6 hf6 g0 g1 e0 e1 q0 q1 q2 q3 d0 d1 d2 d3 d4 d5 d6 d7 d8 d9 d10 d11 hlq hzq hszt
            go_wp2_with fail
            refine bodyPost_ret (results_cs rfl _ _ (w.heap.size + 1) _ _ _ _ _ rfl rfl hres.out Try.underlying32 rfl (by kernel_rfl)) rfl ?_
            refine ⟨.slice a6 (setL l n3).length c6, ?_, ?_, hB9.out⟩
            · rw [hdE.out]; rfl
            · rw [hdE.out]; exact hN9.out
        · have hez : ¬ (E0 : Int) < (n.data.size : Int) := by omega
          obtain ⟨nb, hnb⟩ : ∃ s, s = fb2 := ⟨_, rfl⟩
          have hput : nb = putD n.data n.data.size b := by
            rw [← putD_eq n.data b n.data.size n.data.size (by omega), ← hfb, ← hfb2, hnb]
            exact toListInj2 (by simp)
          have hnbs : nb.size ≤ 10000 := by rw [hput, putD_size]; omega
          have hdT := hid (show putT ⟨x, l⟩ p off b who now = dataT ⟨x, l⟩ n nb who now by rw [hdT1.out, hput])
          clear hdT1
          replace hput := hid hput
          replace hf2s := hid hf2s
          replace hfs := hid hfs
          replace hfb2 := hid hfb2
          replace hfb := hid hfb
          replace hE0 := hid hE0
          replace hrr := hid hrr
          subst hnb
          go_upto_region 13 with fail
          go_wp2_with fail
          refine hpad.out.mono ?_
          rintro e w4 ⟨rfl, hb4⟩
          have hA0 := hA.out.below hb4
          have hBX0 := hid (sn hBX.out hb4)
          clear hA hBX q0 q1 c11 c2 hb4 hpad h2 h4 krr kbz kq z1 z2 hmode hkon
          have hA := hid hA0
          have hBX := hBX0
          clear hBX0
          have q0 := hA0.t0
          have q1 := hA0.t1
          have c11 : w4.cell? ⟨z, 11, none⟩ = some (.string n.data) := block_cell hA0.nd 11
          clear hA0
          go_upto_region 16 with fail
          clear hez
          have hB19 := bytesL_le (l := l) (fun m hm => show m.data.size ≤ 1000000 by have := ht.len m hm; omega)
          have hby := hid (fun Z (h : NodsAt Z (.slice a l.length c) l) => rbytes_any _ x l Z h (by have := ht.few; omega) (fun m hm => by have := ht.len m hm; omega))
          have hnB := bytes_mem hmem
          obtain ⟨B, hB⟩ : ∃ B, B = bytesL l := ⟨_, rfl⟩
          rw [← hB] at hby hB19 hnB
          have hBle : B ≤ 1000000000 := by have := ht.few; omega
          obtain ⟨D, hD⟩ : ∃ D, D = B - n.data.size := ⟨_, rfl⟩
          obtain ⟨E, hE⟩ : ∃ E, E = D + nb.size := ⟨_, rfl⟩
          have k1 : IntKind.i64.wrap ((B : Int) - (n.data.size : Int)) = (D : Int) := by rw [show (B : Int) - (n.data.size : Int) = (D : Int) by omega]; exact IntWalk.i64_in _ (by omega)
          have k2 : IntKind.i64.wrap ((D : Int) + (nb.size : Int)) = (E : Int) := by rw [show (D : Int) + (nb.size : Int) = (E : Int) by omega]; exact IntWalk.i64_in _ (by omega)
          replace hdT := hid (show putT ⟨x, l⟩ p off b who now = if 16384 < E then (⟨x, l⟩, 14) else (⟨x, setL l (touchN { n with data := nb } who now)⟩, 0) by rw [hdT.out, hE, hD, hB]; rfl)
          have hnok2 := hid (show NodOk { n with data := nb } from ⟨hnok.out.path, hnok.out.vers, hnok.out.mode, hnok.out.atm, hnok.out.mtm, hnok.out.name, hnok.out.uid, hnok.out.gid, hnok.out.muid, hnok.out.up, by show nb.size ≤ maxLen; unfold maxLen; omega⟩)
          replace hB := hid hB
          replace hD := hid hD
          replace hE := hid hE
          replace hmem := hid hmem
          clear hB19 hnB
          go_wp2_with fail
          have hZX := hid (lt_of_block hA.out.res)
          have hA1 := hA.out.below ((Below.refl w4.heap.size w4).drew)
          have hBd := sn hBX.out ((Below.refl w4.heap.size w4).drew)
          clear hA hBX q0 q1 c11
          have q0 := hA1.t0
          have q1 := hA1.t1
          have q11 := nodS' hA1.nd
          go_region_held3 (fun w' => w'.cell? ⟨w.heap.size, 0, none⟩ = some (.int .u64 (x : Int)) ∧ w'.cell? ⟨w.heap.size, 1, none⟩ = some (.slice a l.length c) ∧ w'.cell? ⟨z, 11, none⟩ = some (.string n.data))
            (first | exact ⟨hA1.t0, hA1.t1, nodS' hA1.nd⟩ | go_keep)
            ((go_at_call 44; (with_reducible refine (hby.out _ hA1.row).mono ?_); rintro e w5 ⟨rfl, hb5⟩; replace hA1 := hA1.below hb5; replace hBd := sn hBd hb5))
          have hA := hid hA1
          have hBX := hid hBd
          clear hA1 hBd q0 q1 q11 k1 k2 hb5 hby
          have q0 := hA.out.t0
          have q1 := hA.out.t1
          by_cases hE1 : 16384 < E
          · have hdE := hid (show putT ⟨x, l⟩ p off b who now = (⟨x, l⟩, 14) by rw [hdT.out, if_pos hE1])
            have k3 : decide ((16384 : Int) < (E : Int)) = true := by simp; omega
            have k4 : decide (16384 < E) = true := by simp; omega
            have k5 : (16384 : Int) < (E : Int) := by omega
            have hres := hid hA.out.res
            have hlt := hid (lt_of_block hA.out.res)
            have hN := hid (NodsAt.other (w' := w5.setRow (w.heap.size + 1) #[.int .u64 (x : Int), .slice a l.length c]) hA.out.row (w.heap.size + 1) (fun e => by have := hvo.out _ e; omega) (by simp) (fun k hk => setRow_other _ _ _ _ hk))
            go_wp2_with (refine wpList_store_row (by rfl) 32 (.tmp 12) (.tmp 85) (by rfl) (w.heap.size + 1) #[.int .u64 (x : Int), .slice a l.length c] (by rfl) (by rfl) 32 _ hres.out (by kernel_rfl) (by kernel_rfl) (by kernel_rfl) ?_)
            refine bodyPost_ret (results_cs rfl _ _ (w.heap.size + 1) _ _ _ _ _ rfl rfl (setRow_heap _ _ _ #[.int .u64 (x : Int), .slice a l.length c] _ _ hres.out) Try.underlying32 rfl (by kernel_rfl)) rfl ?_
            refine ⟨.slice a l.length c, ?_, ?_, below_setRow hBX.out (by omega) _⟩
            · rw [hdE.out]; rfl
            · rw [hdE.out]; exact hN.out
          have k3 : decide ((16384 : Int) < (E : Int)) = false := by simp; omega
          have k4 : decide (16384 < E) = false := by simp; omega
          have k5 : ¬ (16384 : Int) < (E : Int) := by omega
          obtain ⟨n2, hn2⟩ : ∃ n2 : Nod, n2 = { n with data := nb } := ⟨_, rfl⟩
          rw [← hn2] at hdT hnok2
          obtain ⟨n3, hn3⟩ : ∃ n3 : Nod, n3 = touchN n2 who now := ⟨_, rfl⟩
          have hdE := hid (show putT ⟨x, l⟩ p off b who now = (⟨x, setL l n3⟩, 0) by rw [hdT.out, if_neg hE1, hn3])
          have c11 : w5.cell? ⟨z, 11, none⟩ = some (.string n.data) := block_cell hA.out.nd 11
          have f11 : w5.frozen? ⟨z, 11, none⟩ = false := block_free hA.out.nd 11
          obtain ⟨Y, hY⟩ : ∃ Y, Y = w5.setCell ⟨z, 11, none⟩ (.string nb) := ⟨_, rfl⟩
          have hBY : Below w.heap.size w Y := by rw [hY]; exact hBX.out.setCell (by show w.heap.size ≤ z; have := hs2.out; omega) _
          have hAY : TrR w.heap.size z (w.heap.size + 1) x (.slice a l.length c) l n2 Y := by
            have hrow := hv.below hBY
            rw [hY] at hrow ⊢
            exact hA.out.put (by have := hs2.out; omega) (by have := hs2.out; omega) 11 (.string nb) (by rw [hn2]; rfl) hrow
          have htc : Hid (∀ Z, Calls Try.prog 71 #[.agg #[.int .u64 (n2.path : Int), .int .u32 (n2.vers : Int), .int .u32 (n2.mode : Int), .int .u32 (n2.atm : Int), .int .u32 (n2.mtm : Int), .string n2.name, .string n2.uid, .string n2.gid, .string n2.muid, .int .u64 (n2.up : Int), .bool n2.gone, .string n2.data], .string who, .int .u32 (now : Int)] Z fun e w' => e = .returned (.agg n3.cells) ∧ Below Z.heap.size Z w') := hid (fun Z => by rw [hn3]; exact rtouched_any n2 who now Z hnok2.out)
          have hst : Hid (∀ Z, NodsAt Z (.slice a l.length c) l → Calls Try.prog 70 #[.agg #[.int .u64 (x : Int), .slice a l.length c], .agg n3.cells] Z (SetPost Z x (setL l n3))) := hid (fun Z hZ => by rw [← setR_eq ht.sort]; exact rset_any _ x l n3 Z hZ (by have := ht.few; omega))
          clear hdT
          go_upto_region 19 with (rw [← hY]; replace hY := hid hY)
          try (rw [← hY]; replace hY := hid hY)
          clear q0 q1 hA hBX c11 f11 k3 k4 k5 hE1
          replace hn2 := hid hn2
          replace hn3 := hid hn3
          replace ht := hid ht
          replace hv := hid hv
          go_wp2_with fail
          have hZY := hid (lt_of_block hAY.res)
          have hT := hAY.below ((Below.refl Y.heap.size Y).drew)
          have hBd := (sn hBY ((Below.refl Y.heap.size Y).drew))
          clear hAY hBY
          have q0 := hT.t0
          have q1 := hT.t1
          obtain ⟨d0, d1, d2, d3, d4, d5, d6, d7, d8, d9, d10, d11⟩ := nodSR hT.nd
          go_region_with (first
            | (go_at_call 71; (with_reducible refine (htc.out _).mono ?_); rintro e wt ⟨rfl, hbt⟩; replace hT := hT.below hbt; have q8 := hid hT.tr; replace hBd := sn hBd hbt; have q2 := hT.t0; have q3 := hT.t1)
            | (go_at_call 70; (with_reducible refine (hst.out _ hT.row).mono ?_); rintro e w6 ⟨v6, rfl, hv6, hf6, hb6⟩; obtain ⟨a6, c6, rfl, _, _⟩ := hv6.form; replace hT := hT.below hb6; replace hBd := sn hBd hb6; have g0 := block_cell hT.res 0; have g1 := block_cell hT.res 1; have e0 := block_free hT.res 0; have e1 := block_free hT.res 1))
          all_goals
            obtain ⟨Y9, hY9⟩ : ∃ Z, Z = (w6.setCell ⟨w.heap.size + 1, 0, none⟩ (.int .u64 (x : Int))).setCell ⟨w.heap.size + 1, 1, none⟩ (.slice a6 (setL l n3).length c6) := ⟨_, rfl⟩
            rw [← hY9]
            have hlq := lt_of_block q8.out
            have hzq := hZX.out
            have hres := hid (show Y9.heap[w.heap.size + 1]? = some (.cells #[.int .u64 (x : Int), .slice a6 (setL l n3).length c6] 32 (0, 0)) by rw [hY9]; exact block_set (block_set hT.res 0 _) 1 _)
            have hszt := hbt.size
            have hszd := hid hBd.size
            have hN9 := hid (show NodsAt Y9 (.slice a6 (setL l n3).length c6) (setL l n3) by
              rw [hY9]; exact NodsAt.other hv6 (w.heap.size + 1) (fun e => by have := hf6 _ e; have := hZY.out; simp at hszt; omega) (by simp) (fun k hk => (block_set_other (by show k ≠ w.heap.size + 1; exact hk)).trans (block_set_other (by show k ≠ w.heap.size + 1; exact hk))))
            have hB9 := hid (show Below w.heap.size w Y9 by rw [hY9]; exact (hBd.setCell (by show w.heap.size ≤ w.heap.size + 1; omega) _).setCell (by show w.heap.size ≤ w.heap.size + 1; omega) _)
            replace hY9 := hid hY9
            clear hT hBd hbt hb6 hv6 hf6 g0 g1 e0 e1 q0 q1 q2 q3 d0 d1 d2 d3 d4 d5 d6 d7 d8 d9 d10 d11 hlq hzq hszt
            go_wp2_with fail
            refine bodyPost_ret (results_cs rfl _ _ (w.heap.size + 1) _ _ _ _ _ rfl rfl hres.out Try.underlying32 rfl (by kernel_rfl)) rfl ?_
            refine ⟨.slice a6 (setL l n3).length c6, ?_, ?_, hB9.out⟩
            · rw [hdE.out]; rfl
            · rw [hdE.out]; exact hN9.out
end
end Go.Proofs.Ytpmlhmficmillaa

namespace Go.Proofs.Ytpmlhmficmillaa
section
open Go.RowKit
set_option maxRecDepth 100000
set_option linter.unusedVariables false

theorem b0b1R {X : World} {k : Nat} {T : TypeId} {u0 u1 : Value} {fr : Nat × Nat} (h : X.heap[k]? = some (.cells #[u0, u1] T fr)) : X.cell? ⟨k, 0, none⟩ = some u0 ∧ X.cell? ⟨k, 1, none⟩ = some u1 := ⟨block_cell h 0, block_cell h 1⟩
set_option maxHeartbeats 12800000 in
theorem rrename_any (v : Value) (x : Nat) (l : List Nod) (p : Nat) (name : ByteArray) (w : World) (hv : NodsAt w v l) (ht : TrOk l) (hne : l ≠ []) (hname : name.size ≤ 1000000) :
    Calls Try.prog 41 #[.agg #[.int .u64 (x : Int), v], .int .u64 (p : Int), .string name] w (RErr w (renameT ⟨x, l⟩ p name)) := by
  have hnm : Hid (∀ Z, Calls Try.prog 69 #[.string name] Z fun e w' => e = .returned (.int .i64 (nameN name : Int)) ∧ Z = w') := hid (fun Z => ref_name_any name Z (by unfold maxLen; omega))
  obtain ⟨a, c, rfl, g1, g2⟩ := hv.form
  unfold maxLen at g2
  have hvo := hid (rown hv hne)
  obtain ⟨W, hW⟩ : ∃ W, W = (w.alloc (.cells #[.int .u64 (x : Int), .slice a l.length c] 32)).alloc (.cells #[.int .u64 0, .slice none 0 0] 32) := ⟨_, rfl⟩
  have hb0 : Below w.heap.size w W := by rw [hW]; exact ((Below.refl w.heap.size w).alloc (Nat.le_refl _) _).alloc (by simp) _
  have hx0 : W.heap[w.heap.size]? = some (.cells #[.int .u64 (x : Int), .slice a l.length c] 32 (0, 0)) := by rw [hW, heap_alloc_old _ _ (by simp), heap_alloc_new]
  have hy0 : W.heap[w.heap.size + 1]? = some (.cells #[.int .u64 0, .slice none 0 0] 32 (0, 0)) := by rw [hW]; exact heap2 _ _ _
  have hfi := hid (rget_any _ x l p W (hv.below hb0) (by have := ht.few; omega))
  have e0 := block_cell hx0 0
  have e1 := block_cell hx0 1
  have hv0 := hid (hv.below hb0)
  replace hb0 := hid hb0
  replace hx0 := hid hx0
  replace hy0 := hid hy0
  go_enter Try.func41, Try.ntmps41
  go_upto_region 1 with (rw [← hW]; replace hW := hid hW)
  try (rw [← hW]; replace hW := hid hW)
  go_wp2_with fail
  refine hfi.out.mono ?_
  rintro e w2 ⟨rfl, hb2⟩
  have hB2 := hid (sn hb0.out hb2)
  have hs2 := hid (lt_of_block ((hb2.block _ (lt_of_block hy0.out)).trans hy0.out))
  obtain ⟨n, hn⟩ : ∃ n, n = getN l p := ⟨_, rfl⟩
  have hnew := hid (heap_alloc_new w2 (.cells zeroNod.cells 71))
  obtain ⟨X, hX⟩ : ∃ W, W = boxR w2 n := ⟨_, rfl⟩
  have hbX : Below w2.heap.size w2 X := by rw [hX]; exact boxR_below _ _
  have hBX := hid (sn hB2.out hbX)
  have hA : TrR w.heap.size w2.heap.size (w.heap.size + 1) x (.slice a l.length c) l n X :=
    ⟨(hbX.block _ (by have := hs2.out; omega)).trans ((hb2.block _ (lt_of_block hx0.out)).trans hx0.out), by rw [hX]; exact boxR_heap _ _, (hbX.block _ hs2.out).trans ((hb2.block _ (lt_of_block hy0.out)).trans hy0.out), (hv0.out.below hb2).below hbX⟩
  have q0 := hA.t0
  have q1 := hA.t1
  unfold boxR at hX
  rw [zeroNod_cells] at hX hnew
  rw [← hn]
  clear hb2 hbX hfi e0 e1 hB2 hx0 hy0 hv0 hb0
  replace hA := hid hA
  replace hn := hid hn
  go_upto_region 2 with (first
    | (rw [← hX]; replace hX := hid hX)
    | (refine wpList_store_row (by rfl) 71 (.tmp 8) (.tmp 16) (by rfl) w2.heap.size n.cells (by rfl) (by rfl) 71 _ hnew.out (by kernel_rfl) (by kernel_rfl) (nod_one n) ?_))
  try (rw [← hX]; replace hX := hid hX)
  clear hnew
  generalize w2.heap.size = z at *
  have q9 : X.cell? ⟨z, 9, none⟩ = some (.int .u64 (n.up : Int)) := block_cell hA.out.nd 9
  have hfnd := hid (rfind_any _ x l n.up name X hA.out.row (by have := ht.few; omega))
  go_wp2_with fail
  refine hfnd.out.mono ?_
  rintro e w3 ⟨rfl, hb3⟩
  have hA0 := hA.out.below hb3
  have hBX0 := hid (sn hBX.out hb3)
  clear hA hBX q0 q1 q9 hb3 hfnd
  have hA := hid hA0
  have hBX := hBX0
  clear hBX0 hA0
  have hs3 := hid (lt_of_block hA.out.nd)
  have hs3r := hid (lt_of_block hA.out.res)
  obtain ⟨m, hm⟩ : ∃ m, m = (findL l n.up name).getD zeroNod := ⟨_, rfl⟩
  obtain ⟨is, his⟩ : ∃ is, is = (findL l n.up name).isSome := ⟨_, rfl⟩
  rw [← hm, ← his]
  replace hm := hid hm
  replace his := hid his
  have hnew := hid (heap_alloc_new w3 (.cells zeroNod.cells 71))
  obtain ⟨X2, hX2⟩ : ∃ W, W = boxR w3 m := ⟨_, rfl⟩
  have hbX : Below w3.heap.size w3 X2 := by rw [hX2]; exact boxR_below _ _
  have hD0 := hid (show X2.heap[w3.heap.size]? = some (.cells m.cells 71 (0, 0)) by rw [hX2]; exact boxR_heap _ _)
  unfold boxR at hX2
  rw [zeroNod_cells] at hX2 hnew
  have hA0 := hA.out.below hbX
  have hBX0 := hid (sn hBX.out hbX)
  clear hA hBX hbX
  have hA := hid hA0
  have hBX := hBX0
  clear hBX0
  have q0 := hA0.t0
  have q1 := hA0.t1
  have q10 : X2.cell? ⟨z, 10, none⟩ = some (.bool n.gone) := block_cell hA0.nd 10
  clear hA0
  go_upto_region 3 with (first
    | (rw [← hX2]; replace hX2 := hid hX2)
    | (refine wpList_store_row (by rfl) 71 (.tmp 10) (.tmp 24) (by rfl) w3.heap.size m.cells (by rfl) (by rfl) 71 _ hnew.out (by kernel_rfl) (by kernel_rfl) (nod_one m) ?_))
  try (rw [← hX2]; replace hX2 := hid hX2)
  clear hnew
  generalize w3.heap.size = z2 at *
  cases hg : getL l p with
  | none =>
    have hdE := hid (show renameT ⟨x, l⟩ p name = (⟨x, l⟩, 6) by unfold renameT; rw [hg])
    simp only [Option.isSome_none]
    clear hg
    have hres := hid hA.out.res
    have hlt := hid (lt_of_block hA.out.res)
    have hN := hid (NodsAt.other (w' := X2.setRow (w.heap.size + 1) #[.int .u64 (x : Int), .slice a l.length c]) hA.out.row (w.heap.size + 1) (fun e => by have := hvo.out _ e; omega) (by simp) (fun k hk => setRow_other _ _ _ _ hk))
    go_wp2_with (refine wpList_store_row (by rfl) 32 (.tmp 6) (.tmp 29) (by rfl) (w.heap.size + 1) #[.int .u64 (x : Int), .slice a l.length c] (by rfl) (by rfl) 32 _ hres.out (by kernel_rfl) (by kernel_rfl) (by kernel_rfl) ?_)
    refine bodyPost_ret (results_cs rfl _ _ (w.heap.size + 1) _ _ _ _ _ rfl rfl (setRow_heap _ _ _ #[.int .u64 (x : Int), .slice a l.length c] _ _ hres.out) Try.underlying32 rfl (by kernel_rfl)) rfl ?_
    refine ⟨.slice a l.length c, ?_, ?_, below_setRow hBX.out (by omega) _⟩
    · rw [hdE.out]; rfl
    · rw [hdE.out]; exact hN.out
  | some y =>
    have hny : n = y := by rw [hn.out]; unfold getN; rw [hg]; rfl
    subst hny
    simp only [Option.isSome_some]
    by_cases h1 : p = 1
    · have hdE := hid (show renameT ⟨x, l⟩ p name = (⟨x, l⟩, 5) by unfold renameT; rw [hg]; simp only; rw [if_pos h1])
      have k1 : ((p : Int) == 1) = true := by simpa using (by omega : (p : Int) = 1)
      clear hg h1
      have hres := hid hA.out.res
      have hlt := hid (lt_of_block hA.out.res)
      have hN := hid (NodsAt.other (w' := X2.setRow (w.heap.size + 1) #[.int .u64 (x : Int), .slice a l.length c]) hA.out.row (w.heap.size + 1) (fun e => by have := hvo.out _ e; omega) (by simp) (fun k hk => setRow_other _ _ _ _ hk))
      go_wp2_with (refine wpList_store_row (by rfl) 32 (.tmp 6) (.tmp 33) (by rfl) (w.heap.size + 1) #[.int .u64 (x : Int), .slice a l.length c] (by rfl) (by rfl) 32 _ hres.out (by kernel_rfl) (by kernel_rfl) (by kernel_rfl) ?_)
      refine bodyPost_ret (results_cs rfl _ _ (w.heap.size + 1) _ _ _ _ _ rfl rfl (setRow_heap _ _ _ #[.int .u64 (x : Int), .slice a l.length c] _ _ hres.out) Try.underlying32 rfl (by kernel_rfl)) rfl ?_
      refine ⟨.slice a l.length c, ?_, ?_, below_setRow hBX.out (by omega) _⟩
      · rw [hdE.out]; rfl
      · rw [hdE.out]; exact hN.out
    have k1 : ((p : Int) == 1) = false := by rw [beq_eq_false_iff_ne]; omega
    cases hgn : n.gone with
    | true =>
      have hdE := hid (show renameT ⟨x, l⟩ p name = (⟨x, l⟩, 6) by unfold renameT; rw [hg]; simp only; rw [if_neg h1, hgn]; rfl)
      rw [hgn] at q10
      clear hg hgn h1
      have hres := hid hA.out.res
      have hlt := hid (lt_of_block hA.out.res)
      have hN := hid (NodsAt.other (w' := X2.setRow (w.heap.size + 1) #[.int .u64 (x : Int), .slice a l.length c]) hA.out.row (w.heap.size + 1) (fun e => by have := hvo.out _ e; omega) (by simp) (fun k hk => setRow_other _ _ _ _ hk))
      go_wp2_with (refine wpList_store_row (by rfl) 32 (.tmp 6) (.tmp 37) (by rfl) (w.heap.size + 1) #[.int .u64 (x : Int), .slice a l.length c] (by rfl) (by rfl) 32 _ hres.out (by kernel_rfl) (by kernel_rfl) (by kernel_rfl) ?_)
      refine bodyPost_ret (results_cs rfl _ _ (w.heap.size + 1) _ _ _ _ _ rfl rfl (setRow_heap _ _ _ #[.int .u64 (x : Int), .slice a l.length c] _ _ hres.out) Try.underlying32 rfl (by kernel_rfl)) rfl ?_
      refine ⟨.slice a l.length c, ?_, ?_, below_setRow hBX.out (by omega) _⟩
      · rw [hdE.out]; rfl
      · rw [hdE.out]; exact hN.out
    | false =>
      obtain ⟨hmem, hpath⟩ := getL_some hg
      rw [hgn] at q10
      obtain ⟨ne, hnE⟩ : ∃ e, e = nameN name := ⟨_, rfl⟩
      rw [← hnE] at hnm
      by_cases hE0 : ne = 0
      case neg =>
        have hdE := hid (show renameT ⟨x, l⟩ p name = (⟨x, l⟩, ne) by unfold renameT; rw [hg]; simp only; rw [if_neg h1, hgn, if_neg (by simp), if_pos (by rw [← hnE]; exact hE0), hnE])
        have k0 : ((ne : Int) != 0) = true := by simpa using hE0
        clear hg hgn h1 hE0
        replace hnE := hid hnE
        replace hmem := hid hmem
        replace hpath := hid hpath
        go_wp2_with (go_at_call 69; (with_reducible refine (hnm.out _).mono ?_); rintro e wn ⟨rfl, hwn⟩; subst hwn)
        have hT := hA.out.below ((Below.refl X2.heap.size X2).drew)
        have hBd := (sn hBX.out ((Below.refl X2.heap.size X2).drew))
        have hlt0 := hid (lt_of_block hT.res)
        clear q10
        have q2 := hT.t0
        have q3 := hT.t1
        have j0 := block_cell hA.out.res 0
        have j1 := block_cell hA.out.res 1
        have j2 := block_free hA.out.res 0
        have j3 := block_free hA.out.res 1
        go_region_held3 (fun w' => w'.cell? ⟨w.heap.size, 0, none⟩ = some (.int .u64 (x : Int)) ∧ w'.cell? ⟨w.heap.size, 1, none⟩ = some (.slice a l.length c))
          (first | exact ⟨hT.t0, hT.t1⟩ | exact b0b1R (hT.two (by omega) (by have := hs2.out; omega) 0 1 _ _).1 | go_keep)
          ((go_at_call 69; (with_reducible refine (hnm.out _).mono ?_); rintro e wn ⟨rfl, hwn⟩; subst hwn; have g0 := block_cell hT.res 0; have g1 := block_cell hT.res 1; have e0 := block_free hT.res 0; have e1 := block_free hT.res 1))
        all_goals
          obtain ⟨Y9, hY9⟩ : ∃ Z, Z = ((X2.setCell ⟨w.heap.size + 1, 0, none⟩ (.int .u64 (x : Int))).setCell ⟨w.heap.size + 1, 1, none⟩ (.slice a l.length c)).drew := ⟨_, rfl⟩
          rw [← hY9]
          have hres := hid (show Y9.heap[w.heap.size + 1]? = some (.cells #[.int .u64 (x : Int), .slice a l.length c] 32 (0, 0)) by rw [hY9]; exact block_set (block_set hA.out.res 0 _) 1 _)
          have hN9 := hid (show NodsAt Y9 (.slice a l.length c) l by
            rw [hY9]; exact NodsAt.other hA.out.row (w.heap.size + 1) (fun e => by have := hvo.out _ e; omega) (by simp) (fun k hk => (block_set_other (by show k ≠ w.heap.size + 1; exact hk)).trans (block_set_other (by show k ≠ w.heap.size + 1; exact hk))))
          have hB9 := hid (show Below w.heap.size w Y9 by rw [hY9]; exact ((hBX.out.setCell (by show w.heap.size ≤ w.heap.size + 1; omega) _).setCell (by show w.heap.size ≤ w.heap.size + 1; omega) _).drew)
          replace hY9 := hid hY9
          clear hT hBd q0 q1 q2 q3 j0 j1 j2 j3
          go_wp2_with fail
          refine bodyPost_ret (results_cs rfl _ _ (w.heap.size + 1) _ _ _ _ _ rfl rfl hres.out Try.underlying32 rfl (by kernel_rfl)) rfl ?_
          refine ⟨.slice a l.length c, ?_, ?_, hB9.out⟩
          · rw [hdE.out]; rfl
          · rw [hdE.out]; exact hN9.out
      subst hE0
      have hm0 : nameN name = 0 := hnE.symm
      cases hf : findL l n.up name with
      | none =>
        have hiz : is = false := by rw [his.out, hf]; rfl
        subst hiz
        have hdT := hid (show renameT ⟨x, l⟩ p name = (⟨x, setL l { n with name := name }⟩, 0) by unfold renameT; rw [hg]; simp only; rw [if_neg h1, hgn, if_neg (by simp), if_neg (by rw [hm0]; simp), hf]; rfl)
        clear hg hgn h1 hf
        replace hnE := hid hnE
        replace hm0 := hid hm0
        replace hmem := hid hmem
        replace hpath := hid hpath
        obtain ⟨n2, hn2⟩ : ∃ n2 : Nod, n2 = { n with name := name } := ⟨_, rfl⟩
        have hdE := hid (show renameT ⟨x, l⟩ p name = (⟨x, setL l n2⟩, 0) by rw [hdT.out, hn2])
        have c5 : X2.cell? ⟨z, 5, none⟩ = some (.string n.name) := block_cell hA.out.nd 5
        have f5 : X2.frozen? ⟨z, 5, none⟩ = false := block_free hA.out.nd 5
        obtain ⟨Y, hY⟩ : ∃ Y, Y = X2.setCell ⟨z, 5, none⟩ (.string name) := ⟨_, rfl⟩
        have hBY : Below w.heap.size w Y := by rw [hY]; exact hBX.out.setCell (by show w.heap.size ≤ z; have := hs2.out; omega) _
        have hAY : TrR w.heap.size z (w.heap.size + 1) x (.slice a l.length c) l n2 Y := by
          have hrow := hv.below hBY
          rw [hY] at hrow ⊢
          exact hA.out.put (by have := hs2.out; omega) (by have := hs2.out; omega) 5 (.string name) (by rw [hn2]; rfl) hrow
        have hst := hid (show Calls Try.prog 70 #[.agg #[.int .u64 (x : Int), .slice a l.length c], .agg n2.cells] Y (SetPost Y x (setL l n2)) by rw [← setR_eq ht.sort]; exact rset_any _ x l n2 Y hAY.row (by have := ht.few; omega))
        clear hdT
        go_upto_region 14 with (first
          | (go_at_call 69; (with_reducible refine (hnm.out _).mono ?_); rintro e wn ⟨rfl, hwn⟩; subst hwn)
          | (rw [← hY]; replace hY := hid hY))
        try (rw [← hY]; replace hY := hid hY)
        have hnd := hid hAY.nd
        clear q0 q1 q10 hA hBX c5 f5
        have q0 := hAY.t0
        have q1 := hAY.t1
        have hA := hid hAY
        have hBX := hid hBY
        clear hAY hBY
        replace hn2 := hid hn2
        go_wp2_with (refine wpList_load_row (by rfl) 71 (.tmp 8) (by rfl) z (by rfl) 71 n2.cells (0, 0) _ hnd.out Try.underlying71 (by rfl) (by kernel_rfl) ?_)
        refine hst.out.mono ?_
        rintro e w9 ⟨v9, rfl, hv9, hf9, hb9⟩
        have hres := hid (hA.out.below hb9).res
        have hB9 := hid (sn hBX.out hb9)
        have hsz := hid hBX.out.size
        have hlt := hid (lt_of_block hA.out.res)
        have hN := hid (NodsAt.other (w' := w9.setRow (w.heap.size + 1) #[.int .u64 (x : Int), v9]) hv9 (w.heap.size + 1) (fun e => by have := hf9 _ e; have := hlt.out; omega) (by simp) (fun k hk => setRow_other _ _ _ _ hk))
        obtain ⟨a9, c9, rfl, _, _⟩ := hv9.form
        clear hb9 hv9 hf9 hst q0 q1
        go_wp2_with (refine wpList_store_row (by rfl) 32 (.tmp 6) (.tmp 58) (by rfl) (w.heap.size + 1) #[.int .u64 (x : Int), .slice a9 (setL l n2).length c9] (by rfl) (by rfl) 32 _ hres.out (by kernel_rfl) (by kernel_rfl) (by kernel_rfl) ?_)
        refine bodyPost_ret (results_cs rfl _ _ (w.heap.size + 1) _ _ _ _ _ rfl rfl (setRow_heap _ _ _ #[.int .u64 (x : Int), .slice a9 (setL l n2).length c9] _ _ hres.out) Try.underlying32 rfl (by kernel_rfl)) rfl ?_
        refine ⟨.slice a9 (setL l n2).length c9, ?_, ?_, below_setRow hB9.out (by omega) _⟩
        · rw [hdE.out]; rfl
        · rw [hdE.out]; exact hN.out
      | some y =>
        have hiz : is = true := by rw [his.out, hf]; rfl
        subst hiz
        have hmy : m = y := by rw [hm.out, hf]; rfl
        subst hmy
        have c0 : X2.cell? ⟨z2, 0, none⟩ = some (.int .u64 (m.path : Int)) := block_cell hD0.out 0
        by_cases hyp : m.path = p
        · have hdT := hid (show renameT ⟨x, l⟩ p name = (⟨x, setL l { n with name := name }⟩, 0) by unfold renameT; rw [hg]; simp only; rw [if_neg h1, hgn, if_neg (by simp), if_neg (by rw [hm0]; simp), hf]; simp [hyp])
          have k2 : ((m.path : Int) != (p : Int)) = false := by rw [hyp]; simp
          clear hg hgn h1 hf
          replace hnE := hid hnE
          replace hm0 := hid hm0
          replace hmem := hid hmem
          replace hpath := hid hpath
          replace hyp := hid hyp
          obtain ⟨n2, hn2⟩ : ∃ n2 : Nod, n2 = { n with name := name } := ⟨_, rfl⟩
          have hdE := hid (show renameT ⟨x, l⟩ p name = (⟨x, setL l n2⟩, 0) by rw [hdT.out, hn2])
          have c5 : X2.cell? ⟨z, 5, none⟩ = some (.string n.name) := block_cell hA.out.nd 5
          have f5 : X2.frozen? ⟨z, 5, none⟩ = false := block_free hA.out.nd 5
          obtain ⟨Y, hY⟩ : ∃ Y, Y = X2.setCell ⟨z, 5, none⟩ (.string name) := ⟨_, rfl⟩
          have hBY : Below w.heap.size w Y := by rw [hY]; exact hBX.out.setCell (by show w.heap.size ≤ z; have := hs2.out; omega) _
          have hAY : TrR w.heap.size z (w.heap.size + 1) x (.slice a l.length c) l n2 Y := by
            have hrow := hv.below hBY
            rw [hY] at hrow ⊢
            exact hA.out.put (by have := hs2.out; omega) (by have := hs2.out; omega) 5 (.string name) (by rw [hn2]; rfl) hrow
          have hst := hid (show Calls Try.prog 70 #[.agg #[.int .u64 (x : Int), .slice a l.length c], .agg n2.cells] Y (SetPost Y x (setL l n2)) by rw [← setR_eq ht.sort]; exact rset_any _ x l n2 Y hAY.row (by have := ht.few; omega))
          clear hdT
          go_upto_region 14 with (first
            | (go_at_call 69; (with_reducible refine (hnm.out _).mono ?_); rintro e wn ⟨rfl, hwn⟩; subst hwn)
            | (rw [← hY]; replace hY := hid hY))
          try (rw [← hY]; replace hY := hid hY)
          have hnd := hid hAY.nd
          clear q0 q1 q10 hA hBX c5 f5
          have q0 := hAY.t0
          have q1 := hAY.t1
          have hA := hid hAY
          have hBX := hid hBY
          clear hAY hBY
          replace hn2 := hid hn2
          go_wp2_with (refine wpList_load_row (by rfl) 71 (.tmp 8) (by rfl) z (by rfl) 71 n2.cells (0, 0) _ hnd.out Try.underlying71 (by rfl) (by kernel_rfl) ?_)
          refine hst.out.mono ?_
          rintro e w9 ⟨v9, rfl, hv9, hf9, hb9⟩
          have hres := hid (hA.out.below hb9).res
          have hB9 := hid (sn hBX.out hb9)
          have hsz := hid hBX.out.size
          have hlt := hid (lt_of_block hA.out.res)
          have hN := hid (NodsAt.other (w' := w9.setRow (w.heap.size + 1) #[.int .u64 (x : Int), v9]) hv9 (w.heap.size + 1) (fun e => by have := hf9 _ e; have := hlt.out; omega) (by simp) (fun k hk => setRow_other _ _ _ _ hk))
          obtain ⟨a9, c9, rfl, _, _⟩ := hv9.form
          clear hb9 hv9 hf9 hst q0 q1
          go_wp2_with (refine wpList_store_row (by rfl) 32 (.tmp 6) (.tmp 58) (by rfl) (w.heap.size + 1) #[.int .u64 (x : Int), .slice a9 (setL l n2).length c9] (by rfl) (by rfl) 32 _ hres.out (by kernel_rfl) (by kernel_rfl) (by kernel_rfl) ?_)
          refine bodyPost_ret (results_cs rfl _ _ (w.heap.size + 1) _ _ _ _ _ rfl rfl (setRow_heap _ _ _ #[.int .u64 (x : Int), .slice a9 (setL l n2).length c9] _ _ hres.out) Try.underlying32 rfl (by kernel_rfl)) rfl ?_
          refine ⟨.slice a9 (setL l n2).length c9, ?_, ?_, below_setRow hB9.out (by omega) _⟩
          · rw [hdE.out]; rfl
          · rw [hdE.out]; exact hN.out
        · have hdE := hid (show renameT ⟨x, l⟩ p name = (⟨x, l⟩, 7) by unfold renameT; rw [hg]; simp only; rw [if_neg h1, hgn, if_neg (by simp), if_neg (by rw [hm0]; simp), hf]; simp [hyp])
          have k2 : ((m.path : Int) != (p : Int)) = true := by simp; omega
          clear hg hgn h1 hf
          replace hnE := hid hnE
          replace hm0 := hid hm0
          replace hmem := hid hmem
          replace hpath := hid hpath
          replace hyp := hid hyp
          have hres := hid hA.out.res
          have hlt := hid (lt_of_block hA.out.res)
          have hN := hid (NodsAt.other (w' := X2.setRow (w.heap.size + 1) #[.int .u64 (x : Int), .slice a l.length c]) hA.out.row (w.heap.size + 1) (fun e => by have := hvo.out _ e; omega) (by simp) (fun k hk => setRow_other _ _ _ _ hk))
          go_wp2_with (first
            | (go_at_call 69; (with_reducible refine (hnm.out _).mono ?_); rintro e wn ⟨rfl, hwn⟩; subst hwn)
            | (refine wpList_store_row (by rfl) 32 (.tmp 6) (.tmp 53) (by rfl) (w.heap.size + 1) #[.int .u64 (x : Int), .slice a l.length c] (by rfl) (by rfl) 32 _ hres.out (by kernel_rfl) (by kernel_rfl) (by kernel_rfl) ?_))
          refine bodyPost_ret (results_cs rfl _ _ (w.heap.size + 1) _ _ _ _ _ rfl rfl (setRow_heap _ _ _ #[.int .u64 (x : Int), .slice a l.length c] _ _ hres.out) Try.underlying32 rfl (by kernel_rfl)) rfl ?_
          refine ⟨.slice a l.length c, ?_, ?_, below_setRow hBX.out (by omega) _⟩
          · rw [hdE.out]; rfl
          · rw [hdE.out]; exact hN.out
end
end Go.Proofs.Ytpmlhmficmillaa
