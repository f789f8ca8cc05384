/- Unlink of package tree. Conditions: what TrOk asks.
A drawn region in a function that defers: some slots stay, also where the region ends by a panic. No condition.
What a method of package fsys leaves behind its deferred caught; Write. Conditions: in the statements. -/
import Derived.Test.YtkefjeabckainaaGreatFaB12
import Derived.Test.YtkefjeabckainaaGreatFaB20
import Derived.Deep.RegionWith
import Derived.Deep.RegionHeld3
import Derived.Test.YtkefjeabckainaaGreatFaB01
import Derived.Test.YtkefjeabckainaaGreatFaB18
import Derived.Test.YtkefjeabckainaaGreatFaB13
namespace Go.Proofs.YtkefjeabckainaaGreat
section
open Go.RowKit
set_option maxRecDepth 100000
set_option linter.unusedVariables false

theorem unlinkT_last (t : Tr) (p : Nat) (who : ByteArray) (now : Nat) (n : Nod) (hg : getL t.n p = some n) (h1 : p ≠ 1) (h2 : n.gone = false) (h3 : kidsOf t.n p = []) : unlinkT t p who now = match getL t.n n.up with
    | none => (⟨t.next, setL t.n (goneN n)⟩, 0)
    | some d => (⟨t.next, setL (setL t.n (goneN n)) (touchN d who now)⟩, 0) := by
  unfold unlinkT
  rw [hg]
  simp only
  rw [if_neg h1, h2, if_neg (by simp), if_neg (by simp [h3])]
  rfl
theorem getL_setS {l : List Nod} {a : Nod} {p : Nat} (h : (getL l p).isSome = true) : (getL (setL l a) p).isSome = true := by
  cases hg : getL (setL l a) p with
  | some y => rfl
  | none =>
    cases hl : getL l p with
    | none => rw [hl] at h; cases h
    | some y =>
      obtain ⟨h1, h2⟩ := getL_some hl
      have := getL_none.1 hg
      by_cases e : p = a.path
      · exact absurd e.symm (this a (mem_setL.2 (.inl rfl)))
      · exact absurd h2 (this y (mem_setL.2 (.inr ⟨h1, by rw [h2]; exact e⟩)))
theorem nodIs {n : Nod} {X : World} {k : Nat} {T : TypeId} {fr : Nat × Nat} (h : X.heap[k]? = some (.cells n.cells T fr)) : X.cell? ⟨k, 9, none⟩ = some (.int .u64 (n.up : Int)) := block_cell h 9
set_option maxHeartbeats 6400000 in
theorem tunlink_any (v : Value) (x : Nat) (l : List Nod) (p : Nat) (who : ByteArray) (now : Nat) (w : World) (hv : NodsAt w v l) (ht : TrOk l) (hnow : now < 4294967296) :
    Calls Tryz.prog 48 #[.agg #[.int .u64 (x : Int), v], .int .u64 (p : Int), .string who, .int .u32 (now : Int)] w (TreeErr w (unlinkT ⟨x, l⟩ p who now)) := by
  obtain ⟨a, c, rfl, g1, g2⟩ := hv.form
  unfold maxLen at g2
  obtain ⟨W, hW⟩ : ∃ W, W = (w.alloc (.cells #[.int .u64 (x : Int), .slice a l.length c] 30)).alloc (.cells #[.int .u64 0, .slice none 0 0] 30) := ⟨_, rfl⟩
  have hb0 : Below w.heap.size w W := by rw [hW]; exact ((Below.refl w.heap.size w).alloc (Nat.le_refl _) _).alloc (by simp) _
  have hx0 : W.heap[w.heap.size]? = some (.cells #[.int .u64 (x : Int), .slice a l.length c] 30 (0, 0)) := by rw [hW, heap_alloc_old _ _ (by simp), heap_alloc_new]
  have hy0 : W.heap[w.heap.size + 1]? = some (.cells #[.int .u64 0, .slice none 0 0] 30 (0, 0)) := by rw [hW]; exact heap2 _ _ _
  have hfi := hid (get_any _ x l p W (hv.below hb0) ht.sort (by have := ht.few; omega))
  have hap := hid (fun X (h : NodsAt X (.slice a l.length c) l) => apart_any _ x l X h (by have := ht.few; omega) ht.low)
  have e0 := block_cell hx0 0
  have e1 := block_cell hx0 1
  have hv0 := hid (hv.below hb0)
  replace hb0 := hid hb0
  replace hx0 := hid hx0
  replace hy0 := hid hy0
  go_enter Tryz.func48, Tryz.ntmps48
  go_upto_region 1 with (rw [← hW]; replace hW := hid hW)
  try (rw [← hW]; replace hW := hid hW)
  go_wp2_with fail
  refine hfi.out.mono ?_
  rintro e w2 ⟨rfl, hb2⟩
  have hB2 := hid (sn hb0.out hb2)
  have hs2 := hid (lt_of_block ((hb2.block _ (lt_of_block hy0.out)).trans hy0.out))
  obtain ⟨n, hn⟩ : ∃ n, n = getN l p := ⟨_, rfl⟩
  have hnew := hid (heap_alloc_new w2 (.cells zeroNod.cells 89))
  obtain ⟨X, hX⟩ : ∃ W, W = boxN w2 n := ⟨_, rfl⟩
  have hbX : Below w2.heap.size w2 X := by rw [hX]; exact boxN_below _ _
  have hBX := hid (sn hB2.out hbX)
  have hA : TrSt w.heap.size w2.heap.size (w.heap.size + 1) x (.slice a l.length c) l n X :=
    ⟨(hbX.block _ (by have := hs2.out; omega)).trans ((hb2.block _ (lt_of_block hx0.out)).trans hx0.out), by rw [hX]; exact boxN_heap _ _, (hbX.block _ hs2.out).trans ((hb2.block _ (lt_of_block hy0.out)).trans hy0.out), (hv0.out.below hb2).below hbX⟩
  have hapc := hid (hap.out X hA.row)
  have q0 := hA.t0
  have q1 := hA.t1
  unfold boxN at hX
  rw [zeroNod_cells] at hX hnew
  rw [← hn]
  clear hb2 hbX hfi e0 e1 hB2 hx0 hy0 hv0 hb0
  replace hA := hid hA
  replace hn := hid hn
  go_upto_region 2 with (first
    | (rw [← hX]; replace hX := hid hX)
    | (refine wpList_store_row (by rfl) 89 (.tmp 10) (.tmp 20) (by rfl) w2.heap.size n.cells (by rfl) (by rfl) 89 _ hnew.out (by kernel_rfl) (by kernel_rfl) (nod_one n) ?_))
  try (rw [← hX]; replace hX := hid hX)
  clear hnew
  generalize w2.heap.size = z at *
  have q10 : X.cell? ⟨z, 10, none⟩ = some (.bool n.gone) := block_cell hA.out.nd 10
  cases hg : getL l p with
  | none =>
    have hdE := hid (show unlinkT ⟨x, l⟩ p who now = (⟨x, l⟩, 6) by unfold unlinkT; rw [hg])
    simp only [Option.isSome_none]
    clear hg
    go_wp2_with fail
    refine hapc.out.mono ?_
    rintro e w9 ⟨v9, rfl, hv9, hf9, hb9⟩
    have hres := hid (hA.out.below hb9).res
    have hB9 := hid (sn hBX.out hb9)
    have hsz := hid hBX.out.size
    have hlt := hid (lt_of_block hA.out.res)
    have hN := hid (NodsAt.other (w' := w9.setRow (w.heap.size + 1) #[.int .u64 (x : Int), v9]) hv9 (w.heap.size + 1) (fun e => by have := hf9 _ e; have := hlt.out; omega) (by simp) (fun k hk => setRow_other _ _ _ _ hk))
    have hF := hid (show ∀ k, v9.ownBlock = some k → w.heap.size ≤ k from fun k hk => Nat.le_trans hsz.out (hf9 k hk))
    obtain ⟨a9, c9, rfl, _, _⟩ := hv9.form
    clear hb9 hv9 hf9 hapc q0 q1 q10
    go_wp2_with (refine wpList_store_row (by rfl) 30 (.tmp 8) (.tmp 40) (by rfl) (w.heap.size + 1) #[.int .u64 (x : Int), .slice a9 l.length c9] (by rfl) (by rfl) 30 _ hres.out (by kernel_rfl) (by kernel_rfl) (by kernel_rfl) ?_)
    refine bodyPost_ret (results_cs rfl _ _ (w.heap.size + 1) _ _ _ _ _ rfl rfl (setRow_heap _ _ _ #[.int .u64 (x : Int), .slice a9 l.length c9] _ _ hres.out) Tryz.underlying30 rfl (by kernel_rfl)) rfl ?_
    refine ⟨.slice a9 l.length c9, ?_, ?_, hF.out, below_setRow hB9.out (by omega) _⟩
    · rw [hdE.out]; rfl
    · rw [hdE.out]; exact hN.out
  | some y =>
    have hny : n = y := by rw [hn.out]; unfold getN; rw [hg]; rfl
    subst hny
    simp only [Option.isSome_some]
    by_cases h1 : p = 1
    · have hdE := hid (show unlinkT ⟨x, l⟩ p who now = (⟨x, l⟩, 5) by unfold unlinkT; rw [hg]; simp only; rw [if_pos h1])
      have k1 : ((p : Int) == 1) = true := by simpa using (by omega : (p : Int) = 1)
      clear hg h1
      go_wp2_with fail
      refine hapc.out.mono ?_
      rintro e w9 ⟨v9, rfl, hv9, hf9, hb9⟩
      have hres := hid (hA.out.below hb9).res
      have hB9 := hid (sn hBX.out hb9)
      have hsz := hid hBX.out.size
      have hlt := hid (lt_of_block hA.out.res)
      have hN := hid (NodsAt.other (w' := w9.setRow (w.heap.size + 1) #[.int .u64 (x : Int), v9]) hv9 (w.heap.size + 1) (fun e => by have := hf9 _ e; have := hlt.out; omega) (by simp) (fun k hk => setRow_other _ _ _ _ hk))
      have hF := hid (show ∀ k, v9.ownBlock = some k → w.heap.size ≤ k from fun k hk => Nat.le_trans hsz.out (hf9 k hk))
      obtain ⟨a9, c9, rfl, _, _⟩ := hv9.form
      clear hb9 hv9 hf9 hapc q0 q1 q10
      go_wp2_with (refine wpList_store_row (by rfl) 30 (.tmp 8) (.tmp 40) (by rfl) (w.heap.size + 1) #[.int .u64 (x : Int), .slice a9 l.length c9] (by rfl) (by rfl) 30 _ hres.out (by kernel_rfl) (by kernel_rfl) (by kernel_rfl) ?_)
      refine bodyPost_ret (results_cs rfl _ _ (w.heap.size + 1) _ _ _ _ _ rfl rfl (setRow_heap _ _ _ #[.int .u64 (x : Int), .slice a9 l.length c9] _ _ hres.out) Tryz.underlying30 rfl (by kernel_rfl)) rfl ?_
      refine ⟨.slice a9 l.length c9, ?_, ?_, hF.out, below_setRow hB9.out (by omega) _⟩
      · rw [hdE.out]; rfl
      · rw [hdE.out]; exact hN.out
    have k1 : ((p : Int) == 1) = false := by rw [beq_eq_false_iff_ne]; omega
    cases hgn : n.gone with
    | true =>
      have hdE := hid (show unlinkT ⟨x, l⟩ p who now = (⟨x, l⟩, 6) by unfold unlinkT; rw [hg]; simp only; rw [if_neg h1, hgn]; rfl)
      rw [hgn] at q10
      clear hg hgn h1
      go_wp2_with fail
      refine hapc.out.mono ?_
      rintro e w9 ⟨v9, rfl, hv9, hf9, hb9⟩
      have hres := hid (hA.out.below hb9).res
      have hB9 := hid (sn hBX.out hb9)
      have hsz := hid hBX.out.size
      have hlt := hid (lt_of_block hA.out.res)
      have hN := hid (NodsAt.other (w' := w9.setRow (w.heap.size + 1) #[.int .u64 (x : Int), v9]) hv9 (w.heap.size + 1) (fun e => by have := hf9 _ e; have := hlt.out; omega) (by simp) (fun k hk => setRow_other _ _ _ _ hk))
      have hF := hid (show ∀ k, v9.ownBlock = some k → w.heap.size ≤ k from fun k hk => Nat.le_trans hsz.out (hf9 k hk))
      obtain ⟨a9, c9, rfl, _, _⟩ := hv9.form
      clear hb9 hv9 hf9 hapc q0 q1 q10
      go_wp2_with (refine wpList_store_row (by rfl) 30 (.tmp 8) (.tmp 40) (by rfl) (w.heap.size + 1) #[.int .u64 (x : Int), .slice a9 l.length c9] (by rfl) (by rfl) 30 _ hres.out (by kernel_rfl) (by kernel_rfl) (by kernel_rfl) ?_)
      refine bodyPost_ret (results_cs rfl _ _ (w.heap.size + 1) _ _ _ _ _ rfl rfl (setRow_heap _ _ _ #[.int .u64 (x : Int), .slice a9 l.length c9] _ _ hres.out) Tryz.underlying30 rfl (by kernel_rfl)) rfl ?_
      refine ⟨.slice a9 l.length c9, ?_, ?_, hF.out, below_setRow hB9.out (by omega) _⟩
      · rw [hdE.out]; rfl
      · rw [hdE.out]; exact hN.out
    | false =>
      obtain ⟨hmem, hpath⟩ := getL_some hg
      rw [hgn] at q10
      have hkd := hid (kids_any _ x l p X hA.out.row ht.sort (by have := ht.few; omega))
      clear hapc
      go_wp2_with fail
      refine hkd.out.mono ?_
      rintro e w3 ⟨r3, ks, rfl, hks, hb3, hsrt, hperm⟩
      obtain ⟨a3, c3, rfl, _, _⟩ := hks.form
      have hlen := hperm.length_eq
      clear hks hsrt hperm hkd
      have hA0 := hA.out.below hb3
      have hBX0 := hid (sn hBX.out hb3)
      clear hA hBX q0 q1 q10 hb3
      have hA := hid hA0
      have hBX := hBX0
      clear hBX0
      have q0 := hA0.t0
      have q1 := hA0.t1
      clear hA0
      obtain ⟨kn, hkn⟩ : ∃ kn, kn = ks.length := ⟨_, rfl⟩
      rw [← hkn]
      by_cases hk0 : kidsOf l p = []
      case neg =>
        have hdE := hid (show unlinkT ⟨x, l⟩ p who now = (⟨x, l⟩, 15) by unfold unlinkT; rw [hg]; simp only; rw [if_neg h1, hgn, if_neg (by simp), if_pos hk0])
        have hkz : (0 : Int) < (kn : Int) := by
          have : 0 < (kidsOf l p).length := List.length_pos_iff.2 hk0
          omega
        have hapc := hid (hap.out w3 hA.out.row)
        clear hg h1 hlen hkn hk0 hgn
        go_wp2_with fail
        refine hapc.out.mono ?_
        rintro e w9 ⟨v9, rfl, hv9, hf9, hb9⟩
        have hres := hid (hA.out.below hb9).res
        have hB9 := hid (sn hBX.out hb9)
        have hsz := hid hBX.out.size
        have hlt := hid (lt_of_block hA.out.res)
        have hN := hid (NodsAt.other (w' := w9.setRow (w.heap.size + 1) #[.int .u64 (x : Int), v9]) hv9 (w.heap.size + 1) (fun e => by have := hf9 _ e; have := hlt.out; omega) (by simp) (fun k hk => setRow_other _ _ _ _ hk))
        have hF := hid (show ∀ k, v9.ownBlock = some k → w.heap.size ≤ k from fun k hk => Nat.le_trans hsz.out (hf9 k hk))
        obtain ⟨a9, c9, rfl, _, _⟩ := hv9.form
        clear hb9 hv9 hf9 hapc q0 q1
        go_wp2_with (refine wpList_store_row (by rfl) 30 (.tmp 8) (.tmp 40) (by rfl) (w.heap.size + 1) #[.int .u64 (x : Int), .slice a9 l.length c9] (by rfl) (by rfl) 30 _ hres.out (by kernel_rfl) (by kernel_rfl) (by kernel_rfl) ?_)
        refine bodyPost_ret (results_cs rfl _ _ (w.heap.size + 1) _ _ _ _ _ rfl rfl (setRow_heap _ _ _ #[.int .u64 (x : Int), .slice a9 l.length c9] _ _ hres.out) Tryz.underlying30 rfl (by kernel_rfl)) rfl ?_
        refine ⟨.slice a9 l.length c9, ?_, ?_, hF.out, below_setRow hB9.out (by omega) _⟩
        · rw [hdE.out]; rfl
        · rw [hdE.out]; exact hN.out
      have hdT := hid (unlinkT_last ⟨x, l⟩ p who now n hg h1 hgn hk0)
      have hkz : kn = 0 := by rw [hk0] at hlen; rw [hkn, hlen]; rfl
      subst hkz
      have hup := hid (get_any _ x l n.up w3 hA.out.row ht.sort (by have := ht.few; omega))
      have q9 := nodIs hA.out.nd
      have hsome := hid (show (getL l n.path).isSome = true by rw [hpath, hg]; rfl)
      replace hmem := hid hmem
      replace hpath := hid hpath
      replace hgn := hid hgn
      clear hlen hkn hk0 hg h1 hap
      go_wp2_with fail
      refine hup.out.mono ?_
      rintro e w4 ⟨rfl, hb4⟩
      clear hup
      have hA0 := hA.out.below hb4
      have hBX0 := hid (sn hBX.out hb4)
      clear hA hBX q0 q1 q9 hb4
      have hA := hid hA0
      have hBX := hBX0
      clear hBX0
      have q0 := hA0.t0
      have q1 := hA0.t1
      clear hA0
      have hs4 := hid (lt_of_block hA.out.nd)
      have hs4r := hid (lt_of_block hA.out.res)
      have hnok := hid (fun d (h : getL l n.up = some d) => ht.ok d (getL_some h).1)
      obtain ⟨d, hd⟩ : ∃ d, d = getN l n.up := ⟨_, rfl⟩
      have hnew := hid (heap_alloc_new w4 (.cells zeroNod.cells 89))
      obtain ⟨X2, hX2⟩ : ∃ W, W = boxN w4 d := ⟨_, rfl⟩
      have hbX : Below w4.heap.size w4 X2 := by rw [hX2]; exact boxN_below _ _
      have hD0 : X2.heap[w4.heap.size]? = some (.cells d.cells 89 (0, 0)) := by rw [hX2]; exact boxN_heap _ _
      have hX2s := hid hbX.size
      unfold boxN at hX2
      rw [zeroNod_cells] at hX2 hnew
      rw [← hd]
      replace hD0 := hid hD0
      replace hd := hid hd
      have hA0 := hA.out.below hbX
      have hBX0 := hid (sn hBX.out hbX)
      clear hA hBX q0 q1  hbX
      have hA := hid hA0
      have hBX := hBX0
      clear hBX0
      have q0 := hA0.t0
      have q1 := hA0.t1
      clear hA0
      obtain ⟨is, his⟩ : ∃ is, is = (getL l n.up).isSome := ⟨_, rfl⟩
      rw [← his]
      replace his := hid his
      go_upto_region 14 with (first
        | (rw [← hX2]; replace hX2 := hid hX2)
        | (refine wpList_store_row (by rfl) 89 (.tmp 13) (.tmp 47) (by rfl) w4.heap.size d.cells (by rfl) (by rfl) 89 _ hnew.out (by kernel_rfl) (by kernel_rfl) (nod_one d) ?_))
      try (rw [← hX2]; replace hX2 := hid hX2)
      clear hnew
      generalize w4.heap.size = z2 at *
      have hA0 := hA.out
      have c10 : X2.cell? ⟨z, 10, none⟩ = some (.bool n.gone) := block_cell hA0.nd 10
      have f10 : X2.frozen? ⟨z, 10, none⟩ = false := block_free hA0.nd 10
      obtain ⟨n1, hn1⟩ : ∃ n1 : Nod, n1 = { n with gone := true } := ⟨_, rfl⟩
      obtain ⟨Y1, hY1⟩ : ∃ Y, Y = X2.setCell ⟨z, 10, none⟩ (.bool true) := ⟨_, rfl⟩
      have hBY : Below w.heap.size w Y1 := by rw [hY1]; exact hBX.out.setCell (by show w.heap.size ≤ z; have := hs2.out; omega) _
      have hAY : TrSt w.heap.size z (w.heap.size + 1) x (.slice a l.length c) l n1 Y1 := by
        have hrow := hv.below hBY
        rw [hY1] at hrow ⊢
        exact hA0.put (by have := hs2.out; omega) (by have := hs2.out; omega) 10 (.bool true) (by rw [hn1]; rfl) hrow
      have c9 : Y1.cell? ⟨z, 9, none⟩ = some (.int .u64 (n.up : Int)) := by have := nodIs hAY.nd; rw [hn1] at this; exact this
      have f9 : Y1.frozen? ⟨z, 9, none⟩ = false := block_free hAY.nd 9
      obtain ⟨n2, hn2⟩ : ∃ n2 : Nod, n2 = goneN n := ⟨_, rfl⟩
      obtain ⟨Y2, hY2⟩ : ∃ Y, Y = Y1.setCell ⟨z, 9, none⟩ (.int .u64 0) := ⟨_, rfl⟩
      have hBY2 : Below w.heap.size w Y2 := by rw [hY2]; exact hBY.setCell (by show w.heap.size ≤ z; have := hs2.out; omega) _
      have hAY2 : TrSt w.heap.size z (w.heap.size + 1) x (.slice a l.length c) l n2 Y2 := by
        have hrow := hv.below hBY2
        rw [hY2] at hrow ⊢
        exact hAY.put (by have := hs2.out; omega) (by have := hs2.out; omega) 9 (.int .u64 0) (by rw [hn2, hn1]; rfl) hrow
      have hD2 := hid (show Y2.heap[z2]? = some (.cells d.cells 89 (0, 0)) by
        have h4 := hs4.out
        rw [hY2, hY1]
        exact (block_set_other (by show z2 ≠ z; omega)).trans ((block_set_other (by show z2 ≠ z; omega)).trans hD0.out))
      have hst1 := hid (nset_any _ x l n2 Y2 hAY2.row ht.sort (by have := ht.few; omega) (.inl (by rw [hn2]; exact hsome.out)))
      have hnd := hid hAY2.nd
      clear hA0 q0 q1 hA hBX hD0
      have q0 := hAY2.t0
      have q1 := hAY2.t1
      have hA := hid hAY2
      have hBX := hid hBY2
      obtain ⟨l1, hl1⟩ : ∃ l1, l1 = setL l n2 := ⟨_, rfl⟩
      rw [← hl1] at hst1
      have hs1 := hid (show SortL l1 by rw [hl1]; exact ht.sort.set _)
      have hlen1 : l1.length ≤ 90 := by rw [hl1, set_len ht.sort hmem.out n2 (by rw [hn2]; rfl)]; have := ht.few; omega
      have hin1 := hid (fun d (h : getL l n.up = some d) => show (getL l1 d.path).isSome = true by rw [hl1]; exact getL_setS (by rw [(getL_some h).2, h]; rfl))
      rw [← hn2, ← hl1] at hdT
      clear hAY hAY2 hBY hBY2
      replace hn1 := hid hn1
      replace hn2 := hid hn2
      replace hl1 := hid hl1
      go_upto_region 15 with (first
        | (rw [← hY1]; replace hY1 := hid hY1)
        | (rw [← hY2]; replace hY2 := hid hY2))
      try (rw [← hY2]; replace hY2 := hid hY2)
      clear c10 f10 c9 f9
      go_wp2_with (refine wpList_load_row (by rfl) 89 (.tmp 10) (by rfl) z (by rfl) 89 n2.cells (0, 0) _ hnd.out Tryz.underlying89 (by rfl) (by kernel_rfl) ?_)
      refine hst1.out.mono ?_
      rintro e w5 ⟨v5, rfl, hv5, hf5, hb5⟩
      obtain ⟨a5, c5, rfl, _, _⟩ := hv5.form
      obtain ⟨k3, hk3⟩ : ∃ k, k = w5.heap.size := ⟨_, rfl⟩
      obtain ⟨V3, hV3⟩ : ∃ V, V = w5.alloc (.cells #[.int .u64 (x : Int), .slice a5 l1.length c5] 30) := ⟨_, rfl⟩
      have hbV : Below w5.heap.size w5 V3 := by rw [hV3]; exact (Below.refl _ _).alloc (Nat.le_refl _) _
      have hb5V := sn hb5 hbV
      have h5s := hb5.size
      have hr5 := hA.out.below hb5V
      have hB5 := hid (sn hBX.out hb5V)
      have hT : TrSt k3 z2 (w.heap.size + 1) x (.slice a5 l1.length c5) l1 d V3 :=
        ⟨by rw [hk3, hV3]; exact heap_alloc_new _ _, (hb5V.block _ (lt_of_block hD2.out)).trans hD2.out, hr5.res, hv5.below hbV⟩
      have hlk : z2 < k3 ∧ w.heap.size + 1 < k3 := by
        have := lt_of_block hD2.out
        have := lt_of_block hA.out.res
        omega
      have hF5 := hid (show ∀ k, (Value.slice a5 l1.length c5).ownBlock = some k → w.heap.size + 1 < k from fun k hk => by
        have := hf5 k hk
        have := lt_of_block hA.out.res
        omega)
      replace hT := hid hT
      clear hb5 hbV hb5V hr5 hA hBX q0 q1 hv5 hf5 hst1 hnd hD2
      go_upto_region 16 with (rw [← hV3]; replace hV3 := hid hV3)
      try (rw [← hV3]; replace hV3 := hid hV3)
      rw [← hk3]
      replace hk3 := hid hk3
      cases hgu : getL l n.up with
      | none =>
        have hdE := hid (show unlinkT ⟨x, l⟩ p who now = (⟨x, l1⟩, 0) by rw [hdT.out, hgu])
        have hiz : is = false := by rw [his.out, hgu]; rfl
        subst hiz
        have hc := hid hT.out.tr
        have hres := hid hT.out.res
        have hN9 := hid hT.out.row
        have hF := hF5
        have hB9 := hB5
        clear hgu h5s
        have y0 := block_cell hc.out 0
        have y1 := block_cell hc.out 1
        have hlt := hid (lt_of_block hres.out)
        have hN := hid (NodsAt.other (w' := V3.setRow (w.heap.size + 1) #[.int .u64 (x : Int), .slice a5 l1.length c5]) hN9.out (w.heap.size + 1) (fun e => by have := hF.out _ e; omega) (by simp) (fun k hk => setRow_other _ _ _ _ hk))
        go_wp2_with (refine wpList_store_row (by rfl) 30 (.tmp 8) (.tmp 61) (by rfl) (w.heap.size + 1) #[.int .u64 (x : Int), .slice a5 l1.length c5] (by rfl) (by rfl) 30 _ hres.out (by kernel_rfl) (by kernel_rfl) (by kernel_rfl) ?_)
        refine bodyPost_ret (results_cs rfl _ _ (w.heap.size + 1) _ _ _ _ _ rfl rfl (setRow_heap _ _ _ #[.int .u64 (x : Int), .slice a5 l1.length c5] _ _ hres.out) Tryz.underlying30 rfl (by kernel_rfl)) rfl ?_
        refine ⟨.slice a5 l1.length c5, ?_, ?_, fun k hk => by have := hF.out k hk; omega, below_setRow hB9.out (by omega) _⟩
        · rw [hdE.out]; rfl
        · rw [hdE.out]; exact hN.out
      | some d' =>
        have hdd : d = d' := by rw [hd.out]; unfold getN; rw [hgu]; rfl
        subst hdd
        have hdE := hid (show unlinkT ⟨x, l⟩ p who now = (⟨x, setL l1 (touchN d who now)⟩, 0) by rw [hdT.out, hgu])
        have hiz : is = true := by rw [his.out, hgu]; rfl
        subst hiz
        obtain ⟨d1, hd1⟩ : ∃ d1, d1 = touchN d who now := ⟨_, rfl⟩
        obtain ⟨L, hL⟩ : ∃ L, L = setL l1 d1 := ⟨_, rfl⟩
        have hdok := hnok.out d hgu
        have hp1 : d1.path = d.path := by rw [hd1]; rfl
        have htc : Hid (∀ Z, Calls Tryz.prog 93 #[.agg #[.int .u64 (d.path : Int), .int .u32 (d.vers : Int), .int .u32 (d.mode : Int), .int .u32 (d.atm : Int), .int .u32 (d.mtm : Int), .string d.name, .string d.uid, .string d.gid, .string d.muid, .int .u64 (d.up : Int), .bool d.gone, .string d.data], .string who, .int .u32 (now : Int)] Z fun e w' => e = .returned (.agg d1.cells) ∧ Below Z.heap.size Z w') := hid (fun Z => by rw [hd1]; exact touched_any d who now Z hdok)
        have hst2 : Hid (∀ Z, NodsAt Z (.slice a5 l1.length c5) l1 → Calls Tryz.prog 92 #[.agg #[.int .u64 (x : Int), .slice a5 l1.length c5], .agg d1.cells] Z (SetPost Z x L)) := hid (fun Z hZ => by rw [hL]; exact nset_any _ x l1 d1 Z hZ hs1.out (by omega) (.inl (by rw [hp1]; exact hin1.out d hgu)))
        rw [← hd1, ← hL] at hdE
        replace hd1 := hid hd1
        replace hL := hid hL
        replace ht := hid ht
        replace hv := hid hv
        clear hgu hp1 hdok h5s
        go_wp2_with fail
        have hT := hT.out.below ((Below.refl V3.heap.size V3).drew)
        have q0 := hT.t0
        have q1 := hT.t1
        obtain ⟨d0, d1', d2, d3, d4, d5, d6, d7, d8, d9, d10, d11⟩ := nodS hT.nd
        have hBd := (sn hB5.out ((Below.refl V3.heap.size V3).drew))
        go_region_with (first
            | (go_at_call 93; (with_reducible refine (htc.out _).mono ?_); rintro e wt ⟨rfl, hbt⟩; replace hT := hT.below hbt; have q8 := hid hT.tr; replace hBd := sn hBd hbt; have q2 := hT.t0; have q3 := hT.t1)
            | (go_at_call 92; (with_reducible refine (hst2.out _ hT.row).mono ?_); rintro e w6 ⟨v6, rfl, hv6, hf6, hb6⟩; obtain ⟨a6, c6, rfl, _, _⟩ := hv6.form; replace hT := hT.below hb6; replace hBd := sn hBd hb6; have g0 := block_cell hT.tr 0; have g1 := block_cell hT.tr 1; have e0 := block_free hT.tr 0; have e1 := block_free hT.tr 1))
        all_goals
          have hlk2 := hlk.2
          have hv3s := hid hT.tr
          obtain ⟨Y9, hY9⟩ : ∃ Y, Y = (w6.setCell ⟨k3, 0, none⟩ (.int .u64 (x : Int))).setCell ⟨k3, 1, none⟩ (.slice a6 L.length c6) := ⟨_, rfl⟩
          rw [← hY9]
          have hF := hid (show ∀ k, (Value.slice a6 L.length c6).ownBlock = some k → k3 < k from fun k hk => by have := hf6 k hk; have := lt_of_block q8.out; omega)
          have hc := hid (show Y9.heap[k3]? = some (.cells #[.int .u64 (x : Int), .slice a6 L.length c6] 30 (0, 0)) by rw [hY9]; exact block_set (block_set hT.tr 0 _) 1 _)
          have hres := hid (show Y9.heap[w.heap.size + 1]? = some (.cells #[.int .u64 0, .slice none 0 0] 30 (0, 0)) by
            rw [hY9]; exact (block_set_other (by show w.heap.size + 1 ≠ k3; omega)).trans ((block_set_other (by show w.heap.size + 1 ≠ k3; omega)).trans hT.res))
          have hN9 := hid (show NodsAt Y9 (.slice a6 L.length c6) L by
            rw [hY9]; exact NodsAt.other hv6 k3 (fun e => by have := hF.out _ e; omega) (by simp) (fun k hk => (block_set_other (by show k ≠ k3; exact hk)).trans (block_set_other (by show k ≠ k3; exact hk))))
          have hB9 := hid (show Below w.heap.size w Y9 by rw [hY9]; exact (hBd.setCell (by show w.heap.size ≤ k3; omega) _).setCell (by show w.heap.size ≤ k3; omega) _)
          replace hY9 := hid hY9
          clear hT hBd hbt hb6 hv6 hf6 g0 g1 e0 e1 q0 q1 q2 q3 d0 d1' d2 d3 d4 d5 d6 d7 d8 d9 d10 d11
          replace hlk := hid hlk
          have y0 := block_cell hc.out 0
          have y1 := block_cell hc.out 1
          have hlt := hid (lt_of_block hres.out)
          have hN := hid (NodsAt.other (w' := Y9.setRow (w.heap.size + 1) #[.int .u64 (x : Int), .slice a6 L.length c6]) hN9.out (w.heap.size + 1) (fun e => by have := hF.out _ e; omega) (by simp) (fun k hk => setRow_other _ _ _ _ hk))
          go_wp2_with (refine wpList_store_row (by rfl) 30 (.tmp 8) (.tmp 61) (by rfl) (w.heap.size + 1) #[.int .u64 (x : Int), .slice a6 L.length c6] (by rfl) (by rfl) 30 _ hres.out (by kernel_rfl) (by kernel_rfl) (by kernel_rfl) ?_)
          refine bodyPost_ret (results_cs rfl _ _ (w.heap.size + 1) _ _ _ _ _ rfl rfl (setRow_heap _ _ _ #[.int .u64 (x : Int), .slice a6 L.length c6] _ _ hres.out) Tryz.underlying30 rfl (by kernel_rfl)) rfl ?_
          refine ⟨.slice a6 L.length c6, ?_, ?_, fun k hk => by have := hF.out k hk; have := hlk2; omega, below_setRow hB9.out (by omega) _⟩
          · rw [hdE.out]; rfl
          · rw [hdE.out]; exact hN.out
end
end Go.Proofs.YtkefjeabckainaaGreat

namespace Go.Proofs.YtkefjeabckainaaGreat
section
set_option maxRecDepth 100000
set_option linter.unusedVariables false

def SlotsAt : List (Nat × Value) → Array Value → Prop
  | [], _ => True
  | x :: xs, t => t.getD x.1 undef = x.2 ∧ SlotsAt xs t
theorem SlotsAt.all {X : List (Nat × Value)} {t : Array Value} (h : SlotsAt X t) : ∀ x ∈ X, t.getD x.1 undef = x.2 := by
  induction X with
  | nil => intro x hx; cases hx
  | cons y ys ih =>
    intro x hx
    rcases List.mem_cons.1 hx with rfl | hx
    · exact h.1
    · exact ih h.2 x hx
def Keep (X : List (Nat × Value)) (Q : Exit → Act → World → Prop) : Exit → Act → World → Prop := fun e a w =>
  match e with
  | .panic c => ∀ a' : Act, a'.defers = a.defers → (∀ x ∈ X, a'.tmps.getD x.1 undef = x.2) → Q (.panic c) a' w
  | e => Q e a w
theorem keep_normal {X : List (Nat × Value)} {Q : Exit → Act → World → Prop} {a : Act} {w : World} (h : Q .normal a w) : Keep X Q .normal a w := h
theorem keep_put {X : List (Nat × Value)} {a : Act} {d : Option Tmp} (hd : ∀ x ∈ X, d ≠ some x.1) (h : ∀ x ∈ X, a.tmps.getD x.1 undef = x.2) (v : Value) : ∀ x ∈ X, (a.put d v).tmps.getD x.1 undef = x.2 := by
  intro x hx
  cases d with
  | none => exact h x hx
  | some k =>
    have h1 := hd x hx
    have h2 := h x hx
    have hne : k ≠ x.1 := fun e => h1 (by rw [e])
    show (a.tmps.setIfInBounds k v).getD x.1 undef = x.2
    rw [Array.getD_eq_getD_getElem?] at h2 ⊢
    rw [Array.getElem?_setIfInBounds_ne hne]
    exact h2
theorem upon_keep {P : Program} {o : Oper} {a : Act} {K K' : Act → World → Prop} {Q : Exit → Act → World → Prop} {X : List (Nat × Value)} (hd : ∀ x ∈ X, o.dst ≠ some x.1) (h : ∀ x ∈ X, a.tmps.getD x.1 undef = x.2)
    (hK : ∀ a w, (∀ x ∈ X, a.tmps.getD x.1 undef = x.2) → K a w → K' a w) {r : Result Next} (hh : o.upon P a K (Keep X Q) r) : o.upon P a K' Q r := by
  cases r with
  | ok n w' =>
    cases n <;> simp only [Oper.upon] at hh ⊢ <;>
      first
        | exact hK _ _ (keep_put hd h _) hh
        | (refine hK _ _ ?_ hh; first | exact keep_put hd h _ | exact keep_put (a := { a with defers := _ :: a.defers }) hd h _)
        | (refine Calls.mono hh (fun e w'' he => ?_); cases e with
            | returned v => exact hK _ _ (keep_put hd h v) he
            | panicked c => exact he a rfl h
            | outgrown => exact he)
        | exact Rows.mono hh (fun v w'' he => hK _ _ (keep_put hd h v) he)
  | halt x w' =>
    cases x <;> simp only [Oper.upon] at hh ⊢
    exact hh a rfl h
theorem wpAny_keep {P : Program} {md : Region.Mode} {ops : Array Oper} {Q : Exit → Act → World → Prop} (X : List (Nat × Value)) (hX : ∀ (i : Nat) (o : Oper), ops[i]? = some o → ∀ x ∈ X, o.dst ≠ some x.1) :
    ∀ (fuel : Nat) (listed : Array Bool) (a : Act) (w : World), (∀ x ∈ X, a.tmps.getD x.1 undef = x.2) → wpAny P md ops (Keep X Q) fuel listed a w → wpAny P md ops Q fuel listed a w := by
  intro fuel
  induction fuel with
  | zero => intro listed a w _ h; exact h
  | succ fuel ih =>
    intro listed a w ha h
    refine ⟨h.1, fun i hi => ?_⟩
    have hop := h.2 i hi
    unfold wpOp at hop ⊢
    cases ho : ops[i]? with
    | none => rw [ho] at hop; exact ih _ _ _ ha hop
    | some o =>
      rw [ho] at hop
      simp only at hop ⊢
      by_cases hw : Region.wanted o (yielded ops a.tmps) = true
      · rw [if_pos hw] at hop ⊢
        exact hop.imp (fun h2 => upon_keep (hX i o ho) ha (fun a w hk h3 => ih _ _ _ hk h3) h2) id
      · rw [if_neg hw] at hop ⊢
        exact ih _ _ _ (keep_put (hX i o ho) ha undef) hop
theorem wp_region_keep {P : Program} {id : Nat} {ops : Array Oper} {Q : Exit → Act → World → Prop} {a : Act} {w : World} (X : List (Nat × Value)) (hm : P.follows .mixedOrders = true) (hX : ops.all (fun o => X.all (fun x => o.dst != some x.1)) = true) (ha : SlotsAt X a.tmps)
    (h : wpAny P .any ops (Keep X Q) ops.size (Array.replicate ops.size false) a w.drew) : (Code.region id ops true).wp P Q a w :=
  wp_region_any hm (wpAny_keep X (fun i o ho x hx e => by
    rw [Array.all_eq_true_iff_forall_mem] at hX
    have h1 := hX o (Array.mem_of_getElem? ho)
    rw [List.all_eq_true] at h1
    have h2 := h1 x hx
    rw [e] at h2
    simp at h2) _ _ _ _ ha.all h)
def addD (ds : List Deferred) (a : Act) : Act := { a with defers := a.defers ++ ds }
theorem addD_mk (t : Array Value) (ds : List Deferred) : addD ds { tmps := t, defers := [] } = { tmps := t, defers := ds } := rfl
theorem addD_put (ds : List Deferred) (a : Act) (d : Option Tmp) (v : Value) : (addD ds a).put d v = addD ds (a.put d v) := by cases d <;> rfl
theorem upon_keepD {P : Program} {o : Oper} {a : Act} {ds : List Deferred} {K K' : Act → World → Prop} {Q : Exit → Act → World → Prop} {X : List (Nat × Value)} (hd : ∀ x ∈ X, o.dst ≠ some x.1) (h : ∀ x ∈ X, a.tmps.getD x.1 undef = x.2)
    (hK : ∀ a w, (∀ x ∈ X, a.tmps.getD x.1 undef = x.2) → K a w → K' (addD ds a) w) {r : Result Next} (hh : o.upon P a K (fun e a w => Keep X Q e (addD ds a) w) r) : o.upon P (addD ds a) K' Q r := by
  cases r with
  | ok n w' =>
    cases n <;> simp only [Oper.upon] at hh ⊢ <;>
      first
        | (rw [addD_put]; exact hK _ _ (keep_put hd h _) hh)
        | (have h2 := hK _ _ (keep_put (a := { a with defers := _ :: a.defers }) hd h undef) hh; rw [← addD_put] at h2; exact h2)
        | (refine Calls.mono hh (fun e w'' he => ?_); cases e with
            | returned v => show K' ((addD ds a).put _ v) _; rw [addD_put]; exact hK _ _ (keep_put hd h v) he
            | panicked c => exact he (addD ds a) rfl h
            | outgrown => obtain ⟨a, w, ha⟩ := he; exact ⟨_, _, ha⟩)
        | exact Rows.mono hh (fun v w'' he => by rw [addD_put]; exact hK _ _ (keep_put hd h v) he)
  | halt x w' =>
    cases x <;> simp only [Oper.upon] at hh ⊢
    exact hh (addD ds a) rfl h
theorem wpAnyH_keepD {P : Program} {md : Region.Mode} {ops : Array Oper} {S : World → Prop} {Q : Exit → Act → World → Prop} (X : List (Nat × Value)) (ds : List Deferred) (hX : ∀ (i : Nat) (o : Oper), ops[i]? = some o → ∀ x ∈ X, o.dst ≠ some x.1) :
    ∀ (fuel : Nat) (listed : Array Bool) (a : Act) (w : World), (∀ x ∈ X, a.tmps.getD x.1 undef = x.2) → wpAnyH P md ops (fun e a w => Keep X Q e (addD ds a) w) S fuel listed a w → wpAnyH P md ops Q S fuel listed (addD ds a) w := by
  intro fuel
  induction fuel with
  | zero => intro listed a w _ h; exact h
  | succ fuel ih =>
    intro listed a w ha h
    refine ⟨h.1, fun i hi => ?_⟩
    have hop := h.2 i hi
    unfold wpOp at hop ⊢
    cases ho : ops[i]? with
    | none => rw [ho] at hop; exact ⟨hop.1, ih _ _ _ ha hop.2⟩
    | some o =>
      rw [ho] at hop
      simp only at hop ⊢
      by_cases hw : Region.wanted o (yielded ops a.tmps) = true
      · rw [if_pos hw] at hop
        rw [if_pos (show Region.wanted o (yielded ops (addD ds a).tmps) = true from hw)]
        refine hop.imp (fun h2 => upon_keepD (hX i o ho) ha (fun a w hk h3 => ⟨h3.1, ih _ _ _ hk h3.2⟩) h2) (fun h2 => ⟨h2.1, ?_⟩)
        obtain ⟨a, w, ha⟩ := h2.2
        exact ⟨_, _, ha⟩
      · rw [if_neg hw] at hop
        rw [if_neg (show ¬ Region.wanted o (yielded ops (addD ds a).tmps) = true from hw), addD_put]
        exact ⟨hop.1, ih _ _ _ (keep_put (hX i o ho) ha undef) hop.2⟩
theorem wp_region_keepD {P : Program} {id : Nat} {ops : Array Oper} {S : World → Prop} {Q : Exit → Act → World → Prop} {t : Array Value} {ds : List Deferred} {w : World} (X : List (Nat × Value)) (hm : P.follows .mixedOrders = true) (hX : ops.all (fun o => X.all (fun x => o.dst != some x.1)) = true) (ha : SlotsAt X t)
    (h : wpAnyH P .any ops (fun e a w => Keep X Q e (addD ds a) w) S ops.size (Array.replicate ops.size false) { tmps := t, defers := [] } w.drew) : (Code.region id ops true).wp P Q { tmps := t, defers := ds } w :=
  wp_region_held (S := S) hm (wpAnyH_keepD X ds (fun i o ho x hx e => by
    rw [Array.all_eq_true_iff_forall_mem] at hX
    have h1 := hX o (Array.mem_of_getElem? ho)
    rw [List.all_eq_true] at h1
    have h2 := h1 x hx
    rw [e] at h2
    simp at h2) _ _ { tmps := t, defers := [] } _ ha.all h)
end
end Go.Proofs.YtkefjeabckainaaGreat

namespace Go.Proofs.YtkefjeabckainaaGreat
section
open Go.RowKit Go.Maps
set_option maxRecDepth 100000
set_option linter.unusedVariables false

theorem fown_not {w : World} {v : Value} {L : List Nod} {b : Nat} {cs : Array Value} {t : TypeId} {fr : Nat × Nat} (h : NodsAt w v L) (hne : L ≠ []) (hb : w.heap[b]? = some (.cells cs t fr)) (hs : cs.size < 12) : v.ownBlock ≠ some b := by
  intro e
  obtain ⟨a, c, rfl, _, _⟩ := h.form
  obtain ⟨b', o, ha, hr⟩ := h.range 0 (List.length_pos_iff.2 hne)
  subst ha
  simp [Value.ownBlock] at e
  subst e
  have h11 := hr 11 _ (by rw [nod_cells]; rfl)
  rw [block_cell hb (o + 0 * 12 + 11), Array.getElem?_eq_none (by omega)] at h11
  cases h11
theorem frld_errno {p : Addr} {v : Value} {w : World} (h : w.cell? p = some v) : (loadVar 33 p).run Tryz.prog w = .ok v w := by simp [go_sem, h]
theorem fakeAnyF {G : Prop} (h : G) (_ : wpAny Tryz.prog .any #[] (fun _ _ _ => True) 0 #[] { tmps := #[], defers := [] } default) : G := h
theorem results_sc {P : Program} {fn : Func} {p q : Tmp} {ty2 : TypeId} (h : fn.results = #[.tmp p, .cell q ty2]) (tmps : Array Value) (w : World) (g2 : Nat) (x y : Value)
    (hp : tmps.getD p undef = y) (hq : tmps.getD q undef = .pointer (some ⟨g2, 0, none⟩)) (hx : (loadVar ty2 ⟨g2, 0, none⟩).run P w = .ok x w) :
    (results fn tmps).run P w = .ok (.tuple #[y, x]) w := by
  have hp' : tmps[p]?.getD undef = y := by simpa using hp
  have hq' : tmps[q]?.getD undef = .pointer (some ⟨g2, 0, none⟩) := by simpa using hq
  simp [results, h, hp', hq', asAddr, hx]
theorem results_c1 {P : Program} {fn : Func} {q : Tmp} {ty2 : TypeId} (h : fn.results = #[.cell q ty2]) (tmps : Array Value) (w : World) (g2 : Nat) (x : Value)
    (hq : tmps.getD q undef = .pointer (some ⟨g2, 0, none⟩)) (hx : (loadVar ty2 ⟨g2, 0, none⟩).run P w = .ok x w) :
    (results fn tmps).run P w = .ok x w := by
  have hq' : tmps[q]?.getD undef = .pointer (some ⟨g2, 0, none⟩) := by simpa using hq
  simp [results, h, hq', asAddr, hx]
theorem FSo.aside {w : World} {b m p n k : Nat} {v : Value} {f : FsV} {u : Usr} (h : FSo w b m v p f u n) (ho : v.ownBlock ≠ some k) (hbk : b < k) (hmk : m < k) (x : Value) :
    FSo (w.setCell ⟨k, 0, none⟩ x) b m v p f u n := by
  obtain ⟨W0, h1, h2, h3, h4⟩ := h.tab
  have hkk : ∀ j, j ≠ k → (w.setCell ⟨k, 0, none⟩ x).heap[j]? = w.heap[j]? := fun j hj => block_set_other hj
  exact ⟨h.ne, (hkk b (by omega)).trans h.blk, NodsAt.other h.row k ho (by simp [World.setCell]) hkk, h.nb, h.nm, ⟨W0, h1, h2.setCell (p := ⟨k, 0, none⟩) (by show W0.heap.size ≤ k; omega) _, h3, h4⟩, h.map.kept (hkk m (by omega))⟩
theorem FStep.aside {b m k : Nat} {w w' : World} (h : FStep b m w w') (hk : w.heap.size ≤ k) (x : Value) : FStep b m w (w'.setCell ⟨k, 0, none⟩ x) :=
  ⟨fun B h1 h2 h3 => (h.below B h1 h2 h3).setCell (p := ⟨k, 0, none⟩) (by show B ≤ k; omega) x, fun j hj h1 h2 => (block_set_other (by show j ≠ k; omega)).trans (h.block j hj h1 h2), by have := h.size; simpa [World.setCell] using this⟩
theorem FSo.back {w : World} {b m p n k E : Nat} {v y : Value} {f : FsV} {u : Usr} {T : TypeId} {fr : Nat × Nat} (h : FSo w b m v p f u n) (hne : f.t.n ≠ []) (hk : w.heap[k]? = some (.cells #[y] T fr)) (hbk : b < k) (hmk : m < k) :
    FSo (backW w b k f.t.next v E) b m v p f u n := by
  unfold backW
  have hA := (Below.refl w.heap.size w).alloc (Nat.le_refl _) (.cells #[.int .u64 (f.t.next : Int), v] 30)
  have h1 := (h.below hA).put f.t (h.row.below hA) h.nb h.nm
  exact FSo.aside h1 (fown_not h.row hne hk (by show 1 < 12; omega)) hbk hmk _
theorem FStep.back {b m k : Nat} {w w' : World} (h : FStep b m w w') (hk : w.heap.size ≤ k) (next E : Nat) (v : Value) : FStep b m w (backW w' b k next v E) := by
  unfold backW
  exact (h.trans ((FStep.pure ((Below.refl _ _).alloc (Nat.le_refl _) _)).trans (FStep.put _ _))).aside hk _
theorem back_cell {w : World} {b k next E : Nat} {v y : Value} {T : TypeId} {fr : Nat × Nat} (hk : w.heap[k]? = some (.cells #[y] T fr)) (hbk : b < k) : (backW w b k next v E).cell? ⟨k, 0, none⟩ = some (.int .i64 (E : Int)) := by
  unfold backW
  have h1 : (((w.alloc (.cells #[.int .u64 (next : Int), v] 30)).setCell ⟨b, 0, none⟩ (.int .u64 (next : Int))).setCell ⟨b, 1, none⟩ v).heap[k]? = some (.cells #[y] T fr) := by
    rw [block_set_other (show k ≠ b by omega), block_set_other (show k ≠ b by omega), heap_alloc_old _ _ (lt_of_block hk)]
    exact hk
  exact block_cell (block_set h1 0 _) 0

def FPair (b m p n : Nat) (f : FsV) (u : Usr) (x : Value) (E : Nat) (w : World) (e : Ending) (w' : World) : Prop := e = .returned (.tuple #[x, .int .i64 (E : Int)]) ∧ (∃ v', FSo w' b m v' p f u n) ∧ FStep b m w w'
def FErr (b m p n : Nat) (f : FsV) (u : Usr) (E : Nat) (w : World) (e : Ending) (w' : World) : Prop := e = .returned (.int .i64 (E : Int)) ∧ (∃ v', FSo w' b m v' p f u n) ∧ FStep b m w w'

theorem fend_bad {fn : Func} {tmps : Array Value} {R : Ending → World → Prop} {b m p n k E : Nat} {a : Option Addr} {l c : Nat} {y : Value} {f : FsV} {u : Usr} {w : World} {fv : Fn} {cap : Array Value} (h : FSo w b m (.slice a l c) p f u n) (hk : w.heap[k]? = some (.cells #[y] 33 (0, 0))) (hbk : b < k)
    (hi : (invoke (.fn fv cap) #[.pointer (some ⟨b, 0, none⟩), .agg #[.int .u64 (f.t.next : Int), .slice a l c], .pointer (some ⟨k, 0, none⟩)]).run Tryz.prog w = .ok (.enter 35 #[.pointer (some ⟨b, 0, none⟩), .agg #[.int .u64 (f.t.next : Int), .slice a l c], .pointer (some ⟨k, 0, none⟩)]) w)
    (hR : ∃ v, (results fn tmps).run Tryz.prog (backW w b k f.t.next (.slice a l c) E) = .ok v (backW w b k f.t.next (.slice a l c) E) ∧ R (.returned v) (backW w b k f.t.next (.slice a l c) E)) :
    Leaves Tryz.prog fn tmps R [{ target := .fn fv cap, args := #[.pointer (some ⟨b, 0, none⟩), .agg #[.int .u64 (f.t.next : Int), .slice a l c], .pointer (some ⟨k, 0, none⟩)] }] (.panicking (errChain E)) w := by
  refine leaves_cons (by simp) hi ?_
  refine (fcaught_panicking b k f.t.next E a l c _ _ _ _ _ y w (by omega) h.blk hk).mono ?_
  rintro e u' w'' ⟨rfl, rfl, rfl⟩
  simp only [settle, errChainR]
  exact hR
theorem fend_ok {fn : Func} {tmps : Array Value} {R : Ending → World → Prop} {b k next : Nat} {a : Option Addr} {l c : Nat} {w : World} {fv : Fn} {cap : Array Value}
    (hi : (invoke (.fn fv cap) #[.pointer (some ⟨b, 0, none⟩), .agg #[.int .u64 (next : Int), .slice a l c], .pointer (some ⟨k, 0, none⟩)]).run Tryz.prog w = .ok (.enter 35 #[.pointer (some ⟨b, 0, none⟩), .agg #[.int .u64 (next : Int), .slice a l c], .pointer (some ⟨k, 0, none⟩)]) w)
    (hR : ∃ v, (results fn tmps).run Tryz.prog (w.alloc (.cells #[.int .u64 (next : Int), .slice a l c] 30)) = .ok v (w.alloc (.cells #[.int .u64 (next : Int), .slice a l c] 30)) ∧ R (.returned v) (w.alloc (.cells #[.int .u64 (next : Int), .slice a l c] 30))) :
    Leaves Tryz.prog fn tmps R [{ target := .fn fv cap, args := #[.pointer (some ⟨b, 0, none⟩), .agg #[.int .u64 (next : Int), .slice a l c], .pointer (some ⟨k, 0, none⟩)] }] .returning w := by
  refine leaves_cons (by simp) hi ?_
  refine (fcaught_idle b k next a l c w).mono ?_
  rintro e u' w'' ⟨rfl, rfl, rfl⟩
  simp only [settle]
  exact hR
theorem fpair_bad {fn : Func} {s t : Tmp} (hres : fn.results = #[.tmp s, .cell t 33]) {tmps : Array Value} {b m p n k E : Nat} {a : Option Addr} {l c : Nat} {x y : Value} {f : FsV} {u : Usr} {w0 w : World} {fv : Fn} {cap : Array Value} (h : FSo w b m (.slice a l c) p f u n) (hS : FStep b m w0 w) (hne : f.t.n ≠ []) (hk : w.heap[k]? = some (.cells #[y] 33 (0, 0))) (hbk : b < k) (hmk : m < k) (hk0 : w0.heap.size ≤ k)
    (hi : (invoke (.fn fv cap) #[.pointer (some ⟨b, 0, none⟩), .agg #[.int .u64 (f.t.next : Int), .slice a l c], .pointer (some ⟨k, 0, none⟩)]).run Tryz.prog w = .ok (.enter 35 #[.pointer (some ⟨b, 0, none⟩), .agg #[.int .u64 (f.t.next : Int), .slice a l c], .pointer (some ⟨k, 0, none⟩)]) w)
    (hs : tmps.getD s undef = x) (ht : tmps.getD t undef = .pointer (some ⟨k, 0, none⟩)) :
    Leaves Tryz.prog fn tmps (FPair b m p n f u x E w0) [{ target := .fn fv cap, args := #[.pointer (some ⟨b, 0, none⟩), .agg #[.int .u64 (f.t.next : Int), .slice a l c], .pointer (some ⟨k, 0, none⟩)] }] (.panicking (errChain E)) w :=
  fend_bad h hk hbk hi ⟨_, results_sc hres _ _ k _ _ hs ht (frld_errno (back_cell hk hbk)), rfl, ⟨_, h.back hne hk hbk hmk⟩, hS.back hk0 _ _ _⟩
theorem ferr_bad {fn : Func} {t : Tmp} (hres : fn.results = #[.cell t 33]) {tmps : Array Value} {b m p n k E : Nat} {a : Option Addr} {l c : Nat} {y : Value} {f : FsV} {u : Usr} {w0 w : World} {fv : Fn} {cap : Array Value} (h : FSo w b m (.slice a l c) p f u n) (hS : FStep b m w0 w) (hne : f.t.n ≠ []) (hk : w.heap[k]? = some (.cells #[y] 33 (0, 0))) (hbk : b < k) (hmk : m < k) (hk0 : w0.heap.size ≤ k)
    (hi : (invoke (.fn fv cap) #[.pointer (some ⟨b, 0, none⟩), .agg #[.int .u64 (f.t.next : Int), .slice a l c], .pointer (some ⟨k, 0, none⟩)]).run Tryz.prog w = .ok (.enter 35 #[.pointer (some ⟨b, 0, none⟩), .agg #[.int .u64 (f.t.next : Int), .slice a l c], .pointer (some ⟨k, 0, none⟩)]) w)
    (ht : tmps.getD t undef = .pointer (some ⟨k, 0, none⟩)) :
    Leaves Tryz.prog fn tmps (FErr b m p n f u E w0) [{ target := .fn fv cap, args := #[.pointer (some ⟨b, 0, none⟩), .agg #[.int .u64 (f.t.next : Int), .slice a l c], .pointer (some ⟨k, 0, none⟩)] }] (.panicking (errChain E)) w :=
  fend_bad h hk hbk hi ⟨_, results_c1 hres _ _ k _ ht (frld_errno (back_cell hk hbk)), rfl, ⟨_, h.back hne hk hbk hmk⟩, hS.back hk0 _ _ _⟩
theorem fpair_ok {fn : Func} {s t : Tmp} (hres : fn.results = #[.tmp s, .cell t 33]) {tmps : Array Value} {b m p n k next E : Nat} {a : Option Addr} {l c : Nat} {v x : Value} {f : FsV} {u : Usr} {w0 w : World} {fv : Fn} {cap : Array Value} (h : FSo w b m v p f u n) (hS : FStep b m w0 w) (hk : w.heap[k]? = some (.cells #[.int .i64 (E : Int)] 33 (0, 0)))
    (hi : (invoke (.fn fv cap) #[.pointer (some ⟨b, 0, none⟩), .agg #[.int .u64 (next : Int), .slice a l c], .pointer (some ⟨k, 0, none⟩)]).run Tryz.prog w = .ok (.enter 35 #[.pointer (some ⟨b, 0, none⟩), .agg #[.int .u64 (next : Int), .slice a l c], .pointer (some ⟨k, 0, none⟩)]) w)
    (hs : tmps.getD s undef = x) (ht : tmps.getD t undef = .pointer (some ⟨k, 0, none⟩)) :
    Leaves Tryz.prog fn tmps (FPair b m p n f u x E w0) [{ target := .fn fv cap, args := #[.pointer (some ⟨b, 0, none⟩), .agg #[.int .u64 (next : Int), .slice a l c], .pointer (some ⟨k, 0, none⟩)] }] .returning w := by
  have hA := (Below.refl w.heap.size w).alloc (Nat.le_refl _) (.cells #[.int .u64 (next : Int), .slice a l c] 30)
  exact fend_ok hi ⟨_, results_sc hres _ _ k _ _ hs ht (frld_errno (block_cell ((hA.block _ (lt_of_block hk)).trans hk) 0)), rfl, ⟨_, h.below hA⟩, hS.trans (FStep.pure hA)⟩
theorem ferr_ok {fn : Func} {t : Tmp} (hres : fn.results = #[.cell t 33]) {tmps : Array Value} {b m p n k next E : Nat} {a : Option Addr} {l c : Nat} {v : Value} {f : FsV} {u : Usr} {w0 w : World} {fv : Fn} {cap : Array Value} (h : FSo w b m v p f u n) (hS : FStep b m w0 w) (hk : w.heap[k]? = some (.cells #[.int .i64 (E : Int)] 33 (0, 0)))
    (hi : (invoke (.fn fv cap) #[.pointer (some ⟨b, 0, none⟩), .agg #[.int .u64 (next : Int), .slice a l c], .pointer (some ⟨k, 0, none⟩)]).run Tryz.prog w = .ok (.enter 35 #[.pointer (some ⟨b, 0, none⟩), .agg #[.int .u64 (next : Int), .slice a l c], .pointer (some ⟨k, 0, none⟩)]) w)
    (ht : tmps.getD t undef = .pointer (some ⟨k, 0, none⟩)) :
    Leaves Tryz.prog fn tmps (FErr b m p n f u E w0) [{ target := .fn fv cap, args := #[.pointer (some ⟨b, 0, none⟩), .agg #[.int .u64 (next : Int), .slice a l c], .pointer (some ⟨k, 0, none⟩)] }] .returning w := by
  have hA := (Below.refl w.heap.size w).alloc (Nat.le_refl _) (.cells #[.int .u64 (next : Int), .slice a l c] 30)
  exact fend_ok hi ⟨_, results_c1 hres _ _ k _ ht (frld_errno (block_cell ((hA.block _ (lt_of_block hk)).trans hk) 0)), rfl, ⟨_, h.below hA⟩, hS.trans (FStep.pure hA)⟩
end
end Go.Proofs.YtkefjeabckainaaGreat
