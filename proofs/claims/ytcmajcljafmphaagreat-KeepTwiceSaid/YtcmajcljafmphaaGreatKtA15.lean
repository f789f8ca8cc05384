/- The reference's touched, padded, Reap. Conditions: what TrOk asks.
The reference's Way: whether there is one. Conditions: at most nine hundred nodes.
The reference's Take. Conditions: what TrOk asks. -/
import Derived.Test.YtcmajcljafmphaaGreatKtA14
import Derived.Test.YtcmajcljafmphaaGreatKtA10
import Derived.Test.YtcmajcljafmphaaGreatKtA07
import Derived.Test.YtcmajcljafmphaaGreatKtA11
namespace Go.Proofs.YtcmajcljafmphaaGreat
section
open Go.RowKit
set_option maxRecDepth 100000
set_option linter.unusedVariables false

structure TrR (p q r x : Nat) (v : Value) (l : List Nod) (n : Nod) (w : World) : Prop where
  tr : w.heap[p]? = some (.cells #[.int .u64 (x : Int), v] 49 (0, 0))
  nd : w.heap[q]? = some (.cells n.cells 83 (0, 0))
  res : w.heap[r]? = some (.cells #[.int .u64 0, .slice none 0 0] 49 (0, 0))
  row : NodsAt w v l
theorem TrR.below {p q r x : Nat} {v : Value} {l : List Nod} {n : Nod} {w w' : World} (h : TrR p q r x v l n w) (hb : Below w.heap.size w w') : TrR p q r x v l n w' :=
  ⟨(hb.block _ (lt_of_block h.tr)).trans h.tr, (hb.block _ (lt_of_block h.nd)).trans h.nd, (hb.block _ (lt_of_block h.res)).trans h.res, h.row.below hb⟩
theorem TrR.t0 {p q r x : Nat} {v : Value} {l : List Nod} {n : Nod} {w : World} (h : TrR p q r x v l n w) : w.cell? ⟨p, 0, none⟩ = some (.int .u64 (x : Int)) := block_cell h.tr 0
theorem TrR.t1 {p q r x : Nat} {v : Value} {l : List Nod} {n : Nod} {w : World} (h : TrR p q r x v l n w) : w.cell? ⟨p, 1, none⟩ = some v := block_cell h.tr 1
theorem TrR.put {p q r x : Nat} {v : Value} {l : List Nod} {n n2 : Nod} {w : World} (h : TrR p q r x v l n w) (hpq : p ≠ q) (hrq : r ≠ q) (i : Nat) (u : Value) (hc : n.cells.setIfInBounds i u = n2.cells) (hrow : NodsAt (w.setCell ⟨q, i, none⟩ u) v l) : TrR p q r x v l n2 (w.setCell ⟨q, i, none⟩ u) :=
  ⟨(block_set_other (by show p ≠ q; exact hpq)).trans h.tr, by rw [← hc]; exact block_set h.nd i u, (block_set_other (by show r ≠ q; exact hrq)).trans h.res, hrow⟩
def boxR (w : World) (n : Nod) : World := (w.alloc (.cells zeroNod.cells 83)).setRow w.heap.size n.cells
theorem boxR_heap (w : World) (n : Nod) : (boxR w n).heap[w.heap.size]? = some (.cells n.cells 83 (0, 0)) := setRow_heap _ _ _ _ _ _ (heap_alloc_new _ _)
theorem boxR_below (w : World) (n : Nod) : Below w.heap.size w (boxR w n) := below_setRow ((Below.refl _ _).alloc (Nat.le_refl _) _) (Nat.le_refl _) _
end
end Go.Proofs.YtcmajcljafmphaaGreat

namespace Go.Proofs.YtcmajcljafmphaaGreat
section
open Go.RowKit
set_option maxRecDepth 100000
set_option linter.unusedVariables false

theorem elemStr2 : ElemOk Tryz.prog 76 9 1 16 := elemOk_of (z := .string ⟨#[]⟩) Tryz.underlying76 (by kernel_rfl) rfl (by decide)
theorem way_one (l : List Nod) (k : Nat) : (wayL l (k + 1) 1).isSome = true := by unfold wayL; rfl
theorem way_none {l : List Nod} {k p : Nat} (h1 : p ≠ 1) (h : getL l p = none) : (wayL l (k + 1) p).isSome = false := by unfold wayL; rw [if_neg h1, h]; rfl
theorem way_gone {l : List Nod} {k p : Nat} {n : Nod} (h1 : p ≠ 1) (h : getL l p = some n) (hg : n.gone = true) : (wayL l (k + 1) p).isSome = false := by unfold wayL; rw [if_neg h1, h]; simp [hg]
theorem way_up {l : List Nod} {k p : Nat} {n : Nod} (h1 : p ≠ 1) (h : getL l p = some n) (hg : n.gone = false) : (wayL l (k + 1) p).isSome = (wayL l k n.up).isSome := by
  conv => lhs; unfold wayL
  rw [if_neg h1, h]; simp [hg]

set_option maxHeartbeats 6400000 in
theorem rway_any (v : Value) (x : Nat) (l : List Nod) (p : Nat) (w : World) (hv : NodsAt w v l) (hl : l.length ≤ 900) :
    Calls Tryz.prog 49 #[.agg #[.int .u64 (x : Int), v], .int .u64 (p : Int)] w fun e w' => (∃ r, e = .returned (.tuple #[r, .bool (wayL l (l.length + 1) p).isSome])) ∧ Below w.heap.size w w' := by
  obtain ⟨a, c, rfl, g1, g2⟩ := hv.form
  unfold maxLen at g2
  obtain ⟨W, hW⟩ : ∃ W, W = w.alloc (.cells #[.int .u64 (x : Int), .slice a l.length c] 49) := ⟨_, rfl⟩
  have hb0 : Below w.heap.size w W := by rw [hW]; exact (Below.refl w.heap.size w).alloc (Nat.le_refl _) _
  have hX0 := hid (show W.heap[w.heap.size]? = some (.cells #[.int .u64 (x : Int), .slice a l.length c] 49 (0, 0)) by rw [hW, heap_alloc_new])
  replace hv := hid hv
  replace hb0 := hid hb0
  obtain ⟨r, hr⟩ : ∃ r, r = (wayL l (l.length + 1) p).isSome := ⟨_, rfl⟩
  rw [← hr]
  replace hr := hid hr
  go_enter Tryz.func49, Tryz.ntmps49
  go_wp2_with (rw [← hW]; replace hW := hid hW)
  go_loopg [1, 6, 7] (l.length + 1) (fun g1 pv ov kv wr => ∃ (q k m : Nat) (ys : List ByteArray), pv = .int .u64 (q : Int) ∧ kv = .int .i64 (k : Int) ∧ k ≤ l.length + 1 ∧ l.length + 1 - k ≤ g1 ∧ m ≤ k ∧ wr.ownsRow (w.heap.size + 1) 9 1 ov m (ys.map Value.string) ∧ Hid (Below w.heap.size w wr) ∧ Hid (wr.heap[w.heap.size]? = some (.cells #[.int .u64 (x : Int), .slice a l.length c] 49 (0, 0))) ∧ Hid (r = (wayL l (l.length + 1 - k) q).isSome))
  case atStart => exact ⟨p, 0, 0, [], rfl, by first | rfl | go_num, by omega, by omega, by omega, World.ownsRow_nil _ _ _ _, hb0, hX0, hr⟩
  case round =>
    clear hb0 hX0 hr
    obtain ⟨q, k, m, ys, rfl, rfl, hk, hg, hmk, hown, hB, hX, hR⟩ := hrel
    obtain ⟨oa, oc, rfl⟩ := own_form hown
    have e0 := block_cell hX.out 0
    have e1 := block_cell hX.out 1
    replace hown := hid hown
    by_cases hkl : k ≤ l.length
    · have hkz : (k : Int) ≤ (l.length : Int) := by omega
      obtain ⟨j, hj⟩ : ∃ j, l.length + 1 - k = j + 1 := ⟨l.length - k, by omega⟩
      rw [hj] at hR
      replace hj := hid hj
      by_cases hq1 : q = 1
      · have k1 : ((q : Int) == 1) = true := by simpa using (by omega : (q : Int) = 1)
        have hR2 := hid (show r = true by rw [hR.out, hq1]; exact way_one l j)
        clear hq1 hR
        go_wp2_with fail
        go_ret2
        exact ⟨⟨_, by rw [hR2.out]; rfl⟩, hB.out⟩
      · have k1 : ((q : Int) == 1) = false := by rw [beq_eq_false_iff_ne]; omega
        have hget := hid (rget_any _ x l q wr (hv.out.below hB.out) (by omega))
        go_wp2_with fail
        refine hget.out.mono ?_
        rintro e w3 ⟨rfl, hb3⟩
        obtain ⟨n, hn⟩ : ∃ n, n = getN l q := ⟨_, rfl⟩
        rw [← hn]
        have hnew := hid (heap_alloc_new w3 (.cells zeroNod.cells 83))
        obtain ⟨X2, hX2⟩ : ∃ W, W = boxR w3 n := ⟨_, rfl⟩
        have hbX : Below w3.heap.size w3 X2 := by rw [hX2]; exact boxR_below _ _
        have hD0 : X2.heap[w3.heap.size]? = some (.cells n.cells 83 (0, 0)) := by rw [hX2]; exact boxR_heap _ _
        have hbb := sn hb3 hbX
        have hB2 := hid (sn hB.out hbb)
        have hown2 := hid (own_below hown.out hbb)
        have hXa := hid ((hbb.block _ (lt_of_block hX.out)).trans hX.out)
        have c10 : X2.cell? ⟨w3.heap.size, 10, none⟩ = some (.bool n.gone) := block_cell hD0 10
        have c5 : X2.cell? ⟨w3.heap.size, 5, none⟩ = some (.string n.name) := block_cell hD0 5
        have c9 : X2.cell? ⟨w3.heap.size, 9, none⟩ = some (.int .u64 (n.up : Int)) := block_cell hD0 9
        have hD1 := hid hD0
        unfold boxR at hX2
        rw [zeroNod_cells] at hX2 hnew
        replace hn := hid hn
        clear hget hb3 hbX hbb hD0 e0 e1 hB hown hX
        go_upto_region 8 with (first
          | (rw [← hX2]; replace hX2 := hid hX2)
          | (refine wpList_store_row (by rfl) 83 (.tmp 8) (.tmp 24) (by rfl) w3.heap.size n.cells (by rfl) (by rfl) 83 _ hnew.out (by kernel_rfl) (by kernel_rfl) (nod_one n) ?_))
        try (rw [← hX2]; replace hX2 := hid hX2)
        clear hnew
        generalize w3.heap.size = z2 at *
        cases hgt : getL l q with
        | none =>
          have hR2 := hid (show r = false by rw [hR.out]; exact way_none hq1 hgt)
          simp only [Option.isSome_none]
          clear hgt hR hq1
          go_wp2_with fail
          go_ret2
          exact ⟨⟨_, by rw [hR2.out]; rfl⟩, hB2.out⟩
        | some y =>
          have hny : n = y := by rw [hn.out]; unfold getN; rw [hgt]; rfl
          subst hny
          simp only [Option.isSome_some]
          cases hgn : n.gone with
          | true =>
            have hR2 := hid (show r = false by rw [hR.out]; exact way_gone hq1 hgt hgn)
            rw [hgn] at c10
            clear hgt hR hq1 hgn
            go_wp2_with fail
            go_ret2
            exact ⟨⟨_, by rw [hR2.out]; rfl⟩, hB2.out⟩
          | false =>
            have hR2 := hid (show r = (wayL l (l.length + 1 - (k + 1)) n.up).isSome by
              rw [hR.out, way_up hq1 hgt hgn, show l.length + 1 - (k + 1) = j by have := hj.out; omega])
            rw [hgn] at c10
            clear hgt hR hq1 hgn
            obtain ⟨W5, hW5⟩ : ∃ W, W = X2.alloc (.cells #[.string n.name] 9) := ⟨_, rfl⟩
            have hb5 : Below X2.heap.size X2 W5 := by rw [hW5]; exact (Below.refl _ _).alloc (Nat.le_refl _) _
            have hlt := lt_of_block hXa.out
            have hownN := hid (show W5.ownsRow (w.heap.size + 1) 9 1 (.slice (some ⟨X2.heap.size, 0, none⟩) 1 1) 1 [.string n.name] from ⟨rfl, .inr ⟨X2.heap.size, 1, #[.string n.name], rfl, by omega, by rw [hW5]; exact heap_alloc_new _ _, Nat.le_refl _, by unfold maxLen; omega, rfl, rfl⟩⟩)
            have hsrc := hid (RowAt.of_own (own_below hown2.out hb5))
            have hB5 := hid (sn hB2.out hb5)
            have hX5 := hid ((hb5.block _ (lt_of_block hXa.out)).trans hXa.out)
            have hD5 := hid ((hb5.block _ (lt_of_block hD1.out)).trans hD1.out)
            have hone : Hid (∀ u ∈ ys.map Value.string, u.oneCell' = true) := hid (by intro u hu; obtain ⟨s, _, rfl⟩ := List.mem_map.1 hu; rfl)
            have hs5 := hid (lt_of_block hX5.out)
            have hzl := hid (lt_of_block hD1.out)
            clear hb5 hlt
            go_wp2_with (first
              | (rw [← hW5]; replace hW5 := hid hW5)
              | (at_builtin; refine wpList_append_row elemStr2 _ rfl (.tmp 34) (.tmp 35) rfl (w.heap.size + 1) (.slice (some ⟨X2.heap.size, 0, none⟩) 1 1) 1 [.string n.name] rfl hownN.out (.slice oa m oc) m (ys.map Value.string) rfl hsrc.out hone.out (by unfold maxLen; omega) (by omega) (by have := hs5.out; omega) ?_))
            intro a' c' w' h2 h3
            have hB6 := hid (hB5.out.grown h3 hB5.out.size (fun j hj => by have := (hownN.out.lt j hj).1; omega))
            have hX6 := hid ((h3.block w.heap.size hs5.out (fun e => by have := (hownN.out.lt _ e.symm).1; omega)).trans hX5.out)
            have hD6 := (h3.block z2 (lt_of_block hD5.out) (fun e => by have h8 := hzl.out; simp [Value.ownBlock] at e; omega)).trans hD5.out
            have c9 : w'.cell? ⟨z2, 9, none⟩ = some (.int .u64 (n.up : Int)) := block_cell hD6 9
            have hown6 := hid (show w'.ownsRow (w.heap.size + 1) 9 1 (.slice a' (1 + m) c') (1 + m) ((n.name :: ys).map Value.string) from h2)
            clear h2 h3 hD6
            go_wp2_with fail
            go_roundg (l.length + 1 - (k + 1))
            case measure => omega
            case rel => exact ⟨n.up, k + 1, 1 + m, n.name :: ys, rfl, by first | rfl | go_num, by omega, by omega, by omega, hown6.out, hB6, hX6, hR2⟩
    · have hkz : ¬ (k : Int) ≤ (l.length : Int) := by omega
      have hR2 := hid (show r = false by rw [hR.out, show l.length + 1 - k = 0 by omega]; rfl)
      clear hR
      go_wp2_with fail
      go_ret2
      exact ⟨⟨_, by rw [hR2.out]; rfl⟩, hB.out⟩
end
end Go.Proofs.YtcmajcljafmphaaGreat

namespace Go.Proofs.YtcmajcljafmphaaGreat
section
open Go.RowKit
set_option maxRecDepth 100000
set_option linter.unusedVariables false
end
end Go.Proofs.YtcmajcljafmphaaGreat
