/- The reference's trees: kid, Get, Find, Bytes. Conditions: at most a thousand nodes.
The reference's Drop. Conditions: at most a thousand nodes. -/
import Derived.Test.YtpmlhmficmillaaGreatBunND
import Derived.Test.YtpmlhmficmillaaGreatBunNE
namespace Go.Proofs.YtpmlhmficmillaaGreat
section
open Go.RowKit
set_option maxRecDepth 100000
set_option linter.unusedVariables false

theorem rkid_any (n : Nod) (d : Nat) (w : World) : Calls Tryz.prog 70 #[.agg n.cells, .int .u64 (d : Int)] w fun e w' => e = .returned (.bool (kidB d n)) ∧ Below w.heap.size w w' := by
  have hb := hid ((Below.refl w.heap.size w).alloc (Nat.le_refl _) (.cells n.cells 38))
  have hE : Hid (kidB d n = (!n.gone && decide (n.path ≠ 1) && decide (n.up = d))) := hid rfl
  have k1 : ((n.path : Int) != 1) = decide (n.path ≠ 1) := by
    rw [Bool.eq_iff_iff]; simp; omega
  have k2 : ((n.up : Int) == (d : Int)) = decide (n.up = d) := by
    rw [Bool.eq_iff_iff]; simp; omega
  rw [nod_cells] at hb ⊢
  generalize decide (n.path ≠ 1) = b1 at *
  generalize decide (n.up = d) = b2 at *
  generalize kidB d n = r at *
  generalize n.gone = g at *
  cases g <;> cases b1 <;> cases b2 <;>
  · go_enter Tryz.func70, Tryz.ntmps70
    go_wp2_with fail
    go_ret
    exact ⟨ret_bool (by rw [hE.out]; rfl), hb.out⟩
theorem get_step {l : List Nod} {k : Nat} (hk : k < l.length) (p : Nat) : getL (l.drop k) p = if l[k].path = p then some l[k] else getL (l.drop (k + 1)) p := by
  unfold getL
  rw [List.drop_eq_getElem_cons hk, List.find?_cons]
  by_cases h : l[k].path = p <;> simp [h]

set_option maxHeartbeats 3200000 in
theorem rget_any (v : Value) (x : Nat) (l : List Nod) (p : Nat) (w : World) (hv : NodsAt w v l) (hl : l.length ≤ 1000) :
    Calls Tryz.prog 69 #[.agg #[.int .u64 (x : Int), v], .int .u64 (p : Int)] w (GetPost w l p) := by
  obtain ⟨a, c, rfl, g1, g2⟩ := hv.form
  unfold maxLen at g2
  obtain ⟨W, hW⟩ : ∃ W, W = (w.alloc (.cells #[.int .u64 (x : Int), .slice a l.length c] 33)).alloc (.cells zeroNod.cells 38) := ⟨_, rfl⟩
  have hb0 : Below w.heap.size w W := by rw [hW]; exact ((Below.refl w.heap.size w).alloc (Nat.le_refl _) _).alloc (by simp) _
  have hx0 : W.heap[w.heap.size]? = some (.cells #[.int .u64 (x : Int), .slice a l.length c] 33 (0, 0)) := by rw [hW, heap_alloc_old _ _ (by simp), heap_alloc_new]
  have hy0 : W.heap[w.heap.size + 1]? = some (.cells zeroNod.cells 38 (0, 0)) := by rw [hW]; exact heap2 _ _ _
  have e1 := block_cell hx0 1
  replace hv := hid (hv.below hb0)
  replace hb0 := hid hb0
  replace hy0 := hid hy0
  clear hx0
  rw [zeroNod_cells] at hW
  go_enter Tryz.func69, Tryz.ntmps69
  go_wp2_with (rw [← hW]; replace hW := hid hW)
  try (rw [← hW]; replace hW := hid hW)
  go_loopw [6] (fun kv wr => wr = W ∧ ∃ k : Nat, k ≤ l.length ∧ kv = .int .i64 (k : Int) ∧ Hid (getL l p = getL (l.drop k) p)) (fun kv _ => l.length - (intOf kv).toNat)
  case atStart => exact ⟨rfl, 0, by omega, rfl, hid rfl⟩
  case round =>
    obtain ⟨rfl, k, hk, rfl, hF⟩ := hrel
    by_cases hkl : k < l.length
    · obtain ⟨b, o, ha, hr⟩ := hv.out.range k hkl
      subst ha
      have hst := hid (hF.out.trans (get_step hkl p))
      generalize l[k] = n at *
      have f0 : wr.cell? ⟨b, o + k * 12, none⟩ = some (.int .u64 (n.path : Int)) := by have := hr 0 (.int .u64 (n.path : Int)) (by rw [nod_cells]; rfl); rwa [Nat.add_zero] at this
      replace hr := hid hr
      by_cases hnp : n.path = p
      · have k1 : ((n.path : Int) == (p : Int)) = true := by rw [hnp]; simp
        have hF2 := hid (show getL l p = some n by rw [hst.out, if_pos hnp])
        clear hnp hst hF
        go_wp2_with (first
          | (refine wpList_load_cells (by rfl) 38 (.tmp 25) (by rfl) b (o + k * 12) (by rfl) n.cells _ hr.out Tryz.underlying38 (by rfl) (by kernel_rfl) ?_)
          | (refine wpList_store_row (by rfl) 38 (.tmp 4) (.tmp 26) (by rfl) (w.heap.size + 1) n.cells (by rfl) (by rfl) 38 _ hy0.out (by kernel_rfl) (by kernel_rfl) (nod_one n) ?_))
        refine bodyPost_ret (results_cs rfl _ _ (w.heap.size + 1) _ _ _ _ _ rfl rfl (setRow_heap _ _ _ n.cells _ _ hy0.out) Tryz.underlying38 rfl (by kernel_rfl)) rfl ?_
        refine ⟨?_, below_setRow hb0.out (by omega) _⟩
        unfold getN
        rw [hF2.out]; rfl
      · have k1 : ((n.path : Int) == (p : Int)) = false := by rw [beq_eq_false_iff_ne]; omega
        have hF2 := hid (show getL l p = getL (l.drop (k + 1)) p by rw [hst.out, if_neg hnp])
        clear hnp hst hF
        go_wp2_with fail
        go_roundw
        case rel => exact ⟨by first | rfl | trivial, k + 1, by omega, by go_num, hF2⟩
        case measure => simp [intOf]; omega
    · obtain rfl : k = l.length := by omega
      have hF2 := hid (show getL l p = none by rw [hF.out, List.drop_length]; rfl)
      go_wp2_with (refine wpList_store_row (by rfl) 38 (.tmp 4) (.tmp 27) (by rfl) (w.heap.size + 1) zeroNod.cells (by rfl) (by rfl) 38 _ hy0.out (by kernel_rfl) (by kernel_rfl) (by kernel_rfl) ?_)
      refine bodyPost_ret (results_cs rfl _ _ (w.heap.size + 1) _ _ _ _ _ rfl rfl (setRow_heap _ _ _ zeroNod.cells _ _ hy0.out) Tryz.underlying38 rfl (by kernel_rfl)) rfl ?_
      refine ⟨?_, below_setRow hb0.out (by omega) _⟩
      unfold getN
      rw [hF2.out]; rfl

set_option maxHeartbeats 3200000 in
theorem rbytes_any (v : Value) (x : Nat) (l : List Nod) (w : World) (hv : NodsAt w v l) (hl : l.length ≤ 1000) (hd : ∀ n ∈ l, n.data.size ≤ 1000000) :
    Calls Tryz.prog 45 #[.agg #[.int .u64 (x : Int), v]] w fun e w' => e = .returned (.int .i64 (bytesL l : Int)) ∧ Below w.heap.size w w' := by
  obtain ⟨a, c, rfl, g1, g2⟩ := hv.form
  unfold maxLen at g2
  obtain ⟨W, hW⟩ : ∃ W, W = w.alloc (.cells #[.int .u64 (x : Int), .slice a l.length c] 33) := ⟨_, rfl⟩
  have hb0 : Below w.heap.size w W := by rw [hW]; exact (Below.refl w.heap.size w).alloc (Nat.le_refl _) _
  have hx0 : W.heap[w.heap.size]? = some (.cells #[.int .u64 (x : Int), .slice a l.length c] 33 (0, 0)) := by rw [hW, heap_alloc_new]
  have e1 := block_cell hx0 1
  replace hv := hid (hv.below hb0)
  replace hb0 := hid hb0
  replace hd := hid hd
  clear hx0
  go_enter Tryz.func45, Tryz.ntmps45
  go_wp2_with (rw [← hW]; replace hW := hid hW)
  go_loopw [3, 4] (fun sv kv wr => wr = W ∧ ∃ k s : Nat, k ≤ l.length ∧ kv = .int .i64 (k : Int) ∧ sv = .int .i64 (s : Int) ∧ Hid (s = bytesL (l.take k))) (fun _ kv _ => l.length - (intOf kv).toNat)
  case atStart => exact ⟨rfl, 0, 0, by omega, rfl, rfl, hid rfl⟩
  case round =>
    obtain ⟨rfl, k, s, hk, rfl, rfl, hs⟩ := hrel
    by_cases hkl : k < l.length
    · obtain ⟨b, o, ha, hr⟩ := hv.out.range k hkl
      subst ha
      have hst := hid (bytesL_take hkl)
      have hle := bytesL_le (l := l.take (k + 1)) fun n hn => hd.out n (List.mem_of_mem_take hn)
      have hlt : (l.take (k + 1)).length ≤ 1000 := by simp; omega
      have hsz := hd.out _ (List.getElem_mem hkl)
      have hs2 : s + l[k].data.size ≤ 1000000000 := by rw [hs.out, ← hst.out]; omega
      clear hle hlt
      generalize l[k] = n at *
      have f11 : wr.cell? ⟨b, o + k * 12 + 11, none⟩ = some (.string n.data) := hr 11 _ (by rw [nod_cells]; rfl)
      replace hr := hid hr
      go_wp2_with fail
      go_roundw
      case rel => exact ⟨by first | rfl | trivial, k + 1, s + n.data.size, by omega, by go_num, by go_num, hid (by rw [hst.out, ← hs.out])⟩
      case measure => simp [intOf]; omega
    · obtain rfl : k = l.length := by omega
      have hs2 : s = bytesL l := by have := hs.out; rwa [List.take_length] at this
      subst hs2
      go_wp2_with fail
      go_ret
      exact ⟨rfl, hb0.out⟩
end
end Go.Proofs.YtpmlhmficmillaaGreat

namespace Go.Proofs.YtpmlhmficmillaaGreat
section
open Go.RowKit
set_option maxRecDepth 100000
set_option linter.unusedVariables false

theorem elemRN : ElemOk Tryz.prog 31 38 12 120 := elemOk_of (z := .agg zeroNod.cells) Tryz.underlying31 (by kernel_rfl) rfl (by decide)
theorem drop_take {l : List Nod} {k : Nat} (hk : k < l.length) (p : Nat) : dropL (l.take (k + 1)) p = dropL (l.take k) p ++ (if l[k].path = p then [] else [l[k]]) := by
  unfold dropL
  rw [List.take_succ_eq_append_getElem hk, List.filter_append]
  by_cases h : l[k].path = p <;> simp [h]
end
end Go.Proofs.YtpmlhmficmillaaGreat
