/- The reference's trees: kid, Get, Find, Bytes. Conditions: at most a thousand nodes.
The reference's Drop. Conditions: at most a thousand nodes. -/
import Derived.Test.YtpmlhmficmillaaGreatBunND
import Derived.Test.YtpmlhmficmillaaGreatBunNE
namespace Go.Proofs.YtpmlhmficmillaaGreat
section
open Go.RowKit
set_option maxRecDepth 100000
set_option linter.unusedVariables false

theorem rkid_any (n : Nod) (d : Nat) (w : World) : Calls Tryz.prog 70 #[.agg n.cells, .int .u64 (d : Int)] w fun e w' => e = .returned (.bool (kidB d n)) ∧ Below w.heap.size w w' := by
  have hb := hid ((Below.refl w.heap.size w).alloc (Nat.le_refl _) (.cells n.cells 38))
  have hE : Hid (kidB d n = (!n.gone && decide (n.path ≠ 1) && decide (n.up = d))) := hid rfl
  have k1 : ((n.path : Int) != 1) = decide (n.path ≠ 1) := by
    rw [Bool.eq_iff_iff]; simp; omega
  have k2 : ((n.up : Int) == (d : Int)) = decide (n.up = d) := by
    rw [Bool.eq_iff_iff]; simp; omega
  rw [nod_cells] at hb ⊢
  generalize decide (n.path ≠ 1) = b1 at *
  generalize decide (n.up = d) = b2 at *
  generalize kidB d n = r at *
  generalize n.gone = g at *
  cases g <;> cases b1 <;> cases b2 <;>
  · go_enter Tryz.func70, Tryz.ntmps70
    go_wp2_with fail
    go_ret
    exact ⟨ret_bool (by rw [hE.out]; rfl), hb.out⟩
theorem get_step {l : List Nod} {k : Nat} (hk : k < l.length) (p : Nat) : getL (l.drop k) p = if l[k].path = p then some l[k] else getL (l.drop (k + 1)) p := by
  unfold getL
  rw [List.drop_eq_getElem_cons hk, List.find?_cons]
  by_cases h : l[k].path = p <;> simp [h]

set_option maxHeartbeats 3200000 in
theorem rget_any (v : Value) (x : Nat) (l : List Nod) (p : Nat) (w : World) (hv : NodsAt w v l) (hl : l.length ≤ 1000) :
    Calls Tryz.prog 69 #[.agg #[.int .u64 (x : Int), v], .int .u64 (p : Int)] w (GetPost w l p) := by
  obtain ⟨a, c, rfl, g1, g2⟩ := hv.form
  unfold maxLen at g2
  obtain ⟨W, hW⟩ : ∃ W, W = (w.alloc (.cells #[.int .u64 (x : Int), .slice a l.length c] 33)).alloc (.cells zeroNod.cells 38) := ⟨_, rfl⟩
  have hb0 : Below w.heap.size w W := by rw [hW]; exact ((Below.refl w.heap.size w).alloc (Nat.le_refl _) _).alloc (by simp) _
  have hx0 : W.heap[w.heap.size]? = some (.cells #[.int .u64 (x : Int), .slice a l.length c] 33 (0, 0)) := by rw [hW, heap_alloc_old _ _ (by simp), heap_alloc_new]
  have hy0 : W.heap[w.heap.size + 1]? = some (.cells zeroNod.cells 38 (0, 0)) := by rw [hW]; exact heap2 _ _ _
  have e1 := block_cell hx0 1
  replace hv := hid (hv.below hb0)
  replace hb0 := hid hb0
  replace hy0 := hid hy0
  clear hx0
  rw [zeroNod_cells] at hW
  go_enter Tryz.func69, Tryz.ntmps69
  go_wp2_with (rw [← hW]; replace hW := hid hW)
  try (rw [← hW]; replace hW := hid hW)
  go_loopw [6] (fun kv wr => wr = W ∧ ∃ k : Nat, k ≤ l.length ∧ kv = .int .i64 (k : Int) ∧ Hid (getL l p = getL (l.drop k) p)) (fun kv _ => l.length - (intOf kv).toNat)
  case atStart => exact ⟨rfl, 0, by omega, rfl, hid rfl⟩
  case round =>
    obtain ⟨rfl, k, hk, rfl, hF⟩ := hrel
    by_cases hkl : k < l.length
    · obtain ⟨b, o, ha, hr⟩ := hv.out.range k hkl
      subst ha
      have hst := hid (hF.out.trans (get_step hkl p))
      generalize l[k] = n at *
      have f0 : wr.cell? ⟨b, o + k * 12, none⟩ = some (.int .u64 (n.path : Int)) := by have := hr 0 (.int .u64 (n.path : Int)) (by rw [nod_cells]; rfl); rwa [Nat.add_zero] at this
      replace hr := hid hr
      by_cases hnp : n.path = p
      · have k1 : ((n.path : Int) == (p : Int)) = true := by rw [hnp]; simp
        have hF2 := hid (show getL l p = some n by rw [hst.out, if_pos hnp])
        clear hnp hst hF
        go_wp2_with (first
          | (refine wpList_load_cells (by rfl) 38 (.tmp 25) (by rfl) b (o + k * 12) (by rfl) n.cells _ hr.out Tryz.underlying38 (by rfl) (by kernel_rfl) ?_)
          | (refine wpList_store_row (by rfl) 38 (.tmp 4) (.tmp 26) (by rfl) (w.heap.size + 1) n.cells (by rfl) (by rfl) 38 _ hy0.out (by kernel_rfl) (by kernel_rfl) (nod_one n) ?_))
        refine bodyPost_ret (results_cs rfl _ _ (w.heap.size + 1) _ _ _ _ _ rfl rfl (setRow_heap _ _ _ n.cells _ _ hy0.out) Tryz.underlying38 rfl (by kernel_rfl)) rfl ?_
        refine ⟨?_, below_setRow hb0.out (by omega) _⟩
        unfold getN
        rw [hF2.out]; rfl
      · have k1 : ((n.path : Int) == (p : Int)) = false := by rw [beq_eq_false_iff_ne]; omega
        have hF2 := hid (show getL l p = getL (l.drop (k + 1)) p by rw [hst.out, if_neg hnp])
        clear hnp hst hF
        go_wp2_with fail
        go_roundw
        case rel => exact ⟨by first | rfl | trivial, k + 1, by omega, by go_num, hF2⟩
        case measure => simp [intOf]; omega
    · obtain rfl : k = l.length := by omega
      have hF2 := hid (show getL l p = none by rw [hF.out, List.drop_length]; rfl)
      go_wp2_with (refine wpList_store_row (by rfl) 38 (.tmp 4) (.tmp 27) (by rfl) (w.heap.size + 1) zeroNod.cells (by rfl) (by rfl) 38 _ hy0.out (by kernel_rfl) (by kernel_rfl) (by kernel_rfl) ?_)
      refine bodyPost_ret (results_cs rfl _ _ (w.heap.size + 1) _ _ _ _ _ rfl rfl (setRow_heap _ _ _ zeroNod.cells _ _ hy0.out) Tryz.underlying38 rfl (by kernel_rfl)) rfl ?_
      refine ⟨?_, below_setRow hb0.out (by omega) _⟩
      unfold getN
      rw [hF2.out]; rfl

set_option maxHeartbeats 3200000 in
theorem rbytes_any (v : Value) (x : Nat) (l : List Nod) (w : World) (hv : NodsAt w v l) (hl : l.length ≤ 1000) (hd : ∀ n ∈ l, n.data.size ≤ 1000000) :
    Calls Tryz.prog 45 #[.agg #[.int .u64 (x : Int), v]] w fun e w' => e = .returned (.int .i64 (bytesL l : Int)) ∧ Below w.heap.size w w' := by
  obtain ⟨a, c, rfl, g1, g2⟩ := hv.form
  unfold maxLen at g2
  obtain ⟨W, hW⟩ : ∃ W, W = w.alloc (.cells #[.int .u64 (x : Int), .slice a l.length c] 33) := ⟨_, rfl⟩
  have hb0 : Below w.heap.size w W := by rw [hW]; exact (Below.refl w.heap.size w).alloc (Nat.le_refl _) _
  have hx0 : W.heap[w.heap.size]? = some (.cells #[.int .u64 (x : Int), .slice a l.length c] 33 (0, 0)) := by rw [hW, heap_alloc_new]
  have e1 := block_cell hx0 1
  replace hv := hid (hv.below hb0)
  replace hb0 := hid hb0
  replace hd := hid hd
  clear hx0
  go_enter Tryz.func45, Tryz.ntmps45
  go_wp2_with (rw [← hW]; replace hW := hid hW)
  go_loopw [3, 4] (fun sv kv wr => wr = W ∧ ∃ k s : Nat, k ≤ l.length ∧ kv = .int .i64 (k : Int) ∧ sv = .int .i64 (s : Int) ∧ Hid (s = bytesL (l.take k))) (fun _ kv _ => l.length - (intOf kv).toNat)
  case atStart => exact ⟨rfl, 0, 0, by omega, rfl, rfl, hid rfl⟩
  case round =>
    obtain ⟨rfl, k, s, hk, rfl, rfl, hs⟩ := hrel
    by_cases hkl : k < l.length
    · obtain ⟨b, o, ha, hr⟩ := hv.out.range k hkl
      subst ha
      have hst := hid (bytesL_take hkl)
      have hle := bytesL_le (l := l.take (k + 1)) fun n hn => hd.out n (List.mem_of_mem_take hn)
      have hlt : (l.take (k + 1)).length ≤ 1000 := by simp; omega
      have hsz := hd.out _ (List.getElem_mem hkl)
      have hs2 : s + l[k].data.size ≤ 1000000000 := by rw [hs.out, ← hst.out]; omega
      clear hle hlt
      generalize l[k] = n at *
      have f11 : wr.cell? ⟨b, o + k * 12 + 11, none⟩ = some (.string n.data) := hr 11 _ (by rw [nod_cells]; rfl)
      replace hr := hid hr
      go_wp2_with fail
      go_roundw
      case rel => exact ⟨by first | rfl | trivial, k + 1, s + n.data.size, by omega, by go_num, by go_num, hid (by rw [hst.out, ← hs.out])⟩
      case measure => simp [intOf]; omega
    · obtain rfl : k = l.length := by omega
      have hs2 : s = bytesL l := by have := hs.out; rwa [List.take_length] at this
      subst hs2
      go_wp2_with fail
      go_ret
      exact ⟨rfl, hb0.out⟩
end
end Go.Proofs.YtpmlhmficmillaaGreat

namespace Go.Proofs.YtpmlhmficmillaaGreat
section
open Go.RowKit
set_option maxRecDepth 100000
set_option linter.unusedVariables false

theorem elemRN : ElemOk Tryz.prog 31 38 12 120 := elemOk_of (z := .agg zeroNod.cells) Tryz.underlying31 (by kernel_rfl) rfl (by decide)
theorem drop_take {l : List Nod} {k : Nat} (hk : k < l.length) (p : Nat) : dropL (l.take (k + 1)) p = dropL (l.take k) p ++ (if l[k].path = p then [] else [l[k]]) := by
  unfold dropL
  rw [List.take_succ_eq_append_getElem hk, List.filter_append]
  by_cases h : l[k].path = p <;> simp [h]
set_option maxHeartbeats 6400000 in
theorem rdrop_any (v : Value) (x : Nat) (l : List Nod) (p : Nat) (w : World) (hv : NodsAt w v l) (hl : l.length ≤ 1000) :
    Calls Tryz.prog 15 #[.agg #[.int .u64 (x : Int), v], .int .u64 (p : Int)] w (SetPost w x (dropL l p)) := by
  obtain ⟨a, c, rfl, g1, g2⟩ := hv.form
  unfold maxLen at g2
  obtain ⟨W, hW⟩ : ∃ W, W = ((w.alloc (.cells #[.int .u64 (x : Int), .slice a l.length c] 33)).alloc (.cells #[.int .u64 0, .slice none 0 0] 33)).alloc (.cells #[.int .u64 (x : Int), .slice none 0 0] 33) := ⟨_, rfl⟩
  have hb0 : Below w.heap.size w W := by rw [hW]; exact (((Below.refl w.heap.size w).alloc (Nat.le_refl _) _).alloc (by simp) _).alloc (by simp; omega) _
  have hX0 := hid (show W.heap[w.heap.size]? = some (.cells #[.int .u64 (x : Int), .slice a l.length c] 33 (0, 0)) by rw [hW, heap_alloc_old _ _ (by simp; omega), heap_alloc_old _ _ (by simp), heap_alloc_new])
  have hX1 := hid (show W.heap[w.heap.size + 1]? = some (.cells #[.int .u64 0, .slice none 0 0] 33 (0, 0)) by rw [hW, heap_alloc_old _ _ (by simp)]; exact heap2 _ _ _)
  have hXU := hid (show W.heap[w.heap.size + 2]? = some (.cells #[.int .u64 (x : Int), .slice none 0 0] 33 (0, 0)) by
    rw [hW]
    have := heap_alloc_new ((w.alloc (.cells #[.int .u64 (x : Int), .slice a l.length c] 33)).alloc (.cells #[.int .u64 0, .slice none 0 0] 33)) (.cells #[.int .u64 (x : Int), .slice none 0 0] 33)
    simpa using this)
  replace hv := hid hv
  replace hb0 := hid hb0
  have hdl := hid (fun k => Nat.le_trans (drop_len (l.take k) p) (List.length_take_le k l))
  go_enter Tryz.func15, Tryz.ntmps15
  go_wp2_with (rw [← hW]; replace hW := hid hW)
  try (rw [← hW]; replace hW := hid hW)
  go_loopw [6] (fun kv wr => ∃ (k m : Nat) (ov : Value) (acc : List Nod), k ≤ l.length ∧ kv = .int .i64 (k : Int) ∧ Hid (acc = dropL (l.take k) p) ∧ Hid (wr.heap[w.heap.size + 2]? = some (.cells #[.int .u64 (x : Int), ov] 33 (0, 0))) ∧ Hid (wr.heap[w.heap.size]? = some (.cells #[.int .u64 (x : Int), .slice a l.length c] 33 (0, 0))) ∧ Hid (wr.heap[w.heap.size + 1]? = some (.cells #[.int .u64 0, .slice none 0 0] 33 (0, 0))) ∧ Hid (wr.ownsRow (w.heap.size + 3) 38 12 ov m (nodsL acc)) ∧ Hid (Below w.heap.size w wr) ∧ Hid (m = acc.length)) (fun kv _ => l.length - (intOf kv).toNat)
  case atStart => exact ⟨0, 0, .slice none 0 0, [], by omega, rfl, hid rfl, hXU, hX0, hX1, hid (World.ownsRow_nil _ _ _ _), hb0, hid rfl⟩
  case round =>
    clear hX0 hX1 hXU hb0
    obtain ⟨k, m, ov, acc, hk, rfl, hacc, hXU, hX0, hX1, hown, hB, hm⟩ := hrel
    obtain ⟨oa, oc, rfl⟩ := own_form hown.out
    have hmk : m ≤ 1000 := by rw [hm.out, hacc.out]; have := hdl.out k; omega
    have e1 := block_cell hX0.out 1
    have e2 := block_cell hXU.out 1
    by_cases hkl : k < l.length
    · obtain ⟨b, o, ha, hr⟩ := (hv.out.below hB.out).range k hkl
      subst ha
      have hst := hid (drop_take hkl p)
      generalize l[k] = n at *
      have f0 : wr.cell? ⟨b, o + k * 12, none⟩ = some (.int .u64 (n.path : Int)) := by have := hr 0 (.int .u64 (n.path : Int)) (by rw [nod_cells]; rfl); rwa [Nat.add_zero] at this
      replace hr := hid hr
      by_cases hnp : n.path = p
      · have q1 : ((n.path : Int) != (p : Int)) = false := by rw [hnp]; simp
        have ha2 := hid (show acc = dropL (l.take (k + 1)) p by rw [hst.out, if_pos hnp, hacc.out]; simp)
        clear hnp hst hacc
        go_wp2_with fail
        go_roundw
        case rel => exact ⟨k + 1, m, _, acc, by omega, by go_num, ha2, hXU, hX0, hX1, hown, hB, hm⟩
        case measure => simp [intOf]; omega
      · have q1 : ((n.path : Int) != (p : Int)) = true := by simp; omega
        have ha2 := hid (show acc ++ [n] = dropL (l.take (k + 1)) p by rw [hst.out, if_neg hnp, hacc.out])
        clear hnp hst hacc
        have hD := (Below.refl wr.heap.size wr).drew
        have hA := (Below.refl wr.drew.heap.size wr.drew).alloc (Nat.le_refl _) (.cells #[.int .u64 (n.path : Int), .int .u32 (n.vers : Int), .int .u32 (n.mode : Int), .int .u32 (n.atm : Int), .int .u32 (n.mtm : Int), .string n.name, .string n.uid, .string n.gid, .string n.muid, .int .u64 (n.up : Int), .bool n.gone, .string n.data] 38)
        have hDA : Hid (Below wr.heap.size wr (wr.drew.alloc (.cells #[.int .u64 (n.path : Int), .int .u32 (n.vers : Int), .int .u32 (n.mode : Int), .int .u32 (n.atm : Int), .int .u32 (n.mtm : Int), .string n.name, .string n.uid, .string n.gid, .string n.muid, .int .u64 (n.up : Int), .bool n.gone, .string n.data] 38))) := hid (hD.trans hA)
        have hownA := hid (own_keep hown.out (fun j hj => hDA.out.block j (hown.out.lt j hj).2))
        have hsrc : Hid (RowAt (wr.drew.alloc (.cells #[.int .u64 (n.path : Int), .int .u32 (n.vers : Int), .int .u32 (n.mode : Int), .int .u32 (n.atm : Int), .int .u32 (n.mtm : Int), .string n.name, .string n.uid, .string n.gid, .string n.muid, .int .u64 (n.up : Int), .bool n.gone, .string n.data] 38)) 12 (.slice (some ⟨wr.drew.heap.size, 0, none⟩) 1 1) 1 n.cells.toList) := hid (RowAt.of_block (n := 1) (heap_alloc_new _ _) rfl (by unfold maxLen; omega))
        have hlt2 := lt_of_block hXU.out
        have hXUA := hid ((hDA.out.block _ hlt2).trans hXU.out)
        have hX0A := hid ((hDA.out.block _ (lt_of_block hX0.out)).trans hX0.out)
        have hX1A := hid ((hDA.out.block _ (lt_of_block hX1.out)).trans hX1.out)
        have hBA := hid (hB.out.trans (hDA.out.mono hB.out.size))
        have hvl := hid hown.out.lt
        have k1 : (wr.drew.alloc (.cells #[.int .u64 (n.path : Int), .int .u32 (n.vers : Int), .int .u32 (n.mode : Int), .int .u32 (n.atm : Int), .int .u32 (n.mtm : Int), .string n.name, .string n.uid, .string n.gid, .string n.muid, .int .u64 (n.up : Int), .bool n.gone, .string n.data] 38)).cell? ⟨w.heap.size + 2, 1, none⟩ = some (.slice oa m oc) := block_cell hXUA.out 1
        have k2 : wr.drew.cell? ⟨w.heap.size + 2, 1, none⟩ = some (.slice oa m oc) := e2
        have k3 : wr.drew.cell? ⟨w.heap.size, 1, none⟩ = some (.slice (some ⟨b, o, none⟩) l.length c) := e1
        have s0 : wr.drew.cell? ⟨b, o + k * 12, none⟩ = some (.int .u64 (n.path : Int)) := f0
        have s1 : wr.drew.cell? ⟨b, o + k * 12 + 1, none⟩ = some (.int .u32 (n.vers : Int)) := hr.out 1 _ (by rw [nod_cells]; rfl)
        have s2 : wr.drew.cell? ⟨b, o + k * 12 + 2, none⟩ = some (.int .u32 (n.mode : Int)) := hr.out 2 _ (by rw [nod_cells]; rfl)
        have s3 : wr.drew.cell? ⟨b, o + k * 12 + 3, none⟩ = some (.int .u32 (n.atm : Int)) := hr.out 3 _ (by rw [nod_cells]; rfl)
        have s4 : wr.drew.cell? ⟨b, o + k * 12 + 4, none⟩ = some (.int .u32 (n.mtm : Int)) := hr.out 4 _ (by rw [nod_cells]; rfl)
        have s5 : wr.drew.cell? ⟨b, o + k * 12 + 5, none⟩ = some (.string n.name) := hr.out 5 _ (by rw [nod_cells]; rfl)
        have s6 : wr.drew.cell? ⟨b, o + k * 12 + 6, none⟩ = some (.string n.uid) := hr.out 6 _ (by rw [nod_cells]; rfl)
        have s7 : wr.drew.cell? ⟨b, o + k * 12 + 7, none⟩ = some (.string n.gid) := hr.out 7 _ (by rw [nod_cells]; rfl)
        have s8 : wr.drew.cell? ⟨b, o + k * 12 + 8, none⟩ = some (.string n.muid) := hr.out 8 _ (by rw [nod_cells]; rfl)
        have s9 : wr.drew.cell? ⟨b, o + k * 12 + 9, none⟩ = some (.int .u64 (n.up : Int)) := hr.out 9 _ (by rw [nod_cells]; rfl)
        have s10 : wr.drew.cell? ⟨b, o + k * 12 + 10, none⟩ = some (.bool n.gone) := hr.out 10 _ (by rw [nod_cells]; rfl)
        have s11 : wr.drew.cell? ⟨b, o + k * 12 + 11, none⟩ = some (.string n.data) := hr.out 11 _ (by rw [nod_cells]; rfl)
        have i1 : (0 : Int) ≤ (k : Int) := by omega
        have i2 : (k : Int) < (l.length : Int) := by omega
        replace hA := hid hA
        replace hD := hid hD
        go_wp2_with fail
        go_region_law (first | (refine step_append_row elemRN _ rfl (.tmp 26) (.tmp 32) rfl (w.heap.size + 3) (.slice oa m oc) m (nodsL acc) rfl hownA.out _ 1 n.cells.toList rfl hsrc.out (by intro u hu; exact (Array.all_eq_true_iff_forall_mem.1 (nod_one n)) u (by simpa using hu)) (by unfold maxLen; omega) (by omega) (by simp; omega) ?_; intro a' c' w' h2 h3; have hbU := (h3.block (w.heap.size + 2) (by simp; omega) (fun e => by have := (hvl.out _ e.symm).1; omega)).trans hXUA.out; have hb0 := (h3.block (w.heap.size) (by simp; omega) (fun e => by have := (hvl.out _ e.symm).1; omega)).trans hX0A.out; have hb1 := (h3.block (w.heap.size + 1) (by simp; omega) (fun e => by have := (hvl.out _ e.symm).1; omega)).trans hX1A.out; have y1 : w'.frozen? ⟨w.heap.size + 2, 1, none⟩ = false := block_free hbU 1; have y2 : w'.cell? ⟨w.heap.size + 2, 1, none⟩ = some (.slice oa m oc) := block_cell hbU 1; have nU := hid (block_set hbU 1 (.slice a' (m + 1) c')); have n0 := hid ((block_set_other (p := ⟨w.heap.size + 2, 1, none⟩) (u := .slice a' (m + 1) c') (by show w.heap.size ≠ w.heap.size + 2; omega)).trans hb0); have n1 := hid ((block_set_other (p := ⟨w.heap.size + 2, 1, none⟩) (u := .slice a' (m + 1) c') (by show w.heap.size + 1 ≠ w.heap.size + 2; omega)).trans hb1); have hown2 := hid (ownsRow_setCell_below h2 (a := ⟨w.heap.size + 2, 1, none⟩) (by show w.heap.size + 2 < w.heap.size + 3; omega) (.slice a' (m + 1) c')); have hB2 := hid ((hBA.out.grown h3 (by simp; omega) (fun j hj => by have := (hvl.out j hj).1; omega)).setCell (a := w) (p := ⟨w.heap.size + 2, 1, none⟩) (by show w.heap.size ≤ w.heap.size + 2; omega) (.slice a' (m + 1) c'))) )
        all_goals
          clear k1 k2 k3 s0 s1 s2 s3 s4 s5 s6 s7 s8 s9 s10 s11 hown hownA hvl hA hD hsrc hBA e1 e2 f0 i1 i2 y1 y2 hXUA hlt2 h2 h3 hbU hX0A hb0 hX1A hb1
          go_wp2_with fail
          go_roundw
          case rel => exact ⟨k + 1, m + 1, _, acc ++ [n], by omega, by go_num, ha2, nU, n0, n1, by rw [nodsL_append, show nodsL [n] = n.cells.toList by simp [nodsL]]; exact hown2, hB2, hid (by rw [List.length_append, ← hm.out]; rfl)⟩
          case measure => simp [intOf]; omega
    · obtain rfl : k = l.length := by omega
      have hacc2 : acc = dropL l p := by have := hacc.out; rwa [List.take_length] at this
      replace hacc2 := hid hacc2
      have y0 := block_cell hXU.out 0
      have y1 := block_cell hXU.out 1
      have hzz := hid (setRow_heap wr (w.heap.size + 1) #[.int .u64 0, .slice none 0 0] #[.int .u64 (x : Int), .slice oa m oc] _ _ hX1.out)
      have hBz := hid (below_setRow (g := w.heap.size + 1) hB.out (by omega) #[.int .u64 (x : Int), .slice oa m oc])
      have hF := hid (fun j hj => (hown.out.lt j hj).1)
      have hN := hid (NodsAt.other (w' := wr.setRow (w.heap.size + 1) #[.int .u64 (x : Int), .slice oa m oc]) (NodsAt.of_own hown.out) (w.heap.size + 1) (fun e => by have := hF.out _ e; omega) (by simp) (fun k hk => setRow_other _ _ _ _ hk))
      go_wp2_with (refine wpList_store_row (by rfl) 33 (.tmp 4) (.tmp 35) (by rfl) (w.heap.size + 1) #[.int .u64 (x : Int), .slice oa m oc] (by rfl) (by rfl) 33 _ hX1.out (by kernel_rfl) (by kernel_rfl) (by kernel_rfl) ?_)
      refine bodyPost_ret (results_cell_row rfl _ _ (w.heap.size + 1) _ _ _ _ rfl hzz.out Tryz.underlying33 (by rfl) (by kernel_rfl)) rfl ?_
      exact ⟨.slice oa m oc, rfl, by rw [← hacc2.out]; exact hN.out, fun k hk => by have := hF.out k hk; omega, hBz.out⟩
end
end Go.Proofs.YtpmlhmficmillaaGreat
