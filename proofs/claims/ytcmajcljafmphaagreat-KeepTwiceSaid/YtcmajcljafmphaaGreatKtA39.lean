/- The disk's Write, whether the power is armed to go or not. Conditions: in the statements. And the texts behind it. -/
import Derived.Test.YtcmajcljafmphaaGreatKtA38
import Derived.Deep.RegionHeld3
import Derived.Test.YtcmajcljafmphaaGreatKtA01
import Derived.Test.YtcmajcljafmphaaGreatKtA36
import Derived.Laws.MakeOwn
import Derived.RangeFuncRecord
namespace Go.Proofs.YtcmajcljafmphaaGreat
section
open Go.RowKit Go.Maps
set_option maxRecDepth 100000
set_option linter.unusedVariables false

set_option maxHeartbeats 1600000 in
theorem dwrite_cut {w : World} {zs : List Nat} {d g m cap : Nat} {us : List Value} {ps : List (Nat × Value)} {bv : Value} {s : DskV} (h : DSt w zs d g m cap us ps bv s) (hoff : s.off = false) (harm : s.armed = true) (hleft : s.left = 1) (i : Nat) (hi : i < s.kept.length) (v : Value) (l : List UInt8) (hv : BytesAt w v l) (hl : l.length = s.size) (hsz : s.size ≤ 1024) (hkl : s.kept.length ≤ 100000) (hpl : s.pend.length ≤ 100000) (hwr : s.writes ≤ 1000000000) (hin : ∀ x ∈ s.pend, x.1 < s.kept.length) :
    Calls Tryz.prog 56 #[.pointer (some ⟨d, 0, none⟩), .int .i64 (i : Int), v] w (DErr w zs d g m cap (DskV.cut { s with left := 0 } s.keep) 22) := by
  obtain ⟨va, vc, rfl, _, _, _⟩ := hv.form
  have mixed : Tryz.prog.follows Departure.mixedOrders = true := by first | kernel_rfl | decide
  obtain ⟨W, hW⟩ : ∃ W, W = w.alloc (.cells #[.int .i64 0] 24) := ⟨_, rfl⟩
  have hb0 : Below w.heap.size w W := by rw [hW]; exact (Below.refl _ _).alloc (Nat.le_refl _) _
  have hK0 := hid (show W.heap[w.heap.size]? = some (.cells #[.int .i64 0] 24 (0, 0)) by rw [hW]; exact heap_alloc_new _ _)
  have hWs : W.heap.size = w.heap.size + 1 := by rw [hW]; simp
  have hD0 := hid (h.new hb0 (Nat.le_refl _) (by omega))
  have hvW := hid (RowAt.below hv hb0)
  have hon := hid (don_ok d W (by have := block_cell hD0.out.blk 3; simpa [dCells, hoff] using this))
  have hinn := hid (din_any d g cap s.kept.length (i : Int) W (block_cell hD0.out.blk 1))
  have e0 : W.cell? ⟨d, 0, none⟩ = some (.int .i64 (s.size : Int)) := block_cell hD0.out.blk 0
  have k1 : (decide (0 ≤ (i : Int)) && decide ((i : Int) < (s.kept.length : Int))) = true := by simp; omega
  have k2 : ((l.length : Int) != (s.size : Int)) = false := by rw [hl]; simp
  have hkd := hid (hD0.out.far w.heap.size (by simp))
  replace hl := hid hl
  replace hoff := hid hoff
  have e4 : W.cell? ⟨d, 4, none⟩ = some (.bool s.armed) := block_cell hD0.out.blk 4
  have e5 : W.cell? ⟨d, 5, none⟩ = some (.int .i64 s.left) := block_cell hD0.out.blk 5
  have f5 : W.frozen? ⟨d, 5, none⟩ = false := block_free hD0.out.blk 5
  have hL := hid (hD0.out.left5 (s.left - 1))
  have hD1 := hL.out
  rw [hleft] at hD1 e5
  rw [harm] at e4
  have hD1 := hid (show DSt (W.setCell ⟨d, 5, none⟩ (.int .i64 0)) (w.heap.size :: zs) d g m cap us ps bv { s with left := 0 } from hD1)
  obtain ⟨V, hV⟩ : ∃ V, V = W.setCell ⟨d, 5, none⟩ (.int .i64 0) := ⟨_, rfl⟩
  rw [← hV] at hD1
  have g6 : V.cell? ⟨d, 6, none⟩ = some bv := block_cell hD1.out.blk 6
  have g5 : V.cell? ⟨d, 5, none⟩ = some (.int .i64 0) := block_cell hD1.out.blk 5
  have hbf : FarB [d, g, m] bv := hD1.out.bfar.sub (fun j hj => by simp only [List.mem_cons, List.not_mem_nil, or_false] at hj ⊢; rcases hj with e | e | e <;> simp [e])
  obtain ⟨bva, bvc, hbe⟩ : ∃ a c, bv = .slice a s.keep.length c := by obtain ⟨_, a, c, e, _⟩ := hD1.out.bools; exact ⟨a, c, e⟩
  subst hbe
  have hcut := hid (dcut_any hD1.out hin _ s.keep hD1.out.bools hbf)
  have hKV := hid (show V.heap[w.heap.size]? = some (.cells #[.int .i64 0] 24 (0, 0)) from by rw [hV]; exact (block_set_other hkd.out.1).trans hK0.out)
  have hSV := hid (show DStep d g m w V from by rw [hV]; exact (DStep.pure hb0).trans (.inl rfl) (DStep.cell _))
  have hVs := hid (show w.heap.size < V.heap.size from lt_of_block hKV.out)
  replace hWs := hid hWs
  replace hb0 := hid hb0
  replace harm := hid harm
  replace hleft := hid hleft
  clear h hv hbf
  go_enter_defers Tryz.func56, Tryz.ntmps56
  go_wp2_with (rw [← hW]; replace hW := hid hW)
  try (rw [← hW]; replace hW := hid hW)
  refine hon.out.mono ?_
  rintro e w1 ⟨rfl, hw1⟩
  rw [hw1]; clear hw1
  clear hon
  go_wp2_with (first
    | (go_at_call 63; refine hinn.out.mono ?_; rintro e w1 ⟨rfl, hw1⟩; rw [hw1]; clear hw1; rw [k1])
    | (rw [← hV]; replace hV := hid hV))
  try (rw [← hV]; replace hV := hid hV)
  refine hcut.out.mono ?_
  rintro e w2 ⟨rfl, us2, m2, ps2, bv2, hm2, hD2, hS2⟩
  clear hcut
  have hK2 := hid ((hS2.block _ hVs.out hkd.out.1 hkd.out.2.1 hkd.out.2.2.1).trans hKV.out)
  have c0 := block_cell hK2.out 0
  have f0 := block_free hK2.out 0
  replace hD2 := hid hD2
  have hS3 := hid (hSV.out.trans (.inl rfl) hS2)
  clear hS2
  go_wp2_with fail
  exact dend_ok (by simp [go_sem]) ⟨_, dresults_c1 rfl _ _ w.heap.size _ rfl (drld_errno (block_cell (block_set hK2.out 0 _) 0)), rfl, us2, m2, ps2, bv2, hm2.imp id (fun h => by have := hVs.out; omega), (hD2.out.aside _).drop, hS3.out.aside (Nat.le_refl _) _⟩
def DskV.tick (s : DskV) : DskV := if s.armed = true then { s with left := s.left - 1 } else s
theorem tick_kept (s : DskV) : s.tick.kept = s.kept ∧ s.tick.pend = s.pend ∧ s.tick.writes = s.writes ∧ s.tick.size = s.size ∧ s.tick.keep = s.keep ∧ s.tick.off = s.off ∧ s.tick.armed = s.armed := by
  unfold DskV.tick; split <;> simp
set_option maxHeartbeats 6400000 in
theorem dwrite_go {w : World} {zs : List Nat} {d g m cap : Nat} {us : List Value} {ps : List (Nat × Value)} {bv : Value} {s : DskV} (h : DSt w zs d g m cap us ps bv s) (hoff : s.off = false) (hcase : s.armed = true → 1 < s.left ∧ s.left ≤ 1000000) (i : Nat) (hi : i < s.kept.length) (v : Value) (l : List UInt8) (hv : BytesAt w v l) (hvd : v.ownBlock ≠ some d) (hl : l.length = s.size) (hsz : s.size ≤ 1024) (hkl : s.kept.length ≤ 100000) (hpl : s.pend.length ≤ 100000) (hwr : s.writes ≤ 1000000000) :
    Calls Tryz.prog 56 #[.pointer (some ⟨d, 0, none⟩), .int .i64 (i : Int), v] w (DErr w zs d g m cap (s.tick.wrote i l) 0) := by
  obtain ⟨va, vc, rfl, _, _, _⟩ := hv.form
  have mixed : Tryz.prog.follows Departure.mixedOrders = true := by first | kernel_rfl | decide
  obtain ⟨W, hW⟩ : ∃ W, W = w.alloc (.cells #[.int .i64 0] 24) := ⟨_, rfl⟩
  have hb0 : Below w.heap.size w W := by rw [hW]; exact (Below.refl _ _).alloc (Nat.le_refl _) _
  have hK0 := hid (show W.heap[w.heap.size]? = some (.cells #[.int .i64 0] 24 (0, 0)) by rw [hW]; exact heap_alloc_new _ _)
  have hWs : W.heap.size = w.heap.size + 1 := by rw [hW]; simp
  have hD0 := hid (h.new hb0 (Nat.le_refl _) (by omega))
  have hvW := hid (RowAt.below hv hb0)
  have hon := hid (don_ok d W (by have := block_cell hD0.out.blk 3; simpa [dCells, hoff] using this))
  have hinn := hid (din_any d g cap s.kept.length (i : Int) W (block_cell hD0.out.blk 1))
  have e0 : W.cell? ⟨d, 0, none⟩ = some (.int .i64 (s.size : Int)) := block_cell hD0.out.blk 0
  have k1 : (decide (0 ≤ (i : Int)) && decide ((i : Int) < (s.kept.length : Int))) = true := by simp; omega
  have k2 : ((l.length : Int) != (s.size : Int)) = false := by rw [hl]; simp
  have hkd := hid (hD0.out.far w.heap.size (by simp))
  replace hl := hid hl
  replace hoff := hid hoff
  have e4 : W.cell? ⟨d, 4, none⟩ = some (.bool s.armed) := block_cell hD0.out.blk 4
  have e5 : W.cell? ⟨d, 5, none⟩ = some (.int .i64 s.left) := block_cell hD0.out.blk 5
  have f5 : W.frozen? ⟨d, 5, none⟩ = false := block_free hD0.out.blk 5
  have hL := hid (hD0.out.left5 (s.left - 1))
  obtain ⟨V, hV⟩ : ∃ V, V = if s.armed = true then W.setCell ⟨d, 5, none⟩ (.int .i64 (s.left - 1)) else W := ⟨_, rfl⟩
  have hDV := hid (show DSt V (w.heap.size :: zs) d g m cap us ps bv s.tick from by
    rw [hV]; unfold DskV.tick
    split
    · exact hL.out
    · exact hD0.out)
  have hKV := hid (show V.heap[w.heap.size]? = some (.cells #[.int .i64 0] 24 (0, 0)) from by
    rw [hV]
    split
    · exact (block_set_other hkd.out.1).trans hK0.out
    · exact hK0.out)
  have hSV := hid (show DStep d g m w V from by
    rw [hV]
    split
    · exact (DStep.pure hb0).trans (.inl rfl) (DStep.cell _)
    · exact DStep.pure hb0)
  have hVs := hid (show W.heap.size ≤ V.heap.size from by
    rw [hV]
    split
    · simp [World.setCell]
    · exact Nat.le_refl _)
  have hvV := hid (show RowAt V 1 (.slice va l.length vc) l.length (l.map byteV) from by
    rw [hV]
    split
    · exact RowAt.other hvW.out (by simp [World.setCell]) (fun j hj => block_set_other (by show j ≠ d; rintro rfl; exact hvd hj))
    · exact hvW.out)
  have htk := hid (tick_kept s)
  generalize hT : s.tick = t at *
  replace hT := hid hT
  have hWd : Below V.heap.size V V.drew := (Below.refl _ _).drew
  have hDd := hid (hDV.out.below hWd)
  have e2 : V.cell? ⟨d, 2, none⟩ = some (.map (some m)) := block_cell hDV.out.blk 2
  have hlen := hDd.out.map.len 3
  rw [hDd.out.plen] at hlen
  have hcl := hid (clone_new _ l V.drew (RowAt.below hvV.out hWd) (by have := hl.out; omega))
  replace hWs := hid hWs
  replace hb0 := hid hb0
  clear h hv
  by_cases harm : s.armed = true
  have hc2 := hcase harm
  rw [if_pos harm] at hV
  rw [harm] at e4
  have e5' : V.cell? ⟨d, 5, none⟩ = some (.int .i64 (s.left - 1)) := by
    rw [hV]; exact block_cell (block_set hD0.out.blk 5 _) 5
  obtain ⟨hc3, hc4⟩ := hc2
  have k3 : ¬ s.left - 1 < 1 := by omega
  replace harm := hid harm
  clear hcase
  go_enter_defers Tryz.func56, Tryz.ntmps56
  go_wp2_with (rw [← hW]; replace hW := hid hW)
  try (rw [← hW]; replace hW := hid hW)
  refine hon.out.mono ?_
  rintro e w1 ⟨rfl, hw1⟩
  rw [hw1]; clear hw1
  clear hon
  go_wp2_with (first
    | (go_at_call 63; refine hinn.out.mono ?_; rintro e w1 ⟨rfl, hw1⟩; rw [hw1]; clear hw1; rw [k1])
    | (rw [← hV]; replace hV := hid hV))
  try (rw [← hV]; replace hV := hid hV)
  rotate_left
  rw [if_neg harm] at hV
  rw [show s.armed = false by simpa using harm] at e4
  have hV2 := hid hV.symm
  clear hV
  clear hcase e5 f5
  go_enter_defers Tryz.func56, Tryz.ntmps56
  go_wp2_with (rw [← hW]; replace hW := hid hW)
  try (rw [← hW]; replace hW := hid hW)
  refine hon.out.mono ?_
  rintro e w1 ⟨rfl, hw1⟩
  rw [hw1]; clear hw1
  clear hon
  go_wp2_with (go_at_call 63; refine hinn.out.mono ?_; rintro e w1 ⟨rfl, hw1⟩; rw [hw1]; clear hw1; rw [k1])
  rw [hV2.out]
  all_goals
    refine wp_region_keep [(6, .pointer (some ⟨w.heap.size, 0, none⟩))] mixed (by kernel_rfl) ⟨rfl, trivial⟩ ?_
    refine wpAny_take (i := 0) (v := ?_) rfl (by kernel_rfl) (by kernel_rfl) (by kernel_rfl) (fun _ _ _ h => h) (Or.inl ⟨by rfl, ?_⟩) ?_
    rotate_left
    · intro w; go_simp; try (with_reducible rfl)
    refine wpAny_take (i := 1) (v := ?_) rfl (by kernel_rfl) (by kernel_rfl) (by kernel_rfl) (fun _ _ _ h => h) (Or.inl ⟨by rfl, ?_⟩) ?_
    rotate_left
    · intro w; go_simp; try (with_reducible rfl)
    refine wpAny_take (i := 2) (v := ?_) rfl (by kernel_rfl) (by kernel_rfl) (by kernel_rfl) (fun _ _ _ h => h) (Or.inl ⟨by rfl, ?_⟩) ?_
    rotate_left
    · intro w; go_simp; try (with_reducible rfl)
    refine wpAny_take (i := 4) (v := ?_) rfl (by kernel_rfl) (by kernel_rfl) (by kernel_rfl) (fun _ _ _ h => h) (Or.inl ⟨by rfl, ?_⟩) ?_
    rotate_left
    · intro w; go_simp; try (with_reducible rfl)
    refine wpAny_take (i := 5) (v := ?_) rfl (by kernel_rfl) (by kernel_rfl) (by kernel_rfl) (fun _ _ _ h => h) (Or.inl ⟨by rfl, ?_⟩) ?_
    rotate_left
    · intro w; go_simp; try (with_reducible rfl)
    refine wpAny_take (i := 6) (v := ?_) rfl (by kernel_rfl) (by kernel_rfl) (by kernel_rfl) (fun _ _ _ h => h) (Or.inl ⟨by rfl, ?_⟩) ?_
    rotate_left
    · intro w; go_simp; try (with_reducible rfl)
    refine wpAny_take (i := 9) (v := ?_) rfl (by kernel_rfl) (by kernel_rfl) (by kernel_rfl) (fun _ _ _ h => h) (Or.inl ⟨by rfl, ?_⟩) ?_
    rotate_left
    · intro w; go_simp; try (with_reducible rfl)
    refine wpAny_take (i := 11) (v := ?_) rfl (by kernel_rfl) (by kernel_rfl) (by kernel_rfl) (fun _ _ _ h => h) (Or.inl ⟨by rfl, ?_⟩) ?_
    rotate_left
    · intro w; go_simp; try (with_reducible rfl)
    refine wpAny_ready (rs := [3, 7]) (by kernel_rfl) (by simp) ?_
    refine AllReady.cons rfl (fun K hK => ?_) ?_
    go_simp
    refine hK _ _ ?_; clear hK K
    refine wpAny_ready (rs := [7]) (by kernel_rfl) (by simp) ?_
    refine AllReady.cons rfl (fun K hK => ?_) ?_
    go_simp
    refine hK _ _ ?_; clear hK K
    refine wpAny_ready (rs := [8]) (by kernel_rfl) (by simp) ?_
    refine AllReady.cons rfl (fun K hK => ?_) ?_
    go_simp
    refine hK _ _ ?_; clear hK K
    refine wpAny_take (i := 10) (v := ?_) rfl (by kernel_rfl) (by kernel_rfl) (by kernel_rfl) (fun _ _ _ h => h) (Or.inl ⟨by rfl, ?_⟩) ?_
    rotate_left
    · intro w; go_simp; try (with_reducible rfl)
    refine wpAny_ready (rs := [12]) (by kernel_rfl) (by simp) ?_
    refine AllReady.cons rfl (fun K hK => ?_) ?_
    go_simp
    go_wp2_with (go_at_call 45; refine hcl.out.mono ?_; rintro e w3 ⟨v3, rfl, hv3, hb3⟩; obtain ⟨a3, c3, rfl, _, _, _⟩ := hv3.1.form; replace hv3 := hid hv3; have hD3 := hid (hDd.out.below hb3); have e23 : w3.cell? ⟨d, 2, none⟩ = some (.map (some m)) := block_cell hD3.out.blk 2; obtain ⟨w4, hput, hm4, ht4⟩ := hD3.out.map.put i (by omega) (.slice a3 l.length c3) (by rw [hDd.out.plen, htk.out.2.1]; omega); rw [hDd.out.plen] at hput; replace hm4 := hid hm4; replace ht4 := hid ht4)
    refine wpAny_ready (rs := [13]) (by kernel_rfl) (by simp) ?_
    refine AllReady.cons rfl (fun K hK => ?_) ?_
    go_simp
    refine hK _ _ ?_; clear hK K
    refine wpAny_done (by kernel_rfl) ?_ _
    rotate_left
    exact AllReady.nil
    exact AllReady.nil
    exact AllReady.nil
    exact AllReady.nil
    refine AllReady.cons rfl (fun K hK => ?_) ?_
    go_simp
    refine hK _ _ ?_; clear hK K
    refine wpAny_ready (rs := [3, 8]) (by kernel_rfl) (by simp) ?_
    refine AllReady.cons rfl (fun K hK => ?_) ?_
    go_simp
    refine hK _ _ ?_; clear hK K
    refine wpAny_ready (rs := [8]) (by kernel_rfl) (by simp) ?_
    refine AllReady.cons rfl (fun K hK => ?_) ?_
    go_simp
    refine hK _ _ ?_; clear hK K
    refine wpAny_take (i := 10) (v := ?_) rfl (by kernel_rfl) (by kernel_rfl) (by kernel_rfl) (fun _ _ _ h => h) (Or.inl ⟨by rfl, ?_⟩) ?_
    rotate_left
    · intro w; go_simp; try (with_reducible rfl)
    refine wpAny_ready (rs := [12]) (by kernel_rfl) (by simp) ?_
    refine AllReady.cons rfl (fun K hK => ?_) ?_
    go_simp
    go_wp2_with (go_at_call 45; refine hcl.out.mono ?_; rintro e w3 ⟨v3, rfl, hv3, hb3⟩; obtain ⟨a3, c3, rfl, _, _, _⟩ := hv3.1.form; replace hv3 := hid hv3; have hD3 := hid (hDd.out.below hb3); have e23 : w3.cell? ⟨d, 2, none⟩ = some (.map (some m)) := block_cell hD3.out.blk 2; obtain ⟨w4, hput, hm4, ht4⟩ := hD3.out.map.put i (by omega) (.slice a3 l.length c3) (by rw [hDd.out.plen, htk.out.2.1]; omega); rw [hDd.out.plen] at hput; replace hm4 := hid hm4; replace ht4 := hid ht4)
    refine wpAny_ready (rs := [13]) (by kernel_rfl) (by simp) ?_
    refine AllReady.cons rfl (fun K hK => ?_) ?_
    go_simp
    refine hK _ _ ?_; clear hK K
    refine wpAny_done (by kernel_rfl) ?_ _
    rotate_left
    exact AllReady.nil
    exact AllReady.nil
    exact AllReady.nil
    refine AllReady.cons rfl (fun K hK => ?_) ?_
    go_simp
    refine hK _ _ ?_; clear hK K
    refine wpAny_take (i := 10) (v := ?_) rfl (by kernel_rfl) (by kernel_rfl) (by kernel_rfl) (fun _ _ _ h => h) (Or.inl ⟨by rfl, ?_⟩) ?_
    rotate_left
    · intro w; go_simp; try (with_reducible rfl)
    refine wpAny_ready (rs := [3, 12]) (by kernel_rfl) (by simp) ?_
    refine AllReady.cons rfl (fun K hK => ?_) ?_
    go_simp
    refine hK _ _ ?_; clear hK K
    refine wpAny_ready (rs := [12]) (by kernel_rfl) (by simp) ?_
    refine AllReady.cons rfl (fun K hK => ?_) ?_
    go_simp
    go_wp2_with (go_at_call 45; refine hcl.out.mono ?_; rintro e w3 ⟨v3, rfl, hv3, hb3⟩; obtain ⟨a3, c3, rfl, _, _, _⟩ := hv3.1.form; replace hv3 := hid hv3; have hD3 := hid (hDd.out.below hb3); have e23 : w3.cell? ⟨d, 2, none⟩ = some (.map (some m)) := block_cell hD3.out.blk 2; obtain ⟨w4, hput, hm4, ht4⟩ := hD3.out.map.put i (by omega) (.slice a3 l.length c3) (by rw [hDd.out.plen, htk.out.2.1]; omega); rw [hDd.out.plen] at hput; replace hm4 := hid hm4; replace ht4 := hid ht4)
    refine wpAny_ready (rs := [13]) (by kernel_rfl) (by simp) ?_
    refine AllReady.cons rfl (fun K hK => ?_) ?_
    go_simp
    refine hK _ _ ?_; clear hK K
    refine wpAny_done (by kernel_rfl) ?_ _
    rotate_left
    exact AllReady.nil
    exact AllReady.nil
    refine AllReady.cons rfl (fun K hK => ?_) ?_
    go_simp
    go_wp2_with (go_at_call 45; refine hcl.out.mono ?_; rintro e w3 ⟨v3, rfl, hv3, hb3⟩; obtain ⟨a3, c3, rfl, _, _, _⟩ := hv3.1.form; replace hv3 := hid hv3; have hD3 := hid (hDd.out.below hb3); have e23 : w3.cell? ⟨d, 2, none⟩ = some (.map (some m)) := block_cell hD3.out.blk 2; obtain ⟨w4, hput, hm4, ht4⟩ := hD3.out.map.put i (by omega) (.slice a3 l.length c3) (by rw [hDd.out.plen, htk.out.2.1]; omega); rw [hDd.out.plen] at hput; replace hm4 := hid hm4; replace ht4 := hid ht4)
    refine wpAny_ready (rs := [3]) (by kernel_rfl) (by simp) ?_
    refine AllReady.cons rfl (fun K hK => ?_) ?_
    go_simp
    refine hK _ _ ?_; clear hK K
    refine wpAny_ready (rs := [13]) (by kernel_rfl) (by simp) ?_
    refine AllReady.cons rfl (fun K hK => ?_) ?_
    go_simp
    refine hK _ _ ?_; clear hK K
    refine wpAny_done (by kernel_rfl) ?_ _
    rotate_left
    exact AllReady.nil
    exact AllReady.nil
    exact AllReady.nil
    exact AllReady.nil
    exact AllReady.nil
  all_goals refine keep_normal ?_
  all_goals
    have hfar : FarB (d :: g :: m :: w.heap.size :: zs) (.slice a3 l.length c3) := fun j hj hm => by
      have h1 := hv3.out.2 j hj
      have h2 := lt_of_block hDV.out.blk
      have h3 := (hDV.out.own.lt g rfl).2
      have h4 := hDV.out.map.mem
      change V.heap.size ≤ j at h1
      rcases List.mem_cons.1 hm with e | hm
      · omega
      · rcases List.mem_cons.1 hm with e | hm
        · omega
        · rcases List.mem_cons.1 hm with e | hm
          · omega
          · have := (hDV.out.far j hm).2.2.2; omega
    have hD4 := hid (hD3.out.push i l _ hv3.out.1 hfar ht4.out hm4.out)
    have hS4 := hid ((DStep.pure (d := d) (g := g) (m := m) hWd).trans (.inl rfl) ((DStep.pure hb3).trans (.inl rfl) (DStep.turned ht4.out)))
    have e7 : w4.cell? ⟨d, 7, none⟩ = some (.int .i64 (t.writes : Int)) := block_cell hD4.out.blk 7
    have f7 : w4.frozen? ⟨d, 7, none⟩ = false := block_free hD4.out.blk 7
    have hwr2 : IntKind.i64.wrap ((t.writes : Int) + 1) = (t.writes : Int) + 1 := IntWalk.i64_in _ (by rw [htk.out.2.2.1]; omega)
    have hK4 : (w4.setCell ⟨d, 7, none⟩ (.int .i64 ((t.writes : Int) + 1))).heap[w.heap.size]? = some (.cells #[.int .i64 0] 24 (0, 0)) := (block_set_other hkd.out.1).trans ((hS4.out.block _ (lt_of_block hKV.out) hkd.out.1 hkd.out.2.1 hkd.out.2.2.1).trans hKV.out)
    have c0 := block_cell hK4 0
    have f0 := block_free hK4 0
    have hD5 := hid (hD4.out.move (w' := w4.setCell ⟨d, 7, none⟩ (.int .i64 ((t.writes : Int) + 1))) (s' := t.wrote i l) (by simp [World.setCell]) (fun j _ hj => block_set_other (fun e => hj (by simp [e]))) (block_set hD4.out.blk 7 _) (block_set_other (Ne.symm hD4.out.dg)) (block_set_other (Ne.symm hD4.out.dm)) rfl rfl rfl)
    replace hK4 := hid hK4
    clear hlen hput
    go_wp2_with fail
    have hS5 : DStep d g m w (w4.setCell ⟨d, 7, none⟩ (.int .i64 ((t.writes : Int) + 1))) := (hSV.out.trans (.inl rfl) hS4.out).trans (.inl rfl) (DStep.cell _)
    exact dend_ok (by simp [go_sem]) ⟨_, dresults_c1 rfl _ _ w.heap.size _ rfl (drld_errno (block_cell (block_set hK4.out 0 _) 0)), rfl, us, m, _, bv, .inl rfl, (hD5.out.aside _).drop, hS5.aside (Nat.le_refl _) _⟩
end
end Go.Proofs.YtcmajcljafmphaaGreat

namespace Go.Proofs.YtcmajcljafmphaaGreat
section
set_option maxRecDepth 100000
set_option linter.unusedVariables false
theorem take_list {l : List Oper} {i : Nat} {o : Oper} (h : l[i]? = some o) : l.toArray[i]? = some o := by simpa using h
theorem step_append_eq {P : Program} {ops : Array Oper} {o : Oper} {a : Act} {K : Act → World → Prop} {Q : Exit → Act → World → Prop} {F : Prop} (w : World) (hgd : o.guard = none) (s x : Operand) (t : TypeId)
    (ho : o.op = .call { callee := .builtin .append, args := #[s, x], argTypes := #[t, t] }) {v u v' : Value} {w' : World} (hs : a.eval s = v) (hx : a.eval x = u) (hr : (Builtin.append_ #[t, t] o.type #[v, u]).run P w = .ok v' w') (h : K (a.put o.dst v') w') :
    if Region.wanted o (yielded ops a.tmps) = true then Oper.wp P o a w K Q else F := by
  rw [if_pos (by simp [Region.wanted, hgd])]
  exact wp_append_run s x t ho hs hx (R := fun v2 w2 => v2 = v' ∧ w2 = w') ⟨v', w', hr, rfl, rfl⟩ (fun v2 w2 ⟨e1, e2⟩ => by rw [e1, e2]; exact h)
end
end Go.Proofs.YtcmajcljafmphaaGreat

namespace Go.Proofs.YtcmajcljafmphaaGreat
section
open Go.RowKit Go.Maps
set_option maxRecDepth 100000
set_option linter.unusedVariables false

def zerosL (n : Nat) : List UInt8 := List.replicate n 0
structure KeptS (w : World) (base : Nat) (v : Value) (us : List Value) (ls : List (List UInt8)) : Prop where
  row : RowV w base 53 1 v ls.length us
  len : us.length = ls.length
  rows : ∀ i (h : i < ls.length), BytesAt w (us.getD i undef) ls[i]
  far : ∀ u ∈ us, ∀ j, u.ownBlock = some j → base ≤ j
theorem KeptS.below {w w' : World} {base : Nat} {v : Value} {us : List Value} {ls : List (List UInt8)} (h : KeptS w base v us ls) (hb : Below w.heap.size w w') : KeptS w' base v us ls :=
  ⟨h.row.kept hb.size (fun j hj => hb.block j (h.row.lt hj).2), h.len, fun i hi => (h.rows i hi).below hb, h.far⟩
theorem KeptS.cell {w : World} {base : Nat} {v : Value} {us : List Value} {ls : List (List UInt8)} (h : KeptS w base v us ls) {p : Addr} (hp : p.block < base) (u : Value) : KeptS (w.setCell p u) base v us ls := by
  refine ⟨h.row.kept (by simp [World.setCell]) (fun j hj => block_set_other (by have := (h.row.lt hj).1; omega)), h.len, fun i hi => RowAt.other (h.rows i hi) (by simp [World.setCell]) (fun j hj => block_set_other (by have := h.far _ (getD_mem (by rw [h.len]; exact hi)) j hj; omega)), h.far⟩
theorem KeptS.put {w : World} {base : Nat} {v : Value} {us : List Value} {ls : List (List UInt8)} (h : KeptS w base v us ls) {r : Nat} (hr : r < base) (o : Obj) : KeptS (w.putObj r o) base v us ls :=
  ⟨h.row.kept (by simp) (fun j hj => World.putObj_heap_other (by have := (h.row.lt hj).1; omega)), h.len, fun i hi => RowAt.other (h.rows i hi) (by simp) (fun j hj => World.putObj_heap_other (by have := h.far _ (getD_mem (by rw [h.len]; exact hi)) j hj; omega)), h.far⟩
theorem KeptS.push {w w' : World} {base : Nat} {v v' : Value} {us : List Value} {ls : List (List UInt8)} (h : KeptS w base v us ls) (u : Value) (l : List UInt8) (hu : BytesAt w u l) (hf : ∀ j, u.ownBlock = some j → base ≤ j ∧ v.ownBlock ≠ some j) (hp : Pushed base v v' w w') (hr : RowV w' base 53 1 v' (ls.length + 1) (us ++ [u])) : KeptS w' base v' (us ++ [u]) (ls ++ [l]) := by
  refine ⟨by simpa using hr, by simp [h.len], fun i hi => ?_, fun x hx j hj => ?_⟩
  · by_cases e : i < ls.length
    · have e1 : (us ++ [u]).getD i undef = us.getD i undef := by
        rw [List.getD_eq_getElem?_getD, List.getElem?_append_left (by rw [h.len]; exact e), ← List.getD_eq_getElem?_getD]
      simp only [e1, List.getElem_append_left e]
      have hm : us.getD i undef ∈ us := getD_mem (by rw [h.len]; exact e)
      exact hp.bytes (h.rows i e) (fun j hj => (h.row.apart _ hm j hj).2)
    · obtain rfl : i = ls.length := by simp at hi; omega
      have e1 : (us ++ [u]).getD ls.length undef = u := by
        rw [← h.len, List.getD_eq_getElem?_getD, List.getElem?_append_right (Nat.le_refl _)]; simp
      simp only [e1, List.getElem_concat_length]
      exact hp.bytes hu (fun j hj => (hf j hj).2)
  · rcases List.mem_append.1 hx with hx | hx
    · exact h.far x hx j hj
    · obtain rfl := List.mem_singleton.1 hx; exact (hf j hj).1
def DskV.fresh (size : Nat) (kept : List (List UInt8)) : DskV := { size := size, kept := kept, pend := [], off := false, armed := false, left := 0, keep := [], writes := 0 }
theorem KeptS.disk {w : World} {base d m : Nat} {v : Value} {us : List Value} {ls : List (List UInt8)} {size : Nat} (h : KeptS w base v us ls) (hne : ls ≠ []) (hd : d < base) (hm : m < base) (hdm : d ≠ m) (hb : w.heap[d]? = some (.cells (dCells (DskV.fresh size ls) v m (.slice none 0 0)) 61 (0, 0))) (hmap : PMapAt w m []) :
    ∃ g cap, base ≤ g ∧ DSt w [] d g m cap us [] (.slice none 0 0) (DskV.fresh size ls) := by
  obtain ⟨a, c, rfl⟩ := h.row.form
  have hv : ∃ g, a = some ⟨g, 0, none⟩ := by
    have h2 := h.row.own.2
    rcases h2 with ⟨e, e2⟩ | ⟨g', cap', cur, e, _⟩
    · exact absurd (List.eq_nil_of_length_eq_zero (by simp at e; omega)) hne
    · cases e
      exact ⟨g', rfl⟩
  obtain ⟨g, rfl⟩ := hv
  have hg : base ≤ g := (h.row.lt rfl).1
  refine ⟨g, c, hg, by omega, hdm, by omega, (fun z hz => by cases hz), hb, ?_, h.len, h.rows, fun u hu j hj hj2 => ?_, hmap, rfl, fun i hi => absurd hi (by simp [DskV.fresh]), (fun x hx => by cases hx), RowAt.nil, (fun j hj => by cases hj)⟩
  · have h2 := h.row.own
    refine ⟨h2.1, ?_⟩
    rcases h2.2 with ⟨e, _⟩ | ⟨g', cap', cur, e, h3⟩
    · cases e
    · exact .inr ⟨g', cap', cur, e, Nat.zero_le _, h3.2⟩
  · have h3 := h.far u hu j hj
    have h4 := (h.row.apart u hu j hj).2
    simp only [List.mem_cons, List.not_mem_nil, or_false] at hj2
    rcases hj2 with e | e | e
    · omega
    · exact h4 (by rw [e]; rfl)
    · omega
end
end Go.Proofs.YtcmajcljafmphaaGreat

namespace Go.Proofs.YtcmajcljafmphaaGreat
section
open Go.RowKit Go.Maps
set_option maxRecDepth 100000
set_option linter.unusedVariables false

def DNewP (w : World) (s : DskV) (e : Ending) (w' : World) : Prop :=
  ∃ d g m cap us, e = .returned (.tuple #[.pointer (some ⟨d, 0, none⟩), .int .i64 0]) ∧ w.heap.size ≤ d ∧ w.heap.size ≤ g ∧ w.heap.size ≤ m ∧ DSt w' [] d g m cap us [] (.slice none 0 0) s ∧ Below w.heap.size w w'
theorem BytesAt.made (w : World) (n : Nat) (hn : n ≤ 100000) : BytesAt (w.alloc (.cells (madeCells #[.int .u8 0] n) 5)) (.slice (some ⟨w.heap.size, 0, none⟩) n n) (zerosL n) := by
  have e : (zerosL n).length = n := by simp [zerosL]
  have e2 : (zerosL n).map byteV = (madeCells #[Value.int .u8 0] n).toList := by
    rw [toList_madeCells_one]; simp [zerosL, byteV]
  unfold BytesAt
  rw [e, e2]
  exact RowAt.of_block (n := n) (k := 1) (fr := (0, 0)) (heap_alloc_new _ _) (by rw [size_madeCells]; simp) (by unfold maxLen; omega)
def NewS (w : World) (z k : Nat) (W : World) : Prop := ∃ kv us, Below w.heap.size w W ∧ W.heap[w.heap.size + 1]? = some (.cells #[.int .i64 (z : Int), kv, .map (some w.heap.size), .bool false, .bool false, .int .i64 0, .slice none 0 0, .int .i64 0] 61 (0, 0)) ∧ PMapAt W w.heap.size [] ∧ KeptS W (w.heap.size + 2) kv us (List.replicate k (zerosL z))
theorem NewS.start (w : World) (z : Nat) : NewS w z 0 ((w.alloc (.map #[] 0)).alloc (.cells #[.int .i64 (z : Int), .slice none 0 0, .map (some w.heap.size), .bool false, .bool false, .int .i64 0, .slice none 0 0, .int .i64 0] 61)) :=
  ⟨_, [], ((Below.refl _ w).alloc (Nat.le_refl _) _).alloc (by simp) _, heap2 _ _ _, (PMapAt.made w).kept (Below.heap_alloc _ _ _ (by simp)), RowV.nil _ _ _ _, rfl, fun i h => absurd h (by simp), (fun u hu => by cases hu)⟩
theorem NewS.next {w wr V w3 : World} {z k : Nat} {kv u v' : Value} {us : List Value} (hB : Below w.heap.size w wr) (hD : wr.heap[w.heap.size + 1]? = some (.cells #[.int .i64 (z : Int), kv, .map (some w.heap.size), .bool false, .bool false, .int .i64 0, .slice none 0 0, .int .i64 0] 61 (0, 0))) (hM : PMapAt wr w.heap.size []) (hK : KeptS wr (w.heap.size + 2) kv us (List.replicate k (zerosL z)))
    (hA : Below wr.heap.size wr V) (hu : BytesAt V u (zerosL z)) (hf : ∀ j, u.ownBlock = some j → wr.heap.size ≤ j ∧ j < V.heap.size) (hp : Pushed (w.heap.size + 2) kv v' V w3) (hr : RowV w3 (w.heap.size + 2) 53 1 v' (k + 1) (us ++ [u]))
    (hD3 : w3.heap[w.heap.size + 1]? = some (.cells #[.int .i64 (z : Int), kv, .map (some w.heap.size), .bool false, .bool false, .int .i64 0, .slice none 0 0, .int .i64 0] 61 (0, 0))) : NewS w z (k + 1) (w3.setCell ⟨w.heap.size + 1, 1, none⟩ v') := by
  have hkl : (List.replicate k (zerosL z)).length = k := by simp
  have hbase : w.heap.size + 2 ≤ wr.heap.size := by have := (Array.getElem?_eq_some_iff.1 hD).1; omega
  have hne : ∀ j, kv.ownBlock = some j → w.heap.size + 2 ≤ j ∧ j < wr.heap.size := fun j hj => hK.row.lt hj
  have hK3 := (hK.below hA).push u (zerosL z) hu (fun j hj => ⟨by have := (hf j hj).1; omega, fun e => by have := (hne j e).2; have := (hf j hj).1; omega⟩) hp (by rw [hkl]; exact hr)
  refine ⟨v', us ++ [u], ?_, block_set hD3 1 v', ?_, ?_⟩
  · exact ((hB.trans (hA.mono (by omega))).trans (hp.below.mono (by omega))).setCell (p := ⟨w.heap.size + 1, 1, none⟩) (by show w.heap.size ≤ w.heap.size + 1; omega) v'
  · have hm := hM.mem
    refine (hM.kept (hA.block _ hm)).kept ?_
    refine (block_set_other (by show w.heap.size ≠ w.heap.size + 1; omega)).trans (hp.keep _ (by have := hA.size; omega) (fun e => by have := (hne _ e).1; omega))
  · rw [List.replicate_succ']
    exact hK3.cell (by show w.heap.size + 1 < w.heap.size + 2; omega) v'
set_option maxHeartbeats 1600000 in
theorem dnew_any (n z : Nat) (w : World) (h : rightB n z = true) (hn : n ≤ 100000) : Calls Tryz.prog 8 #[.int .i64 (n : Int), .int .i64 (z : Int)] w (DNewP w (DskV.fresh z (List.replicate n (zerosL z)))) := by
  have hr := dright_any n z w
  rw [h] at hr
  have hz : 64 ≤ z ∧ z ≤ 1024 ∧ 1 ≤ n := by unfold rightB at h; simp at h; omega
  have hmm : ∀ w, (Instr.makeMap 58 none).run Tryz.prog w = .ok (.map (some w.heap.size)) (w.alloc (.map #[] 0)) := fun _ => rfl
  obtain ⟨i0, hi, hz0, hz1, hz2⟩ := info_parts infoU8
  obtain ⟨W0, hW0⟩ : ∃ W, W = w.alloc (.map #[] 0) := ⟨_, rfl⟩
  obtain ⟨W1, hW1⟩ : ∃ W, W = W0.alloc (.cells #[.int .i64 (z : Int), .slice none 0 0, .map (some w.heap.size), .bool false, .bool false, .int .i64 0, .slice none 0 0, .int .i64 0] 61) := ⟨_, rfl⟩
  replace hr := hid hr
  replace h := hid h
  go_enter Tryz.func8, Tryz.ntmps8
  go_wp2_with (go_at_call 27; refine hr.out.mono ?_; rintro e w1 ⟨rfl, rfl⟩)
  go_loopw [16] (fun s wr => ∃ k : Nat, k ≤ n ∧ s = .int .i64 (k : Int) ∧ Hid (NewS w1 z k wr)) (fun s _ => n - (intOf s).toNat)
  case atStart => exact ⟨0, Nat.zero_le _, rfl, hid (NewS.start w1 z)⟩
  case round =>
    obtain ⟨k, hk, rfl, hS⟩ := hrel
    by_cases hlt : k < n
    · obtain ⟨kv, us, hB, hD, hM, hK⟩ := hS.out
      obtain ⟨V, hV⟩ : ∃ V, V = ((wr.alloc (.cells (madeCells #[.int .u8 0] z) 5)).alloc (.cells #[.slice (some ⟨wr.heap.size, 0, none⟩) z z] 53)).drew := ⟨_, rfl⟩
      have hA : Below wr.heap.size wr V := by rw [hV]; exact (((Below.refl _ _).alloc (Nat.le_refl _) _).alloc (by simp) _).drew
      have hu : BytesAt V (.slice (some ⟨wr.heap.size, 0, none⟩) z z) (zerosL z) := by
        rw [hV]
        exact RowAt.below (BytesAt.made wr z (by omega)) (((Below.refl _ _).alloc (Nat.le_refl _) _).drew)
      have hsrc : RowAt V 1 (.slice (some ⟨wr.heap.size + 1, 0, none⟩) 1 1) 1 [.slice (some ⟨wr.heap.size, 0, none⟩) z z] := by
        rw [hV]
        have h1 := RowAt.of_new (w := wr.alloc (.cells (madeCells #[.int .u8 0] z) 5)) (e := 53) #[.slice (some ⟨wr.heap.size, 0, none⟩) z z] 1 1 rfl (by decide)
        simp only [World.size_alloc] at h1
        exact RowAt.below h1 (Below.refl _ _).drew
      have hKV := hK.below hA
      have hkl : (List.replicate k (zerosL z)).length = k := by simp
      have hrow := hKV.row
      rw [hkl] at hrow
      obtain ⟨ka, kc, rfl⟩ := hrow.form
      have hbase : w1.heap.size + 2 ≤ wr.heap.size := by have := (Array.getElem?_eq_some_iff.1 hD).1; omega
      have hlt2 : ∀ j, (Value.slice ka k kc).ownBlock = some j → j < wr.heap.size := fun j hj => (by have h1 := hK.row; rw [hkl] at h1; exact (h1.lt hj).2)
      obtain ⟨a', c', w3, happ, hV3, hP3⟩ := run_push elemB V 59 hrow hsrc (fun u hu => by rw [List.mem_singleton] at hu; subst hu; rfl) (fun u hu j hj => by rw [List.mem_singleton] at hu; subst hu; cases hj; exact ⟨by rw [hV]; show wr.heap.size < _; simp; omega, fun e => by have h9 : wr.heap.size < wr.heap.size := hlt2 _ e; omega⟩) (by unfold maxLen; omega) (by omega) (Nat.le_trans hbase hA.size)
      have hD3 : w3.heap[w1.heap.size + 1]? = some (.cells #[.int .i64 (z : Int), .slice ka k kc, .map (some w1.heap.size), .bool false, .bool false, .int .i64 0, .slice none 0 0, .int .i64 0] 61 (0, 0)) := (hP3.keep _ (by have := hA.size; omega) (fun e => by have := (hrow.lt e).1; omega)).trans ((hA.block _ (by omega)).trans hD)
      have c1 := block_cell hD 1
      have c2 := block_cell ((Below.heap_alloc wr (.cells (madeCells #[.int .u8 0] z) 5) _ (by omega)).trans hD) 1
      have c3 := block_cell ((Below.heap_alloc (wr.alloc (.cells (madeCells #[.int .u8 0] z) 5)) (.cells #[.slice (some ⟨wr.heap.size, 0, none⟩) z z] 53) _ (by simp; omega)).trans ((Below.heap_alloc wr (.cells (madeCells #[.int .u8 0] z) 5) _ (by omega)).trans hD)) 1
      have d1 := block_cell hD3 1
      have f1 := block_free hD3 1
      have hmk := run_makeSlice (P := Tryz.prog) (w := wr.drew) 53 5 i0 (.int .u8 0) Tryz.underlying53 hi hz0 .i64 .i64 (z : Int) (z : Int) (by omega) (by omega) (by rw [hz1]; omega) (by rw [hz2]; omega) (by omega)
      rw [hV] at happ
      have hfin := hid (NewS.next hB hD hM hK hA hu (fun j hj => by cases hj; exact ⟨Nat.le_refl _, by rw [hV]; show wr.heap.size < _; simp; omega⟩) hP3 hV3 hD3)
      replace hB := hid hB
      replace hD := hid hD
      replace hM := hid hM
      replace hK := hid hK
      replace hV := hid hV
      replace hP3 := hid hP3
      replace hV3 := hid hV3
      replace hD3 := hid hD3
      clear hKV hrow hsrc hu hA
      go_wp2_with fail
      go_region_law (refine step_append_eq _ rfl (.tmp 22) (.tmp 25) 59 rfl rfl rfl happ ?_)
      all_goals go_wp2_with fail
      all_goals exact ⟨⟨k + 1, by omega, by simp, hfin⟩, by simp [intOf]; omega⟩
    · obtain rfl : k = n := by omega
      go_wp2_with fail
      refine bodyPost_ret (results_tmp2 rfl _ _ _) rfl ?_
      obtain ⟨kv, us, hB, hD, hM, hK⟩ := hS.out
      obtain ⟨g, cap, hg, hst⟩ := hK.disk (d := w1.heap.size + 1) (m := w1.heap.size) (size := z) (by intro e; have := congrArg List.length e; simp at this; omega) (by omega) (by omega) (by omega) hD hM
      exact ⟨_, g, w1.heap.size, cap, us, rfl, by omega, by omega, Nat.le_refl _, hst, hB⟩
end
end Go.Proofs.YtcmajcljafmphaaGreat

namespace Go.Proofs.YtcmajcljafmphaaGreat
section
open Go.RowKit Go.Maps
set_option maxRecDepth 100000
set_option linter.unusedVariables false

def krightB (s : DskV) : Bool := decide (512 ≤ s.kept.length) && decide (s.size = 256)
theorem kright_any {w : World} {zs : List Nat} {d g m cap : Nat} {us : List Value} {ps : List (Nat × Value)} {bv : Value} {s : DskV} (h : DSt w zs d g m cap us ps bv s) : Calls Tryz.prog 28 #[.pointer (some ⟨d, 0, none⟩)] w fun e w' => e = .returned (.bool (krightB s)) ∧ w' = w.drew := by
  have hsh := hid (dshape_any d g cap s.kept.length s.size w (block_cell h.blk 0) (block_cell h.blk 1))
  unfold krightB
  clear h
  generalize s.kept.length = n at *
  generalize s.size = z at *
  by_cases h1 : 512 ≤ n
  · by_cases h2 : z = 256
    · subst h2
      have k1 : (512 : Int) ≤ (n : Int) := by omega
      go_enter Tryz.func28, Tryz.ntmps28
      go_wp2_with (go_at_call 50; refine hsh.out.mono ?_; rintro e w1 ⟨rfl, rfl⟩)
      go_ret
      exact ⟨ret_bool (by simp [h1]), rfl⟩
    · have k1 : (512 : Int) ≤ (n : Int) := by omega
      have k2 : ((z : Int) == 256) = false := by simp; omega
      go_enter Tryz.func28, Tryz.ntmps28
      go_wp2_with (go_at_call 50; refine hsh.out.mono ?_; rintro e w1 ⟨rfl, rfl⟩)
      go_ret
      exact ⟨ret_bool (by simp [h1, h2]), rfl⟩
  · have k1 : ¬ (512 : Int) ≤ (n : Int) := by omega
    go_enter Tryz.func28, Tryz.ntmps28
    go_wp2_with (go_at_call 50; refine hsh.out.mono ?_; rintro e w1 ⟨rfl, rfl⟩)
    go_ret
    exact ⟨ret_bool (by simp), rfl⟩
end
end Go.Proofs.YtcmajcljafmphaaGreat
