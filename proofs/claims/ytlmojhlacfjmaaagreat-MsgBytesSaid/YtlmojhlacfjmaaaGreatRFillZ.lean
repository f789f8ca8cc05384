/- What fill of the reference's In reads, types to 111. Conditions: the type, no names, no qids yet. -/
import Derived.Test.YtlmojhlacfjmaaaGreatRDec3Z
namespace Go.Proofs.YtlmojhlacfjmaaaGreat
open Go.RowKit
set_option maxRecDepth 100000
set_option linter.unusedVariables false

theorem RInAt.len {w : World} {b : Nat} {p : List UInt8 × Nat} (h : RInAt w b p) : p.1.length ≤ 1000000000 := by
 obtain ⟨v, at_, L, hb, hv, _, h1, h2, h3⟩ := h
 rw [h3, List.length_drop]; omega
theorem sets_stat (m : M) (vN vQ : Value) (d : ByteArray) (s : Stat) : setsA (m.rcells vN vQ d) 23 s.cells.toList = ({ m with stat := s } : M).rcells vN vQ d := by kernel_rfl
theorem sets_qid (m : M) (vN vQ : Value) (d : ByteArray) (r : QidV) : setsA (m.rcells vN vQ d) 13 r.cells.toList = ({ m with qid := r } : M).rcells vN vQ d := by kernel_rfl
theorem rqid_lit (b : Nat) (p : List UInt8 × Nat) (w : World) (h : RInAt w b p) :
  Calls Tryz.prog 50 #[.pointer (some ⟨b, 0, none⟩)] w fun e w' => e = .returned (.agg #[.int .u8 (qvT p : Int), .int .u32 (qvV p : Int), .int .u64 (qvP p : Int)]) ∧ RInAt w' b (qr p) ∧ OStep b w w' := rqid_any b p w h
theorem mnN_le (p : List UInt8 × Nat) : mnN p ≤ 16 := by unfold mnN; split <;> omega
theorem rtxs_len : ∀ k p, (rtxs k p).2.length = k
 | 0, _ => rfl
 | k + 1, p => by show ((rtxs k p).2 ++ [_]).length = k + 1; rw [List.length_append, rtxs_len k p]; rfl
theorem rqds_len : ∀ k p, (rqds k p).2.length = k
 | 0, _ => rfl
 | k + 1, p => by show ((rqds k p).2 ++ [_]).length = k + 1; rw [List.length_append, rqds_len k p]; rfl
def RFillPost (w : World) (b : Nat) (r : (List UInt8 × Nat) × M) (e : Ending) (w' : World) : Prop :=
 ∃ vN vQ, e = .returned (.agg (r.2.rcells vN vQ (strL r.2.data))) ∧ (StrsAt w' vN r.2.names ∧ ∀ k, vN.ownBlock = some k → w.heap.size + 2 ≤ k ∧ ¬ Foot w' b k) ∧ (QidsAt w' vQ r.2.qids ∧ ∀ k, vQ.ownBlock = some k → w.heap.size + 2 ≤ k ∧ ¬ Foot w' b k) ∧ RInAt w' b r.1 ∧ OStep b w w'
theorem RIA.start {w : World} {b : Nat} {m : M} {p : List UInt8 × Nat} (hN : m.names = []) (hQ : m.qids = []) (h : RInAt w b p) :
  RIA w ((w.alloc (.cells (m.rcells (.slice none 0 0) (.slice none 0 0) (strL m.data)) 46)).alloc (.cells zeroR 46)) b w.heap.size m (.slice none 0 0) (.slice none 0 0) p := by
 have hB : Below w.heap.size w ((w.alloc (.cells (m.rcells (.slice none 0 0) (.slice none 0 0) (strL m.data)) 46)).alloc (.cells zeroR 46)) := ((Below.refl w.heap.size w).alloc (Nat.le_refl _) _).alloc (by simp) _
 exact ⟨h.below hB, (by rw [heap_alloc_old _ _ (by simp), heap_alloc_new]), h.new5 hB (Nat.le_refl _), heap2 _ _ _, h.new5 hB (by omega), (by rw [hN]; exact World.ownsRow_nil _ _ _ _), fun k hk => (by cases hk), (by rw [hQ]; exact World.ownsRow_nil _ _ _ _), fun k hk => (by cases hk), fun k hk => (by cases hk), OStep.pure h.lt hB, h.lt, Nat.le_refl _⟩
theorem RIA.done {w w' : World} {b : Nat} {m : M} {vN vQ : Value} {p : List UInt8 × Nat} (h : RIA w w' b w.heap.size m vN vQ p) :
  RFillPost w b (p, m) (.returned (.agg (m.rcells vN vQ (strL m.data)))) (w'.setRow (w.heap.size + 1) (m.rcells vN vQ (strL m.data))) := by
 have hl := h.lt
 have hne : w.heap.size + 1 ≠ b := by omega
 refine ⟨vN, vQ, rfl, ⟨RowAt.other (RowAt.of_own h.names) (by simp) fun j hj => setRow_other _ _ _ _ (by have := (h.names.lt j hj).1; omega), fun k hk => ⟨(h.names.lt k hk).1, fun hf => h.nf k hk (foot_row hne hf)⟩⟩, ⟨RowAt.other (RowAt.of_own h.qids) (by simp) fun j hj => setRow_other _ _ _ _ (by have := (h.qids.lt j hj).1; omega), fun k hk => ⟨(h.qids.lt k hk).1, fun hf => h.qf k hk (foot_row hne hf)⟩⟩, h.inn.row _ h.rfoot, h.st.row (by omega) hl.1 _⟩
set_option maxHeartbeats 3200000 in
theorem rfill_100 (b : Nat) (p : List UInt8 × Nat) (m : M) (w : World) (ht : m.ty = 100) (hN : m.names = []) (hQ : m.qids = []) (h : RInAt w b p) :
  Calls Tryz.prog 37 #[.pointer (some ⟨b, 0, none⟩), .agg (m.rcells (.slice none 0 0) (.slice none 0 0) (strL m.data))] w (RFillPost w b (rins ([.msize, .version] : List Slot) p m)) := by
 obtain ⟨w0, hW0⟩ : ∃ W, W = (w.alloc (.cells (m.rcells (.slice none 0 0) (.slice none 0 0) (strL m.data)) 46)).alloc (.cells zeroR 46) := ⟨_, rfl⟩
 have hA0 := hid (show RIA w w0 b w.heap.size m (.slice none 0 0) (.slice none 0 0) p by rw [hW0]; exact RIA.start hN hQ h)
 have ct : w0.cell? ⟨w.heap.size, 0, none⟩ = some (.int .u8 100) := by rw [hA0.out.cell 0]; show some (Value.int .u8 (m.ty : Int)) = _; rw [ht]; rfl
 obtain ⟨p0, hp0⟩ : ∃ x, x = p := ⟨_, rfl⟩
 obtain ⟨m0, hm0⟩ : ∃ x, x = m := ⟨_, rfl⟩
 have hn0 := hid (show m0.names = [] by rw [hm0]; exact hN)
 have hq0 := hid (show m0.qids = [] by rw [hm0]; exact hQ)
 rw [← hp0, ← hm0] at hA0
 rw [zeroR_lit] at hW0
 simp only [M.rcells, M.cells] at hW0 ⊢
 replace hp0 := hid hp0
 replace hm0 := hid hm0
 replace hN := hid hN
 replace hQ := hid hQ
 replace h := hid h
 clear ht
 go_enter Tryz.func37, Tryz.ntmps37
 go_wp2_with (rw [← hW0]; replace hW0 := hid hW0)
 try (rw [← hW0]; replace hW0 := hid hW0)
 clear ct
 have hv0 := tv_lt 4 p0 (by omega)
 have cv0 : IntKind.u32.wrap (tv 4 p0 : Int) = (tv 4 p0 : Int) := IntWalk.u32_in _ (by omega)
 replace hv0 := hid hv0
 refine (rtake_at b 4 p0 w0 (by omega) (by omega) hA0.out.inn).mono ?_
 rintro en x0 ⟨rfl, hi0, hs0⟩
 have hX0 := hid (hA0.out.step hi0 hs0)
 replace hi0 := hid hi0
 replace hs0 := hid hs0
 obtain ⟨p1, hp1⟩ : ∃ x, x = (Slot.ri p0 m0 .msize).1 := ⟨_, rfl⟩
 obtain ⟨m1, hm1⟩ : ∃ x, x = (Slot.ri p0 m0 .msize).2 := ⟨_, rfl⟩
 have hn1 := hid (show m1.names = [] by rw [hm1]; exact hn0.out)
 have hq1 := hid (show m1.qids = [] by rw [hm1]; exact hq0.out)
 have c0 : x0.cell? ⟨w.heap.size, 2, none⟩ = some (.int .u32 (m0.msize : Int)) := hX0.out.cell 2
 have f0 : x0.frozen? ⟨w.heap.size, 2, none⟩ = false := hX0.out.free 2
 obtain ⟨w1, hW1⟩ : ∃ W, W = x0.setCell ⟨w.heap.size, 2, none⟩ (.int .u32 (tv 4 p0 : Int)) := ⟨_, rfl⟩
 have hA1 := hid (show RIA w w1 b w.heap.size m1 (.slice none 0 0) (.slice none 0 0) p1 by rw [hW1, hm1, hp1]; exact hX0.out.set 2 _ rfl rfl rfl)
 replace hp1 := hid hp1
 replace hm1 := hid hm1
 go_wp2_with (rw [← hW1]; replace hW1 := hid hW1)
 try (rw [← hW1]; replace hW1 := hid hW1)
 clear c0 f0 hX0 hA0
 refine (rmtext_any b p1 w1 hA1.out.inn.len hA1.out.inn).mono ?_
 rintro en x1 ⟨rfl, hi1, hs1⟩
 have hX1 := hid (hA1.out.step hi1 hs1)
 replace hi1 := hid hi1
 replace hs1 := hid hs1
 obtain ⟨p2, hp2⟩ : ∃ x, x = (Slot.ri p1 m1 .version).1 := ⟨_, rfl⟩
 obtain ⟨m2, hm2⟩ : ∃ x, x = (Slot.ri p1 m1 .version).2 := ⟨_, rfl⟩
 have hn2 := hid (show m2.names = [] by rw [hm2]; exact hn1.out)
 have hq2 := hid (show m2.qids = [] by rw [hm2]; exact hq1.out)
 have c1 : x1.cell? ⟨w.heap.size, 3, none⟩ = some (.string m1.version) := hX1.out.cell 3
 have f1 : x1.frozen? ⟨w.heap.size, 3, none⟩ = false := hX1.out.free 3
 obtain ⟨w2, hW2⟩ : ∃ W, W = x1.setCell ⟨w.heap.size, 3, none⟩ (.string (ts p1)) := ⟨_, rfl⟩
 have hA2 := hid (show RIA w w2 b w.heap.size m2 (.slice none 0 0) (.slice none 0 0) p2 by rw [hW2, hm2, hp2]; exact hX1.out.set 3 _ rfl rfl rfl)
 replace hp2 := hid hp2
 replace hm2 := hid hm2
 go_upto_region 69 with (rw [← hW2]; replace hW2 := hid hW2)
 try (rw [← hW2]; replace hW2 := hid hW2)
 clear c1 f1 hX1 hA1
 have hblk := hid hA2.out.blk
 have hres := hid hA2.out.res
 go_wp2_with (first
  | (refine wpList_load_row (by rfl) 46 (.tmp 3) (by rfl) w.heap.size (by rfl) 46 (m2.rcells (.slice none 0 0) (.slice none 0 0) (strL m2.data)) (0, 0) _ hblk.out Tryz.underlying46 (by rfl) (by kernel_rfl) ?_)
  | (refine wpList_store_row (by rfl) 46 (.tmp 4) (.tmp 201) (by rfl) (w.heap.size + 1) (m2.rcells (.slice none 0 0) (.slice none 0 0) (strL m2.data)) (by rfl) (by rfl) 46 _ hres.out (by kernel_rfl) (by kernel_rfl) (by kernel_rfl) ?_))
 refine bodyPost_ret (results_cell_row rfl _ _ (w.heap.size + 1) _ _ _ _ rfl (setRow_heap _ _ _ _ _ _ hres.out) Tryz.underlying46 rfl (by kernel_rfl)) rfl ?_
 have hfin : rins ([.msize, .version] : List Slot) p m = (p2, m2) := by
  rw [← hp0.out, ← hm0.out]
  simp only [rins]
  rw [← hp1.out, ← hm1.out]
  rw [← hp2.out, ← hm2.out]
 rw [hfin]
 exact hA2.out.done

set_option maxHeartbeats 3200000 in
theorem rfill_101 (b : Nat) (p : List UInt8 × Nat) (m : M) (w : World) (ht : m.ty = 101) (hN : m.names = []) (hQ : m.qids = []) (h : RInAt w b p) :
  Calls Tryz.prog 37 #[.pointer (some ⟨b, 0, none⟩), .agg (m.rcells (.slice none 0 0) (.slice none 0 0) (strL m.data))] w (RFillPost w b (rins ([.msize, .version] : List Slot) p m)) := by
 obtain ⟨w0, hW0⟩ : ∃ W, W = (w.alloc (.cells (m.rcells (.slice none 0 0) (.slice none 0 0) (strL m.data)) 46)).alloc (.cells zeroR 46) := ⟨_, rfl⟩
 have hA0 := hid (show RIA w w0 b w.heap.size m (.slice none 0 0) (.slice none 0 0) p by rw [hW0]; exact RIA.start hN hQ h)
 have ct : w0.cell? ⟨w.heap.size, 0, none⟩ = some (.int .u8 101) := by rw [hA0.out.cell 0]; show some (Value.int .u8 (m.ty : Int)) = _; rw [ht]; rfl
 obtain ⟨p0, hp0⟩ : ∃ x, x = p := ⟨_, rfl⟩
 obtain ⟨m0, hm0⟩ : ∃ x, x = m := ⟨_, rfl⟩
 have hn0 := hid (show m0.names = [] by rw [hm0]; exact hN)
 have hq0 := hid (show m0.qids = [] by rw [hm0]; exact hQ)
 rw [← hp0, ← hm0] at hA0
 rw [zeroR_lit] at hW0
 simp only [M.rcells, M.cells] at hW0 ⊢
 replace hp0 := hid hp0
 replace hm0 := hid hm0
 replace hN := hid hN
 replace hQ := hid hQ
 replace h := hid h
 clear ht
 go_enter Tryz.func37, Tryz.ntmps37
 go_wp2_with (rw [← hW0]; replace hW0 := hid hW0)
 try (rw [← hW0]; replace hW0 := hid hW0)
 clear ct
 have hv0 := tv_lt 4 p0 (by omega)
 have cv0 : IntKind.u32.wrap (tv 4 p0 : Int) = (tv 4 p0 : Int) := IntWalk.u32_in _ (by omega)
 replace hv0 := hid hv0
 refine (rtake_at b 4 p0 w0 (by omega) (by omega) hA0.out.inn).mono ?_
 rintro en x0 ⟨rfl, hi0, hs0⟩
 have hX0 := hid (hA0.out.step hi0 hs0)
 replace hi0 := hid hi0
 replace hs0 := hid hs0
 obtain ⟨p1, hp1⟩ : ∃ x, x = (Slot.ri p0 m0 .msize).1 := ⟨_, rfl⟩
 obtain ⟨m1, hm1⟩ : ∃ x, x = (Slot.ri p0 m0 .msize).2 := ⟨_, rfl⟩
 have hn1 := hid (show m1.names = [] by rw [hm1]; exact hn0.out)
 have hq1 := hid (show m1.qids = [] by rw [hm1]; exact hq0.out)
 have c0 : x0.cell? ⟨w.heap.size, 2, none⟩ = some (.int .u32 (m0.msize : Int)) := hX0.out.cell 2
 have f0 : x0.frozen? ⟨w.heap.size, 2, none⟩ = false := hX0.out.free 2
 obtain ⟨w1, hW1⟩ : ∃ W, W = x0.setCell ⟨w.heap.size, 2, none⟩ (.int .u32 (tv 4 p0 : Int)) := ⟨_, rfl⟩
 have hA1 := hid (show RIA w w1 b w.heap.size m1 (.slice none 0 0) (.slice none 0 0) p1 by rw [hW1, hm1, hp1]; exact hX0.out.set 2 _ rfl rfl rfl)
 replace hp1 := hid hp1
 replace hm1 := hid hm1
 go_wp2_with (rw [← hW1]; replace hW1 := hid hW1)
 try (rw [← hW1]; replace hW1 := hid hW1)
 clear c0 f0 hX0 hA0
 refine (rmtext_any b p1 w1 hA1.out.inn.len hA1.out.inn).mono ?_
 rintro en x1 ⟨rfl, hi1, hs1⟩
 have hX1 := hid (hA1.out.step hi1 hs1)
 replace hi1 := hid hi1
 replace hs1 := hid hs1
 obtain ⟨p2, hp2⟩ : ∃ x, x = (Slot.ri p1 m1 .version).1 := ⟨_, rfl⟩
 obtain ⟨m2, hm2⟩ : ∃ x, x = (Slot.ri p1 m1 .version).2 := ⟨_, rfl⟩
 have hn2 := hid (show m2.names = [] by rw [hm2]; exact hn1.out)
 have hq2 := hid (show m2.qids = [] by rw [hm2]; exact hq1.out)
 have c1 : x1.cell? ⟨w.heap.size, 3, none⟩ = some (.string m1.version) := hX1.out.cell 3
 have f1 : x1.frozen? ⟨w.heap.size, 3, none⟩ = false := hX1.out.free 3
 obtain ⟨w2, hW2⟩ : ∃ W, W = x1.setCell ⟨w.heap.size, 3, none⟩ (.string (ts p1)) := ⟨_, rfl⟩
 have hA2 := hid (show RIA w w2 b w.heap.size m2 (.slice none 0 0) (.slice none 0 0) p2 by rw [hW2, hm2, hp2]; exact hX1.out.set 3 _ rfl rfl rfl)
 replace hp2 := hid hp2
 replace hm2 := hid hm2
 go_upto_region 69 with (rw [← hW2]; replace hW2 := hid hW2)
 try (rw [← hW2]; replace hW2 := hid hW2)
 clear c1 f1 hX1 hA1
 have hblk := hid hA2.out.blk
 have hres := hid hA2.out.res
 go_wp2_with (first
  | (refine wpList_load_row (by rfl) 46 (.tmp 3) (by rfl) w.heap.size (by rfl) 46 (m2.rcells (.slice none 0 0) (.slice none 0 0) (strL m2.data)) (0, 0) _ hblk.out Tryz.underlying46 (by rfl) (by kernel_rfl) ?_)
  | (refine wpList_store_row (by rfl) 46 (.tmp 4) (.tmp 201) (by rfl) (w.heap.size + 1) (m2.rcells (.slice none 0 0) (.slice none 0 0) (strL m2.data)) (by rfl) (by rfl) 46 _ hres.out (by kernel_rfl) (by kernel_rfl) (by kernel_rfl) ?_))
 refine bodyPost_ret (results_cell_row rfl _ _ (w.heap.size + 1) _ _ _ _ rfl (setRow_heap _ _ _ _ _ _ hres.out) Tryz.underlying46 rfl (by kernel_rfl)) rfl ?_
 have hfin : rins ([.msize, .version] : List Slot) p m = (p2, m2) := by
  rw [← hp0.out, ← hm0.out]
  simp only [rins]
  rw [← hp1.out, ← hm1.out]
  rw [← hp2.out, ← hm2.out]
 rw [hfin]
 exact hA2.out.done

set_option maxHeartbeats 3200000 in
theorem rfill_102 (b : Nat) (p : List UInt8 × Nat) (m : M) (w : World) (ht : m.ty = 102) (hN : m.names = []) (hQ : m.qids = []) (h : RInAt w b p) :
  Calls Tryz.prog 37 #[.pointer (some ⟨b, 0, none⟩), .agg (m.rcells (.slice none 0 0) (.slice none 0 0) (strL m.data))] w (RFillPost w b (rins ([.afid, .uname, .aname] : List Slot) p m)) := by
 obtain ⟨w0, hW0⟩ : ∃ W, W = (w.alloc (.cells (m.rcells (.slice none 0 0) (.slice none 0 0) (strL m.data)) 46)).alloc (.cells zeroR 46) := ⟨_, rfl⟩
 have hA0 := hid (show RIA w w0 b w.heap.size m (.slice none 0 0) (.slice none 0 0) p by rw [hW0]; exact RIA.start hN hQ h)
 have ct : w0.cell? ⟨w.heap.size, 0, none⟩ = some (.int .u8 102) := by rw [hA0.out.cell 0]; show some (Value.int .u8 (m.ty : Int)) = _; rw [ht]; rfl
 obtain ⟨p0, hp0⟩ : ∃ x, x = p := ⟨_, rfl⟩
 obtain ⟨m0, hm0⟩ : ∃ x, x = m := ⟨_, rfl⟩
 have hn0 := hid (show m0.names = [] by rw [hm0]; exact hN)
 have hq0 := hid (show m0.qids = [] by rw [hm0]; exact hQ)
 rw [← hp0, ← hm0] at hA0
 rw [zeroR_lit] at hW0
 simp only [M.rcells, M.cells] at hW0 ⊢
 replace hp0 := hid hp0
 replace hm0 := hid hm0
 replace hN := hid hN
 replace hQ := hid hQ
 replace h := hid h
 clear ht
 go_enter Tryz.func37, Tryz.ntmps37
 go_wp2_with (rw [← hW0]; replace hW0 := hid hW0)
 try (rw [← hW0]; replace hW0 := hid hW0)
 clear ct
 have hv0 := tv_lt 4 p0 (by omega)
 have cv0 : IntKind.u32.wrap (tv 4 p0 : Int) = (tv 4 p0 : Int) := IntWalk.u32_in _ (by omega)
 replace hv0 := hid hv0
 refine (rtake_at b 4 p0 w0 (by omega) (by omega) hA0.out.inn).mono ?_
 rintro en x0 ⟨rfl, hi0, hs0⟩
 have hX0 := hid (hA0.out.step hi0 hs0)
 replace hi0 := hid hi0
 replace hs0 := hid hs0
 obtain ⟨p1, hp1⟩ : ∃ x, x = (Slot.ri p0 m0 .afid).1 := ⟨_, rfl⟩
 obtain ⟨m1, hm1⟩ : ∃ x, x = (Slot.ri p0 m0 .afid).2 := ⟨_, rfl⟩
 have hn1 := hid (show m1.names = [] by rw [hm1]; exact hn0.out)
 have hq1 := hid (show m1.qids = [] by rw [hm1]; exact hq0.out)
 have c0 : x0.cell? ⟨w.heap.size, 5, none⟩ = some (.int .u32 (m0.afid : Int)) := hX0.out.cell 5
 have f0 : x0.frozen? ⟨w.heap.size, 5, none⟩ = false := hX0.out.free 5
 obtain ⟨w1, hW1⟩ : ∃ W, W = x0.setCell ⟨w.heap.size, 5, none⟩ (.int .u32 (tv 4 p0 : Int)) := ⟨_, rfl⟩
 have hA1 := hid (show RIA w w1 b w.heap.size m1 (.slice none 0 0) (.slice none 0 0) p1 by rw [hW1, hm1, hp1]; exact hX0.out.set 5 _ rfl rfl rfl)
 replace hp1 := hid hp1
 replace hm1 := hid hm1
 go_wp2_with (rw [← hW1]; replace hW1 := hid hW1)
 try (rw [← hW1]; replace hW1 := hid hW1)
 clear c0 f0 hX0 hA0
 refine (rmtext_any b p1 w1 hA1.out.inn.len hA1.out.inn).mono ?_
 rintro en x1 ⟨rfl, hi1, hs1⟩
 have hX1 := hid (hA1.out.step hi1 hs1)
 replace hi1 := hid hi1
 replace hs1 := hid hs1
 obtain ⟨p2, hp2⟩ : ∃ x, x = (Slot.ri p1 m1 .uname).1 := ⟨_, rfl⟩
 obtain ⟨m2, hm2⟩ : ∃ x, x = (Slot.ri p1 m1 .uname).2 := ⟨_, rfl⟩
 have hn2 := hid (show m2.names = [] by rw [hm2]; exact hn1.out)
 have hq2 := hid (show m2.qids = [] by rw [hm2]; exact hq1.out)
 have c1 : x1.cell? ⟨w.heap.size, 7, none⟩ = some (.string m1.uname) := hX1.out.cell 7
 have f1 : x1.frozen? ⟨w.heap.size, 7, none⟩ = false := hX1.out.free 7
 obtain ⟨w2, hW2⟩ : ∃ W, W = x1.setCell ⟨w.heap.size, 7, none⟩ (.string (ts p1)) := ⟨_, rfl⟩
 have hA2 := hid (show RIA w w2 b w.heap.size m2 (.slice none 0 0) (.slice none 0 0) p2 by rw [hW2, hm2, hp2]; exact hX1.out.set 7 _ rfl rfl rfl)
 replace hp2 := hid hp2
 replace hm2 := hid hm2
 go_wp2_with (rw [← hW2]; replace hW2 := hid hW2)
 try (rw [← hW2]; replace hW2 := hid hW2)
 clear c1 f1 hX1 hA1
 refine (rmtext_any b p2 w2 hA2.out.inn.len hA2.out.inn).mono ?_
 rintro en x2 ⟨rfl, hi2, hs2⟩
 have hX2 := hid (hA2.out.step hi2 hs2)
 replace hi2 := hid hi2
 replace hs2 := hid hs2
 obtain ⟨p3, hp3⟩ : ∃ x, x = (Slot.ri p2 m2 .aname).1 := ⟨_, rfl⟩
 obtain ⟨m3, hm3⟩ : ∃ x, x = (Slot.ri p2 m2 .aname).2 := ⟨_, rfl⟩
 have hn3 := hid (show m3.names = [] by rw [hm3]; exact hn2.out)
 have hq3 := hid (show m3.qids = [] by rw [hm3]; exact hq2.out)
 have c2 : x2.cell? ⟨w.heap.size, 8, none⟩ = some (.string m2.aname) := hX2.out.cell 8
 have f2 : x2.frozen? ⟨w.heap.size, 8, none⟩ = false := hX2.out.free 8
 obtain ⟨w3, hW3⟩ : ∃ W, W = x2.setCell ⟨w.heap.size, 8, none⟩ (.string (ts p2)) := ⟨_, rfl⟩
 have hA3 := hid (show RIA w w3 b w.heap.size m3 (.slice none 0 0) (.slice none 0 0) p3 by rw [hW3, hm3, hp3]; exact hX2.out.set 8 _ rfl rfl rfl)
 replace hp3 := hid hp3
 replace hm3 := hid hm3
 go_upto_region 69 with (rw [← hW3]; replace hW3 := hid hW3)
 try (rw [← hW3]; replace hW3 := hid hW3)
 clear c2 f2 hX2 hA2
 have hblk := hid hA3.out.blk
 have hres := hid hA3.out.res
 go_wp2_with (first
  | (refine wpList_load_row (by rfl) 46 (.tmp 3) (by rfl) w.heap.size (by rfl) 46 (m3.rcells (.slice none 0 0) (.slice none 0 0) (strL m3.data)) (0, 0) _ hblk.out Tryz.underlying46 (by rfl) (by kernel_rfl) ?_)
  | (refine wpList_store_row (by rfl) 46 (.tmp 4) (.tmp 201) (by rfl) (w.heap.size + 1) (m3.rcells (.slice none 0 0) (.slice none 0 0) (strL m3.data)) (by rfl) (by rfl) 46 _ hres.out (by kernel_rfl) (by kernel_rfl) (by kernel_rfl) ?_))
 refine bodyPost_ret (results_cell_row rfl _ _ (w.heap.size + 1) _ _ _ _ rfl (setRow_heap _ _ _ _ _ _ hres.out) Tryz.underlying46 rfl (by kernel_rfl)) rfl ?_
 have hfin : rins ([.afid, .uname, .aname] : List Slot) p m = (p3, m3) := by
  rw [← hp0.out, ← hm0.out]
  simp only [rins]
  rw [← hp1.out, ← hm1.out]
  rw [← hp2.out, ← hm2.out]
  rw [← hp3.out, ← hm3.out]
 rw [hfin]
 exact hA3.out.done

set_option maxHeartbeats 3200000 in
theorem rfill_103 (b : Nat) (p : List UInt8 × Nat) (m : M) (w : World) (ht : m.ty = 103) (hN : m.names = []) (hQ : m.qids = []) (h : RInAt w b p) :
  Calls Tryz.prog 37 #[.pointer (some ⟨b, 0, none⟩), .agg (m.rcells (.slice none 0 0) (.slice none 0 0) (strL m.data))] w (RFillPost w b (rins ([.qid] : List Slot) p m)) := by
 obtain ⟨w0, hW0⟩ : ∃ W, W = (w.alloc (.cells (m.rcells (.slice none 0 0) (.slice none 0 0) (strL m.data)) 46)).alloc (.cells zeroR 46) := ⟨_, rfl⟩
 have hA0 := hid (show RIA w w0 b w.heap.size m (.slice none 0 0) (.slice none 0 0) p by rw [hW0]; exact RIA.start hN hQ h)
 have ct : w0.cell? ⟨w.heap.size, 0, none⟩ = some (.int .u8 103) := by rw [hA0.out.cell 0]; show some (Value.int .u8 (m.ty : Int)) = _; rw [ht]; rfl
 obtain ⟨p0, hp0⟩ : ∃ x, x = p := ⟨_, rfl⟩
 obtain ⟨m0, hm0⟩ : ∃ x, x = m := ⟨_, rfl⟩
 have hn0 := hid (show m0.names = [] by rw [hm0]; exact hN)
 have hq0 := hid (show m0.qids = [] by rw [hm0]; exact hQ)
 rw [← hp0, ← hm0] at hA0
 rw [zeroR_lit] at hW0
 simp only [M.rcells, M.cells] at hW0 ⊢
 replace hp0 := hid hp0
 replace hm0 := hid hm0
 replace hN := hid hN
 replace hQ := hid hQ
 replace h := hid h
 clear ht
 go_enter Tryz.func37, Tryz.ntmps37
 go_wp2_with (rw [← hW0]; replace hW0 := hid hW0)
 try (rw [← hW0]; replace hW0 := hid hW0)
 clear ct
 refine (rqid_any b p0 w0 hA0.out.inn).mono ?_
 rintro en x0 ⟨rfl, hi0, hs0⟩
 have hX0 := hid (hA0.out.step hi0 hs0)
 replace hi0 := hid hi0
 replace hs0 := hid hs0
 obtain ⟨p1, hp1⟩ : ∃ x, x = (Slot.ri p0 m0 .qid).1 := ⟨_, rfl⟩
 obtain ⟨m1, hm1⟩ : ∃ x, x = (Slot.ri p0 m0 .qid).2 := ⟨_, rfl⟩
 have hn1 := hid (show m1.names = [] by rw [hm1]; exact hn0.out)
 have hq1 := hid (show m1.qids = [] by rw [hm1]; exact hq0.out)
 obtain ⟨w1, hW1⟩ : ∃ W, W = x0.setCells w.heap.size 13 [.int .u8 (qvT p0 : Int), .int .u32 (qvV p0 : Int), .int .u64 (qvP p0 : Int)] := ⟨_, rfl⟩
 have hA1 := hid (show RIA w w1 b w.heap.size m1 (.slice none 0 0) (.slice none 0 0) p1 by rw [hW1, hm1, hp1]; exact hX0.out.sets 13 _ (sets_qid m0 _ _ _ (qvR p0)) rfl rfl)
 have ht0 := hid (hX0.out.there 13 3 (by omega))
 replace hp1 := hid hp1
 replace hm1 := hid hm1
 go_upto_region 69 with (first
  | (refine wpList_store_mid (by rfl) 42 (.tmp 38) (.tmp 37) (by rfl) w.heap.size 13 #[.int .u8 (qvT p0 : Int), .int .u32 (qvV p0 : Int), .int .u64 (qvP p0 : Int)] (by rfl) (by rfl) ht0.out (by kernel_rfl) (by kernel_rfl) ?_)
  | (rw [← hW1]; replace hW1 := hid hW1))
 try (rw [← hW1]; replace hW1 := hid hW1)
 clear ht0 hX0 hA0
 have hblk := hid hA1.out.blk
 have hres := hid hA1.out.res
 go_wp2_with (first
  | (refine wpList_load_row (by rfl) 46 (.tmp 3) (by rfl) w.heap.size (by rfl) 46 (m1.rcells (.slice none 0 0) (.slice none 0 0) (strL m1.data)) (0, 0) _ hblk.out Tryz.underlying46 (by rfl) (by kernel_rfl) ?_)
  | (refine wpList_store_row (by rfl) 46 (.tmp 4) (.tmp 201) (by rfl) (w.heap.size + 1) (m1.rcells (.slice none 0 0) (.slice none 0 0) (strL m1.data)) (by rfl) (by rfl) 46 _ hres.out (by kernel_rfl) (by kernel_rfl) (by kernel_rfl) ?_))
 refine bodyPost_ret (results_cell_row rfl _ _ (w.heap.size + 1) _ _ _ _ rfl (setRow_heap _ _ _ _ _ _ hres.out) Tryz.underlying46 rfl (by kernel_rfl)) rfl ?_
 have hfin : rins ([.qid] : List Slot) p m = (p1, m1) := by
  rw [← hp0.out, ← hm0.out]
  simp only [rins]
  rw [← hp1.out, ← hm1.out]
 rw [hfin]
 exact hA1.out.done

set_option maxHeartbeats 3200000 in
theorem rfill_104 (b : Nat) (p : List UInt8 × Nat) (m : M) (w : World) (ht : m.ty = 104) (hN : m.names = []) (hQ : m.qids = []) (h : RInAt w b p) :
  Calls Tryz.prog 37 #[.pointer (some ⟨b, 0, none⟩), .agg (m.rcells (.slice none 0 0) (.slice none 0 0) (strL m.data))] w (RFillPost w b (rins ([.fid, .afid, .uname, .aname] : List Slot) p m)) := by
 obtain ⟨w0, hW0⟩ : ∃ W, W = (w.alloc (.cells (m.rcells (.slice none 0 0) (.slice none 0 0) (strL m.data)) 46)).alloc (.cells zeroR 46) := ⟨_, rfl⟩
 have hA0 := hid (show RIA w w0 b w.heap.size m (.slice none 0 0) (.slice none 0 0) p by rw [hW0]; exact RIA.start hN hQ h)
 have ct : w0.cell? ⟨w.heap.size, 0, none⟩ = some (.int .u8 104) := by rw [hA0.out.cell 0]; show some (Value.int .u8 (m.ty : Int)) = _; rw [ht]; rfl
 obtain ⟨p0, hp0⟩ : ∃ x, x = p := ⟨_, rfl⟩
 obtain ⟨m0, hm0⟩ : ∃ x, x = m := ⟨_, rfl⟩
 have hn0 := hid (show m0.names = [] by rw [hm0]; exact hN)
 have hq0 := hid (show m0.qids = [] by rw [hm0]; exact hQ)
 rw [← hp0, ← hm0] at hA0
 rw [zeroR_lit] at hW0
 simp only [M.rcells, M.cells] at hW0 ⊢
 replace hp0 := hid hp0
 replace hm0 := hid hm0
 replace hN := hid hN
 replace hQ := hid hQ
 replace h := hid h
 clear ht
 go_enter Tryz.func37, Tryz.ntmps37
 go_wp2_with (rw [← hW0]; replace hW0 := hid hW0)
 try (rw [← hW0]; replace hW0 := hid hW0)
 clear ct
 have hv0 := tv_lt 4 p0 (by omega)
 have cv0 : IntKind.u32.wrap (tv 4 p0 : Int) = (tv 4 p0 : Int) := IntWalk.u32_in _ (by omega)
 replace hv0 := hid hv0
 refine (rtake_at b 4 p0 w0 (by omega) (by omega) hA0.out.inn).mono ?_
 rintro en x0 ⟨rfl, hi0, hs0⟩
 have hX0 := hid (hA0.out.step hi0 hs0)
 replace hi0 := hid hi0
 replace hs0 := hid hs0
 obtain ⟨p1, hp1⟩ : ∃ x, x = (Slot.ri p0 m0 .fid).1 := ⟨_, rfl⟩
 obtain ⟨m1, hm1⟩ : ∃ x, x = (Slot.ri p0 m0 .fid).2 := ⟨_, rfl⟩
 have hn1 := hid (show m1.names = [] by rw [hm1]; exact hn0.out)
 have hq1 := hid (show m1.qids = [] by rw [hm1]; exact hq0.out)
 have c0 : x0.cell? ⟨w.heap.size, 4, none⟩ = some (.int .u32 (m0.fid : Int)) := hX0.out.cell 4
 have f0 : x0.frozen? ⟨w.heap.size, 4, none⟩ = false := hX0.out.free 4
 obtain ⟨w1, hW1⟩ : ∃ W, W = x0.setCell ⟨w.heap.size, 4, none⟩ (.int .u32 (tv 4 p0 : Int)) := ⟨_, rfl⟩
 have hA1 := hid (show RIA w w1 b w.heap.size m1 (.slice none 0 0) (.slice none 0 0) p1 by rw [hW1, hm1, hp1]; exact hX0.out.set 4 _ rfl rfl rfl)
 replace hp1 := hid hp1
 replace hm1 := hid hm1
 go_wp2_with (rw [← hW1]; replace hW1 := hid hW1)
 try (rw [← hW1]; replace hW1 := hid hW1)
 clear c0 f0 hX0 hA0
 have hv1 := tv_lt 4 p1 (by omega)
 have cv1 : IntKind.u32.wrap (tv 4 p1 : Int) = (tv 4 p1 : Int) := IntWalk.u32_in _ (by omega)
 replace hv1 := hid hv1
 refine (rtake_at b 4 p1 w1 (by omega) (by omega) hA1.out.inn).mono ?_
 rintro en x1 ⟨rfl, hi1, hs1⟩
 have hX1 := hid (hA1.out.step hi1 hs1)
 replace hi1 := hid hi1
 replace hs1 := hid hs1
 obtain ⟨p2, hp2⟩ : ∃ x, x = (Slot.ri p1 m1 .afid).1 := ⟨_, rfl⟩
 obtain ⟨m2, hm2⟩ : ∃ x, x = (Slot.ri p1 m1 .afid).2 := ⟨_, rfl⟩
 have hn2 := hid (show m2.names = [] by rw [hm2]; exact hn1.out)
 have hq2 := hid (show m2.qids = [] by rw [hm2]; exact hq1.out)
 have c1 : x1.cell? ⟨w.heap.size, 5, none⟩ = some (.int .u32 (m1.afid : Int)) := hX1.out.cell 5
 have f1 : x1.frozen? ⟨w.heap.size, 5, none⟩ = false := hX1.out.free 5
 obtain ⟨w2, hW2⟩ : ∃ W, W = x1.setCell ⟨w.heap.size, 5, none⟩ (.int .u32 (tv 4 p1 : Int)) := ⟨_, rfl⟩
 have hA2 := hid (show RIA w w2 b w.heap.size m2 (.slice none 0 0) (.slice none 0 0) p2 by rw [hW2, hm2, hp2]; exact hX1.out.set 5 _ rfl rfl rfl)
 replace hp2 := hid hp2
 replace hm2 := hid hm2
 go_wp2_with (rw [← hW2]; replace hW2 := hid hW2)
 try (rw [← hW2]; replace hW2 := hid hW2)
 clear c1 f1 hX1 hA1
 refine (rmtext_any b p2 w2 hA2.out.inn.len hA2.out.inn).mono ?_
 rintro en x2 ⟨rfl, hi2, hs2⟩
 have hX2 := hid (hA2.out.step hi2 hs2)
 replace hi2 := hid hi2
 replace hs2 := hid hs2
 obtain ⟨p3, hp3⟩ : ∃ x, x = (Slot.ri p2 m2 .uname).1 := ⟨_, rfl⟩
 obtain ⟨m3, hm3⟩ : ∃ x, x = (Slot.ri p2 m2 .uname).2 := ⟨_, rfl⟩
 have hn3 := hid (show m3.names = [] by rw [hm3]; exact hn2.out)
 have hq3 := hid (show m3.qids = [] by rw [hm3]; exact hq2.out)
 have c2 : x2.cell? ⟨w.heap.size, 7, none⟩ = some (.string m2.uname) := hX2.out.cell 7
 have f2 : x2.frozen? ⟨w.heap.size, 7, none⟩ = false := hX2.out.free 7
 obtain ⟨w3, hW3⟩ : ∃ W, W = x2.setCell ⟨w.heap.size, 7, none⟩ (.string (ts p2)) := ⟨_, rfl⟩
 have hA3 := hid (show RIA w w3 b w.heap.size m3 (.slice none 0 0) (.slice none 0 0) p3 by rw [hW3, hm3, hp3]; exact hX2.out.set 7 _ rfl rfl rfl)
 replace hp3 := hid hp3
 replace hm3 := hid hm3
 go_wp2_with (rw [← hW3]; replace hW3 := hid hW3)
 try (rw [← hW3]; replace hW3 := hid hW3)
 clear c2 f2 hX2 hA2
 refine (rmtext_any b p3 w3 hA3.out.inn.len hA3.out.inn).mono ?_
 rintro en x3 ⟨rfl, hi3, hs3⟩
 have hX3 := hid (hA3.out.step hi3 hs3)
 replace hi3 := hid hi3
 replace hs3 := hid hs3
 obtain ⟨p4, hp4⟩ : ∃ x, x = (Slot.ri p3 m3 .aname).1 := ⟨_, rfl⟩
 obtain ⟨m4, hm4⟩ : ∃ x, x = (Slot.ri p3 m3 .aname).2 := ⟨_, rfl⟩
 have hn4 := hid (show m4.names = [] by rw [hm4]; exact hn3.out)
 have hq4 := hid (show m4.qids = [] by rw [hm4]; exact hq3.out)
 have c3 : x3.cell? ⟨w.heap.size, 8, none⟩ = some (.string m3.aname) := hX3.out.cell 8
 have f3 : x3.frozen? ⟨w.heap.size, 8, none⟩ = false := hX3.out.free 8
 obtain ⟨w4, hW4⟩ : ∃ W, W = x3.setCell ⟨w.heap.size, 8, none⟩ (.string (ts p3)) := ⟨_, rfl⟩
 have hA4 := hid (show RIA w w4 b w.heap.size m4 (.slice none 0 0) (.slice none 0 0) p4 by rw [hW4, hm4, hp4]; exact hX3.out.set 8 _ rfl rfl rfl)
 replace hp4 := hid hp4
 replace hm4 := hid hm4
 go_upto_region 69 with (rw [← hW4]; replace hW4 := hid hW4)
 try (rw [← hW4]; replace hW4 := hid hW4)
 clear c3 f3 hX3 hA3
 have hblk := hid hA4.out.blk
 have hres := hid hA4.out.res
 go_wp2_with (first
  | (refine wpList_load_row (by rfl) 46 (.tmp 3) (by rfl) w.heap.size (by rfl) 46 (m4.rcells (.slice none 0 0) (.slice none 0 0) (strL m4.data)) (0, 0) _ hblk.out Tryz.underlying46 (by rfl) (by kernel_rfl) ?_)
  | (refine wpList_store_row (by rfl) 46 (.tmp 4) (.tmp 201) (by rfl) (w.heap.size + 1) (m4.rcells (.slice none 0 0) (.slice none 0 0) (strL m4.data)) (by rfl) (by rfl) 46 _ hres.out (by kernel_rfl) (by kernel_rfl) (by kernel_rfl) ?_))
 refine bodyPost_ret (results_cell_row rfl _ _ (w.heap.size + 1) _ _ _ _ rfl (setRow_heap _ _ _ _ _ _ hres.out) Tryz.underlying46 rfl (by kernel_rfl)) rfl ?_
 have hfin : rins ([.fid, .afid, .uname, .aname] : List Slot) p m = (p4, m4) := by
  rw [← hp0.out, ← hm0.out]
  simp only [rins]
  rw [← hp1.out, ← hm1.out]
  rw [← hp2.out, ← hm2.out]
  rw [← hp3.out, ← hm3.out]
  rw [← hp4.out, ← hm4.out]
 rw [hfin]
 exact hA4.out.done

set_option maxHeartbeats 3200000 in
theorem rfill_105 (b : Nat) (p : List UInt8 × Nat) (m : M) (w : World) (ht : m.ty = 105) (hN : m.names = []) (hQ : m.qids = []) (h : RInAt w b p) :
  Calls Tryz.prog 37 #[.pointer (some ⟨b, 0, none⟩), .agg (m.rcells (.slice none 0 0) (.slice none 0 0) (strL m.data))] w (RFillPost w b (rins ([.qid] : List Slot) p m)) := by
 obtain ⟨w0, hW0⟩ : ∃ W, W = (w.alloc (.cells (m.rcells (.slice none 0 0) (.slice none 0 0) (strL m.data)) 46)).alloc (.cells zeroR 46) := ⟨_, rfl⟩
 have hA0 := hid (show RIA w w0 b w.heap.size m (.slice none 0 0) (.slice none 0 0) p by rw [hW0]; exact RIA.start hN hQ h)
 have ct : w0.cell? ⟨w.heap.size, 0, none⟩ = some (.int .u8 105) := by rw [hA0.out.cell 0]; show some (Value.int .u8 (m.ty : Int)) = _; rw [ht]; rfl
 obtain ⟨p0, hp0⟩ : ∃ x, x = p := ⟨_, rfl⟩
 obtain ⟨m0, hm0⟩ : ∃ x, x = m := ⟨_, rfl⟩
 have hn0 := hid (show m0.names = [] by rw [hm0]; exact hN)
 have hq0 := hid (show m0.qids = [] by rw [hm0]; exact hQ)
 rw [← hp0, ← hm0] at hA0
 rw [zeroR_lit] at hW0
 simp only [M.rcells, M.cells] at hW0 ⊢
 replace hp0 := hid hp0
 replace hm0 := hid hm0
 replace hN := hid hN
 replace hQ := hid hQ
 replace h := hid h
 clear ht
 go_enter Tryz.func37, Tryz.ntmps37
 go_wp2_with (rw [← hW0]; replace hW0 := hid hW0)
 try (rw [← hW0]; replace hW0 := hid hW0)
 clear ct
 refine (rqid_any b p0 w0 hA0.out.inn).mono ?_
 rintro en x0 ⟨rfl, hi0, hs0⟩
 have hX0 := hid (hA0.out.step hi0 hs0)
 replace hi0 := hid hi0
 replace hs0 := hid hs0
 obtain ⟨p1, hp1⟩ : ∃ x, x = (Slot.ri p0 m0 .qid).1 := ⟨_, rfl⟩
 obtain ⟨m1, hm1⟩ : ∃ x, x = (Slot.ri p0 m0 .qid).2 := ⟨_, rfl⟩
 have hn1 := hid (show m1.names = [] by rw [hm1]; exact hn0.out)
 have hq1 := hid (show m1.qids = [] by rw [hm1]; exact hq0.out)
 obtain ⟨w1, hW1⟩ : ∃ W, W = x0.setCells w.heap.size 13 [.int .u8 (qvT p0 : Int), .int .u32 (qvV p0 : Int), .int .u64 (qvP p0 : Int)] := ⟨_, rfl⟩
 have hA1 := hid (show RIA w w1 b w.heap.size m1 (.slice none 0 0) (.slice none 0 0) p1 by rw [hW1, hm1, hp1]; exact hX0.out.sets 13 _ (sets_qid m0 _ _ _ (qvR p0)) rfl rfl)
 have ht0 := hid (hX0.out.there 13 3 (by omega))
 replace hp1 := hid hp1
 replace hm1 := hid hm1
 go_upto_region 69 with (first
  | (refine wpList_store_mid (by rfl) 42 (.tmp 38) (.tmp 37) (by rfl) w.heap.size 13 #[.int .u8 (qvT p0 : Int), .int .u32 (qvV p0 : Int), .int .u64 (qvP p0 : Int)] (by rfl) (by rfl) ht0.out (by kernel_rfl) (by kernel_rfl) ?_)
  | (rw [← hW1]; replace hW1 := hid hW1))
 try (rw [← hW1]; replace hW1 := hid hW1)
 clear ht0 hX0 hA0
 have hblk := hid hA1.out.blk
 have hres := hid hA1.out.res
 go_wp2_with (first
  | (refine wpList_load_row (by rfl) 46 (.tmp 3) (by rfl) w.heap.size (by rfl) 46 (m1.rcells (.slice none 0 0) (.slice none 0 0) (strL m1.data)) (0, 0) _ hblk.out Tryz.underlying46 (by rfl) (by kernel_rfl) ?_)
  | (refine wpList_store_row (by rfl) 46 (.tmp 4) (.tmp 201) (by rfl) (w.heap.size + 1) (m1.rcells (.slice none 0 0) (.slice none 0 0) (strL m1.data)) (by rfl) (by rfl) 46 _ hres.out (by kernel_rfl) (by kernel_rfl) (by kernel_rfl) ?_))
 refine bodyPost_ret (results_cell_row rfl _ _ (w.heap.size + 1) _ _ _ _ rfl (setRow_heap _ _ _ _ _ _ hres.out) Tryz.underlying46 rfl (by kernel_rfl)) rfl ?_
 have hfin : rins ([.qid] : List Slot) p m = (p1, m1) := by
  rw [← hp0.out, ← hm0.out]
  simp only [rins]
  rw [← hp1.out, ← hm1.out]
 rw [hfin]
 exact hA1.out.done

set_option maxHeartbeats 3200000 in
theorem rfill_107 (b : Nat) (p : List UInt8 × Nat) (m : M) (w : World) (ht : m.ty = 107) (hN : m.names = []) (hQ : m.qids = []) (h : RInAt w b p) :
  Calls Tryz.prog 37 #[.pointer (some ⟨b, 0, none⟩), .agg (m.rcells (.slice none 0 0) (.slice none 0 0) (strL m.data))] w (RFillPost w b (rins ([.ename] : List Slot) p m)) := by
 obtain ⟨w0, hW0⟩ : ∃ W, W = (w.alloc (.cells (m.rcells (.slice none 0 0) (.slice none 0 0) (strL m.data)) 46)).alloc (.cells zeroR 46) := ⟨_, rfl⟩
 have hA0 := hid (show RIA w w0 b w.heap.size m (.slice none 0 0) (.slice none 0 0) p by rw [hW0]; exact RIA.start hN hQ h)
 have ct : w0.cell? ⟨w.heap.size, 0, none⟩ = some (.int .u8 107) := by rw [hA0.out.cell 0]; show some (Value.int .u8 (m.ty : Int)) = _; rw [ht]; rfl
 obtain ⟨p0, hp0⟩ : ∃ x, x = p := ⟨_, rfl⟩
 obtain ⟨m0, hm0⟩ : ∃ x, x = m := ⟨_, rfl⟩
 have hn0 := hid (show m0.names = [] by rw [hm0]; exact hN)
 have hq0 := hid (show m0.qids = [] by rw [hm0]; exact hQ)
 rw [← hp0, ← hm0] at hA0
 rw [zeroR_lit] at hW0
 simp only [M.rcells, M.cells] at hW0 ⊢
 replace hp0 := hid hp0
 replace hm0 := hid hm0
 replace hN := hid hN
 replace hQ := hid hQ
 replace h := hid h
 clear ht
 go_enter Tryz.func37, Tryz.ntmps37
 go_wp2_with (rw [← hW0]; replace hW0 := hid hW0)
 try (rw [← hW0]; replace hW0 := hid hW0)
 clear ct
 refine (rmtext_any b p0 w0 hA0.out.inn.len hA0.out.inn).mono ?_
 rintro en x0 ⟨rfl, hi0, hs0⟩
 have hX0 := hid (hA0.out.step hi0 hs0)
 replace hi0 := hid hi0
 replace hs0 := hid hs0
 obtain ⟨p1, hp1⟩ : ∃ x, x = (Slot.ri p0 m0 .ename).1 := ⟨_, rfl⟩
 obtain ⟨m1, hm1⟩ : ∃ x, x = (Slot.ri p0 m0 .ename).2 := ⟨_, rfl⟩
 have hn1 := hid (show m1.names = [] by rw [hm1]; exact hn0.out)
 have hq1 := hid (show m1.qids = [] by rw [hm1]; exact hq0.out)
 have c0 : x0.cell? ⟨w.heap.size, 9, none⟩ = some (.string m0.ename) := hX0.out.cell 9
 have f0 : x0.frozen? ⟨w.heap.size, 9, none⟩ = false := hX0.out.free 9
 obtain ⟨w1, hW1⟩ : ∃ W, W = x0.setCell ⟨w.heap.size, 9, none⟩ (.string (ts p0)) := ⟨_, rfl⟩
 have hA1 := hid (show RIA w w1 b w.heap.size m1 (.slice none 0 0) (.slice none 0 0) p1 by rw [hW1, hm1, hp1]; exact hX0.out.set 9 _ rfl rfl rfl)
 replace hp1 := hid hp1
 replace hm1 := hid hm1
 go_upto_region 69 with (rw [← hW1]; replace hW1 := hid hW1)
 try (rw [← hW1]; replace hW1 := hid hW1)
 clear c0 f0 hX0 hA0
 have hblk := hid hA1.out.blk
 have hres := hid hA1.out.res
 go_wp2_with (first
  | (refine wpList_load_row (by rfl) 46 (.tmp 3) (by rfl) w.heap.size (by rfl) 46 (m1.rcells (.slice none 0 0) (.slice none 0 0) (strL m1.data)) (0, 0) _ hblk.out Tryz.underlying46 (by rfl) (by kernel_rfl) ?_)
  | (refine wpList_store_row (by rfl) 46 (.tmp 4) (.tmp 201) (by rfl) (w.heap.size + 1) (m1.rcells (.slice none 0 0) (.slice none 0 0) (strL m1.data)) (by rfl) (by rfl) 46 _ hres.out (by kernel_rfl) (by kernel_rfl) (by kernel_rfl) ?_))
 refine bodyPost_ret (results_cell_row rfl _ _ (w.heap.size + 1) _ _ _ _ rfl (setRow_heap _ _ _ _ _ _ hres.out) Tryz.underlying46 rfl (by kernel_rfl)) rfl ?_
 have hfin : rins ([.ename] : List Slot) p m = (p1, m1) := by
  rw [← hp0.out, ← hm0.out]
  simp only [rins]
  rw [← hp1.out, ← hm1.out]
 rw [hfin]
 exact hA1.out.done

set_option maxHeartbeats 3200000 in
theorem rfill_108 (b : Nat) (p : List UInt8 × Nat) (m : M) (w : World) (ht : m.ty = 108) (hN : m.names = []) (hQ : m.qids = []) (h : RInAt w b p) :
  Calls Tryz.prog 37 #[.pointer (some ⟨b, 0, none⟩), .agg (m.rcells (.slice none 0 0) (.slice none 0 0) (strL m.data))] w (RFillPost w b (rins ([.old] : List Slot) p m)) := by
 obtain ⟨w0, hW0⟩ : ∃ W, W = (w.alloc (.cells (m.rcells (.slice none 0 0) (.slice none 0 0) (strL m.data)) 46)).alloc (.cells zeroR 46) := ⟨_, rfl⟩
 have hA0 := hid (show RIA w w0 b w.heap.size m (.slice none 0 0) (.slice none 0 0) p by rw [hW0]; exact RIA.start hN hQ h)
 have ct : w0.cell? ⟨w.heap.size, 0, none⟩ = some (.int .u8 108) := by rw [hA0.out.cell 0]; show some (Value.int .u8 (m.ty : Int)) = _; rw [ht]; rfl
 obtain ⟨p0, hp0⟩ : ∃ x, x = p := ⟨_, rfl⟩
 obtain ⟨m0, hm0⟩ : ∃ x, x = m := ⟨_, rfl⟩
 have hn0 := hid (show m0.names = [] by rw [hm0]; exact hN)
 have hq0 := hid (show m0.qids = [] by rw [hm0]; exact hQ)
 rw [← hp0, ← hm0] at hA0
 rw [zeroR_lit] at hW0
 simp only [M.rcells, M.cells] at hW0 ⊢
 replace hp0 := hid hp0
 replace hm0 := hid hm0
 replace hN := hid hN
 replace hQ := hid hQ
 replace h := hid h
 clear ht
 go_enter Tryz.func37, Tryz.ntmps37
 go_wp2_with (rw [← hW0]; replace hW0 := hid hW0)
 try (rw [← hW0]; replace hW0 := hid hW0)
 clear ct
 have hv0 := tv_lt 2 p0 (by omega)
 have cv0 : IntKind.u16.wrap (tv 2 p0 : Int) = (tv 2 p0 : Int) := IntWalk.u16_in _ (by omega)
 replace hv0 := hid hv0
 refine (rtake_at b 2 p0 w0 (by omega) (by omega) hA0.out.inn).mono ?_
 rintro en x0 ⟨rfl, hi0, hs0⟩
 have hX0 := hid (hA0.out.step hi0 hs0)
 replace hi0 := hid hi0
 replace hs0 := hid hs0
 obtain ⟨p1, hp1⟩ : ∃ x, x = (Slot.ri p0 m0 .old).1 := ⟨_, rfl⟩
 obtain ⟨m1, hm1⟩ : ∃ x, x = (Slot.ri p0 m0 .old).2 := ⟨_, rfl⟩
 have hn1 := hid (show m1.names = [] by rw [hm1]; exact hn0.out)
 have hq1 := hid (show m1.qids = [] by rw [hm1]; exact hq0.out)
 have c0 : x0.cell? ⟨w.heap.size, 10, none⟩ = some (.int .u16 (m0.old : Int)) := hX0.out.cell 10
 have f0 : x0.frozen? ⟨w.heap.size, 10, none⟩ = false := hX0.out.free 10
 obtain ⟨w1, hW1⟩ : ∃ W, W = x0.setCell ⟨w.heap.size, 10, none⟩ (.int .u16 (tv 2 p0 : Int)) := ⟨_, rfl⟩
 have hA1 := hid (show RIA w w1 b w.heap.size m1 (.slice none 0 0) (.slice none 0 0) p1 by rw [hW1, hm1, hp1]; exact hX0.out.set 10 _ rfl rfl rfl)
 replace hp1 := hid hp1
 replace hm1 := hid hm1
 go_upto_region 69 with (rw [← hW1]; replace hW1 := hid hW1)
 try (rw [← hW1]; replace hW1 := hid hW1)
 clear c0 f0 hX0 hA0
 have hblk := hid hA1.out.blk
 have hres := hid hA1.out.res
 go_wp2_with (first
  | (refine wpList_load_row (by rfl) 46 (.tmp 3) (by rfl) w.heap.size (by rfl) 46 (m1.rcells (.slice none 0 0) (.slice none 0 0) (strL m1.data)) (0, 0) _ hblk.out Tryz.underlying46 (by rfl) (by kernel_rfl) ?_)
  | (refine wpList_store_row (by rfl) 46 (.tmp 4) (.tmp 201) (by rfl) (w.heap.size + 1) (m1.rcells (.slice none 0 0) (.slice none 0 0) (strL m1.data)) (by rfl) (by rfl) 46 _ hres.out (by kernel_rfl) (by kernel_rfl) (by kernel_rfl) ?_))
 refine bodyPost_ret (results_cell_row rfl _ _ (w.heap.size + 1) _ _ _ _ rfl (setRow_heap _ _ _ _ _ _ hres.out) Tryz.underlying46 rfl (by kernel_rfl)) rfl ?_
 have hfin : rins ([.old] : List Slot) p m = (p1, m1) := by
  rw [← hp0.out, ← hm0.out]
  simp only [rins]
  rw [← hp1.out, ← hm1.out]
 rw [hfin]
 exact hA1.out.done

set_option maxHeartbeats 3200000 in
theorem rfill_109 (b : Nat) (p : List UInt8 × Nat) (m : M) (w : World) (ht : m.ty = 109) (hN : m.names = []) (hQ : m.qids = []) (h : RInAt w b p) :
  Calls Tryz.prog 37 #[.pointer (some ⟨b, 0, none⟩), .agg (m.rcells (.slice none 0 0) (.slice none 0 0) (strL m.data))] w (RFillPost w b (rins ([] : List Slot) p m)) := by
 obtain ⟨w0, hW0⟩ : ∃ W, W = (w.alloc (.cells (m.rcells (.slice none 0 0) (.slice none 0 0) (strL m.data)) 46)).alloc (.cells zeroR 46) := ⟨_, rfl⟩
 have hA0 := hid (show RIA w w0 b w.heap.size m (.slice none 0 0) (.slice none 0 0) p by rw [hW0]; exact RIA.start hN hQ h)
 have ct : w0.cell? ⟨w.heap.size, 0, none⟩ = some (.int .u8 109) := by rw [hA0.out.cell 0]; show some (Value.int .u8 (m.ty : Int)) = _; rw [ht]; rfl
 obtain ⟨p0, hp0⟩ : ∃ x, x = p := ⟨_, rfl⟩
 obtain ⟨m0, hm0⟩ : ∃ x, x = m := ⟨_, rfl⟩
 have hn0 := hid (show m0.names = [] by rw [hm0]; exact hN)
 have hq0 := hid (show m0.qids = [] by rw [hm0]; exact hQ)
 rw [← hp0, ← hm0] at hA0
 rw [zeroR_lit] at hW0
 simp only [M.rcells, M.cells] at hW0 ⊢
 replace hp0 := hid hp0
 replace hm0 := hid hm0
 replace hN := hid hN
 replace hQ := hid hQ
 replace h := hid h
 clear ht
 go_enter Tryz.func37, Tryz.ntmps37
 go_upto_region 69 with (rw [← hW0]; replace hW0 := hid hW0)
 try (rw [← hW0]; replace hW0 := hid hW0)
 clear ct
 have hblk := hid hA0.out.blk
 have hres := hid hA0.out.res
 go_wp2_with (first
  | (refine wpList_load_row (by rfl) 46 (.tmp 3) (by rfl) w.heap.size (by rfl) 46 (m0.rcells (.slice none 0 0) (.slice none 0 0) (strL m0.data)) (0, 0) _ hblk.out Tryz.underlying46 (by rfl) (by kernel_rfl) ?_)
  | (refine wpList_store_row (by rfl) 46 (.tmp 4) (.tmp 201) (by rfl) (w.heap.size + 1) (m0.rcells (.slice none 0 0) (.slice none 0 0) (strL m0.data)) (by rfl) (by rfl) 46 _ hres.out (by kernel_rfl) (by kernel_rfl) (by kernel_rfl) ?_))
 refine bodyPost_ret (results_cell_row rfl _ _ (w.heap.size + 1) _ _ _ _ rfl (setRow_heap _ _ _ _ _ _ hres.out) Tryz.underlying46 rfl (by kernel_rfl)) rfl ?_
 have hfin : rins ([] : List Slot) p m = (p0, m0) := by
  rw [← hp0.out, ← hm0.out]
  simp only [rins]
 rw [hfin]
 exact hA0.out.done

set_option maxHeartbeats 3200000 in
theorem rfill_110 (b : Nat) (p : List UInt8 × Nat) (m : M) (w : World) (ht : m.ty = 110) (hN : m.names = []) (hQ : m.qids = []) (h : RInAt w b p) :
  Calls Tryz.prog 37 #[.pointer (some ⟨b, 0, none⟩), .agg (m.rcells (.slice none 0 0) (.slice none 0 0) (strL m.data))] w (RFillPost w b (rins ([.fid, .new, .names] : List Slot) p m)) := by
 obtain ⟨w0, hW0⟩ : ∃ W, W = (w.alloc (.cells (m.rcells (.slice none 0 0) (.slice none 0 0) (strL m.data)) 46)).alloc (.cells zeroR 46) := ⟨_, rfl⟩
 have hA0 := hid (show RIA w w0 b w.heap.size m (.slice none 0 0) (.slice none 0 0) p by rw [hW0]; exact RIA.start hN hQ h)
 have ct : w0.cell? ⟨w.heap.size, 0, none⟩ = some (.int .u8 110) := by rw [hA0.out.cell 0]; show some (Value.int .u8 (m.ty : Int)) = _; rw [ht]; rfl
 obtain ⟨p0, hp0⟩ : ∃ x, x = p := ⟨_, rfl⟩
 obtain ⟨m0, hm0⟩ : ∃ x, x = m := ⟨_, rfl⟩
 have hn0 := hid (show m0.names = [] by rw [hm0]; exact hN)
 have hq0 := hid (show m0.qids = [] by rw [hm0]; exact hQ)
 rw [← hp0, ← hm0] at hA0
 rw [zeroR_lit] at hW0
 simp only [M.rcells, M.cells] at hW0 ⊢
 replace hp0 := hid hp0
 replace hm0 := hid hm0
 replace hN := hid hN
 replace hQ := hid hQ
 replace h := hid h
 clear ht
 go_enter Tryz.func37, Tryz.ntmps37
 go_wp2_with (rw [← hW0]; replace hW0 := hid hW0)
 try (rw [← hW0]; replace hW0 := hid hW0)
 clear ct
 have hv0 := tv_lt 4 p0 (by omega)
 have cv0 : IntKind.u32.wrap (tv 4 p0 : Int) = (tv 4 p0 : Int) := IntWalk.u32_in _ (by omega)
 replace hv0 := hid hv0
 refine (rtake_at b 4 p0 w0 (by omega) (by omega) hA0.out.inn).mono ?_
 rintro en x0 ⟨rfl, hi0, hs0⟩
 have hX0 := hid (hA0.out.step hi0 hs0)
 replace hi0 := hid hi0
 replace hs0 := hid hs0
 obtain ⟨p1, hp1⟩ : ∃ x, x = (Slot.ri p0 m0 .fid).1 := ⟨_, rfl⟩
 obtain ⟨m1, hm1⟩ : ∃ x, x = (Slot.ri p0 m0 .fid).2 := ⟨_, rfl⟩
 have hn1 := hid (show m1.names = [] by rw [hm1]; exact hn0.out)
 have hq1 := hid (show m1.qids = [] by rw [hm1]; exact hq0.out)
 have c0 : x0.cell? ⟨w.heap.size, 4, none⟩ = some (.int .u32 (m0.fid : Int)) := hX0.out.cell 4
 have f0 : x0.frozen? ⟨w.heap.size, 4, none⟩ = false := hX0.out.free 4
 obtain ⟨w1, hW1⟩ : ∃ W, W = x0.setCell ⟨w.heap.size, 4, none⟩ (.int .u32 (tv 4 p0 : Int)) := ⟨_, rfl⟩
 have hA1 := hid (show RIA w w1 b w.heap.size m1 (.slice none 0 0) (.slice none 0 0) p1 by rw [hW1, hm1, hp1]; exact hX0.out.set 4 _ rfl rfl rfl)
 replace hp1 := hid hp1
 replace hm1 := hid hm1
 go_wp2_with (rw [← hW1]; replace hW1 := hid hW1)
 try (rw [← hW1]; replace hW1 := hid hW1)
 clear c0 f0 hX0 hA0
 have hv1 := tv_lt 4 p1 (by omega)
 have cv1 : IntKind.u32.wrap (tv 4 p1 : Int) = (tv 4 p1 : Int) := IntWalk.u32_in _ (by omega)
 replace hv1 := hid hv1
 refine (rtake_at b 4 p1 w1 (by omega) (by omega) hA1.out.inn).mono ?_
 rintro en x1 ⟨rfl, hi1, hs1⟩
 have hX1 := hid (hA1.out.step hi1 hs1)
 replace hi1 := hid hi1
 replace hs1 := hid hs1
 obtain ⟨p2, hp2⟩ : ∃ x, x = (Slot.ri p1 m1 .new).1 := ⟨_, rfl⟩
 obtain ⟨m2, hm2⟩ : ∃ x, x = (Slot.ri p1 m1 .new).2 := ⟨_, rfl⟩
 have hn2 := hid (show m2.names = [] by rw [hm2]; exact hn1.out)
 have hq2 := hid (show m2.qids = [] by rw [hm2]; exact hq1.out)
 have c1 : x1.cell? ⟨w.heap.size, 6, none⟩ = some (.int .u32 (m1.new : Int)) := hX1.out.cell 6
 have f1 : x1.frozen? ⟨w.heap.size, 6, none⟩ = false := hX1.out.free 6
 obtain ⟨w2, hW2⟩ : ∃ W, W = x1.setCell ⟨w.heap.size, 6, none⟩ (.int .u32 (tv 4 p1 : Int)) := ⟨_, rfl⟩
 have hA2 := hid (show RIA w w2 b w.heap.size m2 (.slice none 0 0) (.slice none 0 0) p2 by rw [hW2, hm2, hp2]; exact hX1.out.set 6 _ rfl rfl rfl)
 replace hp2 := hid hp2
 replace hm2 := hid hm2
 go_wp2_with (rw [← hW2]; replace hW2 := hid hW2)
 try (rw [← hW2]; replace hW2 := hid hW2)
 clear c1 f1 hX1 hA1
 refine (rmmany_any b p2 w2 hA2.out.inn).mono ?_
 rintro en x2 ⟨rfl, hi2, hs2⟩
 have hX2 := hid (hA2.out.step hi2 hs2)
 replace hi2 := hid hi2
 replace hs2 := hid hs2
 obtain ⟨nn, hnn⟩ : ∃ x, x = mnN p2 := ⟨_, rfl⟩
 obtain ⟨pc, hpc⟩ : ∃ x, x = mnR p2 := ⟨_, rfl⟩
 have hn16 : nn ≤ 16 := by rw [hnn]; exact mnN_le p2
 rw [← hnn]
 rw [← hpc] at hX2
 replace hnn := hid hnn
 replace hpc := hid hpc
 have hstart : Hid (RIA w x2 b w.heap.size { m2 with names := (rtxs 0 pc).2 } (.slice none 0 0) (.slice none 0 0) (rtxs 0 pc).1) := hid (by
  have e : { m2 with names := (rtxs 0 pc).2 } = m2 := by have := hn2.out; show { m2 with names := [] } = m2; rw [← this]
  rw [e]; exact hX2.out)
 go_wp2_with fail
 go_loopw [6] (fun kv wr => ∃ (k : Nat) (vv : Value), k ≤ nn ∧ kv = .int .i64 (k : Int) ∧ Hid (RIA w wr b w.heap.size { m2 with names := (rtxs k pc).2 } vv (.slice none 0 0) (rtxs k pc).1)) (fun kv _ => nn - (intOf kv).toNat)
 case atStart => exact ⟨0, .slice none 0 0, by omega, rfl, hstart⟩
 case round =>
  obtain ⟨k, vv, hk1, rfl, hAk⟩ := hrel
  have hsucc : rtxs (k + 1) pc = (mtr (rtxs k pc).1, (rtxs k pc).2 ++ [ts (rtxs k pc).1]) := rfl
  have hlen : (rtxs k pc).2.length = k := rtxs_len k pc
  obtain ⟨P, hP⟩ : ∃ x, x = (rtxs k pc).1 := ⟨_, rfl⟩
  obtain ⟨L, hL⟩ : ∃ x, x = (rtxs k pc).2 := ⟨_, rfl⟩
  rw [← hP, ← hL] at hAk hsucc
  rw [← hL] at hlen
  replace hP := hid hP
  replace hL := hid hL
  have hown := hAk.out.names
  rw [show ({ m2 with names := L } : M).names = L from rfl, hlen] at hown
  obtain ⟨ak, ck, rfl⟩ := own_form hown
  by_cases hkl : k < nn
  ·have hDr := hid hAk.out.drew
   have s0 : wr.drew.cell? ⟨w.heap.size, 11, none⟩ = some (.slice ak k ck) := hAk.out.cell 11
   have hqs := lt_of_block hDr.out.res
   have hvl := hid hown.lt
   replace hsucc := hid hsucc
   replace hown := hid hown
   go_wp2_with fail
   go_region_law (first | (refine step_append_rowl elemRS _ rfl (.tmp 84) (.tmp 87) rfl (w.heap.size + 2) (.slice ak k ck) k _ rfl hownA.out _ 1 [.string (ts P)] rfl hsrc.out (by intro u hu; simp at hu; subst hu; rfl) (by unfold maxLen; omega) (by omega) (by have h1 := hqs; have h2 := hzn; simp at h1 h2 ⊢; omega) ?_; intro a' c' w' h2 h3 h4; obtain ⟨z1, z2, z3⟩ := hAn.out.name (ts P) hDA.out h3 (by rw [show ({ m2 with names := L } : M).names = L from rfl, hlen]; exact h2) h4; replace z3 := hid z3; clear h2 h3 h4) | (go_simp; ((go_at_call 49); (with_reducible refine (rmtext_any b P _ hDr.out.inn.len hDr.out.inn).mono ?_); rintro e wn ⟨rfl, hin, hsn⟩; have hAn := hid (hDr.out.step hin hsn); have hzn := hsn.below.size; have hDA := hid ((Below.refl wn.heap.size wn).alloc (Nat.le_refl _) (.cells #[.string (ts P)] 9)); have hownA := hid (own_keep (by have h9 := hAn.out.names; rw [show ({ m2 with names := L } : M).names = L from rfl, hlen] at h9; exact h9) (fun j hj => hDA.out.block j ((hAn.out.names).lt j hj).2)); have hsrc : Hid (RowAt (wn.alloc (.cells #[.string (ts P)] 9)) 1 (.slice (some ⟨wn.heap.size, 0, none⟩) 1 1) 1 [.string (ts P)]) := hid (RowAt.of_block (n := 1) (heap_alloc_new _ _) rfl (by unfold maxLen; omega)); have t0 : (wn.alloc (.cells #[.string (ts P)] 9)).cell? ⟨w.heap.size, 11, none⟩ = some (.slice ak k ck) := (hDA.out.cell (p := ⟨w.heap.size, 11, none⟩) (lt_of_block hAn.out.blk)).trans (hAn.out.cell 11); replace s0 : wn.cell? ⟨w.heap.size, 11, none⟩ = some (.slice ak k ck) := hAn.out.cell 11; replace hin := hid hin; replace hsn := hid hsn)))
   all_goals
    clear s0 t0 hown hownA hvl hDA hsrc hDr hin hsn hAn
    go_wp2_with fail
    go_roundw
    case rel => exact ⟨k + 1, _, by omega, by go_num, hid (by rw [hsucc.out]; exact z3.out)⟩
    case measure => simp [intOf]; omega
  ·obtain rfl : k = nn := by omega
   obtain ⟨p3, hp3⟩ : ∃ x, x = (Slot.ri p2 m2 .names).1 := ⟨_, rfl⟩
   obtain ⟨m3, hm3⟩ : ∃ x, x = (Slot.ri p2 m2 .names).2 := ⟨_, rfl⟩
   have hA3 := hid (show RIA w wr b w.heap.size m3 (.slice ak k ck) (.slice none 0 0) p3 by
    have e1 : p3 = P := by rw [hp3, hP.out, hnn.out, hpc.out]; rfl
    have e2 : m3 = { m2 with names := L } := by rw [hm3, hL.out, hnn.out, hpc.out]; rfl
    rw [e1, e2]; exact hAk.out)
   replace hp3 := hid hp3
   replace hm3 := hid hm3
   clear hAk hown hP hL hsucc
   go_upto_region 69 with fail
   have hblk := hid hA3.out.blk
   have hres := hid hA3.out.res
   go_wp2_with (first
    | (refine wpList_load_row (by rfl) 46 (.tmp 3) (by rfl) w.heap.size (by rfl) 46 (m3.rcells (.slice ak k ck) (.slice none 0 0) (strL m3.data)) (0, 0) _ hblk.out Tryz.underlying46 (by rfl) (by kernel_rfl) ?_)
    | (refine wpList_store_row (by rfl) 46 (.tmp 4) (.tmp 201) (by rfl) (w.heap.size + 1) (m3.rcells (.slice ak k ck) (.slice none 0 0) (strL m3.data)) (by rfl) (by rfl) 46 _ hres.out (by kernel_rfl) (by kernel_rfl) (by kernel_rfl) ?_))
   refine bodyPost_ret (results_cell_row rfl _ _ (w.heap.size + 1) _ _ _ _ rfl (setRow_heap _ _ _ _ _ _ hres.out) Tryz.underlying46 rfl (by kernel_rfl)) rfl ?_
   have hfin : rins ([.fid, .new, .names] : List Slot) p m = (p3, m3) := by
    rw [← hp0.out, ← hm0.out]
    simp only [rins]
    rw [← hp1.out, ← hm1.out]
    rw [← hp2.out, ← hm2.out]
    rw [← hp3.out, ← hm3.out]
   rw [hfin]
   exact hA3.out.done

set_option maxHeartbeats 3200000 in
theorem rfill_111 (b : Nat) (p : List UInt8 × Nat) (m : M) (w : World) (ht : m.ty = 111) (hN : m.names = []) (hQ : m.qids = []) (h : RInAt w b p) :
  Calls Tryz.prog 37 #[.pointer (some ⟨b, 0, none⟩), .agg (m.rcells (.slice none 0 0) (.slice none 0 0) (strL m.data))] w (RFillPost w b (rins ([.qids] : List Slot) p m)) := by
 obtain ⟨w0, hW0⟩ : ∃ W, W = (w.alloc (.cells (m.rcells (.slice none 0 0) (.slice none 0 0) (strL m.data)) 46)).alloc (.cells zeroR 46) := ⟨_, rfl⟩
 have hA0 := hid (show RIA w w0 b w.heap.size m (.slice none 0 0) (.slice none 0 0) p by rw [hW0]; exact RIA.start hN hQ h)
 have ct : w0.cell? ⟨w.heap.size, 0, none⟩ = some (.int .u8 111) := by rw [hA0.out.cell 0]; show some (Value.int .u8 (m.ty : Int)) = _; rw [ht]; rfl
 obtain ⟨p0, hp0⟩ : ∃ x, x = p := ⟨_, rfl⟩
 obtain ⟨m0, hm0⟩ : ∃ x, x = m := ⟨_, rfl⟩
 have hn0 := hid (show m0.names = [] by rw [hm0]; exact hN)
 have hq0 := hid (show m0.qids = [] by rw [hm0]; exact hQ)
 rw [← hp0, ← hm0] at hA0
 rw [zeroR_lit] at hW0
 simp only [M.rcells, M.cells] at hW0 ⊢
 replace hp0 := hid hp0
 replace hm0 := hid hm0
 replace hN := hid hN
 replace hQ := hid hQ
 replace h := hid h
 clear ht
 go_enter Tryz.func37, Tryz.ntmps37
 go_wp2_with (rw [← hW0]; replace hW0 := hid hW0)
 try (rw [← hW0]; replace hW0 := hid hW0)
 clear ct
 refine (rmmany_any b p0 w0 hA0.out.inn).mono ?_
 rintro en x0 ⟨rfl, hi0, hs0⟩
 have hX0 := hid (hA0.out.step hi0 hs0)
 replace hi0 := hid hi0
 replace hs0 := hid hs0
 obtain ⟨nn, hnn⟩ : ∃ x, x = mnN p0 := ⟨_, rfl⟩
 obtain ⟨pc, hpc⟩ : ∃ x, x = mnR p0 := ⟨_, rfl⟩
 have hn16 : nn ≤ 16 := by rw [hnn]; exact mnN_le p0
 rw [← hnn]
 rw [← hpc] at hX0
 replace hnn := hid hnn
 replace hpc := hid hpc
 have hstart : Hid (RIA w x0 b w.heap.size { m0 with qids := (rqds 0 pc).2 } (.slice none 0 0) (.slice none 0 0) (rqds 0 pc).1) := hid (by
  have e : { m0 with qids := (rqds 0 pc).2 } = m0 := by have := hq0.out; show { m0 with qids := [] } = m0; rw [← this]
  rw [e]; exact hX0.out)
 go_wp2_with fail
 go_loopw [8] (fun kv wr => ∃ (k : Nat) (vv : Value), k ≤ nn ∧ kv = .int .i64 (k : Int) ∧ Hid (RIA w wr b w.heap.size { m0 with qids := (rqds k pc).2 } (.slice none 0 0) vv (rqds k pc).1)) (fun kv _ => nn - (intOf kv).toNat)
 case atStart => exact ⟨0, .slice none 0 0, by omega, rfl, hstart⟩
 case round =>
  obtain ⟨k, vv, hk1, rfl, hAk⟩ := hrel
  have hsucc : rqds (k + 1) pc = (qr (rqds k pc).1, (rqds k pc).2 ++ [qvR (rqds k pc).1]) := rfl
  have hlen : (rqds k pc).2.length = k := rqds_len k pc
  obtain ⟨P, hP⟩ : ∃ x, x = (rqds k pc).1 := ⟨_, rfl⟩
  obtain ⟨L, hL⟩ : ∃ x, x = (rqds k pc).2 := ⟨_, rfl⟩
  rw [← hP, ← hL] at hAk hsucc
  rw [← hL] at hlen
  replace hP := hid hP
  replace hL := hid hL
  have hown := hAk.out.qids
  rw [show ({ m0 with qids := L } : M).qids = L from rfl, hlen] at hown
  obtain ⟨ak, ck, rfl⟩ := own_form hown
  by_cases hkl : k < nn
  ·have hDr := hid hAk.out.drew
   have s0 : wr.drew.cell? ⟨w.heap.size, 12, none⟩ = some (.slice ak k ck) := hAk.out.cell 12
   have hqs := lt_of_block hDr.out.res
   have hvl := hid hown.lt
   replace hsucc := hid hsucc
   replace hown := hid hown
   go_wp2_with fail
   go_region_law (first | (refine step_append_rowl elemRQ _ rfl (.tmp 100) (.tmp 103) rfl (w.heap.size + 2) (.slice ak k ck) k _ rfl hownA.out _ 1 [.int .u8 (qvT P : Int), .int .u32 (qvV P : Int), .int .u64 (qvP P : Int)] rfl hsrc.out (by intro u hu; simp at hu; rcases hu with rfl | rfl | rfl <;> rfl) (by unfold maxLen; omega) (by omega) (by have h1 := hqs; have h2 := hzn; simp at h1 h2 ⊢; omega) ?_; intro a' c' w' h2 h3 h4; obtain ⟨z1, z2, z3⟩ := hAn.out.qidm (qvR P) hDA.out h3 (by rw [show ({ m0 with qids := L } : M).qids = L from rfl, hlen]; exact h2) h4; replace z3 := hid z3; clear h2 h3 h4) | (go_simp; ((go_at_call 50); (with_reducible refine (rqid_lit b P _ hDr.out.inn).mono ?_); rintro e wn ⟨rfl, hin, hsn⟩; have hAn := hid (hDr.out.step hin hsn); have hzn := hsn.below.size; have hDA := hid ((Below.refl wn.heap.size wn).alloc (Nat.le_refl _) (.cells #[.int .u8 (qvT P : Int), .int .u32 (qvV P : Int), .int .u64 (qvP P : Int)] 42)); have hownA := hid (own_keep (by have h9 := hAn.out.qids; rw [show ({ m0 with qids := L } : M).qids = L from rfl, hlen] at h9; exact h9) (fun j hj => hDA.out.block j ((hAn.out.qids).lt j hj).2)); have hsrc : Hid (RowAt (wn.alloc (.cells #[.int .u8 (qvT P : Int), .int .u32 (qvV P : Int), .int .u64 (qvP P : Int)] 42)) 3 (.slice (some ⟨wn.heap.size, 0, none⟩) 1 1) 1 [.int .u8 (qvT P : Int), .int .u32 (qvV P : Int), .int .u64 (qvP P : Int)]) := hid (RowAt.of_block (n := 1) (heap_alloc_new _ _) rfl (by unfold maxLen; omega)); have t0 : (wn.alloc (.cells #[.int .u8 (qvT P : Int), .int .u32 (qvV P : Int), .int .u64 (qvP P : Int)] 42)).cell? ⟨w.heap.size, 12, none⟩ = some (.slice ak k ck) := (hDA.out.cell (p := ⟨w.heap.size, 12, none⟩) (lt_of_block hAn.out.blk)).trans (hAn.out.cell 12); replace s0 : wn.cell? ⟨w.heap.size, 12, none⟩ = some (.slice ak k ck) := hAn.out.cell 12; replace hin := hid hin; replace hsn := hid hsn)))
   all_goals
    clear s0 t0 hown hownA hvl hDA hsrc hDr hin hsn hAn
    go_wp2_with fail
    go_roundw
    case rel => exact ⟨k + 1, _, by omega, by go_num, hid (by rw [hsucc.out]; exact z3.out)⟩
    case measure => simp [intOf]; omega
  ·obtain rfl : k = nn := by omega
   obtain ⟨p1, hp1⟩ : ∃ x, x = (Slot.ri p0 m0 .qids).1 := ⟨_, rfl⟩
   obtain ⟨m1, hm1⟩ : ∃ x, x = (Slot.ri p0 m0 .qids).2 := ⟨_, rfl⟩
   have hA1 := hid (show RIA w wr b w.heap.size m1 (.slice none 0 0) (.slice ak k ck) p1 by
    have e1 : p1 = P := by rw [hp1, hP.out, hnn.out, hpc.out]; rfl
    have e2 : m1 = { m0 with qids := L } := by rw [hm1, hL.out, hnn.out, hpc.out]; rfl
    rw [e1, e2]; exact hAk.out)
   replace hp1 := hid hp1
   replace hm1 := hid hm1
   clear hAk hown hP hL hsucc
   go_upto_region 69 with fail
   have hblk := hid hA1.out.blk
   have hres := hid hA1.out.res
   go_wp2_with (first
    | (refine wpList_load_row (by rfl) 46 (.tmp 3) (by rfl) w.heap.size (by rfl) 46 (m1.rcells (.slice none 0 0) (.slice ak k ck) (strL m1.data)) (0, 0) _ hblk.out Tryz.underlying46 (by rfl) (by kernel_rfl) ?_)
    | (refine wpList_store_row (by rfl) 46 (.tmp 4) (.tmp 201) (by rfl) (w.heap.size + 1) (m1.rcells (.slice none 0 0) (.slice ak k ck) (strL m1.data)) (by rfl) (by rfl) 46 _ hres.out (by kernel_rfl) (by kernel_rfl) (by kernel_rfl) ?_))
   refine bodyPost_ret (results_cell_row rfl _ _ (w.heap.size + 1) _ _ _ _ rfl (setRow_heap _ _ _ _ _ _ hres.out) Tryz.underlying46 rfl (by kernel_rfl)) rfl ?_
   have hfin : rins ([.qids] : List Slot) p m = (p1, m1) := by
    rw [← hp0.out, ← hm0.out]
    simp only [rins]
    rw [← hp1.out, ← hm1.out]
   rw [hfin]
   exact hA1.out.done

end Go.Proofs.YtlmojhlacfjmaaaGreat
