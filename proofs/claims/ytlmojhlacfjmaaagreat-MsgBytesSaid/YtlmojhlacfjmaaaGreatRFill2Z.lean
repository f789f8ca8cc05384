/- What fill of the reference's In reads, types from 112. Conditions: the type, no names, no qids yet. -/
import Derived.Test.YtlmojhlacfjmaaaGreatRFillZ
namespace Go.Proofs.YtlmojhlacfjmaaaGreat
open Go.RowKit
set_option maxRecDepth 100000
set_option linter.unusedVariables false
set_option maxHeartbeats 3200000 in
theorem rfill_112 (b : Nat) (p : List UInt8 × Nat) (m : M) (w : World) (ht : m.ty = 112) (hN : m.names = []) (hQ : m.qids = []) (h : RInAt w b p) :
  Calls Tryz.prog 37 #[.pointer (some ⟨b, 0, none⟩), .agg (m.rcells (.slice none 0 0) (.slice none 0 0) (strL m.data))] w (RFillPost w b (rins ([.fid, .mode] : List Slot) p m)) := by
 obtain ⟨w0, hW0⟩ : ∃ W, W = (w.alloc (.cells (m.rcells (.slice none 0 0) (.slice none 0 0) (strL m.data)) 46)).alloc (.cells zeroR 46) := ⟨_, rfl⟩
 have hA0 := hid (show RIA w w0 b w.heap.size m (.slice none 0 0) (.slice none 0 0) p by rw [hW0]; exact RIA.start hN hQ h)
 have ct : w0.cell? ⟨w.heap.size, 0, none⟩ = some (.int .u8 112) := by rw [hA0.out.cell 0]; show some (Value.int .u8 (m.ty : Int)) = _; rw [ht]; rfl
 obtain ⟨p0, hp0⟩ : ∃ x, x = p := ⟨_, rfl⟩
 obtain ⟨m0, hm0⟩ : ∃ x, x = m := ⟨_, rfl⟩
 have hn0 := hid (show m0.names = [] by rw [hm0]; exact hN)
 have hq0 := hid (show m0.qids = [] by rw [hm0]; exact hQ)
 rw [← hp0, ← hm0] at hA0
 rw [zeroR_lit] at hW0
 simp only [M.rcells, M.cells] at hW0 ⊢
 replace hp0 := hid hp0
 replace hm0 := hid hm0
 replace hN := hid hN
 replace hQ := hid hQ
 replace h := hid h
 clear ht
 go_enter Tryz.func37, Tryz.ntmps37
 go_wp2_with (rw [← hW0]; replace hW0 := hid hW0)
 try (rw [← hW0]; replace hW0 := hid hW0)
 clear ct
 have hv0 := tv_lt 4 p0 (by omega)
 have cv0 : IntKind.u32.wrap (tv 4 p0 : Int) = (tv 4 p0 : Int) := IntWalk.u32_in _ (by omega)
 replace hv0 := hid hv0
 refine (rtake_at b 4 p0 w0 (by omega) (by omega) hA0.out.inn).mono ?_
 rintro en x0 ⟨rfl, hi0, hs0⟩
 have hX0 := hid (hA0.out.step hi0 hs0)
 replace hi0 := hid hi0
 replace hs0 := hid hs0
 obtain ⟨p1, hp1⟩ : ∃ x, x = (Slot.ri p0 m0 .fid).1 := ⟨_, rfl⟩
 obtain ⟨m1, hm1⟩ : ∃ x, x = (Slot.ri p0 m0 .fid).2 := ⟨_, rfl⟩
 have hn1 := hid (show m1.names = [] by rw [hm1]; exact hn0.out)
 have hq1 := hid (show m1.qids = [] by rw [hm1]; exact hq0.out)
 have c0 : x0.cell? ⟨w.heap.size, 4, none⟩ = some (.int .u32 (m0.fid : Int)) := hX0.out.cell 4
 have f0 : x0.frozen? ⟨w.heap.size, 4, none⟩ = false := hX0.out.free 4
 obtain ⟨w1, hW1⟩ : ∃ W, W = x0.setCell ⟨w.heap.size, 4, none⟩ (.int .u32 (tv 4 p0 : Int)) := ⟨_, rfl⟩
 have hA1 := hid (show RIA w w1 b w.heap.size m1 (.slice none 0 0) (.slice none 0 0) p1 by rw [hW1, hm1, hp1]; exact hX0.out.set 4 _ rfl rfl rfl)
 replace hp1 := hid hp1
 replace hm1 := hid hm1
 go_wp2_with (rw [← hW1]; replace hW1 := hid hW1)
 try (rw [← hW1]; replace hW1 := hid hW1)
 clear c0 f0 hX0 hA0
 have hv1 := tv_lt 1 p1 (by omega)
 have cv1 : IntKind.u8.wrap (tv 1 p1 : Int) = (tv 1 p1 : Int) := IntWalk.u8_in _ (by omega)
 replace hv1 := hid hv1
 refine (rtake_at b 1 p1 w1 (by omega) (by omega) hA1.out.inn).mono ?_
 rintro en x1 ⟨rfl, hi1, hs1⟩
 have hX1 := hid (hA1.out.step hi1 hs1)
 replace hi1 := hid hi1
 replace hs1 := hid hs1
 obtain ⟨p2, hp2⟩ : ∃ x, x = (Slot.ri p1 m1 .mode).1 := ⟨_, rfl⟩
 obtain ⟨m2, hm2⟩ : ∃ x, x = (Slot.ri p1 m1 .mode).2 := ⟨_, rfl⟩
 have hn2 := hid (show m2.names = [] by rw [hm2]; exact hn1.out)
 have hq2 := hid (show m2.qids = [] by rw [hm2]; exact hq1.out)
 have c1 : x1.cell? ⟨w.heap.size, 17, none⟩ = some (.int .u8 (m1.mode : Int)) := hX1.out.cell 17
 have f1 : x1.frozen? ⟨w.heap.size, 17, none⟩ = false := hX1.out.free 17
 obtain ⟨w2, hW2⟩ : ∃ W, W = x1.setCell ⟨w.heap.size, 17, none⟩ (.int .u8 (tv 1 p1 : Int)) := ⟨_, rfl⟩
 have hA2 := hid (show RIA w w2 b w.heap.size m2 (.slice none 0 0) (.slice none 0 0) p2 by rw [hW2, hm2, hp2]; exact hX1.out.set 17 _ rfl rfl rfl)
 replace hp2 := hid hp2
 replace hm2 := hid hm2
 go_upto_region 69 with (rw [← hW2]; replace hW2 := hid hW2)
 try (rw [← hW2]; replace hW2 := hid hW2)
 clear c1 f1 hX1 hA1
 have hblk := hid hA2.out.blk
 have hres := hid hA2.out.res
 go_wp2_with (first
  | (refine wpList_load_row (by rfl) 46 (.tmp 3) (by rfl) w.heap.size (by rfl) 46 (m2.rcells (.slice none 0 0) (.slice none 0 0) (strL m2.data)) (0, 0) _ hblk.out Tryz.underlying46 (by rfl) (by kernel_rfl) ?_)
  | (refine wpList_store_row (by rfl) 46 (.tmp 4) (.tmp 201) (by rfl) (w.heap.size + 1) (m2.rcells (.slice none 0 0) (.slice none 0 0) (strL m2.data)) (by rfl) (by rfl) 46 _ hres.out (by kernel_rfl) (by kernel_rfl) (by kernel_rfl) ?_))
 refine bodyPost_ret (results_cell_row rfl _ _ (w.heap.size + 1) _ _ _ _ rfl (setRow_heap _ _ _ _ _ _ hres.out) Tryz.underlying46 rfl (by kernel_rfl)) rfl ?_
 have hfin : rins ([.fid, .mode] : List Slot) p m = (p2, m2) := by
  rw [← hp0.out, ← hm0.out]
  simp only [rins]
  rw [← hp1.out, ← hm1.out]
  rw [← hp2.out, ← hm2.out]
 rw [hfin]
 exact hA2.out.done

set_option maxHeartbeats 3200000 in
theorem rfill_113 (b : Nat) (p : List UInt8 × Nat) (m : M) (w : World) (ht : m.ty = 113) (hN : m.names = []) (hQ : m.qids = []) (h : RInAt w b p) :
  Calls Tryz.prog 37 #[.pointer (some ⟨b, 0, none⟩), .agg (m.rcells (.slice none 0 0) (.slice none 0 0) (strL m.data))] w (RFillPost w b (rins ([.qid, .iounit] : List Slot) p m)) := by
 obtain ⟨w0, hW0⟩ : ∃ W, W = (w.alloc (.cells (m.rcells (.slice none 0 0) (.slice none 0 0) (strL m.data)) 46)).alloc (.cells zeroR 46) := ⟨_, rfl⟩
 have hA0 := hid (show RIA w w0 b w.heap.size m (.slice none 0 0) (.slice none 0 0) p by rw [hW0]; exact RIA.start hN hQ h)
 have ct : w0.cell? ⟨w.heap.size, 0, none⟩ = some (.int .u8 113) := by rw [hA0.out.cell 0]; show some (Value.int .u8 (m.ty : Int)) = _; rw [ht]; rfl
 obtain ⟨p0, hp0⟩ : ∃ x, x = p := ⟨_, rfl⟩
 obtain ⟨m0, hm0⟩ : ∃ x, x = m := ⟨_, rfl⟩
 have hn0 := hid (show m0.names = [] by rw [hm0]; exact hN)
 have hq0 := hid (show m0.qids = [] by rw [hm0]; exact hQ)
 rw [← hp0, ← hm0] at hA0
 rw [zeroR_lit] at hW0
 simp only [M.rcells, M.cells] at hW0 ⊢
 replace hp0 := hid hp0
 replace hm0 := hid hm0
 replace hN := hid hN
 replace hQ := hid hQ
 replace h := hid h
 clear ht
 go_enter Tryz.func37, Tryz.ntmps37
 go_wp2_with (rw [← hW0]; replace hW0 := hid hW0)
 try (rw [← hW0]; replace hW0 := hid hW0)
 clear ct
 refine (rqid_any b p0 w0 hA0.out.inn).mono ?_
 rintro en x0 ⟨rfl, hi0, hs0⟩
 have hX0 := hid (hA0.out.step hi0 hs0)
 replace hi0 := hid hi0
 replace hs0 := hid hs0
 obtain ⟨p1, hp1⟩ : ∃ x, x = (Slot.ri p0 m0 .qid).1 := ⟨_, rfl⟩
 obtain ⟨m1, hm1⟩ : ∃ x, x = (Slot.ri p0 m0 .qid).2 := ⟨_, rfl⟩
 have hn1 := hid (show m1.names = [] by rw [hm1]; exact hn0.out)
 have hq1 := hid (show m1.qids = [] by rw [hm1]; exact hq0.out)
 obtain ⟨w1, hW1⟩ : ∃ W, W = x0.setCells w.heap.size 13 [.int .u8 (qvT p0 : Int), .int .u32 (qvV p0 : Int), .int .u64 (qvP p0 : Int)] := ⟨_, rfl⟩
 have hA1 := hid (show RIA w w1 b w.heap.size m1 (.slice none 0 0) (.slice none 0 0) p1 by rw [hW1, hm1, hp1]; exact hX0.out.sets 13 _ (sets_qid m0 _ _ _ (qvR p0)) rfl rfl)
 have ht0 := hid (hX0.out.there 13 3 (by omega))
 replace hp1 := hid hp1
 replace hm1 := hid hm1
 go_wp2_with (first
  | (refine wpList_store_mid (by rfl) 42 (.tmp 121) (.tmp 120) (by rfl) w.heap.size 13 #[.int .u8 (qvT p0 : Int), .int .u32 (qvV p0 : Int), .int .u64 (qvP p0 : Int)] (by rfl) (by rfl) ht0.out (by kernel_rfl) (by kernel_rfl) ?_)
  | (rw [← hW1]; replace hW1 := hid hW1))
 try (rw [← hW1]; replace hW1 := hid hW1)
 clear ht0 hX0 hA0
 have hv1 := tv_lt 4 p1 (by omega)
 have cv1 : IntKind.u32.wrap (tv 4 p1 : Int) = (tv 4 p1 : Int) := IntWalk.u32_in _ (by omega)
 replace hv1 := hid hv1
 refine (rtake_at b 4 p1 w1 (by omega) (by omega) hA1.out.inn).mono ?_
 rintro en x1 ⟨rfl, hi1, hs1⟩
 have hX1 := hid (hA1.out.step hi1 hs1)
 replace hi1 := hid hi1
 replace hs1 := hid hs1
 obtain ⟨p2, hp2⟩ : ∃ x, x = (Slot.ri p1 m1 .iounit).1 := ⟨_, rfl⟩
 obtain ⟨m2, hm2⟩ : ∃ x, x = (Slot.ri p1 m1 .iounit).2 := ⟨_, rfl⟩
 have hn2 := hid (show m2.names = [] by rw [hm2]; exact hn1.out)
 have hq2 := hid (show m2.qids = [] by rw [hm2]; exact hq1.out)
 have c1 : x1.cell? ⟨w.heap.size, 16, none⟩ = some (.int .u32 (m1.iounit : Int)) := hX1.out.cell 16
 have f1 : x1.frozen? ⟨w.heap.size, 16, none⟩ = false := hX1.out.free 16
 obtain ⟨w2, hW2⟩ : ∃ W, W = x1.setCell ⟨w.heap.size, 16, none⟩ (.int .u32 (tv 4 p1 : Int)) := ⟨_, rfl⟩
 have hA2 := hid (show RIA w w2 b w.heap.size m2 (.slice none 0 0) (.slice none 0 0) p2 by rw [hW2, hm2, hp2]; exact hX1.out.set 16 _ rfl rfl rfl)
 replace hp2 := hid hp2
 replace hm2 := hid hm2
 go_upto_region 69 with (rw [← hW2]; replace hW2 := hid hW2)
 try (rw [← hW2]; replace hW2 := hid hW2)
 clear c1 f1 hX1 hA1
 have hblk := hid hA2.out.blk
 have hres := hid hA2.out.res
 go_wp2_with (first
  | (refine wpList_load_row (by rfl) 46 (.tmp 3) (by rfl) w.heap.size (by rfl) 46 (m2.rcells (.slice none 0 0) (.slice none 0 0) (strL m2.data)) (0, 0) _ hblk.out Tryz.underlying46 (by rfl) (by kernel_rfl) ?_)
  | (refine wpList_store_row (by rfl) 46 (.tmp 4) (.tmp 201) (by rfl) (w.heap.size + 1) (m2.rcells (.slice none 0 0) (.slice none 0 0) (strL m2.data)) (by rfl) (by rfl) 46 _ hres.out (by kernel_rfl) (by kernel_rfl) (by kernel_rfl) ?_))
 refine bodyPost_ret (results_cell_row rfl _ _ (w.heap.size + 1) _ _ _ _ rfl (setRow_heap _ _ _ _ _ _ hres.out) Tryz.underlying46 rfl (by kernel_rfl)) rfl ?_
 have hfin : rins ([.qid, .iounit] : List Slot) p m = (p2, m2) := by
  rw [← hp0.out, ← hm0.out]
  simp only [rins]
  rw [← hp1.out, ← hm1.out]
  rw [← hp2.out, ← hm2.out]
 rw [hfin]
 exact hA2.out.done

set_option maxHeartbeats 3200000 in
theorem rfill_114 (b : Nat) (p : List UInt8 × Nat) (m : M) (w : World) (ht : m.ty = 114) (hN : m.names = []) (hQ : m.qids = []) (h : RInAt w b p) :
  Calls Tryz.prog 37 #[.pointer (some ⟨b, 0, none⟩), .agg (m.rcells (.slice none 0 0) (.slice none 0 0) (strL m.data))] w (RFillPost w b (rins ([.fid, .name, .perm, .mode] : List Slot) p m)) := by
 obtain ⟨w0, hW0⟩ : ∃ W, W = (w.alloc (.cells (m.rcells (.slice none 0 0) (.slice none 0 0) (strL m.data)) 46)).alloc (.cells zeroR 46) := ⟨_, rfl⟩
 have hA0 := hid (show RIA w w0 b w.heap.size m (.slice none 0 0) (.slice none 0 0) p by rw [hW0]; exact RIA.start hN hQ h)
 have ct : w0.cell? ⟨w.heap.size, 0, none⟩ = some (.int .u8 114) := by rw [hA0.out.cell 0]; show some (Value.int .u8 (m.ty : Int)) = _; rw [ht]; rfl
 obtain ⟨p0, hp0⟩ : ∃ x, x = p := ⟨_, rfl⟩
 obtain ⟨m0, hm0⟩ : ∃ x, x = m := ⟨_, rfl⟩
 have hn0 := hid (show m0.names = [] by rw [hm0]; exact hN)
 have hq0 := hid (show m0.qids = [] by rw [hm0]; exact hQ)
 rw [← hp0, ← hm0] at hA0
 rw [zeroR_lit] at hW0
 simp only [M.rcells, M.cells] at hW0 ⊢
 replace hp0 := hid hp0
 replace hm0 := hid hm0
 replace hN := hid hN
 replace hQ := hid hQ
 replace h := hid h
 clear ht
 go_enter Tryz.func37, Tryz.ntmps37
 go_wp2_with (rw [← hW0]; replace hW0 := hid hW0)
 try (rw [← hW0]; replace hW0 := hid hW0)
 clear ct
 have hv0 := tv_lt 4 p0 (by omega)
 have cv0 : IntKind.u32.wrap (tv 4 p0 : Int) = (tv 4 p0 : Int) := IntWalk.u32_in _ (by omega)
 replace hv0 := hid hv0
 refine (rtake_at b 4 p0 w0 (by omega) (by omega) hA0.out.inn).mono ?_
 rintro en x0 ⟨rfl, hi0, hs0⟩
 have hX0 := hid (hA0.out.step hi0 hs0)
 replace hi0 := hid hi0
 replace hs0 := hid hs0
 obtain ⟨p1, hp1⟩ : ∃ x, x = (Slot.ri p0 m0 .fid).1 := ⟨_, rfl⟩
 obtain ⟨m1, hm1⟩ : ∃ x, x = (Slot.ri p0 m0 .fid).2 := ⟨_, rfl⟩
 have hn1 := hid (show m1.names = [] by rw [hm1]; exact hn0.out)
 have hq1 := hid (show m1.qids = [] by rw [hm1]; exact hq0.out)
 have c0 : x0.cell? ⟨w.heap.size, 4, none⟩ = some (.int .u32 (m0.fid : Int)) := hX0.out.cell 4
 have f0 : x0.frozen? ⟨w.heap.size, 4, none⟩ = false := hX0.out.free 4
 obtain ⟨w1, hW1⟩ : ∃ W, W = x0.setCell ⟨w.heap.size, 4, none⟩ (.int .u32 (tv 4 p0 : Int)) := ⟨_, rfl⟩
 have hA1 := hid (show RIA w w1 b w.heap.size m1 (.slice none 0 0) (.slice none 0 0) p1 by rw [hW1, hm1, hp1]; exact hX0.out.set 4 _ rfl rfl rfl)
 replace hp1 := hid hp1
 replace hm1 := hid hm1
 go_wp2_with (rw [← hW1]; replace hW1 := hid hW1)
 try (rw [← hW1]; replace hW1 := hid hW1)
 clear c0 f0 hX0 hA0
 refine (rmtext_any b p1 w1 hA1.out.inn.len hA1.out.inn).mono ?_
 rintro en x1 ⟨rfl, hi1, hs1⟩
 have hX1 := hid (hA1.out.step hi1 hs1)
 replace hi1 := hid hi1
 replace hs1 := hid hs1
 obtain ⟨p2, hp2⟩ : ∃ x, x = (Slot.ri p1 m1 .name).1 := ⟨_, rfl⟩
 obtain ⟨m2, hm2⟩ : ∃ x, x = (Slot.ri p1 m1 .name).2 := ⟨_, rfl⟩
 have hn2 := hid (show m2.names = [] by rw [hm2]; exact hn1.out)
 have hq2 := hid (show m2.qids = [] by rw [hm2]; exact hq1.out)
 have c1 : x1.cell? ⟨w.heap.size, 19, none⟩ = some (.string m1.name) := hX1.out.cell 19
 have f1 : x1.frozen? ⟨w.heap.size, 19, none⟩ = false := hX1.out.free 19
 obtain ⟨w2, hW2⟩ : ∃ W, W = x1.setCell ⟨w.heap.size, 19, none⟩ (.string (ts p1)) := ⟨_, rfl⟩
 have hA2 := hid (show RIA w w2 b w.heap.size m2 (.slice none 0 0) (.slice none 0 0) p2 by rw [hW2, hm2, hp2]; exact hX1.out.set 19 _ rfl rfl rfl)
 replace hp2 := hid hp2
 replace hm2 := hid hm2
 go_wp2_with (rw [← hW2]; replace hW2 := hid hW2)
 try (rw [← hW2]; replace hW2 := hid hW2)
 clear c1 f1 hX1 hA1
 have hv2 := tv_lt 4 p2 (by omega)
 have cv2 : IntKind.u32.wrap (tv 4 p2 : Int) = (tv 4 p2 : Int) := IntWalk.u32_in _ (by omega)
 replace hv2 := hid hv2
 refine (rtake_at b 4 p2 w2 (by omega) (by omega) hA2.out.inn).mono ?_
 rintro en x2 ⟨rfl, hi2, hs2⟩
 have hX2 := hid (hA2.out.step hi2 hs2)
 replace hi2 := hid hi2
 replace hs2 := hid hs2
 obtain ⟨p3, hp3⟩ : ∃ x, x = (Slot.ri p2 m2 .perm).1 := ⟨_, rfl⟩
 obtain ⟨m3, hm3⟩ : ∃ x, x = (Slot.ri p2 m2 .perm).2 := ⟨_, rfl⟩
 have hn3 := hid (show m3.names = [] by rw [hm3]; exact hn2.out)
 have hq3 := hid (show m3.qids = [] by rw [hm3]; exact hq2.out)
 have c2 : x2.cell? ⟨w.heap.size, 18, none⟩ = some (.int .u32 (m2.perm : Int)) := hX2.out.cell 18
 have f2 : x2.frozen? ⟨w.heap.size, 18, none⟩ = false := hX2.out.free 18
 obtain ⟨w3, hW3⟩ : ∃ W, W = x2.setCell ⟨w.heap.size, 18, none⟩ (.int .u32 (tv 4 p2 : Int)) := ⟨_, rfl⟩
 have hA3 := hid (show RIA w w3 b w.heap.size m3 (.slice none 0 0) (.slice none 0 0) p3 by rw [hW3, hm3, hp3]; exact hX2.out.set 18 _ rfl rfl rfl)
 replace hp3 := hid hp3
 replace hm3 := hid hm3
 go_wp2_with (rw [← hW3]; replace hW3 := hid hW3)
 try (rw [← hW3]; replace hW3 := hid hW3)
 clear c2 f2 hX2 hA2
 have hv3 := tv_lt 1 p3 (by omega)
 have cv3 : IntKind.u8.wrap (tv 1 p3 : Int) = (tv 1 p3 : Int) := IntWalk.u8_in _ (by omega)
 replace hv3 := hid hv3
 refine (rtake_at b 1 p3 w3 (by omega) (by omega) hA3.out.inn).mono ?_
 rintro en x3 ⟨rfl, hi3, hs3⟩
 have hX3 := hid (hA3.out.step hi3 hs3)
 replace hi3 := hid hi3
 replace hs3 := hid hs3
 obtain ⟨p4, hp4⟩ : ∃ x, x = (Slot.ri p3 m3 .mode).1 := ⟨_, rfl⟩
 obtain ⟨m4, hm4⟩ : ∃ x, x = (Slot.ri p3 m3 .mode).2 := ⟨_, rfl⟩
 have hn4 := hid (show m4.names = [] by rw [hm4]; exact hn3.out)
 have hq4 := hid (show m4.qids = [] by rw [hm4]; exact hq3.out)
 have c3 : x3.cell? ⟨w.heap.size, 17, none⟩ = some (.int .u8 (m3.mode : Int)) := hX3.out.cell 17
 have f3 : x3.frozen? ⟨w.heap.size, 17, none⟩ = false := hX3.out.free 17
 obtain ⟨w4, hW4⟩ : ∃ W, W = x3.setCell ⟨w.heap.size, 17, none⟩ (.int .u8 (tv 1 p3 : Int)) := ⟨_, rfl⟩
 have hA4 := hid (show RIA w w4 b w.heap.size m4 (.slice none 0 0) (.slice none 0 0) p4 by rw [hW4, hm4, hp4]; exact hX3.out.set 17 _ rfl rfl rfl)
 replace hp4 := hid hp4
 replace hm4 := hid hm4
 go_upto_region 69 with (rw [← hW4]; replace hW4 := hid hW4)
 try (rw [← hW4]; replace hW4 := hid hW4)
 clear c3 f3 hX3 hA3
 have hblk := hid hA4.out.blk
 have hres := hid hA4.out.res
 go_wp2_with (first
  | (refine wpList_load_row (by rfl) 46 (.tmp 3) (by rfl) w.heap.size (by rfl) 46 (m4.rcells (.slice none 0 0) (.slice none 0 0) (strL m4.data)) (0, 0) _ hblk.out Tryz.underlying46 (by rfl) (by kernel_rfl) ?_)
  | (refine wpList_store_row (by rfl) 46 (.tmp 4) (.tmp 201) (by rfl) (w.heap.size + 1) (m4.rcells (.slice none 0 0) (.slice none 0 0) (strL m4.data)) (by rfl) (by rfl) 46 _ hres.out (by kernel_rfl) (by kernel_rfl) (by kernel_rfl) ?_))
 refine bodyPost_ret (results_cell_row rfl _ _ (w.heap.size + 1) _ _ _ _ rfl (setRow_heap _ _ _ _ _ _ hres.out) Tryz.underlying46 rfl (by kernel_rfl)) rfl ?_
 have hfin : rins ([.fid, .name, .perm, .mode] : List Slot) p m = (p4, m4) := by
  rw [← hp0.out, ← hm0.out]
  simp only [rins]
  rw [← hp1.out, ← hm1.out]
  rw [← hp2.out, ← hm2.out]
  rw [← hp3.out, ← hm3.out]
  rw [← hp4.out, ← hm4.out]
 rw [hfin]
 exact hA4.out.done

set_option maxHeartbeats 3200000 in
theorem rfill_115 (b : Nat) (p : List UInt8 × Nat) (m : M) (w : World) (ht : m.ty = 115) (hN : m.names = []) (hQ : m.qids = []) (h : RInAt w b p) :
  Calls Tryz.prog 37 #[.pointer (some ⟨b, 0, none⟩), .agg (m.rcells (.slice none 0 0) (.slice none 0 0) (strL m.data))] w (RFillPost w b (rins ([.qid, .iounit] : List Slot) p m)) := by
 obtain ⟨w0, hW0⟩ : ∃ W, W = (w.alloc (.cells (m.rcells (.slice none 0 0) (.slice none 0 0) (strL m.data)) 46)).alloc (.cells zeroR 46) := ⟨_, rfl⟩
 have hA0 := hid (show RIA w w0 b w.heap.size m (.slice none 0 0) (.slice none 0 0) p by rw [hW0]; exact RIA.start hN hQ h)
 have ct : w0.cell? ⟨w.heap.size, 0, none⟩ = some (.int .u8 115) := by rw [hA0.out.cell 0]; show some (Value.int .u8 (m.ty : Int)) = _; rw [ht]; rfl
 obtain ⟨p0, hp0⟩ : ∃ x, x = p := ⟨_, rfl⟩
 obtain ⟨m0, hm0⟩ : ∃ x, x = m := ⟨_, rfl⟩
 have hn0 := hid (show m0.names = [] by rw [hm0]; exact hN)
 have hq0 := hid (show m0.qids = [] by rw [hm0]; exact hQ)
 rw [← hp0, ← hm0] at hA0
 rw [zeroR_lit] at hW0
 simp only [M.rcells, M.cells] at hW0 ⊢
 replace hp0 := hid hp0
 replace hm0 := hid hm0
 replace hN := hid hN
 replace hQ := hid hQ
 replace h := hid h
 clear ht
 go_enter Tryz.func37, Tryz.ntmps37
 go_wp2_with (rw [← hW0]; replace hW0 := hid hW0)
 try (rw [← hW0]; replace hW0 := hid hW0)
 clear ct
 refine (rqid_any b p0 w0 hA0.out.inn).mono ?_
 rintro en x0 ⟨rfl, hi0, hs0⟩
 have hX0 := hid (hA0.out.step hi0 hs0)
 replace hi0 := hid hi0
 replace hs0 := hid hs0
 obtain ⟨p1, hp1⟩ : ∃ x, x = (Slot.ri p0 m0 .qid).1 := ⟨_, rfl⟩
 obtain ⟨m1, hm1⟩ : ∃ x, x = (Slot.ri p0 m0 .qid).2 := ⟨_, rfl⟩
 have hn1 := hid (show m1.names = [] by rw [hm1]; exact hn0.out)
 have hq1 := hid (show m1.qids = [] by rw [hm1]; exact hq0.out)
 obtain ⟨w1, hW1⟩ : ∃ W, W = x0.setCells w.heap.size 13 [.int .u8 (qvT p0 : Int), .int .u32 (qvV p0 : Int), .int .u64 (qvP p0 : Int)] := ⟨_, rfl⟩
 have hA1 := hid (show RIA w w1 b w.heap.size m1 (.slice none 0 0) (.slice none 0 0) p1 by rw [hW1, hm1, hp1]; exact hX0.out.sets 13 _ (sets_qid m0 _ _ _ (qvR p0)) rfl rfl)
 have ht0 := hid (hX0.out.there 13 3 (by omega))
 replace hp1 := hid hp1
 replace hm1 := hid hm1
 go_wp2_with (first
  | (refine wpList_store_mid (by rfl) 42 (.tmp 121) (.tmp 120) (by rfl) w.heap.size 13 #[.int .u8 (qvT p0 : Int), .int .u32 (qvV p0 : Int), .int .u64 (qvP p0 : Int)] (by rfl) (by rfl) ht0.out (by kernel_rfl) (by kernel_rfl) ?_)
  | (rw [← hW1]; replace hW1 := hid hW1))
 try (rw [← hW1]; replace hW1 := hid hW1)
 clear ht0 hX0 hA0
 have hv1 := tv_lt 4 p1 (by omega)
 have cv1 : IntKind.u32.wrap (tv 4 p1 : Int) = (tv 4 p1 : Int) := IntWalk.u32_in _ (by omega)
 replace hv1 := hid hv1
 refine (rtake_at b 4 p1 w1 (by omega) (by omega) hA1.out.inn).mono ?_
 rintro en x1 ⟨rfl, hi1, hs1⟩
 have hX1 := hid (hA1.out.step hi1 hs1)
 replace hi1 := hid hi1
 replace hs1 := hid hs1
 obtain ⟨p2, hp2⟩ : ∃ x, x = (Slot.ri p1 m1 .iounit).1 := ⟨_, rfl⟩
 obtain ⟨m2, hm2⟩ : ∃ x, x = (Slot.ri p1 m1 .iounit).2 := ⟨_, rfl⟩
 have hn2 := hid (show m2.names = [] by rw [hm2]; exact hn1.out)
 have hq2 := hid (show m2.qids = [] by rw [hm2]; exact hq1.out)
 have c1 : x1.cell? ⟨w.heap.size, 16, none⟩ = some (.int .u32 (m1.iounit : Int)) := hX1.out.cell 16
 have f1 : x1.frozen? ⟨w.heap.size, 16, none⟩ = false := hX1.out.free 16
 obtain ⟨w2, hW2⟩ : ∃ W, W = x1.setCell ⟨w.heap.size, 16, none⟩ (.int .u32 (tv 4 p1 : Int)) := ⟨_, rfl⟩
 have hA2 := hid (show RIA w w2 b w.heap.size m2 (.slice none 0 0) (.slice none 0 0) p2 by rw [hW2, hm2, hp2]; exact hX1.out.set 16 _ rfl rfl rfl)
 replace hp2 := hid hp2
 replace hm2 := hid hm2
 go_upto_region 69 with (rw [← hW2]; replace hW2 := hid hW2)
 try (rw [← hW2]; replace hW2 := hid hW2)
 clear c1 f1 hX1 hA1
 have hblk := hid hA2.out.blk
 have hres := hid hA2.out.res
 go_wp2_with (first
  | (refine wpList_load_row (by rfl) 46 (.tmp 3) (by rfl) w.heap.size (by rfl) 46 (m2.rcells (.slice none 0 0) (.slice none 0 0) (strL m2.data)) (0, 0) _ hblk.out Tryz.underlying46 (by rfl) (by kernel_rfl) ?_)
  | (refine wpList_store_row (by rfl) 46 (.tmp 4) (.tmp 201) (by rfl) (w.heap.size + 1) (m2.rcells (.slice none 0 0) (.slice none 0 0) (strL m2.data)) (by rfl) (by rfl) 46 _ hres.out (by kernel_rfl) (by kernel_rfl) (by kernel_rfl) ?_))
 refine bodyPost_ret (results_cell_row rfl _ _ (w.heap.size + 1) _ _ _ _ rfl (setRow_heap _ _ _ _ _ _ hres.out) Tryz.underlying46 rfl (by kernel_rfl)) rfl ?_
 have hfin : rins ([.qid, .iounit] : List Slot) p m = (p2, m2) := by
  rw [← hp0.out, ← hm0.out]
  simp only [rins]
  rw [← hp1.out, ← hm1.out]
  rw [← hp2.out, ← hm2.out]
 rw [hfin]
 exact hA2.out.done

set_option maxHeartbeats 3200000 in
theorem rfill_116 (b : Nat) (p : List UInt8 × Nat) (m : M) (w : World) (ht : m.ty = 116) (hN : m.names = []) (hQ : m.qids = []) (h : RInAt w b p) :
  Calls Tryz.prog 37 #[.pointer (some ⟨b, 0, none⟩), .agg (m.rcells (.slice none 0 0) (.slice none 0 0) (strL m.data))] w (RFillPost w b (rins ([.fid, .offset, .count] : List Slot) p m)) := by
 obtain ⟨w0, hW0⟩ : ∃ W, W = (w.alloc (.cells (m.rcells (.slice none 0 0) (.slice none 0 0) (strL m.data)) 46)).alloc (.cells zeroR 46) := ⟨_, rfl⟩
 have hA0 := hid (show RIA w w0 b w.heap.size m (.slice none 0 0) (.slice none 0 0) p by rw [hW0]; exact RIA.start hN hQ h)
 have ct : w0.cell? ⟨w.heap.size, 0, none⟩ = some (.int .u8 116) := by rw [hA0.out.cell 0]; show some (Value.int .u8 (m.ty : Int)) = _; rw [ht]; rfl
 obtain ⟨p0, hp0⟩ : ∃ x, x = p := ⟨_, rfl⟩
 obtain ⟨m0, hm0⟩ : ∃ x, x = m := ⟨_, rfl⟩
 have hn0 := hid (show m0.names = [] by rw [hm0]; exact hN)
 have hq0 := hid (show m0.qids = [] by rw [hm0]; exact hQ)
 rw [← hp0, ← hm0] at hA0
 rw [zeroR_lit] at hW0
 simp only [M.rcells, M.cells] at hW0 ⊢
 replace hp0 := hid hp0
 replace hm0 := hid hm0
 replace hN := hid hN
 replace hQ := hid hQ
 replace h := hid h
 clear ht
 go_enter Tryz.func37, Tryz.ntmps37
 go_wp2_with (rw [← hW0]; replace hW0 := hid hW0)
 try (rw [← hW0]; replace hW0 := hid hW0)
 clear ct
 have hv0 := tv_lt 4 p0 (by omega)
 have cv0 : IntKind.u32.wrap (tv 4 p0 : Int) = (tv 4 p0 : Int) := IntWalk.u32_in _ (by omega)
 replace hv0 := hid hv0
 refine (rtake_at b 4 p0 w0 (by omega) (by omega) hA0.out.inn).mono ?_
 rintro en x0 ⟨rfl, hi0, hs0⟩
 have hX0 := hid (hA0.out.step hi0 hs0)
 replace hi0 := hid hi0
 replace hs0 := hid hs0
 obtain ⟨p1, hp1⟩ : ∃ x, x = (Slot.ri p0 m0 .fid).1 := ⟨_, rfl⟩
 obtain ⟨m1, hm1⟩ : ∃ x, x = (Slot.ri p0 m0 .fid).2 := ⟨_, rfl⟩
 have hn1 := hid (show m1.names = [] by rw [hm1]; exact hn0.out)
 have hq1 := hid (show m1.qids = [] by rw [hm1]; exact hq0.out)
 have c0 : x0.cell? ⟨w.heap.size, 4, none⟩ = some (.int .u32 (m0.fid : Int)) := hX0.out.cell 4
 have f0 : x0.frozen? ⟨w.heap.size, 4, none⟩ = false := hX0.out.free 4
 obtain ⟨w1, hW1⟩ : ∃ W, W = x0.setCell ⟨w.heap.size, 4, none⟩ (.int .u32 (tv 4 p0 : Int)) := ⟨_, rfl⟩
 have hA1 := hid (show RIA w w1 b w.heap.size m1 (.slice none 0 0) (.slice none 0 0) p1 by rw [hW1, hm1, hp1]; exact hX0.out.set 4 _ rfl rfl rfl)
 replace hp1 := hid hp1
 replace hm1 := hid hm1
 go_wp2_with (rw [← hW1]; replace hW1 := hid hW1)
 try (rw [← hW1]; replace hW1 := hid hW1)
 clear c0 f0 hX0 hA0
 have hv1 := tv_lt 8 p1 (by omega)
 replace hv1 := hid hv1
 refine (rtake_at b 8 p1 w1 (by omega) (by omega) hA1.out.inn).mono ?_
 rintro en x1 ⟨rfl, hi1, hs1⟩
 have hX1 := hid (hA1.out.step hi1 hs1)
 replace hi1 := hid hi1
 replace hs1 := hid hs1
 obtain ⟨p2, hp2⟩ : ∃ x, x = (Slot.ri p1 m1 .offset).1 := ⟨_, rfl⟩
 obtain ⟨m2, hm2⟩ : ∃ x, x = (Slot.ri p1 m1 .offset).2 := ⟨_, rfl⟩
 have hn2 := hid (show m2.names = [] by rw [hm2]; exact hn1.out)
 have hq2 := hid (show m2.qids = [] by rw [hm2]; exact hq1.out)
 have c1 : x1.cell? ⟨w.heap.size, 20, none⟩ = some (.int .u64 (m1.offset : Int)) := hX1.out.cell 20
 have f1 : x1.frozen? ⟨w.heap.size, 20, none⟩ = false := hX1.out.free 20
 obtain ⟨w2, hW2⟩ : ∃ W, W = x1.setCell ⟨w.heap.size, 20, none⟩ (.int .u64 (tv 8 p1 : Int)) := ⟨_, rfl⟩
 have hA2 := hid (show RIA w w2 b w.heap.size m2 (.slice none 0 0) (.slice none 0 0) p2 by rw [hW2, hm2, hp2]; exact hX1.out.set 20 _ rfl rfl rfl)
 replace hp2 := hid hp2
 replace hm2 := hid hm2
 go_wp2_with (rw [← hW2]; replace hW2 := hid hW2)
 try (rw [← hW2]; replace hW2 := hid hW2)
 clear c1 f1 hX1 hA1
 have hv2 := tv_lt 4 p2 (by omega)
 have cv2 : IntKind.u32.wrap (tv 4 p2 : Int) = (tv 4 p2 : Int) := IntWalk.u32_in _ (by omega)
 replace hv2 := hid hv2
 refine (rtake_at b 4 p2 w2 (by omega) (by omega) hA2.out.inn).mono ?_
 rintro en x2 ⟨rfl, hi2, hs2⟩
 have hX2 := hid (hA2.out.step hi2 hs2)
 replace hi2 := hid hi2
 replace hs2 := hid hs2
 obtain ⟨p3, hp3⟩ : ∃ x, x = (Slot.ri p2 m2 .count).1 := ⟨_, rfl⟩
 obtain ⟨m3, hm3⟩ : ∃ x, x = (Slot.ri p2 m2 .count).2 := ⟨_, rfl⟩
 have hn3 := hid (show m3.names = [] by rw [hm3]; exact hn2.out)
 have hq3 := hid (show m3.qids = [] by rw [hm3]; exact hq2.out)
 have c2 : x2.cell? ⟨w.heap.size, 21, none⟩ = some (.int .u32 (m2.count : Int)) := hX2.out.cell 21
 have f2 : x2.frozen? ⟨w.heap.size, 21, none⟩ = false := hX2.out.free 21
 obtain ⟨w3, hW3⟩ : ∃ W, W = x2.setCell ⟨w.heap.size, 21, none⟩ (.int .u32 (tv 4 p2 : Int)) := ⟨_, rfl⟩
 have hA3 := hid (show RIA w w3 b w.heap.size m3 (.slice none 0 0) (.slice none 0 0) p3 by rw [hW3, hm3, hp3]; exact hX2.out.set 21 _ rfl rfl rfl)
 replace hp3 := hid hp3
 replace hm3 := hid hm3
 go_upto_region 69 with (rw [← hW3]; replace hW3 := hid hW3)
 try (rw [← hW3]; replace hW3 := hid hW3)
 clear c2 f2 hX2 hA2
 have hblk := hid hA3.out.blk
 have hres := hid hA3.out.res
 go_wp2_with (first
  | (refine wpList_load_row (by rfl) 46 (.tmp 3) (by rfl) w.heap.size (by rfl) 46 (m3.rcells (.slice none 0 0) (.slice none 0 0) (strL m3.data)) (0, 0) _ hblk.out Tryz.underlying46 (by rfl) (by kernel_rfl) ?_)
  | (refine wpList_store_row (by rfl) 46 (.tmp 4) (.tmp 201) (by rfl) (w.heap.size + 1) (m3.rcells (.slice none 0 0) (.slice none 0 0) (strL m3.data)) (by rfl) (by rfl) 46 _ hres.out (by kernel_rfl) (by kernel_rfl) (by kernel_rfl) ?_))
 refine bodyPost_ret (results_cell_row rfl _ _ (w.heap.size + 1) _ _ _ _ rfl (setRow_heap _ _ _ _ _ _ hres.out) Tryz.underlying46 rfl (by kernel_rfl)) rfl ?_
 have hfin : rins ([.fid, .offset, .count] : List Slot) p m = (p3, m3) := by
  rw [← hp0.out, ← hm0.out]
  simp only [rins]
  rw [← hp1.out, ← hm1.out]
  rw [← hp2.out, ← hm2.out]
  rw [← hp3.out, ← hm3.out]
 rw [hfin]
 exact hA3.out.done

set_option maxHeartbeats 3200000 in
theorem rfill_117 (b : Nat) (p : List UInt8 × Nat) (m : M) (w : World) (ht : m.ty = 117) (hN : m.names = []) (hQ : m.qids = []) (h : RInAt w b p) :
  Calls Tryz.prog 37 #[.pointer (some ⟨b, 0, none⟩), .agg (m.rcells (.slice none 0 0) (.slice none 0 0) (strL m.data))] w (RFillPost w b (rins ([.data] : List Slot) p m)) := by
 obtain ⟨w0, hW0⟩ : ∃ W, W = (w.alloc (.cells (m.rcells (.slice none 0 0) (.slice none 0 0) (strL m.data)) 46)).alloc (.cells zeroR 46) := ⟨_, rfl⟩
 have hA0 := hid (show RIA w w0 b w.heap.size m (.slice none 0 0) (.slice none 0 0) p by rw [hW0]; exact RIA.start hN hQ h)
 have ct : w0.cell? ⟨w.heap.size, 0, none⟩ = some (.int .u8 117) := by rw [hA0.out.cell 0]; show some (Value.int .u8 (m.ty : Int)) = _; rw [ht]; rfl
 obtain ⟨p0, hp0⟩ : ∃ x, x = p := ⟨_, rfl⟩
 obtain ⟨m0, hm0⟩ : ∃ x, x = m := ⟨_, rfl⟩
 have hn0 := hid (show m0.names = [] by rw [hm0]; exact hN)
 have hq0 := hid (show m0.qids = [] by rw [hm0]; exact hQ)
 rw [← hp0, ← hm0] at hA0
 rw [zeroR_lit] at hW0
 simp only [M.rcells, M.cells] at hW0 ⊢
 replace hp0 := hid hp0
 replace hm0 := hid hm0
 replace hN := hid hN
 replace hQ := hid hQ
 replace h := hid h
 clear ht
 go_enter Tryz.func37, Tryz.ntmps37
 go_wp2_with (rw [← hW0]; replace hW0 := hid hW0)
 try (rw [← hW0]; replace hW0 := hid hW0)
 clear ct
 refine (rmdata_any b p0 w0 hA0.out.inn).mono ?_
 rintro en x0 ⟨rfl, hi0, hs0⟩
 have hX0 := hid (hA0.out.step hi0 hs0)
 replace hi0 := hid hi0
 replace hs0 := hid hs0
 obtain ⟨p1, hp1⟩ : ∃ x, x = (Slot.ri p0 m0 .data).1 := ⟨_, rfl⟩
 obtain ⟨m1, hm1⟩ : ∃ x, x = (Slot.ri p0 m0 .data).2 := ⟨_, rfl⟩
 have hn1 := hid (show m1.names = [] by rw [hm1]; exact hn0.out)
 have hq1 := hid (show m1.qids = [] by rw [hm1]; exact hq0.out)
 have c0 : x0.cell? ⟨w.heap.size, 22, none⟩ = some (.string (strL m0.data)) := hX0.out.cell 22
 have f0 : x0.frozen? ⟨w.heap.size, 22, none⟩ = false := hX0.out.free 22
 obtain ⟨w1, hW1⟩ : ∃ W, W = x0.setCell ⟨w.heap.size, 22, none⟩ (.string (strL (mdB p0))) := ⟨_, rfl⟩
 have hA1 := hid (show RIA w w1 b w.heap.size m1 (.slice none 0 0) (.slice none 0 0) p1 by rw [hW1, hm1, hp1]; exact hX0.out.set 22 _ rfl rfl rfl)
 replace hp1 := hid hp1
 replace hm1 := hid hm1
 go_upto_region 69 with (rw [← hW1]; replace hW1 := hid hW1)
 try (rw [← hW1]; replace hW1 := hid hW1)
 clear c0 f0 hX0 hA0
 have hblk := hid hA1.out.blk
 have hres := hid hA1.out.res
 go_wp2_with (first
  | (refine wpList_load_row (by rfl) 46 (.tmp 3) (by rfl) w.heap.size (by rfl) 46 (m1.rcells (.slice none 0 0) (.slice none 0 0) (strL m1.data)) (0, 0) _ hblk.out Tryz.underlying46 (by rfl) (by kernel_rfl) ?_)
  | (refine wpList_store_row (by rfl) 46 (.tmp 4) (.tmp 201) (by rfl) (w.heap.size + 1) (m1.rcells (.slice none 0 0) (.slice none 0 0) (strL m1.data)) (by rfl) (by rfl) 46 _ hres.out (by kernel_rfl) (by kernel_rfl) (by kernel_rfl) ?_))
 refine bodyPost_ret (results_cell_row rfl _ _ (w.heap.size + 1) _ _ _ _ rfl (setRow_heap _ _ _ _ _ _ hres.out) Tryz.underlying46 rfl (by kernel_rfl)) rfl ?_
 have hfin : rins ([.data] : List Slot) p m = (p1, m1) := by
  rw [← hp0.out, ← hm0.out]
  simp only [rins]
  rw [← hp1.out, ← hm1.out]
 rw [hfin]
 exact hA1.out.done

set_option maxHeartbeats 3200000 in
theorem rfill_118 (b : Nat) (p : List UInt8 × Nat) (m : M) (w : World) (ht : m.ty = 118) (hN : m.names = []) (hQ : m.qids = []) (h : RInAt w b p) :
  Calls Tryz.prog 37 #[.pointer (some ⟨b, 0, none⟩), .agg (m.rcells (.slice none 0 0) (.slice none 0 0) (strL m.data))] w (RFillPost w b (rins ([.fid, .offset, .data] : List Slot) p m)) := by
 obtain ⟨w0, hW0⟩ : ∃ W, W = (w.alloc (.cells (m.rcells (.slice none 0 0) (.slice none 0 0) (strL m.data)) 46)).alloc (.cells zeroR 46) := ⟨_, rfl⟩
 have hA0 := hid (show RIA w w0 b w.heap.size m (.slice none 0 0) (.slice none 0 0) p by rw [hW0]; exact RIA.start hN hQ h)
 have ct : w0.cell? ⟨w.heap.size, 0, none⟩ = some (.int .u8 118) := by rw [hA0.out.cell 0]; show some (Value.int .u8 (m.ty : Int)) = _; rw [ht]; rfl
 obtain ⟨p0, hp0⟩ : ∃ x, x = p := ⟨_, rfl⟩
 obtain ⟨m0, hm0⟩ : ∃ x, x = m := ⟨_, rfl⟩
 have hn0 := hid (show m0.names = [] by rw [hm0]; exact hN)
 have hq0 := hid (show m0.qids = [] by rw [hm0]; exact hQ)
 rw [← hp0, ← hm0] at hA0
 rw [zeroR_lit] at hW0
 simp only [M.rcells, M.cells] at hW0 ⊢
 replace hp0 := hid hp0
 replace hm0 := hid hm0
 replace hN := hid hN
 replace hQ := hid hQ
 replace h := hid h
 clear ht
 go_enter Tryz.func37, Tryz.ntmps37
 go_wp2_with (rw [← hW0]; replace hW0 := hid hW0)
 try (rw [← hW0]; replace hW0 := hid hW0)
 clear ct
 have hv0 := tv_lt 4 p0 (by omega)
 have cv0 : IntKind.u32.wrap (tv 4 p0 : Int) = (tv 4 p0 : Int) := IntWalk.u32_in _ (by omega)
 replace hv0 := hid hv0
 refine (rtake_at b 4 p0 w0 (by omega) (by omega) hA0.out.inn).mono ?_
 rintro en x0 ⟨rfl, hi0, hs0⟩
 have hX0 := hid (hA0.out.step hi0 hs0)
 replace hi0 := hid hi0
 replace hs0 := hid hs0
 obtain ⟨p1, hp1⟩ : ∃ x, x = (Slot.ri p0 m0 .fid).1 := ⟨_, rfl⟩
 obtain ⟨m1, hm1⟩ : ∃ x, x = (Slot.ri p0 m0 .fid).2 := ⟨_, rfl⟩
 have hn1 := hid (show m1.names = [] by rw [hm1]; exact hn0.out)
 have hq1 := hid (show m1.qids = [] by rw [hm1]; exact hq0.out)
 have c0 : x0.cell? ⟨w.heap.size, 4, none⟩ = some (.int .u32 (m0.fid : Int)) := hX0.out.cell 4
 have f0 : x0.frozen? ⟨w.heap.size, 4, none⟩ = false := hX0.out.free 4
 obtain ⟨w1, hW1⟩ : ∃ W, W = x0.setCell ⟨w.heap.size, 4, none⟩ (.int .u32 (tv 4 p0 : Int)) := ⟨_, rfl⟩
 have hA1 := hid (show RIA w w1 b w.heap.size m1 (.slice none 0 0) (.slice none 0 0) p1 by rw [hW1, hm1, hp1]; exact hX0.out.set 4 _ rfl rfl rfl)
 replace hp1 := hid hp1
 replace hm1 := hid hm1
 go_wp2_with (rw [← hW1]; replace hW1 := hid hW1)
 try (rw [← hW1]; replace hW1 := hid hW1)
 clear c0 f0 hX0 hA0
 have hv1 := tv_lt 8 p1 (by omega)
 replace hv1 := hid hv1
 refine (rtake_at b 8 p1 w1 (by omega) (by omega) hA1.out.inn).mono ?_
 rintro en x1 ⟨rfl, hi1, hs1⟩
 have hX1 := hid (hA1.out.step hi1 hs1)
 replace hi1 := hid hi1
 replace hs1 := hid hs1
 obtain ⟨p2, hp2⟩ : ∃ x, x = (Slot.ri p1 m1 .offset).1 := ⟨_, rfl⟩
 obtain ⟨m2, hm2⟩ : ∃ x, x = (Slot.ri p1 m1 .offset).2 := ⟨_, rfl⟩
 have hn2 := hid (show m2.names = [] by rw [hm2]; exact hn1.out)
 have hq2 := hid (show m2.qids = [] by rw [hm2]; exact hq1.out)
 have c1 : x1.cell? ⟨w.heap.size, 20, none⟩ = some (.int .u64 (m1.offset : Int)) := hX1.out.cell 20
 have f1 : x1.frozen? ⟨w.heap.size, 20, none⟩ = false := hX1.out.free 20
 obtain ⟨w2, hW2⟩ : ∃ W, W = x1.setCell ⟨w.heap.size, 20, none⟩ (.int .u64 (tv 8 p1 : Int)) := ⟨_, rfl⟩
 have hA2 := hid (show RIA w w2 b w.heap.size m2 (.slice none 0 0) (.slice none 0 0) p2 by rw [hW2, hm2, hp2]; exact hX1.out.set 20 _ rfl rfl rfl)
 replace hp2 := hid hp2
 replace hm2 := hid hm2
 go_wp2_with (rw [← hW2]; replace hW2 := hid hW2)
 try (rw [← hW2]; replace hW2 := hid hW2)
 clear c1 f1 hX1 hA1
 refine (rmdata_any b p2 w2 hA2.out.inn).mono ?_
 rintro en x2 ⟨rfl, hi2, hs2⟩
 have hX2 := hid (hA2.out.step hi2 hs2)
 replace hi2 := hid hi2
 replace hs2 := hid hs2
 obtain ⟨p3, hp3⟩ : ∃ x, x = (Slot.ri p2 m2 .data).1 := ⟨_, rfl⟩
 obtain ⟨m3, hm3⟩ : ∃ x, x = (Slot.ri p2 m2 .data).2 := ⟨_, rfl⟩
 have hn3 := hid (show m3.names = [] by rw [hm3]; exact hn2.out)
 have hq3 := hid (show m3.qids = [] by rw [hm3]; exact hq2.out)
 have c2 : x2.cell? ⟨w.heap.size, 22, none⟩ = some (.string (strL m2.data)) := hX2.out.cell 22
 have f2 : x2.frozen? ⟨w.heap.size, 22, none⟩ = false := hX2.out.free 22
 obtain ⟨w3, hW3⟩ : ∃ W, W = x2.setCell ⟨w.heap.size, 22, none⟩ (.string (strL (mdB p2))) := ⟨_, rfl⟩
 have hA3 := hid (show RIA w w3 b w.heap.size m3 (.slice none 0 0) (.slice none 0 0) p3 by rw [hW3, hm3, hp3]; exact hX2.out.set 22 _ rfl rfl rfl)
 replace hp3 := hid hp3
 replace hm3 := hid hm3
 go_upto_region 69 with (rw [← hW3]; replace hW3 := hid hW3)
 try (rw [← hW3]; replace hW3 := hid hW3)
 clear c2 f2 hX2 hA2
 have hblk := hid hA3.out.blk
 have hres := hid hA3.out.res
 go_wp2_with (first
  | (refine wpList_load_row (by rfl) 46 (.tmp 3) (by rfl) w.heap.size (by rfl) 46 (m3.rcells (.slice none 0 0) (.slice none 0 0) (strL m3.data)) (0, 0) _ hblk.out Tryz.underlying46 (by rfl) (by kernel_rfl) ?_)
  | (refine wpList_store_row (by rfl) 46 (.tmp 4) (.tmp 201) (by rfl) (w.heap.size + 1) (m3.rcells (.slice none 0 0) (.slice none 0 0) (strL m3.data)) (by rfl) (by rfl) 46 _ hres.out (by kernel_rfl) (by kernel_rfl) (by kernel_rfl) ?_))
 refine bodyPost_ret (results_cell_row rfl _ _ (w.heap.size + 1) _ _ _ _ rfl (setRow_heap _ _ _ _ _ _ hres.out) Tryz.underlying46 rfl (by kernel_rfl)) rfl ?_
 have hfin : rins ([.fid, .offset, .data] : List Slot) p m = (p3, m3) := by
  rw [← hp0.out, ← hm0.out]
  simp only [rins]
  rw [← hp1.out, ← hm1.out]
  rw [← hp2.out, ← hm2.out]
  rw [← hp3.out, ← hm3.out]
 rw [hfin]
 exact hA3.out.done

set_option maxHeartbeats 3200000 in
theorem rfill_119 (b : Nat) (p : List UInt8 × Nat) (m : M) (w : World) (ht : m.ty = 119) (hN : m.names = []) (hQ : m.qids = []) (h : RInAt w b p) :
  Calls Tryz.prog 37 #[.pointer (some ⟨b, 0, none⟩), .agg (m.rcells (.slice none 0 0) (.slice none 0 0) (strL m.data))] w (RFillPost w b (rins ([.count] : List Slot) p m)) := by
 obtain ⟨w0, hW0⟩ : ∃ W, W = (w.alloc (.cells (m.rcells (.slice none 0 0) (.slice none 0 0) (strL m.data)) 46)).alloc (.cells zeroR 46) := ⟨_, rfl⟩
 have hA0 := hid (show RIA w w0 b w.heap.size m (.slice none 0 0) (.slice none 0 0) p by rw [hW0]; exact RIA.start hN hQ h)
 have ct : w0.cell? ⟨w.heap.size, 0, none⟩ = some (.int .u8 119) := by rw [hA0.out.cell 0]; show some (Value.int .u8 (m.ty : Int)) = _; rw [ht]; rfl
 obtain ⟨p0, hp0⟩ : ∃ x, x = p := ⟨_, rfl⟩
 obtain ⟨m0, hm0⟩ : ∃ x, x = m := ⟨_, rfl⟩
 have hn0 := hid (show m0.names = [] by rw [hm0]; exact hN)
 have hq0 := hid (show m0.qids = [] by rw [hm0]; exact hQ)
 rw [← hp0, ← hm0] at hA0
 rw [zeroR_lit] at hW0
 simp only [M.rcells, M.cells] at hW0 ⊢
 replace hp0 := hid hp0
 replace hm0 := hid hm0
 replace hN := hid hN
 replace hQ := hid hQ
 replace h := hid h
 clear ht
 go_enter Tryz.func37, Tryz.ntmps37
 go_wp2_with (rw [← hW0]; replace hW0 := hid hW0)
 try (rw [← hW0]; replace hW0 := hid hW0)
 clear ct
 have hv0 := tv_lt 4 p0 (by omega)
 have cv0 : IntKind.u32.wrap (tv 4 p0 : Int) = (tv 4 p0 : Int) := IntWalk.u32_in _ (by omega)
 replace hv0 := hid hv0
 refine (rtake_at b 4 p0 w0 (by omega) (by omega) hA0.out.inn).mono ?_
 rintro en x0 ⟨rfl, hi0, hs0⟩
 have hX0 := hid (hA0.out.step hi0 hs0)
 replace hi0 := hid hi0
 replace hs0 := hid hs0
 obtain ⟨p1, hp1⟩ : ∃ x, x = (Slot.ri p0 m0 .count).1 := ⟨_, rfl⟩
 obtain ⟨m1, hm1⟩ : ∃ x, x = (Slot.ri p0 m0 .count).2 := ⟨_, rfl⟩
 have hn1 := hid (show m1.names = [] by rw [hm1]; exact hn0.out)
 have hq1 := hid (show m1.qids = [] by rw [hm1]; exact hq0.out)
 have c0 : x0.cell? ⟨w.heap.size, 21, none⟩ = some (.int .u32 (m0.count : Int)) := hX0.out.cell 21
 have f0 : x0.frozen? ⟨w.heap.size, 21, none⟩ = false := hX0.out.free 21
 obtain ⟨w1, hW1⟩ : ∃ W, W = x0.setCell ⟨w.heap.size, 21, none⟩ (.int .u32 (tv 4 p0 : Int)) := ⟨_, rfl⟩
 have hA1 := hid (show RIA w w1 b w.heap.size m1 (.slice none 0 0) (.slice none 0 0) p1 by rw [hW1, hm1, hp1]; exact hX0.out.set 21 _ rfl rfl rfl)
 replace hp1 := hid hp1
 replace hm1 := hid hm1
 go_upto_region 69 with (rw [← hW1]; replace hW1 := hid hW1)
 try (rw [← hW1]; replace hW1 := hid hW1)
 clear c0 f0 hX0 hA0
 have hblk := hid hA1.out.blk
 have hres := hid hA1.out.res
 go_wp2_with (first
  | (refine wpList_load_row (by rfl) 46 (.tmp 3) (by rfl) w.heap.size (by rfl) 46 (m1.rcells (.slice none 0 0) (.slice none 0 0) (strL m1.data)) (0, 0) _ hblk.out Tryz.underlying46 (by rfl) (by kernel_rfl) ?_)
  | (refine wpList_store_row (by rfl) 46 (.tmp 4) (.tmp 201) (by rfl) (w.heap.size + 1) (m1.rcells (.slice none 0 0) (.slice none 0 0) (strL m1.data)) (by rfl) (by rfl) 46 _ hres.out (by kernel_rfl) (by kernel_rfl) (by kernel_rfl) ?_))
 refine bodyPost_ret (results_cell_row rfl _ _ (w.heap.size + 1) _ _ _ _ rfl (setRow_heap _ _ _ _ _ _ hres.out) Tryz.underlying46 rfl (by kernel_rfl)) rfl ?_
 have hfin : rins ([.count] : List Slot) p m = (p1, m1) := by
  rw [← hp0.out, ← hm0.out]
  simp only [rins]
  rw [← hp1.out, ← hm1.out]
 rw [hfin]
 exact hA1.out.done

set_option maxHeartbeats 3200000 in
theorem rfill_120 (b : Nat) (p : List UInt8 × Nat) (m : M) (w : World) (ht : m.ty = 120) (hN : m.names = []) (hQ : m.qids = []) (h : RInAt w b p) :
  Calls Tryz.prog 37 #[.pointer (some ⟨b, 0, none⟩), .agg (m.rcells (.slice none 0 0) (.slice none 0 0) (strL m.data))] w (RFillPost w b (rins ([.fid] : List Slot) p m)) := by
 obtain ⟨w0, hW0⟩ : ∃ W, W = (w.alloc (.cells (m.rcells (.slice none 0 0) (.slice none 0 0) (strL m.data)) 46)).alloc (.cells zeroR 46) := ⟨_, rfl⟩
 have hA0 := hid (show RIA w w0 b w.heap.size m (.slice none 0 0) (.slice none 0 0) p by rw [hW0]; exact RIA.start hN hQ h)
 have ct : w0.cell? ⟨w.heap.size, 0, none⟩ = some (.int .u8 120) := by rw [hA0.out.cell 0]; show some (Value.int .u8 (m.ty : Int)) = _; rw [ht]; rfl
 obtain ⟨p0, hp0⟩ : ∃ x, x = p := ⟨_, rfl⟩
 obtain ⟨m0, hm0⟩ : ∃ x, x = m := ⟨_, rfl⟩
 have hn0 := hid (show m0.names = [] by rw [hm0]; exact hN)
 have hq0 := hid (show m0.qids = [] by rw [hm0]; exact hQ)
 rw [← hp0, ← hm0] at hA0
 rw [zeroR_lit] at hW0
 simp only [M.rcells, M.cells] at hW0 ⊢
 replace hp0 := hid hp0
 replace hm0 := hid hm0
 replace hN := hid hN
 replace hQ := hid hQ
 replace h := hid h
 clear ht
 go_enter Tryz.func37, Tryz.ntmps37
 go_wp2_with (rw [← hW0]; replace hW0 := hid hW0)
 try (rw [← hW0]; replace hW0 := hid hW0)
 clear ct
 have hv0 := tv_lt 4 p0 (by omega)
 have cv0 : IntKind.u32.wrap (tv 4 p0 : Int) = (tv 4 p0 : Int) := IntWalk.u32_in _ (by omega)
 replace hv0 := hid hv0
 refine (rtake_at b 4 p0 w0 (by omega) (by omega) hA0.out.inn).mono ?_
 rintro en x0 ⟨rfl, hi0, hs0⟩
 have hX0 := hid (hA0.out.step hi0 hs0)
 replace hi0 := hid hi0
 replace hs0 := hid hs0
 obtain ⟨p1, hp1⟩ : ∃ x, x = (Slot.ri p0 m0 .fid).1 := ⟨_, rfl⟩
 obtain ⟨m1, hm1⟩ : ∃ x, x = (Slot.ri p0 m0 .fid).2 := ⟨_, rfl⟩
 have hn1 := hid (show m1.names = [] by rw [hm1]; exact hn0.out)
 have hq1 := hid (show m1.qids = [] by rw [hm1]; exact hq0.out)
 have c0 : x0.cell? ⟨w.heap.size, 4, none⟩ = some (.int .u32 (m0.fid : Int)) := hX0.out.cell 4
 have f0 : x0.frozen? ⟨w.heap.size, 4, none⟩ = false := hX0.out.free 4
 obtain ⟨w1, hW1⟩ : ∃ W, W = x0.setCell ⟨w.heap.size, 4, none⟩ (.int .u32 (tv 4 p0 : Int)) := ⟨_, rfl⟩
 have hA1 := hid (show RIA w w1 b w.heap.size m1 (.slice none 0 0) (.slice none 0 0) p1 by rw [hW1, hm1, hp1]; exact hX0.out.set 4 _ rfl rfl rfl)
 replace hp1 := hid hp1
 replace hm1 := hid hm1
 go_upto_region 69 with (rw [← hW1]; replace hW1 := hid hW1)
 try (rw [← hW1]; replace hW1 := hid hW1)
 clear c0 f0 hX0 hA0
 have hblk := hid hA1.out.blk
 have hres := hid hA1.out.res
 go_wp2_with (first
  | (refine wpList_load_row (by rfl) 46 (.tmp 3) (by rfl) w.heap.size (by rfl) 46 (m1.rcells (.slice none 0 0) (.slice none 0 0) (strL m1.data)) (0, 0) _ hblk.out Tryz.underlying46 (by rfl) (by kernel_rfl) ?_)
  | (refine wpList_store_row (by rfl) 46 (.tmp 4) (.tmp 201) (by rfl) (w.heap.size + 1) (m1.rcells (.slice none 0 0) (.slice none 0 0) (strL m1.data)) (by rfl) (by rfl) 46 _ hres.out (by kernel_rfl) (by kernel_rfl) (by kernel_rfl) ?_))
 refine bodyPost_ret (results_cell_row rfl _ _ (w.heap.size + 1) _ _ _ _ rfl (setRow_heap _ _ _ _ _ _ hres.out) Tryz.underlying46 rfl (by kernel_rfl)) rfl ?_
 have hfin : rins ([.fid] : List Slot) p m = (p1, m1) := by
  rw [← hp0.out, ← hm0.out]
  simp only [rins]
  rw [← hp1.out, ← hm1.out]
 rw [hfin]
 exact hA1.out.done

set_option maxHeartbeats 3200000 in
theorem rfill_121 (b : Nat) (p : List UInt8 × Nat) (m : M) (w : World) (ht : m.ty = 121) (hN : m.names = []) (hQ : m.qids = []) (h : RInAt w b p) :
  Calls Tryz.prog 37 #[.pointer (some ⟨b, 0, none⟩), .agg (m.rcells (.slice none 0 0) (.slice none 0 0) (strL m.data))] w (RFillPost w b (rins ([] : List Slot) p m)) := by
 obtain ⟨w0, hW0⟩ : ∃ W, W = (w.alloc (.cells (m.rcells (.slice none 0 0) (.slice none 0 0) (strL m.data)) 46)).alloc (.cells zeroR 46) := ⟨_, rfl⟩
 have hA0 := hid (show RIA w w0 b w.heap.size m (.slice none 0 0) (.slice none 0 0) p by rw [hW0]; exact RIA.start hN hQ h)
 have ct : w0.cell? ⟨w.heap.size, 0, none⟩ = some (.int .u8 121) := by rw [hA0.out.cell 0]; show some (Value.int .u8 (m.ty : Int)) = _; rw [ht]; rfl
 obtain ⟨p0, hp0⟩ : ∃ x, x = p := ⟨_, rfl⟩
 obtain ⟨m0, hm0⟩ : ∃ x, x = m := ⟨_, rfl⟩
 have hn0 := hid (show m0.names = [] by rw [hm0]; exact hN)
 have hq0 := hid (show m0.qids = [] by rw [hm0]; exact hQ)
 rw [← hp0, ← hm0] at hA0
 rw [zeroR_lit] at hW0
 simp only [M.rcells, M.cells] at hW0 ⊢
 replace hp0 := hid hp0
 replace hm0 := hid hm0
 replace hN := hid hN
 replace hQ := hid hQ
 replace h := hid h
 clear ht
 go_enter Tryz.func37, Tryz.ntmps37
 go_upto_region 69 with (rw [← hW0]; replace hW0 := hid hW0)
 try (rw [← hW0]; replace hW0 := hid hW0)
 clear ct
 have hblk := hid hA0.out.blk
 have hres := hid hA0.out.res
 go_wp2_with (first
  | (refine wpList_load_row (by rfl) 46 (.tmp 3) (by rfl) w.heap.size (by rfl) 46 (m0.rcells (.slice none 0 0) (.slice none 0 0) (strL m0.data)) (0, 0) _ hblk.out Tryz.underlying46 (by rfl) (by kernel_rfl) ?_)
  | (refine wpList_store_row (by rfl) 46 (.tmp 4) (.tmp 201) (by rfl) (w.heap.size + 1) (m0.rcells (.slice none 0 0) (.slice none 0 0) (strL m0.data)) (by rfl) (by rfl) 46 _ hres.out (by kernel_rfl) (by kernel_rfl) (by kernel_rfl) ?_))
 refine bodyPost_ret (results_cell_row rfl _ _ (w.heap.size + 1) _ _ _ _ rfl (setRow_heap _ _ _ _ _ _ hres.out) Tryz.underlying46 rfl (by kernel_rfl)) rfl ?_
 have hfin : rins ([] : List Slot) p m = (p0, m0) := by
  rw [← hp0.out, ← hm0.out]
  simp only [rins]
 rw [hfin]
 exact hA0.out.done

set_option maxHeartbeats 3200000 in
theorem rfill_122 (b : Nat) (p : List UInt8 × Nat) (m : M) (w : World) (ht : m.ty = 122) (hN : m.names = []) (hQ : m.qids = []) (h : RInAt w b p) :
  Calls Tryz.prog 37 #[.pointer (some ⟨b, 0, none⟩), .agg (m.rcells (.slice none 0 0) (.slice none 0 0) (strL m.data))] w (RFillPost w b (rins ([.fid] : List Slot) p m)) := by
 obtain ⟨w0, hW0⟩ : ∃ W, W = (w.alloc (.cells (m.rcells (.slice none 0 0) (.slice none 0 0) (strL m.data)) 46)).alloc (.cells zeroR 46) := ⟨_, rfl⟩
 have hA0 := hid (show RIA w w0 b w.heap.size m (.slice none 0 0) (.slice none 0 0) p by rw [hW0]; exact RIA.start hN hQ h)
 have ct : w0.cell? ⟨w.heap.size, 0, none⟩ = some (.int .u8 122) := by rw [hA0.out.cell 0]; show some (Value.int .u8 (m.ty : Int)) = _; rw [ht]; rfl
 obtain ⟨p0, hp0⟩ : ∃ x, x = p := ⟨_, rfl⟩
 obtain ⟨m0, hm0⟩ : ∃ x, x = m := ⟨_, rfl⟩
 have hn0 := hid (show m0.names = [] by rw [hm0]; exact hN)
 have hq0 := hid (show m0.qids = [] by rw [hm0]; exact hQ)
 rw [← hp0, ← hm0] at hA0
 rw [zeroR_lit] at hW0
 simp only [M.rcells, M.cells] at hW0 ⊢
 replace hp0 := hid hp0
 replace hm0 := hid hm0
 replace hN := hid hN
 replace hQ := hid hQ
 replace h := hid h
 clear ht
 go_enter Tryz.func37, Tryz.ntmps37
 go_wp2_with (rw [← hW0]; replace hW0 := hid hW0)
 try (rw [← hW0]; replace hW0 := hid hW0)
 clear ct
 have hv0 := tv_lt 4 p0 (by omega)
 have cv0 : IntKind.u32.wrap (tv 4 p0 : Int) = (tv 4 p0 : Int) := IntWalk.u32_in _ (by omega)
 replace hv0 := hid hv0
 refine (rtake_at b 4 p0 w0 (by omega) (by omega) hA0.out.inn).mono ?_
 rintro en x0 ⟨rfl, hi0, hs0⟩
 have hX0 := hid (hA0.out.step hi0 hs0)
 replace hi0 := hid hi0
 replace hs0 := hid hs0
 obtain ⟨p1, hp1⟩ : ∃ x, x = (Slot.ri p0 m0 .fid).1 := ⟨_, rfl⟩
 obtain ⟨m1, hm1⟩ : ∃ x, x = (Slot.ri p0 m0 .fid).2 := ⟨_, rfl⟩
 have hn1 := hid (show m1.names = [] by rw [hm1]; exact hn0.out)
 have hq1 := hid (show m1.qids = [] by rw [hm1]; exact hq0.out)
 have c0 : x0.cell? ⟨w.heap.size, 4, none⟩ = some (.int .u32 (m0.fid : Int)) := hX0.out.cell 4
 have f0 : x0.frozen? ⟨w.heap.size, 4, none⟩ = false := hX0.out.free 4
 obtain ⟨w1, hW1⟩ : ∃ W, W = x0.setCell ⟨w.heap.size, 4, none⟩ (.int .u32 (tv 4 p0 : Int)) := ⟨_, rfl⟩
 have hA1 := hid (show RIA w w1 b w.heap.size m1 (.slice none 0 0) (.slice none 0 0) p1 by rw [hW1, hm1, hp1]; exact hX0.out.set 4 _ rfl rfl rfl)
 replace hp1 := hid hp1
 replace hm1 := hid hm1
 go_upto_region 69 with (rw [← hW1]; replace hW1 := hid hW1)
 try (rw [← hW1]; replace hW1 := hid hW1)
 clear c0 f0 hX0 hA0
 have hblk := hid hA1.out.blk
 have hres := hid hA1.out.res
 go_wp2_with (first
  | (refine wpList_load_row (by rfl) 46 (.tmp 3) (by rfl) w.heap.size (by rfl) 46 (m1.rcells (.slice none 0 0) (.slice none 0 0) (strL m1.data)) (0, 0) _ hblk.out Tryz.underlying46 (by rfl) (by kernel_rfl) ?_)
  | (refine wpList_store_row (by rfl) 46 (.tmp 4) (.tmp 201) (by rfl) (w.heap.size + 1) (m1.rcells (.slice none 0 0) (.slice none 0 0) (strL m1.data)) (by rfl) (by rfl) 46 _ hres.out (by kernel_rfl) (by kernel_rfl) (by kernel_rfl) ?_))
 refine bodyPost_ret (results_cell_row rfl _ _ (w.heap.size + 1) _ _ _ _ rfl (setRow_heap _ _ _ _ _ _ hres.out) Tryz.underlying46 rfl (by kernel_rfl)) rfl ?_
 have hfin : rins ([.fid] : List Slot) p m = (p1, m1) := by
  rw [← hp0.out, ← hm0.out]
  simp only [rins]
  rw [← hp1.out, ← hm1.out]
 rw [hfin]
 exact hA1.out.done

set_option maxHeartbeats 3200000 in
theorem rfill_123 (b : Nat) (p : List UInt8 × Nat) (m : M) (w : World) (ht : m.ty = 123) (hN : m.names = []) (hQ : m.qids = []) (h : RInAt w b p) :
  Calls Tryz.prog 37 #[.pointer (some ⟨b, 0, none⟩), .agg (m.rcells (.slice none 0 0) (.slice none 0 0) (strL m.data))] w (RFillPost w b (rins ([] : List Slot) p m)) := by
 obtain ⟨w0, hW0⟩ : ∃ W, W = (w.alloc (.cells (m.rcells (.slice none 0 0) (.slice none 0 0) (strL m.data)) 46)).alloc (.cells zeroR 46) := ⟨_, rfl⟩
 have hA0 := hid (show RIA w w0 b w.heap.size m (.slice none 0 0) (.slice none 0 0) p by rw [hW0]; exact RIA.start hN hQ h)
 have ct : w0.cell? ⟨w.heap.size, 0, none⟩ = some (.int .u8 123) := by rw [hA0.out.cell 0]; show some (Value.int .u8 (m.ty : Int)) = _; rw [ht]; rfl
 obtain ⟨p0, hp0⟩ : ∃ x, x = p := ⟨_, rfl⟩
 obtain ⟨m0, hm0⟩ : ∃ x, x = m := ⟨_, rfl⟩
 have hn0 := hid (show m0.names = [] by rw [hm0]; exact hN)
 have hq0 := hid (show m0.qids = [] by rw [hm0]; exact hQ)
 rw [← hp0, ← hm0] at hA0
 rw [zeroR_lit] at hW0
 simp only [M.rcells, M.cells] at hW0 ⊢
 replace hp0 := hid hp0
 replace hm0 := hid hm0
 replace hN := hid hN
 replace hQ := hid hQ
 replace h := hid h
 clear ht
 go_enter Tryz.func37, Tryz.ntmps37
 go_upto_region 69 with (rw [← hW0]; replace hW0 := hid hW0)
 try (rw [← hW0]; replace hW0 := hid hW0)
 clear ct
 have hblk := hid hA0.out.blk
 have hres := hid hA0.out.res
 go_wp2_with (first
  | (refine wpList_load_row (by rfl) 46 (.tmp 3) (by rfl) w.heap.size (by rfl) 46 (m0.rcells (.slice none 0 0) (.slice none 0 0) (strL m0.data)) (0, 0) _ hblk.out Tryz.underlying46 (by rfl) (by kernel_rfl) ?_)
  | (refine wpList_store_row (by rfl) 46 (.tmp 4) (.tmp 201) (by rfl) (w.heap.size + 1) (m0.rcells (.slice none 0 0) (.slice none 0 0) (strL m0.data)) (by rfl) (by rfl) 46 _ hres.out (by kernel_rfl) (by kernel_rfl) (by kernel_rfl) ?_))
 refine bodyPost_ret (results_cell_row rfl _ _ (w.heap.size + 1) _ _ _ _ rfl (setRow_heap _ _ _ _ _ _ hres.out) Tryz.underlying46 rfl (by kernel_rfl)) rfl ?_
 have hfin : rins ([] : List Slot) p m = (p0, m0) := by
  rw [← hp0.out, ← hm0.out]
  simp only [rins]
 rw [hfin]
 exact hA0.out.done

set_option maxHeartbeats 3200000 in
theorem rfill_124 (b : Nat) (p : List UInt8 × Nat) (m : M) (w : World) (ht : m.ty = 124) (hN : m.names = []) (hQ : m.qids = []) (h : RInAt w b p) :
  Calls Tryz.prog 37 #[.pointer (some ⟨b, 0, none⟩), .agg (m.rcells (.slice none 0 0) (.slice none 0 0) (strL m.data))] w (RFillPost w b (rins ([.fid] : List Slot) p m)) := by
 obtain ⟨w0, hW0⟩ : ∃ W, W = (w.alloc (.cells (m.rcells (.slice none 0 0) (.slice none 0 0) (strL m.data)) 46)).alloc (.cells zeroR 46) := ⟨_, rfl⟩
 have hA0 := hid (show RIA w w0 b w.heap.size m (.slice none 0 0) (.slice none 0 0) p by rw [hW0]; exact RIA.start hN hQ h)
 have ct : w0.cell? ⟨w.heap.size, 0, none⟩ = some (.int .u8 124) := by rw [hA0.out.cell 0]; show some (Value.int .u8 (m.ty : Int)) = _; rw [ht]; rfl
 obtain ⟨p0, hp0⟩ : ∃ x, x = p := ⟨_, rfl⟩
 obtain ⟨m0, hm0⟩ : ∃ x, x = m := ⟨_, rfl⟩
 have hn0 := hid (show m0.names = [] by rw [hm0]; exact hN)
 have hq0 := hid (show m0.qids = [] by rw [hm0]; exact hQ)
 rw [← hp0, ← hm0] at hA0
 rw [zeroR_lit] at hW0
 simp only [M.rcells, M.cells] at hW0 ⊢
 replace hp0 := hid hp0
 replace hm0 := hid hm0
 replace hN := hid hN
 replace hQ := hid hQ
 replace h := hid h
 clear ht
 go_enter Tryz.func37, Tryz.ntmps37
 go_wp2_with (rw [← hW0]; replace hW0 := hid hW0)
 try (rw [← hW0]; replace hW0 := hid hW0)
 clear ct
 have hv0 := tv_lt 4 p0 (by omega)
 have cv0 : IntKind.u32.wrap (tv 4 p0 : Int) = (tv 4 p0 : Int) := IntWalk.u32_in _ (by omega)
 replace hv0 := hid hv0
 refine (rtake_at b 4 p0 w0 (by omega) (by omega) hA0.out.inn).mono ?_
 rintro en x0 ⟨rfl, hi0, hs0⟩
 have hX0 := hid (hA0.out.step hi0 hs0)
 replace hi0 := hid hi0
 replace hs0 := hid hs0
 obtain ⟨p1, hp1⟩ : ∃ x, x = (Slot.ri p0 m0 .fid).1 := ⟨_, rfl⟩
 obtain ⟨m1, hm1⟩ : ∃ x, x = (Slot.ri p0 m0 .fid).2 := ⟨_, rfl⟩
 have hn1 := hid (show m1.names = [] by rw [hm1]; exact hn0.out)
 have hq1 := hid (show m1.qids = [] by rw [hm1]; exact hq0.out)
 have c0 : x0.cell? ⟨w.heap.size, 4, none⟩ = some (.int .u32 (m0.fid : Int)) := hX0.out.cell 4
 have f0 : x0.frozen? ⟨w.heap.size, 4, none⟩ = false := hX0.out.free 4
 obtain ⟨w1, hW1⟩ : ∃ W, W = x0.setCell ⟨w.heap.size, 4, none⟩ (.int .u32 (tv 4 p0 : Int)) := ⟨_, rfl⟩
 have hA1 := hid (show RIA w w1 b w.heap.size m1 (.slice none 0 0) (.slice none 0 0) p1 by rw [hW1, hm1, hp1]; exact hX0.out.set 4 _ rfl rfl rfl)
 replace hp1 := hid hp1
 replace hm1 := hid hm1
 go_upto_region 69 with (rw [← hW1]; replace hW1 := hid hW1)
 try (rw [← hW1]; replace hW1 := hid hW1)
 clear c0 f0 hX0 hA0
 have hblk := hid hA1.out.blk
 have hres := hid hA1.out.res
 go_wp2_with (first
  | (refine wpList_load_row (by rfl) 46 (.tmp 3) (by rfl) w.heap.size (by rfl) 46 (m1.rcells (.slice none 0 0) (.slice none 0 0) (strL m1.data)) (0, 0) _ hblk.out Tryz.underlying46 (by rfl) (by kernel_rfl) ?_)
  | (refine wpList_store_row (by rfl) 46 (.tmp 4) (.tmp 201) (by rfl) (w.heap.size + 1) (m1.rcells (.slice none 0 0) (.slice none 0 0) (strL m1.data)) (by rfl) (by rfl) 46 _ hres.out (by kernel_rfl) (by kernel_rfl) (by kernel_rfl) ?_))
 refine bodyPost_ret (results_cell_row rfl _ _ (w.heap.size + 1) _ _ _ _ rfl (setRow_heap _ _ _ _ _ _ hres.out) Tryz.underlying46 rfl (by kernel_rfl)) rfl ?_
 have hfin : rins ([.fid] : List Slot) p m = (p1, m1) := by
  rw [← hp0.out, ← hm0.out]
  simp only [rins]
  rw [← hp1.out, ← hm1.out]
 rw [hfin]
 exact hA1.out.done

set_option maxHeartbeats 3200000 in
theorem rfill_125 (b : Nat) (p : List UInt8 × Nat) (m : M) (w : World) (ht : m.ty = 125) (hN : m.names = []) (hQ : m.qids = []) (h : RInAt w b p) :
  Calls Tryz.prog 37 #[.pointer (some ⟨b, 0, none⟩), .agg (m.rcells (.slice none 0 0) (.slice none 0 0) (strL m.data))] w (RFillPost w b (rins ([.stat] : List Slot) p m)) := by
 obtain ⟨w0, hW0⟩ : ∃ W, W = (w.alloc (.cells (m.rcells (.slice none 0 0) (.slice none 0 0) (strL m.data)) 46)).alloc (.cells zeroR 46) := ⟨_, rfl⟩
 have hA0 := hid (show RIA w w0 b w.heap.size m (.slice none 0 0) (.slice none 0 0) p by rw [hW0]; exact RIA.start hN hQ h)
 have ct : w0.cell? ⟨w.heap.size, 0, none⟩ = some (.int .u8 125) := by rw [hA0.out.cell 0]; show some (Value.int .u8 (m.ty : Int)) = _; rw [ht]; rfl
 obtain ⟨p0, hp0⟩ : ∃ x, x = p := ⟨_, rfl⟩
 obtain ⟨m0, hm0⟩ : ∃ x, x = m := ⟨_, rfl⟩
 have hn0 := hid (show m0.names = [] by rw [hm0]; exact hN)
 have hq0 := hid (show m0.qids = [] by rw [hm0]; exact hQ)
 rw [← hp0, ← hm0] at hA0
 rw [zeroR_lit] at hW0
 simp only [M.rcells, M.cells] at hW0 ⊢
 replace hp0 := hid hp0
 replace hm0 := hid hm0
 replace hN := hid hN
 replace hQ := hid hQ
 replace h := hid h
 clear ht
 go_enter Tryz.func37, Tryz.ntmps37
 go_wp2_with (rw [← hW0]; replace hW0 := hid hW0)
 try (rw [← hW0]; replace hW0 := hid hW0)
 clear ct
 refine (rmstat_any b p0 w0 hA0.out.inn.len hA0.out.inn).mono ?_
 rintro en x0 ⟨rfl, hi0, hs0⟩
 have hX0 := hid (hA0.out.step hi0 hs0)
 replace hi0 := hid hi0
 replace hs0 := hid hs0
 obtain ⟨p1, hp1⟩ : ∃ x, x = (Slot.ri p0 m0 .stat).1 := ⟨_, rfl⟩
 obtain ⟨m1, hm1⟩ : ∃ x, x = (Slot.ri p0 m0 .stat).2 := ⟨_, rfl⟩
 have hn1 := hid (show m1.names = [] by rw [hm1]; exact hn0.out)
 have hq1 := hid (show m1.qids = [] by rw [hm1]; exact hq0.out)
 obtain ⟨w1, hW1⟩ : ∃ W, W = x0.setCells w.heap.size 23 (decS (stB p0)).cells.toList := ⟨_, rfl⟩
 have hA1 := hid (show RIA w w1 b w.heap.size m1 (.slice none 0 0) (.slice none 0 0) p1 by rw [hW1, hm1, hp1]; exact hX0.out.sets 23 _ (sets_stat m0 _ _ _ (decS (stB p0))) rfl rfl)
 have ht0 := hid (hX0.out.there 23 13 (by omega))
 replace hp1 := hid hp1
 replace hm1 := hid hm1
 go_upto_region 69 with (first
  | (refine wpList_store_mid (by rfl) 44 (.tmp 191) (.tmp 190) (by rfl) w.heap.size 23 (decS (stB p0)).cells (by rfl) (by rfl) ht0.out (by kernel_rfl) (by kernel_rfl) ?_)
  | (rw [← hW1]; replace hW1 := hid hW1))
 try (rw [← hW1]; replace hW1 := hid hW1)
 clear ht0 hX0 hA0
 have hblk := hid hA1.out.blk
 have hres := hid hA1.out.res
 go_wp2_with (first
  | (refine wpList_load_row (by rfl) 46 (.tmp 3) (by rfl) w.heap.size (by rfl) 46 (m1.rcells (.slice none 0 0) (.slice none 0 0) (strL m1.data)) (0, 0) _ hblk.out Tryz.underlying46 (by rfl) (by kernel_rfl) ?_)
  | (refine wpList_store_row (by rfl) 46 (.tmp 4) (.tmp 201) (by rfl) (w.heap.size + 1) (m1.rcells (.slice none 0 0) (.slice none 0 0) (strL m1.data)) (by rfl) (by rfl) 46 _ hres.out (by kernel_rfl) (by kernel_rfl) (by kernel_rfl) ?_))
 refine bodyPost_ret (results_cell_row rfl _ _ (w.heap.size + 1) _ _ _ _ rfl (setRow_heap _ _ _ _ _ _ hres.out) Tryz.underlying46 rfl (by kernel_rfl)) rfl ?_
 have hfin : rins ([.stat] : List Slot) p m = (p1, m1) := by
  rw [← hp0.out, ← hm0.out]
  simp only [rins]
  rw [← hp1.out, ← hm1.out]
 rw [hfin]
 exact hA1.out.done

set_option maxHeartbeats 3200000 in
theorem rfill_126 (b : Nat) (p : List UInt8 × Nat) (m : M) (w : World) (ht : m.ty = 126) (hN : m.names = []) (hQ : m.qids = []) (h : RInAt w b p) :
  Calls Tryz.prog 37 #[.pointer (some ⟨b, 0, none⟩), .agg (m.rcells (.slice none 0 0) (.slice none 0 0) (strL m.data))] w (RFillPost w b (rins ([.fid, .stat] : List Slot) p m)) := by
 obtain ⟨w0, hW0⟩ : ∃ W, W = (w.alloc (.cells (m.rcells (.slice none 0 0) (.slice none 0 0) (strL m.data)) 46)).alloc (.cells zeroR 46) := ⟨_, rfl⟩
 have hA0 := hid (show RIA w w0 b w.heap.size m (.slice none 0 0) (.slice none 0 0) p by rw [hW0]; exact RIA.start hN hQ h)
 have ct : w0.cell? ⟨w.heap.size, 0, none⟩ = some (.int .u8 126) := by rw [hA0.out.cell 0]; show some (Value.int .u8 (m.ty : Int)) = _; rw [ht]; rfl
 obtain ⟨p0, hp0⟩ : ∃ x, x = p := ⟨_, rfl⟩
 obtain ⟨m0, hm0⟩ : ∃ x, x = m := ⟨_, rfl⟩
 have hn0 := hid (show m0.names = [] by rw [hm0]; exact hN)
 have hq0 := hid (show m0.qids = [] by rw [hm0]; exact hQ)
 rw [← hp0, ← hm0] at hA0
 rw [zeroR_lit] at hW0
 simp only [M.rcells, M.cells] at hW0 ⊢
 replace hp0 := hid hp0
 replace hm0 := hid hm0
 replace hN := hid hN
 replace hQ := hid hQ
 replace h := hid h
 clear ht
 go_enter Tryz.func37, Tryz.ntmps37
 go_wp2_with (rw [← hW0]; replace hW0 := hid hW0)
 try (rw [← hW0]; replace hW0 := hid hW0)
 clear ct
 have hv0 := tv_lt 4 p0 (by omega)
 have cv0 : IntKind.u32.wrap (tv 4 p0 : Int) = (tv 4 p0 : Int) := IntWalk.u32_in _ (by omega)
 replace hv0 := hid hv0
 refine (rtake_at b 4 p0 w0 (by omega) (by omega) hA0.out.inn).mono ?_
 rintro en x0 ⟨rfl, hi0, hs0⟩
 have hX0 := hid (hA0.out.step hi0 hs0)
 replace hi0 := hid hi0
 replace hs0 := hid hs0
 obtain ⟨p1, hp1⟩ : ∃ x, x = (Slot.ri p0 m0 .fid).1 := ⟨_, rfl⟩
 obtain ⟨m1, hm1⟩ : ∃ x, x = (Slot.ri p0 m0 .fid).2 := ⟨_, rfl⟩
 have hn1 := hid (show m1.names = [] by rw [hm1]; exact hn0.out)
 have hq1 := hid (show m1.qids = [] by rw [hm1]; exact hq0.out)
 have c0 : x0.cell? ⟨w.heap.size, 4, none⟩ = some (.int .u32 (m0.fid : Int)) := hX0.out.cell 4
 have f0 : x0.frozen? ⟨w.heap.size, 4, none⟩ = false := hX0.out.free 4
 obtain ⟨w1, hW1⟩ : ∃ W, W = x0.setCell ⟨w.heap.size, 4, none⟩ (.int .u32 (tv 4 p0 : Int)) := ⟨_, rfl⟩
 have hA1 := hid (show RIA w w1 b w.heap.size m1 (.slice none 0 0) (.slice none 0 0) p1 by rw [hW1, hm1, hp1]; exact hX0.out.set 4 _ rfl rfl rfl)
 replace hp1 := hid hp1
 replace hm1 := hid hm1
 go_wp2_with (rw [← hW1]; replace hW1 := hid hW1)
 try (rw [← hW1]; replace hW1 := hid hW1)
 clear c0 f0 hX0 hA0
 refine (rmstat_any b p1 w1 hA1.out.inn.len hA1.out.inn).mono ?_
 rintro en x1 ⟨rfl, hi1, hs1⟩
 have hX1 := hid (hA1.out.step hi1 hs1)
 replace hi1 := hid hi1
 replace hs1 := hid hs1
 obtain ⟨p2, hp2⟩ : ∃ x, x = (Slot.ri p1 m1 .stat).1 := ⟨_, rfl⟩
 obtain ⟨m2, hm2⟩ : ∃ x, x = (Slot.ri p1 m1 .stat).2 := ⟨_, rfl⟩
 have hn2 := hid (show m2.names = [] by rw [hm2]; exact hn1.out)
 have hq2 := hid (show m2.qids = [] by rw [hm2]; exact hq1.out)
 obtain ⟨w2, hW2⟩ : ∃ W, W = x1.setCells w.heap.size 23 (decS (stB p1)).cells.toList := ⟨_, rfl⟩
 have hA2 := hid (show RIA w w2 b w.heap.size m2 (.slice none 0 0) (.slice none 0 0) p2 by rw [hW2, hm2, hp2]; exact hX1.out.sets 23 _ (sets_stat m1 _ _ _ (decS (stB p1))) rfl rfl)
 have ht1 := hid (hX1.out.there 23 13 (by omega))
 replace hp2 := hid hp2
 replace hm2 := hid hm2
 go_upto_region 69 with (first
  | (refine wpList_store_mid (by rfl) 44 (.tmp 200) (.tmp 199) (by rfl) w.heap.size 23 (decS (stB p1)).cells (by rfl) (by rfl) ht1.out (by kernel_rfl) (by kernel_rfl) ?_)
  | (rw [← hW2]; replace hW2 := hid hW2))
 try (rw [← hW2]; replace hW2 := hid hW2)
 clear ht1 hX1 hA1
 have hblk := hid hA2.out.blk
 have hres := hid hA2.out.res
 go_wp2_with (first
  | (refine wpList_load_row (by rfl) 46 (.tmp 3) (by rfl) w.heap.size (by rfl) 46 (m2.rcells (.slice none 0 0) (.slice none 0 0) (strL m2.data)) (0, 0) _ hblk.out Tryz.underlying46 (by rfl) (by kernel_rfl) ?_)
  | (refine wpList_store_row (by rfl) 46 (.tmp 4) (.tmp 201) (by rfl) (w.heap.size + 1) (m2.rcells (.slice none 0 0) (.slice none 0 0) (strL m2.data)) (by rfl) (by rfl) 46 _ hres.out (by kernel_rfl) (by kernel_rfl) (by kernel_rfl) ?_))
 refine bodyPost_ret (results_cell_row rfl _ _ (w.heap.size + 1) _ _ _ _ rfl (setRow_heap _ _ _ _ _ _ hres.out) Tryz.underlying46 rfl (by kernel_rfl)) rfl ?_
 have hfin : rins ([.fid, .stat] : List Slot) p m = (p2, m2) := by
  rw [← hp0.out, ← hm0.out]
  simp only [rins]
  rw [← hp1.out, ← hm1.out]
  rw [← hp2.out, ← hm2.out]
 rw [hfin]
 exact hA2.out.done

set_option maxHeartbeats 3200000 in
theorem rfill_127 (b : Nat) (p : List UInt8 × Nat) (m : M) (w : World) (ht : m.ty = 127) (hN : m.names = []) (hQ : m.qids = []) (h : RInAt w b p) :
  Calls Tryz.prog 37 #[.pointer (some ⟨b, 0, none⟩), .agg (m.rcells (.slice none 0 0) (.slice none 0 0) (strL m.data))] w (RFillPost w b (rins ([] : List Slot) p m)) := by
 obtain ⟨w0, hW0⟩ : ∃ W, W = (w.alloc (.cells (m.rcells (.slice none 0 0) (.slice none 0 0) (strL m.data)) 46)).alloc (.cells zeroR 46) := ⟨_, rfl⟩
 have hA0 := hid (show RIA w w0 b w.heap.size m (.slice none 0 0) (.slice none 0 0) p by rw [hW0]; exact RIA.start hN hQ h)
 have ct : w0.cell? ⟨w.heap.size, 0, none⟩ = some (.int .u8 127) := by rw [hA0.out.cell 0]; show some (Value.int .u8 (m.ty : Int)) = _; rw [ht]; rfl
 obtain ⟨p0, hp0⟩ : ∃ x, x = p := ⟨_, rfl⟩
 obtain ⟨m0, hm0⟩ : ∃ x, x = m := ⟨_, rfl⟩
 have hn0 := hid (show m0.names = [] by rw [hm0]; exact hN)
 have hq0 := hid (show m0.qids = [] by rw [hm0]; exact hQ)
 rw [← hp0, ← hm0] at hA0
 rw [zeroR_lit] at hW0
 simp only [M.rcells, M.cells] at hW0 ⊢
 replace hp0 := hid hp0
 replace hm0 := hid hm0
 replace hN := hid hN
 replace hQ := hid hQ
 replace h := hid h
 clear ht
 go_enter Tryz.func37, Tryz.ntmps37
 go_upto_region 69 with (rw [← hW0]; replace hW0 := hid hW0)
 try (rw [← hW0]; replace hW0 := hid hW0)
 clear ct
 have hblk := hid hA0.out.blk
 have hres := hid hA0.out.res
 go_wp2_with (first
  | (refine wpList_load_row (by rfl) 46 (.tmp 3) (by rfl) w.heap.size (by rfl) 46 (m0.rcells (.slice none 0 0) (.slice none 0 0) (strL m0.data)) (0, 0) _ hblk.out Tryz.underlying46 (by rfl) (by kernel_rfl) ?_)
  | (refine wpList_store_row (by rfl) 46 (.tmp 4) (.tmp 201) (by rfl) (w.heap.size + 1) (m0.rcells (.slice none 0 0) (.slice none 0 0) (strL m0.data)) (by rfl) (by rfl) 46 _ hres.out (by kernel_rfl) (by kernel_rfl) (by kernel_rfl) ?_))
 refine bodyPost_ret (results_cell_row rfl _ _ (w.heap.size + 1) _ _ _ _ rfl (setRow_heap _ _ _ _ _ _ hres.out) Tryz.underlying46 rfl (by kernel_rfl)) rfl ?_
 have hfin : rins ([] : List Slot) p m = (p0, m0) := by
  rw [← hp0.out, ← hm0.out]
  simp only [rins]
 rw [hfin]
 exact hA0.out.done

end Go.Proofs.YtlmojhlacfjmaaaGreat
