/- What body of the reference's out writes, for each type but walks, reads and writes. Conditions: numbers in their types, bounds on lengths.
What body of the reference's out writes for every known type. Conditions: numbers in their types, bounds on lengths. -/
import Derived.Test.YtcbglcebdkpcfaaGreatCeA22
import Derived.Test.YtcbglcebdkpcfaaGreatCtA30
import Derived.Test.YtcbglcebdkpcfaaGreatCtA32
namespace Go.Proofs.YtcbglcebdkpcfaaGreat
section
open Go.RowKit
set_option maxRecDepth 100000
set_option linter.unusedVariables false

set_option maxHeartbeats 3200000 in
theorem rbody_100 (b : Nat) (xs : List UInt8) (e : Nat) (m : M) (vN vQ : Value) (d : ByteArray) (w : World) (hm : MOk m) (hf : RFew m) (hx : xs.length ≤ 1000) (h : RA0 w b m vN vQ d xs e) (ht : m.ty = 100) :
    Calls Tryz.prog 62 #[.pointer (some ⟨b, 0, none⟩), .agg (m.rcells vN vQ d)] w (RGood b (xs ++ ([.msize, .version] : List Slot).flatMap (Slot.r m)) ((([.msize, .version] : List Slot).map (Slot.re m)).foldl firstE e) w) := by
  obtain ⟨W, hW⟩ : ∃ W, W = w.alloc (.cells (m.rcells vN vQ d) 70) := ⟨_, rfl⟩
  have hA := hid (show RA w W b w.heap.size m vN vQ d xs e by rw [hW]; exact h.start)
  have c0 : W.cell? ⟨w.heap.size, 0, none⟩ = some (.int .u8 100) := by rw [hA.out.cell 0]; show some (Value.int .u8 (m.ty : Int)) = _; rw [ht]; rfl
  replace h := hid h
  clear ht
  have e_msize : IntKind.u64.wrap (m.msize : Int) = (m.msize : Int) := IntWalk.u64_in _ (by have := hm.msize; omega)
  simp only [M.rcells, M.cells] at hW ⊢
  go_enter Tryz.func62, Tryz.ntmps62
  have c2 : W.cell? ⟨w.heap.size, 2, none⟩ = some (.int .u32 (m.msize : Int)) := hA.out.cell 2
  go_wp2_with (rw [← hW]; replace hW := hid hW)
  try (rw [← hW]; replace hW := hid hW)
  refine (ra_num4 m.msize (by have := hm.msize; omega) (by omega) hA.out).mono ?_
  rintro en w0 ⟨rfl, hA0⟩
  replace hA0 := hid hA0
  have l0 := hid (show (xs ++ Slot.r m .msize).length ≤ 32000 by have h1 := hf.len .msize; simp only [List.length_append] at *; omega)
  clear c0 c2
  have c3 : w0.cell? ⟨w.heap.size, 3, none⟩ = some (.string m.version) := hA0.out.cell 3
  go_wp2_with fail
  refine (ra_text m.version (by have := hf.few.version; omega) (by have h3 := l0.out; simp only [Slot.r] at h3; omega) hA0.out).mono ?_
  rintro en w1 ⟨rfl, hA1⟩
  replace hA1 := hid hA1
  have l1 := hid (show ((xs ++ Slot.r m .msize) ++ Slot.r m .version).length ≤ 63000 by have h1 := hf.len .version; have h2 := l0.out; simp only [List.length_append] at *; omega)
  clear c3
  go_wp2_with fail
  go_end0
  exact ⟨rfl, by have h9 := hA1.out.out; simpa [Slot.r, Slot.re, firstE_zero] using h9, hA1.out.st⟩
set_option maxHeartbeats 3200000 in
theorem rbody_101 (b : Nat) (xs : List UInt8) (e : Nat) (m : M) (vN vQ : Value) (d : ByteArray) (w : World) (hm : MOk m) (hf : RFew m) (hx : xs.length ≤ 1000) (h : RA0 w b m vN vQ d xs e) (ht : m.ty = 101) :
    Calls Tryz.prog 62 #[.pointer (some ⟨b, 0, none⟩), .agg (m.rcells vN vQ d)] w (RGood b (xs ++ ([.msize, .version] : List Slot).flatMap (Slot.r m)) ((([.msize, .version] : List Slot).map (Slot.re m)).foldl firstE e) w) := by
  obtain ⟨W, hW⟩ : ∃ W, W = w.alloc (.cells (m.rcells vN vQ d) 70) := ⟨_, rfl⟩
  have hA := hid (show RA w W b w.heap.size m vN vQ d xs e by rw [hW]; exact h.start)
  have c0 : W.cell? ⟨w.heap.size, 0, none⟩ = some (.int .u8 101) := by rw [hA.out.cell 0]; show some (Value.int .u8 (m.ty : Int)) = _; rw [ht]; rfl
  replace h := hid h
  clear ht
  have e_msize : IntKind.u64.wrap (m.msize : Int) = (m.msize : Int) := IntWalk.u64_in _ (by have := hm.msize; omega)
  simp only [M.rcells, M.cells] at hW ⊢
  go_enter Tryz.func62, Tryz.ntmps62
  have c2 : W.cell? ⟨w.heap.size, 2, none⟩ = some (.int .u32 (m.msize : Int)) := hA.out.cell 2
  go_wp2_with (rw [← hW]; replace hW := hid hW)
  try (rw [← hW]; replace hW := hid hW)
  refine (ra_num4 m.msize (by have := hm.msize; omega) (by omega) hA.out).mono ?_
  rintro en w0 ⟨rfl, hA0⟩
  replace hA0 := hid hA0
  have l0 := hid (show (xs ++ Slot.r m .msize).length ≤ 32000 by have h1 := hf.len .msize; simp only [List.length_append] at *; omega)
  clear c0 c2
  have c3 : w0.cell? ⟨w.heap.size, 3, none⟩ = some (.string m.version) := hA0.out.cell 3
  go_wp2_with fail
  refine (ra_text m.version (by have := hf.few.version; omega) (by have h3 := l0.out; simp only [Slot.r] at h3; omega) hA0.out).mono ?_
  rintro en w1 ⟨rfl, hA1⟩
  replace hA1 := hid hA1
  have l1 := hid (show ((xs ++ Slot.r m .msize) ++ Slot.r m .version).length ≤ 63000 by have h1 := hf.len .version; have h2 := l0.out; simp only [List.length_append] at *; omega)
  clear c3
  go_wp2_with fail
  go_end0
  exact ⟨rfl, by have h9 := hA1.out.out; simpa [Slot.r, Slot.re, firstE_zero] using h9, hA1.out.st⟩
set_option maxHeartbeats 3200000 in
theorem rbody_102 (b : Nat) (xs : List UInt8) (e : Nat) (m : M) (vN vQ : Value) (d : ByteArray) (w : World) (hm : MOk m) (hf : RFew m) (hx : xs.length ≤ 1000) (h : RA0 w b m vN vQ d xs e) (ht : m.ty = 102) :
    Calls Tryz.prog 62 #[.pointer (some ⟨b, 0, none⟩), .agg (m.rcells vN vQ d)] w (RGood b (xs ++ ([.afid, .uname, .aname] : List Slot).flatMap (Slot.r m)) ((([.afid, .uname, .aname] : List Slot).map (Slot.re m)).foldl firstE e) w) := by
  obtain ⟨W, hW⟩ : ∃ W, W = w.alloc (.cells (m.rcells vN vQ d) 70) := ⟨_, rfl⟩
  have hA := hid (show RA w W b w.heap.size m vN vQ d xs e by rw [hW]; exact h.start)
  have c0 : W.cell? ⟨w.heap.size, 0, none⟩ = some (.int .u8 102) := by rw [hA.out.cell 0]; show some (Value.int .u8 (m.ty : Int)) = _; rw [ht]; rfl
  replace h := hid h
  clear ht
  have e_afid : IntKind.u64.wrap (m.afid : Int) = (m.afid : Int) := IntWalk.u64_in _ (by have := hm.afid; omega)
  simp only [M.rcells, M.cells] at hW ⊢
  go_enter Tryz.func62, Tryz.ntmps62
  have c5 : W.cell? ⟨w.heap.size, 5, none⟩ = some (.int .u32 (m.afid : Int)) := hA.out.cell 5
  go_wp2_with (rw [← hW]; replace hW := hid hW)
  try (rw [← hW]; replace hW := hid hW)
  refine (ra_num4 m.afid (by have := hm.afid; omega) (by omega) hA.out).mono ?_
  rintro en w0 ⟨rfl, hA0⟩
  replace hA0 := hid hA0
  have l0 := hid (show (xs ++ Slot.r m .afid).length ≤ 32000 by have h1 := hf.len .afid; simp only [List.length_append] at *; omega)
  clear c0 c5
  have c7 : w0.cell? ⟨w.heap.size, 7, none⟩ = some (.string m.uname) := hA0.out.cell 7
  go_wp2_with fail
  refine (ra_text m.uname (by have := hf.few.uname; omega) (by have h3 := l0.out; simp only [Slot.r] at h3; omega) hA0.out).mono ?_
  rintro en w1 ⟨rfl, hA1⟩
  replace hA1 := hid hA1
  have l1 := hid (show ((xs ++ Slot.r m .afid) ++ Slot.r m .uname).length ≤ 63000 by have h1 := hf.len .uname; have h2 := l0.out; simp only [List.length_append] at *; omega)
  clear c7
  have c8 : w1.cell? ⟨w.heap.size, 8, none⟩ = some (.string m.aname) := hA1.out.cell 8
  go_wp2_with fail
  refine (ra_text m.aname (by have := hf.few.aname; omega) (by have h3 := l1.out; simp only [Slot.r] at h3; omega) hA1.out).mono ?_
  rintro en w2 ⟨rfl, hA2⟩
  replace hA2 := hid hA2
  have l2 := hid (show (((xs ++ Slot.r m .afid) ++ Slot.r m .uname) ++ Slot.r m .aname).length ≤ 94000 by have h1 := hf.len .aname; have h2 := l1.out; simp only [List.length_append] at *; omega)
  clear c8
  go_wp2_with fail
  go_end0
  exact ⟨rfl, by have h9 := hA2.out.out; simpa [Slot.r, Slot.re, firstE_zero] using h9, hA2.out.st⟩
set_option maxHeartbeats 3200000 in
theorem rbody_103 (b : Nat) (xs : List UInt8) (e : Nat) (m : M) (vN vQ : Value) (d : ByteArray) (w : World) (hm : MOk m) (hf : RFew m) (hx : xs.length ≤ 1000) (h : RA0 w b m vN vQ d xs e) (ht : m.ty = 103) :
    Calls Tryz.prog 62 #[.pointer (some ⟨b, 0, none⟩), .agg (m.rcells vN vQ d)] w (RGood b (xs ++ ([.qid] : List Slot).flatMap (Slot.r m)) ((([.qid] : List Slot).map (Slot.re m)).foldl firstE e) w) := by
  obtain ⟨W, hW⟩ : ∃ W, W = w.alloc (.cells (m.rcells vN vQ d) 70) := ⟨_, rfl⟩
  have hA := hid (show RA w W b w.heap.size m vN vQ d xs e by rw [hW]; exact h.start)
  have c0 : W.cell? ⟨w.heap.size, 0, none⟩ = some (.int .u8 103) := by rw [hA.out.cell 0]; show some (Value.int .u8 (m.ty : Int)) = _; rw [ht]; rfl
  replace h := hid h
  clear ht
  simp only [M.rcells, M.cells] at hW ⊢
  go_enter Tryz.func62, Tryz.ntmps62
  have c13 : W.cell? ⟨w.heap.size, 13, none⟩ = some (.int .u8 (m.qid.t : Int)) := hA.out.cell 13
  have c14 : W.cell? ⟨w.heap.size, 14, none⟩ = some (.int .u32 (m.qid.v : Int)) := hA.out.cell 14
  have c15 : W.cell? ⟨w.heap.size, 15, none⟩ = some (.int .u64 (m.qid.p : Int)) := hA.out.cell 15
  go_wp2_with (rw [← hW]; replace hW := hid hW)
  try (rw [← hW]; replace hW := hid hW)
  refine (ra_qid m.qid hm.qid (by omega) hA.out).mono ?_
  rintro en w0 ⟨rfl, hA0⟩
  replace hA0 := hid hA0
  have l0 := hid (show (xs ++ Slot.r m .qid).length ≤ 32000 by have h1 := hf.len .qid; simp only [List.length_append] at *; omega)
  clear c0 c13 c14 c15
  go_wp2_with fail
  go_end0
  exact ⟨rfl, by have h9 := hA0.out.out; simpa [Slot.r, Slot.re, firstE_zero] using h9, hA0.out.st⟩
set_option maxHeartbeats 3200000 in
theorem rbody_104 (b : Nat) (xs : List UInt8) (e : Nat) (m : M) (vN vQ : Value) (d : ByteArray) (w : World) (hm : MOk m) (hf : RFew m) (hx : xs.length ≤ 1000) (h : RA0 w b m vN vQ d xs e) (ht : m.ty = 104) :
    Calls Tryz.prog 62 #[.pointer (some ⟨b, 0, none⟩), .agg (m.rcells vN vQ d)] w (RGood b (xs ++ ([.fid, .afid, .uname, .aname] : List Slot).flatMap (Slot.r m)) ((([.fid, .afid, .uname, .aname] : List Slot).map (Slot.re m)).foldl firstE e) w) := by
  obtain ⟨W, hW⟩ : ∃ W, W = w.alloc (.cells (m.rcells vN vQ d) 70) := ⟨_, rfl⟩
  have hA := hid (show RA w W b w.heap.size m vN vQ d xs e by rw [hW]; exact h.start)
  have c0 : W.cell? ⟨w.heap.size, 0, none⟩ = some (.int .u8 104) := by rw [hA.out.cell 0]; show some (Value.int .u8 (m.ty : Int)) = _; rw [ht]; rfl
  replace h := hid h
  clear ht
  have e_fid : IntKind.u64.wrap (m.fid : Int) = (m.fid : Int) := IntWalk.u64_in _ (by have := hm.fid; omega)
  have e_afid : IntKind.u64.wrap (m.afid : Int) = (m.afid : Int) := IntWalk.u64_in _ (by have := hm.afid; omega)
  simp only [M.rcells, M.cells] at hW ⊢
  go_enter Tryz.func62, Tryz.ntmps62
  have c4 : W.cell? ⟨w.heap.size, 4, none⟩ = some (.int .u32 (m.fid : Int)) := hA.out.cell 4
  go_wp2_with (rw [← hW]; replace hW := hid hW)
  try (rw [← hW]; replace hW := hid hW)
  refine (ra_num4 m.fid (by have := hm.fid; omega) (by omega) hA.out).mono ?_
  rintro en w0 ⟨rfl, hA0⟩
  replace hA0 := hid hA0
  have l0 := hid (show (xs ++ Slot.r m .fid).length ≤ 32000 by have h1 := hf.len .fid; simp only [List.length_append] at *; omega)
  clear c0 c4
  have c5 : w0.cell? ⟨w.heap.size, 5, none⟩ = some (.int .u32 (m.afid : Int)) := hA0.out.cell 5
  go_wp2_with fail
  refine (ra_num4 m.afid (by have := hm.afid; omega) (by have h3 := l0.out; simp only [Slot.r] at h3; omega) hA0.out).mono ?_
  rintro en w1 ⟨rfl, hA1⟩
  replace hA1 := hid hA1
  have l1 := hid (show ((xs ++ Slot.r m .fid) ++ Slot.r m .afid).length ≤ 63000 by have h1 := hf.len .afid; have h2 := l0.out; simp only [List.length_append] at *; omega)
  clear c5
  have c7 : w1.cell? ⟨w.heap.size, 7, none⟩ = some (.string m.uname) := hA1.out.cell 7
  go_wp2_with fail
  refine (ra_text m.uname (by have := hf.few.uname; omega) (by have h3 := l1.out; simp only [Slot.r] at h3; omega) hA1.out).mono ?_
  rintro en w2 ⟨rfl, hA2⟩
  replace hA2 := hid hA2
  have l2 := hid (show (((xs ++ Slot.r m .fid) ++ Slot.r m .afid) ++ Slot.r m .uname).length ≤ 94000 by have h1 := hf.len .uname; have h2 := l1.out; simp only [List.length_append] at *; omega)
  clear c7
  have c8 : w2.cell? ⟨w.heap.size, 8, none⟩ = some (.string m.aname) := hA2.out.cell 8
  go_wp2_with fail
  refine (ra_text m.aname (by have := hf.few.aname; omega) (by have h3 := l2.out; simp only [Slot.r] at h3; omega) hA2.out).mono ?_
  rintro en w3 ⟨rfl, hA3⟩
  replace hA3 := hid hA3
  have l3 := hid (show ((((xs ++ Slot.r m .fid) ++ Slot.r m .afid) ++ Slot.r m .uname) ++ Slot.r m .aname).length ≤ 125000 by have h1 := hf.len .aname; have h2 := l2.out; simp only [List.length_append] at *; omega)
  clear c8
  go_wp2_with fail
  go_end0
  exact ⟨rfl, by have h9 := hA3.out.out; simpa [Slot.r, Slot.re, firstE_zero] using h9, hA3.out.st⟩
set_option maxHeartbeats 3200000 in
theorem rbody_105 (b : Nat) (xs : List UInt8) (e : Nat) (m : M) (vN vQ : Value) (d : ByteArray) (w : World) (hm : MOk m) (hf : RFew m) (hx : xs.length ≤ 1000) (h : RA0 w b m vN vQ d xs e) (ht : m.ty = 105) :
    Calls Tryz.prog 62 #[.pointer (some ⟨b, 0, none⟩), .agg (m.rcells vN vQ d)] w (RGood b (xs ++ ([.qid] : List Slot).flatMap (Slot.r m)) ((([.qid] : List Slot).map (Slot.re m)).foldl firstE e) w) := by
  obtain ⟨W, hW⟩ : ∃ W, W = w.alloc (.cells (m.rcells vN vQ d) 70) := ⟨_, rfl⟩
  have hA := hid (show RA w W b w.heap.size m vN vQ d xs e by rw [hW]; exact h.start)
  have c0 : W.cell? ⟨w.heap.size, 0, none⟩ = some (.int .u8 105) := by rw [hA.out.cell 0]; show some (Value.int .u8 (m.ty : Int)) = _; rw [ht]; rfl
  replace h := hid h
  clear ht
  simp only [M.rcells, M.cells] at hW ⊢
  go_enter Tryz.func62, Tryz.ntmps62
  have c13 : W.cell? ⟨w.heap.size, 13, none⟩ = some (.int .u8 (m.qid.t : Int)) := hA.out.cell 13
  have c14 : W.cell? ⟨w.heap.size, 14, none⟩ = some (.int .u32 (m.qid.v : Int)) := hA.out.cell 14
  have c15 : W.cell? ⟨w.heap.size, 15, none⟩ = some (.int .u64 (m.qid.p : Int)) := hA.out.cell 15
  go_wp2_with (rw [← hW]; replace hW := hid hW)
  try (rw [← hW]; replace hW := hid hW)
  refine (ra_qid m.qid hm.qid (by omega) hA.out).mono ?_
  rintro en w0 ⟨rfl, hA0⟩
  replace hA0 := hid hA0
  have l0 := hid (show (xs ++ Slot.r m .qid).length ≤ 32000 by have h1 := hf.len .qid; simp only [List.length_append] at *; omega)
  clear c0 c13 c14 c15
  go_wp2_with fail
  go_end0
  exact ⟨rfl, by have h9 := hA0.out.out; simpa [Slot.r, Slot.re, firstE_zero] using h9, hA0.out.st⟩
set_option maxHeartbeats 3200000 in
theorem rbody_107 (b : Nat) (xs : List UInt8) (e : Nat) (m : M) (vN vQ : Value) (d : ByteArray) (w : World) (hm : MOk m) (hf : RFew m) (hx : xs.length ≤ 1000) (h : RA0 w b m vN vQ d xs e) (ht : m.ty = 107) :
    Calls Tryz.prog 62 #[.pointer (some ⟨b, 0, none⟩), .agg (m.rcells vN vQ d)] w (RGood b (xs ++ ([.ename] : List Slot).flatMap (Slot.r m)) ((([.ename] : List Slot).map (Slot.re m)).foldl firstE e) w) := by
  obtain ⟨W, hW⟩ : ∃ W, W = w.alloc (.cells (m.rcells vN vQ d) 70) := ⟨_, rfl⟩
  have hA := hid (show RA w W b w.heap.size m vN vQ d xs e by rw [hW]; exact h.start)
  have c0 : W.cell? ⟨w.heap.size, 0, none⟩ = some (.int .u8 107) := by rw [hA.out.cell 0]; show some (Value.int .u8 (m.ty : Int)) = _; rw [ht]; rfl
  replace h := hid h
  clear ht
  simp only [M.rcells, M.cells] at hW ⊢
  go_enter Tryz.func62, Tryz.ntmps62
  have c9 : W.cell? ⟨w.heap.size, 9, none⟩ = some (.string m.ename) := hA.out.cell 9
  go_wp2_with (rw [← hW]; replace hW := hid hW)
  try (rw [← hW]; replace hW := hid hW)
  refine (ra_text m.ename (by have := hf.few.ename; omega) (by omega) hA.out).mono ?_
  rintro en w0 ⟨rfl, hA0⟩
  replace hA0 := hid hA0
  have l0 := hid (show (xs ++ Slot.r m .ename).length ≤ 32000 by have h1 := hf.len .ename; simp only [List.length_append] at *; omega)
  clear c0 c9
  go_wp2_with fail
  go_end0
  exact ⟨rfl, by have h9 := hA0.out.out; simpa [Slot.r, Slot.re, firstE_zero] using h9, hA0.out.st⟩
set_option maxHeartbeats 3200000 in
theorem rbody_108 (b : Nat) (xs : List UInt8) (e : Nat) (m : M) (vN vQ : Value) (d : ByteArray) (w : World) (hm : MOk m) (hf : RFew m) (hx : xs.length ≤ 1000) (h : RA0 w b m vN vQ d xs e) (ht : m.ty = 108) :
    Calls Tryz.prog 62 #[.pointer (some ⟨b, 0, none⟩), .agg (m.rcells vN vQ d)] w (RGood b (xs ++ ([.old] : List Slot).flatMap (Slot.r m)) ((([.old] : List Slot).map (Slot.re m)).foldl firstE e) w) := by
  obtain ⟨W, hW⟩ : ∃ W, W = w.alloc (.cells (m.rcells vN vQ d) 70) := ⟨_, rfl⟩
  have hA := hid (show RA w W b w.heap.size m vN vQ d xs e by rw [hW]; exact h.start)
  have c0 : W.cell? ⟨w.heap.size, 0, none⟩ = some (.int .u8 108) := by rw [hA.out.cell 0]; show some (Value.int .u8 (m.ty : Int)) = _; rw [ht]; rfl
  replace h := hid h
  clear ht
  have e_old : IntKind.u64.wrap (m.old : Int) = (m.old : Int) := IntWalk.u64_in _ (by have := hm.old; omega)
  simp only [M.rcells, M.cells] at hW ⊢
  go_enter Tryz.func62, Tryz.ntmps62
  have c10 : W.cell? ⟨w.heap.size, 10, none⟩ = some (.int .u16 (m.old : Int)) := hA.out.cell 10
  go_wp2_with (rw [← hW]; replace hW := hid hW)
  try (rw [← hW]; replace hW := hid hW)
  refine (ra_num2 m.old (by have := hm.old; omega) (by omega) hA.out).mono ?_
  rintro en w0 ⟨rfl, hA0⟩
  replace hA0 := hid hA0
  have l0 := hid (show (xs ++ Slot.r m .old).length ≤ 32000 by have h1 := hf.len .old; simp only [List.length_append] at *; omega)
  clear c0 c10
  go_wp2_with fail
  go_end0
  exact ⟨rfl, by have h9 := hA0.out.out; simpa [Slot.r, Slot.re, firstE_zero] using h9, hA0.out.st⟩
set_option maxHeartbeats 3200000 in
theorem rbody_109 (b : Nat) (xs : List UInt8) (e : Nat) (m : M) (vN vQ : Value) (d : ByteArray) (w : World) (hm : MOk m) (hf : RFew m) (hx : xs.length ≤ 1000) (h : RA0 w b m vN vQ d xs e) (ht : m.ty = 109) :
    Calls Tryz.prog 62 #[.pointer (some ⟨b, 0, none⟩), .agg (m.rcells vN vQ d)] w (RGood b (xs ++ ([] : List Slot).flatMap (Slot.r m)) ((([] : List Slot).map (Slot.re m)).foldl firstE e) w) := by
  obtain ⟨W, hW⟩ : ∃ W, W = w.alloc (.cells (m.rcells vN vQ d) 70) := ⟨_, rfl⟩
  have hA := hid (show RA w W b w.heap.size m vN vQ d xs e by rw [hW]; exact h.start)
  have c0 : W.cell? ⟨w.heap.size, 0, none⟩ = some (.int .u8 109) := by rw [hA.out.cell 0]; show some (Value.int .u8 (m.ty : Int)) = _; rw [ht]; rfl
  replace h := hid h
  clear ht
  simp only [M.rcells, M.cells] at hW ⊢
  go_enter Tryz.func62, Tryz.ntmps62
  go_wp2_with (rw [← hW]; replace hW := hid hW)
  try (rw [← hW]; replace hW := hid hW)
  go_end0
  exact ⟨rfl, by have := hA.out.out; simpa using this, hA.out.st⟩
set_option maxHeartbeats 3200000 in
theorem rbody_112 (b : Nat) (xs : List UInt8) (e : Nat) (m : M) (vN vQ : Value) (d : ByteArray) (w : World) (hm : MOk m) (hf : RFew m) (hx : xs.length ≤ 1000) (h : RA0 w b m vN vQ d xs e) (ht : m.ty = 112) :
    Calls Tryz.prog 62 #[.pointer (some ⟨b, 0, none⟩), .agg (m.rcells vN vQ d)] w (RGood b (xs ++ ([.fid, .mode] : List Slot).flatMap (Slot.r m)) ((([.fid, .mode] : List Slot).map (Slot.re m)).foldl firstE e) w) := by
  obtain ⟨W, hW⟩ : ∃ W, W = w.alloc (.cells (m.rcells vN vQ d) 70) := ⟨_, rfl⟩
  have hA := hid (show RA w W b w.heap.size m vN vQ d xs e by rw [hW]; exact h.start)
  have c0 : W.cell? ⟨w.heap.size, 0, none⟩ = some (.int .u8 112) := by rw [hA.out.cell 0]; show some (Value.int .u8 (m.ty : Int)) = _; rw [ht]; rfl
  replace h := hid h
  clear ht
  have e_fid : IntKind.u64.wrap (m.fid : Int) = (m.fid : Int) := IntWalk.u64_in _ (by have := hm.fid; omega)
  have e_mode : IntKind.u64.wrap (m.mode : Int) = (m.mode : Int) := IntWalk.u64_in _ (by have := hm.mode; omega)
  simp only [M.rcells, M.cells] at hW ⊢
  go_enter Tryz.func62, Tryz.ntmps62
  have c4 : W.cell? ⟨w.heap.size, 4, none⟩ = some (.int .u32 (m.fid : Int)) := hA.out.cell 4
  go_wp2_with (rw [← hW]; replace hW := hid hW)
  try (rw [← hW]; replace hW := hid hW)
  refine (ra_num4 m.fid (by have := hm.fid; omega) (by omega) hA.out).mono ?_
  rintro en w0 ⟨rfl, hA0⟩
  replace hA0 := hid hA0
  have l0 := hid (show (xs ++ Slot.r m .fid).length ≤ 32000 by have h1 := hf.len .fid; simp only [List.length_append] at *; omega)
  clear c0 c4
  have c17 : w0.cell? ⟨w.heap.size, 17, none⟩ = some (.int .u8 (m.mode : Int)) := hA0.out.cell 17
  go_wp2_with fail
  refine (ra_num1 m.mode (by have := hm.mode; omega) (by have h3 := l0.out; simp only [Slot.r] at h3; omega) hA0.out).mono ?_
  rintro en w1 ⟨rfl, hA1⟩
  replace hA1 := hid hA1
  have l1 := hid (show ((xs ++ Slot.r m .fid) ++ Slot.r m .mode).length ≤ 63000 by have h1 := hf.len .mode; have h2 := l0.out; simp only [List.length_append] at *; omega)
  clear c17
  go_wp2_with fail
  go_end0
  exact ⟨rfl, by have h9 := hA1.out.out; simpa [Slot.r, Slot.re, firstE_zero] using h9, hA1.out.st⟩
set_option maxHeartbeats 3200000 in
theorem rbody_113 (b : Nat) (xs : List UInt8) (e : Nat) (m : M) (vN vQ : Value) (d : ByteArray) (w : World) (hm : MOk m) (hf : RFew m) (hx : xs.length ≤ 1000) (h : RA0 w b m vN vQ d xs e) (ht : m.ty = 113) :
    Calls Tryz.prog 62 #[.pointer (some ⟨b, 0, none⟩), .agg (m.rcells vN vQ d)] w (RGood b (xs ++ ([.qid, .iounit] : List Slot).flatMap (Slot.r m)) ((([.qid, .iounit] : List Slot).map (Slot.re m)).foldl firstE e) w) := by
  obtain ⟨W, hW⟩ : ∃ W, W = w.alloc (.cells (m.rcells vN vQ d) 70) := ⟨_, rfl⟩
  have hA := hid (show RA w W b w.heap.size m vN vQ d xs e by rw [hW]; exact h.start)
  have c0 : W.cell? ⟨w.heap.size, 0, none⟩ = some (.int .u8 113) := by rw [hA.out.cell 0]; show some (Value.int .u8 (m.ty : Int)) = _; rw [ht]; rfl
  replace h := hid h
  clear ht
  have e_iounit : IntKind.u64.wrap (m.iounit : Int) = (m.iounit : Int) := IntWalk.u64_in _ (by have := hm.iounit; omega)
  simp only [M.rcells, M.cells] at hW ⊢
  go_enter Tryz.func62, Tryz.ntmps62
  have c13 : W.cell? ⟨w.heap.size, 13, none⟩ = some (.int .u8 (m.qid.t : Int)) := hA.out.cell 13
  have c14 : W.cell? ⟨w.heap.size, 14, none⟩ = some (.int .u32 (m.qid.v : Int)) := hA.out.cell 14
  have c15 : W.cell? ⟨w.heap.size, 15, none⟩ = some (.int .u64 (m.qid.p : Int)) := hA.out.cell 15
  go_wp2_with (rw [← hW]; replace hW := hid hW)
  try (rw [← hW]; replace hW := hid hW)
  refine (ra_qid m.qid hm.qid (by omega) hA.out).mono ?_
  rintro en w0 ⟨rfl, hA0⟩
  replace hA0 := hid hA0
  have l0 := hid (show (xs ++ Slot.r m .qid).length ≤ 32000 by have h1 := hf.len .qid; simp only [List.length_append] at *; omega)
  clear c0 c13 c14 c15
  have c16 : w0.cell? ⟨w.heap.size, 16, none⟩ = some (.int .u32 (m.iounit : Int)) := hA0.out.cell 16
  go_wp2_with fail
  refine (ra_num4 m.iounit (by have := hm.iounit; omega) (by have h3 := l0.out; simp only [Slot.r] at h3; omega) hA0.out).mono ?_
  rintro en w1 ⟨rfl, hA1⟩
  replace hA1 := hid hA1
  have l1 := hid (show ((xs ++ Slot.r m .qid) ++ Slot.r m .iounit).length ≤ 63000 by have h1 := hf.len .iounit; have h2 := l0.out; simp only [List.length_append] at *; omega)
  clear c16
  go_wp2_with fail
  go_end0
  exact ⟨rfl, by have h9 := hA1.out.out; simpa [Slot.r, Slot.re, firstE_zero] using h9, hA1.out.st⟩
set_option maxHeartbeats 3200000 in
theorem rbody_114 (b : Nat) (xs : List UInt8) (e : Nat) (m : M) (vN vQ : Value) (d : ByteArray) (w : World) (hm : MOk m) (hf : RFew m) (hx : xs.length ≤ 1000) (h : RA0 w b m vN vQ d xs e) (ht : m.ty = 114) :
    Calls Tryz.prog 62 #[.pointer (some ⟨b, 0, none⟩), .agg (m.rcells vN vQ d)] w (RGood b (xs ++ ([.fid, .name, .perm, .mode] : List Slot).flatMap (Slot.r m)) ((([.fid, .name, .perm, .mode] : List Slot).map (Slot.re m)).foldl firstE e) w) := by
  obtain ⟨W, hW⟩ : ∃ W, W = w.alloc (.cells (m.rcells vN vQ d) 70) := ⟨_, rfl⟩
  have hA := hid (show RA w W b w.heap.size m vN vQ d xs e by rw [hW]; exact h.start)
  have c0 : W.cell? ⟨w.heap.size, 0, none⟩ = some (.int .u8 114) := by rw [hA.out.cell 0]; show some (Value.int .u8 (m.ty : Int)) = _; rw [ht]; rfl
  replace h := hid h
  clear ht
  have e_fid : IntKind.u64.wrap (m.fid : Int) = (m.fid : Int) := IntWalk.u64_in _ (by have := hm.fid; omega)
  have e_perm : IntKind.u64.wrap (m.perm : Int) = (m.perm : Int) := IntWalk.u64_in _ (by have := hm.perm; omega)
  have e_mode : IntKind.u64.wrap (m.mode : Int) = (m.mode : Int) := IntWalk.u64_in _ (by have := hm.mode; omega)
  simp only [M.rcells, M.cells] at hW ⊢
  go_enter Tryz.func62, Tryz.ntmps62
  have c4 : W.cell? ⟨w.heap.size, 4, none⟩ = some (.int .u32 (m.fid : Int)) := hA.out.cell 4
  go_wp2_with (rw [← hW]; replace hW := hid hW)
  try (rw [← hW]; replace hW := hid hW)
  refine (ra_num4 m.fid (by have := hm.fid; omega) (by omega) hA.out).mono ?_
  rintro en w0 ⟨rfl, hA0⟩
  replace hA0 := hid hA0
  have l0 := hid (show (xs ++ Slot.r m .fid).length ≤ 32000 by have h1 := hf.len .fid; simp only [List.length_append] at *; omega)
  clear c0 c4
  have c19 : w0.cell? ⟨w.heap.size, 19, none⟩ = some (.string m.name) := hA0.out.cell 19
  go_wp2_with fail
  refine (ra_text m.name (by have := hf.few.name; omega) (by have h3 := l0.out; simp only [Slot.r] at h3; omega) hA0.out).mono ?_
  rintro en w1 ⟨rfl, hA1⟩
  replace hA1 := hid hA1
  have l1 := hid (show ((xs ++ Slot.r m .fid) ++ Slot.r m .name).length ≤ 63000 by have h1 := hf.len .name; have h2 := l0.out; simp only [List.length_append] at *; omega)
  clear c19
  have c18 : w1.cell? ⟨w.heap.size, 18, none⟩ = some (.int .u32 (m.perm : Int)) := hA1.out.cell 18
  go_wp2_with fail
  refine (ra_num4 m.perm (by have := hm.perm; omega) (by have h3 := l1.out; simp only [Slot.r] at h3; omega) hA1.out).mono ?_
  rintro en w2 ⟨rfl, hA2⟩
  replace hA2 := hid hA2
  have l2 := hid (show (((xs ++ Slot.r m .fid) ++ Slot.r m .name) ++ Slot.r m .perm).length ≤ 94000 by have h1 := hf.len .perm; have h2 := l1.out; simp only [List.length_append] at *; omega)
  clear c18
  have c17 : w2.cell? ⟨w.heap.size, 17, none⟩ = some (.int .u8 (m.mode : Int)) := hA2.out.cell 17
  go_wp2_with fail
  refine (ra_num1 m.mode (by have := hm.mode; omega) (by have h3 := l2.out; simp only [Slot.r] at h3; omega) hA2.out).mono ?_
  rintro en w3 ⟨rfl, hA3⟩
  replace hA3 := hid hA3
  have l3 := hid (show ((((xs ++ Slot.r m .fid) ++ Slot.r m .name) ++ Slot.r m .perm) ++ Slot.r m .mode).length ≤ 125000 by have h1 := hf.len .mode; have h2 := l2.out; simp only [List.length_append] at *; omega)
  clear c17
  go_wp2_with fail
  go_end0
  exact ⟨rfl, by have h9 := hA3.out.out; simpa [Slot.r, Slot.re, firstE_zero] using h9, hA3.out.st⟩
set_option maxHeartbeats 3200000 in
theorem rbody_115 (b : Nat) (xs : List UInt8) (e : Nat) (m : M) (vN vQ : Value) (d : ByteArray) (w : World) (hm : MOk m) (hf : RFew m) (hx : xs.length ≤ 1000) (h : RA0 w b m vN vQ d xs e) (ht : m.ty = 115) :
    Calls Tryz.prog 62 #[.pointer (some ⟨b, 0, none⟩), .agg (m.rcells vN vQ d)] w (RGood b (xs ++ ([.qid, .iounit] : List Slot).flatMap (Slot.r m)) ((([.qid, .iounit] : List Slot).map (Slot.re m)).foldl firstE e) w) := by
  obtain ⟨W, hW⟩ : ∃ W, W = w.alloc (.cells (m.rcells vN vQ d) 70) := ⟨_, rfl⟩
  have hA := hid (show RA w W b w.heap.size m vN vQ d xs e by rw [hW]; exact h.start)
  have c0 : W.cell? ⟨w.heap.size, 0, none⟩ = some (.int .u8 115) := by rw [hA.out.cell 0]; show some (Value.int .u8 (m.ty : Int)) = _; rw [ht]; rfl
  replace h := hid h
  clear ht
  have e_iounit : IntKind.u64.wrap (m.iounit : Int) = (m.iounit : Int) := IntWalk.u64_in _ (by have := hm.iounit; omega)
  simp only [M.rcells, M.cells] at hW ⊢
  go_enter Tryz.func62, Tryz.ntmps62
  have c13 : W.cell? ⟨w.heap.size, 13, none⟩ = some (.int .u8 (m.qid.t : Int)) := hA.out.cell 13
  have c14 : W.cell? ⟨w.heap.size, 14, none⟩ = some (.int .u32 (m.qid.v : Int)) := hA.out.cell 14
  have c15 : W.cell? ⟨w.heap.size, 15, none⟩ = some (.int .u64 (m.qid.p : Int)) := hA.out.cell 15
  go_wp2_with (rw [← hW]; replace hW := hid hW)
  try (rw [← hW]; replace hW := hid hW)
  refine (ra_qid m.qid hm.qid (by omega) hA.out).mono ?_
  rintro en w0 ⟨rfl, hA0⟩
  replace hA0 := hid hA0
  have l0 := hid (show (xs ++ Slot.r m .qid).length ≤ 32000 by have h1 := hf.len .qid; simp only [List.length_append] at *; omega)
  clear c0 c13 c14 c15
  have c16 : w0.cell? ⟨w.heap.size, 16, none⟩ = some (.int .u32 (m.iounit : Int)) := hA0.out.cell 16
  go_wp2_with fail
  refine (ra_num4 m.iounit (by have := hm.iounit; omega) (by have h3 := l0.out; simp only [Slot.r] at h3; omega) hA0.out).mono ?_
  rintro en w1 ⟨rfl, hA1⟩
  replace hA1 := hid hA1
  have l1 := hid (show ((xs ++ Slot.r m .qid) ++ Slot.r m .iounit).length ≤ 63000 by have h1 := hf.len .iounit; have h2 := l0.out; simp only [List.length_append] at *; omega)
  clear c16
  go_wp2_with fail
  go_end0
  exact ⟨rfl, by have h9 := hA1.out.out; simpa [Slot.r, Slot.re, firstE_zero] using h9, hA1.out.st⟩
set_option maxHeartbeats 3200000 in
theorem rbody_116 (b : Nat) (xs : List UInt8) (e : Nat) (m : M) (vN vQ : Value) (d : ByteArray) (w : World) (hm : MOk m) (hf : RFew m) (hx : xs.length ≤ 1000) (h : RA0 w b m vN vQ d xs e) (ht : m.ty = 116) :
    Calls Tryz.prog 62 #[.pointer (some ⟨b, 0, none⟩), .agg (m.rcells vN vQ d)] w (RGood b (xs ++ ([.fid, .offset, .count] : List Slot).flatMap (Slot.r m)) ((([.fid, .offset, .count] : List Slot).map (Slot.re m)).foldl firstE e) w) := by
  obtain ⟨W, hW⟩ : ∃ W, W = w.alloc (.cells (m.rcells vN vQ d) 70) := ⟨_, rfl⟩
  have hA := hid (show RA w W b w.heap.size m vN vQ d xs e by rw [hW]; exact h.start)
  have c0 : W.cell? ⟨w.heap.size, 0, none⟩ = some (.int .u8 116) := by rw [hA.out.cell 0]; show some (Value.int .u8 (m.ty : Int)) = _; rw [ht]; rfl
  replace h := hid h
  clear ht
  have e_fid : IntKind.u64.wrap (m.fid : Int) = (m.fid : Int) := IntWalk.u64_in _ (by have := hm.fid; omega)
  have e_count : IntKind.u64.wrap (m.count : Int) = (m.count : Int) := IntWalk.u64_in _ (by have := hm.count; omega)
  simp only [M.rcells, M.cells] at hW ⊢
  go_enter Tryz.func62, Tryz.ntmps62
  have c4 : W.cell? ⟨w.heap.size, 4, none⟩ = some (.int .u32 (m.fid : Int)) := hA.out.cell 4
  go_wp2_with (rw [← hW]; replace hW := hid hW)
  try (rw [← hW]; replace hW := hid hW)
  refine (ra_num4 m.fid (by have := hm.fid; omega) (by omega) hA.out).mono ?_
  rintro en w0 ⟨rfl, hA0⟩
  replace hA0 := hid hA0
  have l0 := hid (show (xs ++ Slot.r m .fid).length ≤ 32000 by have h1 := hf.len .fid; simp only [List.length_append] at *; omega)
  clear c0 c4
  have c20 : w0.cell? ⟨w.heap.size, 20, none⟩ = some (.int .u64 (m.offset : Int)) := hA0.out.cell 20
  go_wp2_with fail
  refine (ra_num8 m.offset (by have := hm.offset; omega) (by have h3 := l0.out; simp only [Slot.r] at h3; omega) hA0.out).mono ?_
  rintro en w1 ⟨rfl, hA1⟩
  replace hA1 := hid hA1
  have l1 := hid (show ((xs ++ Slot.r m .fid) ++ Slot.r m .offset).length ≤ 63000 by have h1 := hf.len .offset; have h2 := l0.out; simp only [List.length_append] at *; omega)
  clear c20
  have c21 : w1.cell? ⟨w.heap.size, 21, none⟩ = some (.int .u32 (m.count : Int)) := hA1.out.cell 21
  go_wp2_with fail
  refine (ra_num4 m.count (by have := hm.count; omega) (by have h3 := l1.out; simp only [Slot.r] at h3; omega) hA1.out).mono ?_
  rintro en w2 ⟨rfl, hA2⟩
  replace hA2 := hid hA2
  have l2 := hid (show (((xs ++ Slot.r m .fid) ++ Slot.r m .offset) ++ Slot.r m .count).length ≤ 94000 by have h1 := hf.len .count; have h2 := l1.out; simp only [List.length_append] at *; omega)
  clear c21
  go_wp2_with fail
  go_end0
  exact ⟨rfl, by have h9 := hA2.out.out; simpa [Slot.r, Slot.re, firstE_zero] using h9, hA2.out.st⟩
set_option maxHeartbeats 3200000 in
theorem rbody_119 (b : Nat) (xs : List UInt8) (e : Nat) (m : M) (vN vQ : Value) (d : ByteArray) (w : World) (hm : MOk m) (hf : RFew m) (hx : xs.length ≤ 1000) (h : RA0 w b m vN vQ d xs e) (ht : m.ty = 119) :
    Calls Tryz.prog 62 #[.pointer (some ⟨b, 0, none⟩), .agg (m.rcells vN vQ d)] w (RGood b (xs ++ ([.count] : List Slot).flatMap (Slot.r m)) ((([.count] : List Slot).map (Slot.re m)).foldl firstE e) w) := by
  obtain ⟨W, hW⟩ : ∃ W, W = w.alloc (.cells (m.rcells vN vQ d) 70) := ⟨_, rfl⟩
  have hA := hid (show RA w W b w.heap.size m vN vQ d xs e by rw [hW]; exact h.start)
  have c0 : W.cell? ⟨w.heap.size, 0, none⟩ = some (.int .u8 119) := by rw [hA.out.cell 0]; show some (Value.int .u8 (m.ty : Int)) = _; rw [ht]; rfl
  replace h := hid h
  clear ht
  have e_count : IntKind.u64.wrap (m.count : Int) = (m.count : Int) := IntWalk.u64_in _ (by have := hm.count; omega)
  simp only [M.rcells, M.cells] at hW ⊢
  go_enter Tryz.func62, Tryz.ntmps62
  have c21 : W.cell? ⟨w.heap.size, 21, none⟩ = some (.int .u32 (m.count : Int)) := hA.out.cell 21
  go_wp2_with (rw [← hW]; replace hW := hid hW)
  try (rw [← hW]; replace hW := hid hW)
  refine (ra_num4 m.count (by have := hm.count; omega) (by omega) hA.out).mono ?_
  rintro en w0 ⟨rfl, hA0⟩
  replace hA0 := hid hA0
  have l0 := hid (show (xs ++ Slot.r m .count).length ≤ 32000 by have h1 := hf.len .count; simp only [List.length_append] at *; omega)
  clear c0 c21
  go_wp2_with fail
  go_end0
  exact ⟨rfl, by have h9 := hA0.out.out; simpa [Slot.r, Slot.re, firstE_zero] using h9, hA0.out.st⟩
set_option maxHeartbeats 3200000 in
theorem rbody_120 (b : Nat) (xs : List UInt8) (e : Nat) (m : M) (vN vQ : Value) (d : ByteArray) (w : World) (hm : MOk m) (hf : RFew m) (hx : xs.length ≤ 1000) (h : RA0 w b m vN vQ d xs e) (ht : m.ty = 120) :
    Calls Tryz.prog 62 #[.pointer (some ⟨b, 0, none⟩), .agg (m.rcells vN vQ d)] w (RGood b (xs ++ ([.fid] : List Slot).flatMap (Slot.r m)) ((([.fid] : List Slot).map (Slot.re m)).foldl firstE e) w) := by
  obtain ⟨W, hW⟩ : ∃ W, W = w.alloc (.cells (m.rcells vN vQ d) 70) := ⟨_, rfl⟩
  have hA := hid (show RA w W b w.heap.size m vN vQ d xs e by rw [hW]; exact h.start)
  have c0 : W.cell? ⟨w.heap.size, 0, none⟩ = some (.int .u8 120) := by rw [hA.out.cell 0]; show some (Value.int .u8 (m.ty : Int)) = _; rw [ht]; rfl
  replace h := hid h
  clear ht
  have e_fid : IntKind.u64.wrap (m.fid : Int) = (m.fid : Int) := IntWalk.u64_in _ (by have := hm.fid; omega)
  simp only [M.rcells, M.cells] at hW ⊢
  go_enter Tryz.func62, Tryz.ntmps62
  have c4 : W.cell? ⟨w.heap.size, 4, none⟩ = some (.int .u32 (m.fid : Int)) := hA.out.cell 4
  go_wp2_with (rw [← hW]; replace hW := hid hW)
  try (rw [← hW]; replace hW := hid hW)
  refine (ra_num4 m.fid (by have := hm.fid; omega) (by omega) hA.out).mono ?_
  rintro en w0 ⟨rfl, hA0⟩
  replace hA0 := hid hA0
  have l0 := hid (show (xs ++ Slot.r m .fid).length ≤ 32000 by have h1 := hf.len .fid; simp only [List.length_append] at *; omega)
  clear c0 c4
  go_wp2_with fail
  go_end0
  exact ⟨rfl, by have h9 := hA0.out.out; simpa [Slot.r, Slot.re, firstE_zero] using h9, hA0.out.st⟩
set_option maxHeartbeats 3200000 in
theorem rbody_121 (b : Nat) (xs : List UInt8) (e : Nat) (m : M) (vN vQ : Value) (d : ByteArray) (w : World) (hm : MOk m) (hf : RFew m) (hx : xs.length ≤ 1000) (h : RA0 w b m vN vQ d xs e) (ht : m.ty = 121) :
    Calls Tryz.prog 62 #[.pointer (some ⟨b, 0, none⟩), .agg (m.rcells vN vQ d)] w (RGood b (xs ++ ([] : List Slot).flatMap (Slot.r m)) ((([] : List Slot).map (Slot.re m)).foldl firstE e) w) := by
  obtain ⟨W, hW⟩ : ∃ W, W = w.alloc (.cells (m.rcells vN vQ d) 70) := ⟨_, rfl⟩
  have hA := hid (show RA w W b w.heap.size m vN vQ d xs e by rw [hW]; exact h.start)
  have c0 : W.cell? ⟨w.heap.size, 0, none⟩ = some (.int .u8 121) := by rw [hA.out.cell 0]; show some (Value.int .u8 (m.ty : Int)) = _; rw [ht]; rfl
  replace h := hid h
  clear ht
  simp only [M.rcells, M.cells] at hW ⊢
  go_enter Tryz.func62, Tryz.ntmps62
  go_wp2_with (rw [← hW]; replace hW := hid hW)
  try (rw [← hW]; replace hW := hid hW)
  go_end0
  exact ⟨rfl, by have := hA.out.out; simpa using this, hA.out.st⟩
set_option maxHeartbeats 3200000 in
theorem rbody_122 (b : Nat) (xs : List UInt8) (e : Nat) (m : M) (vN vQ : Value) (d : ByteArray) (w : World) (hm : MOk m) (hf : RFew m) (hx : xs.length ≤ 1000) (h : RA0 w b m vN vQ d xs e) (ht : m.ty = 122) :
    Calls Tryz.prog 62 #[.pointer (some ⟨b, 0, none⟩), .agg (m.rcells vN vQ d)] w (RGood b (xs ++ ([.fid] : List Slot).flatMap (Slot.r m)) ((([.fid] : List Slot).map (Slot.re m)).foldl firstE e) w) := by
  obtain ⟨W, hW⟩ : ∃ W, W = w.alloc (.cells (m.rcells vN vQ d) 70) := ⟨_, rfl⟩
  have hA := hid (show RA w W b w.heap.size m vN vQ d xs e by rw [hW]; exact h.start)
  have c0 : W.cell? ⟨w.heap.size, 0, none⟩ = some (.int .u8 122) := by rw [hA.out.cell 0]; show some (Value.int .u8 (m.ty : Int)) = _; rw [ht]; rfl
  replace h := hid h
  clear ht
  have e_fid : IntKind.u64.wrap (m.fid : Int) = (m.fid : Int) := IntWalk.u64_in _ (by have := hm.fid; omega)
  simp only [M.rcells, M.cells] at hW ⊢
  go_enter Tryz.func62, Tryz.ntmps62
  have c4 : W.cell? ⟨w.heap.size, 4, none⟩ = some (.int .u32 (m.fid : Int)) := hA.out.cell 4
  go_wp2_with (rw [← hW]; replace hW := hid hW)
  try (rw [← hW]; replace hW := hid hW)
  refine (ra_num4 m.fid (by have := hm.fid; omega) (by omega) hA.out).mono ?_
  rintro en w0 ⟨rfl, hA0⟩
  replace hA0 := hid hA0
  have l0 := hid (show (xs ++ Slot.r m .fid).length ≤ 32000 by have h1 := hf.len .fid; simp only [List.length_append] at *; omega)
  clear c0 c4
  go_wp2_with fail
  go_end0
  exact ⟨rfl, by have h9 := hA0.out.out; simpa [Slot.r, Slot.re, firstE_zero] using h9, hA0.out.st⟩
set_option maxHeartbeats 3200000 in
theorem rbody_123 (b : Nat) (xs : List UInt8) (e : Nat) (m : M) (vN vQ : Value) (d : ByteArray) (w : World) (hm : MOk m) (hf : RFew m) (hx : xs.length ≤ 1000) (h : RA0 w b m vN vQ d xs e) (ht : m.ty = 123) :
    Calls Tryz.prog 62 #[.pointer (some ⟨b, 0, none⟩), .agg (m.rcells vN vQ d)] w (RGood b (xs ++ ([] : List Slot).flatMap (Slot.r m)) ((([] : List Slot).map (Slot.re m)).foldl firstE e) w) := by
  obtain ⟨W, hW⟩ : ∃ W, W = w.alloc (.cells (m.rcells vN vQ d) 70) := ⟨_, rfl⟩
  have hA := hid (show RA w W b w.heap.size m vN vQ d xs e by rw [hW]; exact h.start)
  have c0 : W.cell? ⟨w.heap.size, 0, none⟩ = some (.int .u8 123) := by rw [hA.out.cell 0]; show some (Value.int .u8 (m.ty : Int)) = _; rw [ht]; rfl
  replace h := hid h
  clear ht
  simp only [M.rcells, M.cells] at hW ⊢
  go_enter Tryz.func62, Tryz.ntmps62
  go_wp2_with (rw [← hW]; replace hW := hid hW)
  try (rw [← hW]; replace hW := hid hW)
  go_end0
  exact ⟨rfl, by have := hA.out.out; simpa using this, hA.out.st⟩
set_option maxHeartbeats 3200000 in
theorem rbody_124 (b : Nat) (xs : List UInt8) (e : Nat) (m : M) (vN vQ : Value) (d : ByteArray) (w : World) (hm : MOk m) (hf : RFew m) (hx : xs.length ≤ 1000) (h : RA0 w b m vN vQ d xs e) (ht : m.ty = 124) :
    Calls Tryz.prog 62 #[.pointer (some ⟨b, 0, none⟩), .agg (m.rcells vN vQ d)] w (RGood b (xs ++ ([.fid] : List Slot).flatMap (Slot.r m)) ((([.fid] : List Slot).map (Slot.re m)).foldl firstE e) w) := by
  obtain ⟨W, hW⟩ : ∃ W, W = w.alloc (.cells (m.rcells vN vQ d) 70) := ⟨_, rfl⟩
  have hA := hid (show RA w W b w.heap.size m vN vQ d xs e by rw [hW]; exact h.start)
  have c0 : W.cell? ⟨w.heap.size, 0, none⟩ = some (.int .u8 124) := by rw [hA.out.cell 0]; show some (Value.int .u8 (m.ty : Int)) = _; rw [ht]; rfl
  replace h := hid h
  clear ht
  have e_fid : IntKind.u64.wrap (m.fid : Int) = (m.fid : Int) := IntWalk.u64_in _ (by have := hm.fid; omega)
  simp only [M.rcells, M.cells] at hW ⊢
  go_enter Tryz.func62, Tryz.ntmps62
  have c4 : W.cell? ⟨w.heap.size, 4, none⟩ = some (.int .u32 (m.fid : Int)) := hA.out.cell 4
  go_wp2_with (rw [← hW]; replace hW := hid hW)
  try (rw [← hW]; replace hW := hid hW)
  refine (ra_num4 m.fid (by have := hm.fid; omega) (by omega) hA.out).mono ?_
  rintro en w0 ⟨rfl, hA0⟩
  replace hA0 := hid hA0
  have l0 := hid (show (xs ++ Slot.r m .fid).length ≤ 32000 by have h1 := hf.len .fid; simp only [List.length_append] at *; omega)
  clear c0 c4
  go_wp2_with fail
  go_end0
  exact ⟨rfl, by have h9 := hA0.out.out; simpa [Slot.r, Slot.re, firstE_zero] using h9, hA0.out.st⟩
set_option maxHeartbeats 3200000 in
theorem rbody_125 (b : Nat) (xs : List UInt8) (e : Nat) (m : M) (vN vQ : Value) (d : ByteArray) (w : World) (hm : MOk m) (hf : RFew m) (hx : xs.length ≤ 1000) (h : RA0 w b m vN vQ d xs e) (ht : m.ty = 125) :
    Calls Tryz.prog 62 #[.pointer (some ⟨b, 0, none⟩), .agg (m.rcells vN vQ d)] w (RGood b (xs ++ ([.stat] : List Slot).flatMap (Slot.r m)) ((([.stat] : List Slot).map (Slot.re m)).foldl firstE e) w) := by
  obtain ⟨W, hW⟩ : ∃ W, W = w.alloc (.cells (m.rcells vN vQ d) 70) := ⟨_, rfl⟩
  have hA := hid (show RA w W b w.heap.size m vN vQ d xs e by rw [hW]; exact h.start)
  have c0 : W.cell? ⟨w.heap.size, 0, none⟩ = some (.int .u8 125) := by rw [hA.out.cell 0]; show some (Value.int .u8 (m.ty : Int)) = _; rw [ht]; rfl
  replace h := hid h
  clear ht
  simp only [M.rcells, M.cells] at hW ⊢
  go_enter Tryz.func62, Tryz.ntmps62
  have c23 : W.cell? ⟨w.heap.size, 23, none⟩ = some (.int .u16 (m.stat.kind : Int)) := hA.out.cell 23
  have c24 : W.cell? ⟨w.heap.size, 24, none⟩ = some (.int .u32 (m.stat.dev : Int)) := hA.out.cell 24
  have c25 : W.cell? ⟨w.heap.size, 25, none⟩ = some (.int .u8 (m.stat.qt : Int)) := hA.out.cell 25
  have c26 : W.cell? ⟨w.heap.size, 26, none⟩ = some (.int .u32 (m.stat.qv : Int)) := hA.out.cell 26
  have c27 : W.cell? ⟨w.heap.size, 27, none⟩ = some (.int .u64 (m.stat.qp : Int)) := hA.out.cell 27
  have c28 : W.cell? ⟨w.heap.size, 28, none⟩ = some (.int .u32 (m.stat.mode : Int)) := hA.out.cell 28
  have c29 : W.cell? ⟨w.heap.size, 29, none⟩ = some (.int .u32 (m.stat.atm : Int)) := hA.out.cell 29
  have c30 : W.cell? ⟨w.heap.size, 30, none⟩ = some (.int .u32 (m.stat.mtm : Int)) := hA.out.cell 30
  have c31 : W.cell? ⟨w.heap.size, 31, none⟩ = some (.int .u64 (m.stat.len : Int)) := hA.out.cell 31
  have c32 : W.cell? ⟨w.heap.size, 32, none⟩ = some (.string m.stat.name) := hA.out.cell 32
  have c33 : W.cell? ⟨w.heap.size, 33, none⟩ = some (.string m.stat.uid) := hA.out.cell 33
  have c34 : W.cell? ⟨w.heap.size, 34, none⟩ = some (.string m.stat.gid) := hA.out.cell 34
  have c35 : W.cell? ⟨w.heap.size, 35, none⟩ = some (.string m.stat.muid) := hA.out.cell 35
  go_wp2_with (rw [← hW]; replace hW := hid hW)
  try (rw [← hW]; replace hW := hid hW)
  refine (ra_stat m.stat hm.stat hf.few.stat (by omega) hA.out).mono ?_
  rintro en w0 ⟨rfl, hA0⟩
  replace hA0 := hid hA0
  have l0 := hid (show (xs ++ Slot.r m .stat).length ≤ 32000 by have h1 := hf.len .stat; simp only [List.length_append] at *; omega)
  clear c0 c23 c24 c25 c26 c27 c28 c29 c30 c31 c32 c33 c34 c35
  go_wp2_with fail
  go_end0
  exact ⟨rfl, by have h9 := hA0.out.out; simpa [Slot.r, Slot.re, firstE_zero] using h9, hA0.out.st⟩
set_option maxHeartbeats 3200000 in
theorem rbody_126 (b : Nat) (xs : List UInt8) (e : Nat) (m : M) (vN vQ : Value) (d : ByteArray) (w : World) (hm : MOk m) (hf : RFew m) (hx : xs.length ≤ 1000) (h : RA0 w b m vN vQ d xs e) (ht : m.ty = 126) :
    Calls Tryz.prog 62 #[.pointer (some ⟨b, 0, none⟩), .agg (m.rcells vN vQ d)] w (RGood b (xs ++ ([.fid, .stat] : List Slot).flatMap (Slot.r m)) ((([.fid, .stat] : List Slot).map (Slot.re m)).foldl firstE e) w) := by
  obtain ⟨W, hW⟩ : ∃ W, W = w.alloc (.cells (m.rcells vN vQ d) 70) := ⟨_, rfl⟩
  have hA := hid (show RA w W b w.heap.size m vN vQ d xs e by rw [hW]; exact h.start)
  have c0 : W.cell? ⟨w.heap.size, 0, none⟩ = some (.int .u8 126) := by rw [hA.out.cell 0]; show some (Value.int .u8 (m.ty : Int)) = _; rw [ht]; rfl
  replace h := hid h
  clear ht
  have e_fid : IntKind.u64.wrap (m.fid : Int) = (m.fid : Int) := IntWalk.u64_in _ (by have := hm.fid; omega)
  simp only [M.rcells, M.cells] at hW ⊢
  go_enter Tryz.func62, Tryz.ntmps62
  have c4 : W.cell? ⟨w.heap.size, 4, none⟩ = some (.int .u32 (m.fid : Int)) := hA.out.cell 4
  go_wp2_with (rw [← hW]; replace hW := hid hW)
  try (rw [← hW]; replace hW := hid hW)
  refine (ra_num4 m.fid (by have := hm.fid; omega) (by omega) hA.out).mono ?_
  rintro en w0 ⟨rfl, hA0⟩
  replace hA0 := hid hA0
  have l0 := hid (show (xs ++ Slot.r m .fid).length ≤ 32000 by have h1 := hf.len .fid; simp only [List.length_append] at *; omega)
  clear c0 c4
  have c23 : w0.cell? ⟨w.heap.size, 23, none⟩ = some (.int .u16 (m.stat.kind : Int)) := hA0.out.cell 23
  have c24 : w0.cell? ⟨w.heap.size, 24, none⟩ = some (.int .u32 (m.stat.dev : Int)) := hA0.out.cell 24
  have c25 : w0.cell? ⟨w.heap.size, 25, none⟩ = some (.int .u8 (m.stat.qt : Int)) := hA0.out.cell 25
  have c26 : w0.cell? ⟨w.heap.size, 26, none⟩ = some (.int .u32 (m.stat.qv : Int)) := hA0.out.cell 26
  have c27 : w0.cell? ⟨w.heap.size, 27, none⟩ = some (.int .u64 (m.stat.qp : Int)) := hA0.out.cell 27
  have c28 : w0.cell? ⟨w.heap.size, 28, none⟩ = some (.int .u32 (m.stat.mode : Int)) := hA0.out.cell 28
  have c29 : w0.cell? ⟨w.heap.size, 29, none⟩ = some (.int .u32 (m.stat.atm : Int)) := hA0.out.cell 29
  have c30 : w0.cell? ⟨w.heap.size, 30, none⟩ = some (.int .u32 (m.stat.mtm : Int)) := hA0.out.cell 30
  have c31 : w0.cell? ⟨w.heap.size, 31, none⟩ = some (.int .u64 (m.stat.len : Int)) := hA0.out.cell 31
  have c32 : w0.cell? ⟨w.heap.size, 32, none⟩ = some (.string m.stat.name) := hA0.out.cell 32
  have c33 : w0.cell? ⟨w.heap.size, 33, none⟩ = some (.string m.stat.uid) := hA0.out.cell 33
  have c34 : w0.cell? ⟨w.heap.size, 34, none⟩ = some (.string m.stat.gid) := hA0.out.cell 34
  have c35 : w0.cell? ⟨w.heap.size, 35, none⟩ = some (.string m.stat.muid) := hA0.out.cell 35
  go_wp2_with fail
  refine (ra_stat m.stat hm.stat hf.few.stat (by have h3 := l0.out; simp only [Slot.r] at h3; omega) hA0.out).mono ?_
  rintro en w1 ⟨rfl, hA1⟩
  replace hA1 := hid hA1
  have l1 := hid (show ((xs ++ Slot.r m .fid) ++ Slot.r m .stat).length ≤ 63000 by have h1 := hf.len .stat; have h2 := l0.out; simp only [List.length_append] at *; omega)
  clear c23 c24 c25 c26 c27 c28 c29 c30 c31 c32 c33 c34 c35
  go_wp2_with fail
  go_end0
  exact ⟨rfl, by have h9 := hA1.out.out; simpa [Slot.r, Slot.re, firstE_zero] using h9, hA1.out.st⟩
set_option maxHeartbeats 3200000 in
theorem rbody_127 (b : Nat) (xs : List UInt8) (e : Nat) (m : M) (vN vQ : Value) (d : ByteArray) (w : World) (hm : MOk m) (hf : RFew m) (hx : xs.length ≤ 1000) (h : RA0 w b m vN vQ d xs e) (ht : m.ty = 127) :
    Calls Tryz.prog 62 #[.pointer (some ⟨b, 0, none⟩), .agg (m.rcells vN vQ d)] w (RGood b (xs ++ ([] : List Slot).flatMap (Slot.r m)) ((([] : List Slot).map (Slot.re m)).foldl firstE e) w) := by
  obtain ⟨W, hW⟩ : ∃ W, W = w.alloc (.cells (m.rcells vN vQ d) 70) := ⟨_, rfl⟩
  have hA := hid (show RA w W b w.heap.size m vN vQ d xs e by rw [hW]; exact h.start)
  have c0 : W.cell? ⟨w.heap.size, 0, none⟩ = some (.int .u8 127) := by rw [hA.out.cell 0]; show some (Value.int .u8 (m.ty : Int)) = _; rw [ht]; rfl
  replace h := hid h
  clear ht
  simp only [M.rcells, M.cells] at hW ⊢
  go_enter Tryz.func62, Tryz.ntmps62
  go_wp2_with (rw [← hW]; replace hW := hid hW)
  try (rw [← hW]; replace hW := hid hW)
  go_end0
  exact ⟨rfl, by have := hA.out.out; simpa using this, hA.out.st⟩
end
end Go.Proofs.YtcbglcebdkpcfaaGreat

namespace Go.Proofs.YtcbglcebdkpcfaaGreat
section
open Go.RowKit
set_option maxRecDepth 100000
set_option linter.unusedVariables false

theorem rbody_any (b : Nat) (xs : List UInt8) (e : Nat) (m : M) (vN vQ : Value) (d : ByteArray) (w : World) (hm : MOk m) (hf : RFew m) (hx : xs.length ≤ 1000) (h : RA0 w b m vN vQ d xs e) (hk : 100 ≤ m.ty ∧ m.ty ≤ 127 ∧ m.ty ≠ 106) :
    Calls Tryz.prog 62 #[.pointer (some ⟨b, 0, none⟩), .agg (m.rcells vN vQ d)] w (RGood b (xs ++ m.rbytes) (m.rerr e) w) := by
  unfold M.rbytes M.rerr
  have hc : m.ty = 100 ∨ m.ty = 101 ∨ m.ty = 102 ∨ m.ty = 103 ∨ m.ty = 104 ∨ m.ty = 105 ∨ m.ty = 107 ∨ m.ty = 108 ∨ m.ty = 109 ∨ m.ty = 110 ∨ m.ty = 111 ∨ m.ty = 112 ∨ m.ty = 113 ∨ m.ty = 114 ∨ m.ty = 115 ∨ m.ty = 116 ∨ m.ty = 117 ∨ m.ty = 118 ∨ m.ty = 119 ∨ m.ty = 120 ∨ m.ty = 121 ∨ m.ty = 122 ∨ m.ty = 123 ∨ m.ty = 124 ∨ m.ty = 125 ∨ m.ty = 126 ∨ m.ty = 127 := by omega
  rcases hc with ht | ht | ht | ht | ht | ht | ht | ht | ht | ht | ht | ht | ht | ht | ht | ht | ht | ht | ht | ht | ht | ht | ht | ht | ht | ht | ht
  · have := rbody_100 b xs e m vN vQ d w hm hf hx h ht
    rw [ht]
    exact this
  · have := rbody_101 b xs e m vN vQ d w hm hf hx h ht
    rw [ht]
    exact this
  · have := rbody_102 b xs e m vN vQ d w hm hf hx h ht
    rw [ht]
    exact this
  · have := rbody_103 b xs e m vN vQ d w hm hf hx h ht
    rw [ht]
    exact this
  · have := rbody_104 b xs e m vN vQ d w hm hf hx h ht
    rw [ht]
    exact this
  · have := rbody_105 b xs e m vN vQ d w hm hf hx h ht
    rw [ht]
    exact this
  · have := rbody_107 b xs e m vN vQ d w hm hf hx h ht
    rw [ht]
    exact this
  · have := rbody_108 b xs e m vN vQ d w hm hf hx h ht
    rw [ht]
    exact this
  · have := rbody_109 b xs e m vN vQ d w hm hf hx h ht
    rw [ht]
    exact this
  · have := rbody_110 b xs e m vN vQ d w hm hf hx h ht
    rw [ht]
    exact this
  · have := rbody_111 b xs e m vN vQ d w hm hf hx h ht
    rw [ht]
    exact this
  · have := rbody_112 b xs e m vN vQ d w hm hf hx h ht
    rw [ht]
    exact this
  · have := rbody_113 b xs e m vN vQ d w hm hf hx h ht
    rw [ht]
    exact this
  · have := rbody_114 b xs e m vN vQ d w hm hf hx h ht
    rw [ht]
    exact this
  · have := rbody_115 b xs e m vN vQ d w hm hf hx h ht
    rw [ht]
    exact this
  · have := rbody_116 b xs e m vN vQ d w hm hf hx h ht
    rw [ht]
    exact this
  · have := rbody_117 b xs e m vN vQ d w hm hf hx h ht
    rw [ht]
    exact this
  · have := rbody_118 b xs e m vN vQ d w hm hf hx h ht
    rw [ht]
    exact this
  · have := rbody_119 b xs e m vN vQ d w hm hf hx h ht
    rw [ht]
    exact this
  · have := rbody_120 b xs e m vN vQ d w hm hf hx h ht
    rw [ht]
    exact this
  · have := rbody_121 b xs e m vN vQ d w hm hf hx h ht
    rw [ht]
    exact this
  · have := rbody_122 b xs e m vN vQ d w hm hf hx h ht
    rw [ht]
    exact this
  · have := rbody_123 b xs e m vN vQ d w hm hf hx h ht
    rw [ht]
    exact this
  · have := rbody_124 b xs e m vN vQ d w hm hf hx h ht
    rw [ht]
    exact this
  · have := rbody_125 b xs e m vN vQ d w hm hf hx h ht
    rw [ht]
    exact this
  · have := rbody_126 b xs e m vN vQ d w hm hf hx h ht
    rw [ht]
    exact this
  · have := rbody_127 b xs e m vN vQ d w hm hf hx h ht
    rw [ht]
    exact this
end
end Go.Proofs.YtcbglcebdkpcfaaGreat
