/- What tried and Decode of msg return, for any bytes. Conditions: the length is at most a thousand million. And the texts behind it. -/
import Derived.Test.YtcbglcebdkpcfaaGreatCeA14
import Derived.Laws.CopyOwn
import Derived.Test.YtcbglcebdkpcfaaGreatCeA10
import Derived.Conc.LoneCalls
import Derived.Conc.LoneSelectN
import Derived.Test.YtcbglcebdkpcfaaGreatCeA01
namespace Go.Proofs.YtcbglcebdkpcfaaGreat
section
open Go.RowKit
set_option maxRecDepth 100000
set_option linter.unusedVariables false

theorem MVal.zero {w : World} {B : Nat} : MVal w zeroM (.agg (zeroM.cells (.slice none 0 0) (.slice none 0 0) (.slice none 0 0))) B :=
  ⟨_, _, _, rfl, ⟨RowAt.nil, fun k hk => by cases hk⟩, ⟨RowAt.nil, fun k hk => by cases hk⟩, ⟨RowAt.nil, fun k hk => by cases hk⟩⟩
theorem MVal.other {w w' : World} {m : M} {v : Value} {B B' : Nat} (h : MVal w m v B) (hsz : w.heap.size ≤ w'.heap.size) (hk : ∀ j, B ≤ j → j < w.heap.size → w'.heap[j]? = w.heap[j]?) (hB : B' ≤ B) : MVal w' m v B' := by
  obtain ⟨vN, vQ, vD, rfl, ⟨hN, hN2⟩, ⟨hQ, hQ2⟩, ⟨hD, hD2⟩⟩ := h
  exact ⟨vN, vQ, vD, rfl, ⟨RowAt.other hN hsz fun j hj => hk j (hN2 j hj) (RowAt.blk hN hj), fun k h => by have := hN2 k h; omega⟩, ⟨RowAt.other hQ hsz fun j hj => hk j (hQ2 j hj) (RowAt.blk hQ hj), fun k h => by have := hQ2 k h; omega⟩, ⟨RowAt.other hD hsz fun j hj => hk j (hD2 j hj) (RowAt.blk hD hj), fun k h => by have := hD2 k h; omega⟩⟩
theorem MVal.cells {w : World} {m : M} {v : Value} {B : Nat} (h : MVal w m v B) : ∃ cs : Array Value, v = .agg cs ∧ cs.size = 36 ∧ cs.all (·.oneCell') = true := by
  obtain ⟨vN, vQ, vD, rfl, ⟨hN, hN2⟩, ⟨hQ, hQ2⟩, ⟨hD, hD2⟩⟩ := h
  obtain ⟨aN, cN, rfl, _, _⟩ := hN.form
  obtain ⟨aQ, cQ, rfl, _, _⟩ := hQ.form
  obtain ⟨aD, cD, rfl, _, _, _⟩ := hD.form
  exact ⟨_, rfl, rfl, by kernel_rfl⟩

def TriedM (w : World) (l : List UInt8) (e : Ending) (w' : World) : Prop :=
  Below w.heap.size w w' ∧ ∃ (v : Value) (er : Nat), e = .returned (.tuple #[v, .int .i64 (er : Int)]) ∧ (er = 0 ↔ isM l = true) ∧ MVal w' (if isM l then decM l else zeroM) v w.heap.size

theorem tried_results {tmps : Array Value} {w : World} {g k : Nat} {cs : Array Value} {e : Int} (h2 : tmps.getD 2 undef = .pointer (some ⟨g, 0, none⟩)) (h4 : tmps.getD 3 undef = .pointer (some ⟨k, 0, none⟩))
    (hg : w.heap[g]? = some (.cells cs 41 (0, 0))) (hs : cs.size = 36) (hk : w.cell? ⟨k, 0, none⟩ = some (.int .i64 e)) : (results Tryz.f58 tmps).run Tryz.prog w = .ok (.tuple #[.agg cs, .int .i64 e]) w := by
  have hi : (Tryz.prog.info? 41).map (·.size) = some cs.size := by rw [hs]; kernel_rfl
  have h2' : tmps[2]?.getD undef = .pointer (some ⟨g, 0, none⟩) := by simpa using h2
  have h4' : tmps[3]?.getD undef = .pointer (some ⟨k, 0, none⟩) := by simpa using h4
  have hkv : (loadVar 43 ⟨k, 0, none⟩).run Tryz.prog w = .ok (.int .i64 e) w := by simp [go_sem, hk]
  simp [results, Tryz.results58, h2', h4', asAddr, run_loadVar_row w g 41 41 cs (0, 0) _ hg Tryz.underlying41 rfl hi, hkv]
theorem decode_results {tmps : Array Value} {w : World} {g : Nat} {cs : Array Value} {x : Value} (h2 : tmps.getD 2 undef = .pointer (some ⟨g, 0, none⟩)) (h4 : tmps.getD 3 undef = x)
    (hg : w.heap[g]? = some (.cells cs 41 (0, 0))) (hs : cs.size = 36) : (results Tryz.f34 tmps).run Tryz.prog w = .ok (.tuple #[.agg cs, x]) w := by
  have hi : (Tryz.prog.info? 41).map (·.size) = some cs.size := by rw [hs]; kernel_rfl
  have h2' : tmps[2]?.getD undef = .pointer (some ⟨g, 0, none⟩) := by simpa using h2
  have h4' : tmps[3]?.getD undef = x := by simpa using h4
  simp [results, Tryz.results34, h2', h4', asAddr, run_loadVar_row w g 41 41 cs (0, 0) _ hg Tryz.underlying41 rfl hi]

set_option maxHeartbeats 1600000 in
theorem mtried_any (v : Value) (l : List UInt8) (w : World) (hv : BytesAt w v l) (hl : l.length ≤ 1000000000) : Calls Tryz.prog 58 #[v] w (TriedM w l) := by
  obtain ⟨a, c, rfl, _, _, _⟩ := hv.form
  obtain ⟨W0, hW0⟩ : ∃ W, W = (w.alloc (.cells (zeroM.cells (.slice none 0 0) (.slice none 0 0) (.slice none 0 0)) 41)).alloc (.cells #[.int .i64 0] 43) := ⟨_, rfl⟩
  have hb0 : Below w.heap.size w W0 := by rw [hW0]; exact ((Below.refl w.heap.size w).alloc (Nat.le_refl _) _).alloc (by simp) _
  have hv0 := hv.below hb0
  have hr0 : W0.heap[w.heap.size]? = some (.cells (zeroM.cells (.slice none 0 0) (.slice none 0 0) (.slice none 0 0)) 41 (0, 0)) := by rw [hW0, heap_alloc_old _ _ (by simp), heap_alloc_new]
  have hk0 : W0.heap[w.heap.size + 1]? = some (.cells #[.int .i64 0] 43 (0, 0)) := by rw [hW0]; exact heap2 _ _ _
  have hz0 : W0.heap.size = w.heap.size + 2 := by rw [hW0]; simp
  replace hr0 := hid hr0
  replace hk0 := hid hk0
  rw [nil_cells] at hW0
  have hread := hid (mread_any _ l W0 hv0 hl)
  replace hb0 := hid hb0
  clear hv hv0
  go_enter_defers Tryz.func58, Tryz.ntmps58
  go_wp2_with fail
  rw [← hW0]
  replace hW0 := hid hW0
  refine hread.out.mono ?_
  rintro e w1 ⟨hb1, h1⟩
  have hr1 := hid ((hb1.block w.heap.size (by omega)).trans hr0.out)
  have hk1 := hid ((hb1.block (w.heap.size + 1) (by omega)).trans hk0.out)
  have hbb : Hid (Below w.heap.size w w1) := hid (hb0.out.trans (hb1.mono (by omega)))
  have hz1 := hb1.size
  by_cases hM : isM l = true
  case neg =>
    rw [if_neg hM] at h1
    obtain ⟨er, hne, rfl⟩ := h1
    have hM2 := hid hM
    replace hne := hid hne
    clear hM hb1
    go_wp2_with fail
    refine leaves_cons (f := 68) (args := #[.pointer (some ⟨w.heap.size + 1, 0, none⟩)]) (by simp) (by simp [go_sem]) ?_
    refine (mcaught_panicking (w.heap.size + 1) 0 er _ hk1.out).mono ?_
    rintro en u' w'' ⟨rfl, rfl, rfl⟩
    simp only [settle, errChainR]
    refine ⟨_, tried_results rfl rfl ((block_set_other (by show _ ≠ _; simp)).trans hr1.out) rfl (block_cell (block_set hk1.out 0 _) 0), ?_⟩
    refine ⟨hbb.out.setCell (by simp) _, _, er, rfl, ⟨fun h => absurd h hne.out, fun h => absurd h hM2.out⟩, ?_⟩
    rw [if_neg hM2.out]
    exact MVal.zero
  rw [if_pos hM] at h1
  obtain ⟨v, rfl, hval⟩ := h1
  obtain ⟨cs, rfl, hcs, hone⟩ := hval.cells
  have hM2 := hid hM
  replace hval := hid hval
  replace hone := hid hone
  replace hcs := hid hcs
  have hk9 : (w1.setRow w.heap.size cs).heap[w.heap.size + 1]? = some (.cells #[.int .i64 0] 43 (0, 0)) := (setRow_other _ _ _ _ (by omega)).trans hk1.out
  have ck9 : (w1.setRow w.heap.size cs).cell? ⟨w.heap.size + 1, 0, none⟩ = some (.int .i64 0) := block_cell hk9 0
  have fk9 : (w1.setRow w.heap.size cs).frozen? ⟨w.heap.size + 1, 0, none⟩ = false := block_free hk9 0
  have hr9 := hid (setRow_heap _ _ _ cs _ _ hr1.out)
  replace hk9 := hid hk9
  clear hM hb1
  go_wp2_with (refine wpList_store_row (by rfl) 41 (.tmp 2) (.tmp 5) (by rfl) w.heap.size _ (by rfl) (by rfl) 41 _ hr1.out (by rw [hcs.out]; kernel_rfl) (by rw [hcs.out]; rfl) hone.out ?_)
  refine leaves_cons (f := 68) (args := #[.pointer (some ⟨w.heap.size + 1, 0, none⟩)]) (by simp) (by simp [go_sem]) ?_
  refine (mcaught_idle (w.heap.size + 1) _).mono ?_
  rintro en u' w'' ⟨rfl, rfl, rfl⟩
  simp only [settle]
  refine ⟨_, tried_results rfl rfl ((block_set_other (by show _ ≠ _; simp)).trans hr9.out) hcs.out (block_cell (block_set hk9.out 0 _) 0), ?_⟩
  refine ⟨(below_setRow hbb.out (Nat.le_refl _) _).setCell (by simp) _, _, 0, rfl, ⟨fun _ => hM2.out, fun _ => rfl⟩, ?_⟩
  rw [if_pos hM2.out]
  exact hval.out.other (by simp) (fun j h1 h2 => (block_set_other (by show j ≠ w.heap.size + 1; omega)).trans (setRow_other _ _ _ _ (by omega))) (by omega)

def DecodeM (w : World) (l : List UInt8) (e : Ending) (w' : World) : Prop :=
  Below w.heap.size w w' ∧ ∃ v, e = .returned (.tuple #[v, .int .i64 (if isM l then 0 else 2)]) ∧ MVal w' (if isM l then decM l else zeroM) v w.heap.size

set_option maxHeartbeats 1600000 in
theorem mdecode_any (v : Value) (l : List UInt8) (w : World) (hv : BytesAt w v l) (hl : l.length ≤ 1000000000) : Calls Tryz.prog 34 #[v] w (DecodeM w l) := by
  obtain ⟨a, c, rfl, _, _, _⟩ := hv.form
  obtain ⟨W0, hW0⟩ : ∃ W, W = w.alloc (.cells (zeroM.cells (.slice none 0 0) (.slice none 0 0) (.slice none 0 0)) 41) := ⟨_, rfl⟩
  have hb0 : Below w.heap.size w W0 := by rw [hW0]; exact (Below.refl w.heap.size w).alloc (Nat.le_refl _) _
  have hv0 := hv.below hb0
  have hr0 : W0.heap[w.heap.size]? = some (.cells (zeroM.cells (.slice none 0 0) (.slice none 0 0) (.slice none 0 0)) 41 (0, 0)) := by rw [hW0, heap_alloc_new]
  have hz0 : W0.heap.size = w.heap.size + 1 := by rw [hW0]; simp
  replace hr0 := hid hr0
  rw [nil_cells] at hW0
  have htr := hid (mtried_any _ l W0 hv0 hl)
  replace hb0 := hid hb0
  clear hv hv0
  go_enter Tryz.func34, Tryz.ntmps34
  go_wp2_with fail
  rw [← hW0]
  replace hW0 := hid hW0
  refine htr.out.mono ?_
  rintro e w1 ⟨hb1, v, er, rfl, her, hval⟩
  obtain ⟨cs, rfl, hcs, hone⟩ := hval.cells
  have hr1 := hid ((hb1.block w.heap.size (by omega)).trans hr0.out)
  have hbb := hid (hb0.out.trans (hb1.mono (by omega)))
  have hz1 := hb1.size
  have hnew := hid (heap_alloc_new w1 (.cells (zeroM.cells (.slice none 0 0) (.slice none 0 0) (.slice none 0 0)) 41))
  have hn2 := hid (setRow_heap _ _ _ cs _ _ hnew.out)
  have hr2 := hid ((setRow_other (w1.alloc (.cells (zeroM.cells (.slice none 0 0) (.slice none 0 0) (.slice none 0 0)) 41)) w1.heap.size w.heap.size cs (by omega)).trans ((heap_alloc_old w1 (.cells (zeroM.cells (.slice none 0 0) (.slice none 0 0) (.slice none 0 0)) 41) (by omega)).trans hr1.out))
  have hbb2 : Hid (Below w.heap.size w ((w1.alloc (.cells (zeroM.cells (.slice none 0 0) (.slice none 0 0) (.slice none 0 0)) 41)).setRow w1.heap.size cs)) := hid (below_setRow (hbb.out.alloc (by omega) _) (by omega) cs)
  have hv2 : Hid (MVal ((w1.alloc (.cells (zeroM.cells (.slice none 0 0) (.slice none 0 0) (.slice none 0 0)) 41)).setRow w1.heap.size cs) (if isM l then decM l else zeroM) (.agg cs) W0.heap.size) := hid (hval.other (by simp) (fun j h1 h2 => (setRow_other _ _ _ _ (by omega)).trans (heap_alloc_old _ _ (by omega))) (Nat.le_refl _))
  rw [nil_cells] at hnew hn2 hr2 hbb2 hv2
  replace hone := hid hone
  replace hcs := hid hcs
  replace hval := hid hval
  replace hb1 := hid hb1
  by_cases h0 : er = 0
  · have hM := hid (her.1 h0)
    subst h0
    clear her
    go_wp2_with (first
      | (refine wpList_store_row (by rfl) 41 (.tmp 4) (.tmp 9) (by rfl) w1.heap.size _ (by rfl) (by rfl) 41 _ hnew.out (by rw [hcs.out]; kernel_rfl) (by rw [hcs.out]; rfl) hone.out ?_)
      | (refine wpList_load_row (by rfl) 41 (.tmp 4) (by rfl) w1.heap.size (by rfl) 41 _ (0, 0) _ hn2.out Tryz.underlying41 (by rfl) (by rw [hcs.out]; kernel_rfl) ?_)
      | (refine wpList_store_row (by rfl) 41 (.tmp 2) (.tmp 14) (by rfl) w.heap.size _ (by rfl) (by rfl) 41 _ hr2.out (by rw [hcs.out]; kernel_rfl) (by rw [hcs.out]; rfl) hone.out ?_))
    refine bodyPost_ret (decode_results rfl rfl (setRow_heap _ _ _ cs _ _ hr2.out) hcs.out) rfl ?_
    refine ⟨below_setRow hbb2.out (Nat.le_refl _) _, _, by rw [if_pos hM.out]; rfl, hv2.out.other (by simp) (fun j h1 h2 => setRow_other _ _ _ _ (by omega)) (by omega)⟩
  · have hM : Hid (¬ isM l = true) := hid (fun h => h0 (her.2 h))
    have k0 : ((er : Int) != 0) = true := by simpa using h0
    clear her
    replace h0 := hid h0
    go_wp2_with (first
      | (refine wpList_store_row (by rfl) 41 (.tmp 4) (.tmp 9) (by rfl) w1.heap.size _ (by rfl) (by rfl) 41 _ hnew.out (by rw [hcs.out]; kernel_rfl) (by rw [hcs.out]; rfl) hone.out ?_)
      | (refine wpList_store_row (by rfl) 41 (.tmp 2) (.tmp 13) (by rfl) w.heap.size (zeroM.cells (.slice none 0 0) (.slice none 0 0) (.slice none 0 0)) (by rfl) (by rfl) 41 _ hr2.out (by kernel_rfl) (by kernel_rfl) (by kernel_rfl) ?_))
    refine bodyPost_ret (decode_results rfl rfl (setRow_heap _ _ _ (zeroM.cells (.slice none 0 0) (.slice none 0 0) (.slice none 0 0)) _ _ hr2.out) rfl) rfl ?_
    refine ⟨below_setRow hbb2.out (Nat.le_refl _) _, _, by rw [if_neg hM.out]; rfl, ?_⟩
    rw [if_neg hM.out]
    exact MVal.zero
end
end Go.Proofs.YtcbglcebdkpcfaaGreat

namespace Go.Proofs.YtcbglcebdkpcfaaGreat
section
open Go.RowKit
set_option maxRecDepth 100000
set_option linter.unusedVariables false

def wordS : Nat → ByteArray
  | 0 => ⟨#[111, 107]⟩
  | 1 => ⟨#[98, 97, 100, 32, 110, 117, 109, 98, 101, 114]⟩
  | 2 => ⟨#[98, 97, 100, 32, 109, 101, 115, 115, 97, 103, 101]⟩
  | 3 => ⟨#[116, 111, 111, 32, 108, 111, 110, 103]⟩
  | 4 => ⟨#[116, 111, 111, 32, 115, 104, 111, 114, 116]⟩
  | 5 => ⟨#[112, 101, 114, 109, 105, 115, 115, 105, 111, 110, 32, 100, 101, 110, 105, 101, 100]⟩
  | 6 => ⟨#[102, 105, 108, 101, 32, 100, 111, 101, 115, 32, 110, 111, 116, 32, 101, 120, 105, 115, 116]⟩
  | 7 => ⟨#[102, 105, 108, 101, 32, 97, 108, 114, 101, 97, 100, 121, 32, 101, 120, 105, 115, 116, 115]⟩
  | 8 => ⟨#[117, 110, 107, 110, 111, 119, 110, 32, 102, 105, 100]⟩
  | 9 => ⟨#[102, 105, 100, 32, 105, 110, 32, 117, 115, 101]⟩
  | 10 => ⟨#[102, 105, 100, 32, 105, 115, 32, 111, 112, 101, 110]⟩
  | 11 => ⟨#[102, 105, 100, 32, 110, 111, 116, 32, 111, 112, 101, 110, 32, 115, 111]⟩
  | 12 => ⟨#[105, 115, 32, 97, 32, 100, 105, 114, 101, 99, 116, 111, 114, 121]⟩
  | 13 => ⟨#[110, 111, 116, 32, 97, 32, 100, 105, 114, 101, 99, 116, 111, 114, 121]⟩
  | 14 => ⟨#[110, 111, 32, 114, 111, 111, 109, 32, 108, 101, 102, 116]⟩
  | 15 => ⟨#[100, 105, 114, 101, 99, 116, 111, 114, 121, 32, 110, 111, 116, 32, 101, 109, 112, 116, 121]⟩
  | 16 => ⟨#[100, 117, 112, 108, 105, 99, 97, 116, 101, 32, 116, 97, 103]⟩
  | 17 => ⟨#[110, 111, 32, 118, 101, 114, 115, 105, 111, 110, 32, 121, 101, 116]⟩
  | 18 => ⟨#[110, 111, 32, 97, 117, 116, 104, 101, 110, 116, 105, 99, 97, 116, 105, 111, 110, 32, 114, 101, 113, 117, 105, 114, 101, 100]⟩
  | 19 => ⟨#[117, 110, 107, 110, 111, 119, 110, 32, 117, 115, 101, 114]⟩
  | 20 => ⟨#[101, 120, 99, 108, 117, 115, 105, 118, 101, 32, 117, 115, 101, 32, 102, 105, 108, 101, 32, 97, 108, 114, 101, 97, 100, 121, 32, 111, 112, 101, 110]⟩
  | 21 => ⟨#[98, 97, 100, 32, 111, 102, 102, 115, 101, 116, 32, 105, 110, 32, 100, 105, 114, 101, 99, 116, 111, 114, 121, 32, 114, 101, 97, 100]⟩
  | 22 => ⟨#[112, 111, 119, 101, 114, 32, 105, 115, 32, 111, 102, 102]⟩
  | _ => ⟨#[101, 114, 114, 111, 114]⟩
theorem ew_0 (w : World) : Calls Tryz.prog 23 #[.int .i64 0] w fun e w' => e = .returned (.string ⟨#[111, 107]⟩) ∧ w = w' := by
  go_enter Tryz.func23, Tryz.ntmps23
  go_wp2
  go_ret
  exact ⟨rfl, rfl⟩
theorem ew_1 (w : World) : Calls Tryz.prog 23 #[.int .i64 1] w fun e w' => e = .returned (.string ⟨#[98, 97, 100, 32, 110, 117, 109, 98, 101, 114]⟩) ∧ w = w' := by
  go_enter Tryz.func23, Tryz.ntmps23
  go_wp2
  go_ret
  exact ⟨rfl, rfl⟩
theorem ew_2 (w : World) : Calls Tryz.prog 23 #[.int .i64 2] w fun e w' => e = .returned (.string ⟨#[98, 97, 100, 32, 109, 101, 115, 115, 97, 103, 101]⟩) ∧ w = w' := by
  go_enter Tryz.func23, Tryz.ntmps23
  go_wp2
  go_ret
  exact ⟨rfl, rfl⟩
theorem ew_3 (w : World) : Calls Tryz.prog 23 #[.int .i64 3] w fun e w' => e = .returned (.string ⟨#[116, 111, 111, 32, 108, 111, 110, 103]⟩) ∧ w = w' := by
  go_enter Tryz.func23, Tryz.ntmps23
  go_wp2
  go_ret
  exact ⟨rfl, rfl⟩
theorem ew_4 (w : World) : Calls Tryz.prog 23 #[.int .i64 4] w fun e w' => e = .returned (.string ⟨#[116, 111, 111, 32, 115, 104, 111, 114, 116]⟩) ∧ w = w' := by
  go_enter Tryz.func23, Tryz.ntmps23
  go_wp2
  go_ret
  exact ⟨rfl, rfl⟩
theorem ew_5 (w : World) : Calls Tryz.prog 23 #[.int .i64 5] w fun e w' => e = .returned (.string ⟨#[112, 101, 114, 109, 105, 115, 115, 105, 111, 110, 32, 100, 101, 110, 105, 101, 100]⟩) ∧ w = w' := by
  go_enter Tryz.func23, Tryz.ntmps23
  go_wp2
  go_ret
  exact ⟨rfl, rfl⟩
theorem ew_6 (w : World) : Calls Tryz.prog 23 #[.int .i64 6] w fun e w' => e = .returned (.string ⟨#[102, 105, 108, 101, 32, 100, 111, 101, 115, 32, 110, 111, 116, 32, 101, 120, 105, 115, 116]⟩) ∧ w = w' := by
  go_enter Tryz.func23, Tryz.ntmps23
  go_wp2
  go_ret
  exact ⟨rfl, rfl⟩
theorem ew_7 (w : World) : Calls Tryz.prog 23 #[.int .i64 7] w fun e w' => e = .returned (.string ⟨#[102, 105, 108, 101, 32, 97, 108, 114, 101, 97, 100, 121, 32, 101, 120, 105, 115, 116, 115]⟩) ∧ w = w' := by
  go_enter Tryz.func23, Tryz.ntmps23
  go_wp2
  go_ret
  exact ⟨rfl, rfl⟩
theorem ew_8 (w : World) : Calls Tryz.prog 23 #[.int .i64 8] w fun e w' => e = .returned (.string ⟨#[117, 110, 107, 110, 111, 119, 110, 32, 102, 105, 100]⟩) ∧ w = w' := by
  go_enter Tryz.func23, Tryz.ntmps23
  go_wp2
  go_ret
  exact ⟨rfl, rfl⟩
theorem ew_9 (w : World) : Calls Tryz.prog 23 #[.int .i64 9] w fun e w' => e = .returned (.string ⟨#[102, 105, 100, 32, 105, 110, 32, 117, 115, 101]⟩) ∧ w = w' := by
  go_enter Tryz.func23, Tryz.ntmps23
  go_wp2
  go_ret
  exact ⟨rfl, rfl⟩
theorem ew_10 (w : World) : Calls Tryz.prog 23 #[.int .i64 10] w fun e w' => e = .returned (.string ⟨#[102, 105, 100, 32, 105, 115, 32, 111, 112, 101, 110]⟩) ∧ w = w' := by
  go_enter Tryz.func23, Tryz.ntmps23
  go_wp2
  go_ret
  exact ⟨rfl, rfl⟩
theorem ew_11 (w : World) : Calls Tryz.prog 23 #[.int .i64 11] w fun e w' => e = .returned (.string ⟨#[102, 105, 100, 32, 110, 111, 116, 32, 111, 112, 101, 110, 32, 115, 111]⟩) ∧ w = w' := by
  go_enter Tryz.func23, Tryz.ntmps23
  go_wp2
  go_ret
  exact ⟨rfl, rfl⟩
theorem ew_12 (w : World) : Calls Tryz.prog 23 #[.int .i64 12] w fun e w' => e = .returned (.string ⟨#[105, 115, 32, 97, 32, 100, 105, 114, 101, 99, 116, 111, 114, 121]⟩) ∧ w = w' := by
  go_enter Tryz.func23, Tryz.ntmps23
  go_wp2
  go_ret
  exact ⟨rfl, rfl⟩
theorem ew_13 (w : World) : Calls Tryz.prog 23 #[.int .i64 13] w fun e w' => e = .returned (.string ⟨#[110, 111, 116, 32, 97, 32, 100, 105, 114, 101, 99, 116, 111, 114, 121]⟩) ∧ w = w' := by
  go_enter Tryz.func23, Tryz.ntmps23
  go_wp2
  go_ret
  exact ⟨rfl, rfl⟩
theorem ew_14 (w : World) : Calls Tryz.prog 23 #[.int .i64 14] w fun e w' => e = .returned (.string ⟨#[110, 111, 32, 114, 111, 111, 109, 32, 108, 101, 102, 116]⟩) ∧ w = w' := by
  go_enter Tryz.func23, Tryz.ntmps23
  go_wp2
  go_ret
  exact ⟨rfl, rfl⟩
theorem ew_15 (w : World) : Calls Tryz.prog 23 #[.int .i64 15] w fun e w' => e = .returned (.string ⟨#[100, 105, 114, 101, 99, 116, 111, 114, 121, 32, 110, 111, 116, 32, 101, 109, 112, 116, 121]⟩) ∧ w = w' := by
  go_enter Tryz.func23, Tryz.ntmps23
  go_wp2
  go_ret
  exact ⟨rfl, rfl⟩
theorem ew_16 (w : World) : Calls Tryz.prog 23 #[.int .i64 16] w fun e w' => e = .returned (.string ⟨#[100, 117, 112, 108, 105, 99, 97, 116, 101, 32, 116, 97, 103]⟩) ∧ w = w' := by
  go_enter Tryz.func23, Tryz.ntmps23
  go_wp2
  go_ret
  exact ⟨rfl, rfl⟩
theorem ew_17 (w : World) : Calls Tryz.prog 23 #[.int .i64 17] w fun e w' => e = .returned (.string ⟨#[110, 111, 32, 118, 101, 114, 115, 105, 111, 110, 32, 121, 101, 116]⟩) ∧ w = w' := by
  go_enter Tryz.func23, Tryz.ntmps23
  go_wp2
  go_ret
  exact ⟨rfl, rfl⟩
theorem ew_18 (w : World) : Calls Tryz.prog 23 #[.int .i64 18] w fun e w' => e = .returned (.string ⟨#[110, 111, 32, 97, 117, 116, 104, 101, 110, 116, 105, 99, 97, 116, 105, 111, 110, 32, 114, 101, 113, 117, 105, 114, 101, 100]⟩) ∧ w = w' := by
  go_enter Tryz.func23, Tryz.ntmps23
  go_wp2
  go_ret
  exact ⟨rfl, rfl⟩
theorem ew_19 (w : World) : Calls Tryz.prog 23 #[.int .i64 19] w fun e w' => e = .returned (.string ⟨#[117, 110, 107, 110, 111, 119, 110, 32, 117, 115, 101, 114]⟩) ∧ w = w' := by
  go_enter Tryz.func23, Tryz.ntmps23
  go_wp2
  go_ret
  exact ⟨rfl, rfl⟩
theorem ew_20 (w : World) : Calls Tryz.prog 23 #[.int .i64 20] w fun e w' => e = .returned (.string ⟨#[101, 120, 99, 108, 117, 115, 105, 118, 101, 32, 117, 115, 101, 32, 102, 105, 108, 101, 32, 97, 108, 114, 101, 97, 100, 121, 32, 111, 112, 101, 110]⟩) ∧ w = w' := by
  go_enter Tryz.func23, Tryz.ntmps23
  go_wp2
  go_ret
  exact ⟨rfl, rfl⟩
theorem ew_21 (w : World) : Calls Tryz.prog 23 #[.int .i64 21] w fun e w' => e = .returned (.string ⟨#[98, 97, 100, 32, 111, 102, 102, 115, 101, 116, 32, 105, 110, 32, 100, 105, 114, 101, 99, 116, 111, 114, 121, 32, 114, 101, 97, 100]⟩) ∧ w = w' := by
  go_enter Tryz.func23, Tryz.ntmps23
  go_wp2
  go_ret
  exact ⟨rfl, rfl⟩
theorem ew_22 (w : World) : Calls Tryz.prog 23 #[.int .i64 22] w fun e w' => e = .returned (.string ⟨#[112, 111, 119, 101, 114, 32, 105, 115, 32, 111, 102, 102]⟩) ∧ w = w' := by
  go_enter Tryz.func23, Tryz.ntmps23
  go_wp2
  go_ret
  exact ⟨rfl, rfl⟩
theorem ew_big (e : Nat) (he : 22 < e) (w : World) : Calls Tryz.prog 23 #[.int .i64 (e : Int)] w fun e w' => e = .returned (.string ⟨#[101, 114, 114, 111, 114]⟩) ∧ w = w' := by
  go_enter Tryz.func23, Tryz.ntmps23
  go_wp2
  all_goals (go_ret; exact ⟨rfl, rfl⟩)
theorem errno_error (e : Nat) (w : World) : Calls Tryz.prog 23 #[.int .i64 (e : Int)] w fun en w' => en = .returned (.string (wordS e)) ∧ w = w' := by
  match e with
  | 0 => exact ew_0 w
  | 1 => exact ew_1 w
  | 2 => exact ew_2 w
  | 3 => exact ew_3 w
  | 4 => exact ew_4 w
  | 5 => exact ew_5 w
  | 6 => exact ew_6 w
  | 7 => exact ew_7 w
  | 8 => exact ew_8 w
  | 9 => exact ew_9 w
  | 10 => exact ew_10 w
  | 11 => exact ew_11 w
  | 12 => exact ew_12 w
  | 13 => exact ew_13 w
  | 14 => exact ew_14 w
  | 15 => exact ew_15 w
  | 16 => exact ew_16 w
  | 17 => exact ew_17 w
  | 18 => exact ew_18 w
  | 19 => exact ew_19 w
  | 20 => exact ew_20 w
  | 21 => exact ew_21 w
  | 22 => exact ew_22 w
  | e + 23 => exact ew_big (e + 23) (by omega) w

def askT (t : Nat) : Bool := knownT t && decide (t % 2 = 0)
theorem ask_any (t : Nat) (w : World) (ht : t < 256) : Calls Tryz.prog 35 #[.int .u8 (t : Int)] w fun e w' => e = .returned (.bool (askT t)) ∧ w = w' := by
  have hk := hid (fun W => known_any t W ht)
  have hA : Hid (askT t = (knownT t && decide (t % 2 = 0))) := hid rfl
  rcases hb : knownT t with _ | _
  · rw [hb] at hk hA
    clear hb
    go_enter Tryz.func35, Tryz.ntmps35
    go_wp2_with fail
    refine (hk.out _).mono ?_
    rintro e w1 ⟨rfl, rfl⟩
    go_wp2_with fail
    go_ret
    rw [hA.out]
    exact ⟨rfl, rfl⟩
  · rw [hb] at hk hA
    clear hb
    by_cases h2 : t % 2 = 0
    · rw [decide_eq_true h2] at hA
      have k0 : ((t : Int) % 2 == 0) = true := by rw [beq_iff_eq]; omega
      go_enter Tryz.func35, Tryz.ntmps35
      go_wp2_with fail
      refine (hk.out _).mono ?_
      rintro e w1 ⟨rfl, rfl⟩
      go_wp2_with fail
      go_ret
      rw [hA.out]
      exact ⟨rfl, rfl⟩
    · rw [decide_eq_false h2] at hA
      have k0 : ((t : Int) % 2 == 0) = false := by rw [beq_eq_false_iff_ne, ne_eq]; omega
      go_enter Tryz.func35, Tryz.ntmps35
      go_wp2_with fail
      refine (hk.out _).mono ?_
      rintro e w1 ⟨rfl, rfl⟩
      go_wp2_with fail
      go_ret
      rw [hA.out]
      exact ⟨rfl, rfl⟩

theorem rknown_any (t : Nat) (w : World) (ht : t < 256) : Calls Tryz.prog 60 #[.int .u8 (t : Int)] w fun e w' => e = .returned (.bool (knownT t)) ∧ w = w' := by
  by_cases h1 : 100 ≤ t
  · by_cases h2 : t ≤ 127
    · have hk : Hid (knownT t = decide (t ≠ 106)) := hid (by unfold knownT; simp [h1, h2])
      go_enter Tryz.func60, Tryz.ntmps60
      go_wp2
      all_goals
        go_ret
        rw [hk.out]
        refine ⟨ret_bool ?_, rfl⟩
        first | omega | (simp; omega) | (by_cases h : t = 106 <;> simp [h] <;> omega)
    · have hk : Hid (knownT t = false) := hid (by unfold knownT; simp [h2])
      go_enter Tryz.func60, Tryz.ntmps60
      go_wp2
      all_goals
        go_ret
        rw [hk.out]
        exact ⟨rfl, rfl⟩
  · have hk : Hid (knownT t = false) := hid (by unfold knownT; simp [h1])
    go_enter Tryz.func60, Tryz.ntmps60
    go_wp2
    all_goals
      go_ret
      rw [hk.out]
      exact ⟨rfl, rfl⟩

end
end Go.Proofs.YtcbglcebdkpcfaaGreat

namespace Go.Proofs.YtcbglcebdkpcfaaGreat
section
open Go.RowKit
set_option maxRecDepth 100000
set_option linter.unusedVariables false

def errM (tag e : Nat) : M := { zeroM with ty := 107, tag := tag, ename := wordS e }
theorem err_cells (tag e : Nat) : (errM tag e).cells (.slice none 0 0) (.slice none 0 0) (.slice none 0 0) = #[.int .u8 107, .int .u16 (tag : Int), .int .u32 0, .string ⟨#[]⟩, .int .u32 0, .int .u32 0, .int .u32 0, .string ⟨#[]⟩, .string ⟨#[]⟩, .string (wordS e), .int .u16 0, .slice none 0 0, .slice none 0 0, .int .u8 0, .int .u32 0, .int .u64 0, .int .u32 0, .int .u8 0, .int .u32 0, .string ⟨#[]⟩, .int .u64 0, .int .u32 0, .slice none 0 0, .int .u16 0, .int .u32 0, .int .u8 0, .int .u32 0, .int .u64 0, .int .u32 0, .int .u32 0, .int .u32 0, .int .u64 0, .string ⟨#[]⟩, .string ⟨#[]⟩, .string ⟨#[]⟩, .string ⟨#[]⟩] := rfl
set_option maxHeartbeats 800000 in
theorem merror_any (tag e : Nat) (w : World) (ht : tag < 65536) : Calls Tryz.prog 9 #[.int .u16 (tag : Int), .int .i64 (e : Int)] w fun en w' => en = .returned (.agg ((errM tag e).cells (.slice none 0 0) (.slice none 0 0) (.slice none 0 0))) ∧ Below w.heap.size w w' := by
  have hb := hid ((Below.refl w.heap.size w).alloc (Nat.le_refl _) (.cells (zeroM.cells (.slice none 0 0) (.slice none 0 0) (.slice none 0 0)) 41))
  have hn := hid (heap_alloc_new w (.cells (zeroM.cells (.slice none 0 0) (.slice none 0 0) (.slice none 0 0)) 41))
  have hR : Hid (∀ cs, Below w.heap.size w ((w.alloc (.cells (zeroM.cells (.slice none 0 0) (.slice none 0 0) (.slice none 0 0)) 41)).setRow w.heap.size cs)) := hid (fun cs => below_setRow hb.out (Nat.le_refl _) cs)
  rw [nil_cells] at hb hn hR
  have hE := hid (fun W => errno_error e W)
  have hC := hid (err_cells tag e)
  go_enter Tryz.func9, Tryz.ntmps9
  go_wp2_with fail
  refine (hE.out _).mono ?_
  rintro en w1 ⟨rfl, rfl⟩
  generalize hS : wordS e = S at *
  replace hS := hid hS
  go_wp2_with (refine wpList_store_row (by rfl) 41 (.tmp 4) (.tmp 8) (by rfl) w.heap.size _ (by rfl) (by rfl) 41 _ hn.out (by kernel_rfl) (by kernel_rfl) (by kernel_rfl) ?_)
  refine bodyPost_ret (results_cell_row rfl _ _ w.heap.size _ _ _ _ rfl (setRow_heap _ _ _ _ _ _ hn.out) Tryz.underlying41 rfl (by kernel_rfl)) rfl ?_
  exact ⟨by rw [hC.out], hR.out _⟩
end
end Go.Proofs.YtcbglcebdkpcfaaGreat

namespace Go.Proofs.YtcbglcebdkpcfaaGreat
section
open Go.Conc Go.RowKit
set_option maxRecDepth 100000
set_option linter.unusedVariables false

def OpsS (P : Program) (ops : Array Oper) (Q : Exit → Act → World → Prop) (l : List Nat) (a : Act) (w : World) : Prop :=
  ∀ (b : Frame) (k : List Item) (cs : List Frame), ∃ e a' w', Q e a' w' ∧ Arrives P (lone (b.at a (.inRegion ops l :: k)) cs w) b k cs e a' w'
section
variable {P : Program} {ops : Array Oper} {Q : Exit → Act → World → Prop}
theorem opsS_of {l : List Nat} {a : Act} {w : World} (h : wpOps P ops Q l a w) : OpsS P ops Q l a w := wp_ops l a w h
theorem wp_ops_app (more : List Nat) (l : List Nat) : ∀ (a : Act) (w : World), wpOps P ops (Exit.then (fun a w => OpsS P ops Q more a w) Q) l a w → OpsS P ops Q (l ++ more) a w := by
  induction l with
  | nil => exact fun a w h => h
  | cons i rest ih =>
    intro a w h b k cs
    simp only [wpOps] at h
    rw [List.cons_append]
    cases ho : ops[i]? with
    | none =>
      simp only [ho] at h
      obtain ⟨e, a', w', hq, harr⟩ := ih a w h b k cs
      have hs := step_op_skip (P := P) (b := b) (a := a) (k := k) (cs := cs) (w := w) (ops := ops) (i := i) (rest := rest ++ more) (by simp [ho])
      simp only [ho, Option.bind_none, Act.put] at hs
      exact ⟨e, a', w', hq, .of_steps (.one hs) harr⟩
    | some o =>
      simp only [ho] at h
      by_cases hw : Region.wanted o (yielded ops a.tmps) = true
      · simp only [hw, if_true] at h
        rcases h with h | ⟨hasks, a₀, w₀, hq⟩
        case inr =>
          by_cases hk : b.kind = .early
          · exact ⟨.outgrown, a₀, w₀, hq, .inl hk⟩
          · exact ⟨.outgrown, a₀, w₀, hq, .inr (asks_outgrown ho hw hk hasks)⟩
        simp only [Oper.wp, Oper.upon] at h
        have hg := stepG_op (P := P) (b := b) (k := k) (cs := cs) (w := w) (rest := rest ++ more) ho hw
        have hfin : ∀ v, (b.at a (.inRegion ops (i :: (rest ++ more)) :: k)).finish v = b.at (a.put o.dst v) (.inRegion ops (rest ++ more) :: k) := by
          intro v; rw [Frame.finish_at, ho]; rfl
        split at h
        · rename_i v w' hr
          obtain ⟨e, a', w'', hq, harr⟩ := ih _ _ h b k cs
          refine ⟨e, a', w'', hq, .of_steps (.one (step_lone_go ?_)) harr⟩
          rw [hg, ← hfin]; simp [stepG.apply, hr]
        · rename_i w' hr
          obtain ⟨e, a', w'', hq, harr⟩ := ih _ _ h b k cs
          refine ⟨e, a', w'', hq, .of_steps (.one (step_lone_go ?_)) harr⟩
          rw [hg, ← hfin]; simp [stepG.apply, hr]
        · rename_i d w' hr
          obtain ⟨e, a', w'', hq, harr⟩ := ih _ _ h b k cs
          refine ⟨e, a', w'', hq, .of_steps (.one (step_lone_go ?_)) harr⟩
          have : ({ b.at a (.inRegion ops (i :: (rest ++ more)) :: k) with defers := d :: a.defers } : Frame).finish undef =
              b.at ({ a with defers := d :: a.defers }.put o.dst undef) (.inRegion ops (rest ++ more) :: k) := by
            have := Frame.finish_at b { a with defers := d :: a.defers } ops i (rest ++ more) k undef
            rw [ho] at this; exact this
          rw [hg]; simp only [stepG.apply, Sem.runT_eq, hr, GStep.bare_after]
          exact congrArg (fun fr => GStep.go { frame := fr, callers := cs, status := .running, dying := none } w') this
        · rename_i f args w' hr
          obtain ⟨e, w'', fr, hR, hsteps, _, hleave⟩ := h (b.at a (.inRegion ops (i :: (rest ++ more)) :: k) :: cs)
          have henter : step P (lone (b.at a (.inRegion ops (i :: (rest ++ more)) :: k)) cs w) =
              .next (lone (Frame.enter P f args .normal) (b.at a (.inRegion ops (i :: (rest ++ more)) :: k) :: cs) w') :=
            step_lone_go (by rw [hg]; simp [stepG.apply, hr, Frame.at])
          cases e with
          | returned v =>
            obtain ⟨e, a', w₃, hq, harr⟩ := ih _ _ hR b k cs
            refine ⟨e, a', w₃, hq, .of_steps (.head henter (hsteps.trans (.one ?_))) harr⟩
            rw [← hfin]; exact step_leave_returned hleave
          | panicked chain =>
            refine ⟨.panic chain, a, w'', hR, .inRegion ops (i :: (rest ++ more)) :: k, .head henter (hsteps.trans (.one ?_))⟩
            rw [← Frame.raise_at]; exact step_leave_panicked hleave
          | outgrown =>
            obtain ⟨a₀, w₀, hq⟩ := hR
            exact ⟨.outgrown, a₀, w₀, hq, .inr (Outgrown.of_steps (.one henter) hsteps)⟩
        · rename_i row args w' hr
          obtain ⟨v, w'', hR, hsteps⟩ := h (b.at a (.inRegion ops (i :: (rest ++ more)) :: k)) cs
          have henter : step P (lone (b.at a (.inRegion ops (i :: (rest ++ more)) :: k)) cs w) =
              .next (lone (Frame.ofRow P row args .normal) (b.at a (.inRegion ops (i :: (rest ++ more)) :: k) :: cs) w') :=
            step_lone_go (by rw [hg]; simp [stepG.apply, hr, Frame.at])
          obtain ⟨e, a', w₃, hq, harr⟩ := ih _ _ hR b k cs
          refine ⟨e, a', w₃, hq, .of_steps (.head henter ?_) harr⟩
          rw [← hfin]; exact hsteps
        · rename_i v w' hr
          refine ⟨_, a, w', h, .inRegion ops (i :: (rest ++ more)) :: k, .one (step_lone_go ?_)⟩
          rw [hg, ← Frame.raise_at]; simp [stepG.apply, hr]
        · exact h.elim
      · simp only [hw, if_false, Bool.false_eq_true] at h
        obtain ⟨e, a', w', hq, harr⟩ := ih _ _ h b k cs
        have hs := step_op_skip (P := P) (b := b) (a := a) (k := k) (cs := cs) (w := w) (ops := ops) (i := i) (rest := rest ++ more)
          (by simp [ho]; simpa using hw)
        simp only [ho, Option.bind_some] at hs
        exact ⟨e, a', w', hq, .of_steps (.one hs) harr⟩
theorem wpOps_pre (l : List Oper) : ∀ k, (∀ j, j < l.length → l[j]? = ops[k + j]?) → wpOps P ops Q (List.range' k l.length) = wpList P ops Q l := by
  induction l with
  | nil => intro k _; funext a w; simp [wpOps, wpList]
  | cons o l ih =>
    intro k h
    have h0 : ops[k]? = some o := by simpa using (h 0 (by simp)).symm
    have ih' := ih (k + 1) (fun j hj => by have := h (j + 1) (by simpa using hj); simpa [Nat.add_assoc, Nat.add_comm 1 j] using this)
    funext a w
    simp only [List.length_cons, List.range'_succ, wpOps, h0, wpList, ih']
theorem wp_region_comm {id : Nat} {a : Act} {w : World} {l : List Oper} (n : Nat) (pre : List Oper) (hp : l.take n = pre) (hn : n ≤ l.length) (h : wpList P l.toArray (Exit.then (fun a w => OpsS P l.toArray Q (List.range' n (l.length - n)) a w) Q) pre a w) : (Code.region id l.toArray false).wp P Q a w := by
  intro b k cs
  have hl : pre.length = n := by rw [← hp]; simp; omega
  have h2 := wpOps_pre (P := P) (ops := l.toArray) (Q := Exit.then (fun a w => OpsS P l.toArray Q (List.range' n (l.length - n)) a w) Q) pre 0 (by
    intro j hj
    rw [← hp, List.getElem?_take_of_lt (by omega)]
    simp)
  rw [hl] at h2
  obtain ⟨e, a', w', q, r⟩ := wp_ops_app _ _ a w (by rw [h2]; exact h) b k cs
  refine ⟨e, a', w', q, .of_steps (.one step_region) ?_⟩
  have e2 : List.range l.toArray.size = List.range' 0 n ++ List.range' n (l.length - n) := by
    rw [List.range_eq_range', List.size_toArray, show l.length = n + (l.length - n) by omega, ← List.range'_append_1]
    simp
  rw [e2]
  exact r
theorem opsS_list {l : List Oper} {ops : Array Oper} {a : Act} {w : World} {k m : Nat} (hl : (ops.toList.drop k).take m = l) (hm : l.length = m) (h : wpList P ops Q l a w) : OpsS P ops Q (List.range' k m) a w := by
  refine opsS_of ?_
  subst hm
  rw [wpOps_pre l k (fun j hj => by
    have h1 : l[j]? = ((ops.toList.drop k).take l.length)[j]? := by rw [hl]
    rw [h1, List.getElem?_take_of_lt hj, List.getElem?_drop]
    simp)]
  exact h
theorem opsS_comm {i : Nat} {rest : List Nat} {o : Oper} {a : Act} {w w' : World} {v : Value} (ho : ops[i]? = some o)
    (hs : ∀ (b : Frame) (k : List Item) (cs : List Frame), step P (lone (b.at a (.inRegion ops (i :: rest) :: k)) cs w) = .next (lone ((b.at a (.inRegion ops (i :: rest) :: k)).finish v) cs w'))
    (h : OpsS P ops Q rest (a.put o.dst v) w') : OpsS P ops Q (i :: rest) a w := by
  intro b k cs
  obtain ⟨e, a', w'', hq, harr⟩ := h b k cs
  refine ⟨e, a', w'', hq, .of_steps (.one ?_) harr⟩
  have h1 := hs b k cs
  rw [Frame.finish_at, ho] at h1
  exact h1
theorem stepG_commop {i : Nat} {rest : List Nat} {o : Oper} {a : Act} {w w1 : World} {cases : Array CommCase} {bl : Bool} {sh : CommShape} (ho : ops[i]? = some o) (hw : Region.wanted o (yielded ops a.tmps) = true) (hr : (execOp a.eval o).run P w = .ok (.comm cases bl sh) w1) (b : Frame) (k : List Item) (cs : List Frame) :
    ∃ es, stepG P true (G (b.at a (.inRegion ops (i :: rest) :: k)) cs) w = .comm (G (b.at a (.inRegion ops (i :: rest) :: k)) cs) cases bl sh w1 es := by
  have hg := stepG_op (P := P) (b := b) (k := k) (cs := cs) (w := w) (rest := rest) ho hw
  unfold G
  rw [hg]
  simp only [stepG.apply, Sem.runT_eq, hr]
  exact ⟨_, rfl⟩
theorem opsS_send {i : Nat} {rest : List Nat} {o : Oper} {a : Act} {w : World} {c cap s r : Nat} {buf : Array Value} {v : Value} {z : Value} (ho : ops[i]? = some o) (hw : Region.wanted o (yielded ops a.tmps) = true) (hr : (execOp a.eval o).run P w = .ok (.comm #[scase c v z] true .send) w)
    (hc : w.heap[c]? = some (.chan cap buf false s r false)) (hroom : buf.size < cap) (h : OpsS P ops Q rest (a.put o.dst undef) (w.setChan c cap (buf.push v) false (s + 1) r false)) : OpsS P ops Q (i :: rest) a w := by
  refine opsS_comm ho (fun b k cs => ?_) h
  obtain ⟨es, he⟩ := stepG_commop (rest := rest) ho hw hr b k cs
  exact step_lone_send_room he hc hroom
end
end
end Go.Proofs.YtcbglcebdkpcfaaGreat
