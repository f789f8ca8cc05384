/- An error's words, msg.Error, which types ask; the reference's answers. No condition.
What msg.Error returns. No condition. -/
import Derived.Test.YtlmojhlacfjmaaaGreatBunJ
import Derived.Test.YtlmojhlacfjmaaaGreatBunK
namespace Go.Proofs.YtlmojhlacfjmaaaGreat
section
open Go.RowKit
set_option maxRecDepth 100000
set_option linter.unusedVariables false

def wordS : Nat → ByteArray
 | 0 => ⟨#[111, 107]⟩
 | 1 => ⟨#[98, 97, 100, 32, 110, 117, 109, 98, 101, 114]⟩
 | 2 => ⟨#[98, 97, 100, 32, 109, 101, 115, 115, 97, 103, 101]⟩
 | 3 => ⟨#[116, 111, 111, 32, 108, 111, 110, 103]⟩
 | 4 => ⟨#[116, 111, 111, 32, 115, 104, 111, 114, 116]⟩
 | 5 => ⟨#[112, 101, 114, 109, 105, 115, 115, 105, 111, 110, 32, 100, 101, 110, 105, 101, 100]⟩
 | 6 => ⟨#[102, 105, 108, 101, 32, 100, 111, 101, 115, 32, 110, 111, 116, 32, 101, 120, 105, 115, 116]⟩
 | 7 => ⟨#[102, 105, 108, 101, 32, 97, 108, 114, 101, 97, 100, 121, 32, 101, 120, 105, 115, 116, 115]⟩
 | 8 => ⟨#[117, 110, 107, 110, 111, 119, 110, 32, 102, 105, 100]⟩
 | 9 => ⟨#[102, 105, 100, 32, 105, 110, 32, 117, 115, 101]⟩
 | 10 => ⟨#[102, 105, 100, 32, 105, 115, 32, 111, 112, 101, 110]⟩
 | 11 => ⟨#[102, 105, 100, 32, 110, 111, 116, 32, 111, 112, 101, 110, 32, 115, 111]⟩
 | 12 => ⟨#[105, 115, 32, 97, 32, 100, 105, 114, 101, 99, 116, 111, 114, 121]⟩
 | 13 => ⟨#[110, 111, 116, 32, 97, 32, 100, 105, 114, 101, 99, 116, 111, 114, 121]⟩
 | 14 => ⟨#[110, 111, 32, 114, 111, 111, 109, 32, 108, 101, 102, 116]⟩
 | 15 => ⟨#[100, 105, 114, 101, 99, 116, 111, 114, 121, 32, 110, 111, 116, 32, 101, 109, 112, 116, 121]⟩
 | 16 => ⟨#[100, 117, 112, 108, 105, 99, 97, 116, 101, 32, 116, 97, 103]⟩
 | 17 => ⟨#[110, 111, 32, 118, 101, 114, 115, 105, 111, 110, 32, 121, 101, 116]⟩
 | 18 => ⟨#[110, 111, 32, 97, 117, 116, 104, 101, 110, 116, 105, 99, 97, 116, 105, 111, 110, 32, 114, 101, 113, 117, 105, 114, 101, 100]⟩
 | 19 => ⟨#[117, 110, 107, 110, 111, 119, 110, 32, 117, 115, 101, 114]⟩
 | 20 => ⟨#[101, 120, 99, 108, 117, 115, 105, 118, 101, 32, 117, 115, 101, 32, 102, 105, 108, 101, 32, 97, 108, 114, 101, 97, 100, 121, 32, 111, 112, 101, 110]⟩
 | 21 => ⟨#[98, 97, 100, 32, 111, 102, 102, 115, 101, 116, 32, 105, 110, 32, 100, 105, 114, 101, 99, 116, 111, 114, 121, 32, 114, 101, 97, 100]⟩
 | 22 => ⟨#[112, 111, 119, 101, 114, 32, 105, 115, 32, 111, 102, 102]⟩
 | _ => ⟨#[101, 114, 114, 111, 114]⟩
theorem ew_0 (w : World) : Calls Tryz.prog 39 #[.int .i64 0] w fun e w' => e = .returned (.string ⟨#[111, 107]⟩) ∧ w = w' := by
 go_enter Tryz.func39, Tryz.ntmps39
 go_wp2
 go_ret
 exact ⟨rfl, rfl⟩
theorem ew_1 (w : World) : Calls Tryz.prog 39 #[.int .i64 1] w fun e w' => e = .returned (.string ⟨#[98, 97, 100, 32, 110, 117, 109, 98, 101, 114]⟩) ∧ w = w' := by
 go_enter Tryz.func39, Tryz.ntmps39
 go_wp2
 go_ret
 exact ⟨rfl, rfl⟩
theorem ew_2 (w : World) : Calls Tryz.prog 39 #[.int .i64 2] w fun e w' => e = .returned (.string ⟨#[98, 97, 100, 32, 109, 101, 115, 115, 97, 103, 101]⟩) ∧ w = w' := by
 go_enter Tryz.func39, Tryz.ntmps39
 go_wp2
 go_ret
 exact ⟨rfl, rfl⟩
theorem ew_3 (w : World) : Calls Tryz.prog 39 #[.int .i64 3] w fun e w' => e = .returned (.string ⟨#[116, 111, 111, 32, 108, 111, 110, 103]⟩) ∧ w = w' := by
 go_enter Tryz.func39, Tryz.ntmps39
 go_wp2
 go_ret
 exact ⟨rfl, rfl⟩
theorem ew_4 (w : World) : Calls Tryz.prog 39 #[.int .i64 4] w fun e w' => e = .returned (.string ⟨#[116, 111, 111, 32, 115, 104, 111, 114, 116]⟩) ∧ w = w' := by
 go_enter Tryz.func39, Tryz.ntmps39
 go_wp2
 go_ret
 exact ⟨rfl, rfl⟩
theorem ew_5 (w : World) : Calls Tryz.prog 39 #[.int .i64 5] w fun e w' => e = .returned (.string ⟨#[112, 101, 114, 109, 105, 115, 115, 105, 111, 110, 32, 100, 101, 110, 105, 101, 100]⟩) ∧ w = w' := by
 go_enter Tryz.func39, Tryz.ntmps39
 go_wp2
 go_ret
 exact ⟨rfl, rfl⟩
theorem ew_6 (w : World) : Calls Tryz.prog 39 #[.int .i64 6] w fun e w' => e = .returned (.string ⟨#[102, 105, 108, 101, 32, 100, 111, 101, 115, 32, 110, 111, 116, 32, 101, 120, 105, 115, 116]⟩) ∧ w = w' := by
 go_enter Tryz.func39, Tryz.ntmps39
 go_wp2
 go_ret
 exact ⟨rfl, rfl⟩
theorem ew_7 (w : World) : Calls Tryz.prog 39 #[.int .i64 7] w fun e w' => e = .returned (.string ⟨#[102, 105, 108, 101, 32, 97, 108, 114, 101, 97, 100, 121, 32, 101, 120, 105, 115, 116, 115]⟩) ∧ w = w' := by
 go_enter Tryz.func39, Tryz.ntmps39
 go_wp2
 go_ret
 exact ⟨rfl, rfl⟩
theorem ew_8 (w : World) : Calls Tryz.prog 39 #[.int .i64 8] w fun e w' => e = .returned (.string ⟨#[117, 110, 107, 110, 111, 119, 110, 32, 102, 105, 100]⟩) ∧ w = w' := by
 go_enter Tryz.func39, Tryz.ntmps39
 go_wp2
 go_ret
 exact ⟨rfl, rfl⟩
theorem ew_9 (w : World) : Calls Tryz.prog 39 #[.int .i64 9] w fun e w' => e = .returned (.string ⟨#[102, 105, 100, 32, 105, 110, 32, 117, 115, 101]⟩) ∧ w = w' := by
 go_enter Tryz.func39, Tryz.ntmps39
 go_wp2
 go_ret
 exact ⟨rfl, rfl⟩
theorem ew_10 (w : World) : Calls Tryz.prog 39 #[.int .i64 10] w fun e w' => e = .returned (.string ⟨#[102, 105, 100, 32, 105, 115, 32, 111, 112, 101, 110]⟩) ∧ w = w' := by
 go_enter Tryz.func39, Tryz.ntmps39
 go_wp2
 go_ret
 exact ⟨rfl, rfl⟩
theorem ew_11 (w : World) : Calls Tryz.prog 39 #[.int .i64 11] w fun e w' => e = .returned (.string ⟨#[102, 105, 100, 32, 110, 111, 116, 32, 111, 112, 101, 110, 32, 115, 111]⟩) ∧ w = w' := by
 go_enter Tryz.func39, Tryz.ntmps39
 go_wp2
 go_ret
 exact ⟨rfl, rfl⟩
theorem ew_12 (w : World) : Calls Tryz.prog 39 #[.int .i64 12] w fun e w' => e = .returned (.string ⟨#[105, 115, 32, 97, 32, 100, 105, 114, 101, 99, 116, 111, 114, 121]⟩) ∧ w = w' := by
 go_enter Tryz.func39, Tryz.ntmps39
 go_wp2
 go_ret
 exact ⟨rfl, rfl⟩
theorem ew_13 (w : World) : Calls Tryz.prog 39 #[.int .i64 13] w fun e w' => e = .returned (.string ⟨#[110, 111, 116, 32, 97, 32, 100, 105, 114, 101, 99, 116, 111, 114, 121]⟩) ∧ w = w' := by
 go_enter Tryz.func39, Tryz.ntmps39
 go_wp2
 go_ret
 exact ⟨rfl, rfl⟩
theorem ew_14 (w : World) : Calls Tryz.prog 39 #[.int .i64 14] w fun e w' => e = .returned (.string ⟨#[110, 111, 32, 114, 111, 111, 109, 32, 108, 101, 102, 116]⟩) ∧ w = w' := by
 go_enter Tryz.func39, Tryz.ntmps39
 go_wp2
 go_ret
 exact ⟨rfl, rfl⟩
theorem ew_15 (w : World) : Calls Tryz.prog 39 #[.int .i64 15] w fun e w' => e = .returned (.string ⟨#[100, 105, 114, 101, 99, 116, 111, 114, 121, 32, 110, 111, 116, 32, 101, 109, 112, 116, 121]⟩) ∧ w = w' := by
 go_enter Tryz.func39, Tryz.ntmps39
 go_wp2
 go_ret
 exact ⟨rfl, rfl⟩
theorem ew_16 (w : World) : Calls Tryz.prog 39 #[.int .i64 16] w fun e w' => e = .returned (.string ⟨#[100, 117, 112, 108, 105, 99, 97, 116, 101, 32, 116, 97, 103]⟩) ∧ w = w' := by
 go_enter Tryz.func39, Tryz.ntmps39
 go_wp2
 go_ret
 exact ⟨rfl, rfl⟩
theorem ew_17 (w : World) : Calls Tryz.prog 39 #[.int .i64 17] w fun e w' => e = .returned (.string ⟨#[110, 111, 32, 118, 101, 114, 115, 105, 111, 110, 32, 121, 101, 116]⟩) ∧ w = w' := by
 go_enter Tryz.func39, Tryz.ntmps39
 go_wp2
 go_ret
 exact ⟨rfl, rfl⟩
theorem ew_18 (w : World) : Calls Tryz.prog 39 #[.int .i64 18] w fun e w' => e = .returned (.string ⟨#[110, 111, 32, 97, 117, 116, 104, 101, 110, 116, 105, 99, 97, 116, 105, 111, 110, 32, 114, 101, 113, 117, 105, 114, 101, 100]⟩) ∧ w = w' := by
 go_enter Tryz.func39, Tryz.ntmps39
 go_wp2
 go_ret
 exact ⟨rfl, rfl⟩
theorem ew_19 (w : World) : Calls Tryz.prog 39 #[.int .i64 19] w fun e w' => e = .returned (.string ⟨#[117, 110, 107, 110, 111, 119, 110, 32, 117, 115, 101, 114]⟩) ∧ w = w' := by
 go_enter Tryz.func39, Tryz.ntmps39
 go_wp2
 go_ret
 exact ⟨rfl, rfl⟩
theorem ew_20 (w : World) : Calls Tryz.prog 39 #[.int .i64 20] w fun e w' => e = .returned (.string ⟨#[101, 120, 99, 108, 117, 115, 105, 118, 101, 32, 117, 115, 101, 32, 102, 105, 108, 101, 32, 97, 108, 114, 101, 97, 100, 121, 32, 111, 112, 101, 110]⟩) ∧ w = w' := by
 go_enter Tryz.func39, Tryz.ntmps39
 go_wp2
 go_ret
 exact ⟨rfl, rfl⟩
theorem ew_21 (w : World) : Calls Tryz.prog 39 #[.int .i64 21] w fun e w' => e = .returned (.string ⟨#[98, 97, 100, 32, 111, 102, 102, 115, 101, 116, 32, 105, 110, 32, 100, 105, 114, 101, 99, 116, 111, 114, 121, 32, 114, 101, 97, 100]⟩) ∧ w = w' := by
 go_enter Tryz.func39, Tryz.ntmps39
 go_wp2
 go_ret
 exact ⟨rfl, rfl⟩
theorem ew_22 (w : World) : Calls Tryz.prog 39 #[.int .i64 22] w fun e w' => e = .returned (.string ⟨#[112, 111, 119, 101, 114, 32, 105, 115, 32, 111, 102, 102]⟩) ∧ w = w' := by
 go_enter Tryz.func39, Tryz.ntmps39
 go_wp2
 go_ret
 exact ⟨rfl, rfl⟩
theorem ew_big (e : Nat) (he : 22 < e) (w : World) : Calls Tryz.prog 39 #[.int .i64 (e : Int)] w fun e w' => e = .returned (.string ⟨#[101, 114, 114, 111, 114]⟩) ∧ w = w' := by
 go_enter Tryz.func39, Tryz.ntmps39
 go_wp2
 all_goals (go_ret; exact ⟨rfl, rfl⟩)
theorem errno_error (e : Nat) (w : World) : Calls Tryz.prog 39 #[.int .i64 (e : Int)] w fun en w' => en = .returned (.string (wordS e)) ∧ w = w' := by
 match e with
 | 0 => exact ew_0 w
 | 1 => exact ew_1 w
 | 2 => exact ew_2 w
 | 3 => exact ew_3 w
 | 4 => exact ew_4 w
 | 5 => exact ew_5 w
 | 6 => exact ew_6 w
 | 7 => exact ew_7 w
 | 8 => exact ew_8 w
 | 9 => exact ew_9 w
 | 10 => exact ew_10 w
 | 11 => exact ew_11 w
 | 12 => exact ew_12 w
 | 13 => exact ew_13 w
 | 14 => exact ew_14 w
 | 15 => exact ew_15 w
 | 16 => exact ew_16 w
 | 17 => exact ew_17 w
 | 18 => exact ew_18 w
 | 19 => exact ew_19 w
 | 20 => exact ew_20 w
 | 21 => exact ew_21 w
 | 22 => exact ew_22 w
 | e + 23 => exact ew_big (e + 23) (by omega) w

def askT (t : Nat) : Bool := knownT t && decide (t % 2 = 0)
theorem ask_any (t : Nat) (w : World) (ht : t < 256) : Calls Tryz.prog 18 #[.int .u8 (t : Int)] w fun e w' => e = .returned (.bool (askT t)) ∧ w = w' := by
 have hk := hid (fun W => known_any t W ht)
 have hA : Hid (askT t = (knownT t && decide (t % 2 = 0))) := hid rfl
 rcases hb : knownT t with _ | _
 ·rw [hb] at hk hA
  clear hb
  go_enter Tryz.func18, Tryz.ntmps18
  go_wp2_with fail
  refine (hk.out _).mono ?_
  rintro e w1 ⟨rfl, rfl⟩
  go_wp2_with fail
  go_ret
  rw [hA.out]
  exact ⟨rfl, rfl⟩
 ·rw [hb] at hk hA
  clear hb
  by_cases h2 : t % 2 = 0
  ·rw [decide_eq_true h2] at hA
   have k0 : ((t : Int) % 2 == 0) = true := by rw [beq_iff_eq]; omega
   go_enter Tryz.func18, Tryz.ntmps18
   go_wp2_with fail
   refine (hk.out _).mono ?_
   rintro e w1 ⟨rfl, rfl⟩
   go_wp2_with fail
   go_ret
   rw [hA.out]
   exact ⟨rfl, rfl⟩
  ·rw [decide_eq_false h2] at hA
   have k0 : ((t : Int) % 2 == 0) = false := by rw [beq_eq_false_iff_ne, ne_eq]; omega
   go_enter Tryz.func18, Tryz.ntmps18
   go_wp2_with fail
   refine (hk.out _).mono ?_
   rintro e w1 ⟨rfl, rfl⟩
   go_wp2_with fail
   go_ret
   rw [hA.out]
   exact ⟨rfl, rfl⟩

theorem rknown_any (t : Nat) (w : World) (ht : t < 256) : Calls Tryz.prog 15 #[.int .u8 (t : Int)] w fun e w' => e = .returned (.bool (knownT t)) ∧ w = w' := by
 by_cases h1 : 100 ≤ t
 ·by_cases h2 : t ≤ 127
  ·have hk : Hid (knownT t = decide (t ≠ 106)) := hid (by unfold knownT; simp [h1, h2])
   go_enter Tryz.func15, Tryz.ntmps15
   go_wp2
   all_goals
    go_ret
    rw [hk.out]
    refine ⟨ret_bool ?_, rfl⟩
    first | omega | (simp; omega) | (by_cases h : t = 106 <;> simp [h] <;> omega)
  ·have hk : Hid (knownT t = false) := hid (by unfold knownT; simp [h2])
   go_enter Tryz.func15, Tryz.ntmps15
   go_wp2
   all_goals
    go_ret
    rw [hk.out]
    exact ⟨rfl, rfl⟩
 ·have hk : Hid (knownT t = false) := hid (by unfold knownT; simp [h1])
  go_enter Tryz.func15, Tryz.ntmps15
  go_wp2
  all_goals
   go_ret
   rw [hk.out]
   exact ⟨rfl, rfl⟩

end
end Go.Proofs.YtlmojhlacfjmaaaGreat

namespace Go.Proofs.YtlmojhlacfjmaaaGreat
section
open Go.RowKit
set_option maxRecDepth 100000
set_option linter.unusedVariables false

def errM (tag e : Nat) : M := { zeroM with ty := 107, tag := tag, ename := wordS e }
theorem err_cells (tag e : Nat) : (errM tag e).cells (.slice none 0 0) (.slice none 0 0) (.slice none 0 0) = #[.int .u8 107, .int .u16 (tag : Int), .int .u32 0, .string ⟨#[]⟩, .int .u32 0, .int .u32 0, .int .u32 0, .string ⟨#[]⟩, .string ⟨#[]⟩, .string (wordS e), .int .u16 0, .slice none 0 0, .slice none 0 0, .int .u8 0, .int .u32 0, .int .u64 0, .int .u32 0, .int .u8 0, .int .u32 0, .string ⟨#[]⟩, .int .u64 0, .int .u32 0, .slice none 0 0, .int .u16 0, .int .u32 0, .int .u8 0, .int .u32 0, .int .u64 0, .int .u32 0, .int .u32 0, .int .u32 0, .int .u64 0, .string ⟨#[]⟩, .string ⟨#[]⟩, .string ⟨#[]⟩, .string ⟨#[]⟩] := rfl
set_option maxHeartbeats 800000 in
theorem merror_any (tag e : Nat) (w : World) (ht : tag < 65536) : Calls Tryz.prog 16 #[.int .u16 (tag : Int), .int .i64 (e : Int)] w fun en w' => en = .returned (.agg ((errM tag e).cells (.slice none 0 0) (.slice none 0 0) (.slice none 0 0))) ∧ Below w.heap.size w w' := by
 have hb := hid ((Below.refl w.heap.size w).alloc (Nat.le_refl _) (.cells (zeroM.cells (.slice none 0 0) (.slice none 0 0) (.slice none 0 0)) 33))
 have hn := hid (heap_alloc_new w (.cells (zeroM.cells (.slice none 0 0) (.slice none 0 0) (.slice none 0 0)) 33))
 have hR : Hid (∀ cs, Below w.heap.size w ((w.alloc (.cells (zeroM.cells (.slice none 0 0) (.slice none 0 0) (.slice none 0 0)) 33)).setRow w.heap.size cs)) := hid (fun cs => below_setRow hb.out (Nat.le_refl _) cs)
 rw [nil_cells] at hb hn hR
 have hE := hid (fun W => errno_error e W)
 have hC := hid (err_cells tag e)
 go_enter Tryz.func16, Tryz.ntmps16
 go_wp2_with fail
 refine (hE.out _).mono ?_
 rintro en w1 ⟨rfl, rfl⟩
 generalize hS : wordS e = S at *
 replace hS := hid hS
 go_wp2_with (refine wpList_store_row (by rfl) 33 (.tmp 4) (.tmp 8) (by rfl) w.heap.size _ (by rfl) (by rfl) 33 _ hn.out (by kernel_rfl) (by kernel_rfl) (by kernel_rfl) ?_)
 refine bodyPost_ret (results_cell_row rfl _ _ w.heap.size _ _ _ _ rfl (setRow_heap _ _ _ _ _ _ hn.out) Tryz.underlying33 rfl (by kernel_rfl)) rfl ?_
 exact ⟨by rw [hC.out], hR.out _⟩
end
end Go.Proofs.YtlmojhlacfjmaaaGreat
