/- What the bodies of the laws of layer 22 return, for every arguments under the bounds that each theorem names. No further condition. -/
import Derived.Test.YtoblafeiidjaaaaDreadF
namespace Go.Proofs.Ytoblafeiidjaaaa
open Go.RowKit
set_option maxRecDepth 100000

def s0 : Stat := ⟨0, 0, 0, 0, 0, 0, 0, 0, 0, ⟨#[97]⟩, ⟨#[117]⟩, ⟨#[117]⟩, ⟨#[117]⟩⟩
theorem s0_cells : s0.cells = #[.int .u16 0, .int .u32 0, .int .u8 0, .int .u32 0, .int .u64 0, .int .u32 0, .int .u32 0, .int .u32 0, .int .u64 0, .string ⟨#[97]⟩, .string ⟨#[117]⟩, .string ⟨#[117]⟩, .string ⟨#[117]⟩] := rfl
theorem s0_ok : StatOk s0 := by constructor <;> decide
theorem s0_few : Few s0 := by constructor <;> decide
theorem s0_size : s0.size = 53 := by decide +kernel
theorem s0_fit : (fitB 58 [s0, s0]).length = 53 ∧ fitK 58 [s0, s0] 0 = 1 ∧ fitE 58 [s0, s0] = 0 := by decide +kernel
theorem s0_whole : (fitB most62 [s0, s0]).length = 106 ∧ fitE most62 [s0, s0] = 0 := by decide +kernel

def two : Array Value := #[.int .u16 0, .int .u32 0, .int .u8 0, .int .u32 0, .int .u64 0, .int .u32 0, .int .u32 0, .int .u32 0, .int .u64 0, .string ⟨#[97]⟩, .string ⟨#[117]⟩, .string ⟨#[117]⟩, .string ⟨#[117]⟩, .int .u16 0, .int .u32 0, .int .u8 0, .int .u32 0, .int .u64 0, .int .u32 0, .int .u32 0, .int .u32 0, .int .u64 0, .string ⟨#[97]⟩, .string ⟨#[117]⟩, .string ⟨#[117]⟩, .string ⟨#[117]⟩]
theorem two_at (w : World) : StatsAt (w.alloc (.cells two 37)) (.slice (some ⟨w.heap.size, 0, none⟩) 2 2) [s0, s0] :=
  RowAt.of_block (cs := two) (n := 2) (heap_alloc_new _ _) rfl (by unfold maxLen; omega)

theorem s0_load {W : World} {b : Nat} {t : TypeId} {fr : Nat × Nat} (h : W.heap[b]? = some (.cells #[.int .u16 0, .int .u32 0, .int .u8 0, .int .u32 0, .int .u64 0, .int .u32 0, .int .u32 0, .int .u32 0, .int .u64 0, .string ⟨#[97]⟩, .string ⟨#[117]⟩, .string ⟨#[117]⟩, .string ⟨#[117]⟩] t fr)) :
    W.cell? ⟨b, 0, none⟩ = some (.int .u16 0) ∧ W.cell? ⟨b, 0 + 1, none⟩ = some (.int .u32 0) ∧ W.cell? ⟨b, 0 + 2, none⟩ = some (.int .u8 0) ∧ W.cell? ⟨b, 0 + 3, none⟩ = some (.int .u32 0) ∧ W.cell? ⟨b, 0 + 4, none⟩ = some (.int .u64 0) ∧ W.cell? ⟨b, 0 + 5, none⟩ = some (.int .u32 0) ∧ W.cell? ⟨b, 0 + 6, none⟩ = some (.int .u32 0) ∧ W.cell? ⟨b, 0 + 7, none⟩ = some (.int .u32 0) ∧ W.cell? ⟨b, 0 + 8, none⟩ = some (.int .u64 0) ∧ W.cell? ⟨b, 0 + 9, none⟩ = some (.string ⟨#[97]⟩) ∧ W.cell? ⟨b, 0 + 10, none⟩ = some (.string ⟨#[117]⟩) ∧ W.cell? ⟨b, 0 + 11, none⟩ = some (.string ⟨#[117]⟩) ∧ W.cell? ⟨b, 0 + 12, none⟩ = some (.string ⟨#[117]⟩) :=
  ⟨block_cell h 0, block_cell h 1, block_cell h 2, block_cell h 3, block_cell h 4, block_cell h 5, block_cell h 6, block_cell h 7, block_cell h 8, block_cell h 9, block_cell h 10, block_cell h 11, block_cell h 12⟩

set_option maxHeartbeats 1600000 in
theorem known22_any (w : World) : Calls Try.prog 13 #[] w fun e w' => e = .returned (.bool true) ∧ Below w.heap.size w w' := by
  have k0 := fun W : World => size_any s0 W s0_few
  rw [s0_cells, s0_size] at k0
  go_enter Try.func13, Try.ntmps13
  go_wp2_with fail
  refine (k0 _).mono ?_
  rintro e w1 ⟨rfl, hb1⟩
  have h1 := (hb1.block w.heap.size (by simp)).trans (heap_alloc_new w (.cells #[.int .u16 0, .int .u32 0, .int .u8 0, .int .u32 0, .int .u64 0, .int .u32 0, .int .u32 0, .int .u32 0, .int .u64 0, .string ⟨#[97]⟩, .string ⟨#[117]⟩, .string ⟨#[117]⟩, .string ⟨#[117]⟩] 37))
  obtain ⟨q0, q1, q2, q3, q4, q5, q6, q7, q8, q9, q10, q11, q12⟩ := s0_load h1
  have hlt1 := lt_of_block h1
  replace h1 := hid h1
  have fb := ((Below.refl w.heap.size w).alloc (Nat.le_refl _) (.cells #[.int .u16 0, .int .u32 0, .int .u8 0, .int .u32 0, .int .u64 0, .int .u32 0, .int .u32 0, .int .u32 0, .int .u64 0, .string ⟨#[97]⟩, .string ⟨#[117]⟩, .string ⟨#[117]⟩, .string ⟨#[117]⟩] 37)).trans (hb1.mono (by simp))
  clear hb1
  have f1 := fit_in [s0, s0] _ 0 58 _ (two_at w1) (by decide) (by decide) (by intro s hs; simp at hs; subst hs; exact ⟨s0_ok, s0_few⟩) (by decide)
  obtain ⟨e1, e2, e3⟩ := s0_fit
  rw [show List.drop 0 [s0, s0] = [s0, s0] from rfl, e2, e3] at f1
  replace f1 := hid f1
  go_wp2_with fail
  refine f1.out.mono ?_
  rintro e w2 ⟨v2, rfl, hv2, hb2⟩
  obtain ⟨a2, c2, rfl, _, _, _⟩ := hv2.form
  rw [e1]
  have hb12 := ((Below.refl w1.heap.size w1).alloc (Nat.le_refl _) (.cells two 37)).trans (hb2.mono (by simp))
  have fb2 := fb.trans (hb12.mono (Nat.le_of_lt hlt1))
  have h2 := (hb12.block w.heap.size hlt1).trans h1.out
  clear q0 q1 q2 q3 q4 q5 q6 q7 q8 q9 q10 q11 q12 f1 hb12 hb2 h1 fb hlt1 e1 e2 e3 k0
  obtain ⟨q0, q1, q2, q3, q4, q5, q6, q7, q8, q9, q10, q11, q12⟩ := s0_load h2
  have hlt2 := lt_of_block h2
  replace h2 := hid h2
  have f2 := whole_any [s0, s0] _ _ (two_at w2) (by intro s hs; simp at hs; subst hs; exact ⟨s0_ok, s0_few⟩) (by decide)
  obtain ⟨e1, e2⟩ := s0_whole
  rw [e2] at f2
  replace f2 := hid f2
  go_wp2_with fail
  refine f2.out.mono ?_
  rintro e w3 ⟨v3, rfl, hv3, hb3⟩
  obtain ⟨a3, c3, rfl, _, _, _⟩ := hv3.form
  rw [e1]
  have hb13 := ((Below.refl w2.heap.size w2).alloc (Nat.le_refl _) (.cells two 37)).trans (hb3.mono (by simp))
  have fb3 := fb2.trans (hb13.mono (Nat.le_of_lt hlt2))
  clear q0 q1 q2 q3 q4 q5 q6 q7 q8 q9 q10 q11 q12 f2 hb13 hb3 h2 fb2 hlt2 e1 e2
  have f3 := fit_out [] (.slice none 0 0) 1 5 w3 RowAt.nil (.inr (by decide)) (by decide) (by decide)
  replace f3 := hid f3
  go_wp2_with fail
  refine f3.out.mono ?_
  rintro e w4 ⟨v4, rfl, hv4, hb4⟩
  have fb4 := fb3.trans (hb4.mono fb3.size)
  have g1 := fun W => ask_any 0 5 W
  have g2 := fun W => ask_any 5 5 W
  have g3 := fun W => ask_any 4 5 W
  rw [show askN 0 5 = 0 from rfl] at g1
  rw [show askN 5 5 = 0 from rfl] at g2
  rw [show askN 4 5 = 21 from rfl] at g3
  go_wp2_with fail
  refine (g1 _).mono ?_
  rintro e w5 ⟨rfl, rfl⟩
  go_wp2_with fail
  refine (g2 _).mono ?_
  rintro e w5 ⟨rfl, rfl⟩
  go_wp2_with fail
  refine (g3 _).mono ?_
  rintro e w5 ⟨rfl, rfl⟩
  go_wp2_with fail
  go_ret
  exact ⟨rfl, fb4⟩

theorem law_ReadAsks (a b : Nat) (w : World) : Calls Try.prog 3 #[.int .u64 (a : Int), .int .u64 (b : Int)] w fun e w' => e = .returned (.bool true) ∧ Below w.heap.size w w' := by
  go_enter Try.func3, Try.ntmps3
  go_wp2_with fail
  refine (known22_any _).mono ?_
  rintro e w1 ⟨rfl, hb1⟩
  go_wp2_with fail
  refine (ask_any a b _).mono ?_
  rintro e w2 ⟨rfl, rfl⟩
  by_cases h1 : a = 0
  · rw [show askN a b = 0 by simp [askN, h1]]
    go_wp2_with fail
    go_ret
    exact ⟨rfl, hb1⟩
  · by_cases h2 : a = b
    · rw [show askN a b = 0 by simp [askN, h2]]
      go_wp2_with fail
      go_ret
      exact ⟨rfl, hb1⟩
    · rw [show askN a b = 21 by simp [askN, h1, h2]]
      have k1 : ((a : Int) == 0) = false := by simp; omega
      have k2 : ((a : Int) == (b : Int)) = false := by simp; omega
      go_wp2_with fail
      go_ret
      exact ⟨rfl, hb1⟩

theorem law_ReadAsksI (x y : Int) (w : World) (hx : 0 ≤ x) (hy : 0 ≤ y) : Calls Try.prog 3 #[.int .u64 x, .int .u64 y] w fun e w' => e = .returned (.bool true) ∧ Below w.heap.size w w' := by
  obtain ⟨a, rfl⟩ := Int.eq_ofNat_of_zero_le hx
  obtain ⟨b, rfl⟩ := Int.eq_ofNat_of_zero_le hy
  exact law_ReadAsks a b w
end Go.Proofs.Ytoblafeiidjaaaa
