/- Which modes may be, in the program and in the reference. Conditions: numbers in their types. -/
import Derived.Test.YtonhliipbdniiaaPm4
namespace Go.Proofs.Ytonhliipbdniiaa
open Go.RowKit
set_option maxRecDepth 100000
set_option linter.unusedVariables false

def bitsB (m : Nat) : Bool := decide (m &&& 536870400 = 0) && (decide (m &&& 2147483648 = 0) || decide (m &&& 1610612736 = 0))
theorem dec_int (a b : Nat) : ((a : Int) == (b : Int)) = decide (a = b) := by
  by_cases h : a = b
  · simp [h]
  · simp only [h, decide_false]
    simp; omega
theorem bits_p1 (m : Nat) (h : m < 4294967296) : (bits .andNot .u32 (m : Int) 3758096895 == 0) = decide (m &&& 536870400 = 0) := by
  rw [show (3758096895 : Int) = ((3758096895 : Nat) : Int) from rfl, u32_andNot_nat _ _ h (by omega)]
  exact dec_int _ 0
theorem bits_p2 (m : Nat) (h : m < 4294967296) : (bits .and .u32 (m : Int) 2147483648 == 0) = decide (m &&& 2147483648 = 0) := by
  rw [show (2147483648 : Int) = ((2147483648 : Nat) : Int) from rfl, u32_and_nat _ _ h (by omega)]
  exact dec_int _ 0
theorem bits_p3 (m : Nat) (h : m < 4294967296) : (bits .and .u32 (m : Int) 1610612736 == 0) = decide (m &&& 1610612736 = 0) := by
  rw [show (1610612736 : Int) = ((1610612736 : Nat) : Int) from rfl, u32_and_nat _ _ h (by omega)]
  exact dec_int _ 0
theorem bits_r1 (m : Nat) (h : m < 4294967296) : bits .andNot .u32 (m : Int) 511 = ((m &&& 4294966784 : Nat) : Int) := by
  rw [show (511 : Int) = ((511 : Nat) : Int) from rfl, u32_andNot_nat _ _ h (by omega)]
theorem bits_r2 (m : Nat) : (((m &&& 4294966784 : Nat) : Int) == 2147483648) = decide (m &&& 4294966784 = 2147483648) := dec_int _ 2147483648
theorem bits_r3 (m : Nat) (h : m < 4294967296) : (bits .andNot .u32 ((m &&& 4294966784 : Nat) : Int) 1610612736 == 0) = decide (m &&& 2684354048 = 0) := by
  rw [show (1610612736 : Int) = ((1610612736 : Nat) : Int) from rfl, u32_andNot_nat _ _ (Nat.lt_of_le_of_lt Nat.and_le_left h) (by omega), Nat.and_assoc]
  exact dec_int _ 0
theorem bit31 (m : Nat) : m &&& 2147483648 = 0 ∨ m &&& 2147483648 = 2147483648 := by
  rw [nat_bit31]
  have : m / 2147483648 % 2 = 0 ∨ m / 2147483648 % 2 = 1 := by omega
  rcases this with h | h <;> rw [h] <;> decide
theorem bits_eq (m : Nat) : (decide (m &&& 4294966784 = 2147483648) || decide (m &&& 2684354048 = 0)) = bitsB m := by
  unfold bitsB
  have e1 : m &&& 4294966784 = (m &&& 536870400) ||| (m &&& 2147483648) ||| (m &&& 1610612736) := by
    rw [← Nat.and_or_distrib_left, ← Nat.and_or_distrib_left]
    exact congrArg (m &&& ·) (by decide)
  have e2 : m &&& 2684354048 = (m &&& 536870400) ||| (m &&& 2147483648) := by
    rw [← Nat.and_or_distrib_left]
    exact congrArg (m &&& ·) (by decide)
  rw [Bool.eq_iff_iff]
  simp only [Bool.or_eq_true, Bool.and_eq_true, decide_eq_true_eq]
  constructor
  · rintro (h | h)
    · have h1 : (m &&& 4294966784) &&& 536870400 = 2147483648 &&& 536870400 := by rw [h]
      have h2 : (m &&& 4294966784) &&& 1610612736 = 2147483648 &&& 1610612736 := by rw [h]
      rw [Nat.and_assoc] at h1 h2
      exact ⟨h1, .inr h2⟩
    · rw [e2, Nat.or_eq_zero_iff] at h
      exact ⟨h.1, .inl h.2⟩
  · rintro ⟨h1, h | h⟩
    · right; rw [e2, h1, h]; rfl
    · rcases bit31 m with hb | hb
      · right; rw [e2, h1, hb]; rfl
      · left; rw [e1, h1, h, hb]; rfl

theorem nbits_any (m : Nat) (w : World) (hm : m < 4294967296) :
    Calls Try.prog 46 #[.int .u32 (m : Int)] w fun e w' => e = .returned (.bool (bitsB m)) ∧ w' = w := by
  have p1 := bits_p1 m hm
  have p2 := bits_p2 m hm
  have p3 := bits_p3 m hm
  have hE : Hid (bitsB m = (decide (m &&& 536870400 = 0) && (decide (m &&& 2147483648 = 0) || decide (m &&& 1610612736 = 0)))) := hid rfl
  generalize decide (m &&& 536870400 = 0) = b1 at *
  generalize decide (m &&& 2147483648 = 0) = b2 at *
  generalize decide (m &&& 1610612736 = 0) = b3 at *
  cases b1 <;> cases b2 <;> cases b3
  all_goals
    go_enter Try.func46, Try.ntmps46
    go_wp2_with fail
    go_ret
    exact ⟨ret_bool (by rw [hE.out]; rfl), rfl⟩

theorem rbits_any (m : Nat) (w : World) (hm : m < 4294967296) :
    Calls Try.prog 50 #[.int .u32 (m : Int)] w fun e w' => e = .returned (.bool (bitsB m)) ∧ w' = w := by
  have p1 := bits_r1 m hm
  have p2 := bits_r2 m
  have p3 := bits_r3 m hm
  have hE : Hid (bitsB m = (decide (m &&& 4294966784 = 2147483648) || decide (m &&& 2684354048 = 0))) := hid (bits_eq m).symm
  generalize decide (m &&& 4294966784 = 2147483648) = b1 at *
  generalize decide (m &&& 2684354048 = 0) = b2 at *
  cases b1 <;> cases b2
  all_goals
    go_enter Try.func50, Try.ntmps50
    go_wp2_with fail
    go_ret
    exact ⟨ret_bool (by rw [hE.out]; rfl), rfl⟩
end Go.Proofs.Ytonhliipbdniiaa
