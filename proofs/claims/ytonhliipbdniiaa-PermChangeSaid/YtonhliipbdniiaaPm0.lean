/- What is granted, as numbers: the program's bits and the reference's agree. Plain; numbers in their types. -/
import Derived.Laws.BitsAllLaws
namespace Go.Proofs.Ytonhliipbdniiaa
set_option linter.unusedVariables false

/-- What one has: as another, as a member, as the owner. -/
def hasB (g o : Bool) (m : Nat) : Nat := (m % 8 ||| (if g then m / 8 % 8 else 0)) ||| (if o then m / 64 % 8 else 0)
def mayS (g o : Bool) (m want : Nat) : Bool := decide (want &&& (7 - hasB g o m) = 0)

theorem and7 (a : Nat) : a &&& 7 = a % 8 := Nat.and_two_pow_sub_one_eq_mod a 3
theorem and_mask7 (want h : Nat) (hh : h < 4294967296) : want &&& 7 &&& (4294967295 - h) = want &&& (7 - h % 8) := by
  rw [Nat.and_assoc, Nat.and_comm 7, and7]
  congr 1
  omega
theorem may_bits (want h : Nat) (hw : want < 4294967296) (hh : h < 4294967296) : (bits .andNot .u32 (bits .and .u32 (want : Int) 7) (h : Int) == 0) = decide (want &&& (7 - h % 8) = 0) := by
  have h7 : want &&& 7 < 4294967296 := Nat.lt_of_le_of_lt Nat.and_le_left hw
  rw [show (7 : Int) = ((7 : Nat) : Int) from rfl, u32_and_nat _ _ hw (by omega), u32_andNot_nat _ _ h7 hh, and_mask7 want h hh]
  by_cases h0 : want &&& (7 - h % 8) = 0
  · simp [h0]
  · simp only [h0, decide_false]
    simpa using h0
theorem or_lt32 {a b : Nat} (ha : a < 4294967296) (hb : b < 4294967296) : a ||| b < 4294967296 := Nat.or_lt_two_pow (n := 32) ha hb
theorem or_mod8 (a b : Nat) : (a ||| b) % 8 = a % 8 ||| b % 8 := Nat.or_mod_two_pow (n := 3)
theorem lt8 {a b : Nat} (ha : a < 8) (hb : b < 8) : a ||| b < 8 := Nat.or_lt_two_pow (n := 3) ha hb
theorem hasB_lt (g o : Bool) (m : Nat) : hasB g o m < 8 := by
  unfold hasB
  refine lt8 (lt8 (by omega) ?_) ?_ <;> split <;> omega
/-- The program's bits. -/
def hasP (g o : Bool) (m : Nat) : Nat := if o then (if g then m ||| m / 8 else m) ||| m / 64 else (if g then m ||| m / 8 else m)
theorem hasP_lt (g o : Bool) (m : Nat) (hm : m < 4294967296) : hasP g o m < 4294967296 := by
  unfold hasP
  have h8 : m / 8 < 4294967296 := by omega
  have h64 : m / 64 < 4294967296 := by omega
  cases g <;> cases o <;> simp [or_lt32, hm, h8, h64]
theorem hasP_mod (g o : Bool) (m : Nat) : hasP g o m % 8 = hasB g o m := by
  unfold hasP hasB
  cases g <;> cases o <;> simp [or_mod8]
theorem hasP_tt (m : Nat) (hm : m < 4294967296) : bits .or .u32 (bits .or .u32 (m : Int) ((m : Int) / 8)) ((m : Int) / 64) = ((hasP true true m : Nat) : Int) := by
  rw [show (m : Int) / 8 = ((m / 8 : Nat) : Int) from rfl, show (m : Int) / 64 = ((m / 64 : Nat) : Int) from rfl, u32_or_nat _ _ hm (by omega), u32_or_nat _ _ (or_lt32 hm (by omega)) (by omega)]
  rfl
theorem hasP_tf (m : Nat) (hm : m < 4294967296) : bits .or .u32 (m : Int) ((m : Int) / 8) = ((hasP true false m : Nat) : Int) := by
  rw [show (m : Int) / 8 = ((m / 8 : Nat) : Int) from rfl, u32_or_nat _ _ hm (by omega)]
  rfl
theorem hasP_ft (m : Nat) (hm : m < 4294967296) : bits .or .u32 (m : Int) ((m : Int) / 64) = ((hasP false true m : Nat) : Int) := by
  rw [show (m : Int) / 64 = ((m / 64 : Nat) : Int) from rfl, u32_or_nat _ _ hm (by omega)]
  rfl
theorem may_prog (g o : Bool) (m want : Nat) (hm : m < 4294967296) (hw : want < 4294967296) : (bits .andNot .u32 (bits .and .u32 (want : Int) 7) ((hasP g o m : Nat) : Int) == 0) = mayS g o m want := by
  rw [may_bits want _ hw (hasP_lt g o m hm), hasP_mod]
  rfl
/-- The reference's bits. -/
theorem and7_int (a : Nat) (ha : a < 4294967296) : bits .and .u32 (a : Int) 7 = ((a % 8 : Nat) : Int) := by
  rw [show (7 : Int) = ((7 : Nat) : Int) from rfl, u32_and_nat _ _ ha (by omega), and7]
theorem may_ref (g o : Bool) (m want : Nat) (hw : want < 4294967296) : (bits .andNot .u32 (bits .and .u32 (want : Int) 7) ((hasB g o m : Nat) : Int) == 0) = mayS g o m want := by
  rw [may_bits want _ hw (by have := hasB_lt g o m; omega), Nat.mod_eq_of_lt (hasB_lt g o m)]
  rfl
end Go.Proofs.Ytonhliipbdniiaa
