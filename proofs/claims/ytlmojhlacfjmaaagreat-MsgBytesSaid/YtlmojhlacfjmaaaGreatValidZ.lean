/- What Valid, may and Name return, in the program and in the reference, for every text of at most maxLen bytes. No further condition. -/
import Derived.Test.YtlmojhlacfjmaaaGreatBunB
import Derived.Test.YtlmojhlacfjmaaaGreatShelf
import Derived.Lib.ConvBytes
namespace Go.Proofs.YtlmojhlacfjmaaaGreat
open Go.RowKit
set_option maxRecDepth 100000

theorem indexByte_mem (c : UInt8) : ∀ l : List UInt8, decide (0 ≤ Lib.indexByte l c) = l.contains c
 | [] => rfl
 | b :: l => by
  have ih := indexByte_mem c l
  have hlb : ∀ l : List UInt8, -1 ≤ Lib.indexByte l c := by
   intro l
   induction l with
   | nil => simp [Lib.indexByte]
   | cons b l ih => simp only [Lib.indexByte]; split <;> (try split) <;> omega
  have h1 := hlb l
  simp only [Lib.indexByte, List.contains_cons]
  by_cases hbc : b = c
  ·subst hbc; simp
  ·have e1 : (b == c) = false := by simpa using hbc
   have e2 : (c == b) = false := by simp; exact fun h => hbc h.symm
   rw [e2, ← ih, Bool.false_or]
   refine decide_eq_decide.2 ?_
   rw [e1]
   simp only [Bool.false_eq_true, if_false]
   by_cases h2 : Lib.indexByte l c = -1
   ·simp [h2]
   ·have e3 : (Lib.indexByte l c == -1) = false := by simpa using h2
    rw [e3]; simp; omega

def validB (s : ByteArray) : Bool := S.valid s.data.toList
def mayN (s : ByteArray) : Nat := S.may s.data.toList

theorem validB_eq (s : ByteArray) : validB s = (runesOk s && decide (s.size ≤ 64) && !decide (0 ≤ Lib.indexByte s.data.toList 0)) := by
 rw [indexByte_mem]; rfl

set_option maxHeartbeats 400000 in
theorem valid_any (s : ByteArray) (w : World) (hs : s.size ≤ maxLen) :
  Calls Tryz.prog 103 #[.string s] w fun e w' => e = .returned (.bool (validB s)) ∧ Below w.heap.size w w' := by
 have E := validB_eq s
 unfold maxLen at hs
 cases h1 : runesOk s with
 | false =>
  rw [h1] at E
  replace E := hid E
  replace h1 := hid h1
  go_enter Tryz.func103, Tryz.ntmps103
  go_wp2_with (go_at_call 104; refine (runes_any s _ (by unfold maxLen; omega)).mono ?_; rw [h1.out]; rintro e w' ⟨rfl, hb⟩)
  go_ret
  exact ⟨by rw [E.out]; rfl, hb⟩
 | true =>
  rw [h1] at E
  replace h1 := hid h1
  by_cases h2 : s.size ≤ 64
  ·rw [decide_eq_true h2] at E
   replace E := hid E
   go_enter Tryz.func103, Tryz.ntmps103
   go_wp2_with (first | (go_at_call 104; refine (runes_any s _ (by unfold maxLen; omega)).mono ?_; rw [h1.out]; rintro e w' ⟨rfl, hb⟩) | (go_at_call 105; refine (Tryz.strings_Contains_one s 0 _).mono ?_; rintro e w' ⟨rfl, rfl⟩))
   go_ret
   exact ⟨by rw [E.out]; rfl, hb⟩
  ·rw [decide_eq_false h2] at E
   replace E := hid E
   go_enter Tryz.func103, Tryz.ntmps103
   go_wp2_with (first | (go_at_call 104; refine (runes_any s _ (by unfold maxLen; omega)).mono ?_; rw [h1.out]; rintro e w' ⟨rfl, hb⟩))
   go_ret
   exact ⟨by rw [E.out]; rfl, hb⟩

set_option maxHeartbeats 400000 in
theorem may_any (s : ByteArray) (w : World) (hs : s.size ≤ maxLen) :
  Calls Tryz.prog 102 #[.string s] w fun e w' => e = .returned (.int .i64 (mayN s : Int)) ∧ Below w.heap.size w w' := by
 have hs' := hs
 unfold maxLen at hs
 by_cases h2 : 64 < s.size
 ·have E := hid (show mayN s = 3 by unfold mayN S.may; rw [if_pos (by simpa using h2)])
  go_enter Tryz.func102, Tryz.ntmps102
  go_wp2_with fail
  go_ret
  exact ⟨by rw [E.out]; rfl, Below.refl _ _⟩
 ·have E : mayN s = if !validB s then 2 else 0 := by unfold mayN S.may; rw [if_neg (by simpa using h2)]; rfl
  cases h1 : validB s
  all_goals
   rw [h1] at E
   replace E := hid E
   replace h1 := hid h1
   go_enter Tryz.func102, Tryz.ntmps102
   go_wp2_with (go_at_call 103; refine (valid_any s _ (by unfold maxLen; omega)).mono ?_; rw [h1.out]; rintro e w' ⟨rfl, hb⟩)
   go_ret
   exact ⟨by rw [E.out]; rfl, hb⟩

theorem bytesWorld_cell' (w : World) (e : TypeId) (s : ByteArray) (j : Nat) (hj : j < s.size) : (Lib.bytesWorld w e s).cell? ⟨w.heap.size, j, none⟩ = some (.int .u8 (s[j].toNat : Int)) := by
 rw [Lib.bytesWorld_cell w e s j hj]
 have : s.data.toList.getD j 0 = s[j] := by
  simp only [List.getD_eq_getElem?_getD]
  rw [List.getElem?_eq_getElem (by simpa using hj)]; rfl
 rw [this]

set_option maxHeartbeats 800000 in
theorem ref_valid_any (s : ByteArray) (w : World) (hs : s.size ≤ maxLen) :
  Calls Tryz.prog 64 #[.string s] w fun e w' => e = .returned (.bool (validB s)) ∧ w = w' := by
 unfold maxLen at hs
 have E : validB s = (runesOk s && decide (s.size ≤ 64) && !(s.data.toList.any (· == 0))) := by
  unfold validB S.valid
  have h : ∀ l : List UInt8, l.contains 0 = l.any (· == 0) := by
   intro l
   induction l with
   | nil => rfl
   | cons b l ih => rw [List.contains_cons, List.any_cons, ih, Bool.beq_comm]
  rw [h]; rfl
 go_enter Tryz.func64, Tryz.ntmps64
 replace E := hid E
 go_wp2_with fail
 go_loop [3] (fun i => ∃ k : Nat, k ≤ s.size ∧ i = .int .i64 (k : Int) ∧ Hid ((s.data.toList.take k).any (· == 0) = false)) (fun i => s.size - (intOf i).toNat)
 case atStart => exact ⟨0, by omega, rfl, hid rfl⟩
 case round =>
  obtain ⟨k, hk, rfl, hany⟩ := hrel
  by_cases hlt : k < s.size
  ·have hta := S.take_any s (· == 0) k hlt
   rw [hany.out, Bool.false_or] at hta
   by_cases h0 : s[k].toNat = 0
   ·have hk0 : (((s[k].toNat : Nat) : Int) == 0) = true := by simp [h0]
    have h00 : (s[k] == 0) = true := by simpa [← UInt8.toNat_inj] using h0
    have E1 : Hid (validB s = false) := hid (by rw [E.out, S.any_of_take (k + 1) (hta.trans h00)]; simp)
    clear h0 h00 hta E
    go_wp2_with fail
    go_ret
    exact ⟨by rw [E1.out]; rfl, rfl⟩
   ·have hk0 : (((s[k].toNat : Nat) : Int) == 0) = false := by simp [h0]
    have h00 : (s[k] == 0) = false := by simpa [← UInt8.toNat_inj] using h0
    replace hta := hid (hta.trans h00)
    clear h0 h00
    go_wp2_with fail
    go_round
    case rel => exact ⟨k + 1, by omega, by go_num, hta⟩
    case measure => simp [intOf]; omega
  ·obtain rfl : k = s.size := by omega
   have E1 : validB s = (runesOk s && decide (s.size ≤ 64)) := by
    have h := hany.out
    rw [List.take_of_length_le (by simp)] at h
    rw [E.out, h]; simp
   clear E
   cases h1 : runesOk s
   ·rw [h1] at E1
    replace E1 := hid E1
    replace h1 := hid h1
    go_wp2_with (go_at_call 66; refine (ref_runes_any s _ (by unfold maxLen; omega)).mono ?_; rw [h1.out]; rintro e w' ⟨rfl, rfl⟩)
    go_ret
    exact ⟨by rw [E1.out]; rfl, rfl⟩
   ·rw [h1] at E1
    replace h1 := hid h1
    by_cases h2 : s.size ≤ 64
    ·rw [decide_eq_true h2] at E1
     replace E1 := hid E1
     go_wp2_with (go_at_call 66; refine (ref_runes_any s _ (by unfold maxLen; omega)).mono ?_; rw [h1.out]; rintro e w' ⟨rfl, rfl⟩)
     go_ret
     exact ⟨by rw [E1.out]; exact ret_bool (by simp; omega), rfl⟩
    ·rw [decide_eq_false h2] at E1
     replace E1 := hid E1
     go_wp2_with (go_at_call 66; refine (ref_runes_any s _ (by unfold maxLen; omega)).mono ?_; rw [h1.out]; rintro e w' ⟨rfl, rfl⟩)
     go_ret
     exact ⟨by rw [E1.out]; exact ret_bool (by simp; omega), rfl⟩
end Go.Proofs.YtlmojhlacfjmaaaGreat
