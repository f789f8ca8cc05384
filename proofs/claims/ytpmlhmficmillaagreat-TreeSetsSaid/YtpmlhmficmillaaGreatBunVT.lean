/- What Valid, may and Name return, in the program and in the reference, for every text of at most maxLen bytes. No further condition.
What text.Put and text.Take do, under bounds on lengths that each theorem names. No further condition. -/
import Derived.Test.YtpmlhmficmillaaGreatBunB
import Derived.Test.YtpmlhmficmillaaGreatShelf
import Derived.Lib.ConvBytes
import Derived.Test.YtpmlhmficmillaaGreatBunNA
import Derived.Lib.AppendStr
namespace Go.Proofs.YtpmlhmficmillaaGreat
section
open Go.RowKit
set_option maxRecDepth 100000

theorem indexByte_mem (c : UInt8) : ∀ l : List UInt8, decide (0 ≤ Lib.indexByte l c) = l.contains c
  | [] => rfl
  | b :: l => by
    have ih := indexByte_mem c l
    have hlb : ∀ l : List UInt8, -1 ≤ Lib.indexByte l c := by
      intro l
      induction l with
      | nil => simp [Lib.indexByte]
      | cons b l ih => simp only [Lib.indexByte]; split <;> (try split) <;> omega
    have h1 := hlb l
    simp only [Lib.indexByte, List.contains_cons]
    by_cases hbc : b = c
    · subst hbc; simp
    · have e1 : (b == c) = false := by simpa using hbc
      have e2 : (c == b) = false := by simp; exact fun h => hbc h.symm
      rw [e2, ← ih, Bool.false_or]
      refine decide_eq_decide.2 ?_
      rw [e1]
      simp only [Bool.false_eq_true, if_false]
      by_cases h2 : Lib.indexByte l c = -1
      · simp [h2]
      · have e3 : (Lib.indexByte l c == -1) = false := by simpa using h2
        rw [e3]; simp; omega

def validB (s : ByteArray) : Bool := S.valid s.data.toList
def nameN (s : ByteArray) : Nat := S.name s.data.toList
theorem validB_eq (s : ByteArray) : validB s = (runesOk s && decide (s.size ≤ 64) && !decide (0 ≤ Lib.indexByte s.data.toList 0)) := by
  rw [indexByte_mem]; rfl

set_option maxHeartbeats 400000 in
theorem valid_any (s : ByteArray) (w : World) (hs : s.size ≤ maxLen) :
    Calls Tryz.prog 88 #[.string s] w fun e w' => e = .returned (.bool (validB s)) ∧ Below w.heap.size w w' := by
  have E := validB_eq s
  unfold maxLen at hs
  cases h1 : runesOk s with
  | false =>
    rw [h1] at E
    replace E := hid E
    replace h1 := hid h1
    go_enter Tryz.func88, Tryz.ntmps88
    go_wp2_with (go_at_call 100; refine (runes_any s _ (by unfold maxLen; omega)).mono ?_; rw [h1.out]; rintro e w' ⟨rfl, hb⟩)
    go_ret
    exact ⟨by rw [E.out]; rfl, hb⟩
  | true =>
    rw [h1] at E
    replace h1 := hid h1
    by_cases h2 : s.size ≤ 64
    · rw [decide_eq_true h2] at E
      replace E := hid E
      go_enter Tryz.func88, Tryz.ntmps88
      go_wp2_with (first | (go_at_call 100; refine (runes_any s _ (by unfold maxLen; omega)).mono ?_; rw [h1.out]; rintro e w' ⟨rfl, hb⟩) | (go_at_call 101; refine (Tryz.strings_Contains_one s 0 _).mono ?_; rintro e w' ⟨rfl, rfl⟩))
      go_ret
      exact ⟨by rw [E.out]; rfl, hb⟩
    · rw [decide_eq_false h2] at E
      replace E := hid E
      go_enter Tryz.func88, Tryz.ntmps88
      go_wp2_with (first | (go_at_call 100; refine (runes_any s _ (by unfold maxLen; omega)).mono ?_; rw [h1.out]; rintro e w' ⟨rfl, hb⟩))
      go_ret
      exact ⟨by rw [E.out]; rfl, hb⟩

theorem bytesWorld_cell' (w : World) (e : TypeId) (s : ByteArray) (j : Nat) (hj : j < s.size) : (Lib.bytesWorld w e s).cell? ⟨w.heap.size, j, none⟩ = some (.int .u8 (s[j].toNat : Int)) := by
  rw [Lib.bytesWorld_cell w e s j hj]
  have : s.data.toList.getD j 0 = s[j] := by
    simp only [List.getD_eq_getElem?_getD]
    rw [List.getElem?_eq_getElem (by simpa using hj)]; rfl
  rw [this]

theorem bad_any (c : Nat) (w : World) (hc : c < 256) :
    Calls Tryz.prog 99 #[.int .u8 (c : Int)] w fun e w' => e = .returned (.bool (decide (c < 32) || c == 47)) ∧ w = w' := by
  by_cases h1 : c < 32
  · go_enter Tryz.func99, Tryz.ntmps99
    go_wp2
    go_ret
    exact ⟨ret_bool (by simp), rfl⟩
  · go_enter Tryz.func99, Tryz.ntmps99
    go_wp2
    go_ret
    exact ⟨ret_bool (by rw [show decide (c < 32) = false from decide_eq_false h1, show decide ((c : Int) < 32) = false from decide_eq_false (by omega)]; exact Bool.eq_iff_iff.2 (by simp; omega)), rfl⟩

theorem name_eq (s : ByteArray) : nameN s = if !validB s || s.toList.isEmpty || s.toList == [46] || s.toList == [46, 46] then 6 else if s.data.toList.any S.badByte then 6 else if 28 < s.size then 3 else 0 := by
  rw [ByteArray.toList_eq]; rfl

set_option maxHeartbeats 800000 in
theorem name_any (s : ByteArray) (w : World) (hs : s.size ≤ maxLen) :
    Calls Tryz.prog 87 #[.string s] w fun e w' => e = .returned (.int .i64 (nameN s : Int)) ∧ Below w.heap.size w w' := by
  unfold maxLen at hs
  have E := name_eq s
  cases h1 : validB s with
  | false =>
    rw [h1] at E
    have E1 : Hid (nameN s = 6) := hid (by rw [E]; rfl)
    clear E
    replace h1 := hid h1
    go_enter Tryz.func87, Tryz.ntmps87
    go_wp2_with (go_at_call 88; refine (valid_any s _ (by unfold maxLen; omega)).mono ?_; rw [h1.out]; rintro e w' ⟨rfl, hb⟩)
    go_ret
    exact ⟨by rw [E1.out]; rfl, hb⟩
  | true =>
    rw [h1] at E
    replace h1 := hid h1
    by_cases h2 : (s.toList.isEmpty || s.toList == [46] || s.toList == [46, 46]) = true
    · have E1 : Hid (nameN s = 6) := hid (by rw [E]; simp only [Bool.not_true, Bool.false_or]; rw [if_pos h2])
      clear E
      go_enter Tryz.func87, Tryz.ntmps87
      go_wp2_with (go_at_call 88; refine (valid_any s _ (by unfold maxLen; omega)).mono ?_; rw [h1.out]; rintro e w' ⟨rfl, hb⟩)
      all_goals (go_ret; exact ⟨by rw [E1.out]; rfl, hb⟩)
    · have E1 := hid E
      have h3 : s.toList.isEmpty = false ∧ (s.toList == [46]) = false ∧ (s.toList == [46, 46]) = false := by simpa [and_assoc] using h2
      obtain ⟨h3, h4, h5⟩ := h3
      clear E h2
      have hcv := fun W => Lib.run_convert_string_bytes (P := Tryz.prog) W 9 46 5 s Tryz.underlying9 Tryz.underlying46 Tryz.underlying5
      go_enter Tryz.func87, Tryz.ntmps87
      go_wp2_with (go_at_call 88; refine (valid_any s _ (by unfold maxLen; omega)).mono ?_; rw [h1.out]; rintro e w' ⟨rfl, hb⟩)
      have hbd : Below w.heap.size w (Lib.bytesWorld w' 5 s) := hb.trans ⟨rfl, rfl, rfl, by rw [Lib.bytesWorld_size]; omega, fun k hk => Lib.bytesWorld_at_old w' _ s k (by have := hb.size; omega)⟩
      go_loop [23] (fun i => ∃ k : Nat, k ≤ s.size ∧ i = .int .i64 (k : Int) ∧ Hid ((s.data.toList.take k).any S.badByte = false)) (fun i => s.size - (intOf i).toNat)
      case atStart => exact ⟨0, by omega, rfl, hid rfl⟩
      case round =>
        obtain ⟨k, hk, rfl, hany⟩ := hrel
        by_cases hlt : k < s.size
        · have hcl := bytesWorld_cell' w' 5 s k hlt
          have hta := S.take_any s S.badByte k hlt
          rw [hany.out, Bool.false_or] at hta
          cases hbad : S.badByte s[k] with
          | true =>
            have hb2 : Hid ((decide (s[k].toNat < 32) || s[k].toNat == 47) = true) := hid hbad
            have E2 : Hid (nameN s = 6) := hid (by
              rw [E1.out]; rw [hbad] at hta
              simp only [h3, h4, h5, Bool.not_true, Bool.or_self, Bool.false_eq_true, if_false]
              rw [if_pos (S.any_of_take (k + 1) hta)])
            clear E1 hta hbad
            go_wp2_with (go_at_call 99; refine (bad_any _ _ s[k].toNat_lt).mono ?_; rw [hb2.out]; rintro e w' ⟨rfl, rfl⟩)
            go_ret
            exact ⟨by rw [E2.out]; rfl, hbd⟩
          | false =>
            have hb2 : Hid ((decide (s[k].toNat < 32) || s[k].toNat == 47) = false) := hid hbad
            replace hta := hid (hta.trans hbad)
            clear hbad
            go_wp2_with (go_at_call 99; refine (bad_any _ _ s[k].toNat_lt).mono ?_; rw [hb2.out]; rintro e w' ⟨rfl, rfl⟩)
            go_round
            case rel => exact ⟨k + 1, by omega, by go_num, hta⟩
            case measure => simp [intOf]; omega
        · obtain rfl : k = s.size := by omega
          have E2 : Hid (nameN s = if 28 < s.size then 3 else 0) := hid (by
            rw [E1.out]
            have h := hany.out
            rw [List.take_of_length_le (by simp)] at h
            simp only [h3, h4, h5, h, Bool.not_true, Bool.or_self, Bool.false_eq_true, if_false])
          clear E1
          by_cases h28 : 28 < s.size
          · go_wp2_with fail
            go_ret
            exact ⟨by rw [E2.out, if_pos h28]; rfl, hbd⟩
          · go_wp2_with fail
            go_ret
            exact ⟨by rw [E2.out, if_neg h28]; rfl, hbd⟩

set_option maxHeartbeats 800000 in
theorem ref_valid_any (s : ByteArray) (w : World) (hs : s.size ≤ maxLen) :
    Calls Tryz.prog 68 #[.string s] w fun e w' => e = .returned (.bool (validB s)) ∧ w = w' := by
  unfold maxLen at hs
  have E : validB s = (runesOk s && decide (s.size ≤ 64) && !(s.data.toList.any (· == 0))) := by
    unfold validB S.valid
    have h : ∀ l : List UInt8, l.contains 0 = l.any (· == 0) := by
      intro l
      induction l with
      | nil => rfl
      | cons b l ih => rw [List.contains_cons, List.any_cons, ih, Bool.beq_comm]
    rw [h]; rfl
  go_enter Tryz.func68, Tryz.ntmps68
  replace E := hid E
  go_wp2_with fail
  go_loop [3] (fun i => ∃ k : Nat, k ≤ s.size ∧ i = .int .i64 (k : Int) ∧ Hid ((s.data.toList.take k).any (· == 0) = false)) (fun i => s.size - (intOf i).toNat)
  case atStart => exact ⟨0, by omega, rfl, hid rfl⟩
  case round =>
    obtain ⟨k, hk, rfl, hany⟩ := hrel
    by_cases hlt : k < s.size
    · have hta := S.take_any s (· == 0) k hlt
      rw [hany.out, Bool.false_or] at hta
      by_cases h0 : s[k].toNat = 0
      · have hk0 : (((s[k].toNat : Nat) : Int) == 0) = true := by simp [h0]
        have h00 : (s[k] == 0) = true := by simpa [← UInt8.toNat_inj] using h0
        have E1 : Hid (validB s = false) := hid (by rw [E.out, S.any_of_take (k + 1) (hta.trans h00)]; simp)
        clear h0 h00 hta E
        go_wp2_with fail
        go_ret
        exact ⟨by rw [E1.out]; rfl, rfl⟩
      · have hk0 : (((s[k].toNat : Nat) : Int) == 0) = false := by simp [h0]
        have h00 : (s[k] == 0) = false := by simpa [← UInt8.toNat_inj] using h0
        replace hta := hid (hta.trans h00)
        clear h0 h00
        go_wp2_with fail
        go_round
        case rel => exact ⟨k + 1, by omega, by go_num, hta⟩
        case measure => simp [intOf]; omega
    · obtain rfl : k = s.size := by omega
      have E1 : validB s = (runesOk s && decide (s.size ≤ 64)) := by
        have h := hany.out
        rw [List.take_of_length_le (by simp)] at h
        rw [E.out, h]; simp
      clear E
      cases h1 : runesOk s
      · rw [h1] at E1
        replace E1 := hid E1
        replace h1 := hid h1
        go_wp2_with (go_at_call 84; refine (ref_runes_any s _ (by unfold maxLen; omega)).mono ?_; rw [h1.out]; rintro e w' ⟨rfl, rfl⟩)
        go_ret
        exact ⟨by rw [E1.out]; rfl, rfl⟩
      · rw [h1] at E1
        replace h1 := hid h1
        by_cases h2 : s.size ≤ 64
        · rw [decide_eq_true h2] at E1
          replace E1 := hid E1
          go_wp2_with (go_at_call 84; refine (ref_runes_any s _ (by unfold maxLen; omega)).mono ?_; rw [h1.out]; rintro e w' ⟨rfl, rfl⟩)
          go_ret
          exact ⟨by rw [E1.out]; exact ret_bool (by simp; omega), rfl⟩
        · rw [decide_eq_false h2] at E1
          replace E1 := hid E1
          go_wp2_with (go_at_call 84; refine (ref_runes_any s _ (by unfold maxLen; omega)).mono ?_; rw [h1.out]; rintro e w' ⟨rfl, rfl⟩)
          go_ret
          exact ⟨by rw [E1.out]; exact ret_bool (by simp; omega), rfl⟩
theorem take_bad (s : ByteArray) (k : Nat) (h : k < s.size) (hany : (s.data.toList.take k).any S.badByte = false) : (s.data.toList.take (k + 1)).any S.badByte = (decide (s[k].toNat < 32) || s[k].toNat == 47) := by
  rw [S.take_any s S.badByte k h, hany, Bool.false_or]; rfl

set_option maxHeartbeats 800000 in
theorem ref_name_any (s : ByteArray) (w : World) (hs : s.size ≤ maxLen) :
    Calls Tryz.prog 67 #[.string s] w fun e w' => e = .returned (.int .i64 (nameN s : Int)) ∧ w = w' := by
  unfold maxLen at hs
  have E := name_eq s
  cases h1 : validB s with
  | false =>
    rw [h1] at E
    have E1 : Hid (nameN s = 6) := hid (by rw [E]; rfl)
    clear E
    replace h1 := hid h1
    go_enter Tryz.func67, Tryz.ntmps67
    go_wp2_with (go_at_call 68; refine (ref_valid_any s _ (by unfold maxLen; omega)).mono ?_; rw [h1.out]; rintro e w' ⟨rfl, rfl⟩)
    go_ret
    exact ⟨by rw [E1.out]; rfl, rfl⟩
  | true =>
    rw [h1] at E
    replace h1 := hid h1
    by_cases h2 : (s.toList.isEmpty || s.toList == [46] || s.toList == [46, 46]) = true
    · have E1 : Hid (nameN s = 6) := hid (by rw [E]; simp only [Bool.not_true, Bool.false_or]; rw [if_pos h2])
      clear E
      go_enter Tryz.func67, Tryz.ntmps67
      go_wp2_with (go_at_call 68; refine (ref_valid_any s _ (by unfold maxLen; omega)).mono ?_; rw [h1.out]; rintro e w' ⟨rfl, rfl⟩)
      all_goals (go_ret; exact ⟨by rw [E1.out]; rfl, rfl⟩)
    · have E1 := hid E
      have h3 : s.toList.isEmpty = false ∧ (s.toList == [46]) = false ∧ (s.toList == [46, 46]) = false := by simpa [and_assoc] using h2
      obtain ⟨h3, h4, h5⟩ := h3
      clear E h2
      go_enter Tryz.func67, Tryz.ntmps67
      go_wp2_with (go_at_call 68; refine (ref_valid_any s _ (by unfold maxLen; omega)).mono ?_; rw [h1.out]; rintro e w' ⟨rfl, rfl⟩)
      go_loop [3] (fun i => ∃ k : Nat, k ≤ s.size ∧ i = .int .i64 (k : Int) ∧ Hid ((s.data.toList.take k).any S.badByte = false)) (fun i => s.size - (intOf i).toNat)
      case atStart => exact ⟨0, by omega, rfl, hid rfl⟩
      case round =>
        obtain ⟨k, hk, rfl, hany⟩ := hrel
        by_cases hlt : k < s.size
        · have hta := take_bad s k hlt hany.out
          by_cases hbad : s[k].toNat < 32 ∨ s[k].toNat = 47
          · have E2 : Hid (nameN s = 6) := hid (by
              rw [E1.out]
              simp only [h3, h4, h5, Bool.not_true, Bool.or_self, Bool.false_eq_true, if_false]
              rw [if_pos (S.any_of_take (k + 1) (hta.trans (by simpa using hbad)))])
            clear E1 hta
            by_cases hb1 : s[k].toNat < 32
            · clear hbad
              go_wp2_with fail
              go_ret
              exact ⟨by rw [E2.out]; rfl, rfl⟩
            · have hb2 : (((s[k].toNat : Nat) : Int) == 47) = true := by simp; omega
              clear hbad
              go_wp2_with fail
              go_ret
              exact ⟨by rw [E2.out]; rfl, rfl⟩
          · have hb1 : 32 ≤ s[k].toNat := by omega
            have hb2 : (((s[k].toNat : Nat) : Int) == 47) = false := by simp; omega
            have hbf : (decide (s[k].toNat < 32) || s[k].toNat == 47) = false := by simp; omega
            replace hta := hid (hta.trans hbf)
            clear hbf
            clear hbad
            go_wp2_with fail
            go_round
            case rel => exact ⟨k + 1, by omega, by go_num, hta⟩
            case measure => simp [intOf]; omega
        · obtain rfl : k = s.size := by omega
          have E2 : Hid (nameN s = if 28 < s.size then 3 else 0) := hid (by
            rw [E1.out]
            have h := hany.out
            rw [List.take_of_length_le (by simp)] at h
            simp only [h3, h4, h5, h, Bool.not_true, Bool.or_self, Bool.false_eq_true, if_false])
          clear E1
          by_cases h28 : 28 < s.size
          · go_wp2_with fail
            go_ret
            exact ⟨by rw [E2.out, if_pos h28]; rfl, rfl⟩
          · go_wp2_with fail
            go_ret
            exact ⟨by rw [E2.out, if_neg h28]; rfl, rfl⟩
end
end Go.Proofs.YtpmlhmficmillaaGreat

namespace Go.Proofs.YtpmlhmficmillaaGreat
section
open Go.RowKit
set_option maxRecDepth 100000

def strL (l : List UInt8) : ByteArray := ⟨l.toArray⟩
theorem conv_string (w : World) (v : Value) (l : List UInt8) (h : BytesAt w v l) : (convert 46 9 v).run Tryz.prog w = .ok (.string (strL l)) w := by
  obtain ⟨hl, a, c, rfl, h1, h2, h3, h5, h4⟩ := h
  cases a with
  | none =>
    have hc := h3 rfl
    obtain rfl : l = [] := List.eq_nil_of_length_eq_zero (by omega)
    exact run_convert_bytes_nil w _ _ Tryz.underlying46 Tryz.underlying5 _ _ _ Tryz.underlying9
  | some ad =>
    obtain ⟨b, o, sp⟩ := ad
    have := (h5 _ rfl).1
    subst this
    rw [run_convert_bytes_arg w _ _ Tryz.underlying46 Tryz.underlying5 b o l.length c (l.map fun x => (x.toNat : Int)) (by simp) (fun i hi => ?_) _ Tryz.underlying9]
    · congr 1
      have : ∀ l : List UInt8, List.map ((fun n : Int => UInt8.ofNat n.toNat) ∘ fun x : UInt8 => (x.toNat : Int)) l = l := by
        intro l
        induction l with
        | nil => rfl
        | cons c l ih => simp only [List.map_cons, ih]; simp
      simp [strOfNums, strL, this]
    · obtain ⟨b', o', he, hc⟩ := h4 i (byteV l[i]) (by simp [hi])
      cases he
      rw [hc]
      simp [byteV, List.getD, hi]

theorem OutIs.below {w w' : World} {b : Nat} {xs : List UInt8} (h : OutIs w b xs) (hb : Below w.heap.size w w') : OutIs w' b xs := by
  obtain ⟨v, ot, h1, h2⟩ := h
  refine ⟨v, ot, (hb.block b (lt_of_block h1)).trans h1, h2.1, ?_⟩
  rcases h2.2 with h3 | ⟨g, cap, cur, hv, hg, hh, r⟩
  · exact .inl h3
  · exact .inr ⟨g, cap, cur, hv, hg, (hb.block g (lt_of_block hh)).trans hh, r⟩
theorem OutIs.lt {w : World} {b : Nat} {xs : List UInt8} (h : OutIs w b xs) : b < w.heap.size := by
  obtain ⟨v, ot, h1, _⟩ := h
  exact lt_of_block h1

theorem bytesWorld_bytes (w : World) (s : ByteArray) (hs : s.size ≤ 1000000000) : BytesAt (Lib.bytesWorld w 5 s) (.slice (some ⟨w.heap.size, 0, none⟩) s.size (grownCap w s.size 0 5)) s.data.toList := by
  refine ⟨by simp, some ⟨w.heap.size, 0, none⟩, _, by simp; rfl, by simpa using grownCap_ge w s.size 0 _, grownCap_le_maxLen w s.size 0 _ (by unfold maxLen; omega), fun h => (by cases h), fun ad ha => (by cases ha; exact ⟨rfl, by rw [Lib.bytesWorld_size]; exact Nat.lt_succ_self _⟩), fun i u hu => ⟨w.heap.size, 0, rfl, ?_⟩⟩
  have hi : i < s.size := by have := (List.getElem?_eq_some_iff.1 hu).1; simpa using this
  rw [Nat.zero_add, bytesWorld_cell' w _ s i hi, ← hu]
  simp [byteV, hi]
  rfl

theorem below_bytesWorld (w : World) (e : TypeId) (s : ByteArray) : Below w.heap.size w (Lib.bytesWorld w e s) := ⟨rfl, rfl, rfl, by rw [Lib.bytesWorld_size]; omega, fun k hk => Lib.bytesWorld_at_old w e s k hk⟩

theorem sn {W a b : World} (h : Below W.heap.size W a) (k : Below a.heap.size a b) : Below W.heap.size W b := h.trans (k.mono h.size)

end
end Go.Proofs.YtpmlhmficmillaaGreat
