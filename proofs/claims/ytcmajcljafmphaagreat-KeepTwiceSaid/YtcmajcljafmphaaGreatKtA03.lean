/- What Valid, may and Name return, in the program and in the reference, for every text of at most maxLen bytes. No further condition. And the texts behind it. -/
import Derived.Test.YtcmajcljafmphaaGreatKtA02
import Derived.Test.YtcmajcljafmphaaGreatShelf
import Derived.Lib.ConvBytes
import Derived.Lib.AppendStr
import Derived.Test.YtcmajcljafmphaaGreatProg
import Derived.ProofKit
namespace Go.Proofs.YtcmajcljafmphaaGreat
section
open Go.RowKit
set_option maxRecDepth 100000

theorem indexByte_mem (c : UInt8) : ∀ l : List UInt8, decide (0 ≤ Lib.indexByte l c) = l.contains c
  | [] => rfl
  | b :: l => by
    have ih := indexByte_mem c l
    have hlb : ∀ l : List UInt8, -1 ≤ Lib.indexByte l c := by
      intro l
      induction l with
      | nil => simp [Lib.indexByte]
      | cons b l ih => simp only [Lib.indexByte]; split <;> (try split) <;> omega
    have h1 := hlb l
    simp only [Lib.indexByte, List.contains_cons]
    by_cases hbc : b = c
    · subst hbc; simp
    · have e1 : (b == c) = false := by simpa using hbc
      have e2 : (c == b) = false := by simp; exact fun h => hbc h.symm
      rw [e2, ← ih, Bool.false_or]
      refine decide_eq_decide.2 ?_
      rw [e1]
      simp only [Bool.false_eq_true, if_false]
      by_cases h2 : Lib.indexByte l c = -1
      · simp [h2]
      · have e3 : (Lib.indexByte l c == -1) = false := by simpa using h2
        rw [e3]; simp; omega

def validB (s : ByteArray) : Bool := S.valid s.data.toList
def nameN (s : ByteArray) : Nat := S.name s.data.toList
theorem validB_eq (s : ByteArray) : validB s = (runesOk s && decide (s.size ≤ 64) && !decide (0 ≤ Lib.indexByte s.data.toList 0)) := by
  rw [indexByte_mem]; rfl

set_option maxHeartbeats 400000 in
theorem valid_any (s : ByteArray) (w : World) (hs : s.size ≤ maxLen) :
    Calls Tryz.prog 96 #[.string s] w fun e w' => e = .returned (.bool (validB s)) ∧ Below w.heap.size w w' := by
  have E := validB_eq s
  unfold maxLen at hs
  cases h1 : runesOk s with
  | false =>
    rw [h1] at E
    replace E := hid E
    replace h1 := hid h1
    go_enter Tryz.func96, Tryz.ntmps96
    go_wp2_with (go_at_call 109; refine (runes_any s _ (by unfold maxLen; omega)).mono ?_; rw [h1.out]; rintro e w' ⟨rfl, hb⟩)
    go_ret
    exact ⟨by rw [E.out]; rfl, hb⟩
  | true =>
    rw [h1] at E
    replace h1 := hid h1
    by_cases h2 : s.size ≤ 64
    · rw [decide_eq_true h2] at E
      replace E := hid E
      go_enter Tryz.func96, Tryz.ntmps96
      go_wp2_with (first | (go_at_call 109; refine (runes_any s _ (by unfold maxLen; omega)).mono ?_; rw [h1.out]; rintro e w' ⟨rfl, hb⟩) | (go_at_call 110; refine (Tryz.strings_Contains_one s 0 _).mono ?_; rintro e w' ⟨rfl, rfl⟩))
      go_ret
      exact ⟨by rw [E.out]; rfl, hb⟩
    · rw [decide_eq_false h2] at E
      replace E := hid E
      go_enter Tryz.func96, Tryz.ntmps96
      go_wp2_with (first | (go_at_call 109; refine (runes_any s _ (by unfold maxLen; omega)).mono ?_; rw [h1.out]; rintro e w' ⟨rfl, hb⟩))
      go_ret
      exact ⟨by rw [E.out]; rfl, hb⟩

theorem bytesWorld_cell' (w : World) (e : TypeId) (s : ByteArray) (j : Nat) (hj : j < s.size) : (Lib.bytesWorld w e s).cell? ⟨w.heap.size, j, none⟩ = some (.int .u8 (s[j].toNat : Int)) := by
  rw [Lib.bytesWorld_cell w e s j hj]
  have : s.data.toList.getD j 0 = s[j] := by
    simp only [List.getD_eq_getElem?_getD]
    rw [List.getElem?_eq_getElem (by simpa using hj)]; rfl
  rw [this]

theorem bad_any (c : Nat) (w : World) (hc : c < 256) :
    Calls Tryz.prog 108 #[.int .u8 (c : Int)] w fun e w' => e = .returned (.bool (decide (c < 32) || c == 47)) ∧ w = w' := by
  by_cases h1 : c < 32
  · go_enter Tryz.func108, Tryz.ntmps108
    go_wp2
    go_ret
    exact ⟨ret_bool (by simp), rfl⟩
  · go_enter Tryz.func108, Tryz.ntmps108
    go_wp2
    go_ret
    exact ⟨ret_bool (by rw [show decide (c < 32) = false from decide_eq_false h1, show decide ((c : Int) < 32) = false from decide_eq_false (by omega)]; exact Bool.eq_iff_iff.2 (by simp; omega)), rfl⟩

theorem name_eq (s : ByteArray) : nameN s = if !validB s || s.toList.isEmpty || s.toList == [46] || s.toList == [46, 46] then 6 else if s.data.toList.any S.badByte then 6 else if 28 < s.size then 3 else 0 := by
  rw [ByteArray.toList_eq]; rfl

set_option maxHeartbeats 800000 in
theorem name_any (s : ByteArray) (w : World) (hs : s.size ≤ maxLen) :
    Calls Tryz.prog 95 #[.string s] w fun e w' => e = .returned (.int .i64 (nameN s : Int)) ∧ Below w.heap.size w w' := by
  unfold maxLen at hs
  have E := name_eq s
  cases h1 : validB s with
  | false =>
    rw [h1] at E
    have E1 : Hid (nameN s = 6) := hid (by rw [E]; rfl)
    clear E
    replace h1 := hid h1
    go_enter Tryz.func95, Tryz.ntmps95
    go_wp2_with (go_at_call 96; refine (valid_any s _ (by unfold maxLen; omega)).mono ?_; rw [h1.out]; rintro e w' ⟨rfl, hb⟩)
    go_ret
    exact ⟨by rw [E1.out]; rfl, hb⟩
  | true =>
    rw [h1] at E
    replace h1 := hid h1
    by_cases h2 : (s.toList.isEmpty || s.toList == [46] || s.toList == [46, 46]) = true
    · have E1 : Hid (nameN s = 6) := hid (by rw [E]; simp only [Bool.not_true, Bool.false_or]; rw [if_pos h2])
      clear E
      go_enter Tryz.func95, Tryz.ntmps95
      go_wp2_with (go_at_call 96; refine (valid_any s _ (by unfold maxLen; omega)).mono ?_; rw [h1.out]; rintro e w' ⟨rfl, hb⟩)
      all_goals (go_ret; exact ⟨by rw [E1.out]; rfl, hb⟩)
    · have E1 := hid E
      have h3 : s.toList.isEmpty = false ∧ (s.toList == [46]) = false ∧ (s.toList == [46, 46]) = false := by simpa [and_assoc] using h2
      obtain ⟨h3, h4, h5⟩ := h3
      clear E h2
      have hcv := fun W => Lib.run_convert_string_bytes (P := Tryz.prog) W 9 53 5 s Tryz.underlying9 Tryz.underlying53 Tryz.underlying5
      go_enter Tryz.func95, Tryz.ntmps95
      go_wp2_with (go_at_call 96; refine (valid_any s _ (by unfold maxLen; omega)).mono ?_; rw [h1.out]; rintro e w' ⟨rfl, hb⟩)
      have hbd : Below w.heap.size w (Lib.bytesWorld w' 5 s) := hb.trans ⟨rfl, rfl, rfl, by rw [Lib.bytesWorld_size]; omega, fun k hk => Lib.bytesWorld_at_old w' _ s k (by have := hb.size; omega)⟩
      go_loop [23] (fun i => ∃ k : Nat, k ≤ s.size ∧ i = .int .i64 (k : Int) ∧ Hid ((s.data.toList.take k).any S.badByte = false)) (fun i => s.size - (intOf i).toNat)
      case atStart => exact ⟨0, by omega, rfl, hid rfl⟩
      case round =>
        obtain ⟨k, hk, rfl, hany⟩ := hrel
        by_cases hlt : k < s.size
        · have hcl := bytesWorld_cell' w' 5 s k hlt
          have hta := S.take_any s S.badByte k hlt
          rw [hany.out, Bool.false_or] at hta
          cases hbad : S.badByte s[k] with
          | true =>
            have hb2 : Hid ((decide (s[k].toNat < 32) || s[k].toNat == 47) = true) := hid hbad
            have E2 : Hid (nameN s = 6) := hid (by
              rw [E1.out]; rw [hbad] at hta
              simp only [h3, h4, h5, Bool.not_true, Bool.or_self, Bool.false_eq_true, if_false]
              rw [if_pos (S.any_of_take (k + 1) hta)])
            clear E1 hta hbad
            go_wp2_with (go_at_call 108; refine (bad_any _ _ s[k].toNat_lt).mono ?_; rw [hb2.out]; rintro e w' ⟨rfl, rfl⟩)
            go_ret
            exact ⟨by rw [E2.out]; rfl, hbd⟩
          | false =>
            have hb2 : Hid ((decide (s[k].toNat < 32) || s[k].toNat == 47) = false) := hid hbad
            replace hta := hid (hta.trans hbad)
            clear hbad
            go_wp2_with (go_at_call 108; refine (bad_any _ _ s[k].toNat_lt).mono ?_; rw [hb2.out]; rintro e w' ⟨rfl, rfl⟩)
            go_round
            case rel => exact ⟨k + 1, by omega, by go_num, hta⟩
            case measure => simp [intOf]; omega
        · obtain rfl : k = s.size := by omega
          have E2 : Hid (nameN s = if 28 < s.size then 3 else 0) := hid (by
            rw [E1.out]
            have h := hany.out
            rw [List.take_of_length_le (by simp)] at h
            simp only [h3, h4, h5, h, Bool.not_true, Bool.or_self, Bool.false_eq_true, if_false])
          clear E1
          by_cases h28 : 28 < s.size
          · go_wp2_with fail
            go_ret
            exact ⟨by rw [E2.out, if_pos h28]; rfl, hbd⟩
          · go_wp2_with fail
            go_ret
            exact ⟨by rw [E2.out, if_neg h28]; rfl, hbd⟩

set_option maxHeartbeats 800000 in
theorem ref_valid_any (s : ByteArray) (w : World) (hs : s.size ≤ maxLen) :
    Calls Tryz.prog 78 #[.string s] w fun e w' => e = .returned (.bool (validB s)) ∧ w = w' := by
  unfold maxLen at hs
  have E : validB s = (runesOk s && decide (s.size ≤ 64) && !(s.data.toList.any (· == 0))) := by
    unfold validB S.valid
    have h : ∀ l : List UInt8, l.contains 0 = l.any (· == 0) := by
      intro l
      induction l with
      | nil => rfl
      | cons b l ih => rw [List.contains_cons, List.any_cons, ih, Bool.beq_comm]
    rw [h]; rfl
  go_enter Tryz.func78, Tryz.ntmps78
  replace E := hid E
  go_wp2_with fail
  go_loop [3] (fun i => ∃ k : Nat, k ≤ s.size ∧ i = .int .i64 (k : Int) ∧ Hid ((s.data.toList.take k).any (· == 0) = false)) (fun i => s.size - (intOf i).toNat)
  case atStart => exact ⟨0, by omega, rfl, hid rfl⟩
  case round =>
    obtain ⟨k, hk, rfl, hany⟩ := hrel
    by_cases hlt : k < s.size
    · have hta := S.take_any s (· == 0) k hlt
      rw [hany.out, Bool.false_or] at hta
      by_cases h0 : s[k].toNat = 0
      · have hk0 : (((s[k].toNat : Nat) : Int) == 0) = true := by simp [h0]
        have h00 : (s[k] == 0) = true := by simpa [← UInt8.toNat_inj] using h0
        have E1 : Hid (validB s = false) := hid (by rw [E.out, S.any_of_take (k + 1) (hta.trans h00)]; simp)
        clear h0 h00 hta E
        go_wp2_with fail
        go_ret
        exact ⟨by rw [E1.out]; rfl, rfl⟩
      · have hk0 : (((s[k].toNat : Nat) : Int) == 0) = false := by simp [h0]
        have h00 : (s[k] == 0) = false := by simpa [← UInt8.toNat_inj] using h0
        replace hta := hid (hta.trans h00)
        clear h0 h00
        go_wp2_with fail
        go_round
        case rel => exact ⟨k + 1, by omega, by go_num, hta⟩
        case measure => simp [intOf]; omega
    · obtain rfl : k = s.size := by omega
      have E1 : validB s = (runesOk s && decide (s.size ≤ 64)) := by
        have h := hany.out
        rw [List.take_of_length_le (by simp)] at h
        rw [E.out, h]; simp
      clear E
      cases h1 : runesOk s
      · rw [h1] at E1
        replace E1 := hid E1
        replace h1 := hid h1
        go_wp2_with (go_at_call 102; refine (ref_runes_any s _ (by unfold maxLen; omega)).mono ?_; rw [h1.out]; rintro e w' ⟨rfl, rfl⟩)
        go_ret
        exact ⟨by rw [E1.out]; rfl, rfl⟩
      · rw [h1] at E1
        replace h1 := hid h1
        by_cases h2 : s.size ≤ 64
        · rw [decide_eq_true h2] at E1
          replace E1 := hid E1
          go_wp2_with (go_at_call 102; refine (ref_runes_any s _ (by unfold maxLen; omega)).mono ?_; rw [h1.out]; rintro e w' ⟨rfl, rfl⟩)
          go_ret
          exact ⟨by rw [E1.out]; exact ret_bool (by simp; omega), rfl⟩
        · rw [decide_eq_false h2] at E1
          replace E1 := hid E1
          go_wp2_with (go_at_call 102; refine (ref_runes_any s _ (by unfold maxLen; omega)).mono ?_; rw [h1.out]; rintro e w' ⟨rfl, rfl⟩)
          go_ret
          exact ⟨by rw [E1.out]; exact ret_bool (by simp; omega), rfl⟩
theorem take_bad (s : ByteArray) (k : Nat) (h : k < s.size) (hany : (s.data.toList.take k).any S.badByte = false) : (s.data.toList.take (k + 1)).any S.badByte = (decide (s[k].toNat < 32) || s[k].toNat == 47) := by
  rw [S.take_any s S.badByte k h, hany, Bool.false_or]; rfl

set_option maxHeartbeats 800000 in
theorem ref_name_any (s : ByteArray) (w : World) (hs : s.size ≤ maxLen) :
    Calls Tryz.prog 77 #[.string s] w fun e w' => e = .returned (.int .i64 (nameN s : Int)) ∧ w = w' := by
  unfold maxLen at hs
  have E := name_eq s
  cases h1 : validB s with
  | false =>
    rw [h1] at E
    have E1 : Hid (nameN s = 6) := hid (by rw [E]; rfl)
    clear E
    replace h1 := hid h1
    go_enter Tryz.func77, Tryz.ntmps77
    go_wp2_with (go_at_call 78; refine (ref_valid_any s _ (by unfold maxLen; omega)).mono ?_; rw [h1.out]; rintro e w' ⟨rfl, rfl⟩)
    go_ret
    exact ⟨by rw [E1.out]; rfl, rfl⟩
  | true =>
    rw [h1] at E
    replace h1 := hid h1
    by_cases h2 : (s.toList.isEmpty || s.toList == [46] || s.toList == [46, 46]) = true
    · have E1 : Hid (nameN s = 6) := hid (by rw [E]; simp only [Bool.not_true, Bool.false_or]; rw [if_pos h2])
      clear E
      go_enter Tryz.func77, Tryz.ntmps77
      go_wp2_with (go_at_call 78; refine (ref_valid_any s _ (by unfold maxLen; omega)).mono ?_; rw [h1.out]; rintro e w' ⟨rfl, rfl⟩)
      all_goals (go_ret; exact ⟨by rw [E1.out]; rfl, rfl⟩)
    · have E1 := hid E
      have h3 : s.toList.isEmpty = false ∧ (s.toList == [46]) = false ∧ (s.toList == [46, 46]) = false := by simpa [and_assoc] using h2
      obtain ⟨h3, h4, h5⟩ := h3
      clear E h2
      go_enter Tryz.func77, Tryz.ntmps77
      go_wp2_with (go_at_call 78; refine (ref_valid_any s _ (by unfold maxLen; omega)).mono ?_; rw [h1.out]; rintro e w' ⟨rfl, rfl⟩)
      go_loop [3] (fun i => ∃ k : Nat, k ≤ s.size ∧ i = .int .i64 (k : Int) ∧ Hid ((s.data.toList.take k).any S.badByte = false)) (fun i => s.size - (intOf i).toNat)
      case atStart => exact ⟨0, by omega, rfl, hid rfl⟩
      case round =>
        obtain ⟨k, hk, rfl, hany⟩ := hrel
        by_cases hlt : k < s.size
        · have hta := take_bad s k hlt hany.out
          by_cases hbad : s[k].toNat < 32 ∨ s[k].toNat = 47
          · have E2 : Hid (nameN s = 6) := hid (by
              rw [E1.out]
              simp only [h3, h4, h5, Bool.not_true, Bool.or_self, Bool.false_eq_true, if_false]
              rw [if_pos (S.any_of_take (k + 1) (hta.trans (by simpa using hbad)))])
            clear E1 hta
            by_cases hb1 : s[k].toNat < 32
            · clear hbad
              go_wp2_with fail
              go_ret
              exact ⟨by rw [E2.out]; rfl, rfl⟩
            · have hb2 : (((s[k].toNat : Nat) : Int) == 47) = true := by simp; omega
              clear hbad
              go_wp2_with fail
              go_ret
              exact ⟨by rw [E2.out]; rfl, rfl⟩
          · have hb1 : 32 ≤ s[k].toNat := by omega
            have hb2 : (((s[k].toNat : Nat) : Int) == 47) = false := by simp; omega
            have hbf : (decide (s[k].toNat < 32) || s[k].toNat == 47) = false := by simp; omega
            replace hta := hid (hta.trans hbf)
            clear hbf
            clear hbad
            go_wp2_with fail
            go_round
            case rel => exact ⟨k + 1, by omega, by go_num, hta⟩
            case measure => simp [intOf]; omega
        · obtain rfl : k = s.size := by omega
          have E2 : Hid (nameN s = if 28 < s.size then 3 else 0) := hid (by
            rw [E1.out]
            have h := hany.out
            rw [List.take_of_length_le (by simp)] at h
            simp only [h3, h4, h5, h, Bool.not_true, Bool.or_self, Bool.false_eq_true, if_false])
          clear E1
          by_cases h28 : 28 < s.size
          · go_wp2_with fail
            go_ret
            exact ⟨by rw [E2.out, if_pos h28]; rfl, rfl⟩
          · go_wp2_with fail
            go_ret
            exact ⟨by rw [E2.out, if_neg h28]; rfl, rfl⟩
end
end Go.Proofs.YtcmajcljafmphaaGreat

namespace Go.Proofs.YtcmajcljafmphaaGreat
section
open Go.RowKit
set_option maxRecDepth 100000

def strL (l : List UInt8) : ByteArray := ⟨l.toArray⟩
theorem conv_string (w : World) (v : Value) (l : List UInt8) (h : BytesAt w v l) : (convert 53 9 v).run Tryz.prog w = .ok (.string (strL l)) w := by
  obtain ⟨hl, a, c, rfl, h1, h2, h3, h5, h4⟩ := h
  cases a with
  | none =>
    have hc := h3 rfl
    obtain rfl : l = [] := List.eq_nil_of_length_eq_zero (by omega)
    exact run_convert_bytes_nil w _ _ Tryz.underlying53 Tryz.underlying5 _ _ _ Tryz.underlying9
  | some ad =>
    obtain ⟨b, o, sp⟩ := ad
    have := (h5 _ rfl).1
    subst this
    rw [run_convert_bytes_arg w _ _ Tryz.underlying53 Tryz.underlying5 b o l.length c (l.map fun x => (x.toNat : Int)) (by simp) (fun i hi => ?_) _ Tryz.underlying9]
    · congr 1
      have : ∀ l : List UInt8, List.map ((fun n : Int => UInt8.ofNat n.toNat) ∘ fun x : UInt8 => (x.toNat : Int)) l = l := by
        intro l
        induction l with
        | nil => rfl
        | cons c l ih => simp only [List.map_cons, ih]; simp
      simp [strOfNums, strL, this]
    · obtain ⟨b', o', he, hc⟩ := h4 i (byteV l[i]) (by simp [hi])
      cases he
      rw [hc]
      simp [byteV, List.getD, hi]

theorem OutIs.below {w w' : World} {b : Nat} {xs : List UInt8} (h : OutIs w b xs) (hb : Below w.heap.size w w') : OutIs w' b xs := by
  obtain ⟨v, ot, h1, h2⟩ := h
  refine ⟨v, ot, (hb.block b (lt_of_block h1)).trans h1, h2.1, ?_⟩
  rcases h2.2 with h3 | ⟨g, cap, cur, hv, hg, hh, r⟩
  · exact .inl h3
  · exact .inr ⟨g, cap, cur, hv, hg, (hb.block g (lt_of_block hh)).trans hh, r⟩
theorem OutIs.lt {w : World} {b : Nat} {xs : List UInt8} (h : OutIs w b xs) : b < w.heap.size := by
  obtain ⟨v, ot, h1, _⟩ := h
  exact lt_of_block h1

theorem bytesWorld_bytes (w : World) (s : ByteArray) (hs : s.size ≤ 1000000000) : BytesAt (Lib.bytesWorld w 5 s) (.slice (some ⟨w.heap.size, 0, none⟩) s.size (grownCap w s.size 0 5)) s.data.toList := by
  refine ⟨by simp, some ⟨w.heap.size, 0, none⟩, _, by simp; rfl, by simpa using grownCap_ge w s.size 0 _, grownCap_le_maxLen w s.size 0 _ (by unfold maxLen; omega), fun h => (by cases h), fun ad ha => (by cases ha; exact ⟨rfl, by rw [Lib.bytesWorld_size]; exact Nat.lt_succ_self _⟩), fun i u hu => ⟨w.heap.size, 0, rfl, ?_⟩⟩
  have hi : i < s.size := by have := (List.getElem?_eq_some_iff.1 hu).1; simpa using this
  rw [Nat.zero_add, bytesWorld_cell' w _ s i hi, ← hu]
  simp [byteV, hi]
  rfl

theorem below_bytesWorld (w : World) (e : TypeId) (s : ByteArray) : Below w.heap.size w (Lib.bytesWorld w e s) := ⟨rfl, rfl, rfl, by rw [Lib.bytesWorld_size]; omega, fun k hk => Lib.bytesWorld_at_old w e s k hk⟩

theorem sn {W a b : World} (h : Below W.heap.size W a) (k : Below a.heap.size a b) : Below W.heap.size W b := h.trans (k.mono h.size)

end
end Go.Proofs.YtcmajcljafmphaaGreat

namespace Go.Proofs.YtcmajcljafmphaaGreat
section
open Go.RowKit
set_option maxRecDepth 100000
set_option linter.unusedVariables false

theorem own_keep {w w' : World} {base e k n : Nat} {v : Value} {xs : List Value} (h2 : w.ownsRow base e k v n xs) (hb : ∀ j, v.ownBlock = some j → w'.heap[j]? = w.heap[j]?) : w'.ownsRow base e k v n xs := by
  refine ⟨h2.1, ?_⟩
  rcases h2.2 with h3 | ⟨g, cap, cur, hv, hg, hh, r⟩
  · exact .inl h3
  · exact .inr ⟨g, cap, cur, hv, hg, (hb g (by rw [hv]; rfl)).trans hh, r⟩
def put (w : World) (q : Nat) : Nat → List Value → World
  | _, [] => w
  | i, u :: us => put (w.setCell ⟨q, i, none⟩ u) q (i + 1) us

theorem heap2 (w : World) (o1 o2 : Obj) : ((w.alloc o1).alloc o2).heap[w.heap.size + 1]? = some o2 := by
  have h := heap_alloc_new (w.alloc o1) o2
  have e : (w.alloc o1).heap.size = w.heap.size + 1 := by simp
  rw [e] at h; exact h
end
end Go.Proofs.YtcmajcljafmphaaGreat

namespace Go.Proofs.YtcmajcljafmphaaGreat
section
open Go.RowKit
set_option maxRecDepth 100000
set_option linter.unusedVariables false

def allOps' : Code → List (Array Oper)
  | .seq c d => allOps' c ++ allOps' d
  | .region _ o _ => [o]
  | .block _ c => allOps' c
  | .scope c => allOps' c
  | .loop c => allOps' c
  | .cond _ c d => allOps' c ++ allOps' d
  | _ => []
def ptr (k i : Nat) : Value := .pointer (some ⟨k, i, none⟩)

theorem rput_tmps (a : Act) (d : Nat) (v : Value) : (a.put (some d) v).tmps = a.tmps.setIfInBounds d v := rfl
theorem rput_df (a : Act) (d : Option Nat) (v : Value) : (a.put d v).defers = a.defers := by cases d <;> rfl
theorem rput_at {a : Act} {d k : Nat} {v u : Value} (h : a.tmps[k]? = some u) (hd : d ≠ k) : (a.put (some d) v).tmps[k]? = some u := by
  rw [rput_tmps, Array.getElem?_setIfInBounds_ne hd]; exact h
theorem rput_same {a : Act} {d : Nat} {v : Value} (h : d < a.tmps.size) : (a.put (some d) v).tmps[d]? = some v := by
  rw [rput_tmps, Array.getElem?_setIfInBounds_self_of_lt h]
theorem rput_size (a : Act) (d : Nat) (v : Value) : (a.put (some d) v).tmps.size = a.tmps.size := by rw [rput_tmps]; simp
theorem reval_tmp {a : Act} {k : Nat} {v : Value} (h : a.tmps[k]? = some v) : a.eval (.tmp k) = v := by
  show a.tmps.getD k undef = v
  rw [Array.getD_eq_getD_getElem?, h]; rfl

structure FrL (N : Nat) (fx : List (Nat × Value)) (a : Act) : Prop where
  size : a.tmps.size = N
  df : a.defers = []
  get : ∀ k v, fx.lookup k = some v → a.tmps[k]? = some v
theorem FrL.ev {N : Nat} {fx : List (Nat × Value)} {a : Act} (h : FrL N fx a) (k : Nat) (v : Value) (hk : fx.lookup k = some v) : a.eval (.tmp k) = v := reval_tmp (h.get k v hk)
theorem FrL.put {N : Nat} {fx : List (Nat × Value)} {a : Act} (h : FrL N fx a) (d : Nat) (v : Value) (hd : d < N) : FrL N ((d, v) :: fx) (a.put (some d) v) := by
  refine ⟨by rw [rput_size]; exact h.size, by rw [rput_df]; exact h.df, fun k u hk => ?_⟩
  rw [List.lookup_cons] at hk
  by_cases e : k = d
  · subst e
    simp only [beq_self_eq_true, Option.some.injEq] at hk
    subst hk
    exact rput_same (by rw [h.size]; exact hd)
  · have e' : (k == d) = false := by simpa using e
    rw [e'] at hk
    exact rput_at (h.get k u hk) (fun h => e h.symm)
def HasL (fx : List (Nat × Value)) : List (Nat × Value) → Prop
  | [] => True
  | p :: t => fx.lookup p.1 = some p.2 ∧ HasL fx t
theorem HasL.at {fx : List (Nat × Value)} {k : Nat} {v : Value} : ∀ {fy : List (Nat × Value)}, HasL fx fy → fy.lookup k = some v → fx.lookup k = some v
  | [], _, h => by cases h
  | p :: t, h, hk => by
    rw [List.lookup_cons] at hk
    by_cases e : k = p.1
    · have e' : (k == p.1) = true := by simpa using e
      rw [e'] at hk
      simp only [Option.some.injEq] at hk
      rw [← hk, e]; exact h.1
    · have e' : (k == p.1) = false := by simpa using e
      rw [e'] at hk
      exact HasL.at h.2 hk
theorem FrL.sub {N : Nat} {fx : List (Nat × Value)} {a : Act} (h : FrL N fx a) (fy : List (Nat × Value)) (hs : HasL fx fy) : FrL N fy a := ⟨h.size, h.df, fun k v hk => h.get k v (hs.at hk)⟩
def AtAll (a : Act) : List (Nat × Value) → Prop
  | [] => True
  | p :: t => a.tmps[p.1]? = some p.2 ∧ AtAll a t
theorem AtAll.at {a : Act} {k : Nat} {v : Value} : ∀ {fx : List (Nat × Value)}, AtAll a fx → fx.lookup k = some v → a.tmps[k]? = some v
  | [], _, h => by cases h
  | p :: t, h, hk => by
    rw [List.lookup_cons] at hk
    by_cases e : k = p.1
    · have e' : (k == p.1) = true := by simpa using e
      rw [e'] at hk
      simp only [Option.some.injEq] at hk
      rw [← hk, e]; exact h.1
    · have e' : (k == p.1) = false := by simpa using e
      rw [e'] at hk
      exact AtAll.at h.2 hk
theorem FrL.of_all {N : Nat} {fx : List (Nat × Value)} {a : Act} (hs : a.tmps.size = N) (hd : a.defers = []) (h : AtAll a fx) : FrL N fx a := ⟨hs, hd, fun k v hk => h.at hk⟩
def AllAt (a : Act) : Nat → List Value → Prop
  | _, [] => True
  | k, v :: t => a.tmps[k]? = some v ∧ AllAt a (k + 1) t
theorem AllAt.at {a : Act} : ∀ {l : List Value} {k i : Nat} {v : Value}, AllAt a k l → l[i]? = some v → a.tmps[k + i]? = some v
  | [], _, _, _, _, h => by simp at h
  | u :: t, k, 0, v, h, hv => by simp at hv; subst hv; exact h.1
  | u :: t, k, i + 1, v, h, hv => by
    have := AllAt.at (i := i) h.2 (by simpa using hv)
    rw [show k + (i + 1) = k + 1 + i by omega]; exact this
theorem frame_eq {N : Nat} {fx : List (Nat × Value)} {a : Act} (h : FrL N fx a) (l : List Value) (hl : l.length = N) (hat : AllAt a 0 l) : a = ⟨l.toArray, []⟩ := by
  obtain ⟨t, d⟩ := a
  have hd : d = [] := h.df
  subst hd
  congr 1
  refine Array.ext (by have e : t.size = N := h.size; simp [hl, e]) (fun i h1 h2 => ?_)
  have := AllAt.at (i := i) hat (List.getElem?_eq_getElem (by simpa using h2))
  rw [Nat.zero_add] at this
  have h3 := Array.getElem?_eq_getElem (xs := t) h1
  rw [h3] at this
  simpa using this
theorem FrL.any {N : Nat} {fx : List (Nat × Value)} {a : Act} (h : FrL N fx a) (k : Nat) (hk : k < N) : a.tmps[k]? = some (a.tmps.getD k undef) := by
  have h1 : k < a.tmps.size := by rw [h.size]; exact hk
  rw [Array.getD_eq_getD_getElem?, Array.getElem?_eq_getElem h1]; rfl

section
variable {P : Program} {ops : Array Oper} {Q : Exit → Act → World → Prop} {o : Oper} {rest : List Oper} {a : Act} {w : World} {N : Nat} {fx : List (Nat × Value)}
theorem want_b {gi g : Nat} {c p : Bool} (hF : FrL N fx a) (hg : o.guard = some (gi, p)) (hgd : (ops[gi]?).bind (·.dst) = some g) (hl : fx.lookup g = some (.bool c)) : Region.wanted o (yielded ops a.tmps) = (c == p) := by
  have h3 := hF.get g _ hl
  unfold Region.wanted yielded
  rw [hg]
  simp only [hgd, Option.bind_some, h3]
  cases c <;> cases p <;> rfl
theorem want_c {gi g : Nat} {c b p : Bool} (hF : FrL N fx a) (hg : o.guard = some (gi, p)) (hgd : (ops[gi]?).bind (·.dst) = some g) (hl : fx.lookup g = some (cond c (.bool b) undef)) : Region.wanted o (yielded ops a.tmps) = (c && (b == p)) := by
  have h3 := hF.get g _ hl
  unfold Region.wanted yielded
  rw [hg]
  simp only [hgd, Option.bind_some, h3]
  cases c <;> cases b <;> cases p <;> rfl
theorem want_n (hg : o.guard = none) : Region.wanted o (yielded ops a.tmps) = true := by
  unfold Region.wanted
  rw [hg]
theorem st (hF : FrL N fx a) (d : Nat) (v : Value) (hd : o.dst = some d) (hN : d < N) (hg : o.guard = none) (hr : (execOp a.eval o).run P w = .ok (.value v) w) (hk : ∀ b, FrL N ((d, v) :: fx) b → wpList P ops Q rest b w) : wpList P ops Q (o :: rest) a w := by
  unfold wpList
  rw [if_pos (want_n hg)]
  refine .inl ?_
  unfold Oper.wp
  rw [hr]
  show wpList P ops Q rest (a.put o.dst v) w
  rw [hd]
  exact hk _ (hF.put d v hN)
theorem st_if (hF : FrL N fx a) (d : Nat) (W : Bool) (v : Value) (hd : o.dst = some d) (hN : d < N) (hw : Region.wanted o (yielded ops a.tmps) = W) (hr : W = true → (execOp a.eval o).run P w = .ok (.value v) w)
    (hk : ∀ b, FrL N ((d, cond W v undef) :: fx) b → wpList P ops Q rest b w) : wpList P ops Q (o :: rest) a w := by
  unfold wpList
  cases W with
  | true =>
    rw [if_pos hw]
    refine .inl ?_
    unfold Oper.wp
    rw [hr rfl]
    show wpList P ops Q rest (a.put o.dst v) w
    rw [hd]
    exact hk _ (hF.put d v hN)
  | false =>
    rw [if_neg (by rw [hw]; simp)]
    rw [hd]
    exact hk _ (hF.put d undef hN)
theorem cond_t {α : Type} {W : Bool} {v u : α} (hW : W = true) : cond W v u = v := by rw [hW]; rfl
end
section
variable {o : Oper} {ev : Operand → Value} {w : World} {x y z : Operand}
theorem rrun_load {ty : TypeId} {k i : Nat} {v : Value} (ho : o.op = .load ty x) (hx : ev x = ptr k i) (hl : (loadVar ty ⟨k, i, none⟩).run Tryz.prog w = .ok v w) : (execOp ev o).run Tryz.prog w = .ok (.value v) w := by
  have hx' : ev x = .pointer (some ⟨k, i, none⟩) := hx
  simp only [execOp, ho, hx', Instr.loadAt, Instr.sureAddr, Sem.run_bind, Sem.run_pure, Result.andThen_ok, hl]
theorem rrun_fld {T k f i j : Nat} (ho : o.op = .fieldAddr T x f) (hx : ev x = ptr k j) (hf : (Instr.fieldAt T (ptr k j) f).run Tryz.prog w = .ok (ptr k i) w) : (execOp ev o).run Tryz.prog w = .ok (.value (ptr k i)) w := by
  simp only [execOp, ho, hx, Sem.run_bind, hf, Result.andThen_ok, Sem.run_pure]
theorem rrun_move {v : Value} (ho : o.op = .move x ∨ o.op = .assign x) (hx : ev x = v) : (execOp ev o).run Tryz.prog w = .ok (.value v) w := by
  rcases ho with ho | ho <;> simp [execOp, ho, hx, go_sem]
theorem rrun_and {c b : Bool} (ho : o.op = .pick x y z) (hx : ev x = .bool c) (hy : ev y = cond (c == true) (.bool b) undef) (hz : ev z = .bool false) : (execOp ev o).run Tryz.prog w = .ok (.value (.bool (c && b))) w := by
  cases c with
  | true => simp [execOp, ho, hx, hy, go_sem]
  | false => simp [execOp, ho, hx, hz, go_sem]
theorem rrun_or {b b' : Bool} (ho : o.op = .pick x y z) (hx : ev x = .bool b) (hy : ev y = .bool true) (hz : ev z = cond (b == false) (.bool b') undef) : (execOp ev o).run Tryz.prog w = .ok (.value (.bool (b || b'))) w := by
  cases b with
  | true => simp [execOp, ho, hx, hy, go_sem]
  | false => simp [execOp, ho, hx, hz, go_sem]
end
theorem rstr_beq (s t : ByteArray) : (s.toList == t.toList) = decide (s = t) := by
  by_cases h : s = t
  · subst h; simp
  · have h2 : s.toList ≠ t.toList := fun e => h (by rw [ByteArray.toList_eq s, ByteArray.toList_eq t] at e; obtain ⟨⟨s⟩⟩ := s; obtain ⟨⟨t⟩⟩ := t; simpa using e)
    simp [h, h2]
theorem rbeq_str (s t : ByteArray) (W : World) : (binOp .eql 9 (.string s) (.string t)).run Tryz.prog W = .ok (.bool (decide (s = t))) W := by
  by_cases h : s = t
  · subst h; simp [go_sem]
  · have hq : (s.toList == t.toList) = false := by rw [rstr_beq]; exact decide_eq_false h
    simp [go_sem, hq, h]
theorem rbeq_u64 (s t : Nat) (W : World) : (binOp .eql 30 (.int .u64 (s : Int)) (.int .u64 (t : Int))).run Tryz.prog W = .ok (.bool (decide (s = t))) W := by
  by_cases h : s = t
  · subst h; simp [go_sem]
  · have h2 : ¬ ((s : Int) = (t : Int)) := by omega
    simp [go_sem, h, h2]
theorem rld_u32 {p : Addr} {v : Value} {w : World} (h : w.cell? p = some v) : (loadVar 35 p).run Tryz.prog w = .ok v w := by simp [go_sem, h]
theorem rld_u64 {p : Addr} {v : Value} {w : World} (h : w.cell? p = some v) : (loadVar 30 p).run Tryz.prog w = .ok v w := by simp [go_sem, h]
theorem rld_str {p : Addr} {v : Value} {w : World} (h : w.cell? p = some v) : (loadVar 9 p).run Tryz.prog w = .ok v w := by simp [go_sem, h]
end
end Go.Proofs.YtcmajcljafmphaaGreat

namespace Go.Proofs.YtcmajcljafmphaaGreat
section
open Go.RowKit
set_option maxRecDepth 100000
set_option linter.unusedVariables false

structure Nod where
  path : Nat
  vers : Nat
  mode : Nat
  atm : Nat
  mtm : Nat
  name : ByteArray
  uid : ByteArray
  gid : ByteArray
  muid : ByteArray
  up : Nat
  gone : Bool
  data : ByteArray
def Nod.cells (n : Nod) : Array Value := #[.int .u64 (n.path : Int), .int .u32 (n.vers : Int), .int .u32 (n.mode : Int), .int .u32 (n.atm : Int), .int .u32 (n.mtm : Int), .string n.name, .string n.uid, .string n.gid, .string n.muid, .int .u64 (n.up : Int), .bool n.gone, .string n.data]
structure NodOk (n : Nod) : Prop where
  path : n.path < 18446744073709551616
  vers : n.vers < 4294967296
  mode : n.mode < 4294967296
  atm : n.atm < 4294967296
  mtm : n.mtm < 4294967296
  name : n.name.size ≤ maxLen
  uid : n.uid.size ≤ maxLen
  gid : n.gid.size ≤ maxLen
  muid : n.muid.size ≤ maxLen
  up : n.up < 18446744073709551616
  data : n.data.size ≤ maxLen
theorem nod_cells (n : Nod) : n.cells = #[.int .u64 (n.path : Int), .int .u32 (n.vers : Int), .int .u32 (n.mode : Int), .int .u32 (n.atm : Int), .int .u32 (n.mtm : Int), .string n.name, .string n.uid, .string n.gid, .string n.muid, .int .u64 (n.up : Int), .bool n.gone, .string n.data] := rfl

theorem nod_one (n : Nod) : n.cells.all (·.oneCell') = true := by simp [nod_cells, Value.oneCell']

end
end Go.Proofs.YtcmajcljafmphaaGreat
