/- The walk of the law TextPairs: it returns true. No further condition. -/
import Derived.Test.YtoblafeiidjaaaaLawText
import Derived.Test.YtoblafeiidjaaaaSpecR
namespace Go.Proofs.Ytoblafeiidjaaaa
open Go.RowKit
set_option maxRecDepth 100000

theorem runes_two (a b : ByteArray) (ha : runesOk a = true) (hb : runesOk b = true) : runesOk (a ++ b) = true ∧ runesN (a ++ b) = runesN a + runesN b := by
  unfold runesOk at *
  unfold runesN
  rw [Option.isSome_iff_exists] at ha hb
  obtain ⟨n, hn⟩ := ha
  obtain ⟨m, hm⟩ := hb
  have : (a ++ b).data.toList = a.data.toList ++ b.data.toList := by simp
  rw [this, S.runes_append _ _ _ n m (Nat.le_refl _) hn hm, hn, hm]
  exact ⟨rfl, rfl⟩

theorem runesN_le (a : ByteArray) : runesN a ≤ a.size := by
  unfold runesN
  cases h : S.runes a.data.toList with
  | none => simp
  | some k => have := S.runes_le _ _ _ (Nat.le_refl _) h; simpa using this

theorem runes_cut2 (s : ByteArray) (c : Nat) (hc : c ≤ s.size) (h : runesOk s = true) : runesOk (s.extract 0 c) = runesOk (s.extract c s.size) := by
  unfold runesOk at *
  have h1 : (s.extract 0 c).data.toList = s.data.toList.take c := by
    rw [ByteArray.data_extract, Array.toList_extract, List.extract_eq_take_drop]; simp
  rw [h1, S.data_extract]
  exact S.runes_cut _ _ c (Nat.le_refl _) (by simpa using hc) h

set_option maxHeartbeats 1600000 in
theorem law_TextPairs (a b : ByteArray) (cut : Int) (w : World) (ha : a.size ≤ maxLen) (hb : b.size ≤ maxLen) (hcut : cut ≤ 9223372036854775807) : Calls Try.prog 8 #[.string a, .string b, .int .i64 cut] w (Holds w) := by
  unfold maxLen at ha hb
  by_cases hq : 100 < a.size ∨ 100 < b.size ∨ cut < 0
  · go_enter Try.func8, Try.ntmps8
    go_wp2_with fail
    refine (known2_any w).mono ?_
    rintro e w1 ⟨rfl, hb1⟩
    by_cases h1 : 100 < a.size
    · clear hq
      go_wp2_with fail
      go_ret
      exact ⟨rfl, hb1⟩
    · by_cases h2 : 100 < b.size
      · clear hq
        go_wp2_with fail
        go_ret
        exact ⟨rfl, hb1⟩
      · have h3 : cut < 0 := by omega
        clear hq
        go_wp2_with fail
        go_ret
        exact ⟨rfl, hb1⟩
  have h1 : a.size ≤ 100 := by omega
  have h2 : b.size ≤ 100 := by omega
  have h3 : 0 ≤ cut := by omega
  clear hq
  have hna := runesN_le a
  have hnb := runesN_le b
  have hm : ∀ n : Nat, n ≤ 200 → n ≤ maxLen := by intro n h; unfold maxLen; omega
  have hsz : (a ++ b).size = a.size + b.size := ByteArray.size_append
  have hrab := runes_two a b
  replace hm := hid hm
  replace hrab := hid hrab
  replace hsz := hid hsz
  go_enter Try.func8, Try.ntmps8
  go_wp2_with fail
  refine (known2_any w).mono ?_
  rintro e w1 ⟨rfl, hb1⟩
  go_wp2_with fail
  refine (runes_any a w1 (hm.out _ (by omega))).mono ?_
  rintro e w2 ⟨rfl, hb2⟩
  go_wp2_with fail
  refine (runes_any b w2 (hm.out _ (by omega))).mono ?_
  rintro e w3 ⟨rfl, hb3⟩
  go_wp2_with fail
  refine (runes_any (a ++ b) w3 (hm.out _ (by rw [hsz.out]; omega))).mono ?_
  rintro e w4 ⟨rfl, hb4⟩
  have f4 := sn (sn (sn hb1 hb2) hb3) hb4
  have hF : runesOk a = true → runesOk b = true → runesOk (a ++ b) = true ∧ (((runesN (a ++ b) : Int)) != (runesN a : Int) + runesN b) = false := by
    intro h5 h6
    obtain ⟨h7, h8⟩ := hrab.out h5 h6
    exact ⟨h7, by rw [h8]; simp⟩
  clear hrab
  generalize hsS : a ++ b = s at *
  clear hb1 hb2 hb3 hb4
  cases hs : runesOk s with
  | false =>
    have hab : runesOk a = false ∨ runesOk b = false := by
      cases h5 : runesOk a
      · exact .inl rfl
      · cases h6 : runesOk b
        · exact .inr rfl
        · have := (hF h5 h6).1; rw [hs] at this; cases this
    clear hF
    rcases hab with h5 | h5
    · go_wp2_with fail
      go_ret
      exact ⟨rfl, f4⟩
    · cases h6 : runesOk a
      · go_wp2_with fail
        go_ret
        exact ⟨rfl, f4⟩
      · go_wp2_with fail
        go_ret
        exact ⟨rfl, f4⟩
  | true =>
    obtain ⟨cn, rfl⟩ := Int.eq_ofNat_of_zero_le h3
    have hsn := hsz.out
    have hs2 : s.size ≤ 200 := by omega
    clear hsz hsn
    have hnS := runesN_le s
    by_cases hz : s.size = 0
    · have hz1 : ((s.size : Int) == 0) = true := by simpa using hz
      replace hz := hid hz
      cases h5 : runesOk a
      · clear hF
        go_wp2_with fail
        go_ret
        exact ⟨rfl, f4⟩
      · cases h6 : runesOk b
        · clear hF
          go_wp2_with fail
          go_ret
          exact ⟨rfl, f4⟩
        · have h7 := (hF h5 h6).2
          clear hF
          go_wp2_with fail
          go_ret
          exact ⟨rfl, f4⟩
    · have hz1 : ((s.size : Int) == 0) = false := by simpa using hz
      have hz2 : 1 ≤ s.size := by omega
      have hcl : cn % s.size < s.size := Nat.mod_lt _ (by omega)
      have hcut2 := hid (runes_cut2 s (cn % s.size) (by omega) hs)
      clear hz
      cases h5 : runesOk a
      · clear hF
        go_wp2_with fail
        refine (runes_any _ w4 (hm.out _ (by simp [ByteArray.size_extract]; omega))).mono ?_
        rintro e w5 ⟨rfl, hb5⟩
        go_wp2_with fail
        refine (runes_any _ w5 (hm.out _ (by simp [ByteArray.size_extract]; omega))).mono ?_
        rw [← hcut2.out]
        rintro e w6 ⟨rfl, hb6⟩
        go_wp2_with fail
        refine (ref_runes_any _ w6 (hm.out _ (by simp [ByteArray.size_extract]; omega))).mono ?_
        rintro e w7 ⟨rfl, rfl⟩
        clear hcut2
        generalize runesOk (s.extract 0 (cn % s.size)) = r
        cases r
        · go_wp2_with fail
          go_ret
          exact ⟨rfl, sn (sn f4 hb5) hb6⟩
        · go_wp2_with fail
          go_ret
          exact ⟨rfl, sn (sn f4 hb5) hb6⟩
      · cases h6 : runesOk b
        · clear hF
          go_wp2_with fail
          refine (runes_any _ w4 (hm.out _ (by simp [ByteArray.size_extract]; omega))).mono ?_
          rintro e w5 ⟨rfl, hb5⟩
          go_wp2_with fail
          refine (runes_any _ w5 (hm.out _ (by simp [ByteArray.size_extract]; omega))).mono ?_
          rw [← hcut2.out]
          rintro e w6 ⟨rfl, hb6⟩
          go_wp2_with fail
          refine (ref_runes_any _ w6 (hm.out _ (by simp [ByteArray.size_extract]; omega))).mono ?_
          rintro e w7 ⟨rfl, rfl⟩
          clear hcut2
          generalize runesOk (s.extract 0 (cn % s.size)) = r
          cases r
          · go_wp2_with fail
            go_ret
            exact ⟨rfl, sn (sn f4 hb5) hb6⟩
          · go_wp2_with fail
            go_ret
            exact ⟨rfl, sn (sn f4 hb5) hb6⟩
        · have h7 := (hF h5 h6).2
          clear hF
          go_wp2_with fail
          refine (runes_any _ w4 (hm.out _ (by simp [ByteArray.size_extract]; omega))).mono ?_
          rintro e w5 ⟨rfl, hb5⟩
          go_wp2_with fail
          refine (runes_any _ w5 (hm.out _ (by simp [ByteArray.size_extract]; omega))).mono ?_
          rw [← hcut2.out]
          rintro e w6 ⟨rfl, hb6⟩
          go_wp2_with fail
          refine (ref_runes_any _ w6 (hm.out _ (by simp [ByteArray.size_extract]; omega))).mono ?_
          rintro e w7 ⟨rfl, rfl⟩
          clear hcut2
          generalize runesOk (s.extract 0 (cn % s.size)) = r
          cases r
          · go_wp2_with fail
            go_ret
            exact ⟨rfl, sn (sn f4 hb5) hb6⟩
          · go_wp2_with fail
            go_ret
            exact ⟨rfl, sn (sn f4 hb5) hb6⟩
end Go.Proofs.Ytoblafeiidjaaaa
