/- The walk of the law TextAny: it returns true. No further condition. -/
import Derived.Test.YtoblafeiidjaaaaLawText2
namespace Go.Proofs.Ytoblafeiidjaaaa
open Go.RowKit
set_option maxRecDepth 100000

theorem wordsL_len (s : ByteArray) : (wordsL s).length ≤ s.size + 1 := by
  unfold wordsL
  rw [List.length_map]
  exact bspans_len s _ _ _

set_option maxHeartbeats 1600000 in
theorem law_TextAny (s : ByteArray) (w : World) (hs : s.size ≤ maxLen) : Calls Try.prog 6 #[.string s] w (Holds w) := by
  unfold maxLen at hs
  by_cases h3 : 300 < s.size
  · go_enter Try.func6, Try.ntmps6
    go_wp2_with fail
    refine (known2_any w).mono ?_
    rintro e w1 ⟨rfl, hb1⟩
    go_wp2_with fail
    go_ret
    exact ⟨rfl, hb1⟩
  have hm : s.size ≤ maxLen := by unfold maxLen; omega
  replace hm := hid hm
  have hwl := wordsL_len s
  go_enter Try.func6, Try.ntmps6
  go_wp2_with fail
  refine (known2_any w).mono ?_
  rintro e w1 ⟨rfl, hb1⟩
  go_wp2_with fail
  refine (runes_any s w1 hm.out).mono ?_
  rintro e w2 ⟨rfl, hb2⟩
  go_wp2_with fail
  refine (ref_runes_any s w2 hm.out).mono ?_
  rintro e w3 ⟨rfl, rfl⟩
  go_wp2_with fail
  refine (words_any s w2 (by omega)).mono ?_
  rintro e w4 ⟨v4, rfl, hv4, hb4⟩
  go_wp2_with fail
  refine (ref_words_any s w4 (by omega)).mono ?_
  rintro e w5 ⟨v5, rfl, hv5, hb5⟩
  replace hv4 := hv4.below hb5
  obtain ⟨a4, c4, rfl, hc4, hd4⟩ := hv4.form
  obtain ⟨a5, c5, rfl, hc5, hd5⟩ := hv5.form
  go_wp2_with fail
  refine (valid_any s w5 hm.out).mono ?_
  rintro e w6 ⟨rfl, hb6⟩
  go_wp2_with fail
  refine (ref_valid_any s w6 hm.out).mono ?_
  rintro e w7 ⟨rfl, rfl⟩
  go_wp2_with fail
  refine (name_any s w6 hm.out).mono ?_
  rintro e w7 ⟨rfl, hb7⟩
  go_wp2_with fail
  refine (ref_name_any s w7 hm.out).mono ?_
  rintro e w8 ⟨rfl, rfl⟩
  replace hv4 := (hv4.below hb6).below hb7
  replace hv5 := (hv5.below hb6).below hb7
  have f7 := sn (sn (sn (sn (sn hb1 hb2) hb4) hb5) hb6) hb7
  clear hb1 hb2 hb4 hb5 hb6 hb7
  generalize wordsL s = L at *
  go_wp2_with fail
  go_loopw [9] (fun i wr => ∃ (k m : Nat), k ≤ L.length ∧ i = .int .i64 (k : Int) ∧ wr = w7.drewN m) (fun i _ => L.length - (intOf i).toNat)
  case atStart => exact ⟨0, 0, by omega, rfl, rfl⟩
  case round =>
    obtain ⟨k, m, hk, rfl, rfl⟩ := hrel
    by_cases hlt : k < L.length
    · obtain ⟨b4, o4, rfl, he4⟩ := hv4.cell k hlt
      obtain ⟨b5, o5, rfl, he5⟩ := hv5.cell k hlt
      have q1 : (0 : Int) ≤ (k : Int) ∧ (k : Int) < (L.length : Int) := by omega
      generalize L[k] = x at he4 he5
      go_wp2_with fail
      go_quiet (fail)
      go_wp2_with fail
      go_roundw
      case rel => exact ⟨k + 1, m + nq, by omega, by go_num, rfl⟩
      case measure => simp [intOf]; omega
    · obtain rfl : k = L.length := by omega
      go_wp2_with fail
      go_ret
      exact ⟨rfl, bdrewN f7 m⟩
end Go.Proofs.Ytoblafeiidjaaaa
