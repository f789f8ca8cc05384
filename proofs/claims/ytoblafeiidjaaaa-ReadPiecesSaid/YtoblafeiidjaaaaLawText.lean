/- The walks of the laws TextBack and TextBytes: each returns true. No further condition. -/
import Derived.Test.YtoblafeiidjaaaaRefNum
namespace Go.Proofs.Ytoblafeiidjaaaa
open Go.RowKit
set_option maxRecDepth 100000

/-- What each law's walk shows: it returns true, and nothing that was there has changed. -/
def Holds (w : World) (e : Ending) (w' : World) : Prop := e = .returned (.bool true) ∧ Below w.heap.size w w'

theorem mayN_zero_size {s : ByteArray} (h : mayN s = 0) : s.size ≤ 64 := by
  rw [mayN_eq] at h
  by_cases h64 : 64 < s.size
  · rw [if_pos h64] at h; cases h
  · omega

theorem le2 (n : Nat) (h : n < 65536) (l : List UInt8) : leN ((numBytes n 2 ++ l).take 2) = n := by
  have e1 : (numBytes n 2 ++ l).take 2 = numBytes n 2 := by rw [List.take_append_of_le_length (by rw [numBytes_length]; omega), List.take_of_length_le (by rw [numBytes_length]; omega)]
  rw [e1]
  show leN ([] ++ [numAt n 0] ++ [numAt n 1]) = n
  simp [leN, numAt]
  omega

theorem take_back {s : ByteArray} (h : mayN s = 0) : tkStr (putText s) 0 = s ∧ tkErr (putText s) 0 = 0 := by
  have hsz := mayN_zero_size h
  have hl : (putText s).length = 2 + s.size := by unfold putText; rw [List.length_append, numBytes_length]; simp
  have h1 : takeV 2 (putText s) 0 = s.size := by
    unfold takeV
    rw [if_neg (by simp), if_neg (by omega)]
    exact le2 s.size (by omega) _
  have h2 : restL 2 (putText s) 0 = s.data.toList := by
    unfold restL
    rw [if_neg (by simp), if_neg (by omega)]
    unfold putText
    rw [List.drop_append_of_le_length (by rw [numBytes_length]; omega), List.drop_of_length_le (by rw [numBytes_length]; omega)]
    rfl
  have h3 : restE 2 (putText s) 0 = 0 := by
    unfold restE
    rw [if_neg (by simp), if_neg (by omega)]
  have h4 : restE s.size s.data.toList 0 = 0 := by unfold restE; rw [if_neg (by simp), if_neg (by simp)]
  have h5 : rawL s.size s.data.toList 0 = s.data.toList := by unfold rawL; rw [if_neg (by simp), if_neg (by simp)]; exact List.take_of_length_le (by simp)
  have h6 : tkErr (putText s) 0 = 0 := by
    unfold tkErr
    rw [h1, h2, h3, h4, h5, if_neg (by simp), strL_self]; exact h
  refine ⟨?_, h6⟩
  unfold tkStr
  rw [h6, if_neg (by simp), h1, h2, h3, h5, strL_self]

set_option maxHeartbeats 1600000 in
theorem law_TextBack (s : ByteArray) (w : World) (hs : s.size ≤ maxLen) : Calls Try.prog 7 #[.string s] w (Holds w) := by
  unfold maxLen at hs
  by_cases h3 : 300 < s.size
  · go_enter Try.func7, Try.ntmps7
    go_wp2_with fail
    refine (known2_any w).mono ?_
    rintro e w1 ⟨rfl, hb1⟩
    go_wp2_with fail
    go_ret
    exact ⟨rfl, hb1⟩
  by_cases hm : mayN s = 0
  · have hp := hid (putTextR_ok hm)
    have htb := hid (take_back hm)
    have hsz := mayN_zero_size hm
    replace hm := hid hm
    have hpl : (putText s).length ≤ 66 := by unfold putText; rw [List.length_append, numBytes_length]; simp; omega
    go_enter Try.func7, Try.ntmps7
    go_wp2_with fail
    refine (known2_any w).mono ?_
    rintro e w1 ⟨rfl, hb1⟩
    go_wp2_with fail
    refine (text_put_any w1.heap.size [] s _ (by omega) (by simp) (outIs_new w1)).mono ?_
    rw [hm.out, hp.out]
    rintro e w2 ⟨rfl, ho2, hb2⟩
    simp only [List.nil_append] at ho2
    go_wp2_with fail
    refine (ref_text_any s w2 (by omega)).mono ?_
    rw [hm.out, hp.out]
    rintro e w3 ⟨v3, rfl, hv3, hb3⟩
    obtain ⟨a3, c3, rfl, _, _, _⟩ := hv3.form
    have ho3 := ho2.below hb3
    go_wp2_with fail
    have hd3 := hv3.below (Below.refl w3.heap.size w3).drew
    have hcv3 := conv_string w3.drew _ _ hd3
    go_region_with (go_at_call 32; refine (out_bytes_any w1.heap.size (putText s) _ (by omega) (by exact ho3)).mono ?_; rintro e w4 ⟨v4, rfl, hv4, hb4⟩; have hcv4 := conv_string w4 v4 _ hv4; have hcv3' := conv_string w4 _ _ (hd3.below hb4))
    all_goals
      go_wp2_with fail
      refine (in_of_any _ (putText s) w4 (hd3.below hb4) (by omega)).mono ?_
      rintro e w5 ⟨b5, rfl, hb5, hi5, hbb5⟩
      go_wp2_with fail
      refine (text_take_any b5 (putText s) 0 w5 (by omega) hi5).mono ?_
      rw [htb.out.1, htb.out.2]
      rintro e w6 ⟨rfl, _, hb6⟩
      go_wp2_with fail
      go_ret
      have f1 := hb1.trans ((((Below.refl w1.heap.size w1).alloc (Nat.le_refl _) (.cells #[.slice none 0 0] 56)).trans hb2).mono hb1.size)
      have f4 := (sn (sn f1 hb3).drew hb4)
      exact ⟨rfl, (sn f4 hbb5).trans (hb6.mono (Nat.le_trans f4.size hb5))⟩
  · have hp := hid (putTextR_no hm)
    have k0 : ((mayN s : Int) != 0) = true := by simpa using hm
    clear hm
    go_enter Try.func7, Try.ntmps7
    go_wp2_with fail
    refine (known2_any w).mono ?_
    rintro e w1 ⟨rfl, hb1⟩
    go_wp2_with fail
    refine (text_put_any w1.heap.size [] s _ (by omega) (by simp) (outIs_new w1)).mono ?_
    rw [hp.out]
    rintro e w2 ⟨rfl, ho2, hb2⟩
    simp only [List.nil_append] at ho2
    go_wp2_with fail
    refine (ref_text_any s w2 (by omega)).mono ?_
    rw [hp.out]
    rintro e w3 ⟨v3, rfl, hv3, hb3⟩
    obtain ⟨a3, c3, rfl, _, _, _⟩ := hv3.form
    have ho3 := ho2.below hb3
    have hd3 := hv3.below (Below.refl w3.heap.size w3).drew
    have hcv3 : (convert 29 9 (.slice a3 0 c3)).run Try.prog w3.drew = .ok (.string (strL [])) w3.drew := conv_string w3.drew _ _ hd3
    go_wp2_with fail
    go_region_with (go_at_call 32; refine (out_bytes_any w1.heap.size [] _ (by simp) (by exact ho3)).mono ?_; rintro e w4 ⟨v4, rfl, hv4, hb4⟩; have hcv4 := conv_string w4 v4 _ hv4; have hcv3' : (convert 29 9 (.slice a3 0 c3)).run Try.prog w4 = .ok (.string (strL [])) w4 := conv_string w4 _ _ (hd3.below hb4))
    all_goals
      go_wp2_with fail
      go_ret
      have f1 := hb1.trans ((((Below.refl w1.heap.size w1).alloc (Nat.le_refl _) (.cells #[.slice none 0 0] 56)).trans hb2).mono hb1.size)
      exact ⟨rfl, sn (sn f1 hb3).drew hb4⟩

def listOf (z : List Int) (n : Nat) : List UInt8 := (z.take n).map fun x => UInt8.ofNat x.toNat

theorem rin_new (w : World) (v : Value) (l : List UInt8) (h : BytesAt w v l) (hl : l.length ≤ 1000000000) : RInIs (w.alloc (.cells #[v, .int .i64 0, .int .i64 0] 68)) w.heap.size l 0 :=
  ⟨v, 0, l, heap_alloc_new _ _, h.below ((Below.refl _ _).alloc (Nat.le_refl _) _), fun he => absurd (h.lt he) (Nat.lt_irrefl _), Nat.zero_le _, hl, rfl⟩

set_option maxHeartbeats 1600000 in
theorem law_TextBytes (v : Value) (l : List UInt8) (w : World) (h : BytesAt w v l) : Calls Try.prog 9 #[v] w (Holds w) := by
  obtain ⟨a, c, rfl, hc1, hc2, hc3⟩ := h.form
  unfold maxLen at hc2
  by_cases h3 : 300 < l.length
  · go_enter Try.func9, Try.ntmps9
    go_wp2_with fail
    refine (known2_any w).mono ?_
    rintro e w1 ⟨rfl, hb1⟩
    go_wp2_with fail
    go_ret
    exact ⟨rfl, hb1⟩
  · go_enter Try.func9, Try.ntmps9
    go_wp2_with fail
    refine (known2_any w).mono ?_
    rintro e w1 ⟨rfl, hb1⟩
    go_wp2_with fail
    have h1 := h.below hb1
    refine (in_of_any _ l w1 h1 (by omega)).mono ?_
    rintro e w2 ⟨b2, rfl, hb2, hi2, hbb2⟩
    go_wp2_with fail
    refine (text_take_any b2 l 0 w2 (by omega) hi2).mono ?_
    rintro e w3 ⟨rfl, hi3, hb3⟩
    go_wp2_with fail
    have f2 := sn hb1 hbb2
    have f3 := f2.trans (hb3.mono (Nat.le_trans hb1.size hb2))
    have h4 := h.below f3
    refine (rin_text_any w3.heap.size l 0 _ (by omega) (rin_new w3 _ l h4 (by omega))).mono ?_
    rintro e w4 ⟨rfl, hr4, hb4⟩
    have g4 := (((Below.refl w3.heap.size w3).alloc (Nat.le_refl _) (.cells #[.slice a l.length c, .int .i64 0, .int .i64 0] 68))).trans hb4
    have hi4 := hi3.below g4
    by_cases he : tkErr l 0 = 0
    · have hE : tkE l 0 = 0 := by
        unfold tkErr at he
        split at he
        · rename_i h1; exact absurd he h1
        · rename_i h1; simpa [tkE] using h1
      have k0 : ((tkErr l 0 : Int) != 0) = false := by simpa using he
      replace he := hid he
      replace hE := hid hE
      go_wp2_with fail
      refine (in_left_any b2 _ _ w4 hi4).mono ?_
      rintro e w5 ⟨rfl, rfl⟩
      go_wp2_with fail
      refine (rin_left_any w3.heap.size _ _ w4 hr4).mono ?_
      rintro e w5 ⟨rfl, hb5⟩
      go_wp2_with fail
      go_ret
      exact ⟨rfl, sn (sn f3 g4) hb5⟩
    · have k0 : ((tkErr l 0 : Int) != 0) = true := by simpa using he
      clear he
      go_wp2_with fail
      go_ret
      exact ⟨rfl, sn f3 g4⟩
end Go.Proofs.Ytoblafeiidjaaaa
