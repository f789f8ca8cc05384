/- What Num and Text of the reference return, and that known of loggialaw2 returns true, under bounds on lengths that each theorem names. No further condition. -/
import Derived.Test.YtoblafeiidjaaaaWords
namespace Go.Proofs.Ytoblafeiidjaaaa
open Go.RowKit
set_option maxRecDepth 100000

/-- A call hands back bytes in a row of its own. -/
def RetOwn (w : World) (l : List UInt8) (e : Ending) (w' : World) : Prop := ∃ v', e = .returned v' ∧ w'.ownsRow w.heap.size 5 1 v' l.length (l.map byteV) ∧ Below w.heap.size w w'

set_option maxHeartbeats 1200000 in
theorem ref_num_any (n v : Nat) (w : World) (_hv : v < 18446744073709551616) (hn1 : 1 ≤ n) (hn : n ≤ 8) :
    Calls Try.prog 62 #[.int .i64 (n : Int), .int .u64 (v : Int)] w (RetOwn w (numBytes v n)) := by
  go_enter Try.func62, Try.ntmps62
  go_wp2_with fail
  go_loopw [5, 6] (fun x i wr => ∃ (k : Nat) (ys : List UInt8), k ≤ n ∧ i = .int .i64 (k : Int) ∧ wr.ownsRow w.heap.size 5 1 x ys.length (ys.map byteV) ∧ Hid (ys = numBytes v k) ∧ ys.length ≤ 8 ∧ Below w.heap.size w wr) (fun _ i _ => n - (intOf i).toNat)
  case atStart => exact ⟨0, [], by omega, rfl, World.ownsRow_nil _ _ _ _, hid rfl, by simp, Below.refl _ _⟩
  case round =>
    obtain ⟨k, ys, hk, rfl, hown, hys, hyl, hb⟩ := hrel
    by_cases hlt : k < n
    · have hbv : byteV (numAt v k) = .int .u8 (IntKind.u8.wrap ((v : Int) / 2 ^ (8 * k))) := byteV_numAt v k
      have hblk : ∀ o, (wr.alloc o).heap[wr.heap.size]? = some o := fun o => heap_alloc_new _ _
      replace hbv := hid hbv
      go_wp2_with (at_builtin; refine wpList_append_row elemU8 _ rfl (.tmp 19) (.tmp 26) rfl w.heap.size u5 ys.length (ys.map byteV) rfl (hown.alloc _) (.slice (some ⟨wr.heap.size, 0, none⟩) 1 1) 1 [.int .u8 (IntKind.u8.wrap ((v : Int) / 2 ^ (8 * k)))] rfl (RowAt.of_block (hblk _) (by simp) (by unfold maxLen; omega)) (by intro u hu; rw [List.mem_singleton] at hu; subst hu; rfl) (by unfold maxLen; omega) (by omega) (by have := hb.size; simp; omega) ?_)
      intro a' c' w' h2 h3
      have hb' : Below w.heap.size w w' := (hb.alloc hb.size _).grown h3 (by have := hb.size; simp; omega) (fun j hj => (hown.lt j hj).1)
      have h4 : w'.ownsRow w.heap.size 5 1 (.slice a' (ys.length + 1) c') (ys ++ [numAt v k]).length ((ys ++ [numAt v k]).map byteV) := by rw [← hbv.out] at h2; simpa using h2
      replace h4 := hid h4
      clear h2 h3
      go_wp2_with fail
      go_roundw
      case rel => exact ⟨k + 1, ys ++ [numAt v k], by omega, by go_num, h4.out, hid (by rw [hys.out]; rfl), by rw [hys.out, List.length_append, numBytes_length]; simp; omega, hb'⟩
      case measure => simp [intOf]; omega
    · obtain rfl : k = n := by omega
      go_wp2_with fail
      go_ret
      exact ⟨_, rfl, by rw [← hys.out]; exact hown, hb⟩
def textErr (s : ByteArray) : Nat := mayN s
def RetBE (w : World) (l : List UInt8) (en : Nat) (e : Ending) (w' : World) : Prop := ∃ v', e = .returned (.tuple #[v', .int .i64 (en : Int)]) ∧ BytesAt w' v' l ∧ Below w.heap.size w w'

theorem mayN_eq (s : ByteArray) : mayN s = if 64 < s.size then 3 else if !validB s then 2 else 0 := by
  unfold mayN S.may; rw [show s.data.toList.length = s.size from by simp]; rfl

theorem u8info : ∃ i, Try.prog.info? 5 = some i ∧ i.zero = some (.int .u8 0) ∧ i.size = 1 ∧ i.bytes = 1 := by
  obtain ⟨i0, hi, hz0, hz1, hz2⟩ := info_parts infoU8
  exact ⟨i0, hi, hz0, hz1, hz2⟩

set_option maxHeartbeats 800000 in
theorem ref_text_any (s : ByteArray) (w : World) (hs : s.size ≤ 1000000) :
    Calls Try.prog 31 #[.string s] w (RetBE w (putTextR s) (mayN s)) := by
  have hml : s.size ≤ maxLen := by unfold maxLen; omega
  have E := mayN_eq s
  by_cases h64 : 64 < s.size
  · rw [if_pos h64] at E
    have hp := hid (putTextR_no (s := s) (by omega))
    replace E := hid E
    go_enter Try.func31, Try.ntmps31
    go_wp2_with fail
    go_ret2
    exact ⟨_, by rw [E.out]; rfl, by rw [hp.out]; exact RowAt.nil, Below.refl _ _⟩
  rw [if_neg h64] at E
  cases hv : validB s with
  | false =>
    rw [hv] at E
    have hp := hid (putTextR_no (s := s) (by rw [E]; simp))
    replace E := hid E
    replace hv := hid hv
    go_enter Try.func31, Try.ntmps31
    go_wp2_with fail
    refine (ref_valid_any s w hml).mono ?_
    rw [hv.out]
    rintro e w1 ⟨rfl, rfl⟩
    go_wp2_with fail
    go_ret2
    exact ⟨_, by rw [E.out]; rfl, by rw [hp.out]; exact RowAt.nil, Below.refl _ _⟩
  | true =>
    rw [hv] at E
    have hp := hid (putTextR_ok (s := s) E)
    replace E := hid E
    replace hv := hid hv
    obtain ⟨i0, hi, hz0, hz1, hz2⟩ := u8info
    go_enter Try.func31, Try.ntmps31
    go_wp2_with fail
    refine (ref_valid_any s w hml).mono ?_
    rw [hv.out]
    rintro e w1 ⟨rfl, rfl⟩
    go_wp2_with fail
    refine (ref_num_any 2 s.size w (by omega) (by omega) (by omega)).mono ?_
    rintro e w1 ⟨v1, rfl, hown, hb1⟩
    have hnl := numBytes_length s.size 2
    rw [hnl] at hown
    replace hnl := hid hnl
    go_wp2_with (at_builtin; refine Lib.wpList_append_own_string (P := Try.prog) _ rfl (.tmp 15) (.tmp 16) 29 9 rfl w.heap.size 5 i0 Try.underlying29 Try.underlying9 hi hz0 hz1 hz2 v1 2 ((numBytes s.size 2).map byteV) rfl hown s rfl (by unfold maxLen; omega) (by omega) hb1.size ?_)
    intro v2 w2 h2 h3 _
    have hb2 := hb1.grown h3 hb1.size (fun k hk => (hown.lt k hk).1)
    go_wp2_with fail
    go_ret2
    refine ⟨v2, by rw [E.out]; rfl, by rw [hp.out]; exact BytesAt.of_own h2 (by unfold putText Lib.strCells; rw [List.map_append]; rfl), hb2⟩

theorem outIs_new (w : World) : OutIs (w.alloc (.cells #[.slice none 0 0] 56)) w.heap.size [] := ⟨_, heap_alloc_new _ _, World.ownsRow_nil _ _ _ _⟩

theorem sn {W a b : World} (h : Below W.heap.size W a) (k : Below a.heap.size a b) : Below W.heap.size W b := h.trans (k.mono h.size)

theorem words_known : wordsL ⟨#[47, 97, 47, 47, 98]⟩ = [⟨#[97]⟩, ⟨#[98]⟩] := by decide +kernel

set_option maxHeartbeats 1600000 in
theorem known2_any (w : World) : Calls Try.prog 21 #[] w fun e w' => e = .returned (.bool true) ∧ Below w.heap.size w w' := by
  have k1 := hid (show mayN ⟨#[97, 195, 164]⟩ = 0 by decide +kernel)
  have k2 := hid (show putTextR ⟨#[97, 195, 164]⟩ = [3, 0, 97, 195, 164] by decide +kernel)
  have k3 := hid (show tkStr [3, 0, 97, 195, 164] 0 = ⟨#[97, 195, 164]⟩ by decide +kernel)
  have k4 := hid (show tkErr [3, 0, 97, 195, 164] 0 = 0 by decide +kernel)
  have k5 := hid (show runesN ⟨#[97, 195, 164]⟩ = 2 by decide +kernel)
  have k6 := hid (show runesOk ⟨#[97, 195, 164]⟩ = true by decide +kernel)
  have k7 := hid (show validB ⟨#[97, 195, 164]⟩ = true by decide +kernel)
  have k8 := hid (show validB ⟨#[255]⟩ = false by decide +kernel)
  have k9 := hid (show nameN ⟨#[97]⟩ = 0 by decide +kernel)
  have k10 := hid (show nameN ⟨#[46, 46]⟩ = 6 by decide +kernel)
  have hm : ∀ n : Nat, n ≤ 100 → n ≤ maxLen := by intro n h; unfold maxLen; omega
  replace hm := hid hm
  go_enter Try.func21, Try.ntmps21
  go_wp2_with fail
  refine (text_put_any w.heap.size [] _ _ (by decide) (by simp) (outIs_new w)).mono ?_
  rw [k1.out, k2.out]
  rintro e w1 ⟨rfl, ho1, hb1⟩
  simp only [List.nil_append] at ho1
  go_wp2_with fail
  refine (out_bytes_any w.heap.size _ w1 (by simp) ho1).mono ?_
  rintro e w2 ⟨v2, rfl, hv2, hb2⟩
  go_wp2_with fail
  refine (in_of_any v2 _ w2 hv2 (by simp)).mono ?_
  rintro e w3 ⟨b3, rfl, hb3, hi3, hbb3⟩
  go_wp2_with fail
  refine (text_take_any b3 _ 0 w3 (by simp) hi3).mono ?_
  rw [k3.out, k4.out]
  rintro e w4 ⟨rfl, _, hb4⟩
  go_wp2_with fail
  refine (runes_any _ w4 (hm.out _ (by decide))).mono ?_
  rw [k5.out, k6.out]
  rintro e w5 ⟨rfl, hb5⟩
  go_wp2_with fail
  refine (words_any _ w5 (by decide)).mono ?_
  rw [words_known]
  rintro e w6 ⟨v6, rfl, hv6, hb6⟩
  obtain ⟨a6, c6, rfl, _, _⟩ := hv6.form
  go_wp2_with fail
  refine (valid_any _ w6 (hm.out _ (by decide))).mono ?_
  rw [k7.out]
  rintro e w7 ⟨rfl, hb7⟩
  go_wp2_with fail
  refine (valid_any _ w7 (hm.out _ (by decide))).mono ?_
  rw [k8.out]
  rintro e w8 ⟨rfl, hb8⟩
  go_wp2_with fail
  refine (name_any _ w8 (hm.out _ (by decide))).mono ?_
  rw [k9.out]
  rintro e w9 ⟨rfl, hb9⟩
  go_wp2_with fail
  refine (name_any _ w9 (hm.out _ (by decide))).mono ?_
  rw [k10.out]
  rintro e w10 ⟨rfl, hb10⟩
  have hv10 := ((hv6.below hb7).below hb8).below hb9 |>.below hb10
  obtain ⟨bb, o, rfl, hc⟩ := hv10.cell 1 (by simp)
  have hc' : w10.cell? ⟨bb, o + 1, none⟩ = some (.string ⟨#[98]⟩) := hc
  go_wp2_with fail
  go_ret
  have f1 := ((Below.refl w.heap.size w).alloc (Nat.le_refl _) _).trans hb1
  have f2 := sn f1 hb2
  have f4 := (sn f2 hbb3).trans (hb4.mono (Nat.le_trans f2.size hb3))
  exact ⟨rfl, sn (sn (sn (sn (sn (sn f4 hb5) hb6) hb7) hb8) hb9) hb10⟩
end Go.Proofs.Ytoblafeiidjaaaa
