/- That known of loggialaw4 returns true. No condition. -/
import Derived.Test.YtoblafeiidjaaaaStatP
import Derived.Test.YtoblafeiidjaaaaLawRead2
namespace Go.Proofs.Ytoblafeiidjaaaa
open Go.RowKit
set_option maxRecDepth 100000

theorem own_empty2 (w : World) (o : Obj) (e k : Nat) : ((w.alloc o).alloc (.cells #[] e)).ownsRow (w.heap.size + 1) e k (.slice (some ⟨w.heap.size + 1, 0, none⟩) 0 0) 0 [] := by
  have h := own_empty (w.alloc o) e k
  have e : (w.alloc o).heap.size = w.heap.size + 1 := by simp
  rwa [e] at h

def s40 : Stat := ⟨0, 0, 0, 0, 0, 420, 0, 0, 5, ⟨#[97]⟩, ⟨#[117]⟩, ⟨#[103]⟩, ⟨#[109]⟩⟩
theorem s40_err : s40.err = 0 := by decide +kernel
theorem s40_few : Few s40 := ⟨by decide, by decide, by decide, by decide⟩
theorem s40_ok : StatOk s40 := ⟨by decide, by decide, by decide, by decide, by decide, by decide, by decide, by decide, by decide, by decide, by decide, by decide, by decide⟩
theorem s40_len : s40.bytes.length = 53 := by decide +kernel

theorem all_two {s : Stat} (hok : StatOk s) (hf : Few s) (he : s.err = 0) (hp : 0 < s.bytes.length) : allS (s.bytes ++ s.bytes) = ([s, s], 0) := by
  obtain ⟨a1, a2, a3⟩ := dec_back hok hf he s.bytes
  obtain ⟨b1, b2, b3⟩ := dec_back hok hf he []
  rw [List.append_nil] at b1 b2 b3
  unfold allS
  obtain ⟨f, hfu⟩ : ∃ f, (s.bytes ++ s.bytes).length = f + 2 := ⟨(s.bytes ++ s.bytes).length - 2, by simp; omega⟩
  rw [hfu]
  have n1 : s.bytes ++ s.bytes ≠ [] := by intro h; have := congrArg List.length h; simp at this; rw [this] at hp; simp at hp
  have n2 : s.bytes ≠ [] := by intro h; rw [h] at hp; simp at hp
  simp only [allA]
  rw [if_neg n1, if_neg (by rw [a1]; simp), a2, a3, List.drop_left, if_neg n2, if_neg (by rw [b1]; simp), b2, b3, List.drop_length]
  cases f <;> simp [allA]

theorem RowAt.take26 {w : World} {a : Option Addr} {c : Nat} {l : List UInt8} (h : RowAt w 1 (.slice a 53 c) 53 (l.map byteV)) : BytesAt w (.slice a 26 c) (l.take 26) := by
  have hl : l.length = 53 := by have := h.1; simpa using this
  have hb : BytesAt w (.slice a l.length c) l := by unfold BytesAt; rw [hl]; exact h
  obtain ⟨_, _, hv, h1, _⟩ := hb.form
  cases hv
  have := hb.take 26 c (by omega) (by omega) (Nat.le_refl _)
  exact this

set_option maxHeartbeats 1600000 in
theorem known4_any (w : World) : Calls Try.prog 38 #[] w fun e w' => e = .returned (.bool true) ∧ Below w.heap.size w w' := by
  have he0 := hid s40_err
  have hl0 := hid s40_len
  obtain ⟨d1, d2, d3⟩ := dec_back s40_ok s40_few s40_err []
  rw [List.append_nil] at d1 d2 d3
  have dA := hid (all_two s40_ok s40_few s40_err (by rw [s40_len]; omega))
  have dC := hid (dec_cut s40_few s40_err 26 (by rw [s40_len]; omega))
  replace d1 := hid d1
  replace d2 := hid d2
  replace d3 := hid d3
  go_enter Try.func38, Try.ntmps38
  go_wp2_with fail
  refine (encode_any s40 _ s40_ok s40_few).mono ?_
  rintro e w1 ⟨v1, rfl, hv1, hb1⟩
  rw [he0.out]
  have f1 := ((Below.refl w.heap.size w).alloc (Nat.le_refl _) (.cells s40.cells 37)).trans (hb1.mono (by simp))
  obtain ⟨a1, c1, rfl, hc1, hc1m, _⟩ := hv1.form
  rw [hl0.out] at hv1 hc1 ⊢
  unfold maxLen at hc1m
  go_wp2_with fail
  refine (decode_any _ s40.bytes _ hv1 (by rw [hl0.out]; omega)).mono ?_
  rintro e w2 ⟨rfl, hb2⟩
  rw [d1.out, d2.out, d3.out, hl0.out]
  have hz : Hid (s40.cells = #[.int .u16 0, .int .u32 0, .int .u8 0, .int .u32 0, .int .u64 0, .int .u32 420, .int .u32 0, .int .u32 0, .int .u64 5, .string ⟨#[97]⟩, .string ⟨#[117]⟩, .string ⟨#[103]⟩, .string ⟨#[109]⟩]) := hid rfl
  rw [hz.out]
  have f2 := hid (sn f1 hb2)
  have hx1 := hid ((hb2.block w.heap.size (bsz hb1 (by simp))).trans ((hb1.block w.heap.size (by simp)).trans (heap_alloc_new w (.cells s40.cells 37))))
  have hv2 := hv1.below hb2
  have hr2 : RowAt w2 1 (.slice a1 53 c1) 53 (s40.bytes.map byteV) := by have := hv2; unfold BytesAt at this; rwa [hl0.out] at this
  have hz2 : w.heap.size < w2.heap.size := bsz hb2 (bsz hb1 (by simp))
  clear hb1 hb2 f1 hv1
  have hbA := ((Below.refl w2.heap.size w2).alloc (Nat.le_refl _) (.cells s40.cells 37)).alloc (by simp) (.cells #[] 5)
  rw [hz.out] at hbA
  go_wp2_with (at_builtin; refine wpList_append_row elemU8 _ rfl (.tmp 25) (.tmp 26) rfl (w2.heap.size + 1) _ 0 [] rfl (own_empty2 w2 _ _ _) _ 53 (s40.bytes.map byteV) rfl (hr2.below hbA) (bytes_oneCell _) (by unfold maxLen; omega) (by omega) (by simp) ?_)
  intro a3 c3 w3 h3 h4
  have hb3 := hbA.grown h4 (by simp; omega) (fun j hj => by cases hj; first | omega | simp)
  have hx3 := hid ((h4.block w2.heap.size (by simp; omega) (own_ne (own_empty2 w2 (.cells #[.int .u16 0, .int .u32 0, .int .u8 0, .int .u32 0, .int .u64 0, .int .u32 420, .int .u32 0, .int .u32 0, .int .u64 5, .string ⟨#[97]⟩, .string ⟨#[117]⟩, .string ⟨#[103]⟩, .string ⟨#[109]⟩] 37) 5 1))).trans ((heap_alloc_old _ _ (by simp)).trans (heap_alloc_new w2 (.cells #[.int .u16 0, .int .u32 0, .int .u8 0, .int .u32 0, .int .u64 0, .int .u32 420, .int .u32 0, .int .u32 0, .int .u64 5, .string ⟨#[97]⟩, .string ⟨#[117]⟩, .string ⟨#[103]⟩, .string ⟨#[109]⟩] 37))))
  have hz3 : w2.heap.size < w3.heap.size := lt_of_block hx3.out
  clear h4
  go_wp2_with (at_builtin; refine wpList_append_row elemU8 _ rfl (.tmp 27) (.tmp 28) rfl (w2.heap.size + 1) _ 53 (s40.bytes.map byteV) rfl h3 _ 53 (s40.bytes.map byteV) rfl (hr2.below hb3) (bytes_oneCell _) (by unfold maxLen; omega) (by omega) hz3 ?_)
  intro a4 c4 w4 h4 h5
  have hown : ∀ j, (Value.slice a3 53 c3).ownBlock = some j → w2.heap.size ≤ j := fun j hj => by have := (h3.lt j hj).1; omega
  have hb4 := hb3.grown h5 hb3.size hown
  have hB4 : BytesAt w4 (.slice a4 (53 + 53) c4) (s40.bytes ++ s40.bytes) := BytesAt.of_own h4 (by simp)
  have hx4 := hid ((h5.block w2.heap.size hz3 (own_ne h3)).trans hx3.out)
  have f4 := hid (sn f2.out hb4)
  have hx14 := hid ((hb4.block w.heap.size hz2).trans hx1.out)
  have hr4 := hr2.below hb4
  have hz4 : w2.heap.size < w4.heap.size := lt_of_block hx4.out
  clear h3 h4 h5 hown hb4 hb3 hr2 hv2 hx1 hx3 hbA f2
  go_wp2_with fail
  refine (all_any _ (s40.bytes ++ s40.bytes) _ hB4 (by rw [List.length_append, hl0.out]; omega)).mono ?_
  rintro e w5 ⟨v5, rfl, hs5, hb5⟩
  rw [dA.out] at hs5 ⊢
  obtain ⟨a5, c5, rfl, _, _⟩ := hs5.form
  have hlen2 : [s40, s40].length = 2 := rfl
  rw [hlen2]
  have f5 := hid (sn f4.out hb5)
  have hx5 := hid ((hb5.block _ hz4).trans hx4.out)
  have hx15 := hid ((hb5.block w.heap.size (by omega)).trans hx14.out)
  have hr5 := hr4.below hb5
  have hz5 : w2.heap.size < w5.heap.size := lt_of_block hx5.out
  clear hlen2 hs5 hb5 hB4 f4 hx4 hx14 hr4
  have hr6 := RowAt.take26 hr5
  replace hr5 := hid hr5
  go_wp2_with fail
  refine (decode_any _ (s40.bytes.take 26) _ hr6 (by rw [List.length_take]; omega)).mono ?_
  rintro e w6 ⟨rfl, hb6⟩
  have dS : decS (s40.bytes.take 26) = zeroS := by unfold decS; rw [if_neg (by rw [dC.out]; simp)]
  have dN : decN (s40.bytes.take 26) = 0 := by unfold decN; rw [if_neg (by rw [dC.out]; simp)]
  rw [dC.out, dS, dN, show zeroS.cells = #[.int .u16 0, .int .u32 0, .int .u8 0, .int .u32 0, .int .u64 0, .int .u32 0, .int .u32 0, .int .u32 0, .int .u64 0, .string ⟨#[]⟩, .string ⟨#[]⟩, .string ⟨#[]⟩, .string ⟨#[]⟩] from rfl]
  have f6 := hid (sn f5.out hb6)
  have hx6 := hid ((hb6.block _ hz5).trans hx5.out)
  have hx16 := hid ((hb6.block w.heap.size (by omega)).trans hx15.out)
  have hz6 : w2.heap.size < w6.heap.size := lt_of_block hx6.out
  have hz16 : w.heap.size < w6.heap.size := lt_of_block hx16.out
  clear dS dN hb6 f5 hx5 hx15 hr6 hr5
  have hx6_0 : w6.cell? ⟨w2.heap.size, 0, none⟩ = some (.int .u16 0) := block_cell hx6.out 0
  have hx6_1 : w6.cell? ⟨w2.heap.size, 0 + 1, none⟩ = some (.int .u32 0) := block_cell hx6.out 1
  have hx6_2 : w6.cell? ⟨w2.heap.size, 0 + 2, none⟩ = some (.int .u8 0) := block_cell hx6.out 2
  have hx6_3 : w6.cell? ⟨w2.heap.size, 0 + 2 + 1, none⟩ = some (.int .u32 0) := block_cell hx6.out 3
  have hx6_4 : w6.cell? ⟨w2.heap.size, 0 + 2 + 2, none⟩ = some (.int .u64 0) := block_cell hx6.out 4
  have hx6_5 : w6.cell? ⟨w2.heap.size, 0 + 5, none⟩ = some (.int .u32 420) := block_cell hx6.out 5
  have hx6_6 : w6.cell? ⟨w2.heap.size, 0 + 6, none⟩ = some (.int .u32 0) := block_cell hx6.out 6
  have hx6_7 : w6.cell? ⟨w2.heap.size, 0 + 7, none⟩ = some (.int .u32 0) := block_cell hx6.out 7
  have hx6_8 : w6.cell? ⟨w2.heap.size, 0 + 8, none⟩ = some (.int .u64 5) := block_cell hx6.out 8
  have hx6_9 : w6.cell? ⟨w2.heap.size, 0 + 9, none⟩ = some (.string ⟨#[97]⟩) := block_cell hx6.out 9
  have hx6_10 : w6.cell? ⟨w2.heap.size, 0 + 10, none⟩ = some (.string ⟨#[117]⟩) := block_cell hx6.out 10
  have hx6_11 : w6.cell? ⟨w2.heap.size, 0 + 11, none⟩ = some (.string ⟨#[103]⟩) := block_cell hx6.out 11
  have hx6_12 : w6.cell? ⟨w2.heap.size, 0 + 12, none⟩ = some (.string ⟨#[109]⟩) := block_cell hx6.out 12
  have hx16_0 : w6.cell? ⟨w.heap.size, 0, none⟩ = some (.int .u16 0) := block_cell hx16.out 0
  have hx16_1 : w6.cell? ⟨w.heap.size, 0 + 1, none⟩ = some (.int .u32 0) := block_cell hx16.out 1
  have hx16_2 : w6.cell? ⟨w.heap.size, 0 + 2, none⟩ = some (.int .u8 0) := block_cell hx16.out 2
  have hx16_3 : w6.cell? ⟨w.heap.size, 0 + 2 + 1, none⟩ = some (.int .u32 0) := block_cell hx16.out 3
  have hx16_4 : w6.cell? ⟨w.heap.size, 0 + 2 + 2, none⟩ = some (.int .u64 0) := block_cell hx16.out 4
  have hx16_5 : w6.cell? ⟨w.heap.size, 0 + 5, none⟩ = some (.int .u32 420) := block_cell hx16.out 5
  have hx16_6 : w6.cell? ⟨w.heap.size, 0 + 6, none⟩ = some (.int .u32 0) := block_cell hx16.out 6
  have hx16_7 : w6.cell? ⟨w.heap.size, 0 + 7, none⟩ = some (.int .u32 0) := block_cell hx16.out 7
  have hx16_8 : w6.cell? ⟨w.heap.size, 0 + 8, none⟩ = some (.int .u64 5) := block_cell hx16.out 8
  have hx16_9 : w6.cell? ⟨w.heap.size, 0 + 9, none⟩ = some (.string ⟨#[97]⟩) := block_cell hx16.out 9
  have hx16_10 : w6.cell? ⟨w.heap.size, 0 + 10, none⟩ = some (.string ⟨#[117]⟩) := block_cell hx16.out 10
  have hx16_11 : w6.cell? ⟨w.heap.size, 0 + 11, none⟩ = some (.string ⟨#[103]⟩) := block_cell hx16.out 11
  have hx16_12 : w6.cell? ⟨w.heap.size, 0 + 12, none⟩ = some (.string ⟨#[109]⟩) := block_cell hx16.out 12
  have hse := st_self s40
  rw [hz.out] at hse
  have hsz := size_any s40
  rw [hz.out] at hsz
  replace hsz := hid hsz
  have hkp := keep_any
  rw [show keepS.cells = #[.int .u16 65535, .int .u32 4294967295, .int .u8 255, .int .u32 4294967295, .int .u64 18446744073709551615, .int .u32 4294967295, .int .u32 4294967295, .int .u32 4294967295, .int .u64 18446744073709551615, .string ⟨#[]⟩, .string ⟨#[]⟩, .string ⟨#[]⟩, .string ⟨#[]⟩] from rfl] at hkp
  replace hkp := hid hkp
  go_wp2_with fail
  refine (hsz.out _ s40_few).mono ?_
  rintro e w7 ⟨rfl, hb7⟩
  rw [show (s40.size : Int) = 53 from by decide +kernel]
  obtain ⟨hc7, hf7⟩ := bcell hb7
  have kf3 : ∀ W : World, (Instr.field 37 (.agg #[.int .u16 65535, .int .u32 4294967295, .int .u8 255, .int .u32 4294967295, .int .u64 18446744073709551615, .int .u32 4294967295, .int .u32 4294967295, .int .u32 4294967295, .int .u64 18446744073709551615, .string ⟨#[]⟩, .string ⟨#[]⟩, .string ⟨#[]⟩, .string ⟨#[]⟩]) 3).run Try.prog W = .ok (.int .u32 4294967295) W := fun W => by kernel_rfl
  have kf7 : ∀ W : World, (Instr.field 37 (.agg #[.int .u16 65535, .int .u32 4294967295, .int .u8 255, .int .u32 4294967295, .int .u64 18446744073709551615, .int .u32 4294967295, .int .u32 4294967295, .int .u32 4294967295, .int .u64 18446744073709551615, .string ⟨#[]⟩, .string ⟨#[]⟩, .string ⟨#[]⟩, .string ⟨#[]⟩]) 7).run Try.prog W = .ok (.string ⟨#[]⟩) W := fun W => by kernel_rfl
  go_wp2_with fail
  refine (hkp.out _).mono ?_
  rintro e w8 ⟨rfl, hb8⟩
  go_wp2_with fail
  refine (hkp.out _).mono ?_
  rintro e w9 ⟨rfl, hb9⟩
  go_wp2_with fail
  go_ret
  exact ⟨rfl, sn (sn ((f6.out.alloc (Nat.le_of_lt hz16) _).trans (hb7.mono (by simp; omega))) hb8) hb9⟩
end Go.Proofs.Ytoblafeiidjaaaa
