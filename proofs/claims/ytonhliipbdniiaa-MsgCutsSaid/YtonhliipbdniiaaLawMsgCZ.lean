/- For every message, cut and byte law MsgCuts returns true. No condition beyond what a message is. -/
import Derived.Test.YtonhliipbdniiaaBunQ
import Derived.Test.YtonhliipbdniiaaMsgCZ
import Derived.Test.YtonhliipbdniiaaMsgFewZ
import Derived.Test.YtonhliipbdniiaaMsgInZ
namespace Go.Proofs.Ytonhliipbdniiaa
open Go.RowKit
set_option maxRecDepth 100000
set_option linter.unusedVariables false

theorem own_empty2 (w : World) (o : Obj) (e k : Nat) : ((w.alloc o).alloc (.cells #[] e)).ownsRow (w.heap.size + 1) e k (.slice (some ⟨w.heap.size + 1, 0, none⟩) 0 0) 0 [] := by
  have h := own_empty (w.alloc o) e k
  have e : (w.alloc o).heap.size = w.heap.size + 1 := by simp
  rwa [e] at h
set_option maxHeartbeats 6400000 in
theorem law_MsgCuts (a : MV) (cut : Int) (more : Nat) (w : World) (ha : a.At w) (hm : MOk a.m) (hcut : cut < 9223372036854775808) (hmore : more < 256) : Calls Try.prog 7 #[.agg a.cells, .int .i64 cut, .int .u8 (more : Int)] w (Holds w) := by
  replace hcut := hid hcut
  have hac := hid ha.cells
  have hb0 := (Below.refl w.heap.size w).alloc (Nat.le_refl _) (.cells a.cells 66)
  have hx0 := hid (heap_alloc_new w (.cells a.cells 66))
  have ha0 := hid (ha.below hb0)
  have hk5 := hid (known5 (w.alloc (.cells a.cells 66)))
  replace hb0 := hid hb0
  clear ha
  go_enter Try.func7, Try.ntmps7
  go_wp2_with fail
  refine hk5.out.mono ?_
  rintro e w1 ⟨rfl, hb1⟩
  have hB1 := hid (sn hb0.out hb1)
  have ha1 := hid (ha0.out.below hb1)
  have hx1 := hid ((hb1.block w.heap.size (by simp)).trans hx0.out)
  have hf := hid (few5_any a w1 ha1.out hm)
  have hl1 : w.heap.size < w1.heap.size := lt_of_block hx1.out
  clear hb1 hb0 hx0 ha0 hk5
  go_wp2_with (refine wpl_row (.tmp 3) (by rfl) w.heap.size (by rfl) _ hx1.out hac.out.1 (by rfl) ?_)
  refine hf.out.mono ?_
  rintro e w2 ⟨r, rfl, hr, hb2⟩
  have hB2 := hid (sn hB1.out hb2)
  have ha2 := hid (ha1.out.below hb2)
  have hx2 := hid ((hb2.block w.heap.size hl1).trans hx1.out)
  have hl2 : w.heap.size < w2.heap.size := lt_of_block hx2.out
  clear hb2 hB1 ha1 hx1 hf
  cases r with
  | false =>
    clear hr
    go_wp2_with fail
    go_ret
    exact ⟨rfl, hB2.out⟩
  | true =>
  have hfw := hr rfl
  clear hr
  obtain ⟨aD, cD, eD, gD, gD', _⟩ := ha2.out.2.2.form
  have e22 : w2.cell? ⟨w.heap.size, 22, none⟩ = some (.slice aD a.m.data.length cD) := by rw [block_cell hx2.out 22, ← eD]; rfl
  replace eD := hid eD
  unfold maxLen at gD'
  have hfd := hfw.data
  by_cases hneg : cut < 0
  · replace hfw := hid hfw
    go_wp2_with fail
    go_ret
    exact ⟨rfl, hB2.out⟩
  by_cases hdat : 500 < a.m.data.length
  · replace hfw := hid hfw
    go_wp2_with fail
    go_ret
    exact ⟨rfl, hB2.out⟩
  obtain ⟨k, rfl⟩ := Int.eq_ofNat_of_zero_le (show (0 : Int) ≤ cut by omega)
  have henc := hid (mencode_any a.m a.n a.q a.d w2 hm hfw.few ha2.out.1 ha2.out.2.1 ha2.out.2.2)
  rw [show a.m.cells a.n a.q a.d = a.cells from rfl] at henc
  have hfew := hid hfw.few
  have hm' := hid hm
  clear hfw hm hfd
  have kneg : decide ((k : Int) < 0) = false := by simp
  have kdat : decide ((500 : Int) < (a.m.data.length : Int)) = false := by simp; omega
  replace hneg := hid hneg
  replace hdat := hid hdat
  go_wp2_with (refine wpl_row (.tmp 3) (by rfl) w.heap.size (by rfl) _ hx2.out hac.out.1 (by rfl) ?_)
  refine henc.out.mono ?_
  rintro e w3 ⟨v3, rfl, ⟨hv3, hn3⟩, hb3⟩
  have hB3 := hid (sn hB2.out hb3)
  obtain ⟨a3, c3, rfl, g3, g3', _⟩ := hv3.form
  unfold maxLen at g3'
  have hl3 : w.heap.size < w3.heap.size := Nat.lt_of_lt_of_le hl2 hb3.size
  clear hb3 hn3 henc hB2 ha2 hx2 e22
  by_cases he : a.m.err = 0
  case neg =>
    have k0 : ((a.m.err : Int) != 0) = true := by simpa using he
    clear he hv3
    go_wp2_with fail
    go_ret
    exact ⟨rfl, hB3.out⟩
  have hbe := bytes_eq he
  have hL3 : 3 ≤ a.m.bytes.length := by rw [hbe]; simp only [List.length_append, numBytes_length]; omega
  have hLm : a.m.bytes.length ≤ 1000000 := by
    have h1 := outs_len hfew.out (slots a.m.ty) (err_known he).2
    have h2 := slots_four a.m.ty
    rw [hbe]; simp only [List.length_append, numBytes_length]; omega
  have dC := hid (back_cut hm'.out hfew.out he (k % a.m.bytes.length) (Nat.mod_lt _ (by omega)))
  have dM := hid (back_more hm'.out hfew.out he (UInt8.ofNat more) [])
  rw [he]
  replace hbe := hid hbe
  replace he := hid he
  have hv3k := hid (hv3.take (k % a.m.bytes.length) c3 (Nat.le_of_lt (Nat.mod_lt _ (by omega))) (by have := Nat.mod_lt k (show 0 < a.m.bytes.length by omega); omega) (Nat.le_refl _))
  have hr3 : RowAt w3 1 (.slice a3 a.m.bytes.length c3) a.m.bytes.length (a.m.bytes.map byteV) := hv3
  replace hr3 := hid hr3
  replace hv3 := hid hv3
  generalize hL : a.m.bytes.length = L at *
  replace hL := hid hL
  clear gD gD' eD
  have hmod : k % L < L := Nat.mod_lt _ (by omega)
  have klt : decide ((L : Int) < 3) = false := by simp; omega
  have n1 : (0 : Int) ≤ ((k % L : Nat) : Int) := by omega
  have n2 : ((k % L : Nat) : Int) ≤ (c3 : Int) := by omega
  have hrem : (k : Int).tmod (L : Int) = ((k % L : Nat) : Int) := rfl
  have hwr : IntKind.i64.wrap ((k % L : Nat) : Int) = ((k % L : Nat) : Int) := IntWalk.i64_in _ (by omega)
  have hL0 : Hid (0 < L) := hid (by omega)
  have klz : ¬ L = 0 := by omega
  replace hL3 := hid hL3
  replace hmod := hid hmod
  go_wp2_with fail
  refine (mdecode_any _ _ w3 hv3k.out (by rw [List.length_take, hL.out]; omega)).mono ?_
  rintro e w4 ⟨hb4, v4, rfl, hM4⟩
  rw [dC.out] at hM4 ⊢
  rw [if_neg (by decide)] at hM4 ⊢
  obtain ⟨cs4, rfl, hs4, ho4⟩ := hM4.cells
  have hr4 := RowAt.below hr3.out hb4
  have hB4 := hid (sn hB3.out hb4)
  replace hs4 := hid hs4
  replace ho4 := hid ho4
  have hnew4 := hid (heap_alloc_new w4 (.cells (zeroM.cells (.slice none 0 0) (.slice none 0 0) (.slice none 0 0)) 66))
  obtain ⟨W5, hW5⟩ : ∃ W, W = (w4.alloc (.cells (zeroM.cells (.slice none 0 0) (.slice none 0 0) (.slice none 0 0)) 66)).setRow w4.heap.size cs4 := ⟨_, rfl⟩
  have hb5 : Below w4.heap.size w4 W5 := by rw [hW5]; exact below_setRow ((Below.refl _ _).alloc (Nat.le_refl _) _) (Nat.le_refl _) _
  have hr5 := hid (RowAt.below hr4 hb5)
  have hB5 := hid (sn hB4.out hb5)
  have hbA := hid ((Below.refl W5.heap.size W5).alloc (Nat.le_refl _) (.cells #[] 5))
  rw [nil_cells] at hnew4 hW5
  replace hb5 := hid hb5
  clear hM4 hb4 hr4 hv3k n1 n2 hrem hwr
  go_wp2_with (first
    | (refine wpList_store_row (by rfl) 66 (.tmp 9) (.tmp 50) (by rfl) w4.heap.size cs4 (by rfl) (by rfl) 66 _ hnew4.out (by rw [hs4.out]; kernel_rfl) (by rw [hs4.out]; rfl) ho4.out ?_)
    | (rw [← hW5]; replace hW5 := hid hW5)
    | (at_builtin; refine wpList_append_row elemU8 _ rfl (.tmp 53) (.tmp 54) rfl W5.heap.size _ 0 [] rfl (own_empty W5 _ _) _ L (a.m.bytes.map byteV) rfl (RowAt.below hr5.out hbA.out) (bytes_oneCell _) (by unfold maxLen; omega) (by omega) (by simp) ?_))
  intro a6 c6 w6 h6 g6
  have hs5 := hB5.out.size
  have hb6 := hid ((hB5.out.trans (hbA.out.mono hs5)).grown g6 (by simp; omega) (fun j hj => by cases hj; exact hs5))
  have hA6 := (Below.refl w6.heap.size w6).alloc (Nat.le_refl _) (.cells #[.int .u8 (more : Int)] 5)
  have hB6 := hid (hb6.out.trans (hA6.mono hb6.out.size))
  have hownA := hid (own_keep h6 (fun j hj => hA6.block j (h6.lt j hj).2))
  have hsrc : Hid (RowAt (w6.alloc (.cells #[.int .u8 (more : Int)] 5)) 1 (.slice (some ⟨w6.heap.size, 0, none⟩) 1 1) 1 [.int .u8 (more : Int)]) := hid (RowAt.of_block (n := 1) (heap_alloc_new _ _) rfl (by unfold maxLen; omega))
  have hz5 : W5.heap.size ≤ w6.heap.size := by have := g6.size; simp at this; omega
  have hvl := hid h6.lt
  clear h6 g6 hA6 hb6 hbA hr5
  go_wp2_with (at_builtin; refine wpList_append_row elemU8 _ rfl (.tmp 55) (.tmp 57) rfl W5.heap.size _ L _ rfl hownA.out _ 1 [.int .u8 (more : Int)] rfl hsrc.out (by intro u hu; simp at hu; subst hu; rfl) (by unfold maxLen; omega) (by omega) (by simp; omega) ?_)
  intro a7 c7 w7 h7 g7
  have hB7 := hid (hB6.out.grown g7 (by have := hB6.out.size; simp at this ⊢; omega) (fun j hj => by have := (hvl.out j hj).1; omega))
  have hv7 := hid (BytesAt.of_own (l := a.m.bytes ++ [UInt8.ofNat more]) h7 (by simp [byteV]; omega))
  clear h7 g7 hB6 hownA hsrc hvl
  go_wp2_with fail
  refine (mdecode_any _ _ w7 hv7.out (by rw [List.length_append, hL.out]; simp; omega)).mono ?_
  rintro e w8 ⟨hb8, v8, rfl, hM8⟩
  rw [dM.out] at hM8 ⊢
  rw [if_neg (by decide)] at hM8 ⊢
  obtain ⟨cs8, rfl, hs8, ho8⟩ := hM8.cells
  have hB8 := hid (sn hB7.out hb8)
  replace hs8 := hid hs8
  replace ho8 := hid ho8
  have hnew8 := hid (heap_alloc_new w8 (.cells (zeroM.cells (.slice none 0 0) (.slice none 0 0) (.slice none 0 0)) 66))
  obtain ⟨W9, hW9⟩ : ∃ W, W = (w8.alloc (.cells (zeroM.cells (.slice none 0 0) (.slice none 0 0) (.slice none 0 0)) 66)).setRow w8.heap.size cs8 := ⟨_, rfl⟩
  have hB9 : Below w.heap.size w W9 := by rw [hW9]; exact below_setRow (hB8.out.trans ((Below.refl _ _).alloc hB8.out.size _)) hB8.out.size _
  rw [nil_cells] at hnew8 hW9
  replace hB9 := hid hB9
  clear hM8 hb8 hB8 hv7 hB7
  go_wp2_with (first
    | (refine wpList_store_row (by rfl) 66 (.tmp 11) (.tmp 60) (by rfl) w8.heap.size cs8 (by rfl) (by rfl) 66 _ hnew8.out (by rw [hs8.out]; kernel_rfl) (by rw [hs8.out]; rfl) ho8.out ?_)
    | (rw [← hW9]; replace hW9 := hid hW9))
  go_ret
  exact ⟨rfl, hB9.out⟩

theorem law_MsgCutsI (a : MV) (cut : Int) (more : Int) (w : World) (ha : a.At w) (hm : MOk a.m) (hcut : cut < 9223372036854775808) (h0 : 0 ≤ more) (hmore : more < 256) : Calls Try.prog 7 #[.agg a.cells, .int .i64 cut, .int .u8 more] w (Holds w) := by
  obtain ⟨k, rfl⟩ := Int.eq_ofNat_of_zero_le h0
  exact law_MsgCuts a cut k w ha hm hcut (by omega)
end Go.Proofs.Ytonhliipbdniiaa
