/- For every number law MsgNames returns true. No condition. -/
import Derived.Test.YtonhliipbdniiaaBunQ
namespace Go.Proofs.Ytonhliipbdniiaa
open Go.RowKit
set_option maxRecDepth 100000
set_option linter.unusedVariables false

def nM (k : Nat) : M := { zeroM with ty := 110, fid := 1, new := 2, names := List.replicate k ⟨#[100]⟩ }
theorem nM_cells (k : Nat) (v : Value) : (nM k).cells v (.slice none 0 0) (.slice none 0 0) = #[.int .u8 110, .int .u16 0, .int .u32 0, .string ⟨#[]⟩, .int .u32 1, .int .u32 0, .int .u32 2, .string ⟨#[]⟩, .string ⟨#[]⟩, .string ⟨#[]⟩, .int .u16 0, v, .slice none 0 0, .int .u8 0, .int .u32 0, .int .u64 0, .int .u32 0, .int .u8 0, .int .u32 0, .string ⟨#[]⟩, .int .u64 0, .int .u32 0, .slice none 0 0, .int .u16 0, .int .u32 0, .int .u8 0, .int .u32 0, .int .u64 0, .int .u32 0, .int .u32 0, .int .u32 0, .int .u64 0, .string ⟨#[]⟩, .string ⟨#[]⟩, .string ⟨#[]⟩, .string ⟨#[]⟩] := rfl
theorem may_d : mayN ⟨#[100]⟩ = 0 := by kernel_rfl
theorem rep_err : ∀ k, textsErr (List.replicate k ⟨#[100]⟩) = 0
  | 0 => rfl
  | k + 1 => by rw [List.replicate_succ]; simp only [textsErr, may_d, if_true]; exact rep_err k
theorem rep_len : ∀ k, (textsBytes (List.replicate k ⟨#[100]⟩)).length = 3 * k
  | 0 => rfl
  | k + 1 => by
    rw [List.replicate_succ]
    simp only [textsBytes, List.length_append, putText_length, rep_len k]
    show 2 + 1 + 3 * k = _
    omega
theorem nM_err (k : Nat) : (nM k).err = if 16 < k then 3 else 0 := by
  show (outs (nM k) [.fid, .new, .names]).1 = _
  rw [outs_ok rfl, outs_ok rfl]
  have h : (Slot.o (nM k) .names).1 = if 16 < k then 3 else 0 := by
    show (if 16 < (List.replicate k _).length then 3 else textsErr (List.replicate k _)) = _
    rw [List.length_replicate, rep_err]
  by_cases h0 : (Slot.o (nM k) .names).1 = 0
  · rw [outs_ok h0, ← h, h0]; rfl
  · rw [outs_bad h0, ← h]
theorem nM_len {k : Nat} (hk : k ≤ 16) : (nM k).bytes.length = 13 + 3 * k := by
  have he : (nM k).err = 0 := by rw [nM_err, if_neg (by omega)]
  have ho : (Slot.o (nM k) .names).1 = 0 := by
    show (if 16 < (List.replicate k _).length then 3 else textsErr (List.replicate k _)) = _
    rw [List.length_replicate, rep_err, if_neg (by omega)]
  rw [bytes_eq he]
  rw [show slots (nM k).ty = [.fid, .new, .names] from rfl, outs_ok rfl, outs_ok rfl, outs_ok ho]
  simp only [Slot.o, List.length_append, numBytes_length, outs, List.length_nil, show (nM k).names = List.replicate k ⟨#[100]⟩ from rfl, rep_len]
  omega
theorem nM_ok (k : Nat) : MOk (nM k) := by
  constructor <;> first | exact (bM_ok.qid) | exact zeroS_ok | (intro q hq; cases hq) | (show (0 : Nat) < _; omega) | (show (1 : Nat) < _; omega) | (show (2 : Nat) < _; omega) | (show (110 : Nat) < _; omega)
theorem nM_few (k : Nat) : MFew (nM k) := by
  constructor <;> first | exact bM_few.stat | (show (0 : Nat) ≤ _; omega) | (intro s hs; have := List.eq_of_mem_replicate hs; subst this; decide)
theorem elemS : ElemOk Try.prog 22 9 1 16 := elemOk_of Try.underlying22 infoStr rfl (by decide)

set_option maxHeartbeats 3200000 in
theorem law_MsgNames (n : Nat) (w : World) (hn : n < 256) : Calls Try.prog 8 #[.int .u8 (n : Int)] w (Holds w) := by
  have c1 : IntKind.i64.wrap (((n % 20 : Nat) : Int)) = ((n % 20 : Nat) : Int) := IntWalk.i64_in _ (by omega)
  have c2 : ((n : Int) % 20) = ((n % 20 : Nat) : Int) := by omega
  go_enter Try.func8, Try.ntmps8
  go_wp2_with fail
  refine (known5 w).mono ?_
  rintro en w1 ⟨rfl, hb1⟩
  have hnew := hid (heap_alloc_new w1 (.cells (zeroM.cells (.slice none 0 0) (.slice none 0 0) (.slice none 0 0)) 66))
  obtain ⟨W, hW⟩ : ∃ W, W = (w1.alloc (.cells (zeroM.cells (.slice none 0 0) (.slice none 0 0) (.slice none 0 0)) 66)).setRow w1.heap.size ((nM 0).cells (.slice none 0 0) (.slice none 0 0) (.slice none 0 0)) := ⟨_, rfl⟩
  have hbW : Below w1.heap.size w1 W := by rw [hW]; exact below_setRow ((Below.refl _ _).alloc (Nat.le_refl _) _) (Nat.le_refl _) _
  have hr : W.heap[w1.heap.size]? = some (.cells ((nM 0).cells (.slice none 0 0) (.slice none 0 0) (.slice none 0 0)) 66 (0, 0)) := by rw [hW]; exact setRow_heap _ _ _ _ _ _ hnew.out
  have hBW := sn hb1 hbW
  have hzW : W.heap.size = w1.heap.size + 1 := by rw [hW]; simp
  rw [nil_cells] at hnew hW
  replace hr := hid hr
  replace hbW := hid hbW
  go_wp2_with (first
    | (refine wpList_store_row (by rfl) 66 (.tmp 3) (.tmp 11) (by rfl) w1.heap.size ((nM 0).cells (.slice none 0 0) (.slice none 0 0) (.slice none 0 0)) (by rfl) (by rfl) 66 _ hnew.out (by kernel_rfl) (by kernel_rfl) (by kernel_rfl) ?_)
    | fail)
  rw [← hW]
  replace hW := hid hW
  have hn20 : n % 20 < 20 := Nat.mod_lt _ (by omega)
  generalize hq : n % 20 = q at *
  clear hq hn
  go_loopw [4] (fun kv wr => ∃ (k : Nat) (v : Value), k ≤ q ∧ kv = .int .i64 (k : Int) ∧ wr.heap[w1.heap.size]? = some (.cells ((nM k).cells v (.slice none 0 0) (.slice none 0 0)) 66 (0, 0)) ∧ wr.ownsRow (w1.heap.size + 1) 9 1 v k (List.replicate k (.string ⟨#[100]⟩)) ∧ Below w.heap.size w wr ∧ w1.heap.size + 1 ≤ wr.heap.size) (fun kv _ => q - (intOf kv).toNat)
  case atStart => exact ⟨0, .slice none 0 0, by omega, rfl, hr.out, World.ownsRow_nil _ _ _ _, hBW, by omega⟩
  case round =>
    obtain ⟨k, v, hk, rfl, hb, hown, hbl, hsz⟩ := hrel
    by_cases hkq : k < q
    · have e11 : wr.cell? ⟨w1.heap.size, 11, none⟩ = some v := block_cell hb 11
      have hlt := lt_of_block hb
      have hA := (Below.refl wr.heap.size wr).alloc (Nat.le_refl _) (.cells #[.string ⟨#[100]⟩] 9)
      have hownA := hid (own_keep hown (fun j hj => hA.block j (hown.lt j hj).2))
      have hsrc : Hid (RowAt (wr.alloc (.cells #[.string ⟨#[100]⟩] 9)) 1 (.slice (some ⟨wr.heap.size, 0, none⟩) 1 1) 1 [.string ⟨#[100]⟩]) := hid (RowAt.of_block (n := 1) (heap_alloc_new _ _) rfl (by unfold maxLen; omega))
      have hbA := hid ((hA.block w1.heap.size hlt).trans hb)
      have hneq := hid (show some w1.heap.size ≠ v.ownBlock from fun e => by have := (hown.lt _ e.symm).1; omega)
      have hvl := hid hown.lt
      have hblA := hid (hbl.trans (hA.mono hbl.size))
      replace hb := hid hb
      replace hown := hid hown
      replace hA := hid hA
      go_wp2_with (at_builtin; refine wpList_append_row elemS _ rfl (.tmp 20) (.tmp 21) rfl (w1.heap.size + 1) v k _ rfl hownA.out _ 1 [.string ⟨#[100]⟩] rfl hsrc.out (by intro u hu; simp at hu; subst hu; rfl) (by unfold maxLen; omega) (by omega) (by simp; omega) ?_)
      intro a' c' w' h2 h3
      have hb' := (h3.block w1.heap.size (by simp; omega) hneq.out).trans hbA.out
      have e11' : w'.cell? ⟨w1.heap.size, 11, none⟩ = some v := block_cell hb' 11
      have f11' : w'.frozen? ⟨w1.heap.size, 11, none⟩ = false := block_free hb' 11
      have hset := hid (block_set hb' 11 (.slice a' (k + 1) c'))
      have hcell : Hid (((nM k).cells v (.slice none 0 0) (.slice none 0 0)).setIfInBounds 11 (.slice a' (k + 1) c') = (nM (k + 1)).cells (.slice a' (k + 1) c') (.slice none 0 0) (.slice none 0 0)) := hid rfl
      have hown2 := hid (ownsRow_setCell_below h2 (a := ⟨w1.heap.size, 11, none⟩) (by show w1.heap.size < w1.heap.size + 1; omega) (.slice a' (k + 1) c'))
      have hbl2 : Hid (Below w.heap.size w (w'.setCell ⟨w1.heap.size, 11, none⟩ (.slice a' (k + 1) c'))) := hid ((hblA.out.grown h3 (by have := hbl.size; simp; omega) (fun j hj => by have := (hvl.out j hj).1; have := hb1.size; omega)).setCell (by show w.heap.size ≤ w1.heap.size; exact hb1.size) _)
      have hsz2 : w1.heap.size + 1 ≤ (w'.setCell ⟨w1.heap.size, 11, none⟩ (.slice a' (k + 1) c')).heap.size := by have := h3.size; simp at this ⊢; omega
      replace hb' := hid hb'
      clear h2 h3
      go_wp2_with fail
      go_roundw
      case rel => exact ⟨k + 1, .slice a' (k + 1) c', by omega, by go_num, by rw [hset.out, hcell.out], by rw [List.replicate_succ']; exact hown2.out, hbl2.out, hsz2⟩
      case measure => simp [intOf]; omega
    · obtain rfl : k = q := by omega
      obtain ⟨av, cv, rfl⟩ := own_form hown
      have hrow := RowAt.of_own hown
      obtain ⟨_, a9, c9, hv9, hn9, hm9, _⟩ := hrow
      cases hv9
      have hN : StrsAt wr (.slice av k cv) (nM k).names := by
        have := RowAt.of_own hown
        show RowAt wr 1 (.slice av k cv) (List.replicate k _).length ((List.replicate k _).map _)
        rw [List.length_replicate, List.map_replicate]
        exact this
      unfold maxLen at hm9
      have hhb := hid hb
      have e11 : wr.cell? ⟨w1.heap.size, 11, none⟩ = some (.slice av k cv) := block_cell hb 11
      have hlt := lt_of_block hb
      have henc := hid (mencode_any (nM k) (.slice av k cv) (.slice none 0 0) (.slice none 0 0) wr (nM_ok k) (nM_few k) hN RowAt.nil RowAt.nil)
      replace hb := hid hb
      replace hown := hid hown
      go_wp2_with (refine wpl_row (.tmp 3) (by rfl) w1.heap.size (by rfl) _ hhb.out (by rfl) (by rfl) ?_)
      refine henc.out.mono ?_
      rintro en w3 ⟨v3, rfl, ⟨hv3, hn3⟩, hb3⟩
      rw [nM_err]
      have e113 : w3.cell? ⟨w1.heap.size, 11, none⟩ = some (.slice av k cv) := (hb3.cell (p := ⟨w1.heap.size, 11, none⟩) hlt).trans e11
      have hB3 := hid (sn hbl hb3)
      have hlt3 : w1.heap.size < w3.heap.size := Nat.lt_of_lt_of_le hlt hb3.size
      obtain ⟨a3, c3, rfl, _, _, _⟩ := hv3.form
      by_cases h16 : 16 < k
      · have hby : (nM k).bytes = [] := by unfold M.bytes; rw [nM_err, if_pos h16]; rfl
        rw [if_pos h16, hby]
        clear hv3 hn3 hb3 henc hN
        go_wp2_with fail
        go_ret
        exact ⟨rfl, hB3.out⟩
      · have he : (nM k).err = 0 := by rw [nM_err, if_neg h16]
        obtain ⟨his, hde⟩ := back_is (nM_ok k) (nM_few k) he
        have hlen := nM_len (k := k) (by omega)
        have hdec := hid (mdecode_any _ _ w3 hv3 (by rw [hlen]; omega))
        rw [if_neg h16]
        rw [hlen] at hdec ⊢
        clear hv3 hn3 hb3 henc hN
        go_wp2_with fail
        refine hdec.out.mono ?_
        rintro en w4 ⟨hb4, v4, rfl, hM4⟩
        rw [if_pos his] at hM4 ⊢
        rw [hde] at hM4
        obtain ⟨vN, vQ, vD, rfl, ⟨hN4, _⟩, ⟨hQ4, _⟩, ⟨hD4, _⟩⟩ := hM4
        obtain ⟨aN, cN, rfl, hcN, hcN'⟩ := hN4.form
        obtain ⟨aQ, cQ, rfl, _, _⟩ := hQ4.form
        obtain ⟨aD, cD, rfl, _, _, _⟩ := hD4.form
        have e114 : w4.cell? ⟨w1.heap.size, 11, none⟩ = some (.slice av k cv) := (hb4.cell (p := ⟨w1.heap.size, 11, none⟩) hlt3).trans e113
        have hlt4 : w1.heap.size < w4.heap.size := Nat.lt_of_lt_of_le hlt3 hb4.size
        have hB4 := hid (sn hB3.out hb4)
        have hnl : (nM k).named.names.length = k := by show (List.replicate k _).length = k; simp
        obtain ⟨X, hX⟩ : ∃ X, X = (nM k).named.cells (.slice aN (nM k).named.names.length cN) (.slice aQ (nM k).named.qids.length cQ) (.slice aD (nM k).named.data.length cD) := ⟨_, rfl⟩
        have hXs : Hid (X.size = 36) := hid (by rw [hX]; rfl)
        have hXo : Hid (X.all (·.oneCell') = true) := hid (by rw [hX]; kernel_rfl)
        have hX11 : X[11]? = some (.slice aN k cN) := by rw [hX, hnl]; rfl
        rw [← hX]
        have hnew4 := hid (heap_alloc_new w4 (.cells (zeroM.cells (.slice none 0 0) (.slice none 0 0) (.slice none 0 0)) 66))
        obtain ⟨W5, hW5⟩ : ∃ W, W = (w4.alloc (.cells (zeroM.cells (.slice none 0 0) (.slice none 0 0) (.slice none 0 0)) 66)).setRow w4.heap.size X := ⟨_, rfl⟩
        have hb5 : Below w4.heap.size w4 W5 := by rw [hW5]; exact below_setRow ((Below.refl _ _).alloc (Nat.le_refl _) _) (Nat.le_refl _) _
        have hx5 : W5.heap[w4.heap.size]? = some (.cells X 66 (0, 0)) := by rw [hW5]; exact setRow_heap _ _ _ _ _ _ hnew4.out
        have e115 : W5.cell? ⟨w1.heap.size, 11, none⟩ = some (.slice av k cv) := (hb5.cell (p := ⟨w1.heap.size, 11, none⟩) hlt4).trans e114
        have x11 : W5.cell? ⟨w4.heap.size, 11, none⟩ = some (.slice aN k cN) := (block_cell hx5 11).trans hX11
        have hB5 := hid (sn hB4.out hb5)
        rw [nil_cells] at hnew4 hW5
        replace hb5 := hid hb5
        replace hx5 := hid hx5
        replace hX := hid hX
        clear hX11 hN4 hQ4 hD4 hb4 hdec
        have c9 : (3 * (k : Int) + 9223372036854775808) % 18446744073709551616 - 9223372036854775808 = 3 * (k : Int) := by omega
        go_wp2_with (first
          | (refine wpList_store_row (by rfl) 66 (.tmp 7) (.tmp 43) (by rfl) w4.heap.size X (by rfl) (by rfl) 66 _ hnew4.out (by rw [hXs.out]; kernel_rfl) (by rw [hXs.out]; rfl) hXo.out ?_)
          | (rw [← hW5]; replace hW5 := hid hW5))
        go_ret
        exact ⟨rfl, hB5.out⟩

theorem law_MsgNamesI (x : Int) (w : World) (hx : 0 ≤ x ∧ x < 256) : Calls Try.prog 8 #[.int .u8 x] w fun e w' => e = .returned (.bool true) ∧ Below w.heap.size w w' := by
  obtain ⟨n, rfl⟩ := Int.eq_ofNat_of_zero_le hx.1
  exact law_MsgNames n w (by omega)
end Go.Proofs.Ytonhliipbdniiaa
