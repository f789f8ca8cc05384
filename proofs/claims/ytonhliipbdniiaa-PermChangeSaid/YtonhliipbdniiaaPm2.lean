/- How one may open a file, in the program and in the reference. Conditions: numbers in their types. -/
import Derived.Test.YtonhliipbdniiaaPm1
import Derived.Deep.RegionHeld3
namespace Go.Proofs.Ytonhliipbdniiaa
open Go.RowKit
set_option maxRecDepth 100000
set_option linter.unusedVariables false

/-- What a mode wants. -/
def needN (mode : Nat) : Nat := if mode &&& 16 = 0 then [4, 2, 6, 1].getD (mode % 4) 0 else [4, 2, 6, 1].getD (mode % 4) 0 ||| 2
theorem needN_lt (mode : Nat) : needN mode < 8 := by
  unfold needN
  have h : mode % 4 = 0 ∨ mode % 4 = 1 ∨ mode % 4 = 2 ∨ mode % 4 = 3 := by omega
  split <;> rcases h with h | h | h | h <;> rw [h] <;> decide
theorem and3 (mode : Nat) (h : mode < 256) : bits .and .u8 (mode : Int) 3 = ((mode % 4 : Nat) : Int) := by
  rw [show (3 : Int) = ((3 : Nat) : Int) from rfl, u8_and_nat _ _ h (by omega), show mode &&& 3 = mode % 4 from Nat.and_two_pow_sub_one_eq_mod mode 2]
theorem and16 (mode : Nat) (h : mode < 256) : bits .and .u8 (mode : Int) 16 = ((mode &&& 16 : Nat) : Int) := by
  rw [show (16 : Int) = ((16 : Nat) : Int) from rfl, u8_and_nat _ _ h (by omega)]

set_option maxHeartbeats 1600000 in
theorem needs_any (mode : Nat) (w : World) (hm : mode < 256) :
    Calls Try.prog 42 #[.int .u8 (mode : Int)] w fun e w' => e = .returned (.int .u32 (needN mode : Int)) ∧ Below w.heap.size w w' := by
  have h3 := and3 mode hm
  have h16 := and16 mode hm
  have hcs : mode % 4 = 0 ∨ mode % 4 = 1 ∨ mode % 4 = 2 ∨ mode % 4 = 3 := by omega
  have hb : Hid (Below w.heap.size w (w.alloc (.cells #[.int .u32 4, .int .u32 2, .int .u32 6, .int .u32 1] 25))) := hid ((Below.refl _ _).alloc (Nat.le_refl _) _)
  by_cases h0 : mode &&& 16 = 0
  · rw [h0] at h16
    have hN : Hid (needN mode = [4, 2, 6, 1].getD (mode % 4) 0) := hid (by unfold needN; rw [if_pos h0])
    clear h0
    rcases hcs with h | h | h | h <;>
    · rw [h] at h3 hN
      clear h
      go_enter Try.func42, Try.ntmps42
      go_wp2_with fail
      go_ret
      exact ⟨by rw [hN.out]; rfl, hb.out⟩
  · have hN : Hid (needN mode = [4, 2, 6, 1].getD (mode % 4) 0 ||| 2) := hid (by unfold needN; rw [if_neg h0])
    have hz : (((mode &&& 16 : Nat) : Int) != 0) = true := by simpa using h0
    rw [← h16] at hz
    clear h0 h16
    rcases hcs with h | h | h | h <;>
    · rw [h] at h3 hN
      clear h
      go_enter Try.func42, Try.ntmps42
      go_wp2_with fail
      go_ret
      exact ⟨by rw [hN.out]; rfl, hb.out⟩

set_option maxHeartbeats 1600000 in
theorem rneed_any (mode : Nat) (w : World) (hm : mode < 256) :
    Calls Try.prog 44 #[.int .u8 (mode : Int)] w fun e w' => e = .returned (.int .u32 (needN mode : Int)) ∧ Below w.heap.size w w' := by
  have h3 := and3 mode hm
  have h16 := and16 mode hm
  have hcs : mode % 4 = 0 ∨ mode % 4 = 1 ∨ mode % 4 = 2 ∨ mode % 4 = 3 := by omega
  have hb : Hid (Below w.heap.size w (w.alloc (.cells #[.int .u32 4, .int .u32 2, .int .u32 6, .int .u32 1] 25))) := hid ((Below.refl _ _).alloc (Nat.le_refl _) _)
  by_cases h0 : mode &&& 16 = 0
  · rw [h0] at h16
    have hN : Hid (needN mode = [4, 2, 6, 1].getD (mode % 4) 0) := hid (by unfold needN; rw [if_pos h0])
    clear h0
    rcases hcs with h | h | h | h <;>
    · rw [h] at h3 hN
      clear h
      go_enter Try.func44, Try.ntmps44
      go_wp2_with fail
      go_ret
      exact ⟨by rw [hN.out]; rfl, hb.out⟩
  · have hN : Hid (needN mode = [4, 2, 6, 1].getD (mode % 4) 0 ||| 2) := hid (by unfold needN; rw [if_neg h0])
    have hz : (((mode &&& 16 : Nat) : Int) != 0) = true := by simpa using h0
    rw [← h16] at hz
    clear h0 h16
    rcases hcs with h | h | h | h <;>
    · rw [h] at h3 hN
      clear h
      go_enter Try.func44, Try.ntmps44
      go_wp2_with fail
      go_ret
      exact ⟨by rw [hN.out]; rfl, hb.out⟩

/-- Is a node a directory? -/
def dirB (n : Nod) : Bool := !decide (n.mode &&& 2147483648 = 0)
/-- How may one open it? -/
def openN (us : List ByteArray) (gs : List Grp) (who : ByteArray) (n : Nod) (mode : Nat) : Nat :=
  if mode &&& 172 = 0 then (if dirB n && !decide (mode &&& 19 = 0) then 12 else if mayS (inB us gs who n.gid) (decide (who = n.uid)) n.mode (needN mode) then 0 else 5) else 1
theorem bad_mode (mode : Nat) (h : mode < 256) : (bits .andNot .u8 (mode : Int) 83 != 0) = !decide (mode &&& 172 = 0) := by
  rw [show (83 : Int) = ((83 : Nat) : Int) from rfl, u8_andNot_nat _ _ h (by omega)]
  show (((mode &&& 172 : Nat) : Int) != 0) = _
  by_cases h0 : mode &&& 172 = 0
  · simp [h0]
  · simp [h0]
theorem dir_mode (m : Nat) (h : m < 4294967296) : (bits .and .u32 (m : Int) 2147483648 != 0) = !decide (m &&& 2147483648 = 0) := by
  rw [show (2147483648 : Int) = ((2147483648 : Nat) : Int) from rfl, u32_and_nat _ _ h (by omega)]
  by_cases h0 : m &&& 2147483648 = 0
  · simp [h0]
  · simp [h0]
theorem and19 (mode : Nat) (h : mode < 256) : (bits .and .u8 (mode : Int) 19 != 0) = !decide (mode &&& 19 = 0) := by
  rw [show (19 : Int) = ((19 : Nat) : Int) from rfl, u8_and_nat _ _ h (by omega)]
  by_cases h0 : mode &&& 19 = 0
  · simp [h0]
  · simp [h0]
theorem TabAt.uses {w w' : World} {p : Nat} {us : List ByteArray} {gs : List Grp} (h : TabAt w p us gs) (hb : Below w.heap.size w w') : TabAt w' p us gs := h.below hb

set_option maxHeartbeats 3200000 in
theorem popen_any (p : Nat) (us : List ByteArray) (gs : List Grp) (who : ByteArray) (n : Nod) (mode : Nat) (w : World) (h : TabAt w p us gs) (hl : UB us gs) (hn : NodOk n) (hm : mode < 256) :
    Calls Try.prog 18 #[.pointer (some ⟨p, 0, none⟩), .string who, .agg n.cells, .int .u8 (mode : Int)] w fun e w' => e = .returned (.int .i64 (openN us gs who n mode : Int)) ∧ Below w.heap.size w w' := by
  obtain ⟨W, hW⟩ : ∃ W, W = w.alloc (.cells n.cells 27) := ⟨_, rfl⟩
  have hb0 : Below w.heap.size w W := by rw [hW]; exact (Below.refl w.heap.size w).alloc (Nat.le_refl _) _
  have hx : W.heap[w.heap.size]? = some (.cells n.cells 27 (0, 0)) := by rw [hW, heap_alloc_new]
  have hbm := bad_mode mode hm
  have hdm := dir_mode n.mode hn.mode
  have h19 := and19 mode hm
  have hmay := hid (fun W hT => pmay_any p us gs who n (needN mode) W hT hl hn (by have := needN_lt mode; omega))
  have hnd := hid (fun W => needs_any mode W hm)
  have hT := hid (h.below hb0)
  rw [nod_cells] at hx hW hmay ⊢
  have c2 : W.cell? ⟨w.heap.size, 2, none⟩ = some (.int .u32 (n.mode : Int)) := block_cell hx 2
  have hx2 := hid hx
  replace hx := hid hx
  replace hb0 := hid hb0
  clear h
  by_cases q1 : mode &&& 172 = 0
  case neg =>
    have hN : Hid (openN us gs who n mode = 1) := hid (by unfold openN; rw [if_neg q1])
    simp only [q1, decide_false, Bool.not_false] at hbm
    clear q1 hdm h19
    go_enter Try.func18, Try.ntmps18
    go_wp2_with (rw [← hW]; replace hW := hid hW)
    go_ret
    exact ⟨by rw [hN.out]; rfl, hb0.out⟩
  by_cases q2 : (dirB n && !decide (mode &&& 19 = 0)) = true
  · have hN : Hid (openN us gs who n mode = 12) := hid (by unfold openN; rw [if_pos q1, if_pos q2])
    simp only [q1, decide_true, Bool.not_true] at hbm
    unfold dirB at q2
    rw [Bool.and_eq_true] at q2
    rw [q2.1] at hdm
    rw [q2.2] at h19
    clear q1 q2
    go_enter Try.func18, Try.ntmps18
    go_wp2_with (rw [← hW]; replace hW := hid hW)
    go_ret
    exact ⟨by rw [hN.out]; rfl, hb0.out⟩
  have hN : Hid (openN us gs who n mode = if mayS (inB us gs who n.gid) (decide (who = n.uid)) n.mode (needN mode) then 0 else 5) := hid (by unfold openN; rw [if_pos q1, if_neg q2])
  simp only [q1, decide_true, Bool.not_true] at hbm
  have hcs : dirB n = false ∨ (dirB n = true ∧ (!decide (mode &&& 19 = 0)) = false) := by
    cases hd : dirB n
    · exact .inl rfl
    · rw [hd, Bool.true_and, Bool.not_eq_true] at q2
      exact .inr ⟨rfl, q2⟩
  clear q1 q2
  unfold dirB at hcs
  generalize mayS (inB us gs who n.gid) (decide (who = n.uid)) n.mode (needN mode) = mb at *
  rcases hcs with hd | ⟨hd, hd2⟩ <;> (rw [hd] at hdm; try rw [hd2] at h19)
  all_goals
    go_enter Try.func18, Try.ntmps18
    go_wp2_with (rw [← hW]; replace hW := hid hW)
    have hT2 : Hid (TabAt W.drew p us gs) := hid (hT.out.below ((Below.refl _ _).drew))
    have hx3 : Hid (W.drew.heap[w.heap.size]? = _) := hid hx.out
    have hB : Hid (Below w.heap.size w W.drew) := hid (hb0.out.drew)
    clear c2
    go_region_held3 (fun w' => w'.cell? ⟨w.heap.size, 0, none⟩ = some (.int .u64 (n.path : Int)) ∧ w'.cell? ⟨w.heap.size, 1, none⟩ = some (.int .u32 (n.vers : Int)) ∧ w'.cell? ⟨w.heap.size, 2, none⟩ = some (.int .u32 (n.mode : Int)) ∧ w'.cell? ⟨w.heap.size, 3, none⟩ = some (.int .u32 (n.atm : Int)) ∧ w'.cell? ⟨w.heap.size, 4, none⟩ = some (.int .u32 (n.mtm : Int)) ∧ w'.cell? ⟨w.heap.size, 5, none⟩ = some (.string n.name) ∧ w'.cell? ⟨w.heap.size, 6, none⟩ = some (.string n.uid) ∧ w'.cell? ⟨w.heap.size, 7, none⟩ = some (.string n.gid) ∧ w'.cell? ⟨w.heap.size, 8, none⟩ = some (.string n.muid) ∧ w'.cell? ⟨w.heap.size, 9, none⟩ = some (.int .u64 (n.up : Int)) ∧ w'.cell? ⟨w.heap.size, 10, none⟩ = some (.bool n.gone) ∧ w'.cell? ⟨w.heap.size, 11, none⟩ = some (.string n.data))
      (first | exact ⟨block_cell hx3.out 0, block_cell hx3.out 1, block_cell hx3.out 2, block_cell hx3.out 3, block_cell hx3.out 4, block_cell hx3.out 5, block_cell hx3.out 6, block_cell hx3.out 7, block_cell hx3.out 8, block_cell hx3.out 9, block_cell hx3.out 10, block_cell hx3.out 11⟩ | go_keep)
      (first | ((go_at_call 42; (with_reducible refine (hnd.out _).mono ?_); rintro e w1 ⟨rfl, hb1⟩; replace hT2 := hid (hT2.out.below hb1); replace hx3 := hid ((hb1.block _ (lt_of_block hx3.out)).trans hx3.out); replace hB := hid (sn hB.out hb1))) | ((go_at_call 16; (with_reducible refine (hmay.out _ hT2.out).mono ?_); rintro e w2 ⟨rfl, hb2⟩; replace hT2 := hid (hT2.out.below hb2); replace hx3 := hid ((hb2.block _ (lt_of_block hx3.out)).trans hx3.out); replace hB := hid (sn hB.out hb2))))
    cases mb with
    | true =>
      go_wp2_with fail
      go_ret
      exact ⟨by rw [hN.out]; rfl, hB.out⟩
    | false =>
      go_wp2_with fail
      go_ret
      exact ⟨by rw [hN.out]; rfl, hB.out⟩
end Go.Proofs.Ytonhliipbdniiaa
