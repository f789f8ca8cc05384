/- Is a node a directory; which modes may be; a node as the reference's. Conditions: numbers in their types. -/
import Derived.Test.YtpmlhmficmillaaGreatBunN2
import Derived.Test.YtpmlhmficmillaaGreatBunA
import Derived.Test.YtpmlhmficmillaaGreatBunD
import Derived.Test.YtpmlhmficmillaaGreatBunOW
import Derived.Laws.BitsAllLaws
import Derived.Laws.CopyOwn
namespace Go.Proofs.YtpmlhmficmillaaGreat
open Go.RowKit
set_option maxRecDepth 100000
set_option linter.unusedVariables false

theorem nodS {n : Nod} {X : World} {k : Nat} {T : TypeId} {fr : Nat × Nat} (h : X.heap[k]? = some (.cells n.cells T fr)) : X.cell? ⟨k, 0, none⟩ = some (.int .u64 (n.path : Int)) ∧ X.cell? ⟨k, 1, none⟩ = some (.int .u32 (n.vers : Int)) ∧ X.cell? ⟨k, 2, none⟩ = some (.int .u32 (n.mode : Int)) ∧ X.cell? ⟨k, 3, none⟩ = some (.int .u32 (n.atm : Int)) ∧ X.cell? ⟨k, 4, none⟩ = some (.int .u32 (n.mtm : Int)) ∧ X.cell? ⟨k, 5, none⟩ = some (.string n.name) ∧ X.cell? ⟨k, 6, none⟩ = some (.string n.uid) ∧ X.cell? ⟨k, 7, none⟩ = some (.string n.gid) ∧ X.cell? ⟨k, 8, none⟩ = some (.string n.muid) ∧ X.cell? ⟨k, 9, none⟩ = some (.int .u64 (n.up : Int)) ∧ X.cell? ⟨k, 10, none⟩ = some (.bool n.gone) ∧ X.cell? ⟨k, 11, none⟩ = some (.string n.data) :=
  ⟨block_cell h 0, block_cell h 1, block_cell h 2, block_cell h 3, block_cell h 4, block_cell h 5, block_cell h 6, block_cell h 7, block_cell h 8, block_cell h 9, block_cell h 10, block_cell h 11⟩
def dirB (n : Nod) : Bool := !decide (n.mode &&& 2147483648 = 0)
theorem dir_mode (m : Nat) (h : m < 4294967296) : (bits .and .u32 (m : Int) 2147483648 != 0) = !decide (m &&& 2147483648 = 0) := by
  rw [show (2147483648 : Int) = ((2147483648 : Nat) : Int) from rfl, u32_and_nat _ _ h (by omega)]
  by_cases h0 : m &&& 2147483648 = 0
  · simp [h0]
  · simp [h0]
theorem rdir_any (n : Nod) (w : World) (hn : NodOk n) :
    Calls Tryz.prog 24 #[.agg n.cells] w fun e w' => e = .returned (.bool (dirB n)) ∧ Below w.heap.size w w' := by
  have hb := (Below.refl w.heap.size w).alloc (Nat.le_refl _) (.cells n.cells 38)
  have hdm := dir_mode n.mode hn.mode
  have hm := hn.mode
  have hE : Hid (dirB n = !decide (n.mode &&& 2147483648 = 0)) := hid rfl
  rw [nod_cells] at hb ⊢
  replace hb := hid hb
  replace hn := hid hn
  replace hdm := hid hdm
  go_enter Tryz.func24, Tryz.ntmps24
  go_wp2_with fail
  go_ret
  exact ⟨ret_bool (by rw [hE.out, ← hdm.out]), hb.out⟩

def bitsB (m : Nat) : Bool := decide (m &&& 536870400 = 0) && (decide (m &&& 2147483648 = 0) || decide (m &&& 1610612736 = 0))
theorem dec_int (a b : Nat) : ((a : Int) == (b : Int)) = decide (a = b) := by
  by_cases h : a = b
  · simp [h]
  · simp only [h, decide_false]
    simp; omega
theorem bits_p1 (m : Nat) (h : m < 4294967296) : (bits .andNot .u32 (m : Int) 3758096895 == 0) = decide (m &&& 536870400 = 0) := by
  rw [show (3758096895 : Int) = ((3758096895 : Nat) : Int) from rfl, u32_andNot_nat _ _ h (by omega)]
  exact dec_int _ 0
theorem bits_p2 (m : Nat) (h : m < 4294967296) : (bits .and .u32 (m : Int) 2147483648 == 0) = decide (m &&& 2147483648 = 0) := by
  rw [show (2147483648 : Int) = ((2147483648 : Nat) : Int) from rfl, u32_and_nat _ _ h (by omega)]
  exact dec_int _ 0
theorem bits_p3 (m : Nat) (h : m < 4294967296) : (bits .and .u32 (m : Int) 1610612736 == 0) = decide (m &&& 1610612736 = 0) := by
  rw [show (1610612736 : Int) = ((1610612736 : Nat) : Int) from rfl, u32_and_nat _ _ h (by omega)]
  exact dec_int _ 0
theorem bits_r1 (m : Nat) (h : m < 4294967296) : bits .andNot .u32 (m : Int) 511 = ((m &&& 4294966784 : Nat) : Int) := by
  rw [show (511 : Int) = ((511 : Nat) : Int) from rfl, u32_andNot_nat _ _ h (by omega)]
theorem bits_r2 (m : Nat) : (((m &&& 4294966784 : Nat) : Int) == 2147483648) = decide (m &&& 4294966784 = 2147483648) := dec_int _ 2147483648
theorem bits_r3 (m : Nat) (h : m < 4294967296) : (bits .andNot .u32 ((m &&& 4294966784 : Nat) : Int) 1610612736 == 0) = decide (m &&& 2684354048 = 0) := by
  rw [show (1610612736 : Int) = ((1610612736 : Nat) : Int) from rfl, u32_andNot_nat _ _ (Nat.lt_of_le_of_lt Nat.and_le_left h) (by omega), Nat.and_assoc]
  exact dec_int _ 0
theorem bit31 (m : Nat) : m &&& 2147483648 = 0 ∨ m &&& 2147483648 = 2147483648 := by
  rw [nat_bit31]
  have : m / 2147483648 % 2 = 0 ∨ m / 2147483648 % 2 = 1 := by omega
  rcases this with h | h <;> rw [h] <;> decide
theorem bits_eq (m : Nat) : (decide (m &&& 4294966784 = 2147483648) || decide (m &&& 2684354048 = 0)) = bitsB m := by
  unfold bitsB
  have e1 : m &&& 4294966784 = (m &&& 536870400) ||| (m &&& 2147483648) ||| (m &&& 1610612736) := by
    rw [← Nat.and_or_distrib_left, ← Nat.and_or_distrib_left]
    exact congrArg (m &&& ·) (by decide)
  have e2 : m &&& 2684354048 = (m &&& 536870400) ||| (m &&& 2147483648) := by
    rw [← Nat.and_or_distrib_left]
    exact congrArg (m &&& ·) (by decide)
  rw [Bool.eq_iff_iff]
  simp only [Bool.or_eq_true, Bool.and_eq_true, decide_eq_true_eq]
  constructor
  · rintro (h | h)
    · have h1 : (m &&& 4294966784) &&& 536870400 = 2147483648 &&& 536870400 := by rw [h]
      have h2 : (m &&& 4294966784) &&& 1610612736 = 2147483648 &&& 1610612736 := by rw [h]
      rw [Nat.and_assoc] at h1 h2
      exact ⟨h1, .inr h2⟩
    · rw [e2, Nat.or_eq_zero_iff] at h
      exact ⟨h.1, .inl h.2⟩
  · rintro ⟨h1, h | h⟩
    · right; rw [e2, h1, h]; rfl
    · rcases bit31 m with hb | hb
      · right; rw [e2, h1, hb]; rfl
      · left; rw [e1, h1, h, hb]; rfl

theorem nbits_any (m : Nat) (w : World) (hm : m < 4294967296) :
    Calls Tryz.prog 76 #[.int .u32 (m : Int)] w fun e w' => e = .returned (.bool (bitsB m)) ∧ w' = w := by
  have p1 := bits_p1 m hm
  have p2 := bits_p2 m hm
  have p3 := bits_p3 m hm
  have hE : Hid (bitsB m = (decide (m &&& 536870400 = 0) && (decide (m &&& 2147483648 = 0) || decide (m &&& 1610612736 = 0)))) := hid rfl
  generalize decide (m &&& 536870400 = 0) = b1 at *
  generalize decide (m &&& 2147483648 = 0) = b2 at *
  generalize decide (m &&& 1610612736 = 0) = b3 at *
  cases b1 <;> cases b2 <;> cases b3
  all_goals
    go_enter Tryz.func76, Tryz.ntmps76
    go_wp2_with fail
    go_ret
    exact ⟨ret_bool (by rw [hE.out]; rfl), rfl⟩

theorem rbits_any (m : Nat) (w : World) (hm : m < 4294967296) :
    Calls Tryz.prog 66 #[.int .u32 (m : Int)] w fun e w' => e = .returned (.bool (bitsB m)) ∧ w' = w := by
  have p1 := bits_r1 m hm
  have p2 := bits_r2 m
  have p3 := bits_r3 m hm
  have hE : Hid (bitsB m = (decide (m &&& 4294966784 = 2147483648) || decide (m &&& 2684354048 = 0))) := hid (bits_eq m).symm
  generalize decide (m &&& 4294966784 = 2147483648) = b1 at *
  generalize decide (m &&& 2684354048 = 0) = b2 at *
  cases b1 <;> cases b2
  all_goals
    go_enter Tryz.func66, Tryz.ntmps66
    go_wp2_with fail
    go_ret
    exact ⟨ret_bool (by rw [hE.out]; rfl), rfl⟩
def zeroNode : Array Value := #[.int .u64 0, .int .u32 0, .int .u32 0, .int .u32 0, .int .u32 0, .string ⟨#[]⟩, .string ⟨#[]⟩, .string ⟨#[]⟩, .string ⟨#[]⟩, .int .u64 0, .bool false, .string ⟨#[]⟩]
set_option maxHeartbeats 1600000 in
theorem ofnode_any (n : Nod) (w : World) : Calls Tryz.prog 14 #[.agg n.cells] w fun e w' => e = .returned (.agg n.cells) ∧ Below w.heap.size w w' := by
  obtain ⟨W, hW⟩ : ∃ W, W = (w.alloc (.cells n.cells 28)).alloc (.cells zeroNode 38) := ⟨_, rfl⟩
  have hx : W.heap[w.heap.size]? = some (.cells n.cells 28 (0, 0)) := by rw [hW, heap_alloc_old _ _ (by simp), heap_alloc_new]
  have hy : W.heap[w.heap.size + 1]? = some (.cells zeroNode 38 (0, 0)) := by rw [hW]; exact heap2 _ _ _
  have hb0 : Below w.heap.size w W := by rw [hW]; exact ((Below.refl w.heap.size w).alloc (Nat.le_refl _) _).alloc (by simp) _
  have hbS : Hid (Below w.heap.size w (W.setRow (w.heap.size + 1) n.cells)) := hid (below_setRow hb0 (by omega) _)
  have hrow : Hid ((W.setRow (w.heap.size + 1) n.cells).heap[w.heap.size + 1]? = some (.cells n.cells 38 (0, 0))) := hid (setRow_heap _ _ _ _ _ _ hy)
  obtain ⟨d0, d1, d2, d3, d4, d5, d6, d7, d8, d9, d10, d11⟩ := nodS hx
  replace hy := hid hy
  replace hx := hid hx
  replace hb0 := hid hb0
  rw [nod_cells] at hW hbS hrow ⊢
  simp only [zeroNode] at hW
  go_enter Tryz.func14, Tryz.ntmps14
  go_wp2_with (first | (rw [← hW]; replace hW := hid hW) | (refine wpList_store_row (by rfl) 38 (.tmp 2) (.tmp 27) (by rfl) (w.heap.size + 1) n.cells (by rfl) (by rfl) 38 _ hy.out (by rfl) (by rfl) (nod_one n) ?_))
  refine bodyPost_ret (results_cell_row rfl _ _ (w.heap.size + 1) _ _ _ _ rfl hrow.out Tryz.underlying38 rfl (by kernel_rfl)) rfl ?_
  exact ⟨rfl, hbS.out⟩

end Go.Proofs.YtpmlhmficmillaaGreat
