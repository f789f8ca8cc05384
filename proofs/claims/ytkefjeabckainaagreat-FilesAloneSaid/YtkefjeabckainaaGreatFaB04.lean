/- Is a node a directory; which modes may be; a node as the reference's. Conditions: numbers in their types. And the texts behind it. -/
import Derived.Test.YtkefjeabckainaaGreatFaB01
import Derived.Test.YtkefjeabckainaaGreatFaB03
import Derived.Laws.BitsAllLaws
import Derived.Laws.CopyOwn
namespace Go.Proofs.YtkefjeabckainaaGreat
section
open Go.RowKit
set_option maxRecDepth 100000
set_option linter.unusedVariables false

theorem nodS {n : Nod} {X : World} {k : Nat} {T : TypeId} {fr : Nat × Nat} (h : X.heap[k]? = some (.cells n.cells T fr)) : X.cell? ⟨k, 0, none⟩ = some (.int .u64 (n.path : Int)) ∧ X.cell? ⟨k, 1, none⟩ = some (.int .u32 (n.vers : Int)) ∧ X.cell? ⟨k, 2, none⟩ = some (.int .u32 (n.mode : Int)) ∧ X.cell? ⟨k, 3, none⟩ = some (.int .u32 (n.atm : Int)) ∧ X.cell? ⟨k, 4, none⟩ = some (.int .u32 (n.mtm : Int)) ∧ X.cell? ⟨k, 5, none⟩ = some (.string n.name) ∧ X.cell? ⟨k, 6, none⟩ = some (.string n.uid) ∧ X.cell? ⟨k, 7, none⟩ = some (.string n.gid) ∧ X.cell? ⟨k, 8, none⟩ = some (.string n.muid) ∧ X.cell? ⟨k, 9, none⟩ = some (.int .u64 (n.up : Int)) ∧ X.cell? ⟨k, 10, none⟩ = some (.bool n.gone) ∧ X.cell? ⟨k, 11, none⟩ = some (.string n.data) :=
  ⟨block_cell h 0, block_cell h 1, block_cell h 2, block_cell h 3, block_cell h 4, block_cell h 5, block_cell h 6, block_cell h 7, block_cell h 8, block_cell h 9, block_cell h 10, block_cell h 11⟩
def dirB (n : Nod) : Bool := !decide (n.mode &&& 2147483648 = 0)
theorem dir_mode (m : Nat) (h : m < 4294967296) : (bits .and .u32 (m : Int) 2147483648 != 0) = !decide (m &&& 2147483648 = 0) := by
  rw [show (2147483648 : Int) = ((2147483648 : Nat) : Int) from rfl, u32_and_nat _ _ h (by omega)]
  by_cases h0 : m &&& 2147483648 = 0
  · simp [h0]
  · simp [h0]
def bitsB (m : Nat) : Bool := decide (m &&& 536870400 = 0) && (decide (m &&& 2147483648 = 0) || decide (m &&& 1610612736 = 0))
theorem dec_int (a b : Nat) : ((a : Int) == (b : Int)) = decide (a = b) := by
  by_cases h : a = b
  · simp [h]
  · simp only [h, decide_false]
    simp; omega
theorem bits_p1 (m : Nat) (h : m < 4294967296) : (bits .andNot .u32 (m : Int) 3758096895 == 0) = decide (m &&& 536870400 = 0) := by
  rw [show (3758096895 : Int) = ((3758096895 : Nat) : Int) from rfl, u32_andNot_nat _ _ h (by omega)]
  exact dec_int _ 0
theorem bits_p2 (m : Nat) (h : m < 4294967296) : (bits .and .u32 (m : Int) 2147483648 == 0) = decide (m &&& 2147483648 = 0) := by
  rw [show (2147483648 : Int) = ((2147483648 : Nat) : Int) from rfl, u32_and_nat _ _ h (by omega)]
  exact dec_int _ 0
theorem bits_p3 (m : Nat) (h : m < 4294967296) : (bits .and .u32 (m : Int) 1610612736 == 0) = decide (m &&& 1610612736 = 0) := by
  rw [show (1610612736 : Int) = ((1610612736 : Nat) : Int) from rfl, u32_and_nat _ _ h (by omega)]
  exact dec_int _ 0
theorem nbits_any (m : Nat) (w : World) (hm : m < 4294967296) :
    Calls Tryz.prog 40 #[.int .u32 (m : Int)] w fun e w' => e = .returned (.bool (bitsB m)) ∧ w' = w := by
  have p1 := bits_p1 m hm
  have p2 := bits_p2 m hm
  have p3 := bits_p3 m hm
  have hE : Hid (bitsB m = (decide (m &&& 536870400 = 0) && (decide (m &&& 2147483648 = 0) || decide (m &&& 1610612736 = 0)))) := hid rfl
  generalize decide (m &&& 536870400 = 0) = b1 at *
  generalize decide (m &&& 2147483648 = 0) = b2 at *
  generalize decide (m &&& 1610612736 = 0) = b3 at *
  cases b1 <;> cases b2 <;> cases b3
  all_goals
    go_enter Tryz.func40, Tryz.ntmps40
    go_wp2_with fail
    go_ret
    exact ⟨ret_bool (by rw [hE.out]; rfl), rfl⟩

def zeroNode : Array Value := #[.int .u64 0, .int .u32 0, .int .u32 0, .int .u32 0, .int .u32 0, .string ⟨#[]⟩, .string ⟨#[]⟩, .string ⟨#[]⟩, .string ⟨#[]⟩, .int .u64 0, .bool false, .string ⟨#[]⟩]
set_option maxHeartbeats 1600000 in
theorem ofnode_any (n : Nod) (w : World) : Calls Tryz.prog 87 #[.agg n.cells] w fun e w' => e = .returned (.agg n.cells) ∧ Below w.heap.size w w' := by
  obtain ⟨W, hW⟩ : ∃ W, W = (w.alloc (.cells n.cells 89)).alloc (.cells zeroNode 157) := ⟨_, rfl⟩
  have hx : W.heap[w.heap.size]? = some (.cells n.cells 89 (0, 0)) := by rw [hW, heap_alloc_old _ _ (by simp), heap_alloc_new]
  have hy : W.heap[w.heap.size + 1]? = some (.cells zeroNode 157 (0, 0)) := by rw [hW]; exact heap2 _ _ _
  have hb0 : Below w.heap.size w W := by rw [hW]; exact ((Below.refl w.heap.size w).alloc (Nat.le_refl _) _).alloc (by simp) _
  have hbS : Hid (Below w.heap.size w (W.setRow (w.heap.size + 1) n.cells)) := hid (below_setRow hb0 (by omega) _)
  have hrow : Hid ((W.setRow (w.heap.size + 1) n.cells).heap[w.heap.size + 1]? = some (.cells n.cells 157 (0, 0))) := hid (setRow_heap _ _ _ _ _ _ hy)
  obtain ⟨d0, d1, d2, d3, d4, d5, d6, d7, d8, d9, d10, d11⟩ := nodS hx
  replace hy := hid hy
  replace hx := hid hx
  replace hb0 := hid hb0
  rw [nod_cells] at hW hbS hrow ⊢
  simp only [zeroNode] at hW
  go_enter Tryz.func87, Tryz.ntmps87
  go_wp2_with (first | (rw [← hW]; replace hW := hid hW) | (refine wpList_store_row (by rfl) 157 (.tmp 2) (.tmp 27) (by rfl) (w.heap.size + 1) n.cells (by rfl) (by rfl) 157 _ hy.out (by rfl) (by rfl) (nod_one n) ?_))
  refine bodyPost_ret (results_cell_row rfl _ _ (w.heap.size + 1) _ _ _ _ rfl hrow.out Tryz.underlying157 rfl (by kernel_rfl)) rfl ?_
  exact ⟨rfl, hbS.out⟩

end
end Go.Proofs.YtkefjeabckainaaGreat

namespace Go.Proofs.YtkefjeabckainaaGreat
section
set_option maxRecDepth 100000
set_option linter.unusedVariables false

def kidB (d : Nat) (n : Nod) : Bool := !n.gone && decide (n.path ≠ 1) && decide (n.up = d)
def getL (l : List Nod) (p : Nat) : Option Nod := l.find? fun n => decide (n.path = p)
def findL (l : List Nod) (d : Nat) (s : ByteArray) : Option Nod := l.find? fun n => kidB d n && decide (n.name = s)
def setL (l : List Nod) (x : Nod) : List Nod := l.filter (fun n => decide (n.path < x.path)) ++ x :: l.filter (fun n => decide (x.path < n.path))
def dropL (l : List Nod) (p : Nat) : List Nod := l.filter fun n => decide (n.path ≠ p)
def bytesL (l : List Nod) : Nat := (l.map (·.data.size)).sum
def SortL (l : List Nod) : Prop := l.Pairwise fun a b => a.path < b.path
def kidsOf (l : List Nod) (d : Nat) : List Nod := l.filter (kidB d)
def wayL (l : List Nod) : Nat → Nat → Option (List ByteArray)
  | 0, _ => none
  | k + 1, p => if p = 1 then some [] else match getL l p with
    | none => none
    | some n => if n.gone then none else (wayL l k n.up).map (n.name :: ·)

theorem SortL.tail {a : Nod} {l : List Nod} (h : SortL (a :: l)) : SortL l := (List.pairwise_cons.1 h).2
theorem SortL.head {a : Nod} {l : List Nod} (h : SortL (a :: l)) : ∀ b ∈ l, a.path < b.path := (List.pairwise_cons.1 h).1
theorem SortL.filter {l : List Nod} (h : SortL l) (p : Nod → Bool) : SortL (l.filter p) := List.Pairwise.filter p h
theorem SortL.inj {l : List Nod} (h : SortL l) : ∀ {a b : Nod}, a ∈ l → b ∈ l → a.path = b.path → a = b := by
  induction l with
  | nil => intro a b ha; cases ha
  | cons c l ih =>
    intro a b ha hb he
    rcases List.mem_cons.1 ha with ha | ha <;> rcases List.mem_cons.1 hb with hb | hb
    · rw [ha, hb]
    · have := h.head b hb; rw [ha] at he; omega
    · have := h.head a ha; rw [hb] at he; omega
    · exact ih h.tail ha hb he
theorem getL_some {l : List Nod} {p : Nat} {n : Nod} (h : getL l p = some n) : n ∈ l ∧ n.path = p := by
  have h1 := List.find?_some h
  exact ⟨List.mem_of_find?_eq_some h, by simpa using h1⟩
theorem getL_none {l : List Nod} {p : Nat} : getL l p = none ↔ ∀ n ∈ l, n.path ≠ p := by
  unfold getL; rw [List.find?_eq_none]; simp
theorem getL_of {l : List Nod} (h : SortL l) {n : Nod} (hn : n ∈ l) : getL l n.path = some n := by
  cases hg : getL l n.path with
  | none => exact absurd rfl (getL_none.1 hg n hn)
  | some m =>
    obtain ⟨h1, h2⟩ := getL_some hg
    rw [h.inj h1 hn h2]
theorem getL_iff {l : List Nod} (h : SortL l) {p : Nat} {n : Nod} : getL l p = some n ↔ n ∈ l ∧ n.path = p :=
  ⟨getL_some, fun ⟨h1, h2⟩ => by rw [← h2]; exact getL_of h h1⟩
theorem findL_some {l : List Nod} {d : Nat} {s : ByteArray} {n : Nod} (h : findL l d s = some n) : n ∈ l ∧ kidB d n = true ∧ n.name = s := by
  have h1 := List.find?_some h
  simp only [Bool.and_eq_true, decide_eq_true_eq] at h1
  exact ⟨List.mem_of_find?_eq_some h, h1.1, h1.2⟩
theorem findL_none {l : List Nod} {d : Nat} {s : ByteArray} : findL l d s = none ↔ ∀ n ∈ l, kidB d n = true → n.name ≠ s := by
  unfold findL; rw [List.find?_eq_none]
  simp only [Bool.and_eq_true, decide_eq_true_eq, not_and]
theorem mem_setL {l : List Nod} {x n : Nod} : n ∈ setL l x ↔ n = x ∨ (n ∈ l ∧ n.path ≠ x.path) := by
  unfold setL
  simp only [List.mem_append, List.mem_filter, List.mem_cons, decide_eq_true_eq]
  constructor
  · rintro (⟨h1, h2⟩ | h | ⟨h1, h2⟩)
    · exact .inr ⟨h1, by omega⟩
    · exact .inl h
    · exact .inr ⟨h1, by omega⟩
  · rintro (h | ⟨h1, h2⟩)
    · exact .inr (.inl h)
    · rcases Nat.lt_or_gt_of_ne h2 with h | h
      · exact .inl ⟨h1, h⟩
      · exact .inr (.inr ⟨h1, h⟩)
theorem mem_dropL {l : List Nod} {p : Nat} {n : Nod} : n ∈ dropL l p ↔ n ∈ l ∧ n.path ≠ p := by
  unfold dropL; simp [List.mem_filter]
theorem SortL.set {l : List Nod} (h : SortL l) (x : Nod) : SortL (setL l x) := by
  refine List.pairwise_append.2 ⟨h.filter _, List.pairwise_cons.2 ⟨fun b hb => by simpa using (List.mem_filter.1 hb).2, h.filter _⟩, fun a ha b hb => ?_⟩
  have h1 : a.path < x.path := by simpa using (List.mem_filter.1 ha).2
  rcases List.mem_cons.1 hb with e | hb
  · rw [e]; exact h1
  · have h2 : x.path < b.path := by simpa using (List.mem_filter.1 hb).2
    omega
theorem SortL.drop {l : List Nod} (h : SortL l) (p : Nat) : SortL (dropL l p) := h.filter _
theorem getL_set {l : List Nod} (h : SortL l) (x : Nod) (p : Nat) : getL (setL l x) p = if p = x.path then some x else getL l p := by
  by_cases e : p = x.path
  · rw [if_pos e, e]
    exact getL_of (h.set x) (mem_setL.2 (.inl rfl))
  · rw [if_neg e]
    cases hg : getL l p with
    | none =>
      rw [getL_none] at hg ⊢
      intro n hn
      rcases mem_setL.1 hn with hh | ⟨hh, _⟩
      · rw [hh]; exact fun a => e a.symm
      · exact hg n hh
    | some n =>
      obtain ⟨h1, h2⟩ := getL_some hg
      exact (getL_iff (h.set x)).2 ⟨mem_setL.2 (.inr ⟨h1, by rw [h2]; exact e⟩), h2⟩
theorem sort_about {l : List Nod} (h : SortL l) (p : Nat) : l = l.filter (fun n => decide (n.path < p)) ++ l.filter (fun n => decide (n.path = p)) ++ l.filter (fun n => decide (p < n.path)) := by
  induction l with
  | nil => rfl
  | cons a l ih =>
    have h1 := h.head
    rcases Nat.lt_trichotomy a.path p with hh | hh | hh
    · rw [List.filter_cons_of_pos (by simpa using hh), List.filter_cons_of_neg (by simp; omega), List.filter_cons_of_neg (by simp; omega)]
      conv => lhs; rw [ih h.tail]
      simp
    · have e1 : l.filter (fun n => decide (n.path < p)) = [] := List.filter_eq_nil_iff.2 fun b hb => by have := h1 b hb; simp; omega
      have e2 : l.filter (fun n => decide (n.path = p)) = [] := List.filter_eq_nil_iff.2 fun b hb => by have := h1 b hb; simp; omega
      have e3 : l.filter (fun n => decide (p < n.path)) = l := List.filter_eq_self.2 fun b hb => by have := h1 b hb; simp; omega
      rw [List.filter_cons_of_neg (by simp; omega), List.filter_cons_of_pos (by simpa using hh), List.filter_cons_of_neg (by simp; omega), e1, e2, e3]
      rfl
    · have e1 : l.filter (fun n => decide (n.path < p)) = [] := List.filter_eq_nil_iff.2 fun b hb => by have := h1 b hb; simp; omega
      have e2 : l.filter (fun n => decide (n.path = p)) = [] := List.filter_eq_nil_iff.2 fun b hb => by have := h1 b hb; simp; omega
      have e3 : l.filter (fun n => decide (p < n.path)) = l := List.filter_eq_self.2 fun b hb => by have := h1 b hb; simp; omega
      rw [List.filter_cons_of_neg (by simp; omega), List.filter_cons_of_neg (by simp; omega), List.filter_cons_of_pos (by simpa using hh), e1, e2, e3]
      rfl
def belowN (l : List Nod) (p : Nat) : Nat := (l.filter fun n => decide (n.path < p)).length
theorem below_get {l : List Nod} (h : SortL l) (p i : Nat) (hi : i < l.length) : (l[i].path < p ↔ i < belowN l p) := by
  have e := sort_about h p
  unfold belowN
  generalize hA : l.filter (fun n => decide (n.path < p)) = A at *
  generalize hB : l.filter (fun n => decide (n.path = p)) = B at *
  generalize hC : l.filter (fun n => decide (p < n.path)) = C at *
  subst e
  constructor
  · intro hlt
    by_cases hh : i < A.length
    · exact hh
    · exfalso
      have hm : (A ++ B ++ C)[i] ∈ B ++ C := by
        rw [show (A ++ B ++ C)[i] = (B ++ C)[i - A.length]'(by simp at hi ⊢; omega) by simp only [List.append_assoc]; rw [List.getElem_append_right (by omega)]]
        exact List.getElem_mem _
      generalize (A ++ B ++ C)[i] = n at hm hlt
      rcases List.mem_append.1 hm with hm | hm
      · rw [← hB] at hm; have := (List.mem_filter.1 hm).2; simp at this; omega
      · rw [← hC] at hm; have := (List.mem_filter.1 hm).2; simp at this; omega
  · intro hh
    have hm : (A ++ B ++ C)[i] ∈ A := by
      rw [show (A ++ B ++ C)[i] = A[i] by simp only [List.append_assoc]; rw [List.getElem_append_left hh]]
      exact List.getElem_mem _
    generalize (A ++ B ++ C)[i] = n at hm
    rw [← hA] at hm
    simpa using (List.mem_filter.1 hm).2
theorem belowN_le (l : List Nod) (p : Nat) : belowN l p ≤ l.length := List.length_filter_le _ _
theorem below_filter {l : List Nod} (h : SortL l) (p : Nat) : l.filter (fun n => decide (n.path < p)) = l.take (belowN l p) := by
  have e := congrArg (fun z => z.take (belowN l p)) (sort_about h p)
  simp only [List.append_assoc] at e
  rw [e]
  unfold belowN
  rw [List.take_left]
theorem below_drop {l : List Nod} (h : SortL l) (p : Nat) : l.drop (belowN l p) = l.filter (fun n => decide (n.path = p)) ++ l.filter (fun n => decide (p < n.path)) := by
  have e := congrArg (fun z => z.drop (belowN l p)) (sort_about h p)
  simp only [List.append_assoc] at e
  rw [e]
  unfold belowN
  rw [List.drop_left]
theorem get_at {l : List Nod} (h : SortL l) (p : Nat) : getL l p = (match l[belowN l p]? with | some n => if n.path = p then some n else none | none => none) := by
  cases hq : l[belowN l p]? with
  | none =>
    rw [getL_none]
    intro n hn
    obtain ⟨i, hi, rfl⟩ := List.mem_iff_getElem.1 hn
    have := List.getElem?_eq_none_iff.1 hq
    have hlt := (below_get h p i hi).2 (by omega)
    omega
  | some m =>
    obtain ⟨hi, hm⟩ := List.getElem?_eq_some_iff.1 hq
    have hge : ¬ m.path < p := fun hh => by rw [← hm] at hh; have := (below_get h p _ hi).1 hh; omega
    simp only
    by_cases e : m.path = p
    · rw [if_pos e, ← e]; exact getL_of h (by rw [← hm]; exact List.getElem_mem _)
    · rw [if_neg e, getL_none]
      intro n hn hp
      obtain ⟨i, hi2, rfl⟩ := List.mem_iff_getElem.1 hn
      have h1 : ¬ i < belowN l p := fun hh => by have := (below_get h p i hi2).2 hh; omega
      by_cases hii : i = belowN l p
      · subst hii; rw [hm] at hp; exact e hp
      · have := List.pairwise_iff_getElem.1 h (belowN l p) i hi hi2 (by omega)
        rw [hm] at this; omega
theorem set_hit {l : List Nod} (h : SortL l) (x : Nod) (hi : belowN l x.path < l.length) (he : l[belowN l x.path].path = x.path) : setL l x = l.set (belowN l x.path) x := by
  have e := sort_about h x.path
  have hb := below_filter h x.path
  have hd := below_drop h x.path
  have h1 : l.filter (fun n => decide (n.path = x.path)) = [l[belowN l x.path]] := by
    have hmem : l[belowN l x.path] ∈ l.filter (fun n => decide (n.path = x.path)) := List.mem_filter.2 ⟨List.getElem_mem _, by simpa using he⟩
    generalize hB : l.filter (fun n => decide (n.path = x.path)) = B at *
    have hs : SortL B := by rw [← hB]; exact h.filter _
    match B, hmem, hs with
    | [b], hm, _ => rw [List.mem_singleton.1 hm]
    | b :: c :: r, hm, hs =>
      have hb1 : b.path = x.path := by have : b ∈ l.filter (fun n => decide (n.path = x.path)) := by rw [hB]; simp
                                       simpa using (List.mem_filter.1 this).2
      have hc1 : c.path = x.path := by have : c ∈ l.filter (fun n => decide (n.path = x.path)) := by rw [hB]; simp
                                       simpa using (List.mem_filter.1 this).2
      have := hs.head c (by simp); omega
  rw [h1] at hd
  unfold setL
  rw [hb, List.set_eq_take_append_cons_drop, if_pos hi]
  congr 2
  rw [← List.drop_drop (j := belowN l x.path) (i := 1), hd]
  rfl
theorem set_miss {l : List Nod} (h : SortL l) (x : Nod) (he : getL l x.path = none) : setL l x = l.take (belowN l x.path) ++ x :: l.drop (belowN l x.path) := by
  have e := sort_about h x.path
  have hb := below_filter h x.path
  have h1 : l.filter (fun n => decide (n.path = x.path)) = [] := List.filter_eq_nil_iff.2 fun b hb => by simpa using getL_none.1 he b hb
  have hd := below_drop h x.path
  rw [h1, List.nil_append] at hd
  unfold setL
  rw [hb, hd]
end
end Go.Proofs.YtkefjeabckainaaGreat

namespace Go.Proofs.YtkefjeabckainaaGreat
section
set_option maxRecDepth 100000
set_option linter.unusedVariables false

structure Tr where
  next : Nat
  n : List Nod
def slashS : ByteArray := ⟨#[47]⟩
def appB (n : Nod) : Bool := !decide (n.mode &&& 1073741824 = 0)
def touchN (x : Nod) (who : ByteArray) (now : Nat) : Nod := { x with vers := (x.vers + 1) % 4294967296, mtm := now, muid := who }
def newN (p mode now : Nat) (name uid gid : ByteArray) (d : Nat) : Nod := ⟨p, 0, mode, now, now, name, uid, gid, uid, d, false, ⟨#[]⟩⟩
def padL (l : List UInt8) (n : Nat) : List UInt8 := (l ++ List.replicate (n - l.length) 0).take n
theorem padL_length (l : List UInt8) (n : Nat) : (padL l n).length = n := by unfold padL; simp; omega
def putD (d : ByteArray) (off : Nat) (b : ByteArray) : ByteArray := strL (padL d.data.toList off ++ b.data.toList ++ d.data.toList.drop (off + b.size))
def dataT (t : Tr) (x : Nod) (b : ByteArray) (who : ByteArray) (now : Nat) : Tr × Nat :=
  if 16384 < bytesL t.n - x.data.size + b.size then (t, 14) else (⟨t.next, setL t.n { touchN x who now with data := b }⟩, 0)
def makeT (t : Tr) (d : Nat) (name : ByteArray) (mode : Nat) (uid gid : ByteArray) (now : Nat) : Tr × Nat × Nat :=
  match getL t.n d with
  | none => (t, 0, 6)
  | some x => if dirB x = false then (t, 0, 13) else if x.gone then (t, 0, 6) else if nameN name ≠ 0 then (t, 0, nameN name) else if (findL t.n d name).isSome then (t, 0, 7) else if 64 ≤ t.n.length then (t, 0, 14)
    else (⟨t.next + 1, setL (setL t.n (touchN x uid now)) (newN t.next mode now name uid gid d)⟩, t.next, 0)
def putT (t : Tr) (p off : Nat) (b who : ByteArray) (now : Nat) : Tr × Nat :=
  match getL t.n p with
  | none => (t, 6)
  | some x => if dirB x then (t, 12) else
    let o := if appB x then x.data.size else off
    if 4096 < o ∨ 4096 - o < b.size then (t, 3) else if b.size = 0 then (t, 0) else dataT t x (putD x.data o b) who now
def cutT (t : Tr) (p size : Nat) (who : ByteArray) (now : Nat) : Tr × Nat :=
  match getL t.n p with
  | none => (t, 6)
  | some x => if dirB x then (t, 12) else if 4096 < size then (t, 3) else dataT t x (strL (padL x.data.data.toList size)) who now
def takeT (t : Tr) (p off k now : Nat) : Tr × ByteArray × Nat :=
  match getL t.n p with
  | none => (t, ⟨#[]⟩, 6)
  | some x => if dirB x then (t, ⟨#[]⟩, 12) else (⟨t.next, setL t.n { x with atm := now }⟩, strL ((x.data.data.toList.drop off).take k), 0)
def goneN (x : Nod) : Nod := { x with gone := true, up := 0 }
def unlinkT (t : Tr) (p : Nat) (who : ByteArray) (now : Nat) : Tr × Nat :=
  match getL t.n p with
  | none => (t, 6)
  | some x => if p = 1 then (t, 5) else if x.gone then (t, 6) else if kidsOf t.n p ≠ [] then (t, 15) else
    match getL t.n x.up with
    | none => (⟨t.next, setL t.n (goneN x)⟩, 0)
    | some d => (⟨t.next, setL (setL t.n (goneN x)) (touchN d who now)⟩, 0)
def reapT (t : Tr) (p : Nat) : Tr × Bool :=
  match getL t.n p with
  | none => (t, false)
  | some x => if x.gone then (⟨t.next, dropL t.n p⟩, true) else (t, false)
inductive Leads (l : List Nod) : Nat → Prop
  | root : Leads l 1
  | up {p : Nat} {n : Nod} (h : getL l p = some n) (hg : n.gone = false) (hu : Leads l n.up) : Leads l p
theorem way_leads {l : List Nod} : ∀ (k p : Nat), (wayL l k p).isSome = true → Leads l p
  | 0, _, h => by cases h
  | k + 1, p, h => by
    unfold wayL at h
    by_cases e : p = 1
    · rw [e]; exact .root
    · rw [if_neg e] at h
      cases hg : getL l p with
      | none => rw [hg] at h; cases h
      | some n =>
        rw [hg] at h
        simp only at h
        cases hq : n.gone with
        | true => rw [hq, if_pos rfl] at h; cases h
        | false =>
          rw [hq, if_neg (by simp), Option.isSome_map] at h
          exact .up hg hq (way_leads k _ h)
theorem leads_way {l : List Nod} {p : Nat} (h : Leads l p) : ∃ k, (wayL l k p).isSome = true := by
  induction h with
  | root => exact ⟨1, rfl⟩
  | @up p n hg hq _ ih =>
    obtain ⟨k, hk⟩ := ih
    refine ⟨k + 1, ?_⟩
    unfold wayL
    by_cases e : p = 1
    · rw [if_pos e]; rfl
    · rw [if_neg e, hg]
      simp only
      rw [hq, if_neg (by simp), Option.isSome_map]; exact hk
theorem way_more {l : List Nod} : ∀ (k k' p : Nat) {o : List ByteArray}, wayL l k p = some o → k ≤ k' → wayL l k' p = some o
  | 0, _, _, _, h, _ => by cases h
  | k + 1, 0, _, _, _, hk => by omega
  | k + 1, k' + 1, p, o, h, hk => by
    unfold wayL at h ⊢
    by_cases e : p = 1
    · rw [if_pos e] at h ⊢; exact h
    · rw [if_neg e] at h ⊢
      cases hg : getL l p with
      | none => rw [hg] at h; cases h
      | some n =>
        rw [hg] at h
        simp only at h ⊢
        cases hq : n.gone with
        | true => rw [hq, if_pos rfl] at h; cases h
        | false =>
          rw [hq, if_neg (by simp)] at h
          rw [if_neg (by simp)]
          obtain ⟨o', ho, rfl⟩ := Option.map_eq_some_iff.1 h
          rw [way_more k k' _ ho (by omega)]; rfl
theorem way_same {l : List Nod} {k k' p : Nat} {o o' : List ByteArray} (h : wayL l k p = some o) (h' : wayL l k' p = some o') : o = o' := by
  have a := way_more k (max k k') p h (Nat.le_max_left _ _)
  have b := way_more k' (max k k') p h' (Nat.le_max_right _ _)
  rw [a] at b; exact Option.some.inj b
theorem nodup_len : ∀ (ps qs : List Nat), ps.Nodup → (∀ x ∈ ps, x ∈ qs) → ps.length ≤ qs.length
  | [], _, _, _ => Nat.zero_le _
  | p :: ps, qs, hn, hs => by
    obtain ⟨h1, h2⟩ := List.nodup_cons.1 hn
    have hm := hs p (by simp)
    have := nodup_len ps (qs.erase p) h2 fun x hx => (List.mem_erase_of_ne (fun e => h1 (by rw [← e]; exact hx))).2 (hs x (by simp [hx]))
    rw [List.length_erase_of_mem hm] at this
    have : 0 < qs.length := List.length_pos_of_mem hm
    simp only [List.length_cons]; omega
theorem way_paths {l : List Nod} : ∀ (k p : Nat) {o : List ByteArray}, wayL l k p = some o →
    ∃ ps : List Nat, ps.length = o.length ∧ ps.Nodup ∧ ∀ q ∈ ps, (∃ n, getL l q = some n ∧ n.gone = false) ∧ ∃ k' o', wayL l k' q = some o' ∧ o'.length ≤ o.length
  | 0, _, _, h => by cases h
  | k + 1, p, o, h => by
    have h0 := h
    unfold wayL at h
    by_cases e : p = 1
    · rw [if_pos e] at h; cases h
      exact ⟨[], rfl, List.nodup_nil, fun q hq => by cases hq⟩
    · rw [if_neg e] at h
      cases hg : getL l p with
      | none => rw [hg] at h; cases h
      | some n =>
        rw [hg] at h
        simp only at h
        cases hq : n.gone with
        | true => rw [hq, if_pos rfl] at h; cases h
        | false =>
          rw [hq, if_neg (by simp)] at h
          obtain ⟨o', ho, rfl⟩ := Option.map_eq_some_iff.1 h
          obtain ⟨ps, i1, i2, i3⟩ := way_paths k n.up ho
          refine ⟨p :: ps, by simp [i1], List.nodup_cons.2 ⟨fun hp => ?_, i2⟩, fun q hq2 => ?_⟩
          · obtain ⟨_, k', o2, hk', hl⟩ := i3 p hp
            have := way_same hk' h0
            rw [this] at hl; simp at hl; omega
          · rcases List.mem_cons.1 hq2 with hh | hh
            · rw [hh]; exact ⟨⟨n, hg, hq⟩, k + 1, _, h0, Nat.le_refl _⟩
            · obtain ⟨a, k', o2, hk', hl⟩ := i3 q hh
              exact ⟨a, k', o2, hk', by simp; omega⟩
theorem way_short {l : List Nod} : ∀ (k p : Nat) {o : List ByteArray}, wayL l k p = some o → wayL l (o.length + 1) p = some o
  | 0, _, _, h => by cases h
  | k + 1, p, o, h => by
    unfold wayL at h ⊢
    by_cases e : p = 1
    · rw [if_pos e] at h ⊢; exact h
    · rw [if_neg e] at h ⊢
      cases hg : getL l p with
      | none => rw [hg] at h; cases h
      | some n =>
        rw [hg] at h
        simp only at h ⊢
        cases hq : n.gone with
        | true => rw [hq, if_pos rfl] at h; cases h
        | false =>
          rw [hq, if_neg (by simp)] at h
          rw [if_neg (by simp)]
          obtain ⟨o', ho, rfl⟩ := Option.map_eq_some_iff.1 h
          have := way_short k n.up ho
          rw [show (n.name :: o').length = o'.length + 1 from rfl, this]; rfl
theorem leads_iff {l : List Nod} {p : Nat} : Leads l p ↔ (wayL l (l.length + 1) p).isSome = true := by
  refine ⟨fun h => ?_, way_leads _ _⟩
  obtain ⟨k, hk⟩ := leads_way h
  obtain ⟨o, ho⟩ := Option.isSome_iff_exists.1 hk
  obtain ⟨ps, h1, h2, h3⟩ := way_paths k p ho
  have hs := way_short k p ho
  have hle := nodup_len ps (l.map (·.path)) h2 fun q hq => by
    obtain ⟨⟨n, hn, _⟩, _⟩ := h3 q hq
    obtain ⟨a, b⟩ := getL_some hn
    exact List.mem_map.2 ⟨n, a, b⟩
  rw [way_more _ (l.length + 1) p hs (by simp at hle; omega)]; rfl
theorem Leads.imp {l m : List Nod} (h : ∀ p n, getL l p = some n → n.gone = false → ∃ n', getL m p = some n' ∧ n'.gone = false ∧ n'.up = n.up) {p : Nat} (hp : Leads l p) : Leads m p := by
  induction hp with
  | root => exact .root
  | up hg hq _ ih =>
    obtain ⟨n', h1, h2, h3⟩ := h _ _ hg hq
    exact .up h1 h2 (by rw [h3]; exact ih)

structure OkC (t : Tr) : Prop where
  sort : SortL t.n
  root : ∃ r ∈ t.n, r.path = 1 ∧ dirB r = true ∧ r.up = 1 ∧ r.gone = false ∧ r.name = slashS
  low : ∀ n ∈ t.n, 1 ≤ n.path ∧ n.path < t.next
  bits : ∀ n ∈ t.n, bitsB n.mode = true
  empt : ∀ n ∈ t.n, dirB n = true → n.data.size = 0
  nam : ∀ n ∈ t.n, n.path ≠ 1 → nameN n.name = 0
  ids : ∀ n ∈ t.n, validB n.uid = true ∧ validB n.gid = true ∧ validB n.muid = true
  len : ∀ n ∈ t.n, n.data.size ≤ 4096
  gon : ∀ n ∈ t.n, n.gone = true → n.up = 0
  par : ∀ n ∈ t.n, n.gone = false → ∃ u ∈ t.n, u.path = n.up ∧ dirB u = true ∧ u.gone = false
  uniq : ∀ a ∈ t.n, ∀ b ∈ t.n, ∀ d, kidB d a = true → kidB d b = true → a.name = b.name → a = b
  few : t.n.length ≤ 64
  byt : bytesL t.n ≤ 16384
  way : ∀ n ∈ t.n, n.gone = false → Leads t.n n.path
end
end Go.Proofs.YtkefjeabckainaaGreat

namespace Go.Proofs.YtkefjeabckainaaGreat
section
theorem str_beq (s t : ByteArray) : (s.toList == t.toList) = decide (s = t) := by
  rw [ByteArray.toList_eq, ByteArray.toList_eq]
  by_cases h : s = t
  · subst h; simp
  · have h2 : ¬ s.data = t.data := fun e => h (ByteArray.ext e)
    simp [h, h2]
end
end Go.Proofs.YtkefjeabckainaaGreat

namespace Go.Proofs.YtkefjeabckainaaGreat
section
open Go.RowKit
set_option maxRecDepth 100000

def RowW (w : World) (k : Nat) (v : Value) (n : Nat) (xs : List Value) : Prop :=
  xs.length = n * k ∧ ∃ a c, v = .slice a n c ∧ n ≤ c ∧ c ≤ maxLen ∧ (a = none → c = 0) ∧ ∀ i u, xs[i]? = some u → ∃ b o, a = some ⟨b, o, none⟩ ∧ w.cell? ⟨b, o + i, none⟩ = some u
theorem RowAt.weak {w : World} {k n : Nat} {v : Value} {xs : List Value} (h : RowAt w k v n xs) : RowW w k v n xs := by
  obtain ⟨hl, a, c, hv, h1, h2, h3, _, h4⟩ := h
  exact ⟨hl, a, c, hv, h1, h2, h3, h4⟩
theorem RowW.keeps {w w' : World} {k n : Nat} {v : Value} {xs : List Value} (h : RowW w k v n xs) (hk : Keeps w w') : RowW w' k v n xs := by
  obtain ⟨hl, a, c, hv, h1, h2, h3, h4⟩ := h
  refine ⟨hl, a, c, hv, h1, h2, h3, fun i u hu => ?_⟩
  obtain ⟨b, o, ha, hc⟩ := h4 i u hu
  exact ⟨b, o, ha, hk.cells _ _ hc⟩
theorem RowW.below {w w' : World} {k n : Nat} {v : Value} {xs : List Value} (h : RowW w k v n xs) (hb : Below w.heap.size w w') : RowW w' k v n xs := h.keeps (.of_below hb)

theorem run_append_weak {P : Program} (w : World) (base : Nat) (t ty e : TypeId) (i : TypeInfo) (z : Value) (size bytes : Nat) (ht : P.underlying t = some (.slice e)) (hi : P.info? e = some i) (hz : i.zero = some z)
    (hsize : i.size = size) (hby : i.bytes = bytes) (hzs : z.cells.size = size) (hsz : 0 < size)
    (v : Value) (n : Nat) (xs : List Value) (hown : w.ownsRow base e size v n xs)
    (sv : Value) (m : Nat) (news : List Value) (hsrc : RowW w size sv m news) (h1 : ∀ u ∈ news, u.oneCell' = true)
    (h63 : n + m ≤ maxLen) (hbytes : (n + m) * bytes ≤ 140737488355328) (hbase : base ≤ w.heap.size) :
    ∃ a' c' w', (Builtin.append_ #[t, t] ty #[v, sv]).run P w = .ok (.slice a' (n + m) c') w' ∧ w'.ownsRow base e size (.slice a' (n + m) c') (n + m) (xs ++ news) ∧ w.grownBy w' v.ownBlock := by
  obtain ⟨hl, a, c, rfl, hc1, hc2, hc3, hcell⟩ := hsrc
  cases a with
  | some ad =>
    have hnews : ∀ j u, news[j]? = some u → w.cell? (ad.add j) = some u := fun j u hu => by
      obtain ⟨b, o, hb, hcc⟩ := hcell j u hu
      cases hb
      rw [add_plain']; exact hcc
    obtain ⟨v', w', hr, ho, hg, _⟩ := run_append_own (P := P) w base t ty e i z size bytes ht hi hz hsize hby hzs hsz v n xs hown ad m c news hl hnews h1 h63 hbytes hbase
    obtain ⟨a', c', rfl⟩ := own_form ho
    exact ⟨a', c', w', hr, ho, hg⟩
  | none =>
    have hc0 := hc3 rfl
    obtain rfl : c = 0 := hc0
    obtain rfl : m = 0 := by omega
    have : news = [] := List.eq_nil_of_length_eq_zero (by simpa using hl)
    subst this
    exact run_append_row w base t ty e i z size bytes ht hi hz hsize hby hzs hsz v n xs hown _ 0 [] RowAt.nil h1 h63 hbytes hbase

theorem wpList_append_weak {P : Program} {t e size bytes : Nat} (E : ElemOk P t e size bytes) {ops : Array Oper} {rest : List Oper} {o : Oper} {a : Act} {Q : Exit → Act → World → Prop} (w : World) (hgd : o.guard = none) (s x : Operand)
    (ho : o.op = .call { callee := .builtin .append, args := #[s, x], argTypes := #[t, t] })
    (base : Nat) (v : Value) (n : Nat) (xs : List Value) (hs : a.eval s = v) (hown : w.ownsRow base e size v n xs)
    (sv : Value) (m : Nat) (news : List Value) (hx : a.eval x = sv) (hsrc : RowW w size sv m news) (h1 : ∀ u ∈ news, u.oneCell' = true)
    (h63 : n + m ≤ maxLen) (hbytes : (n + m) * bytes ≤ 140737488355328) (hbase : base ≤ w.heap.size)
    (h : ∀ a' c' w', w'.ownsRow base e size (.slice a' (n + m) c') (n + m) (xs ++ news) → w.grownBy w' v.ownBlock → wpList P ops Q rest (a.put o.dst (.slice a' (n + m) c')) w') : wpList P ops Q (o :: rest) a w :=
  wpList_plain hgd fun K hK => by
    obtain ⟨i, z, hi, hz, hsize, hby, hzs⟩ := E.hi
    refine wp_append_run s x t ho hs hx (R := fun v' w' => ∃ a' c', v' = .slice a' (n + m) c' ∧ w'.ownsRow base e size (.slice a' (n + m) c') (n + m) (xs ++ news) ∧ w.grownBy w' v.ownBlock) ?_ ?_
    · obtain ⟨a', c', w', hr, h2, h3⟩ := run_append_weak (P := P) w base t o.type e i z size bytes E.ht hi hz hsize hby hzs E.hsz v n xs hown sv m news hsrc h1 h63 hbytes hbase
      exact ⟨_, w', hr, a', c', rfl, h2, h3⟩
    · rintro _ w' ⟨a', c', rfl, h2, h3⟩
      exact hK _ _ (h a' c' w' h2 h3)

def TxtsAt (w : World) (v : Value) (L : List ByteArray) : Prop := RowW w 1 v L.length (L.map fun s => Value.string s)
theorem TxtsAt.cell {w : World} {a : Option Addr} {n c : Nat} {L : List ByteArray} (h : TxtsAt w (.slice a n c) L) (i : Nat) (hi : i < L.length) : ∃ b o, a = some ⟨b, o, none⟩ ∧ w.cell? ⟨b, o + i, none⟩ = some (.string L[i]) := by
  obtain ⟨_, a', c', hv, h1, h2, h3, h4⟩ := h
  cases hv
  exact h4 i _ (by simp [hi])
theorem TxtsAt.form {w : World} {v : Value} {L : List ByteArray} (h : TxtsAt w v L) : ∃ a c, v = .slice a L.length c ∧ L.length ≤ c ∧ c ≤ maxLen := by
  obtain ⟨_, a, c, hv, h1, h2, _⟩ := h
  exact ⟨a, c, hv, h1, h2⟩
theorem TxtsAt.below {w w' : World} {v : Value} {l : List ByteArray} (h : TxtsAt w v l) (hb : Below w.heap.size w w') : TxtsAt w' v l := RowW.below h hb
theorem TxtsAt.take {w : World} {a : Option Addr} {n c : Nat} {l : List ByteArray} (h : TxtsAt w (.slice a n c) l) (k c2 : Nat) (hk : k ≤ l.length) (hc2 : k ≤ c2) (hc3 : c2 ≤ c) : TxtsAt w (.slice a k c2) (l.take k) := by
  obtain ⟨_, a', c', hv, h1, h2, h3, h4⟩ := h
  cases hv
  refine ⟨by simp, a, c2, by simp; omega, by simp; omega, by omega, fun h => (by have := h3 h; omega), fun i u hu => ?_⟩
  have hi : i < (l.take k).length := by have := (List.getElem?_eq_some_iff.1 hu).1; simpa using this
  simp only [List.length_take] at hi
  refine h4 i u ?_
  rw [← hu]; simp [List.getElem?_take]; omega
theorem TxtsAt.of_own {w : World} {base e : Nat} {v : Value} {L : List ByteArray} (h : w.ownsRow base e 1 v L.length (L.map fun s => Value.string s)) : TxtsAt w v L := (RowAt.of_own h).weak
theorem TxtsAt.nil {w : World} : TxtsAt w (.slice none 0 0) [] := RowAt.nil.weak
end
end Go.Proofs.YtkefjeabckainaaGreat

namespace Go.Proofs.YtkefjeabckainaaGreat
section
open Go.RowKit
set_option maxRecDepth 100000
set_option linter.unusedVariables false

def hasS (l : List ByteArray) (s : ByteArray) : Bool := l.any fun x => decide (x = s)
theorem hasS_iff {l : List ByteArray} {s : ByteArray} : hasS l s = true ↔ s ∈ l := by
  unfold hasS
  rw [List.any_eq_true]
  exact ⟨fun ⟨x, h, e⟩ => of_decide_eq_true e ▸ h, fun h => ⟨s, h, decide_eq_true rfl⟩⟩
theorem hasS_true {l : List ByteArray} {s : ByteArray} {i : Nat} (hi : i < l.length) (h : l[i] = s) : hasS l s = true :=
  hasS_iff.2 (h ▸ List.getElem_mem hi)
theorem hasS_false {l : List ByteArray} {s : ByteArray} (h : ∀ j (h : j < l.length), j < l.length → l[j] ≠ s) : hasS l s = false := by
  rw [Bool.eq_false_iff]
  intro hm
  obtain ⟨j, hj, e⟩ := List.getElem_of_mem (hasS_iff.1 hm)
  exact h j hj hj e

def IdxPost (w : World) (r : Bool) (e : Ending) (w' : World) : Prop := ∃ i : Int, e = .returned (.int .i64 i) ∧ decide (0 ≤ i) = r ∧ w' = w

theorem sindex_any (v : Value) (l : List ByteArray) (s : ByteArray) (w : World) (hv : TxtsAt w v l) (hl : l.length < 4611686018427387904) :
    Calls Tryz.prog 172 #[v, .string s] w (IdxPost w (hasS l s)) := by
  obtain ⟨a, c, rfl, g1, g2⟩ := hv.form
  unfold maxLen at g2
  replace hv := hid hv
  go_enter Tryz.func172, Tryz.ntmps172
  go_wp2_with fail
  go_loopw [8] (fun kv wr => ∃ k : Nat, k ≤ l.length ∧ kv = .int .i64 (k : Int) ∧ wr = w ∧ Hid (∀ j (h : j < l.length), j < k → l[j] ≠ s)) (fun kv _ => l.length - (intOf kv).toNat)
  case atStart => exact ⟨0, by omega, rfl, rfl, hid (fun j _ h => by omega)⟩
  case round =>
    obtain ⟨k, hk, rfl, rfl, hall⟩ := hrel
    by_cases hkl : k < l.length
    · obtain ⟨b1, o1, ha1, hc1⟩ := TxtsAt.cell hv.out k hkl
      subst ha1
      by_cases hs : l[k] = s
      · have hT := hid (hasS_true hkl hs)
        rw [hs] at hc1
        clear hs
        go_wp2_with fail
        go_ret
        exact ⟨(k : Int), rfl, by rw [hT.out]; simp, rfl⟩
      · have hq : (s.toList == l[k].toList) = false := by rw [str_beq]; exact decide_eq_false fun e => hs e.symm
        replace hs := hid hs
        generalize hs1 : l[k] = s1 at *
        replace hs1 := hid hs1
        go_wp2_with fail
        go_roundw
        case rel => exact ⟨k + 1, by omega, by go_num, by first | rfl | trivial, hid (fun j h h2 => by
          by_cases hjk : j < k
          · exact hall.out j h hjk
          · obtain rfl : j = k := by omega
            rw [hs1.out]; exact hs.out)⟩
        case measure => simp [intOf]; omega
    · obtain rfl : k = l.length := by omega
      go_wp2_with fail
      go_ret
      exact ⟨-1, rfl, by rw [hasS_false hall.out]; rfl, rfl⟩

theorem scontains_any (v : Value) (l : List ByteArray) (s : ByteArray) (w : World) (hv : TxtsAt w v l) (hl : l.length < 4611686018427387904) :
    Calls Tryz.prog 134 #[v, .string s] w fun e w' => e = .returned (.bool (hasS l s)) ∧ w' = w := by
  have h := hid (sindex_any v l s w hv hl)
  obtain ⟨a, c, rfl, g1, g2⟩ := hv.form
  clear hv
  go_enter Tryz.func134, Tryz.ntmps134
  go_wp2_with fail
  refine h.out.mono ?_
  rintro e w1 ⟨i, rfl, hi, rfl⟩
  replace hi := hid hi
  go_wp2_with fail
  go_ret
  exact ⟨ret_bool (by rw [← hi.out]), rfl⟩

end
end Go.Proofs.YtkefjeabckainaaGreat

namespace Go.Proofs.YtkefjeabckainaaGreat
section
open Go.RowKit
set_option maxRecDepth 100000
set_option linter.unusedVariables false

structure Grp where
  name : ByteArray
  mv : Value
  mem : List ByteArray
def Grp.cells (g : Grp) : List Value := [.string g.name, g.mv]
def GrpsAt (w : World) (v : Value) (gs : List Grp) : Prop := RowW w 2 v gs.length (gs.flatMap Grp.cells) ∧ ∀ g ∈ gs, TxtsAt w g.mv g.mem
theorem gflat_get (gs : List Grp) (i : Nat) (hi : i < gs.length) : (gs.flatMap Grp.cells)[i * 2]? = some (.string gs[i].name) ∧ (gs.flatMap Grp.cells)[i * 2 + 1]? = some gs[i].mv := by
  induction gs generalizing i with
  | nil => simp at hi
  | cons g r ih =>
    cases i with
    | zero => simp [List.flatMap_cons, Grp.cells]
    | succ k =>
      have := ih k (by simpa using hi)
      simp only [List.flatMap_cons]
      rw [List.getElem?_append_right (by simp [Grp.cells]; omega), List.getElem?_append_right (by simp [Grp.cells]; omega)]
      simp only [Grp.cells, List.length_cons, List.length_nil, List.getElem_cons_succ]
      rw [show (k + 1) * 2 - (0 + 1 + 1) = k * 2 by omega, show (k + 1) * 2 + 1 - (0 + 1 + 1) = k * 2 + 1 by omega]
      exact this
theorem GrpsAt.form {w : World} {v : Value} {gs : List Grp} (h : GrpsAt w v gs) : ∃ a c, v = .slice a gs.length c ∧ gs.length ≤ c ∧ c ≤ maxLen := by
  obtain ⟨⟨_, a', c', hv, h1, h2, _⟩, _⟩ := h
  exact ⟨a', c', hv, h1, h2⟩
theorem GrpsAt.cell {w : World} {a : Option Addr} {n c : Nat} {gs : List Grp} (h : GrpsAt w (.slice a n c) gs) (i : Nat) (hi : i < gs.length) :
    ∃ b o, a = some ⟨b, o, none⟩ ∧ w.cell? ⟨b, o + i * 2, none⟩ = some (.string gs[i].name) ∧ w.cell? ⟨b, o + i * 2 + 1, none⟩ = some gs[i].mv ∧ TxtsAt w gs[i].mv gs[i].mem := by
  obtain ⟨⟨_, a', c', hv, h1, h2, h3, h4⟩, hm⟩ := h
  cases hv
  obtain ⟨e1, e2⟩ := gflat_get gs i hi
  obtain ⟨b, o, ha, hc⟩ := h4 (i * 2) _ e1
  obtain ⟨b', o', ha', hc'⟩ := h4 (i * 2 + 1) _ e2
  rw [ha] at ha'
  cases ha'
  exact ⟨b, o, ha, hc, hc', hm _ (List.getElem_mem hi)⟩
theorem GrpsAt.below {w w' : World} {v : Value} {gs : List Grp} (h : GrpsAt w v gs) (hb : Below w.heap.size w w') : GrpsAt w' v gs :=
  ⟨RowW.below h.1 hb, fun g hg => RowW.below (h.2 g hg) hb⟩

def memB (grp usr : ByteArray) (g : Grp) : Bool := decide (g.name = grp) && hasS g.mem usr
def BoxS (w : World) (b : Nat) (s : ByteArray) : Prop := w.heap[b]? = some (.cells #[.string s] 9 (0, 0))

theorem in1_any (g : Grp) (bg bu : Nat) (grp usr : ByteArray) (w : World) (hm : TxtsAt w g.mv g.mem) (hl : g.mem.length < 4611686018427387904) (h1 : BoxS w bg grp) (h2 : BoxS w bu usr) :
    Calls Tryz.prog 144 #[.agg #[.string g.name, g.mv], .pointer (some ⟨bg, 0, none⟩), .pointer (some ⟨bu, 0, none⟩)] w fun e w' => e = .returned (.bool (memB grp usr g)) ∧ Below w.heap.size w w' := by
  have hb0 := (Below.refl w.heap.size w).alloc (Nat.le_refl _) (.cells #[.string g.name, g.mv] 154)
  have c1 : (w.alloc (.cells #[.string g.name, g.mv] 154)).cell? ⟨bg, 0, none⟩ = some (.string grp) := block_cell ((hb0.block bg (lt_of_block h1)).trans h1) 0
  have c2 : (w.alloc (.cells #[.string g.name, g.mv] 154)).cell? ⟨bu, 0, none⟩ = some (.string usr) := block_cell ((hb0.block bu (lt_of_block h2)).trans h2) 0
  have hc := hid (scontains_any g.mv g.mem usr _ (hm.below hb0) hl)
  replace hb0 := hid hb0
  replace h1 := hid h1
  replace h2 := hid h2
  unfold memB
  by_cases hn : g.name = grp
  · have hq : (g.name.toList == grp.toList) = true := by rw [hn]; simp
    rw [show decide (g.name = grp) = true from decide_eq_true hn, Bool.true_and]
    clear hn
    go_enter Tryz.func144, Tryz.ntmps144
    go_wp2_with fail
    refine hc.out.mono ?_
    rintro e w1 ⟨rfl, rfl⟩
    go_wp2_with fail
    go_ret
    exact ⟨rfl, hb0.out⟩
  · have hq : (g.name.toList == grp.toList) = false := by rw [str_beq]; exact decide_eq_false hn
    rw [show decide (g.name = grp) = false from decide_eq_false hn, Bool.false_and]
    clear hn
    go_enter Tryz.func144, Tryz.ntmps144
    go_wp2_with fail
    go_ret
    exact ⟨rfl, hb0.out⟩

def Tests (f : FuncId) (cap : Array Value) (w : World) (p : Grp → Bool) (gs : List Grp) : Prop := ∀ g ∈ gs, ∀ w', Below w.heap.size w w' → Calls Tryz.prog f (#[.agg #[.string g.name, g.mv]] ++ cap) w' fun e w2 => e = .returned (.bool (p g)) ∧ Below w'.heap.size w' w2

set_option maxHeartbeats 1600000 in
theorem ifunc_any (v : Value) (gs : List Grp) (f : FuncId) (cap : Array Value) (p : Grp → Bool) (w : World) (hv : GrpsAt w v gs) (hl : gs.length < 4611686018427387904) (hT : Tests f cap w p gs)
    (hE : ∀ args W, Sem.run Tryz.prog (callFunc f args) W = .ok (.enter f args) W) :
    Calls Tryz.prog 181 #[v, .func (.func f) #[] cap] w fun e w' => ∃ i : Int, e = .returned (.int .i64 i) ∧ decide (0 ≤ i) = gs.any p ∧ Below w.heap.size w w' := by
  obtain ⟨a, c, rfl, g1, g2⟩ := hv.form
  unfold maxLen at g2
  replace hv := hid hv
  replace hT := hid hT
  replace hE := hid hE
  go_enter Tryz.func181, Tryz.ntmps181
  go_wp2_with fail
  go_loopw [8] (fun kv wr => ∃ k : Nat, k ≤ gs.length ∧ kv = .int .i64 (k : Int) ∧ Hid (Below w.heap.size w wr) ∧ Hid ((gs.take k).any p = false)) (fun kv _ => gs.length - (intOf kv).toNat)
  case atStart => exact ⟨0, by omega, rfl, hid (Below.refl _ _), hid (by simp)⟩
  case round =>
    obtain ⟨k, hk, rfl, hB, hall⟩ := hrel
    by_cases hkl : k < gs.length
    · have hv1 := hv.out.below hB.out
      obtain ⟨b1, o1, ha1, hc1, hc2, _⟩ := GrpsAt.cell hv1 k hkl
      subst ha1
      have hcall := hid (hT.out _ (List.getElem_mem hkl) wr hB.out)
      clear hv1
      generalize hg : gs[k] = g at *
      replace hg := hid hg
      have hE' := hE.out (#[.agg #[.string g.name, g.mv]] ++ cap) wr
      go_wp2_with fail
      refine hcall.out.mono ?_
      rintro e w2 ⟨rfl, hb2⟩
      have hB2 := hid (sn hB.out hb2)
      clear hb2 hcall hE' hc1 hc2
      cases hp : p g with
      | true =>
        go_wp2_with fail
        go_ret
        exact ⟨(k : Int), rfl, by
          rw [List.any_eq_true.2 ⟨g, by rw [← hg.out]; exact List.getElem_mem hkl, hp⟩]; simp, hB2.out⟩
      | false =>
        have hall2 := hid (show (gs.take (k + 1)).any p = false by
          rw [List.take_succ_eq_append_getElem hkl, List.any_append, hall.out, hg.out]
          simp [hp])
        replace hp := hid hp
        go_wp2_with fail
        go_roundw
        case rel => exact ⟨k + 1, by omega, by go_num, hB2, hall2⟩
        case measure => simp [intOf]; omega
    · obtain rfl : k = gs.length := by omega
      go_wp2_with fail
      go_ret
      exact ⟨-1, rfl, by have := hall.out; rw [List.take_length] at this; rw [this]; rfl, hB.out⟩

theorem cfunc_any (v : Value) (gs : List Grp) (f : FuncId) (cap : Array Value) (p : Grp → Bool) (w : World) (hv : GrpsAt w v gs) (hl : gs.length < 4611686018427387904) (hT : Tests f cap w p gs)
    (hE : ∀ args W, Sem.run Tryz.prog (callFunc f args) W = .ok (.enter f args) W) :
    Calls Tryz.prog 143 #[v, .func (.func f) #[] cap] w fun e w' => e = .returned (.bool (gs.any p)) ∧ Below w.heap.size w w' := by
  have h := hid (ifunc_any v gs f cap p w hv hl hT hE)
  obtain ⟨a, c, rfl, g1, g2⟩ := hv.form
  clear hv hT hE
  go_enter Tryz.func143, Tryz.ntmps143
  go_wp2_with fail
  refine h.out.mono ?_
  rintro e w1 ⟨i, rfl, hi, hb⟩
  replace hi := hid hi
  replace hb := hid hb
  go_wp2_with fail
  go_ret
  exact ⟨ret_bool (by rw [← hi.out]), hb.out⟩

theorem enter_in1 (args : Array Value) (W : World) : Sem.run Tryz.prog (callFunc 144 args) W = .ok (.enter 144 args) W := by
  rfl
theorem enter_group1 (args : Array Value) (W : World) : Sem.run Tryz.prog (callFunc 178 args) W = .ok (.enter 178 args) W := by
  rfl
end
end Go.Proofs.YtkefjeabckainaaGreat
