/- What the methods of num.In and text.Take leave as it was, block by block, under bounds on lengths that each theorem names. No further condition. And the texts behind it. -/
import Derived.Test.YtkefjeabckainaaGreatFaB03
import Derived.Test.YtkefjeabckainaaGreatFaB01
import Derived.Laws.BitsAllLaws
import Derived.Laws.CopyOwn
namespace Go.Proofs.YtkefjeabckainaaGreat
section
open Go.RowKit
set_option maxRecDepth 100000
theorem OStep.store {b : Nat} {w w1 : World} {p : Addr} (h : OStep b w w1) (hp : w.heap.size ≤ p.block) (_hf : ¬ Foot w1 b p.block) (hb : b < w.heap.size) (u : Value) : OStep b w (w1.setCell p u) :=
  have hc0 : (w1.setCell p u).cell? ⟨b, 0, none⟩ = w1.cell? ⟨b, 0, none⟩ := World.cell?_of_block (w := w1) (block_set_other (by show b ≠ p.block; omega))
  have hfoot : ∀ k, Foot (w1.setCell p u) b k → Foot w1 b k := by
    rintro k (he | ⟨v, hv, hk2⟩)
    · exact .inl he
    · rw [hc0] at hv; exact .inr ⟨v, hv, hk2⟩
  ⟨h.below.setCell (by omega) _, fun k hk hn => by
    obtain ⟨e1, n1⟩ := h.block k hk hn
    exact ⟨(block_set_other (by omega)).trans e1, fun hf => n1 (hfoot k hf)⟩, fun ht => by
    obtain ⟨⟨cs, t, fr, hc, hs⟩, f1⟩ := h.two ht
    exact ⟨⟨cs, t, fr, (block_set_other (by show b ≠ p.block; omega)).trans hc, hs⟩, fun k hk => f1 k (hfoot k hk)⟩⟩
theorem Foot.store {b k : Nat} {w : World} {p : Addr} {u : Value} (hp : p.block ≠ b) (hf : ¬ Foot w b k) : ¬ Foot (w.setCell p u) b k := by
  rintro (he | ⟨v, hv, hk2⟩)
  · exact hf (.inl he)
  · have : (w.setCell p u).cell? ⟨b, 0, none⟩ = w.cell? ⟨b, 0, none⟩ := World.cell?_of_block (w := w) (block_set_other (by show b ≠ p.block; omega))
    rw [this] at hv
    exact hf (.inr ⟨v, hv, hk2⟩)
end
end Go.Proofs.YtkefjeabckainaaGreat

namespace Go.Proofs.YtkefjeabckainaaGreat
section
open Go.RowKit
set_option maxRecDepth 100000
set_option linter.unusedVariables false

theorem own_keep {w w' : World} {base e k n : Nat} {v : Value} {xs : List Value} (h2 : w.ownsRow base e k v n xs) (hb : ∀ j, v.ownBlock = some j → w'.heap[j]? = w.heap[j]?) : w'.ownsRow base e k v n xs := by
  refine ⟨h2.1, ?_⟩
  rcases h2.2 with h3 | ⟨g, cap, cur, hv, hg, hh, r⟩
  · exact .inl h3
  · exact .inr ⟨g, cap, cur, hv, hg, (hb g (by rw [hv]; rfl)).trans hh, r⟩
def put (w : World) (q : Nat) : Nat → List Value → World
  | _, [] => w
  | i, u :: us => put (w.setCell ⟨q, i, none⟩ u) q (i + 1) us

theorem heap2 (w : World) (o1 o2 : Obj) : ((w.alloc o1).alloc o2).heap[w.heap.size + 1]? = some o2 := by
  have h := heap_alloc_new (w.alloc o1) o2
  have e : (w.alloc o1).heap.size = w.heap.size + 1 := by simp
  rw [e] at h; exact h
theorem infoS : (Tryz.prog.info? 9).map (fun i => (i.zero, i.size, i.bytes)) = some (some (.string ⟨#[]⟩), 1, 16) := by kernel_rfl
end
end Go.Proofs.YtkefjeabckainaaGreat

namespace Go.Proofs.YtkefjeabckainaaGreat
section
open Go.RowKit
set_option maxRecDepth 100000
end
end Go.Proofs.YtkefjeabckainaaGreat

namespace Go.Proofs.YtkefjeabckainaaGreat
section
open Go.RowKit
set_option maxRecDepth 100000
set_option linter.unusedVariables false

theorem nodS {n : Nod} {X : World} {k : Nat} {T : TypeId} {fr : Nat × Nat} (h : X.heap[k]? = some (.cells n.cells T fr)) : X.cell? ⟨k, 0, none⟩ = some (.int .u64 (n.path : Int)) ∧ X.cell? ⟨k, 1, none⟩ = some (.int .u32 (n.vers : Int)) ∧ X.cell? ⟨k, 2, none⟩ = some (.int .u32 (n.mode : Int)) ∧ X.cell? ⟨k, 3, none⟩ = some (.int .u32 (n.atm : Int)) ∧ X.cell? ⟨k, 4, none⟩ = some (.int .u32 (n.mtm : Int)) ∧ X.cell? ⟨k, 5, none⟩ = some (.string n.name) ∧ X.cell? ⟨k, 6, none⟩ = some (.string n.uid) ∧ X.cell? ⟨k, 7, none⟩ = some (.string n.gid) ∧ X.cell? ⟨k, 8, none⟩ = some (.string n.muid) ∧ X.cell? ⟨k, 9, none⟩ = some (.int .u64 (n.up : Int)) ∧ X.cell? ⟨k, 10, none⟩ = some (.bool n.gone) ∧ X.cell? ⟨k, 11, none⟩ = some (.string n.data) :=
  ⟨block_cell h 0, block_cell h 1, block_cell h 2, block_cell h 3, block_cell h 4, block_cell h 5, block_cell h 6, block_cell h 7, block_cell h 8, block_cell h 9, block_cell h 10, block_cell h 11⟩
def dirB (n : Nod) : Bool := !decide (n.mode &&& 2147483648 = 0)
theorem dir_mode (m : Nat) (h : m < 4294967296) : (bits .and .u32 (m : Int) 2147483648 != 0) = !decide (m &&& 2147483648 = 0) := by
  rw [show (2147483648 : Int) = ((2147483648 : Nat) : Int) from rfl, u32_and_nat _ _ h (by omega)]
  by_cases h0 : m &&& 2147483648 = 0
  · simp [h0]
  · simp [h0]
def bitsB (m : Nat) : Bool := decide (m &&& 536870400 = 0) && (decide (m &&& 2147483648 = 0) || decide (m &&& 1610612736 = 0))
theorem dec_int (a b : Nat) : ((a : Int) == (b : Int)) = decide (a = b) := by
  by_cases h : a = b
  · simp [h]
  · simp only [h, decide_false]
    simp; omega
theorem bits_p1 (m : Nat) (h : m < 4294967296) : (bits .andNot .u32 (m : Int) 3758096895 == 0) = decide (m &&& 536870400 = 0) := by
  rw [show (3758096895 : Int) = ((3758096895 : Nat) : Int) from rfl, u32_andNot_nat _ _ h (by omega)]
  exact dec_int _ 0
theorem bits_p2 (m : Nat) (h : m < 4294967296) : (bits .and .u32 (m : Int) 2147483648 == 0) = decide (m &&& 2147483648 = 0) := by
  rw [show (2147483648 : Int) = ((2147483648 : Nat) : Int) from rfl, u32_and_nat _ _ h (by omega)]
  exact dec_int _ 0
theorem bits_p3 (m : Nat) (h : m < 4294967296) : (bits .and .u32 (m : Int) 1610612736 == 0) = decide (m &&& 1610612736 = 0) := by
  rw [show (1610612736 : Int) = ((1610612736 : Nat) : Int) from rfl, u32_and_nat _ _ h (by omega)]
  exact dec_int _ 0
theorem nbits_any (m : Nat) (w : World) (hm : m < 4294967296) :
    Calls Tryz.prog 40 #[.int .u32 (m : Int)] w fun e w' => e = .returned (.bool (bitsB m)) ∧ w' = w := by
  have p1 := bits_p1 m hm
  have p2 := bits_p2 m hm
  have p3 := bits_p3 m hm
  have hE : Hid (bitsB m = (decide (m &&& 536870400 = 0) && (decide (m &&& 2147483648 = 0) || decide (m &&& 1610612736 = 0)))) := hid rfl
  generalize decide (m &&& 536870400 = 0) = b1 at *
  generalize decide (m &&& 2147483648 = 0) = b2 at *
  generalize decide (m &&& 1610612736 = 0) = b3 at *
  cases b1 <;> cases b2 <;> cases b3
  all_goals
    go_enter Tryz.func40, Tryz.ntmps40
    go_wp2_with fail
    go_ret
    exact ⟨ret_bool (by rw [hE.out]; rfl), rfl⟩

def zeroNode : Array Value := #[.int .u64 0, .int .u32 0, .int .u32 0, .int .u32 0, .int .u32 0, .string ⟨#[]⟩, .string ⟨#[]⟩, .string ⟨#[]⟩, .string ⟨#[]⟩, .int .u64 0, .bool false, .string ⟨#[]⟩]
set_option maxHeartbeats 1600000 in
theorem ofnode_any (n : Nod) (w : World) : Calls Tryz.prog 87 #[.agg n.cells] w fun e w' => e = .returned (.agg n.cells) ∧ Below w.heap.size w w' := by
  obtain ⟨W, hW⟩ : ∃ W, W = (w.alloc (.cells n.cells 89)).alloc (.cells zeroNode 157) := ⟨_, rfl⟩
  have hx : W.heap[w.heap.size]? = some (.cells n.cells 89 (0, 0)) := by rw [hW, heap_alloc_old _ _ (by simp), heap_alloc_new]
  have hy : W.heap[w.heap.size + 1]? = some (.cells zeroNode 157 (0, 0)) := by rw [hW]; exact heap2 _ _ _
  have hb0 : Below w.heap.size w W := by rw [hW]; exact ((Below.refl w.heap.size w).alloc (Nat.le_refl _) _).alloc (by simp) _
  have hbS : Hid (Below w.heap.size w (W.setRow (w.heap.size + 1) n.cells)) := hid (below_setRow hb0 (by omega) _)
  have hrow : Hid ((W.setRow (w.heap.size + 1) n.cells).heap[w.heap.size + 1]? = some (.cells n.cells 157 (0, 0))) := hid (setRow_heap _ _ _ _ _ _ hy)
  obtain ⟨d0, d1, d2, d3, d4, d5, d6, d7, d8, d9, d10, d11⟩ := nodS hx
  replace hy := hid hy
  replace hx := hid hx
  replace hb0 := hid hb0
  rw [nod_cells] at hW hbS hrow ⊢
  simp only [zeroNode] at hW
  go_enter Tryz.func87, Tryz.ntmps87
  go_wp2_with (first | (rw [← hW]; replace hW := hid hW) | (refine wpList_store_row (by rfl) 157 (.tmp 2) (.tmp 27) (by rfl) (w.heap.size + 1) n.cells (by rfl) (by rfl) 157 _ hy.out (by rfl) (by rfl) (nod_one n) ?_))
  refine bodyPost_ret (results_cell_row rfl _ _ (w.heap.size + 1) _ _ _ _ rfl hrow.out Tryz.underlying157 rfl (by kernel_rfl)) rfl ?_
  exact ⟨rfl, hbS.out⟩

end
end Go.Proofs.YtkefjeabckainaaGreat

namespace Go.Proofs.YtkefjeabckainaaGreat
section
set_option maxRecDepth 100000
set_option linter.unusedVariables false

def kidB (d : Nat) (n : Nod) : Bool := !n.gone && decide (n.path ≠ 1) && decide (n.up = d)
def getL (l : List Nod) (p : Nat) : Option Nod := l.find? fun n => decide (n.path = p)
def findL (l : List Nod) (d : Nat) (s : ByteArray) : Option Nod := l.find? fun n => kidB d n && decide (n.name = s)
def setL (l : List Nod) (x : Nod) : List Nod := l.filter (fun n => decide (n.path < x.path)) ++ x :: l.filter (fun n => decide (x.path < n.path))
def dropL (l : List Nod) (p : Nat) : List Nod := l.filter fun n => decide (n.path ≠ p)
def bytesL (l : List Nod) : Nat := (l.map (·.data.size)).sum
def SortL (l : List Nod) : Prop := l.Pairwise fun a b => a.path < b.path
def kidsOf (l : List Nod) (d : Nat) : List Nod := l.filter (kidB d)
def wayL (l : List Nod) : Nat → Nat → Option (List ByteArray)
  | 0, _ => none
  | k + 1, p => if p = 1 then some [] else match getL l p with
    | none => none
    | some n => if n.gone then none else (wayL l k n.up).map (n.name :: ·)

theorem SortL.tail {a : Nod} {l : List Nod} (h : SortL (a :: l)) : SortL l := (List.pairwise_cons.1 h).2
theorem SortL.head {a : Nod} {l : List Nod} (h : SortL (a :: l)) : ∀ b ∈ l, a.path < b.path := (List.pairwise_cons.1 h).1
theorem SortL.filter {l : List Nod} (h : SortL l) (p : Nod → Bool) : SortL (l.filter p) := List.Pairwise.filter p h
theorem SortL.inj {l : List Nod} (h : SortL l) : ∀ {a b : Nod}, a ∈ l → b ∈ l → a.path = b.path → a = b := by
  induction l with
  | nil => intro a b ha; cases ha
  | cons c l ih =>
    intro a b ha hb he
    rcases List.mem_cons.1 ha with ha | ha <;> rcases List.mem_cons.1 hb with hb | hb
    · rw [ha, hb]
    · have := h.head b hb; rw [ha] at he; omega
    · have := h.head a ha; rw [hb] at he; omega
    · exact ih h.tail ha hb he
theorem getL_some {l : List Nod} {p : Nat} {n : Nod} (h : getL l p = some n) : n ∈ l ∧ n.path = p := by
  have h1 := List.find?_some h
  exact ⟨List.mem_of_find?_eq_some h, by simpa using h1⟩
theorem getL_none {l : List Nod} {p : Nat} : getL l p = none ↔ ∀ n ∈ l, n.path ≠ p := by
  unfold getL; rw [List.find?_eq_none]; simp
theorem getL_of {l : List Nod} (h : SortL l) {n : Nod} (hn : n ∈ l) : getL l n.path = some n := by
  cases hg : getL l n.path with
  | none => exact absurd rfl (getL_none.1 hg n hn)
  | some m =>
    obtain ⟨h1, h2⟩ := getL_some hg
    rw [h.inj h1 hn h2]
theorem getL_iff {l : List Nod} (h : SortL l) {p : Nat} {n : Nod} : getL l p = some n ↔ n ∈ l ∧ n.path = p :=
  ⟨getL_some, fun ⟨h1, h2⟩ => by rw [← h2]; exact getL_of h h1⟩
theorem findL_some {l : List Nod} {d : Nat} {s : ByteArray} {n : Nod} (h : findL l d s = some n) : n ∈ l ∧ kidB d n = true ∧ n.name = s := by
  have h1 := List.find?_some h
  simp only [Bool.and_eq_true, decide_eq_true_eq] at h1
  exact ⟨List.mem_of_find?_eq_some h, h1.1, h1.2⟩
theorem findL_none {l : List Nod} {d : Nat} {s : ByteArray} : findL l d s = none ↔ ∀ n ∈ l, kidB d n = true → n.name ≠ s := by
  unfold findL; rw [List.find?_eq_none]
  simp only [Bool.and_eq_true, decide_eq_true_eq, not_and]
theorem mem_setL {l : List Nod} {x n : Nod} : n ∈ setL l x ↔ n = x ∨ (n ∈ l ∧ n.path ≠ x.path) := by
  unfold setL
  simp only [List.mem_append, List.mem_filter, List.mem_cons, decide_eq_true_eq]
  constructor
  · rintro (⟨h1, h2⟩ | h | ⟨h1, h2⟩)
    · exact .inr ⟨h1, by omega⟩
    · exact .inl h
    · exact .inr ⟨h1, by omega⟩
  · rintro (h | ⟨h1, h2⟩)
    · exact .inr (.inl h)
    · rcases Nat.lt_or_gt_of_ne h2 with h | h
      · exact .inl ⟨h1, h⟩
      · exact .inr (.inr ⟨h1, h⟩)
theorem mem_dropL {l : List Nod} {p : Nat} {n : Nod} : n ∈ dropL l p ↔ n ∈ l ∧ n.path ≠ p := by
  unfold dropL; simp [List.mem_filter]
theorem SortL.set {l : List Nod} (h : SortL l) (x : Nod) : SortL (setL l x) := by
  refine List.pairwise_append.2 ⟨h.filter _, List.pairwise_cons.2 ⟨fun b hb => by simpa using (List.mem_filter.1 hb).2, h.filter _⟩, fun a ha b hb => ?_⟩
  have h1 : a.path < x.path := by simpa using (List.mem_filter.1 ha).2
  rcases List.mem_cons.1 hb with e | hb
  · rw [e]; exact h1
  · have h2 : x.path < b.path := by simpa using (List.mem_filter.1 hb).2
    omega
theorem SortL.drop {l : List Nod} (h : SortL l) (p : Nat) : SortL (dropL l p) := h.filter _
theorem getL_set {l : List Nod} (h : SortL l) (x : Nod) (p : Nat) : getL (setL l x) p = if p = x.path then some x else getL l p := by
  by_cases e : p = x.path
  · rw [if_pos e, e]
    exact getL_of (h.set x) (mem_setL.2 (.inl rfl))
  · rw [if_neg e]
    cases hg : getL l p with
    | none =>
      rw [getL_none] at hg ⊢
      intro n hn
      rcases mem_setL.1 hn with hh | ⟨hh, _⟩
      · rw [hh]; exact fun a => e a.symm
      · exact hg n hh
    | some n =>
      obtain ⟨h1, h2⟩ := getL_some hg
      exact (getL_iff (h.set x)).2 ⟨mem_setL.2 (.inr ⟨h1, by rw [h2]; exact e⟩), h2⟩
theorem sort_about {l : List Nod} (h : SortL l) (p : Nat) : l = l.filter (fun n => decide (n.path < p)) ++ l.filter (fun n => decide (n.path = p)) ++ l.filter (fun n => decide (p < n.path)) := by
  induction l with
  | nil => rfl
  | cons a l ih =>
    have h1 := h.head
    rcases Nat.lt_trichotomy a.path p with hh | hh | hh
    · rw [List.filter_cons_of_pos (by simpa using hh), List.filter_cons_of_neg (by simp; omega), List.filter_cons_of_neg (by simp; omega)]
      conv => lhs; rw [ih h.tail]
      simp
    · have e1 : l.filter (fun n => decide (n.path < p)) = [] := List.filter_eq_nil_iff.2 fun b hb => by have := h1 b hb; simp; omega
      have e2 : l.filter (fun n => decide (n.path = p)) = [] := List.filter_eq_nil_iff.2 fun b hb => by have := h1 b hb; simp; omega
      have e3 : l.filter (fun n => decide (p < n.path)) = l := List.filter_eq_self.2 fun b hb => by have := h1 b hb; simp; omega
      rw [List.filter_cons_of_neg (by simp; omega), List.filter_cons_of_pos (by simpa using hh), List.filter_cons_of_neg (by simp; omega), e1, e2, e3]
      rfl
    · have e1 : l.filter (fun n => decide (n.path < p)) = [] := List.filter_eq_nil_iff.2 fun b hb => by have := h1 b hb; simp; omega
      have e2 : l.filter (fun n => decide (n.path = p)) = [] := List.filter_eq_nil_iff.2 fun b hb => by have := h1 b hb; simp; omega
      have e3 : l.filter (fun n => decide (p < n.path)) = l := List.filter_eq_self.2 fun b hb => by have := h1 b hb; simp; omega
      rw [List.filter_cons_of_neg (by simp; omega), List.filter_cons_of_neg (by simp; omega), List.filter_cons_of_pos (by simpa using hh), e1, e2, e3]
      rfl
def belowN (l : List Nod) (p : Nat) : Nat := (l.filter fun n => decide (n.path < p)).length
theorem below_get {l : List Nod} (h : SortL l) (p i : Nat) (hi : i < l.length) : (l[i].path < p ↔ i < belowN l p) := by
  have e := sort_about h p
  unfold belowN
  generalize hA : l.filter (fun n => decide (n.path < p)) = A at *
  generalize hB : l.filter (fun n => decide (n.path = p)) = B at *
  generalize hC : l.filter (fun n => decide (p < n.path)) = C at *
  subst e
  constructor
  · intro hlt
    by_cases hh : i < A.length
    · exact hh
    · exfalso
      have hm : (A ++ B ++ C)[i] ∈ B ++ C := by
        rw [show (A ++ B ++ C)[i] = (B ++ C)[i - A.length]'(by simp at hi ⊢; omega) by simp only [List.append_assoc]; rw [List.getElem_append_right (by omega)]]
        exact List.getElem_mem _
      generalize (A ++ B ++ C)[i] = n at hm hlt
      rcases List.mem_append.1 hm with hm | hm
      · rw [← hB] at hm; have := (List.mem_filter.1 hm).2; simp at this; omega
      · rw [← hC] at hm; have := (List.mem_filter.1 hm).2; simp at this; omega
  · intro hh
    have hm : (A ++ B ++ C)[i] ∈ A := by
      rw [show (A ++ B ++ C)[i] = A[i] by simp only [List.append_assoc]; rw [List.getElem_append_left hh]]
      exact List.getElem_mem _
    generalize (A ++ B ++ C)[i] = n at hm
    rw [← hA] at hm
    simpa using (List.mem_filter.1 hm).2
theorem belowN_le (l : List Nod) (p : Nat) : belowN l p ≤ l.length := List.length_filter_le _ _
theorem below_filter {l : List Nod} (h : SortL l) (p : Nat) : l.filter (fun n => decide (n.path < p)) = l.take (belowN l p) := by
  have e := congrArg (fun z => z.take (belowN l p)) (sort_about h p)
  simp only [List.append_assoc] at e
  rw [e]
  unfold belowN
  rw [List.take_left]
theorem below_drop {l : List Nod} (h : SortL l) (p : Nat) : l.drop (belowN l p) = l.filter (fun n => decide (n.path = p)) ++ l.filter (fun n => decide (p < n.path)) := by
  have e := congrArg (fun z => z.drop (belowN l p)) (sort_about h p)
  simp only [List.append_assoc] at e
  rw [e]
  unfold belowN
  rw [List.drop_left]
theorem get_at {l : List Nod} (h : SortL l) (p : Nat) : getL l p = (match l[belowN l p]? with | some n => if n.path = p then some n else none | none => none) := by
  cases hq : l[belowN l p]? with
  | none =>
    rw [getL_none]
    intro n hn
    obtain ⟨i, hi, rfl⟩ := List.mem_iff_getElem.1 hn
    have := List.getElem?_eq_none_iff.1 hq
    have hlt := (below_get h p i hi).2 (by omega)
    omega
  | some m =>
    obtain ⟨hi, hm⟩ := List.getElem?_eq_some_iff.1 hq
    have hge : ¬ m.path < p := fun hh => by rw [← hm] at hh; have := (below_get h p _ hi).1 hh; omega
    simp only
    by_cases e : m.path = p
    · rw [if_pos e, ← e]; exact getL_of h (by rw [← hm]; exact List.getElem_mem _)
    · rw [if_neg e, getL_none]
      intro n hn hp
      obtain ⟨i, hi2, rfl⟩ := List.mem_iff_getElem.1 hn
      have h1 : ¬ i < belowN l p := fun hh => by have := (below_get h p i hi2).2 hh; omega
      by_cases hii : i = belowN l p
      · subst hii; rw [hm] at hp; exact e hp
      · have := List.pairwise_iff_getElem.1 h (belowN l p) i hi hi2 (by omega)
        rw [hm] at this; omega
theorem set_hit {l : List Nod} (h : SortL l) (x : Nod) (hi : belowN l x.path < l.length) (he : l[belowN l x.path].path = x.path) : setL l x = l.set (belowN l x.path) x := by
  have e := sort_about h x.path
  have hb := below_filter h x.path
  have hd := below_drop h x.path
  have h1 : l.filter (fun n => decide (n.path = x.path)) = [l[belowN l x.path]] := by
    have hmem : l[belowN l x.path] ∈ l.filter (fun n => decide (n.path = x.path)) := List.mem_filter.2 ⟨List.getElem_mem _, by simpa using he⟩
    generalize hB : l.filter (fun n => decide (n.path = x.path)) = B at *
    have hs : SortL B := by rw [← hB]; exact h.filter _
    match B, hmem, hs with
    | [b], hm, _ => rw [List.mem_singleton.1 hm]
    | b :: c :: r, hm, hs =>
      have hb1 : b.path = x.path := by have : b ∈ l.filter (fun n => decide (n.path = x.path)) := by rw [hB]; simp
                                       simpa using (List.mem_filter.1 this).2
      have hc1 : c.path = x.path := by have : c ∈ l.filter (fun n => decide (n.path = x.path)) := by rw [hB]; simp
                                       simpa using (List.mem_filter.1 this).2
      have := hs.head c (by simp); omega
  rw [h1] at hd
  unfold setL
  rw [hb, List.set_eq_take_append_cons_drop, if_pos hi]
  congr 2
  rw [← List.drop_drop (j := belowN l x.path) (i := 1), hd]
  rfl
theorem set_miss {l : List Nod} (h : SortL l) (x : Nod) (he : getL l x.path = none) : setL l x = l.take (belowN l x.path) ++ x :: l.drop (belowN l x.path) := by
  have e := sort_about h x.path
  have hb := below_filter h x.path
  have h1 : l.filter (fun n => decide (n.path = x.path)) = [] := List.filter_eq_nil_iff.2 fun b hb => by simpa using getL_none.1 he b hb
  have hd := below_drop h x.path
  rw [h1, List.nil_append] at hd
  unfold setL
  rw [hb, hd]
end
end Go.Proofs.YtkefjeabckainaaGreat
