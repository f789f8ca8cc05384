/- What the reference's Check asks of a tree, and that this is what a valid tree is. Plain; no condition.
The reference's wrong. Conditions: numbers in their types; at most 900 nodes. -/
import Derived.Test.YtcmajcljafmphaaGreatKtA05
import Derived.Test.YtcmajcljafmphaaGreatKtA19
import Derived.Test.YtcmajcljafmphaaGreatKtA20
namespace Go.Proofs.YtcmajcljafmphaaGreat
section
set_option maxRecDepth 100000
set_option linter.unusedVariables false

structure WrOk (x : Nat) (l : List Nod) (i : Nat) (n : Nod) : Prop where
  prev : 0 < i → ∀ p, l[i - 1]? = some p → p.path < n.path
  next : n.path < x
  zero : n.path ≠ 0
  bits : bitsB n.mode = true
  empt : dirB n = true → n.data.size = 0
  nam : 0 < i → nameN n.name = 0
  ids : validB n.uid = true ∧ validB n.gid = true ∧ validB n.muid = true
  len : n.data.size ≤ 4096
  gon : n.gone = true → n.up = 0
  par : n.gone = false → ∃ u, getL l n.up = some u ∧ dirB u = true ∧ u.gone = false
  uniq : n.gone = false → ∀ k q, 1 ≤ k → k < i → l[k]? = some q → kidB n.up q = true → q.name ≠ n.name
structure ChkOk (t : Tr) : Prop where
  root : ∃ r, t.n[0]? = some r ∧ r.path = 1 ∧ dirB r = true ∧ r.up = 1 ∧ r.gone = false ∧ r.name = slashS
  each : ∀ i n, t.n[i]? = some n → WrOk t.next t.n i n
  few : t.n.length ≤ 64
  byt : bytesL t.n ≤ 16384
  way : ∀ n ∈ t.n, n.gone = false → (wayL t.n (t.n.length + 1) n.path).isSome = true
theorem sortL_of {l : List Nod} (h : ∀ i p q, l[i]? = some p → l[i + 1]? = some q → p.path < q.path) : SortL l := by
  have hs : ∀ d i p q, l[i]? = some p → l[i + d + 1]? = some q → p.path < q.path := by
    intro d
    induction d with
    | zero => exact h
    | succ d ih =>
      intro i p q hp hq
      have hlt := (List.getElem?_eq_some_iff.1 hq).1
      have e1 := ih i p l[i + d + 1] hp (List.getElem?_eq_getElem (by omega))
      have e2 := h (i + d + 1) _ q (List.getElem?_eq_getElem (by omega)) hq
      omega
  refine List.pairwise_iff_getElem.2 fun i j hi hj hij => ?_
  refine hs (j - i - 1) i _ _ (List.getElem?_eq_getElem hi) ?_
  rw [show i + (j - i - 1) + 1 = j by omega, List.getElem?_eq_getElem hj]
theorem ChkOk.sort {t : Tr} (h : ChkOk t) : SortL t.n := sortL_of fun i p q hp hq => (h.each _ _ hq).prev (by omega) p (by simpa using hp)
theorem sort_at {l : List Nod} (h : SortL l) {i j : Nat} {p q : Nod} (hp : l[i]? = some p) (hq : l[j]? = some q) (hij : i < j) : p.path < q.path := by
  obtain ⟨hi, rfl⟩ := List.getElem?_eq_some_iff.1 hp
  obtain ⟨hj, rfl⟩ := List.getElem?_eq_some_iff.1 hq
  exact List.pairwise_iff_getElem.1 h i j hi hj hij
theorem chk_ok {t : Tr} : ChkOk t ↔ OkC t := by
  constructor
  · intro h
    have hs := h.sort
    obtain ⟨r, r0, r1, r2, r3, r4, r5⟩ := h.root
    have at1 : ∀ i n, t.n[i]? = some n → n.path ≠ 1 → 0 < i := fun i n hn h1 => by
      rcases Nat.eq_zero_or_pos i with rfl | h0
      · rw [r0] at hn; cases hn; exact absurd r1 h1
      · exact h0
    have mem : ∀ n ∈ t.n, ∃ i, t.n[i]? = some n := fun n hn => List.getElem?_of_mem hn
    exact
      { sort := hs
        root := ⟨r, List.mem_of_getElem? r0, r1, r2, r3, r4, r5⟩
        low := fun n hn => by
          obtain ⟨i, hi⟩ := mem n hn
          have := (h.each i n hi).zero
          exact ⟨by omega, (h.each i n hi).next⟩
        bits := fun n hn => by obtain ⟨i, hi⟩ := mem n hn; exact (h.each i n hi).bits
        empt := fun n hn => by obtain ⟨i, hi⟩ := mem n hn; exact (h.each i n hi).empt
        nam := fun n hn h1 => by obtain ⟨i, hi⟩ := mem n hn; exact (h.each i n hi).nam (at1 i n hi h1)
        ids := fun n hn => by obtain ⟨i, hi⟩ := mem n hn; exact (h.each i n hi).ids
        len := fun n hn => by obtain ⟨i, hi⟩ := mem n hn; exact (h.each i n hi).len
        gon := fun n hn => by obtain ⟨i, hi⟩ := mem n hn; exact (h.each i n hi).gon
        par := fun n hn hg => by
          obtain ⟨i, hi⟩ := mem n hn
          obtain ⟨u, hu, h1, h2⟩ := (h.each i n hi).par hg
          obtain ⟨a, b⟩ := getL_some hu
          exact ⟨u, a, b, h1, h2⟩
        uniq := fun a ha b hb d h1 h2 he => by
          obtain ⟨i, hi⟩ := mem a ha
          obtain ⟨j, hj⟩ := mem b hb
          have g1 : a.gone = false ∧ a.path ≠ 1 ∧ a.up = d := by unfold kidB at h1; simpa [and_assoc] using h1
          have g2 : b.gone = false ∧ b.path ≠ 1 ∧ b.up = d := by unfold kidB at h2; simpa [and_assoc] using h2
          have i0 := at1 i a hi g1.2.1
          have j0 := at1 j b hj g2.2.1
          rcases Nat.lt_trichotomy i j with hlt | he2 | hlt
          · exact absurd he ((h.each j b hj).uniq g2.1 i a i0 hlt hi (by rw [g2.2.2]; exact h1))
          · subst he2; rw [hi] at hj; exact Option.some.inj hj
          · exact absurd he.symm ((h.each i a hi).uniq g1.1 j b j0 hlt hj (by rw [g1.2.2]; exact h2))
        few := h.few
        byt := h.byt
        way := fun n hn hg => leads_iff.2 (h.way n hn hg) }
  · intro h
    obtain ⟨r, rm, r1, r2, r3, r4, r5⟩ := h.root
    have r0 : t.n[0]? = some r := by
      obtain ⟨i, hi⟩ := List.getElem?_of_mem rm
      rcases Nat.eq_zero_or_pos i with rfl | hp
      · exact hi
      · have hlt := (List.getElem?_eq_some_iff.1 hi).1
        have e0 : t.n[0]? = some t.n[0] := List.getElem?_eq_getElem (by omega)
        have := sort_at h.sort e0 hi hp
        have := (h.low _ (List.mem_of_getElem? e0)).1
        omega
    have ne1 : ∀ i n, t.n[i]? = some n → 0 < i → n.path ≠ 1 := fun i n hn h0 => by
      have := sort_at h.sort r0 hn h0
      omega
    exact
      { root := ⟨r, r0, r1, r2, r3, r4, r5⟩
        each := fun i n hn =>
          have hm := List.mem_of_getElem? hn
          { prev := fun h0 p hp => sort_at h.sort hp hn (by omega)
            next := (h.low n hm).2
            zero := by have := (h.low n hm).1; omega
            bits := h.bits n hm
            empt := h.empt n hm
            nam := fun h0 => h.nam n hm (ne1 i n hn h0)
            ids := h.ids n hm
            len := h.len n hm
            gon := h.gon n hm
            par := fun hg => by
              obtain ⟨u, hu, h1, h2, h3⟩ := h.par n hm hg
              exact ⟨u, (getL_iff h.sort).2 ⟨hu, h1⟩, h2, h3⟩
            uniq := fun hg k q h1 hk hq hb he => by
              have hmq := List.mem_of_getElem? hq
              have h2 : kidB n.up n = true := by unfold kidB; simp [hg, ne1 i n hn (by omega)]
              have e := h.uniq q hmq n hm n.up hb h2 he
              subst e
              exact absurd (sort_at h.sort hq hn hk) (Nat.lt_irrefl _) }
        few := h.few
        byt := h.byt
        way := fun n hn hg => leads_iff.1 (h.way n hn hg) }
end
end Go.Proofs.YtcmajcljafmphaaGreat

namespace Go.Proofs.YtcmajcljafmphaaGreat
section
open Go.RowKit
set_option maxRecDepth 100000
set_option linter.unusedVariables false

def bad2 (x i : Nat) (n pr : Nod) : Bool := ((((((decide (0 < i)) && (decide (n.path ≤ pr.path))) || (decide (x ≤ n.path))) || (decide (n.path = 0))) || (!(bitsB n.mode))) || ((dirB n) && (!decide (n.data = ⟨#[]⟩))))
def bad4 (i : Nat) (n : Nod) : Bool := (((((decide (0 < i)) && (!decide ((nameN n.name) = 0))) || (!(validB n.uid))) || (!(validB n.gid))) || (!(validB n.muid)))
def bad18 (i : Nat) (n q : Nod) : Bool := (((kidB n.up q) && (decide (q.name = n.name))) && (decide (0 < i)))
def WrongPost (w : World) (x : Nat) (l : List Nod) (i : Nat) (n : Nod) (e : Ending) (w' : World) : Prop := ∃ E : Int, e = .returned (.int .i64 E) ∧ (E = 0 ↔ WrOk x l i n) ∧ Below w.heap.size w w'
theorem wrong_bad {w w' : World} {x i : Nat} {l : List Nod} {n : Nod} (E : Int) (hE : E ≠ 0) (h : ¬ WrOk x l i n) (hb : Below w.heap.size w w') : WrongPost w x l i n (.returned (.int .i64 E)) w' := ⟨E, rfl, ⟨fun h1 => absurd h1 hE, fun h1 => absurd h1 h⟩, hb⟩
theorem data_nil (s : ByteArray) : s = ⟨#[]⟩ ↔ s.size = 0 := by
  constructor
  · rintro rfl; rfl
  · intro h
    obtain ⟨d⟩ := s
    have : d = #[] := Array.eq_empty_of_size_eq_zero h
    rw [this]
theorem bad2_iff {x i : Nat} {l : List Nod} {n pr : Nod} (hpr : 0 < i → l[i - 1]? = some pr) : bad2 x i n pr = false ↔ (0 < i → ∀ p, l[i - 1]? = some p → p.path < n.path) ∧ n.path < x ∧ n.path ≠ 0 ∧ bitsB n.mode = true ∧ (dirB n = true → n.data.size = 0) := by
  unfold bad2
  rw [Bool.or_eq_false_iff, Bool.or_eq_false_iff, Bool.or_eq_false_iff, Bool.or_eq_false_iff]
  have e1 : ((decide (0 < i)) && (decide (n.path ≤ pr.path))) = false ↔ (0 < i → ∀ p, l[i - 1]? = some p → p.path < n.path) := by
    by_cases h0 : 0 < i
    · rw [hpr h0]; simp [h0]
    · simp [h0]
  have e2 : ((dirB n) && (!decide (n.data = ⟨#[]⟩))) = false ↔ (dirB n = true → n.data.size = 0) := by
    rw [← data_nil]
    cases dirB n <;> simp
  rw [e1, e2]
  simp only [decide_eq_false_iff_not, Nat.not_le, Bool.not_eq_false', and_assoc, ne_eq]
theorem bad4_iff {i : Nat} {n : Nod} : bad4 i n = false ↔ (0 < i → nameN n.name = 0) ∧ validB n.uid = true ∧ validB n.gid = true ∧ validB n.muid = true := by
  unfold bad4
  rw [Bool.or_eq_false_iff, Bool.or_eq_false_iff, Bool.or_eq_false_iff]
  by_cases h0 : 0 < i <;> simp [h0, and_assoc]
theorem bad18_iff {i : Nat} {n q : Nod} (h0 : 0 < i) : bad18 i n q = false ↔ (kidB n.up q = true → q.name ≠ n.name) := by
  unfold bad18
  cases kidB n.up q <;> simp [h0]
theorem wrong_not2 {x i : Nat} {l : List Nod} {n pr : Nod} (hpr : 0 < i → l[i - 1]? = some pr) (h : bad2 x i n pr = true) : ¬ WrOk x l i n := fun hw => by
  rw [(bad2_iff hpr).2 ⟨hw.prev, hw.next, hw.zero, hw.bits, hw.empt⟩] at h
  cases h
theorem wrong_not4 {x i : Nat} {l : List Nod} {n : Nod} (h : bad4 i n = true) : ¬ WrOk x l i n := fun hw => by
  rw [bad4_iff.2 ⟨hw.nam, hw.ids⟩] at h
  cases h
set_option maxHeartbeats 6400000 in
theorem rwrong_any (v : Value) (x : Nat) (l : List Nod) (i : Nat) (n : Nod) (w : World) (hv : NodsAt w v l) (hl : l.length ≤ 900) (hin : l[i]? = some n) (hok : ∀ n ∈ l, NodOk n) (hds : ∀ n ∈ l, n.data.size ≤ 1000000) :
    Calls Tryz.prog 47 #[.agg #[.int .u64 (x : Int), v], .int .i64 (i : Int)] w (WrongPost w x l i n) := by
  obtain ⟨a, c, rfl, g1, g2⟩ := hv.form
  unfold maxLen at g2
  have mixed : Tryz.prog.follows Departure.mixedOrders = true := by first | kernel_rfl | decide
  obtain ⟨W, hW⟩ : ∃ W, W = w.alloc (.cells #[.int .u64 (x : Int), .slice a l.length c] 49) := ⟨_, rfl⟩
  have hb0 : Below w.heap.size w W := by rw [hW]; exact (Below.refl w.heap.size w).alloc (Nat.le_refl _) _
  have hX0 : W.heap[w.heap.size]? = some (.cells #[.int .u64 (x : Int), .slice a l.length c] 49 (0, 0)) := by rw [hW, heap_alloc_new]
  obtain ⟨hi, hne⟩ := List.getElem?_eq_some_iff.1 hin
  obtain ⟨b, o, ha, hr⟩ := (hv.below hb0).range i hi
  subst ha
  have hiz : (i : Int) < (l.length : Int) := by omega
  rw [hne] at hr
  have hnok := hid (hok n (List.mem_of_getElem? hin))
  have hnd := hid (hds n (List.mem_of_getElem? hin))
  replace hin := hid hin
  clear hne
  have hnew := hid (heap_alloc_new W (.cells zeroNod.cells 83))
  obtain ⟨V, hV⟩ : ∃ V, V = boxR W n := ⟨_, rfl⟩
  have hbV : Below W.heap.size W V := by rw [hV]; exact boxR_below _ _
  have hN := hid (show V.heap[W.heap.size]? = some (.cells n.cells 83 (0, 0)) by rw [hV]; exact boxR_heap _ _)
  have hX := hid ((hbV.block _ (lt_of_block hX0)).trans hX0)
  have hBV := sn hb0 hbV
  have hS := hid (show WrS w.heap.size w.heap.size W.heap.size b o x c l n w V from ⟨hBV, hX.out, hN.out, hv.below hBV, hBV.size⟩)
  have e1 := block_cell hX0 1
  unfold boxR at hV
  rw [zeroNod_cells] at hV hnew
  replace hr := hid hr
  obtain ⟨pr, hpr⟩ : ∃ pr, 0 < i → l[i - 1]? = some pr := ⟨l[i - 1]'(by omega), fun _ => List.getElem?_eq_getElem _⟩
  replace hpr := hid hpr
  obtain ⟨bA, hbA⟩ : ∃ bA, bA = bad2 x i n pr := ⟨_, rfl⟩
  replace hbA := hid hbA
  replace hv := hid hv
  clear hbV hX0 hb0 hN hX hBV
  go_enter Tryz.func47, Tryz.ntmps47
  go_upto_region 2 with (first
    | (rw [← hW]; replace hW := hid hW)
    | (refine wpList_load_cells (by rfl) 83 (.tmp 12) (by rfl) b (o + i * 12) (by rfl) n.cells _ hr.out Tryz.underlying83 (by rfl) (by kernel_rfl) ?_)
    | (refine wpList_store_row (by rfl) 83 (.tmp 5) (.tmp 13) (by rfl) W.heap.size n.cells (by rfl) (by rfl) 83 _ hnew.out (by kernel_rfl) (by kernel_rfl) (nod_one n) ?_)
    | (rw [← hV]; replace hV := hid hV))
  try (rw [← hV]; replace hV := hid hV)
  try simp only [Act.put]
  clear hnew e1
  generalize W.heap.size = z at *
  go_cut [14] (fun s14 wx => s14 = .bool bA ∧ Hid (WrS w.heap.size w.heap.size z b o x c l n w wx))
  case first => as_aux_lemma =>
    rename_i J K' hJ hK
    refine wp_region_noPanic ?_
    refine wp_region_held (S := WrS w.heap.size w.heap.size z b o x c l n w) mixed ?_
    refine (show wpAnyH Tryz.prog .any ops_wr2 _ _ _ _ _ _ → _ from fun h => h) ?_
    refine wr2_all (x := x) (i := i) (l := l) (n := n) (w0 := w) (B := w.heap.size) (g := w.heap.size) (z := z) (b := b) (f := o) (c := c) (by omega) hi hnok.out hpr.out (fun _ _ _ _ _ h => h) (FrL.of_all (by rfl) rfl ⟨rfl, rfl, rfl, rfl, rfl, rfl, rfl, rfl, rfl, rfl, rfl, rfl, rfl, trivial⟩) hS.out.drew (fun a w' hF hS => ?_)
    have hE := hbA.out
    unfold bad2 at hE
    rw [← hE] at hF
    exact hK _ _ (Met.intro (hJ _ _ ⟨a.tmps.getD 9 undef, a.tmps.getD 10 undef, a.tmps.getD 11 undef, a.tmps.getD 12 undef, a.tmps.getD 13 undef, .bool bA, a.tmps.getD 15 undef, a.tmps.getD 16 undef, a.tmps.getD 17 undef, a.tmps.getD 18 undef, a.tmps.getD 19 undef, a.tmps.getD 20 undef, a.tmps.getD 21 undef, a.tmps.getD 22 undef, a.tmps.getD 23 undef, a.tmps.getD 24 undef, a.tmps.getD 25 undef, a.tmps.getD 26 undef, a.tmps.getD 27 undef, a.tmps.getD 28 undef, a.tmps.getD 29 undef, a.tmps.getD 30 undef, a.tmps.getD 31 undef, a.tmps.getD 32 undef, a.tmps.getD 33 undef, a.tmps.getD 34 undef, a.tmps.getD 35 undef, a.tmps.getD 36 undef, a.tmps.getD 37 undef, a.tmps.getD 38 undef, a.tmps.getD 39 undef, a.tmps.getD 40 undef, a.tmps.getD 41 undef, a.tmps.getD 42 undef, a.tmps.getD 43 undef, a.tmps.getD 44 undef, a.tmps.getD 45 undef, a.tmps.getD 46 undef, a.tmps.getD 47 undef, a.tmps.getD 48 undef, a.tmps.getD 49 undef, a.tmps.getD 50 undef, a.tmps.getD 51 undef, a.tmps.getD 52 undef, a.tmps.getD 53 undef, a.tmps.getD 54 undef, a.tmps.getD 55 undef, a.tmps.getD 57 undef, a.tmps.getD 58 undef, a.tmps.getD 59 undef, a.tmps.getD 60 undef, a.tmps.getD 61 undef, a.tmps.getD 62 undef, a.tmps.getD 63 undef, a.tmps.getD 64 undef, a.tmps.getD 65 undef, a.tmps.getD 66 undef, a.tmps.getD 67 undef, a.tmps.getD 68 undef, a.tmps.getD 69 undef, a.tmps.getD 70 undef, a.tmps.getD 71 undef, a.tmps.getD 72 undef, a.tmps.getD 73 undef, a.tmps.getD 74 undef, a.tmps.getD 75 undef, a.tmps.getD 76 undef, a.tmps.getD 77 undef, a.tmps.getD 78 undef, a.tmps.getD 79 undef, a.tmps.getD 80 undef, a.tmps.getD 81 undef, a.tmps.getD 82 undef, a.tmps.getD 84 undef, a.tmps.getD 85 undef, a.tmps.getD 86 undef, a.tmps.getD 87 undef, a.tmps.getD 89 undef, a.tmps.getD 90 undef, a.tmps.getD 91 undef, a.tmps.getD 92 undef, a.tmps.getD 93 undef, a.tmps.getD 94 undef, a.tmps.getD 95 undef, a.tmps.getD 97 undef, a.tmps.getD 98 undef, a.tmps.getD 99 undef, a.tmps.getD 100 undef, a.tmps.getD 101 undef, a.tmps.getD 102 undef, a.tmps.getD 103 undef, a.tmps.getD 104 undef, a.tmps.getD 105 undef, a.tmps.getD 106 undef, a.tmps.getD 107 undef, a.tmps.getD 108 undef, a.tmps.getD 109 undef, a.tmps.getD 110 undef, a.tmps.getD 111 undef, a.tmps.getD 112 undef, a.tmps.getD 113 undef, a.tmps.getD 114 undef, a.tmps.getD 115 undef, a.tmps.getD 116 undef, a.tmps.getD 117 undef, a.tmps.getD 118 undef, a.tmps.getD 119 undef, a.tmps.getD 120 undef, a.tmps.getD 121 undef, a.tmps.getD 122 undef, a.tmps.getD 123 undef, a.tmps.getD 124 undef, a.tmps.getD 125 undef, a.tmps.getD 126 undef, a.tmps.getD 127 undef, a.tmps.getD 128 undef, a.tmps.getD 129 undef, a.tmps.getD 130 undef, a.tmps.getD 131 undef, a.tmps.getD 132 undef, a.tmps.getD 133 undef, a.tmps.getD 134 undef, a.tmps.getD 135 undef, a.tmps.getD 136 undef, a.tmps.getD 137 undef, a.tmps.getD 138 undef, a.tmps.getD 139 undef, a.tmps.getD 140 undef, a.tmps.getD 141 undef, a.tmps.getD 142 undef, a.tmps.getD 143 undef, a.tmps.getD 144 undef, ⟨rfl, hid hS⟩, frame_eq hF _ (by rfl) ⟨hF.get 0 _ rfl, hF.get 1 _ rfl, hF.get 2 _ rfl, hF.get 3 _ rfl, hF.get 4 _ rfl, hF.get 5 _ rfl, hF.get 6 _ rfl, hF.get 7 _ rfl, hF.get 8 _ rfl, hF.any 9 (by decide), hF.any 10 (by decide), hF.any 11 (by decide), hF.any 12 (by decide), hF.any 13 (by decide), hF.get 14 _ rfl, hF.any 15 (by decide), hF.any 16 (by decide), hF.any 17 (by decide), hF.any 18 (by decide), hF.any 19 (by decide), hF.any 20 (by decide), hF.any 21 (by decide), hF.any 22 (by decide), hF.any 23 (by decide), hF.any 24 (by decide), hF.any 25 (by decide), hF.any 26 (by decide), hF.any 27 (by decide), hF.any 28 (by decide), hF.any 29 (by decide), hF.any 30 (by decide), hF.any 31 (by decide), hF.any 32 (by decide), hF.any 33 (by decide), hF.any 34 (by decide), hF.any 35 (by decide), hF.any 36 (by decide), hF.any 37 (by decide), hF.any 38 (by decide), hF.any 39 (by decide), hF.any 40 (by decide), hF.any 41 (by decide), hF.any 42 (by decide), hF.any 43 (by decide), hF.any 44 (by decide), hF.any 45 (by decide), hF.any 46 (by decide), hF.any 47 (by decide), hF.any 48 (by decide), hF.any 49 (by decide), hF.any 50 (by decide), hF.any 51 (by decide), hF.any 52 (by decide), hF.any 53 (by decide), hF.any 54 (by decide), hF.any 55 (by decide), hF.get 56 _ rfl, hF.any 57 (by decide), hF.any 58 (by decide), hF.any 59 (by decide), hF.any 60 (by decide), hF.any 61 (by decide), hF.any 62 (by decide), hF.any 63 (by decide), hF.any 64 (by decide), hF.any 65 (by decide), hF.any 66 (by decide), hF.any 67 (by decide), hF.any 68 (by decide), hF.any 69 (by decide), hF.any 70 (by decide), hF.any 71 (by decide), hF.any 72 (by decide), hF.any 73 (by decide), hF.any 74 (by decide), hF.any 75 (by decide), hF.any 76 (by decide), hF.any 77 (by decide), hF.any 78 (by decide), hF.any 79 (by decide), hF.any 80 (by decide), hF.any 81 (by decide), hF.any 82 (by decide), hF.get 83 _ rfl, hF.any 84 (by decide), hF.any 85 (by decide), hF.any 86 (by decide), hF.any 87 (by decide), hF.get 88 _ rfl, hF.any 89 (by decide), hF.any 90 (by decide), hF.any 91 (by decide), hF.any 92 (by decide), hF.any 93 (by decide), hF.any 94 (by decide), hF.any 95 (by decide), hF.get 96 _ rfl, hF.any 97 (by decide), hF.any 98 (by decide), hF.any 99 (by decide), hF.any 100 (by decide), hF.any 101 (by decide), hF.any 102 (by decide), hF.any 103 (by decide), hF.any 104 (by decide), hF.any 105 (by decide), hF.any 106 (by decide), hF.any 107 (by decide), hF.any 108 (by decide), hF.any 109 (by decide), hF.any 110 (by decide), hF.any 111 (by decide), hF.any 112 (by decide), hF.any 113 (by decide), hF.any 114 (by decide), hF.any 115 (by decide), hF.any 116 (by decide), hF.any 117 (by decide), hF.any 118 (by decide), hF.any 119 (by decide), hF.any 120 (by decide), hF.any 121 (by decide), hF.any 122 (by decide), hF.any 123 (by decide), hF.any 124 (by decide), hF.any 125 (by decide), hF.any 126 (by decide), hF.any 127 (by decide), hF.any 128 (by decide), hF.any 129 (by decide), hF.any 130 (by decide), hF.any 131 (by decide), hF.any 132 (by decide), hF.any 133 (by decide), hF.any 134 (by decide), hF.any 135 (by decide), hF.any 136 (by decide), hF.any 137 (by decide), hF.any 138 (by decide), hF.any 139 (by decide), hF.any 140 (by decide), hF.any 141 (by decide), hF.any 142 (by decide), hF.any 143 (by decide), hF.any 144 (by decide), trivial⟩⟩))
  case rest =>
    clear hS
    obtain ⟨rfl, hS⟩ := hcut
    cases bA with
    | true =>
      have hno := hid (wrong_not2 hpr.out hbA.out.symm)
      go_wp2_with fail
      go_ret
      exact wrong_bad 1 (by omega) hno.out hS.out.bel
    | false =>
      have hb2 := hid ((bad2_iff (x := x) (l := l) hpr.out).1 hbA.out.symm)
      obtain ⟨bB, hbB⟩ : ∃ bB, bB = bad4 i n := ⟨_, rfl⟩
      replace hbB := hid hbB
      clear hbA
      go_upto_region 4 with fail
      go_cut [56] (fun s56 wx => s56 = .bool bB ∧ Hid (WrS w.heap.size w.heap.size z b o x c l n w wx))
      case first => as_aux_lemma =>
        rename_i J K' hJ hK
        refine wp_region_list ?_
        refine (show wpList Tryz.prog ops_wr4 _ l_wr4 _ _ → _ from fun h => h) ?_
        refine wr4_all (x := x) (i := i) (l := l) (n := n) (w0 := w) (B := w.heap.size) (g := w.heap.size) (z := z) (b := b) (f := o) (c := c) (by omega) hi hnok.out  (FrL.of_all (by rfl) rfl ⟨rfl, rfl, rfl, rfl, rfl, rfl, rfl, rfl, rfl, rfl, rfl, rfl, rfl, trivial⟩) hS.out (fun a w' hF hS => ?_)
        have hE := hbB.out
        unfold bad4 at hE
        rw [← hE] at hF
        exact hK _ _ (Met.intro (hJ _ _ ⟨a.tmps.getD 9 undef, a.tmps.getD 10 undef, a.tmps.getD 11 undef, a.tmps.getD 12 undef, a.tmps.getD 13 undef, a.tmps.getD 15 undef, a.tmps.getD 16 undef, a.tmps.getD 17 undef, a.tmps.getD 18 undef, a.tmps.getD 19 undef, a.tmps.getD 20 undef, a.tmps.getD 21 undef, a.tmps.getD 22 undef, a.tmps.getD 23 undef, a.tmps.getD 24 undef, a.tmps.getD 25 undef, a.tmps.getD 26 undef, a.tmps.getD 27 undef, a.tmps.getD 28 undef, a.tmps.getD 29 undef, a.tmps.getD 30 undef, a.tmps.getD 31 undef, a.tmps.getD 32 undef, a.tmps.getD 33 undef, a.tmps.getD 34 undef, a.tmps.getD 35 undef, a.tmps.getD 36 undef, a.tmps.getD 37 undef, a.tmps.getD 38 undef, a.tmps.getD 39 undef, a.tmps.getD 40 undef, a.tmps.getD 41 undef, a.tmps.getD 42 undef, a.tmps.getD 43 undef, a.tmps.getD 44 undef, a.tmps.getD 45 undef, a.tmps.getD 46 undef, a.tmps.getD 47 undef, a.tmps.getD 48 undef, a.tmps.getD 49 undef, a.tmps.getD 50 undef, a.tmps.getD 51 undef, a.tmps.getD 52 undef, a.tmps.getD 53 undef, a.tmps.getD 54 undef, a.tmps.getD 55 undef, .bool bB, a.tmps.getD 57 undef, a.tmps.getD 58 undef, a.tmps.getD 59 undef, a.tmps.getD 60 undef, a.tmps.getD 61 undef, a.tmps.getD 62 undef, a.tmps.getD 63 undef, a.tmps.getD 64 undef, a.tmps.getD 65 undef, a.tmps.getD 66 undef, a.tmps.getD 67 undef, a.tmps.getD 68 undef, a.tmps.getD 69 undef, a.tmps.getD 70 undef, a.tmps.getD 71 undef, a.tmps.getD 72 undef, a.tmps.getD 73 undef, a.tmps.getD 74 undef, a.tmps.getD 75 undef, a.tmps.getD 76 undef, a.tmps.getD 77 undef, a.tmps.getD 78 undef, a.tmps.getD 79 undef, a.tmps.getD 80 undef, a.tmps.getD 81 undef, a.tmps.getD 82 undef, a.tmps.getD 84 undef, a.tmps.getD 85 undef, a.tmps.getD 86 undef, a.tmps.getD 87 undef, a.tmps.getD 89 undef, a.tmps.getD 90 undef, a.tmps.getD 91 undef, a.tmps.getD 92 undef, a.tmps.getD 93 undef, a.tmps.getD 94 undef, a.tmps.getD 95 undef, a.tmps.getD 97 undef, a.tmps.getD 98 undef, a.tmps.getD 99 undef, a.tmps.getD 100 undef, a.tmps.getD 101 undef, a.tmps.getD 102 undef, a.tmps.getD 103 undef, a.tmps.getD 104 undef, a.tmps.getD 105 undef, a.tmps.getD 106 undef, a.tmps.getD 107 undef, a.tmps.getD 108 undef, a.tmps.getD 109 undef, a.tmps.getD 110 undef, a.tmps.getD 111 undef, a.tmps.getD 112 undef, a.tmps.getD 113 undef, a.tmps.getD 114 undef, a.tmps.getD 115 undef, a.tmps.getD 116 undef, a.tmps.getD 117 undef, a.tmps.getD 118 undef, a.tmps.getD 119 undef, a.tmps.getD 120 undef, a.tmps.getD 121 undef, a.tmps.getD 122 undef, a.tmps.getD 123 undef, a.tmps.getD 124 undef, a.tmps.getD 125 undef, a.tmps.getD 126 undef, a.tmps.getD 127 undef, a.tmps.getD 128 undef, a.tmps.getD 129 undef, a.tmps.getD 130 undef, a.tmps.getD 131 undef, a.tmps.getD 132 undef, a.tmps.getD 133 undef, a.tmps.getD 134 undef, a.tmps.getD 135 undef, a.tmps.getD 136 undef, a.tmps.getD 137 undef, a.tmps.getD 138 undef, a.tmps.getD 139 undef, a.tmps.getD 140 undef, a.tmps.getD 141 undef, a.tmps.getD 142 undef, a.tmps.getD 143 undef, a.tmps.getD 144 undef, ⟨rfl, hid hS⟩, frame_eq hF _ (by rfl) ⟨hF.get 0 _ rfl, hF.get 1 _ rfl, hF.get 2 _ rfl, hF.get 3 _ rfl, hF.get 4 _ rfl, hF.get 5 _ rfl, hF.get 6 _ rfl, hF.get 7 _ rfl, hF.get 8 _ rfl, hF.any 9 (by decide), hF.any 10 (by decide), hF.any 11 (by decide), hF.any 12 (by decide), hF.any 13 (by decide), hF.get 14 _ rfl, hF.any 15 (by decide), hF.any 16 (by decide), hF.any 17 (by decide), hF.any 18 (by decide), hF.any 19 (by decide), hF.any 20 (by decide), hF.any 21 (by decide), hF.any 22 (by decide), hF.any 23 (by decide), hF.any 24 (by decide), hF.any 25 (by decide), hF.any 26 (by decide), hF.any 27 (by decide), hF.any 28 (by decide), hF.any 29 (by decide), hF.any 30 (by decide), hF.any 31 (by decide), hF.any 32 (by decide), hF.any 33 (by decide), hF.any 34 (by decide), hF.any 35 (by decide), hF.any 36 (by decide), hF.any 37 (by decide), hF.any 38 (by decide), hF.any 39 (by decide), hF.any 40 (by decide), hF.any 41 (by decide), hF.any 42 (by decide), hF.any 43 (by decide), hF.any 44 (by decide), hF.any 45 (by decide), hF.any 46 (by decide), hF.any 47 (by decide), hF.any 48 (by decide), hF.any 49 (by decide), hF.any 50 (by decide), hF.any 51 (by decide), hF.any 52 (by decide), hF.any 53 (by decide), hF.any 54 (by decide), hF.any 55 (by decide), hF.get 56 _ rfl, hF.any 57 (by decide), hF.any 58 (by decide), hF.any 59 (by decide), hF.any 60 (by decide), hF.any 61 (by decide), hF.any 62 (by decide), hF.any 63 (by decide), hF.any 64 (by decide), hF.any 65 (by decide), hF.any 66 (by decide), hF.any 67 (by decide), hF.any 68 (by decide), hF.any 69 (by decide), hF.any 70 (by decide), hF.any 71 (by decide), hF.any 72 (by decide), hF.any 73 (by decide), hF.any 74 (by decide), hF.any 75 (by decide), hF.any 76 (by decide), hF.any 77 (by decide), hF.any 78 (by decide), hF.any 79 (by decide), hF.any 80 (by decide), hF.any 81 (by decide), hF.any 82 (by decide), hF.get 83 _ rfl, hF.any 84 (by decide), hF.any 85 (by decide), hF.any 86 (by decide), hF.any 87 (by decide), hF.get 88 _ rfl, hF.any 89 (by decide), hF.any 90 (by decide), hF.any 91 (by decide), hF.any 92 (by decide), hF.any 93 (by decide), hF.any 94 (by decide), hF.any 95 (by decide), hF.get 96 _ rfl, hF.any 97 (by decide), hF.any 98 (by decide), hF.any 99 (by decide), hF.any 100 (by decide), hF.any 101 (by decide), hF.any 102 (by decide), hF.any 103 (by decide), hF.any 104 (by decide), hF.any 105 (by decide), hF.any 106 (by decide), hF.any 107 (by decide), hF.any 108 (by decide), hF.any 109 (by decide), hF.any 110 (by decide), hF.any 111 (by decide), hF.any 112 (by decide), hF.any 113 (by decide), hF.any 114 (by decide), hF.any 115 (by decide), hF.any 116 (by decide), hF.any 117 (by decide), hF.any 118 (by decide), hF.any 119 (by decide), hF.any 120 (by decide), hF.any 121 (by decide), hF.any 122 (by decide), hF.any 123 (by decide), hF.any 124 (by decide), hF.any 125 (by decide), hF.any 126 (by decide), hF.any 127 (by decide), hF.any 128 (by decide), hF.any 129 (by decide), hF.any 130 (by decide), hF.any 131 (by decide), hF.any 132 (by decide), hF.any 133 (by decide), hF.any 134 (by decide), hF.any 135 (by decide), hF.any 136 (by decide), hF.any 137 (by decide), hF.any 138 (by decide), hF.any 139 (by decide), hF.any 140 (by decide), hF.any 141 (by decide), hF.any 142 (by decide), hF.any 143 (by decide), hF.any 144 (by decide), trivial⟩⟩))
      case rest =>
        clear hS
        obtain ⟨rfl, hS⟩ := hcut
        cases bB with
        | true =>
          have hno := hid (wrong_not4 (x := x) (l := l) hbB.out.symm)
          go_wp2_with fail
          go_ret
          exact wrong_bad 6 (by omega) hno.out hS.out.bel
        | false =>
          have hb4 := hid (bad4_iff.1 hbB.out.symm)
          clear hbB
          have z9 : wc.cell? ⟨z, 9, none⟩ = some (.int .u64 (n.up : Int)) := block_cell hS.out.nod 9
          have z10 : wc.cell? ⟨z, 10, none⟩ = some (.bool n.gone) := block_cell hS.out.nod 10
          have z11 : wc.cell? ⟨z, 11, none⟩ = some (.string n.data) := block_cell hS.out.nod 11
          by_cases hlen : 4096 < n.data.size
          · have q1 : (4096 : Int) < (n.data.size : Int) := by omega
            go_wp2_with fail
            go_ret
            exact wrong_bad 3 (by omega) (fun hw => by have := hw.len; omega) hS.out.bel
          have q1 : ¬ (4096 : Int) < (n.data.size : Int) := by omega
          rcases hg : n.gone with _ | _
          · rw [hg] at z10
            have hget := hid (rget_any _ x l n.up wc hS.out.row (by omega))
            have e0 := block_cell hS.out.box 0
            have e1 := block_cell hS.out.box 1
            replace hlen := hid hlen
            replace hg := hid hg
            go_wp2_with fail
            refine hget.out.mono ?_
            rintro e w2 ⟨rfl, hb2⟩
            have hS2 := hid (hS.out.next hb2)
            obtain ⟨m, hm⟩ : ∃ m, m = getN l n.up := ⟨_, rfl⟩
            rw [← hm]
            replace hm := hid hm
            have hnew := hid (heap_alloc_new w2 (.cells zeroNod.cells 83))
            obtain ⟨V2, hV2⟩ : ∃ V, V = boxR w2 m := ⟨_, rfl⟩
            have hbV2 : Below w2.heap.size w2 V2 := by rw [hV2]; exact boxR_below _ _
            have hM := hid (show V2.heap[w2.heap.size]? = some (.cells m.cells 83 (0, 0)) by rw [hV2]; exact boxR_heap _ _)
            have hS3 := hid (hS2.out.next hbV2)
            unfold boxR at hV2
            rw [zeroNod_cells] at hV2 hnew
            clear hbV2 hb2 z9 z10 z11 e0 e1 hS hS2
            obtain ⟨bS, hbS⟩ : ∃ bS, bS = (getL l n.up).isSome := ⟨_, rfl⟩
            rw [← hbS]
            replace hbS := hid hbS
            cases bS with
            | false =>
              have hR := hid (show ¬ WrOk x l i n from fun hw => by
                obtain ⟨u, hu, _⟩ := hw.par hg.out
                have := hbS.out
                rw [hu] at this
                cases this)
              go_wp2_with (first
                | (refine wpList_store_row (by rfl) 83 (.tmp 6) (.tmp 104) (by rfl) w2.heap.size m.cells (by rfl) (by rfl) 83 _ hnew.out (by kernel_rfl) (by kernel_rfl) (nod_one m) ?_)
                | (rw [← hV2]; replace hV2 := hid hV2))
              go_ret
              exact wrong_bad 13 (by omega) hR.out hS3.out.bel
            | true =>
              have hgm := hid (show getL l n.up = some m from by
                rw [hm.out]
                unfold getN
                have := hbS.out
                revert this
                cases getL l n.up <;> simp)
              have hdir := hid (rdir_any m V2 (hok m (getL_some hgm.out).1))
              obtain ⟨bD, hbD⟩ : ∃ bD, bD = dirB m := ⟨_, rfl⟩
              rw [← hbD] at hdir
              rw [nod_cells] at hdir
              replace hbD := hid hbD
              have m0 : V2.cell? ⟨w2.heap.size, 0, none⟩ = some (.int .u64 (m.path : Int)) := block_cell hM.out 0
              have m1 : V2.cell? ⟨w2.heap.size, 1, none⟩ = some (.int .u32 (m.vers : Int)) := block_cell hM.out 1
              have m2 : V2.cell? ⟨w2.heap.size, 2, none⟩ = some (.int .u32 (m.mode : Int)) := block_cell hM.out 2
              have m3 : V2.cell? ⟨w2.heap.size, 3, none⟩ = some (.int .u32 (m.atm : Int)) := block_cell hM.out 3
              have m4 : V2.cell? ⟨w2.heap.size, 4, none⟩ = some (.int .u32 (m.mtm : Int)) := block_cell hM.out 4
              have m5 : V2.cell? ⟨w2.heap.size, 5, none⟩ = some (.string m.name) := block_cell hM.out 5
              have m6 : V2.cell? ⟨w2.heap.size, 6, none⟩ = some (.string m.uid) := block_cell hM.out 6
              have m7 : V2.cell? ⟨w2.heap.size, 7, none⟩ = some (.string m.gid) := block_cell hM.out 7
              have m8 : V2.cell? ⟨w2.heap.size, 8, none⟩ = some (.string m.muid) := block_cell hM.out 8
              have m9 : V2.cell? ⟨w2.heap.size, 9, none⟩ = some (.int .u64 (m.up : Int)) := block_cell hM.out 9
              have m10 : V2.cell? ⟨w2.heap.size, 10, none⟩ = some (.bool m.gone) := block_cell hM.out 10
              have m11 : V2.cell? ⟨w2.heap.size, 11, none⟩ = some (.string m.data) := block_cell hM.out 11
              go_wp2_with (first
                | (refine wpList_store_row (by rfl) 83 (.tmp 6) (.tmp 104) (by rfl) w2.heap.size m.cells (by rfl) (by rfl) 83 _ hnew.out (by kernel_rfl) (by kernel_rfl) (nod_one m) ?_)
                | (rw [← hV2]; replace hV2 := hid hV2))
              refine hdir.out.mono ?_
              rintro e w3 ⟨rfl, hb3⟩
              have hS4 := hid (hS3.out.next hb3)
              have m10' : w3.cell? ⟨w2.heap.size, 10, none⟩ = some (.bool m.gone) := by rw [show w3.cell? ⟨w2.heap.size, 10, none⟩ = V2.cell? ⟨w2.heap.size, 10, none⟩ from by have := hb3.block _ (lt_of_block hM.out); simp [World.cell?, this]]; exact m10
              clear m0 m1 m2 m3 m4 m5 m6 m7 m8 m9 m10 m11 hdir hS3 hb3 hnew
              cases bD with
              | false =>
                have hR := hid (show ¬ WrOk x l i n from fun hw => by
                  obtain ⟨u, hu, h1, _⟩ := hw.par hg.out
                  rw [hgm.out] at hu; cases hu
                  rw [← hbD.out] at h1; cases h1)
                go_wp2_with fail
                go_ret
                exact wrong_bad 13 (by omega) hR.out hS4.out.bel
              | true =>
                rcases hmg : m.gone with _ | _
                · rw [hmg] at m10'
                  have hpar := hid (show n.gone = false → ∃ u, getL l n.up = some u ∧ dirB u = true ∧ u.gone = false from fun _ => ⟨m, hgm.out, hbD.out.symm, hmg⟩)
                  clear hmg
                  go_wp2_with fail
                  go_loopw [8] (fun kv wr => ∃ k : Nat, 1 ≤ k ∧ kv = .int .i64 (k : Int) ∧ Hid (WrS w.heap.size w.heap.size z b o x c l n w wr) ∧ Hid (k ≤ i + 1) ∧ Hid (∀ j q, 1 ≤ j → j < k → l[j]? = some q → kidB n.up q = true → q.name ≠ n.name)) (fun kv _ => i + 1 - (intOf kv).toNat)
                  case atStart => exact ⟨1, by omega, rfl, hS4, hid (by omega), hid (fun j q h1 h2 => by omega)⟩
                  case round =>
                    clear hS4 m10' q1
                    obtain ⟨k, hk1, rfl, hS, hki, hall⟩ := hrel
                    by_cases hlt : k < i
                    · obtain ⟨q, hq⟩ : ∃ q, l[k]? = some q := ⟨l[k]'(by omega), List.getElem?_eq_getElem _⟩
                      obtain ⟨bC, hbC⟩ : ∃ bC, bC = bad18 i n q := ⟨_, rfl⟩
                      replace hbC := hid hbC
                      replace hq := hid hq
                      have q3 : (k : Int) < (i : Int) := by omega
                      go_wp2_with fail
                      go_cut [144] (fun s wx => s = .bool bC ∧ Hid (WrS w.heap.size w.heap.size z b o x c l n w wx))
                      case first => as_aux_lemma =>
                        rename_i J K' hJ hK
                        refine wp_region_noPanic ?_
                        refine wp_region_held (S := WrS w.heap.size w.heap.size z b o x c l n w) mixed ?_
                        refine (show wpAnyH Tryz.prog .any ops_wr18 _ _ _ _ _ _ → _ from fun h => h) ?_
                        refine wr18_all (x := x) (i := i) (k := k) (l := l) (n := n) (w0 := w) (B := w.heap.size) (g := w.heap.size) (z := z) (b := b) (f := o) (c := c) (by omega) hi hnok.out (show k < l.length by omega) hq.out (fun _ _ _ _ _ h => h) (FrL.of_all (by rfl) rfl ⟨rfl, rfl, rfl, rfl, rfl, rfl, rfl, rfl, rfl, rfl, rfl, rfl, rfl, rfl, rfl, rfl, rfl, rfl, rfl, rfl, rfl, rfl, rfl, rfl, rfl, rfl, rfl, rfl, rfl, rfl, rfl, rfl, rfl, rfl, rfl, rfl, rfl, rfl, rfl, rfl, rfl, rfl, rfl, rfl, rfl, rfl, rfl, rfl, rfl, rfl, rfl, rfl, rfl, rfl, rfl, rfl, rfl, rfl, rfl, rfl, rfl, rfl, rfl, rfl, rfl, rfl, rfl, rfl, rfl, rfl, rfl, rfl, rfl, rfl, rfl, rfl, rfl, rfl, rfl, rfl, rfl, rfl, rfl, rfl, rfl, rfl, rfl, rfl, rfl, rfl, rfl, rfl, rfl, rfl, rfl, rfl, rfl, rfl, rfl, rfl, rfl, rfl, rfl, rfl, rfl, rfl, rfl, rfl, rfl, rfl, rfl, rfl, rfl, rfl, rfl, rfl, rfl, trivial⟩) hS.out.drew (fun a w' hF hS => ?_)
                        have hE := hbC.out
                        unfold bad18 at hE
                        rw [← hE] at hF
                        exact hK _ _ (Met.intro (hJ _ _ ⟨a.tmps.getD 117 undef, a.tmps.getD 118 undef, a.tmps.getD 119 undef, a.tmps.getD 120 undef, a.tmps.getD 121 undef, a.tmps.getD 122 undef, a.tmps.getD 123 undef, a.tmps.getD 124 undef, a.tmps.getD 125 undef, a.tmps.getD 126 undef, a.tmps.getD 127 undef, a.tmps.getD 128 undef, a.tmps.getD 129 undef, a.tmps.getD 130 undef, a.tmps.getD 131 undef, a.tmps.getD 132 undef, a.tmps.getD 133 undef, a.tmps.getD 134 undef, a.tmps.getD 135 undef, a.tmps.getD 136 undef, a.tmps.getD 137 undef, a.tmps.getD 138 undef, a.tmps.getD 139 undef, a.tmps.getD 140 undef, a.tmps.getD 141 undef, a.tmps.getD 142 undef, a.tmps.getD 143 undef, .bool bC, ⟨rfl, hid hS⟩, frame_eq hF _ (by rfl) ⟨hF.get 0 _ rfl, hF.get 1 _ rfl, hF.get 2 _ rfl, hF.get 3 _ rfl, hF.get 4 _ rfl, hF.get 5 _ rfl, hF.get 6 _ rfl, hF.get 7 _ rfl, hF.get 8 _ rfl, hF.get 9 _ rfl, hF.get 10 _ rfl, hF.get 11 _ rfl, hF.get 12 _ rfl, hF.get 13 _ rfl, hF.get 14 _ rfl, hF.get 15 _ rfl, hF.get 16 _ rfl, hF.get 17 _ rfl, hF.get 18 _ rfl, hF.get 19 _ rfl, hF.get 20 _ rfl, hF.get 21 _ rfl, hF.get 22 _ rfl, hF.get 23 _ rfl, hF.get 24 _ rfl, hF.get 25 _ rfl, hF.get 26 _ rfl, hF.get 27 _ rfl, hF.get 28 _ rfl, hF.get 29 _ rfl, hF.get 30 _ rfl, hF.get 31 _ rfl, hF.get 32 _ rfl, hF.get 33 _ rfl, hF.get 34 _ rfl, hF.get 35 _ rfl, hF.get 36 _ rfl, hF.get 37 _ rfl, hF.get 38 _ rfl, hF.get 39 _ rfl, hF.get 40 _ rfl, hF.get 41 _ rfl, hF.get 42 _ rfl, hF.get 43 _ rfl, hF.get 44 _ rfl, hF.get 45 _ rfl, hF.get 46 _ rfl, hF.get 47 _ rfl, hF.get 48 _ rfl, hF.get 49 _ rfl, hF.get 50 _ rfl, hF.get 51 _ rfl, hF.get 52 _ rfl, hF.get 53 _ rfl, hF.get 54 _ rfl, hF.get 55 _ rfl, hF.get 56 _ rfl, hF.get 57 _ rfl, hF.get 58 _ rfl, hF.get 59 _ rfl, hF.get 60 _ rfl, hF.get 61 _ rfl, hF.get 62 _ rfl, hF.get 63 _ rfl, hF.get 64 _ rfl, hF.get 65 _ rfl, hF.get 66 _ rfl, hF.get 67 _ rfl, hF.get 68 _ rfl, hF.get 69 _ rfl, hF.get 70 _ rfl, hF.get 71 _ rfl, hF.get 72 _ rfl, hF.get 73 _ rfl, hF.get 74 _ rfl, hF.get 75 _ rfl, hF.get 76 _ rfl, hF.get 77 _ rfl, hF.get 78 _ rfl, hF.get 79 _ rfl, hF.get 80 _ rfl, hF.get 81 _ rfl, hF.get 82 _ rfl, hF.get 83 _ rfl, hF.get 84 _ rfl, hF.get 85 _ rfl, hF.get 86 _ rfl, hF.get 87 _ rfl, hF.get 88 _ rfl, hF.get 89 _ rfl, hF.get 90 _ rfl, hF.get 91 _ rfl, hF.get 92 _ rfl, hF.get 93 _ rfl, hF.get 94 _ rfl, hF.get 95 _ rfl, hF.get 96 _ rfl, hF.get 97 _ rfl, hF.get 98 _ rfl, hF.get 99 _ rfl, hF.get 100 _ rfl, hF.get 101 _ rfl, hF.get 102 _ rfl, hF.get 103 _ rfl, hF.get 104 _ rfl, hF.get 105 _ rfl, hF.get 106 _ rfl, hF.get 107 _ rfl, hF.get 108 _ rfl, hF.get 109 _ rfl, hF.get 110 _ rfl, hF.get 111 _ rfl, hF.get 112 _ rfl, hF.get 113 _ rfl, hF.get 114 _ rfl, hF.get 115 _ rfl, hF.get 116 _ rfl, hF.any 117 (by decide), hF.any 118 (by decide), hF.any 119 (by decide), hF.any 120 (by decide), hF.any 121 (by decide), hF.any 122 (by decide), hF.any 123 (by decide), hF.any 124 (by decide), hF.any 125 (by decide), hF.any 126 (by decide), hF.any 127 (by decide), hF.any 128 (by decide), hF.any 129 (by decide), hF.any 130 (by decide), hF.any 131 (by decide), hF.any 132 (by decide), hF.any 133 (by decide), hF.any 134 (by decide), hF.any 135 (by decide), hF.any 136 (by decide), hF.any 137 (by decide), hF.any 138 (by decide), hF.any 139 (by decide), hF.any 140 (by decide), hF.any 141 (by decide), hF.any 142 (by decide), hF.any 143 (by decide), hF.get 144 _ rfl, trivial⟩⟩))
                      case rest =>
                        clear hS
                        obtain ⟨rfl, hS⟩ := hcut
                        cases bC with
                        | true =>
                          have hR := hid (show ¬ WrOk x l i n from fun hw => by
                            have h1 := (bad18_iff (n := n) (q := q) (show 0 < i by omega)).2 (fun h => hw.uniq hg.out k q hk1 hlt hq.out h)
                            rw [← hbC.out] at h1; cases h1)
                          go_wp2_with fail
                          go_ret
                          exact wrong_bad 7 (by omega) hR.out hS.out.bel
                        | false =>
                          have h1 := hid ((bad18_iff (show 0 < i by omega)).1 hbC.out.symm)
                          go_wp2_with fail
                          go_roundw
                          case rel =>
                            refine ⟨k + 1, by omega, by go_num, hS, hid (by omega), hid (fun j p g1 g2 gp gb => ?_)⟩
                            rcases Nat.lt_or_ge j k with h | h
                            · exact hall.out j p g1 h gp gb
                            · obtain rfl : j = k := by omega
                              rw [hq.out] at gp; cases gp
                              exact h1.out gb
                          case measure => simp [intOf]; omega
                    · have q3 : ¬ (k : Int) < (i : Int) := by omega
                      have hR := hid (show WrOk x l i n from ⟨hb2.out.1, hb2.out.2.1, hb2.out.2.2.1, hb2.out.2.2.2.1, hb2.out.2.2.2.2, hb4.out.1, hb4.out.2, by have := hlen.out; omega, fun h => by rw [hg.out] at h; (cases h), hpar.out, fun _ j p g1 g2 gp gb => hall.out j p g1 (by omega) gp gb⟩)
                      go_wp2_with fail
                      go_ret
                      exact ⟨0, rfl, ⟨fun _ => hR.out, fun _ => rfl⟩, hS.out.bel⟩
                · rw [hmg] at m10'
                  have hR := hid (show ¬ WrOk x l i n from fun hw => by
                    obtain ⟨u, hu, _, h1⟩ := hw.par hg.out
                    rw [hgm.out] at hu; cases hu
                    rw [hmg] at h1; cases h1)
                  clear hmg
                  go_wp2_with fail
                  go_ret
                  exact wrong_bad 13 (by omega) hR.out hS4.out.bel
          · rw [hg] at z10
            by_cases hu : n.up = 0
            · have q2 : ((n.up : Int) != 0) = false := by simp [hu]
              replace hlen := hid hlen
              have hR := hid (show WrOk x l i n from ⟨hb2.out.1, hb2.out.2.1, hb2.out.2.2.1, hb2.out.2.2.2.1, hb2.out.2.2.2.2, hb4.out.1, hb4.out.2, by have := hlen.out; omega, fun _ => hu, fun h => by rw [hg] at h; (cases h), fun h => by rw [hg] at h; (cases h)⟩)
              clear hg hu
              go_wp2_with fail
              go_ret
              exact ⟨0, rfl, ⟨fun _ => hR.out, fun _ => rfl⟩, hS.out.bel⟩
            · have q2 : ((n.up : Int) != 0) = true := by simp; omega
              have hR := hid (show ¬ WrOk x l i n from fun hw => hu (hw.gon hg))
              clear hg hu
              go_wp2_with fail
              go_ret
              exact wrong_bad 1 (by omega) hR.out hS.out.bel
end
end Go.Proofs.YtcmajcljafmphaaGreat
