/- What the reference's Check asks of a tree, and that this is what a valid tree is. Plain; no condition. -/
import Derived.Test.YtpmlhmficmillaaBunTP
namespace Go.Proofs.Ytpmlhmficmillaa
set_option maxRecDepth 100000
set_option linter.unusedVariables false

structure WrOk (x : Nat) (l : List Nod) (i : Nat) (n : Nod) : Prop where
  prev : 0 < i → ∀ p, l[i - 1]? = some p → p.path < n.path
  next : n.path < x
  zero : n.path ≠ 0
  bits : bitsB n.mode = true
  empt : dirB n = true → n.data.size = 0
  nam : 0 < i → nameN n.name = 0
  ids : validB n.uid = true ∧ validB n.gid = true ∧ validB n.muid = true
  len : n.data.size ≤ 4096
  gon : n.gone = true → n.up = 0
  par : n.gone = false → ∃ u, getL l n.up = some u ∧ dirB u = true ∧ u.gone = false
  uniq : n.gone = false → ∀ k q, 1 ≤ k → k < i → l[k]? = some q → kidB n.up q = true → q.name ≠ n.name
structure ChkOk (t : Tr) : Prop where
  root : ∃ r, t.n[0]? = some r ∧ r.path = 1 ∧ dirB r = true ∧ r.up = 1 ∧ r.gone = false ∧ r.name = slashS
  each : ∀ i n, t.n[i]? = some n → WrOk t.next t.n i n
  few : t.n.length ≤ 64
  byt : bytesL t.n ≤ 16384
  way : ∀ n ∈ t.n, n.gone = false → (wayL t.n (t.n.length + 1) n.path).isSome = true
theorem sortL_of {l : List Nod} (h : ∀ i p q, l[i]? = some p → l[i + 1]? = some q → p.path < q.path) : SortL l := by
  have hs : ∀ d i p q, l[i]? = some p → l[i + d + 1]? = some q → p.path < q.path := by
    intro d
    induction d with
    | zero => exact h
    | succ d ih =>
      intro i p q hp hq
      have hlt := (List.getElem?_eq_some_iff.1 hq).1
      have e1 := ih i p l[i + d + 1] hp (List.getElem?_eq_getElem (by omega))
      have e2 := h (i + d + 1) _ q (List.getElem?_eq_getElem (by omega)) hq
      omega
  refine List.pairwise_iff_getElem.2 fun i j hi hj hij => ?_
  refine hs (j - i - 1) i _ _ (List.getElem?_eq_getElem hi) ?_
  rw [show i + (j - i - 1) + 1 = j by omega, List.getElem?_eq_getElem hj]
theorem ChkOk.sort {t : Tr} (h : ChkOk t) : SortL t.n := sortL_of fun i p q hp hq => (h.each _ _ hq).prev (by omega) p (by simpa using hp)
theorem sort_at {l : List Nod} (h : SortL l) {i j : Nat} {p q : Nod} (hp : l[i]? = some p) (hq : l[j]? = some q) (hij : i < j) : p.path < q.path := by
  obtain ⟨hi, rfl⟩ := List.getElem?_eq_some_iff.1 hp
  obtain ⟨hj, rfl⟩ := List.getElem?_eq_some_iff.1 hq
  exact List.pairwise_iff_getElem.1 h i j hi hj hij
theorem chk_ok {t : Tr} : ChkOk t ↔ OkC t := by
  constructor
  · intro h
    have hs := h.sort
    obtain ⟨r, r0, r1, r2, r3, r4, r5⟩ := h.root
    have at1 : ∀ i n, t.n[i]? = some n → n.path ≠ 1 → 0 < i := fun i n hn h1 => by
      rcases Nat.eq_zero_or_pos i with rfl | h0
      · rw [r0] at hn; cases hn; exact absurd r1 h1
      · exact h0
    have mem : ∀ n ∈ t.n, ∃ i, t.n[i]? = some n := fun n hn => List.getElem?_of_mem hn
    exact
      { sort := hs
        root := ⟨r, List.mem_of_getElem? r0, r1, r2, r3, r4, r5⟩
        low := fun n hn => by
          obtain ⟨i, hi⟩ := mem n hn
          have := (h.each i n hi).zero
          exact ⟨by omega, (h.each i n hi).next⟩
        bits := fun n hn => by obtain ⟨i, hi⟩ := mem n hn; exact (h.each i n hi).bits
        empt := fun n hn => by obtain ⟨i, hi⟩ := mem n hn; exact (h.each i n hi).empt
        nam := fun n hn h1 => by obtain ⟨i, hi⟩ := mem n hn; exact (h.each i n hi).nam (at1 i n hi h1)
        ids := fun n hn => by obtain ⟨i, hi⟩ := mem n hn; exact (h.each i n hi).ids
        len := fun n hn => by obtain ⟨i, hi⟩ := mem n hn; exact (h.each i n hi).len
        gon := fun n hn => by obtain ⟨i, hi⟩ := mem n hn; exact (h.each i n hi).gon
        par := fun n hn hg => by
          obtain ⟨i, hi⟩ := mem n hn
          obtain ⟨u, hu, h1, h2⟩ := (h.each i n hi).par hg
          obtain ⟨a, b⟩ := getL_some hu
          exact ⟨u, a, b, h1, h2⟩
        uniq := fun a ha b hb d h1 h2 he => by
          obtain ⟨i, hi⟩ := mem a ha
          obtain ⟨j, hj⟩ := mem b hb
          have g1 : a.gone = false ∧ a.path ≠ 1 ∧ a.up = d := by unfold kidB at h1; simpa [and_assoc] using h1
          have g2 : b.gone = false ∧ b.path ≠ 1 ∧ b.up = d := by unfold kidB at h2; simpa [and_assoc] using h2
          have i0 := at1 i a hi g1.2.1
          have j0 := at1 j b hj g2.2.1
          rcases Nat.lt_trichotomy i j with hlt | he2 | hlt
          · exact absurd he ((h.each j b hj).uniq g2.1 i a i0 hlt hi (by rw [g2.2.2]; exact h1))
          · subst he2; rw [hi] at hj; exact Option.some.inj hj
          · exact absurd he.symm ((h.each i a hi).uniq g1.1 j b j0 hlt hj (by rw [g1.2.2]; exact h2))
        few := h.few
        byt := h.byt
        way := fun n hn hg => leads_iff.2 (h.way n hn hg) }
  · intro h
    obtain ⟨r, rm, r1, r2, r3, r4, r5⟩ := h.root
    have r0 : t.n[0]? = some r := by
      obtain ⟨i, hi⟩ := List.getElem?_of_mem rm
      rcases Nat.eq_zero_or_pos i with rfl | hp
      · exact hi
      · have hlt := (List.getElem?_eq_some_iff.1 hi).1
        have e0 : t.n[0]? = some t.n[0] := List.getElem?_eq_getElem (by omega)
        have := sort_at h.sort e0 hi hp
        have := (h.low _ (List.mem_of_getElem? e0)).1
        omega
    have ne1 : ∀ i n, t.n[i]? = some n → 0 < i → n.path ≠ 1 := fun i n hn h0 => by
      have := sort_at h.sort r0 hn h0
      omega
    exact
      { root := ⟨r, r0, r1, r2, r3, r4, r5⟩
        each := fun i n hn =>
          have hm := List.mem_of_getElem? hn
          { prev := fun h0 p hp => sort_at h.sort hp hn (by omega)
            next := (h.low n hm).2
            zero := by have := (h.low n hm).1; omega
            bits := h.bits n hm
            empt := h.empt n hm
            nam := fun h0 => h.nam n hm (ne1 i n hn h0)
            ids := h.ids n hm
            len := h.len n hm
            gon := h.gon n hm
            par := fun hg => by
              obtain ⟨u, hu, h1, h2, h3⟩ := h.par n hm hg
              exact ⟨u, (getL_iff h.sort).2 ⟨hu, h1⟩, h2, h3⟩
            uniq := fun hg k q h1 hk hq hb he => by
              have hmq := List.mem_of_getElem? hq
              have h2 : kidB n.up n = true := by unfold kidB; simp [hg, ne1 i n hn (by omega)]
              have e := h.uniq q hmq n hm n.up hb h2 he
              subst e
              exact absurd (sort_at h.sort hq hn hk) (Nat.lt_irrefl _) }
        few := h.few
        byt := h.byt
        way := fun n hn hg => leads_iff.1 (h.way n hn hg) }
end Go.Proofs.Ytpmlhmficmillaa
