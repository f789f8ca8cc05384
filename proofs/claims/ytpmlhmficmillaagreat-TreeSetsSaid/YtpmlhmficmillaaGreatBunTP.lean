/- Trees as lists of nodes: looking up, setting, dropping; what a tree must be to be valid. Plain.
What is done to a tree, and that a valid tree stays valid. Plain. -/
import Derived.Test.YtpmlhmficmillaaGreatNodBZ
import Derived.Test.YtpmlhmficmillaaGreatBunA
import Derived.Test.YtpmlhmficmillaaGreatBunVT
namespace Go.Proofs.YtpmlhmficmillaaGreat
section
set_option maxRecDepth 100000
set_option linter.unusedVariables false

def kidB (d : Nat) (n : Nod) : Bool := !n.gone && decide (n.path ≠ 1) && decide (n.up = d)
def getL (l : List Nod) (p : Nat) : Option Nod := l.find? fun n => decide (n.path = p)
def findL (l : List Nod) (d : Nat) (s : ByteArray) : Option Nod := l.find? fun n => kidB d n && decide (n.name = s)
def setL (l : List Nod) (x : Nod) : List Nod := l.filter (fun n => decide (n.path < x.path)) ++ x :: l.filter (fun n => decide (x.path < n.path))
def dropL (l : List Nod) (p : Nat) : List Nod := l.filter fun n => decide (n.path ≠ p)
def bytesL (l : List Nod) : Nat := (l.map (·.data.size)).sum
def SortL (l : List Nod) : Prop := l.Pairwise fun a b => a.path < b.path
def kidsOf (l : List Nod) (d : Nat) : List Nod := l.filter (kidB d)
def wayL (l : List Nod) : Nat → Nat → Option (List ByteArray)
  | 0, _ => none
  | k + 1, p => if p = 1 then some [] else match getL l p with
    | none => none
    | some n => if n.gone then none else (wayL l k n.up).map (n.name :: ·)

theorem SortL.tail {a : Nod} {l : List Nod} (h : SortL (a :: l)) : SortL l := (List.pairwise_cons.1 h).2
theorem SortL.head {a : Nod} {l : List Nod} (h : SortL (a :: l)) : ∀ b ∈ l, a.path < b.path := (List.pairwise_cons.1 h).1
theorem SortL.filter {l : List Nod} (h : SortL l) (p : Nod → Bool) : SortL (l.filter p) := List.Pairwise.filter p h
theorem SortL.inj {l : List Nod} (h : SortL l) : ∀ {a b : Nod}, a ∈ l → b ∈ l → a.path = b.path → a = b := by
  induction l with
  | nil => intro a b ha; cases ha
  | cons c l ih =>
    intro a b ha hb he
    rcases List.mem_cons.1 ha with ha | ha <;> rcases List.mem_cons.1 hb with hb | hb
    · rw [ha, hb]
    · have := h.head b hb; rw [ha] at he; omega
    · have := h.head a ha; rw [hb] at he; omega
    · exact ih h.tail ha hb he
theorem getL_some {l : List Nod} {p : Nat} {n : Nod} (h : getL l p = some n) : n ∈ l ∧ n.path = p := by
  have h1 := List.find?_some h
  exact ⟨List.mem_of_find?_eq_some h, by simpa using h1⟩
theorem getL_none {l : List Nod} {p : Nat} : getL l p = none ↔ ∀ n ∈ l, n.path ≠ p := by
  unfold getL; rw [List.find?_eq_none]; simp
theorem getL_of {l : List Nod} (h : SortL l) {n : Nod} (hn : n ∈ l) : getL l n.path = some n := by
  cases hg : getL l n.path with
  | none => exact absurd rfl (getL_none.1 hg n hn)
  | some m =>
    obtain ⟨h1, h2⟩ := getL_some hg
    rw [h.inj h1 hn h2]
theorem getL_iff {l : List Nod} (h : SortL l) {p : Nat} {n : Nod} : getL l p = some n ↔ n ∈ l ∧ n.path = p :=
  ⟨getL_some, fun ⟨h1, h2⟩ => by rw [← h2]; exact getL_of h h1⟩
theorem findL_none {l : List Nod} {d : Nat} {s : ByteArray} : findL l d s = none ↔ ∀ n ∈ l, kidB d n = true → n.name ≠ s := by
  unfold findL; rw [List.find?_eq_none]
  simp only [Bool.and_eq_true, decide_eq_true_eq, not_and]
theorem mem_setL {l : List Nod} {x n : Nod} : n ∈ setL l x ↔ n = x ∨ (n ∈ l ∧ n.path ≠ x.path) := by
  unfold setL
  simp only [List.mem_append, List.mem_filter, List.mem_cons, decide_eq_true_eq]
  constructor
  · rintro (⟨h1, h2⟩ | h | ⟨h1, h2⟩)
    · exact .inr ⟨h1, by omega⟩
    · exact .inl h
    · exact .inr ⟨h1, by omega⟩
  · rintro (h | ⟨h1, h2⟩)
    · exact .inr (.inl h)
    · rcases Nat.lt_or_gt_of_ne h2 with h | h
      · exact .inl ⟨h1, h⟩
      · exact .inr (.inr ⟨h1, h⟩)
theorem SortL.set {l : List Nod} (h : SortL l) (x : Nod) : SortL (setL l x) := by
  refine List.pairwise_append.2 ⟨h.filter _, List.pairwise_cons.2 ⟨fun b hb => by simpa using (List.mem_filter.1 hb).2, h.filter _⟩, fun a ha b hb => ?_⟩
  have h1 : a.path < x.path := by simpa using (List.mem_filter.1 ha).2
  rcases List.mem_cons.1 hb with e | hb
  · rw [e]; exact h1
  · have h2 : x.path < b.path := by simpa using (List.mem_filter.1 hb).2
    omega
theorem SortL.drop {l : List Nod} (h : SortL l) (p : Nat) : SortL (dropL l p) := h.filter _
theorem getL_set {l : List Nod} (h : SortL l) (x : Nod) (p : Nat) : getL (setL l x) p = if p = x.path then some x else getL l p := by
  by_cases e : p = x.path
  · rw [if_pos e, e]
    exact getL_of (h.set x) (mem_setL.2 (.inl rfl))
  · rw [if_neg e]
    cases hg : getL l p with
    | none =>
      rw [getL_none] at hg ⊢
      intro n hn
      rcases mem_setL.1 hn with hh | ⟨hh, _⟩
      · rw [hh]; exact fun a => e a.symm
      · exact hg n hh
    | some n =>
      obtain ⟨h1, h2⟩ := getL_some hg
      exact (getL_iff (h.set x)).2 ⟨mem_setL.2 (.inr ⟨h1, by rw [h2]; exact e⟩), h2⟩
theorem sort_about {l : List Nod} (h : SortL l) (p : Nat) : l = l.filter (fun n => decide (n.path < p)) ++ l.filter (fun n => decide (n.path = p)) ++ l.filter (fun n => decide (p < n.path)) := by
  induction l with
  | nil => rfl
  | cons a l ih =>
    have h1 := h.head
    rcases Nat.lt_trichotomy a.path p with hh | hh | hh
    · rw [List.filter_cons_of_pos (by simpa using hh), List.filter_cons_of_neg (by simp; omega), List.filter_cons_of_neg (by simp; omega)]
      conv => lhs; rw [ih h.tail]
      simp
    · have e1 : l.filter (fun n => decide (n.path < p)) = [] := List.filter_eq_nil_iff.2 fun b hb => by have := h1 b hb; simp; omega
      have e2 : l.filter (fun n => decide (n.path = p)) = [] := List.filter_eq_nil_iff.2 fun b hb => by have := h1 b hb; simp; omega
      have e3 : l.filter (fun n => decide (p < n.path)) = l := List.filter_eq_self.2 fun b hb => by have := h1 b hb; simp; omega
      rw [List.filter_cons_of_neg (by simp; omega), List.filter_cons_of_pos (by simpa using hh), List.filter_cons_of_neg (by simp; omega), e1, e2, e3]
      rfl
    · have e1 : l.filter (fun n => decide (n.path < p)) = [] := List.filter_eq_nil_iff.2 fun b hb => by have := h1 b hb; simp; omega
      have e2 : l.filter (fun n => decide (n.path = p)) = [] := List.filter_eq_nil_iff.2 fun b hb => by have := h1 b hb; simp; omega
      have e3 : l.filter (fun n => decide (p < n.path)) = l := List.filter_eq_self.2 fun b hb => by have := h1 b hb; simp; omega
      rw [List.filter_cons_of_neg (by simp; omega), List.filter_cons_of_neg (by simp; omega), List.filter_cons_of_pos (by simpa using hh), e1, e2, e3]
      rfl
def belowN (l : List Nod) (p : Nat) : Nat := (l.filter fun n => decide (n.path < p)).length
theorem below_get {l : List Nod} (h : SortL l) (p i : Nat) (hi : i < l.length) : (l[i].path < p ↔ i < belowN l p) := by
  have e := sort_about h p
  unfold belowN
  generalize hA : l.filter (fun n => decide (n.path < p)) = A at *
  generalize hB : l.filter (fun n => decide (n.path = p)) = B at *
  generalize hC : l.filter (fun n => decide (p < n.path)) = C at *
  subst e
  constructor
  · intro hlt
    by_cases hh : i < A.length
    · exact hh
    · exfalso
      have hm : (A ++ B ++ C)[i] ∈ B ++ C := by
        rw [show (A ++ B ++ C)[i] = (B ++ C)[i - A.length]'(by simp at hi ⊢; omega) by simp only [List.append_assoc]; rw [List.getElem_append_right (by omega)]]
        exact List.getElem_mem _
      generalize (A ++ B ++ C)[i] = n at hm hlt
      rcases List.mem_append.1 hm with hm | hm
      · rw [← hB] at hm; have := (List.mem_filter.1 hm).2; simp at this; omega
      · rw [← hC] at hm; have := (List.mem_filter.1 hm).2; simp at this; omega
  · intro hh
    have hm : (A ++ B ++ C)[i] ∈ A := by
      rw [show (A ++ B ++ C)[i] = A[i] by simp only [List.append_assoc]; rw [List.getElem_append_left hh]]
      exact List.getElem_mem _
    generalize (A ++ B ++ C)[i] = n at hm
    rw [← hA] at hm
    simpa using (List.mem_filter.1 hm).2
theorem belowN_le (l : List Nod) (p : Nat) : belowN l p ≤ l.length := List.length_filter_le _ _
theorem below_filter {l : List Nod} (h : SortL l) (p : Nat) : l.filter (fun n => decide (n.path < p)) = l.take (belowN l p) := by
  have e := congrArg (fun z => z.take (belowN l p)) (sort_about h p)
  simp only [List.append_assoc] at e
  rw [e]
  unfold belowN
  rw [List.take_left]
theorem below_drop {l : List Nod} (h : SortL l) (p : Nat) : l.drop (belowN l p) = l.filter (fun n => decide (n.path = p)) ++ l.filter (fun n => decide (p < n.path)) := by
  have e := congrArg (fun z => z.drop (belowN l p)) (sort_about h p)
  simp only [List.append_assoc] at e
  rw [e]
  unfold belowN
  rw [List.drop_left]
theorem get_at {l : List Nod} (h : SortL l) (p : Nat) : getL l p = (match l[belowN l p]? with | some n => if n.path = p then some n else none | none => none) := by
  cases hq : l[belowN l p]? with
  | none =>
    rw [getL_none]
    intro n hn
    obtain ⟨i, hi, rfl⟩ := List.mem_iff_getElem.1 hn
    have := List.getElem?_eq_none_iff.1 hq
    have hlt := (below_get h p i hi).2 (by omega)
    omega
  | some m =>
    obtain ⟨hi, hm⟩ := List.getElem?_eq_some_iff.1 hq
    have hge : ¬ m.path < p := fun hh => by rw [← hm] at hh; have := (below_get h p _ hi).1 hh; omega
    simp only
    by_cases e : m.path = p
    · rw [if_pos e, ← e]; exact getL_of h (by rw [← hm]; exact List.getElem_mem _)
    · rw [if_neg e, getL_none]
      intro n hn hp
      obtain ⟨i, hi2, rfl⟩ := List.mem_iff_getElem.1 hn
      have h1 : ¬ i < belowN l p := fun hh => by have := (below_get h p i hi2).2 hh; omega
      by_cases hii : i = belowN l p
      · subst hii; rw [hm] at hp; exact e hp
      · have := List.pairwise_iff_getElem.1 h (belowN l p) i hi hi2 (by omega)
        rw [hm] at this; omega
theorem set_hit {l : List Nod} (h : SortL l) (x : Nod) (hi : belowN l x.path < l.length) (he : l[belowN l x.path].path = x.path) : setL l x = l.set (belowN l x.path) x := by
  have e := sort_about h x.path
  have hb := below_filter h x.path
  have hd := below_drop h x.path
  have h1 : l.filter (fun n => decide (n.path = x.path)) = [l[belowN l x.path]] := by
    have hmem : l[belowN l x.path] ∈ l.filter (fun n => decide (n.path = x.path)) := List.mem_filter.2 ⟨List.getElem_mem _, by simpa using he⟩
    generalize hB : l.filter (fun n => decide (n.path = x.path)) = B at *
    have hs : SortL B := by rw [← hB]; exact h.filter _
    match B, hmem, hs with
    | [b], hm, _ => rw [List.mem_singleton.1 hm]
    | b :: c :: r, hm, hs =>
      have hb1 : b.path = x.path := by have : b ∈ l.filter (fun n => decide (n.path = x.path)) := by rw [hB]; simp
                                       simpa using (List.mem_filter.1 this).2
      have hc1 : c.path = x.path := by have : c ∈ l.filter (fun n => decide (n.path = x.path)) := by rw [hB]; simp
                                       simpa using (List.mem_filter.1 this).2
      have := hs.head c (by simp); omega
  rw [h1] at hd
  unfold setL
  rw [hb, List.set_eq_take_append_cons_drop, if_pos hi]
  congr 2
  rw [← List.drop_drop (j := belowN l x.path) (i := 1), hd]
  rfl
theorem set_miss {l : List Nod} (h : SortL l) (x : Nod) (he : getL l x.path = none) : setL l x = l.take (belowN l x.path) ++ x :: l.drop (belowN l x.path) := by
  have e := sort_about h x.path
  have hb := below_filter h x.path
  have h1 : l.filter (fun n => decide (n.path = x.path)) = [] := List.filter_eq_nil_iff.2 fun b hb => by simpa using getL_none.1 he b hb
  have hd := below_drop h x.path
  rw [h1, List.nil_append] at hd
  unfold setL
  rw [hb, hd]
end
end Go.Proofs.YtpmlhmficmillaaGreat

namespace Go.Proofs.YtpmlhmficmillaaGreat
section
set_option maxRecDepth 100000
set_option linter.unusedVariables false

structure Tr where
  next : Nat
  n : List Nod
def slashS : ByteArray := ⟨#[47]⟩
def touchN (x : Nod) (who : ByteArray) (now : Nat) : Nod := { x with vers := (x.vers + 1) % 4294967296, mtm := now, muid := who }
def goneN (x : Nod) : Nod := { x with gone := true, up := 0 }
inductive Leads (l : List Nod) : Nat → Prop
  | root : Leads l 1
  | up {p : Nat} {n : Nod} (h : getL l p = some n) (hg : n.gone = false) (hu : Leads l n.up) : Leads l p
theorem way_leads {l : List Nod} : ∀ (k p : Nat), (wayL l k p).isSome = true → Leads l p
  | 0, _, h => by cases h
  | k + 1, p, h => by
    unfold wayL at h
    by_cases e : p = 1
    · rw [e]; exact .root
    · rw [if_neg e] at h
      cases hg : getL l p with
      | none => rw [hg] at h; cases h
      | some n =>
        rw [hg] at h
        simp only at h
        cases hq : n.gone with
        | true => rw [hq, if_pos rfl] at h; cases h
        | false =>
          rw [hq, if_neg (by simp), Option.isSome_map] at h
          exact .up hg hq (way_leads k _ h)
theorem leads_way {l : List Nod} {p : Nat} (h : Leads l p) : ∃ k, (wayL l k p).isSome = true := by
  induction h with
  | root => exact ⟨1, rfl⟩
  | @up p n hg hq _ ih =>
    obtain ⟨k, hk⟩ := ih
    refine ⟨k + 1, ?_⟩
    unfold wayL
    by_cases e : p = 1
    · rw [if_pos e]; rfl
    · rw [if_neg e, hg]
      simp only
      rw [hq, if_neg (by simp), Option.isSome_map]; exact hk
theorem way_more {l : List Nod} : ∀ (k k' p : Nat) {o : List ByteArray}, wayL l k p = some o → k ≤ k' → wayL l k' p = some o
  | 0, _, _, _, h, _ => by cases h
  | k + 1, 0, _, _, _, hk => by omega
  | k + 1, k' + 1, p, o, h, hk => by
    unfold wayL at h ⊢
    by_cases e : p = 1
    · rw [if_pos e] at h ⊢; exact h
    · rw [if_neg e] at h ⊢
      cases hg : getL l p with
      | none => rw [hg] at h; cases h
      | some n =>
        rw [hg] at h
        simp only at h ⊢
        cases hq : n.gone with
        | true => rw [hq, if_pos rfl] at h; cases h
        | false =>
          rw [hq, if_neg (by simp)] at h
          rw [if_neg (by simp)]
          obtain ⟨o', ho, rfl⟩ := Option.map_eq_some_iff.1 h
          rw [way_more k k' _ ho (by omega)]; rfl
theorem way_same {l : List Nod} {k k' p : Nat} {o o' : List ByteArray} (h : wayL l k p = some o) (h' : wayL l k' p = some o') : o = o' := by
  have a := way_more k (max k k') p h (Nat.le_max_left _ _)
  have b := way_more k' (max k k') p h' (Nat.le_max_right _ _)
  rw [a] at b; exact Option.some.inj b
theorem nodup_len : ∀ (ps qs : List Nat), ps.Nodup → (∀ x ∈ ps, x ∈ qs) → ps.length ≤ qs.length
  | [], _, _, _ => Nat.zero_le _
  | p :: ps, qs, hn, hs => by
    obtain ⟨h1, h2⟩ := List.nodup_cons.1 hn
    have hm := hs p (by simp)
    have := nodup_len ps (qs.erase p) h2 fun x hx => (List.mem_erase_of_ne (fun e => h1 (by rw [← e]; exact hx))).2 (hs x (by simp [hx]))
    rw [List.length_erase_of_mem hm] at this
    have : 0 < qs.length := List.length_pos_of_mem hm
    simp only [List.length_cons]; omega
theorem way_paths {l : List Nod} : ∀ (k p : Nat) {o : List ByteArray}, wayL l k p = some o →
    ∃ ps : List Nat, ps.length = o.length ∧ ps.Nodup ∧ ∀ q ∈ ps, (∃ n, getL l q = some n ∧ n.gone = false) ∧ ∃ k' o', wayL l k' q = some o' ∧ o'.length ≤ o.length
  | 0, _, _, h => by cases h
  | k + 1, p, o, h => by
    have h0 := h
    unfold wayL at h
    by_cases e : p = 1
    · rw [if_pos e] at h; cases h
      exact ⟨[], rfl, List.nodup_nil, fun q hq => by cases hq⟩
    · rw [if_neg e] at h
      cases hg : getL l p with
      | none => rw [hg] at h; cases h
      | some n =>
        rw [hg] at h
        simp only at h
        cases hq : n.gone with
        | true => rw [hq, if_pos rfl] at h; cases h
        | false =>
          rw [hq, if_neg (by simp)] at h
          obtain ⟨o', ho, rfl⟩ := Option.map_eq_some_iff.1 h
          obtain ⟨ps, i1, i2, i3⟩ := way_paths k n.up ho
          refine ⟨p :: ps, by simp [i1], List.nodup_cons.2 ⟨fun hp => ?_, i2⟩, fun q hq2 => ?_⟩
          · obtain ⟨_, k', o2, hk', hl⟩ := i3 p hp
            have := way_same hk' h0
            rw [this] at hl; simp at hl; omega
          · rcases List.mem_cons.1 hq2 with hh | hh
            · rw [hh]; exact ⟨⟨n, hg, hq⟩, k + 1, _, h0, Nat.le_refl _⟩
            · obtain ⟨a, k', o2, hk', hl⟩ := i3 q hh
              exact ⟨a, k', o2, hk', by simp; omega⟩
theorem way_short {l : List Nod} : ∀ (k p : Nat) {o : List ByteArray}, wayL l k p = some o → wayL l (o.length + 1) p = some o
  | 0, _, _, h => by cases h
  | k + 1, p, o, h => by
    unfold wayL at h ⊢
    by_cases e : p = 1
    · rw [if_pos e] at h ⊢; exact h
    · rw [if_neg e] at h ⊢
      cases hg : getL l p with
      | none => rw [hg] at h; cases h
      | some n =>
        rw [hg] at h
        simp only at h ⊢
        cases hq : n.gone with
        | true => rw [hq, if_pos rfl] at h; cases h
        | false =>
          rw [hq, if_neg (by simp)] at h
          rw [if_neg (by simp)]
          obtain ⟨o', ho, rfl⟩ := Option.map_eq_some_iff.1 h
          have := way_short k n.up ho
          rw [show (n.name :: o').length = o'.length + 1 from rfl, this]; rfl
theorem leads_iff {l : List Nod} {p : Nat} : Leads l p ↔ (wayL l (l.length + 1) p).isSome = true := by
  refine ⟨fun h => ?_, way_leads _ _⟩
  obtain ⟨k, hk⟩ := leads_way h
  obtain ⟨o, ho⟩ := Option.isSome_iff_exists.1 hk
  obtain ⟨ps, h1, h2, h3⟩ := way_paths k p ho
  have hs := way_short k p ho
  have hle := nodup_len ps (l.map (·.path)) h2 fun q hq => by
    obtain ⟨⟨n, hn, _⟩, _⟩ := h3 q hq
    obtain ⟨a, b⟩ := getL_some hn
    exact List.mem_map.2 ⟨n, a, b⟩
  rw [way_more _ (l.length + 1) p hs (by simp at hle; omega)]; rfl
theorem Leads.imp {l m : List Nod} (h : ∀ p n, getL l p = some n → n.gone = false → ∃ n', getL m p = some n' ∧ n'.gone = false ∧ n'.up = n.up) {p : Nat} (hp : Leads l p) : Leads m p := by
  induction hp with
  | root => exact .root
  | up hg hq _ ih =>
    obtain ⟨n', h1, h2, h3⟩ := h _ _ hg hq
    exact .up h1 h2 (by rw [h3]; exact ih)

structure OkC (t : Tr) : Prop where
  sort : SortL t.n
  root : ∃ r ∈ t.n, r.path = 1 ∧ dirB r = true ∧ r.up = 1 ∧ r.gone = false ∧ r.name = slashS
  low : ∀ n ∈ t.n, 1 ≤ n.path ∧ n.path < t.next
  bits : ∀ n ∈ t.n, bitsB n.mode = true
  empt : ∀ n ∈ t.n, dirB n = true → n.data.size = 0
  nam : ∀ n ∈ t.n, n.path ≠ 1 → nameN n.name = 0
  ids : ∀ n ∈ t.n, validB n.uid = true ∧ validB n.gid = true ∧ validB n.muid = true
  len : ∀ n ∈ t.n, n.data.size ≤ 4096
  gon : ∀ n ∈ t.n, n.gone = true → n.up = 0
  par : ∀ n ∈ t.n, n.gone = false → ∃ u ∈ t.n, u.path = n.up ∧ dirB u = true ∧ u.gone = false
  uniq : ∀ a ∈ t.n, ∀ b ∈ t.n, ∀ d, kidB d a = true → kidB d b = true → a.name = b.name → a = b
  few : t.n.length ≤ 64
  byt : bytesL t.n ≤ 16384
  way : ∀ n ∈ t.n, n.gone = false → Leads t.n n.path
end
end Go.Proofs.YtpmlhmficmillaaGreat
