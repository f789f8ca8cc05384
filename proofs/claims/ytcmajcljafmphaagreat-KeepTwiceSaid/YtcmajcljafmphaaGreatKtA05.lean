/- Trees as lists of nodes: looking up, setting, dropping; what a tree must be to be valid. Plain. And the texts behind it. -/
import Derived.Test.YtcmajcljafmphaaGreatKtA04
import Derived.Test.YtcmajcljafmphaaGreatKtA01
import Derived.Test.YtcmajcljafmphaaGreatKtA03
import Derived.Deep.MidRow
namespace Go.Proofs.YtcmajcljafmphaaGreat
section
set_option maxRecDepth 100000
set_option linter.unusedVariables false

def kidB (d : Nat) (n : Nod) : Bool := !n.gone && decide (n.path ≠ 1) && decide (n.up = d)
def getL (l : List Nod) (p : Nat) : Option Nod := l.find? fun n => decide (n.path = p)
def findL (l : List Nod) (d : Nat) (s : ByteArray) : Option Nod := l.find? fun n => kidB d n && decide (n.name = s)
def setL (l : List Nod) (x : Nod) : List Nod := l.filter (fun n => decide (n.path < x.path)) ++ x :: l.filter (fun n => decide (x.path < n.path))
def dropL (l : List Nod) (p : Nat) : List Nod := l.filter fun n => decide (n.path ≠ p)
def bytesL (l : List Nod) : Nat := (l.map (·.data.size)).sum
def SortL (l : List Nod) : Prop := l.Pairwise fun a b => a.path < b.path
def kidsOf (l : List Nod) (d : Nat) : List Nod := l.filter (kidB d)
def wayL (l : List Nod) : Nat → Nat → Option (List ByteArray)
  | 0, _ => none
  | k + 1, p => if p = 1 then some [] else match getL l p with
    | none => none
    | some n => if n.gone then none else (wayL l k n.up).map (n.name :: ·)

theorem SortL.tail {a : Nod} {l : List Nod} (h : SortL (a :: l)) : SortL l := (List.pairwise_cons.1 h).2
theorem SortL.head {a : Nod} {l : List Nod} (h : SortL (a :: l)) : ∀ b ∈ l, a.path < b.path := (List.pairwise_cons.1 h).1
theorem SortL.filter {l : List Nod} (h : SortL l) (p : Nod → Bool) : SortL (l.filter p) := List.Pairwise.filter p h
theorem SortL.inj {l : List Nod} (h : SortL l) : ∀ {a b : Nod}, a ∈ l → b ∈ l → a.path = b.path → a = b := by
  induction l with
  | nil => intro a b ha; cases ha
  | cons c l ih =>
    intro a b ha hb he
    rcases List.mem_cons.1 ha with ha | ha <;> rcases List.mem_cons.1 hb with hb | hb
    · rw [ha, hb]
    · have := h.head b hb; rw [ha] at he; omega
    · have := h.head a ha; rw [hb] at he; omega
    · exact ih h.tail ha hb he
theorem getL_some {l : List Nod} {p : Nat} {n : Nod} (h : getL l p = some n) : n ∈ l ∧ n.path = p := by
  have h1 := List.find?_some h
  exact ⟨List.mem_of_find?_eq_some h, by simpa using h1⟩
theorem getL_none {l : List Nod} {p : Nat} : getL l p = none ↔ ∀ n ∈ l, n.path ≠ p := by
  unfold getL; rw [List.find?_eq_none]; simp
theorem getL_of {l : List Nod} (h : SortL l) {n : Nod} (hn : n ∈ l) : getL l n.path = some n := by
  cases hg : getL l n.path with
  | none => exact absurd rfl (getL_none.1 hg n hn)
  | some m =>
    obtain ⟨h1, h2⟩ := getL_some hg
    rw [h.inj h1 hn h2]
theorem getL_iff {l : List Nod} (h : SortL l) {p : Nat} {n : Nod} : getL l p = some n ↔ n ∈ l ∧ n.path = p :=
  ⟨getL_some, fun ⟨h1, h2⟩ => by rw [← h2]; exact getL_of h h1⟩
theorem findL_none {l : List Nod} {d : Nat} {s : ByteArray} : findL l d s = none ↔ ∀ n ∈ l, kidB d n = true → n.name ≠ s := by
  unfold findL; rw [List.find?_eq_none]
  simp only [Bool.and_eq_true, decide_eq_true_eq, not_and]
theorem mem_setL {l : List Nod} {x n : Nod} : n ∈ setL l x ↔ n = x ∨ (n ∈ l ∧ n.path ≠ x.path) := by
  unfold setL
  simp only [List.mem_append, List.mem_filter, List.mem_cons, decide_eq_true_eq]
  constructor
  · rintro (⟨h1, h2⟩ | h | ⟨h1, h2⟩)
    · exact .inr ⟨h1, by omega⟩
    · exact .inl h
    · exact .inr ⟨h1, by omega⟩
  · rintro (h | ⟨h1, h2⟩)
    · exact .inr (.inl h)
    · rcases Nat.lt_or_gt_of_ne h2 with h | h
      · exact .inl ⟨h1, h⟩
      · exact .inr (.inr ⟨h1, h⟩)
theorem SortL.set {l : List Nod} (h : SortL l) (x : Nod) : SortL (setL l x) := by
  refine List.pairwise_append.2 ⟨h.filter _, List.pairwise_cons.2 ⟨fun b hb => by simpa using (List.mem_filter.1 hb).2, h.filter _⟩, fun a ha b hb => ?_⟩
  have h1 : a.path < x.path := by simpa using (List.mem_filter.1 ha).2
  rcases List.mem_cons.1 hb with e | hb
  · rw [e]; exact h1
  · have h2 : x.path < b.path := by simpa using (List.mem_filter.1 hb).2
    omega
theorem SortL.drop {l : List Nod} (h : SortL l) (p : Nat) : SortL (dropL l p) := h.filter _
theorem getL_set {l : List Nod} (h : SortL l) (x : Nod) (p : Nat) : getL (setL l x) p = if p = x.path then some x else getL l p := by
  by_cases e : p = x.path
  · rw [if_pos e, e]
    exact getL_of (h.set x) (mem_setL.2 (.inl rfl))
  · rw [if_neg e]
    cases hg : getL l p with
    | none =>
      rw [getL_none] at hg ⊢
      intro n hn
      rcases mem_setL.1 hn with hh | ⟨hh, _⟩
      · rw [hh]; exact fun a => e a.symm
      · exact hg n hh
    | some n =>
      obtain ⟨h1, h2⟩ := getL_some hg
      exact (getL_iff (h.set x)).2 ⟨mem_setL.2 (.inr ⟨h1, by rw [h2]; exact e⟩), h2⟩
theorem sort_about {l : List Nod} (h : SortL l) (p : Nat) : l = l.filter (fun n => decide (n.path < p)) ++ l.filter (fun n => decide (n.path = p)) ++ l.filter (fun n => decide (p < n.path)) := by
  induction l with
  | nil => rfl
  | cons a l ih =>
    have h1 := h.head
    rcases Nat.lt_trichotomy a.path p with hh | hh | hh
    · rw [List.filter_cons_of_pos (by simpa using hh), List.filter_cons_of_neg (by simp; omega), List.filter_cons_of_neg (by simp; omega)]
      conv => lhs; rw [ih h.tail]
      simp
    · have e1 : l.filter (fun n => decide (n.path < p)) = [] := List.filter_eq_nil_iff.2 fun b hb => by have := h1 b hb; simp; omega
      have e2 : l.filter (fun n => decide (n.path = p)) = [] := List.filter_eq_nil_iff.2 fun b hb => by have := h1 b hb; simp; omega
      have e3 : l.filter (fun n => decide (p < n.path)) = l := List.filter_eq_self.2 fun b hb => by have := h1 b hb; simp; omega
      rw [List.filter_cons_of_neg (by simp; omega), List.filter_cons_of_pos (by simpa using hh), List.filter_cons_of_neg (by simp; omega), e1, e2, e3]
      rfl
    · have e1 : l.filter (fun n => decide (n.path < p)) = [] := List.filter_eq_nil_iff.2 fun b hb => by have := h1 b hb; simp; omega
      have e2 : l.filter (fun n => decide (n.path = p)) = [] := List.filter_eq_nil_iff.2 fun b hb => by have := h1 b hb; simp; omega
      have e3 : l.filter (fun n => decide (p < n.path)) = l := List.filter_eq_self.2 fun b hb => by have := h1 b hb; simp; omega
      rw [List.filter_cons_of_neg (by simp; omega), List.filter_cons_of_neg (by simp; omega), List.filter_cons_of_pos (by simpa using hh), e1, e2, e3]
      rfl
def belowN (l : List Nod) (p : Nat) : Nat := (l.filter fun n => decide (n.path < p)).length
theorem below_get {l : List Nod} (h : SortL l) (p i : Nat) (hi : i < l.length) : (l[i].path < p ↔ i < belowN l p) := by
  have e := sort_about h p
  unfold belowN
  generalize hA : l.filter (fun n => decide (n.path < p)) = A at *
  generalize hB : l.filter (fun n => decide (n.path = p)) = B at *
  generalize hC : l.filter (fun n => decide (p < n.path)) = C at *
  subst e
  constructor
  · intro hlt
    by_cases hh : i < A.length
    · exact hh
    · exfalso
      have hm : (A ++ B ++ C)[i] ∈ B ++ C := by
        rw [show (A ++ B ++ C)[i] = (B ++ C)[i - A.length]'(by simp at hi ⊢; omega) by simp only [List.append_assoc]; rw [List.getElem_append_right (by omega)]]
        exact List.getElem_mem _
      generalize (A ++ B ++ C)[i] = n at hm hlt
      rcases List.mem_append.1 hm with hm | hm
      · rw [← hB] at hm; have := (List.mem_filter.1 hm).2; simp at this; omega
      · rw [← hC] at hm; have := (List.mem_filter.1 hm).2; simp at this; omega
  · intro hh
    have hm : (A ++ B ++ C)[i] ∈ A := by
      rw [show (A ++ B ++ C)[i] = A[i] by simp only [List.append_assoc]; rw [List.getElem_append_left hh]]
      exact List.getElem_mem _
    generalize (A ++ B ++ C)[i] = n at hm
    rw [← hA] at hm
    simpa using (List.mem_filter.1 hm).2
theorem belowN_le (l : List Nod) (p : Nat) : belowN l p ≤ l.length := List.length_filter_le _ _
theorem get_at {l : List Nod} (h : SortL l) (p : Nat) : getL l p = (match l[belowN l p]? with | some n => if n.path = p then some n else none | none => none) := by
  cases hq : l[belowN l p]? with
  | none =>
    rw [getL_none]
    intro n hn
    obtain ⟨i, hi, rfl⟩ := List.mem_iff_getElem.1 hn
    have := List.getElem?_eq_none_iff.1 hq
    have hlt := (below_get h p i hi).2 (by omega)
    omega
  | some m =>
    obtain ⟨hi, hm⟩ := List.getElem?_eq_some_iff.1 hq
    have hge : ¬ m.path < p := fun hh => by rw [← hm] at hh; have := (below_get h p _ hi).1 hh; omega
    simp only
    by_cases e : m.path = p
    · rw [if_pos e, ← e]; exact getL_of h (by rw [← hm]; exact List.getElem_mem _)
    · rw [if_neg e, getL_none]
      intro n hn hp
      obtain ⟨i, hi2, rfl⟩ := List.mem_iff_getElem.1 hn
      have h1 : ¬ i < belowN l p := fun hh => by have := (below_get h p i hi2).2 hh; omega
      by_cases hii : i = belowN l p
      · subst hii; rw [hm] at hp; exact e hp
      · have := List.pairwise_iff_getElem.1 h (belowN l p) i hi hi2 (by omega)
        rw [hm] at this; omega
end
end Go.Proofs.YtcmajcljafmphaaGreat

namespace Go.Proofs.YtcmajcljafmphaaGreat
section
set_option maxRecDepth 100000
set_option linter.unusedVariables false

structure Tr where
  next : Nat
  n : List Nod
def slashS : ByteArray := ⟨#[47]⟩
def touchN (x : Nod) (who : ByteArray) (now : Nat) : Nod := { x with vers := (x.vers + 1) % 4294967296, mtm := now, muid := who }
def goneN (x : Nod) : Nod := { x with gone := true, up := 0 }
inductive Leads (l : List Nod) : Nat → Prop
  | root : Leads l 1
  | up {p : Nat} {n : Nod} (h : getL l p = some n) (hg : n.gone = false) (hu : Leads l n.up) : Leads l p
theorem way_leads {l : List Nod} : ∀ (k p : Nat), (wayL l k p).isSome = true → Leads l p
  | 0, _, h => by cases h
  | k + 1, p, h => by
    unfold wayL at h
    by_cases e : p = 1
    · rw [e]; exact .root
    · rw [if_neg e] at h
      cases hg : getL l p with
      | none => rw [hg] at h; cases h
      | some n =>
        rw [hg] at h
        simp only at h
        cases hq : n.gone with
        | true => rw [hq, if_pos rfl] at h; cases h
        | false =>
          rw [hq, if_neg (by simp), Option.isSome_map] at h
          exact .up hg hq (way_leads k _ h)
theorem leads_way {l : List Nod} {p : Nat} (h : Leads l p) : ∃ k, (wayL l k p).isSome = true := by
  induction h with
  | root => exact ⟨1, rfl⟩
  | @up p n hg hq _ ih =>
    obtain ⟨k, hk⟩ := ih
    refine ⟨k + 1, ?_⟩
    unfold wayL
    by_cases e : p = 1
    · rw [if_pos e]; rfl
    · rw [if_neg e, hg]
      simp only
      rw [hq, if_neg (by simp), Option.isSome_map]; exact hk
theorem way_more {l : List Nod} : ∀ (k k' p : Nat) {o : List ByteArray}, wayL l k p = some o → k ≤ k' → wayL l k' p = some o
  | 0, _, _, _, h, _ => by cases h
  | k + 1, 0, _, _, _, hk => by omega
  | k + 1, k' + 1, p, o, h, hk => by
    unfold wayL at h ⊢
    by_cases e : p = 1
    · rw [if_pos e] at h ⊢; exact h
    · rw [if_neg e] at h ⊢
      cases hg : getL l p with
      | none => rw [hg] at h; cases h
      | some n =>
        rw [hg] at h
        simp only at h ⊢
        cases hq : n.gone with
        | true => rw [hq, if_pos rfl] at h; cases h
        | false =>
          rw [hq, if_neg (by simp)] at h
          rw [if_neg (by simp)]
          obtain ⟨o', ho, rfl⟩ := Option.map_eq_some_iff.1 h
          rw [way_more k k' _ ho (by omega)]; rfl
theorem way_same {l : List Nod} {k k' p : Nat} {o o' : List ByteArray} (h : wayL l k p = some o) (h' : wayL l k' p = some o') : o = o' := by
  have a := way_more k (max k k') p h (Nat.le_max_left _ _)
  have b := way_more k' (max k k') p h' (Nat.le_max_right _ _)
  rw [a] at b; exact Option.some.inj b
theorem nodup_len : ∀ (ps qs : List Nat), ps.Nodup → (∀ x ∈ ps, x ∈ qs) → ps.length ≤ qs.length
  | [], _, _, _ => Nat.zero_le _
  | p :: ps, qs, hn, hs => by
    obtain ⟨h1, h2⟩ := List.nodup_cons.1 hn
    have hm := hs p (by simp)
    have := nodup_len ps (qs.erase p) h2 fun x hx => (List.mem_erase_of_ne (fun e => h1 (by rw [← e]; exact hx))).2 (hs x (by simp [hx]))
    rw [List.length_erase_of_mem hm] at this
    have : 0 < qs.length := List.length_pos_of_mem hm
    simp only [List.length_cons]; omega
theorem way_paths {l : List Nod} : ∀ (k p : Nat) {o : List ByteArray}, wayL l k p = some o →
    ∃ ps : List Nat, ps.length = o.length ∧ ps.Nodup ∧ ∀ q ∈ ps, (∃ n, getL l q = some n ∧ n.gone = false) ∧ ∃ k' o', wayL l k' q = some o' ∧ o'.length ≤ o.length
  | 0, _, _, h => by cases h
  | k + 1, p, o, h => by
    have h0 := h
    unfold wayL at h
    by_cases e : p = 1
    · rw [if_pos e] at h; cases h
      exact ⟨[], rfl, List.nodup_nil, fun q hq => by cases hq⟩
    · rw [if_neg e] at h
      cases hg : getL l p with
      | none => rw [hg] at h; cases h
      | some n =>
        rw [hg] at h
        simp only at h
        cases hq : n.gone with
        | true => rw [hq, if_pos rfl] at h; cases h
        | false =>
          rw [hq, if_neg (by simp)] at h
          obtain ⟨o', ho, rfl⟩ := Option.map_eq_some_iff.1 h
          obtain ⟨ps, i1, i2, i3⟩ := way_paths k n.up ho
          refine ⟨p :: ps, by simp [i1], List.nodup_cons.2 ⟨fun hp => ?_, i2⟩, fun q hq2 => ?_⟩
          · obtain ⟨_, k', o2, hk', hl⟩ := i3 p hp
            have := way_same hk' h0
            rw [this] at hl; simp at hl; omega
          · rcases List.mem_cons.1 hq2 with hh | hh
            · rw [hh]; exact ⟨⟨n, hg, hq⟩, k + 1, _, h0, Nat.le_refl _⟩
            · obtain ⟨a, k', o2, hk', hl⟩ := i3 q hh
              exact ⟨a, k', o2, hk', by simp; omega⟩
theorem way_short {l : List Nod} : ∀ (k p : Nat) {o : List ByteArray}, wayL l k p = some o → wayL l (o.length + 1) p = some o
  | 0, _, _, h => by cases h
  | k + 1, p, o, h => by
    unfold wayL at h ⊢
    by_cases e : p = 1
    · rw [if_pos e] at h ⊢; exact h
    · rw [if_neg e] at h ⊢
      cases hg : getL l p with
      | none => rw [hg] at h; cases h
      | some n =>
        rw [hg] at h
        simp only at h ⊢
        cases hq : n.gone with
        | true => rw [hq, if_pos rfl] at h; cases h
        | false =>
          rw [hq, if_neg (by simp)] at h
          rw [if_neg (by simp)]
          obtain ⟨o', ho, rfl⟩ := Option.map_eq_some_iff.1 h
          have := way_short k n.up ho
          rw [show (n.name :: o').length = o'.length + 1 from rfl, this]; rfl
theorem leads_iff {l : List Nod} {p : Nat} : Leads l p ↔ (wayL l (l.length + 1) p).isSome = true := by
  refine ⟨fun h => ?_, way_leads _ _⟩
  obtain ⟨k, hk⟩ := leads_way h
  obtain ⟨o, ho⟩ := Option.isSome_iff_exists.1 hk
  obtain ⟨ps, h1, h2, h3⟩ := way_paths k p ho
  have hs := way_short k p ho
  have hle := nodup_len ps (l.map (·.path)) h2 fun q hq => by
    obtain ⟨⟨n, hn, _⟩, _⟩ := h3 q hq
    obtain ⟨a, b⟩ := getL_some hn
    exact List.mem_map.2 ⟨n, a, b⟩
  rw [way_more _ (l.length + 1) p hs (by simp at hle; omega)]; rfl
theorem Leads.imp {l m : List Nod} (h : ∀ p n, getL l p = some n → n.gone = false → ∃ n', getL m p = some n' ∧ n'.gone = false ∧ n'.up = n.up) {p : Nat} (hp : Leads l p) : Leads m p := by
  induction hp with
  | root => exact .root
  | up hg hq _ ih =>
    obtain ⟨n', h1, h2, h3⟩ := h _ _ hg hq
    exact .up h1 h2 (by rw [h3]; exact ih)

structure OkV (V : ByteArray → Bool) (t : Tr) : Prop where
  sort : SortL t.n
  root : ∃ r ∈ t.n, r.path = 1 ∧ dirB r = true ∧ r.up = 1 ∧ r.gone = false ∧ r.name = slashS
  low : ∀ n ∈ t.n, 1 ≤ n.path ∧ n.path < t.next
  bits : ∀ n ∈ t.n, bitsB n.mode = true
  empt : ∀ n ∈ t.n, dirB n = true → n.data.size = 0
  nam : ∀ n ∈ t.n, n.path ≠ 1 → nameN n.name = 0
  ids : ∀ n ∈ t.n, V n.uid = true ∧ V n.gid = true ∧ V n.muid = true
  len : ∀ n ∈ t.n, n.data.size ≤ 4096
  gon : ∀ n ∈ t.n, n.gone = true → n.up = 0
  par : ∀ n ∈ t.n, n.gone = false → ∃ u ∈ t.n, u.path = n.up ∧ dirB u = true ∧ u.gone = false
  uniq : ∀ a ∈ t.n, ∀ b ∈ t.n, ∀ d, kidB d a = true → kidB d b = true → a.name = b.name → a = b
  few : t.n.length ≤ 64
  byt : bytesL t.n ≤ 16384
  way : ∀ n ∈ t.n, n.gone = false → Leads t.n n.path
abbrev OkC := OkV validB
end
end Go.Proofs.YtcmajcljafmphaaGreat

namespace Go.Proofs.YtcmajcljafmphaaGreat
section
open Go.RowKit
set_option maxRecDepth 100000

def RowW (w : World) (k : Nat) (v : Value) (n : Nat) (xs : List Value) : Prop :=
  xs.length = n * k ∧ ∃ a c, v = .slice a n c ∧ n ≤ c ∧ c ≤ maxLen ∧ (a = none → c = 0) ∧ ∀ i u, xs[i]? = some u → ∃ b o, a = some ⟨b, o, none⟩ ∧ w.cell? ⟨b, o + i, none⟩ = some u
theorem RowAt.weak {w : World} {k n : Nat} {v : Value} {xs : List Value} (h : RowAt w k v n xs) : RowW w k v n xs := by
  obtain ⟨hl, a, c, hv, h1, h2, h3, _, h4⟩ := h
  exact ⟨hl, a, c, hv, h1, h2, h3, h4⟩
theorem RowW.keeps {w w' : World} {k n : Nat} {v : Value} {xs : List Value} (h : RowW w k v n xs) (hk : Keeps w w') : RowW w' k v n xs := by
  obtain ⟨hl, a, c, hv, h1, h2, h3, h4⟩ := h
  refine ⟨hl, a, c, hv, h1, h2, h3, fun i u hu => ?_⟩
  obtain ⟨b, o, ha, hc⟩ := h4 i u hu
  exact ⟨b, o, ha, hk.cells _ _ hc⟩
theorem RowW.below {w w' : World} {k n : Nat} {v : Value} {xs : List Value} (h : RowW w k v n xs) (hb : Below w.heap.size w w') : RowW w' k v n xs := h.keeps (.of_below hb)

theorem run_append_weak {P : Program} (w : World) (base : Nat) (t ty e : TypeId) (i : TypeInfo) (z : Value) (size bytes : Nat) (ht : P.underlying t = some (.slice e)) (hi : P.info? e = some i) (hz : i.zero = some z)
    (hsize : i.size = size) (hby : i.bytes = bytes) (hzs : z.cells.size = size) (hsz : 0 < size)
    (v : Value) (n : Nat) (xs : List Value) (hown : w.ownsRow base e size v n xs)
    (sv : Value) (m : Nat) (news : List Value) (hsrc : RowW w size sv m news) (h1 : ∀ u ∈ news, u.oneCell' = true)
    (h63 : n + m ≤ maxLen) (hbytes : (n + m) * bytes ≤ 140737488355328) (hbase : base ≤ w.heap.size) :
    ∃ a' c' w', (Builtin.append_ #[t, t] ty #[v, sv]).run P w = .ok (.slice a' (n + m) c') w' ∧ w'.ownsRow base e size (.slice a' (n + m) c') (n + m) (xs ++ news) ∧ w.grownBy w' v.ownBlock := by
  obtain ⟨hl, a, c, rfl, hc1, hc2, hc3, hcell⟩ := hsrc
  cases a with
  | some ad =>
    have hnews : ∀ j u, news[j]? = some u → w.cell? (ad.add j) = some u := fun j u hu => by
      obtain ⟨b, o, hb, hcc⟩ := hcell j u hu
      cases hb
      rw [add_plain']; exact hcc
    obtain ⟨v', w', hr, ho, hg, _⟩ := run_append_own (P := P) w base t ty e i z size bytes ht hi hz hsize hby hzs hsz v n xs hown ad m c news hl hnews h1 h63 hbytes hbase
    obtain ⟨a', c', rfl⟩ := own_form ho
    exact ⟨a', c', w', hr, ho, hg⟩
  | none =>
    have hc0 := hc3 rfl
    obtain rfl : c = 0 := hc0
    obtain rfl : m = 0 := by omega
    have : news = [] := List.eq_nil_of_length_eq_zero (by simpa using hl)
    subst this
    exact run_append_row w base t ty e i z size bytes ht hi hz hsize hby hzs hsz v n xs hown _ 0 [] RowAt.nil h1 h63 hbytes hbase

theorem wpList_append_weak {P : Program} {t e size bytes : Nat} (E : ElemOk P t e size bytes) {ops : Array Oper} {rest : List Oper} {o : Oper} {a : Act} {Q : Exit → Act → World → Prop} (w : World) (hgd : o.guard = none) (s x : Operand)
    (ho : o.op = .call { callee := .builtin .append, args := #[s, x], argTypes := #[t, t] })
    (base : Nat) (v : Value) (n : Nat) (xs : List Value) (hs : a.eval s = v) (hown : w.ownsRow base e size v n xs)
    (sv : Value) (m : Nat) (news : List Value) (hx : a.eval x = sv) (hsrc : RowW w size sv m news) (h1 : ∀ u ∈ news, u.oneCell' = true)
    (h63 : n + m ≤ maxLen) (hbytes : (n + m) * bytes ≤ 140737488355328) (hbase : base ≤ w.heap.size)
    (h : ∀ a' c' w', w'.ownsRow base e size (.slice a' (n + m) c') (n + m) (xs ++ news) → w.grownBy w' v.ownBlock → wpList P ops Q rest (a.put o.dst (.slice a' (n + m) c')) w') : wpList P ops Q (o :: rest) a w :=
  wpList_plain hgd fun K hK => by
    obtain ⟨i, z, hi, hz, hsize, hby, hzs⟩ := E.hi
    refine wp_append_run s x t ho hs hx (R := fun v' w' => ∃ a' c', v' = .slice a' (n + m) c' ∧ w'.ownsRow base e size (.slice a' (n + m) c') (n + m) (xs ++ news) ∧ w.grownBy w' v.ownBlock) ?_ ?_
    · obtain ⟨a', c', w', hr, h2, h3⟩ := run_append_weak (P := P) w base t o.type e i z size bytes E.ht hi hz hsize hby hzs E.hsz v n xs hown sv m news hsrc h1 h63 hbytes hbase
      exact ⟨_, w', hr, a', c', rfl, h2, h3⟩
    · rintro _ w' ⟨a', c', rfl, h2, h3⟩
      exact hK _ _ (h a' c' w' h2 h3)

def TxtsAt (w : World) (v : Value) (L : List ByteArray) : Prop := RowW w 1 v L.length (L.map fun s => Value.string s)
theorem TxtsAt.cell {w : World} {a : Option Addr} {n c : Nat} {L : List ByteArray} (h : TxtsAt w (.slice a n c) L) (i : Nat) (hi : i < L.length) : ∃ b o, a = some ⟨b, o, none⟩ ∧ w.cell? ⟨b, o + i, none⟩ = some (.string L[i]) := by
  obtain ⟨_, a', c', hv, h1, h2, h3, h4⟩ := h
  cases hv
  exact h4 i _ (by simp [hi])
theorem TxtsAt.form {w : World} {v : Value} {L : List ByteArray} (h : TxtsAt w v L) : ∃ a c, v = .slice a L.length c ∧ L.length ≤ c ∧ c ≤ maxLen := by
  obtain ⟨_, a, c, hv, h1, h2, _⟩ := h
  exact ⟨a, c, hv, h1, h2⟩
theorem TxtsAt.below {w w' : World} {v : Value} {l : List ByteArray} (h : TxtsAt w v l) (hb : Below w.heap.size w w') : TxtsAt w' v l := RowW.below h hb
theorem TxtsAt.take {w : World} {a : Option Addr} {n c : Nat} {l : List ByteArray} (h : TxtsAt w (.slice a n c) l) (k c2 : Nat) (hk : k ≤ l.length) (hc2 : k ≤ c2) (hc3 : c2 ≤ c) : TxtsAt w (.slice a k c2) (l.take k) := by
  obtain ⟨_, a', c', hv, h1, h2, h3, h4⟩ := h
  cases hv
  refine ⟨by simp, a, c2, by simp; omega, by simp; omega, by omega, fun h => (by have := h3 h; omega), fun i u hu => ?_⟩
  have hi : i < (l.take k).length := by have := (List.getElem?_eq_some_iff.1 hu).1; simpa using this
  simp only [List.length_take] at hi
  refine h4 i u ?_
  rw [← hu]; simp [List.getElem?_take]; omega
theorem TxtsAt.of_own {w : World} {base e : Nat} {v : Value} {L : List ByteArray} (h : w.ownsRow base e 1 v L.length (L.map fun s => Value.string s)) : TxtsAt w v L := (RowAt.of_own h).weak
theorem TxtsAt.nil {w : World} : TxtsAt w (.slice none 0 0) [] := RowAt.nil.weak
end
end Go.Proofs.YtcmajcljafmphaaGreat

namespace Go.Proofs.YtcmajcljafmphaaGreat
section
open Go.RowKit
set_option maxRecDepth 100000
set_option linter.unusedVariables false

def nodsL (l : List Nod) : List Value := l.flatMap fun n => n.cells.toList
theorem nodsL_length (l : List Nod) : (nodsL l).length = l.length * 12 := by
  induction l with
  | nil => rfl
  | cons n l ih =>
    show (n.cells.toList ++ nodsL l).length = _
    rw [List.length_append, ih, nod_cells, List.length_cons]
    simp; omega
theorem nodsL_append (l m : List Nod) : nodsL (l ++ m) = nodsL l ++ nodsL m := List.flatMap_append
theorem nodsL_get (l : List Nod) (i j : Nat) (hi : i < l.length) (hj : j < 12) : (nodsL l)[i * 12 + j]? = l[i].cells.toList[j]? := by
  induction l generalizing i with
  | nil => simp at hi
  | cons n l ih =>
    show (n.cells.toList ++ nodsL l)[i * 12 + j]? = _
    have h12 : n.cells.toList.length = 12 := by rw [nod_cells]; rfl
    cases i with
    | zero => rw [Nat.zero_mul, Nat.zero_add, List.getElem?_append_left (by omega)]; rfl
    | succ k =>
      rw [List.getElem?_append_right (by omega), h12, show (k + 1) * 12 + j - 12 = k * 12 + j by omega]
      exact ih k (by simpa using hi)
theorem nodsL_one (l : List Nod) : ∀ u ∈ nodsL l, u.oneCell' = true := by
  intro u hu
  obtain ⟨n, _, hn⟩ := List.mem_flatMap.1 hu
  have := nod_one n
  exact (Array.all_eq_true_iff_forall_mem.1 this) u (by simpa using hn)
def NodsAt (w : World) (v : Value) (l : List Nod) : Prop := RowW w 12 v l.length (nodsL l)
theorem NodsAt.form {w : World} {v : Value} {l : List Nod} (h : NodsAt w v l) : ∃ a c, v = .slice a l.length c ∧ l.length ≤ c ∧ c ≤ maxLen := by
  obtain ⟨_, a, c, hv, h1, h2, _⟩ := h
  exact ⟨a, c, hv, h1, h2⟩
theorem NodsAt.below {w w' : World} {v : Value} {l : List Nod} (h : NodsAt w v l) (hb : Below w.heap.size w w') : NodsAt w' v l := RowW.below h hb
theorem NodsAt.range {w : World} {a : Option Addr} {n c : Nat} {l : List Nod} (h : NodsAt w (.slice a n c) l) (i : Nat) (hi : i < l.length) : ∃ b o, a = some ⟨b, o, none⟩ ∧ w.rangeAt b (o + i * 12) l[i].cells.toList := by
  obtain ⟨_, a', c', hv, h1, h2, h3, h4⟩ := h
  cases hv
  obtain ⟨b, o, ha, _⟩ := h4 (i * 12) _ (by rw [show i * 12 = i * 12 + 0 from rfl, nodsL_get l i 0 hi (by omega), nod_cells]; rfl)
  refine ⟨b, o, ha, fun j u hu => ?_⟩
  have hj : j < 12 := by have := (List.getElem?_eq_some_iff.1 hu).1; rw [nod_cells] at this; simpa using this
  obtain ⟨b', o', ha', hc⟩ := h4 (i * 12 + j) u (by rw [nodsL_get l i j hi hj]; exact hu)
  rw [ha] at ha'; cases ha'
  rw [Nat.add_assoc]; exact hc
theorem NodsAt.of_own {w : World} {base e n : Nat} {v : Value} {l : List Nod} (h : w.ownsRow base e 12 v n (nodsL l)) : NodsAt w v l := by
  have hn : n = l.length := by have := h.1; rw [nodsL_length] at this; omega
  subst hn
  exact (RowAt.of_own h).weak
theorem NodsAt.nil {w : World} : NodsAt w (.slice none 0 0) [] := RowAt.nil.weak
theorem NodsAt.clip {w : World} {a : Option Addr} {c : Nat} {l : List Nod} (h : NodsAt w (.slice a l.length c) l) : NodsAt w (.slice a l.length l.length) l := by
  obtain ⟨hl, a', c', hv, h1, h2, h3, h4⟩ := h
  cases hv
  exact ⟨hl, a, l.length, rfl, Nat.le_refl _, by omega, fun h => by have := h3 h; omega, h4⟩

def ordI (a b : Nat) : Int := if a < b then -1 else if b < a then 1 else 0
theorem ordI_neg (a b : Nat) : decide (ordI a b < 0) = decide (a < b) := by
  unfold ordI; by_cases h : a < b <;> by_cases h2 : b < a <;> simp [h, h2]
theorem ordI_zero (a b : Nat) : (ordI a b == 0) = decide (a = b) := by
  unfold ordI
  by_cases h : a < b
  · rw [if_pos h, decide_eq_false (by omega)]; rfl
  · by_cases h2 : b < a
    · rw [if_neg h, if_pos h2, decide_eq_false (by omega)]; rfl
    · rw [if_neg h, if_neg h2, decide_eq_true (by omega)]; rfl
theorem isnan64_any (a : Nat) (w : World) : Calls Tryz.prog 123 #[.int .u64 (a : Int)] w fun e w' => e = .returned (.bool false) ∧ w' = w := by
  go_enter Tryz.func123, Tryz.ntmps123
  go_wp2
  go_ret
  exact ⟨ret_bool (by simp), rfl⟩
theorem cmp64_any (a b : Nat) (w : World) : Calls Tryz.prog 113 #[.int .u64 (a : Int), .int .u64 (b : Int)] w fun e w' => e = .returned (.int .i64 (ordI a b)) ∧ w' = w := by
  have n1 := hid (fun W => isnan64_any a W)
  have n2 := hid (fun W => isnan64_any b W)
  unfold ordI
  by_cases h : a < b
  · rw [if_pos h]
    have k1 : decide ((a : Int) < (b : Int)) = true := by simpa using h
    have k2 : decide (a < b) = true := by simpa using h
    go_enter Tryz.func113, Tryz.ntmps113
    go_wp2_with fail
    refine (n1.out _).mono ?_
    rintro e w1 ⟨rfl, rfl⟩
    go_wp2_with fail
    refine (n2.out _).mono ?_
    rintro e w1 ⟨rfl, rfl⟩
    go_wp2_with fail
    go_ret
    exact ⟨rfl, rfl⟩
  · rw [if_neg h]
    have k1 : decide ((a : Int) < (b : Int)) = false := by simpa using h
    have k2 : decide (a < b) = false := by simpa using h
    by_cases h2 : b < a
    · rw [if_pos h2]
      have k3 : decide ((b : Int) < (a : Int)) = true := by simpa using h2
      have k4 : decide (b < a) = true := by simpa using h2
      go_enter Tryz.func113, Tryz.ntmps113
      go_wp2_with fail
      refine (n1.out _).mono ?_
      rintro e w1 ⟨rfl, rfl⟩
      go_wp2_with fail
      refine (n2.out _).mono ?_
      rintro e w1 ⟨rfl, rfl⟩
      go_wp2_with fail
      go_ret
      exact ⟨rfl, rfl⟩
    · rw [if_neg h2]
      have k3 : decide ((b : Int) < (a : Int)) = false := by simpa using h2
      have k4 : decide (b < a) = false := by simpa using h2
      go_enter Tryz.func113, Tryz.ntmps113
      go_wp2_with fail
      refine (n1.out _).mono ?_
      rintro e w1 ⟨rfl, rfl⟩
      go_wp2_with fail
      refine (n2.out _).mono ?_
      rintro e w1 ⟨rfl, rfl⟩
      go_wp2_with fail
      go_ret
      exact ⟨rfl, rfl⟩
theorem find1_any (n : Nod) (p : Nat) (w : World) : Calls Tryz.prog 112 #[.agg n.cells, .int .u64 (p : Int)] w fun e w' => e = .returned (.int .i64 (ordI n.path p)) ∧ Below w.heap.size w w' := by
  have hb := hid ((Below.refl w.heap.size w).alloc (Nat.le_refl _) (.cells n.cells 68))
  have hc := hid (fun W => cmp64_any n.path p W)
  rw [nod_cells] at hb ⊢
  go_enter Tryz.func112, Tryz.ntmps112
  go_wp2_with fail
  refine (hc.out _).mono ?_
  rintro e w1 ⟨rfl, rfl⟩
  go_wp2_with fail
  go_ret
  exact ⟨rfl, hb.out⟩
theorem enter_find1 (args : Array Value) (W : World) : Sem.run Tryz.prog (callFunc 112 args) W = .ok (.enter 112 args) W := by
  rfl

theorem wpList_load_cells {P : Program} {ops : Array Oper} {rest : List Oper} {op : Oper} {a : Act} {w : World} {Q : Exit → Act → World → Prop} (hgd : op.guard = none) (ty : TypeId) (x : Operand) (ho : op.op = .load ty x)
    (b o : Nat) (hx : a.eval x = .pointer (some ⟨b, o, none⟩)) (cs : Array Value) (d : TypeDesc) (hc : w.rangeAt b o cs.toList)
    (hu : P.underlying ty = some d) (hd : d.isRow = true) (hi : (P.info? ty).map (·.size) = some cs.size)
    (h : wpList P ops Q rest (a.put op.dst (.agg cs)) w) : wpList P ops Q (op :: rest) a w :=
  wpList_load_mid hgd ty x ho b o hx cs.toList d hc hu hd (by rw [hi]; simp) (by simpa using h)
theorem range12 {w : World} {b o : Nat} {n : Nod} (h : w.rangeAt b o n.cells.toList) : w.cell? ⟨b, o, none⟩ = some (.int .u64 (n.path : Int)) ∧ w.cell? ⟨b, o + 1, none⟩ = some (.int .u32 (n.vers : Int)) ∧ w.cell? ⟨b, o + 2, none⟩ = some (.int .u32 (n.mode : Int)) ∧ w.cell? ⟨b, o + 3, none⟩ = some (.int .u32 (n.atm : Int)) ∧ w.cell? ⟨b, o + 4, none⟩ = some (.int .u32 (n.mtm : Int)) ∧ w.cell? ⟨b, o + 5, none⟩ = some (.string n.name) ∧ w.cell? ⟨b, o + 6, none⟩ = some (.string n.uid) ∧ w.cell? ⟨b, o + 7, none⟩ = some (.string n.gid) ∧ w.cell? ⟨b, o + 8, none⟩ = some (.string n.muid) ∧ w.cell? ⟨b, o + 9, none⟩ = some (.int .u64 (n.up : Int)) ∧ w.cell? ⟨b, o + 10, none⟩ = some (.bool n.gone) ∧ w.cell? ⟨b, o + 11, none⟩ = some (.string n.data) :=
  ⟨h 0 _ rfl, h 1 _ rfl, h 2 _ rfl, h 3 _ rfl, h 4 _ rfl, h 5 _ rfl, h 6 _ rfl, h 7 _ rfl, h 8 _ rfl, h 9 _ rfl, h 10 _ rfl, h 11 _ rfl⟩
theorem getL_isSome {l : List Nod} (h : SortL l) (p : Nat) : (getL l p).isSome = (match l[belowN l p]? with | some n => decide (n.path = p) | none => false) := by
  rw [get_at h p]
  cases l[belowN l p]? with
  | none => rfl
  | some n => by_cases e : n.path = p <;> simp [e]

set_option maxHeartbeats 3200000 in
theorem bsearch_any (v : Value) (l : List Nod) (p : Nat) (w : World) (hv : NodsAt w v l) (hs : SortL l) (hl : l.length ≤ 1000) :
    Calls Tryz.prog 111 #[v, .int .u64 (p : Int), .func (.func 112) #[] #[]] w fun e w' => e = .returned (.tuple #[.int .i64 (belowN l p : Int), .bool (getL l p).isSome]) ∧ Below w.heap.size w w' := by
  obtain ⟨a, c, rfl, g1, g2⟩ := hv.form
  unfold maxLen at g2
  have hbl := belowN_le l p
  have hbg := hid (fun i hi => below_get hs p i hi)
  have hga := hid (getL_isSome hs p)
  have hE := hid enter_find1
  generalize (getL l p).isSome = r at *
  generalize belowN l p = q at *
  replace hv := hid hv
  replace hs := hid hs
  go_enter Tryz.func111, Tryz.ntmps111
  go_wp2_with fail
  go_loopw [9, 10] (fun iv jv wr => ∃ i j : Nat, i ≤ q ∧ q ≤ j ∧ j ≤ l.length ∧ iv = .int .i64 (i : Int) ∧ jv = .int .i64 (j : Int) ∧ Hid (Below w.heap.size w wr)) (fun iv jv _ => (intOf jv - intOf iv).toNat)
  case atStart => exact ⟨0, l.length, by omega, hbl, by omega, rfl, rfl, hid (Below.refl _ _)⟩
  case round =>
    obtain ⟨i, j, h1, h2, h3, rfl, rfl, hB⟩ := hrel
    by_cases hij : i < j
    · obtain ⟨m, hm⟩ : ∃ m, m = (i + j) / 2 := ⟨_, rfl⟩
      have em : ((i : Int) + (j : Int)) / 2 = (m : Int) := by omega
      have hmi : i ≤ m := by omega
      have hmj : m < j := by omega
      have hml : m < l.length := by omega
      replace hm := hid hm
      obtain ⟨b, o, ha, hr⟩ := (hv.out.below hB.out).range m hml
      subst ha
      have hiff := hid (hbg.out m hml)
      generalize l[m] = n at *
      have hcall := hid (find1_any n p wr)
      have hE' := hE.out #[.agg n.cells, .int .u64 (p : Int)] wr
      replace hr := hid hr
      go_wp2_with (refine wpList_load_cells (by rfl) 68 (.tmp 27) (by rfl) b (o + m * 12) (by rfl) n.cells _ hr.out Tryz.underlying68 (by rfl) (by kernel_rfl) ?_)
      refine hcall.out.mono ?_
      rintro e w2 ⟨rfl, hb2⟩
      have hB2 := hid (sn hB.out hb2)
      clear hb2 hcall hE' hr em
      have hneg := ordI_neg n.path p
      by_cases hlt : n.path < p
      · have hq := hiff.out.1 hlt
        rw [decide_eq_true hlt] at hneg
        clear hlt hiff
        go_wp2_with fail
        go_roundw
        case rel => exact ⟨m + 1, j, by omega, h2, h3, by go_num, rfl, hB2⟩
        case measure => simp [intOf]; omega
      · have hq : ¬ m < q := fun hh => hlt (hiff.out.2 hh)
        rw [decide_eq_false hlt] at hneg
        clear hlt hiff
        go_wp2_with fail
        go_roundw
        case rel => exact ⟨i, m, h1, by omega, by omega, rfl, rfl, hB2⟩
        case measure => simp [intOf]; omega
    · obtain rfl : i = q := by omega
      by_cases hil : i < l.length
      · obtain ⟨b, o, ha, hr⟩ := (hv.out.below hB.out).range i hil
        subst ha
        have hr2 : Hid (r = decide (l[i].path = p)) := hid (by rw [hga.out, List.getElem?_eq_getElem hil])
        generalize l[i] = n at *
        have hcall := hid (find1_any n p wr)
        have hE' := hE.out #[.agg n.cells, .int .u64 (p : Int)] wr
        have hz := ordI_zero n.path p
        rw [← hr2.out] at hz
        obtain ⟨d0, d1, d2, d3, d4, d5, d6, d7, d8, d9, d10, d11⟩ := range12 hr
        rw [nod_cells] at hE'
        replace hr := hid hr
        go_wp2_with fail
        refine hcall.out.mono ?_
        rintro e w2 ⟨rfl, hb2⟩
        have hB2 := hid (sn hB.out hb2)
        clear hb2 hcall hE' hr d0 d1 d2 d3 d4 d5 d6 d7 d8 d9 d10 d11
        go_wp2_with fail
        go_ret2
        exact ⟨rfl, hB2.out⟩
      · have hr2 : r = false := by rw [hga.out, List.getElem?_eq_none (by omega)]
        subst hr2
        have k1 : decide ((i : Int) < (l.length : Int)) = false := by simp; omega
        have k2 : decide (i < l.length) = false := by simp; omega
        go_wp2_with fail
        go_ret2
        exact ⟨rfl, hB.out⟩
end
end Go.Proofs.YtcmajcljafmphaaGreat
