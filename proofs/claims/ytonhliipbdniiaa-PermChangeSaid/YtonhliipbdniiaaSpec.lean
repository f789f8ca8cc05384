/- Plain functions on bytes that the program and the reference both compute, and small lemmas on them. No condition. -/
namespace Go.Proofs.Ytonhliipbdniiaa.S

/-- The first byte of a code point. -/
def head (c : Nat) : Option (Nat × Nat × Nat) :=
  if c < 128 then some (0, c, 0) else if c / 32 = 6 then some (1, c % 32, 128) else if c / 16 = 14 then some (2, c % 16, 2048)
  else if c / 8 = 30 then some (3, c % 8, 65536) else none

def cont : Nat → Nat → List UInt8 → Option Nat
  | 0, v, _ => some v
  | _ + 1, _, [] => none
  | k + 1, v, b :: l => if b.toNat / 64 = 2 then cont k (v * 64 + b.toNat % 64) l else none

def good (v least : Nat) : Bool := !(v < least || 1114111 < v || (55296 ≤ v && v ≤ 57343))

def one (l : List UInt8) : Option Nat :=
  match l with
  | [] => none
  | c :: t => match head c.toNat with
    | none => none
    | some (n, v, least) => if l.length ≤ n then none else match cont n v t with
      | none => none
      | some v => if good v least then some (n + 1) else none

theorem head_lt {c n v least : Nat} (h : head c = some (n, v, least)) : n ≤ 3 ∧ (v + 1) * 64 ^ n ≤ 2097152 := by
  unfold head at h
  split at h
  · simp at h; obtain ⟨rfl, rfl, rfl⟩ := h; simp; omega
  split at h
  · simp at h; obtain ⟨rfl, rfl, rfl⟩ := h; simp; omega
  split at h
  · simp at h; obtain ⟨rfl, rfl, rfl⟩ := h; simp; omega
  split at h
  · simp at h; obtain ⟨rfl, rfl, rfl⟩ := h; simp; omega
  · simp at h

theorem cont_step {k v : Nat} {l : List UInt8} (j : Nat) (hj : j < l.length) (hb : l[j].toNat / 64 = 2) :
    cont (k + 1) v (l.drop j) = cont k (v * 64 + l[j].toNat % 64) (l.drop (j + 1)) := by
  rw [List.drop_eq_getElem_cons hj]
  simp [cont, hb]

theorem cont_stop {k v : Nat} {l : List UInt8} (j : Nat) (hj : j < l.length) (hb : ¬ l[j].toNat / 64 = 2) :
    cont (k + 1) v (l.drop j) = none := by
  rw [List.drop_eq_getElem_cons hj]
  simp [cont, hb]

theorem bound_step {v b k : Nat} (h : (v + 1) * 64 ^ (k + 1) ≤ 2097152) (hb : b < 64) : (v * 64 + b + 1) * 64 ^ k ≤ 2097152 := by
  refine Nat.le_trans ?_ h
  rw [Nat.pow_succ, Nat.mul_comm (64 ^ k) 64, ← Nat.mul_assoc]
  exact Nat.mul_le_mul_right _ (by omega)

theorem bound_v {v k : Nat} (h : (v + 1) * 64 ^ k ≤ 2097152) : v < 2097152 := by
  have := Nat.le_mul_of_pos_right (v + 1) (Nat.pow_pos (n := k) (show 0 < 64 by omega))
  omega

theorem one_le {l : List UInt8} {n : Nat} (h : one l = some n) : 1 ≤ n ∧ n ≤ l.length := by
  unfold one at h
  split at h
  · cases h
  · split at h
    · cases h
    · split at h
      · cases h
      · split at h
        · cases h
        · split at h
          · simp at h; omega
          · cases h

def runesF : Nat → List UInt8 → Option Nat
  | 0, l => if l = [] then some 0 else none
  | f + 1, l => if l = [] then some 0 else match one l with
    | none => none
    | some n => (runesF f (l.drop n)).map (· + 1)

/-- How many code points; none: it is not UTF-8. -/
def runes (l : List UInt8) : Option Nat := runesF l.length l

theorem runesF_eq : ∀ (f : Nat) (l : List UInt8), l.length ≤ f → runesF f l = runes l := by
  intro f
  induction f using Nat.strongRecOn with
  | ind f ih =>
    intro l hl
    cases f with
    | zero => obtain rfl : l = [] := List.eq_nil_of_length_eq_zero (by omega); rfl
    | succ f =>
      unfold runes
      cases hll : l.length with
      | zero => obtain rfl : l = [] := List.eq_nil_of_length_eq_zero hll; rfl
      | succ m =>
        simp only [runesF]
        split
        · rfl
        · cases h : one l with
          | none => rfl
          | some n =>
            have := one_le h
            simp only
            rw [ih f (by omega) (l.drop n) (by simp; omega), ih m (by omega) (l.drop n) (by simp; omega)]

theorem runes_nil : runes [] = some 0 := rfl
theorem runes_none {l : List UInt8} (hl : l ≠ []) (h : one l = none) : runes l = none := by
  rw [← runesF_eq (l.length + 1) l (by omega)]; simp [runesF, hl, h]
theorem runes_some {l : List UInt8} {n : Nat} (h : one l = some n) : runes l = (runes (l.drop n)).map (· + 1) := by
  have hl : l ≠ [] := by intro e; subst e; simp [one] at h
  rw [← runesF_eq (l.length + 1) l (by omega)]; simp only [runesF, hl, h, if_false]
  rw [runesF_eq _ _ (by simp)]

theorem runes_le : ∀ (f : Nat) (l : List UInt8) (k : Nat), l.length ≤ f → runes l = some k → k ≤ l.length := by
  intro f
  induction f with
  | zero => intro l k hl h; obtain rfl : l = [] := List.eq_nil_of_length_eq_zero (by omega); simp [runes_nil] at h; omega
  | succ f ih =>
    intro l k hl h
    by_cases hn : l = []
    · subst hn; simp [runes_nil] at h; omega
    · cases h1 : one l with
      | none => rw [runes_none hn h1] at h; cases h
      | some n =>
        have := one_le h1
        rw [runes_some h1] at h
        cases h2 : runes (l.drop n) with
        | none => rw [h2] at h; cases h
        | some j =>
          rw [h2] at h; simp at h
          have := ih (l.drop n) j (by simp; omega) h2
          simp at this; omega

def valid (l : List UInt8) : Bool := (runes l).isSome && decide (l.length ≤ 64) && !(l.contains 0)
def badByte (c : UInt8) : Bool := c.toNat < 32 || c.toNat == 47
def name (l : List UInt8) : Nat := if !valid l || l.isEmpty || l == [46] || l == [46, 46] then 6 else if l.any badByte then 6 else if 28 < l.length then 3 else 0
def may (l : List UInt8) : Nat := if 64 < l.length then 3 else if !valid l then 2 else 0

theorem take_any (s : ByteArray) (p : UInt8 → Bool) (k : Nat) (h : k < s.size) : (s.data.toList.take (k + 1)).any p = ((s.data.toList.take k).any p || p s[k]) := by
  rw [List.take_succ_eq_append_getElem (by simpa using h), List.any_append]
  show (_ || ([s[k]].any p)) = _
  simp

theorem any_of_take {l : List UInt8} {p : UInt8 → Bool} (k : Nat) (h : (l.take k).any p = true) : l.any p = true := by
  rw [List.any_eq_true] at h ⊢
  obtain ⟨x, hx, hp⟩ := h
  exact ⟨x, List.mem_of_mem_take hx, hp⟩

theorem data_extract (s : ByteArray) (a : Nat) : (s.extract a s.size).data.toList = s.data.toList.drop a := by
  rw [ByteArray.data_extract, Array.toList_extract, List.extract_eq_take_drop]
  refine List.take_of_length_le ?_
  rw [List.length_drop]
  exact Nat.le_refl _

end Go.Proofs.Ytonhliipbdniiaa.S
