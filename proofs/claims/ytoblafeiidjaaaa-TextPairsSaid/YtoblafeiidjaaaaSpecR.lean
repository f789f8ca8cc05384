/- More on code points: texts beside each other, a text that is cut. No condition. -/
import Derived.Test.YtoblafeiidjaaaaSpec
namespace Go.Proofs.Ytoblafeiidjaaaa.S

theorem cont_append : ∀ (k v : Nat) (l m : List UInt8) (r : Nat), cont k v l = some r → cont k v (l ++ m) = some r
  | 0, _, _, _, _, h => h
  | _ + 1, _, [], _, _, h => by simp [cont] at h
  | k + 1, v, b :: l, m, r, h => by
    simp only [cont, List.cons_append] at h ⊢
    split at h
    · rename_i hb; rw [if_pos hb]; exact cont_append k _ l m r h
    · cases h

theorem one_append {l : List UInt8} {n : Nat} (m : List UInt8) (h : one l = some n) : one (l ++ m) = some n := by
  cases l with
  | nil => simp [one] at h
  | cons c t =>
    simp only [one, List.cons_append] at h ⊢
    cases hh : head c.toNat with
    | none => rw [hh] at h; cases h
    | some x =>
      obtain ⟨k, v, least⟩ := x
      rw [hh] at h
      simp only at h ⊢
      split at h
      · cases h
      · rename_i hl
        rw [if_neg (by simp at hl ⊢; omega)]
        cases hc : cont k v t with
        | none => rw [hc] at h; cases h
        | some r => rw [hc] at h; rw [cont_append k v t m r hc]; exact h

theorem runes_append : ∀ (f : Nat) (a b : List UInt8) (n m : Nat), a.length ≤ f → runes a = some n → runes b = some m → runes (a ++ b) = some (n + m) := by
  intro f
  induction f with
  | zero =>
    intro a b n m hf ha hb
    obtain rfl : a = [] := List.eq_nil_of_length_eq_zero (by omega)
    simp [runes_nil] at ha
    subst ha
    simpa using hb
  | succ f ih =>
    intro a b n m hf ha hb
    by_cases h0 : a = []
    · subst h0; simp [runes_nil] at ha; subst ha; simpa using hb
    · cases h1 : one a with
      | none => rw [runes_none h0 h1] at ha; cases ha
      | some k =>
        have hk := one_le h1
        rw [runes_some h1] at ha
        cases h2 : runes (a.drop k) with
        | none => rw [h2] at ha; cases ha
        | some j =>
          rw [h2] at ha
          simp at ha
          rw [runes_some (one_append b h1), List.drop_append_of_le_length hk.2, ih (a.drop k) b j m (by simp; omega) h2 hb]
          simp; omega

theorem cont_take : ∀ (k v : Nat) (l : List UInt8) (c : Nat) (r : Nat), cont k v l = some r → k ≤ c → cont k v (l.take c) = some r
  | 0, _, _, _, _, h, _ => h
  | _ + 1, _, [], _, _, h, _ => by simp [cont] at h
  | k + 1, v, b :: l, c + 1, r, h, hk => by
    simp only [cont, List.take_succ_cons] at h ⊢
    split at h
    · rename_i hb; rw [if_pos hb]; exact cont_take k _ l c r h (by omega)
    · cases h

theorem cont_mem : ∀ (k v : Nat) (l : List UInt8) (r : Nat), cont k v l = some r → ∀ i (h : i < l.length), i < k → l[i].toNat / 64 = 2
  | 0, _, _, _, _, _, _, hi => by omega
  | k + 1, v, [], _, h, _, hl, _ => by simp at hl
  | k + 1, v, b :: l, r, h, i, hl, hi => by
    simp only [cont] at h
    split at h
    · rename_i hb
      cases i with
      | zero => exact hb
      | succ i => exact cont_mem k _ l r h i (by simpa using hl) (by omega)
    · cases h

theorem one_take {l : List UInt8} {n c : Nat} (h : one l = some n) (hc : n ≤ c) : one (l.take c) = some n := by
  have hn := one_le h
  cases l with
  | nil => simp [one] at h
  | cons b t =>
    obtain ⟨c, rfl⟩ : ∃ c', c = c' + 1 := ⟨c - 1, by omega⟩
    rw [List.take_succ_cons]
    simp only [one] at h ⊢
    cases hh : head b.toNat with
    | none => rw [hh] at h; cases h
    | some x =>
      obtain ⟨k, v, least⟩ := x
      rw [hh] at h
      simp only at h ⊢
      split at h
      · cases h
      · rename_i hl
        cases hcc : cont k v t with
        | none => rw [hcc] at h; cases h
        | some r =>
          rw [hcc] at h
          simp only at h
          have hnk : n = k + 1 := by split at h <;> simp at h; omega
          rw [if_neg (by simp at hl ⊢; omega), cont_take k v t c r hcc (by omega)]
          exact h

theorem one_short {l : List UInt8} {n c : Nat} (h : one l = some n) (h0 : 0 < c) (hc : c < n) : one (l.take c) = none ∧ one (l.drop c) = none := by
  have hn := one_le h
  cases l with
  | nil => simp [one] at h
  | cons b t =>
    obtain ⟨c, rfl⟩ : ∃ c', c = c' + 1 := ⟨c - 1, by omega⟩
    simp only [one] at h
    cases hh : head b.toNat with
    | none => rw [hh] at h; cases h
    | some x =>
      obtain ⟨k, v, least⟩ := x
      rw [hh] at h
      simp only at h
      split at h
      · cases h
      · rename_i hl
        cases hcc : cont k v t with
        | none => rw [hcc] at h; cases h
        | some r =>
          rw [hcc] at h
          simp only at h
          have hnk : n = k + 1 := by split at h <;> simp at h; omega
          simp only [List.length_cons] at hl hn
          constructor
          · rw [List.take_succ_cons]
            simp only [one, hh]
            rw [if_pos (by simp; omega)]
          · have hct : c < t.length := by omega
            have hb := cont_mem k v t r hcc c hct (by omega)
            rw [List.drop_succ_cons, List.drop_eq_getElem_cons hct]
            have hlt := t[c].toNat_lt
            have hhd : head t[c].toNat = none := by
              unfold head
              rw [if_neg (by omega), if_neg (by omega), if_neg (by omega), if_neg (by omega)]
            simp only [one, hhd]

theorem runes_cut : ∀ (f : Nat) (l : List UInt8) (c : Nat), l.length ≤ f → c ≤ l.length → (runes l).isSome = true → (runes (l.take c)).isSome = (runes (l.drop c)).isSome := by
  intro f
  induction f with
  | zero =>
    intro l c hf hc hr
    obtain rfl : l = [] := List.eq_nil_of_length_eq_zero (by omega)
    simp
  | succ f ih =>
    intro l c hf hc hr
    by_cases h0 : l = []
    · subst h0; simp
    · cases h1 : one l with
      | none => rw [runes_none h0 h1] at hr; cases hr
      | some k =>
        have hk := one_le h1
        rw [runes_some h1, Option.isSome_map] at hr
        by_cases hc0 : c = 0
        · subst hc0
          rw [List.take_zero, List.drop_zero, runes_some h1, Option.isSome_map, hr]; rfl
        · by_cases hck : c < k
          · obtain ⟨h2, h3⟩ := one_short h1 (by omega) hck
            have n1 : l.take c ≠ [] := fun e => by have := congrArg List.length e; rw [List.length_take] at this; simp only [List.length_nil] at this; omega
            have n2 : l.drop c ≠ [] := fun e => by have := congrArg List.length e; rw [List.length_drop] at this; simp only [List.length_nil] at this; omega
            rw [runes_none n1 h2, runes_none n2 h3]
          · have hkc : k ≤ c := Nat.le_of_not_lt hck
            have e : k + (c - k) = c := Nat.add_sub_cancel' hkc
            rw [runes_some (one_take h1 hkc), Option.isSome_map, List.drop_take, ih (l.drop k) (c - k) (by rw [List.length_drop]; omega) (by rw [List.length_drop]; omega) hr, List.drop_drop, e]
end Go.Proofs.Ytoblafeiidjaaaa.S
