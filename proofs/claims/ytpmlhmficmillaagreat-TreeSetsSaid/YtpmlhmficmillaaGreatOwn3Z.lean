/- A node stored into a row of the call's own. No condition. -/
import Derived.Test.YtpmlhmficmillaaGreatBunND
namespace Go.Proofs.YtpmlhmficmillaaGreat
open Go.RowKit
set_option maxRecDepth 100000
set_option linter.unusedVariables false

def stA (cs : Array Value) : Nat → List Value → Array Value
  | _, [] => cs
  | i, u :: us => stA (cs.setIfInBounds i u) (i + 1) us
theorem stA_size : ∀ (us : List Value) (i : Nat) (cs : Array Value), (stA cs i us).size = cs.size
  | [], _, _ => rfl
  | u :: us, i, cs => by show (stA (cs.setIfInBounds i u) (i + 1) us).size = _; rw [stA_size us]; simp
theorem stA_get : ∀ (us : List Value) (i : Nat) (cs : Array Value) (k : Nat), k < cs.size → (stA cs i us)[k]? = if i ≤ k ∧ k < i + us.length then us[k - i]? else cs[k]?
  | [], i, cs, k, _ => by rw [if_neg (by simp only [List.length_nil]; omega)]; rfl
  | u :: us, i, cs, k, hk => by
    show (stA (cs.setIfInBounds i u) (i + 1) us)[k]? = _
    rw [stA_get us (i + 1) _ k (by simpa using hk)]
    by_cases h1 : i + 1 ≤ k ∧ k < i + 1 + us.length
    · rw [if_pos h1, if_pos (by simp only [List.length_cons]; omega)]
      obtain ⟨j, rfl⟩ : ∃ j, k = i + 1 + j := ⟨k - (i + 1), by omega⟩
      rw [show i + 1 + j - (i + 1) = j by omega, show i + 1 + j - i = j + 1 by omega, List.getElem?_cons_succ]
    · rw [if_neg h1]
      by_cases h2 : k = i
      · subst h2
        rw [if_pos (by simp only [List.length_cons]; omega), Nat.sub_self, List.getElem?_cons_zero, Array.getElem?_setIfInBounds_self_of_lt hk]
      · rw [if_neg (by simp only [List.length_cons]; omega), Array.getElem?_setIfInBounds_ne (by omega)]
theorem stA_heap {q : Nat} {T : TypeId} : ∀ (us : List Value) (i : Nat) (w : World) (cs : Array Value), w.heap[q]? = some (.cells cs T (0, 0)) → (w.setCells q i us).heap[q]? = some (.cells (stA cs i us) T (0, 0)) ∧ (∀ k, k ≠ q → (w.setCells q i us).heap[k]? = w.heap[k]?) ∧ Below q w (w.setCells q i us)
  | [], _, w, _, h => ⟨h, fun _ _ => rfl, Below.refl _ _⟩
  | u :: us, i, w, cs, h => by
    obtain ⟨h1, h2, h3⟩ := stA_heap us (i + 1) (w.setCell ⟨q, i, none⟩ u) (cs.setIfInBounds i u) (block_set h i u)
    refine ⟨h1, fun k hk => (h2 k hk).trans (block_set_other hk), ((Below.refl q w).setCell (by simp) _).trans h3⟩
theorem own_there {w : World} {base e k n c i : Nat} {g : Nat} {xs : List Value} (h : w.ownsRow base e k (.slice (some ⟨g, 0, none⟩) n c) n xs) (hi : i < n) : w.there g (i * k) k := by
  rcases h.2 with ⟨h1, _⟩ | ⟨g', cap, cur, hv, hb, hg, h1, h2, h3, h4⟩
  · cases h1
  · cases hv
    intro j hj
    have hlt : i * k + j < cur.size := by
      have := Nat.mul_le_mul_right k (show i + 1 ≤ n from hi)
      rw [Nat.add_mul, Nat.one_mul] at this
      have := Nat.mul_le_mul_right k h1
      omega
    refine ⟨?_, block_free hg _⟩
    rw [block_cell hg, Array.getElem?_eq_getElem hlt]; rfl
theorem nodsL_set (l : List Nod) (i : Nat) (x : Nod) (hi : i < l.length) (k : Nat) (hk : k < l.length * 12) : (nodsL (l.set i x))[k]? = if i * 12 ≤ k ∧ k < i * 12 + 12 then x.cells.toList[k - i * 12]? else (nodsL l)[k]? := by
  have hq : k = k / 12 * 12 + k % 12 := by omega
  have h1 : k / 12 < l.length := by omega
  have h2 : k % 12 < 12 := by omega
  by_cases h : i * 12 ≤ k ∧ k < i * 12 + 12
  · rw [if_pos h]
    have e : k / 12 = i := by omega
    conv => lhs; rw [hq, nodsL_get _ _ _ (by simpa using h1) h2]
    simp only [e, List.getElem_set_self]
    rw [show k - i * 12 = k % 12 by omega]
  · rw [if_neg h]
    have e : i ≠ k / 12 := by omega
    conv => lhs; rw [hq, nodsL_get _ _ _ (by simpa using h1) h2]
    conv => rhs; rw [hq, nodsL_get _ _ _ h1 h2]
    rw [List.getElem_set_ne e]
theorem own_set {w : World} {base e n c g i : Nat} {l : List Nod} {x : Nod} (h : w.ownsRow base e 12 (.slice (some ⟨g, 0, none⟩) n c) n (nodsL l)) (hi : i < n) :
    (w.setCells g (i * 12) x.cells.toList).ownsRow base e 12 (.slice (some ⟨g, 0, none⟩) n c) n (nodsL (l.set i x)) ∧ Below base w (w.setCells g (i * 12) x.cells.toList) ∧ ∀ k, k ≠ g → (w.setCells g (i * 12) x.cells.toList).heap[k]? = w.heap[k]? := by
  have hln : n = l.length := by have := h.1; rw [nodsL_length] at this; omega
  rcases h.2 with ⟨h1, _⟩ | ⟨g', cap, cur, hv, hb, hg, h1, h2, h3, h4⟩
  · cases h1
  · cases hv
    obtain ⟨a1, a2, a3⟩ := stA_heap x.cells.toList (i * 12) w cur hg
    refine ⟨⟨by rw [nodsL_length, List.length_set, ← hln], .inr ⟨g, c, _, rfl, hb, a1, h1, h2, by rw [stA_size]; exact h3, ?_⟩⟩, a3.mono hb, a2⟩
    have hl12 : x.cells.toList.length = 12 := by rw [nod_cells]; rfl
    apply List.ext_getElem?
    intro k
    by_cases hk : k < n * 12
    · rw [List.getElem?_take_of_lt hk, Array.getElem?_toList, stA_get _ _ _ _ (by have := Nat.mul_le_mul_right 12 h1; omega), nodsL_set l i x (by omega) k (by omega), hl12]
      by_cases hh : i * 12 ≤ k ∧ k < i * 12 + 12
      · rw [if_pos hh, if_pos hh]
      · rw [if_neg hh, if_neg hh, ← h4, List.getElem?_take_of_lt hk, Array.getElem?_toList]
    · rw [List.getElem?_eq_none (by simp; omega), List.getElem?_eq_none (by rw [nodsL_length]; simp; omega)]
theorem own_ptr {w : World} {base e k n : Nat} {v : Value} {xs : List Value} (h : w.ownsRow base e k v n xs) (h0 : 0 < n) : ∃ g c, v = .slice (some ⟨g, 0, none⟩) n c ∧ n ≤ c ∧ c ≤ maxLen ∧ base ≤ g := by
  rcases h.2 with ⟨_, h1⟩ | ⟨g', cap, cur, hv, hb, hg, h1, h2, h3, h4⟩
  · omega
  · exact ⟨g', cap, hv, h1, h2, hb⟩
end Go.Proofs.YtpmlhmficmillaaGreat
