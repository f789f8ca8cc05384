/- Records in a row: what dread takes of them, and what is read back; in plain lists. Conditions: each theorem names its own. -/
import Derived.Test.YtoblafeiidjaaaaStatP
import Derived.Test.YtoblafeiidjaaaaDreadF
namespace Go.Proofs.Ytoblafeiidjaaaa
open Go.RowKit
set_option maxRecDepth 100000

def allB (L : List Stat) : List UInt8 := L.flatMap Stat.bytes
theorem allB_cons (s : Stat) (L : List Stat) : allB (s :: L) = s.bytes ++ allB L := rfl
theorem allB_append (L M : List Stat) : allB (L ++ M) = allB L ++ allB M := by unfold allB; rw [List.flatMap_append]

theorem pos_of {s : Stat} (he : s.err = 0) : 49 ≤ s.bytes.length := by
  rw [bytes_len, if_pos he]; unfold Stat.size; omega

theorem fill_big (most : Nat) : ∀ (L : List Stat) (b : List UInt8) (k : Nat), (∀ s ∈ L, Few s) → b.length + 849 * L.length ≤ most → (fillS most L b k).2.2 = 0 → (∀ s ∈ L, s.err = 0) ∧ (fillS most L b k).1 = b ++ allB L
  | [], b, k, _, _, _ => ⟨fun s hs => (by cases hs), (by simp [fillS, allB])⟩
  | s :: L, b, k, hf, hm, h => by
    have hs := bytes_le s (hf s (by simp))
    simp only [List.length_cons] at hm
    by_cases he : s.err = 0
    · have hn : ¬ most < b.length + s.bytes.length := by omega
      simp only [fillS] at h ⊢
      rw [if_neg (by simp [he]), if_neg hn] at h ⊢
      obtain ⟨h1, h2⟩ := fill_big most L (b ++ s.bytes) (k + 1) (fun x hx => hf x (by simp [hx])) (by rw [List.length_append]; omega) h
      refine ⟨fun x hx => ?_, by rw [h2, allB_cons, List.append_assoc]⟩
      rcases List.mem_cons.1 hx with rfl | hx
      · exact he
      · exact h1 x hx
    · simp only [fillS] at h
      rw [if_pos he] at h
      exact absurd h he

theorem fill_take (most : Nat) : ∀ (L : List Stat) (b : List UInt8) (k : Nat), (∀ s ∈ L, s.err = 0) → b.length ≤ most →
    ∃ j, j ≤ L.length ∧ fillS most L b k = (b ++ allB (L.take j), k + j, 0) ∧ (b ++ allB (L.take j)).length ≤ most ∧ ∀ h : j < L.length, most < (b ++ allB (L.take j)).length + L[j].bytes.length
  | [], b, k, _, hb => ⟨0, Nat.le_refl _, (by simp [fillS, allB]), (by simpa [allB] using hb), fun h => (by simp at h)⟩
  | s :: L, b, k, he, hb => by
    have hes := he s (by simp)
    by_cases hn : most < b.length + s.bytes.length
    · refine ⟨0, by omega, ?_, by simpa [allB] using hb, fun h => ?_⟩
      · simp only [fillS]
        rw [if_neg (by simp [hes]), if_pos hn]
        simp [allB]
      · simpa [allB] using hn
    · obtain ⟨j, h1, h2, h3, h4⟩ := fill_take most L (b ++ s.bytes) (k + 1) (fun x hx => he x (by simp [hx])) (by rw [List.length_append]; omega)
      refine ⟨j + 1, by simp; omega, ?_, ?_, fun h => ?_⟩
      · simp only [fillS]
        rw [if_neg (by simp [hes]), if_neg hn, h2, List.take_succ_cons, allB_cons, List.append_assoc]
        congr 2; omega
      · rw [List.take_succ_cons, allB_cons, ← List.append_assoc]; exact h3
      · have := h4 (by simpa using h)
        rw [List.take_succ_cons, allB_cons, ← List.append_assoc]; simpa using this

theorem all_many : ∀ (L : List Stat) (acc : List Stat) (f : Nat), (∀ s ∈ L, StatOk s ∧ Few s ∧ s.err = 0) → (allB L).length ≤ f → allA f acc (allB L) = (acc ++ L, 0)
  | [], acc, f, _, _ => by cases f <;> simp [allA, allB]
  | s :: L, acc, f, h, hf => by
    obtain ⟨h1, h2, h3⟩ := h s (by simp)
    obtain ⟨d1, d2, d3⟩ := dec_back h1 h2 h3 (allB L)
    have hp := pos_of h3
    rw [allB_cons, List.length_append] at hf
    obtain ⟨f', rfl⟩ : ∃ f', f = f' + 1 := ⟨f - 1, by omega⟩
    rw [allB_cons]
    simp only [allA]
    rw [if_neg (by intro h0; have := congrArg List.length h0; rw [List.length_append] at this; simp at this; rw [this.1] at hp; simp at hp), if_neg (by rw [d1]; simp), d2, d3, List.drop_left,
      all_many L (acc ++ [s]) f' (fun x hx => h x (by simp [hx])) (by omega)]
    simp

theorem all_back {L : List Stat} (h : ∀ s ∈ L, StatOk s ∧ Few s ∧ s.err = 0) : allS (allB L) = (L, 0) := by
  unfold allS; rw [all_many L [] _ h (Nat.le_refl _)]; rfl

theorem allB_le : ∀ {L : List Stat}, (∀ s ∈ L, Few s) → (allB L).length ≤ 849 * L.length
  | [], _ => by simp [allB]
  | s :: L, h => by
    have h1 := bytes_le s (h s (by simp))
    have h2 := allB_le (L := L) (fun x hx => h x (by simp [hx]))
    rw [allB_cons, List.length_append]; simp only [List.length_cons]; omega

theorem whole_ok {L : List Stat} (hf : ∀ s ∈ L, Few s) (hl : L.length ≤ 40) (h : fitE most62 L = 0) : (∀ s ∈ L, s.err = 0) ∧ fitB most62 L = allB L := by
  obtain ⟨h1, h2⟩ := fill_big most62 L [] 0 hf (by simp [most62]; omega) h
  refine ⟨h1, ?_⟩
  unfold fitB
  rw [if_pos (by exact h), h2, List.nil_append]

/-- What Fit takes from place p on. -/
theorem fit_from {L : List Stat} (he : ∀ s ∈ L, s.err = 0) (p n : Nat) (hp : p ≤ L.length) : ∃ j, p + j ≤ L.length ∧ fitB n (L.drop p) = allB ((L.drop p).take j) ∧ fitK n (L.drop p) p = p + j ∧ fitE n (L.drop p) = 0 ∧ (allB ((L.drop p).take j)).length ≤ n ∧
    (∀ h : p + j < L.length, n < (allB ((L.drop p).take j)).length + L[p + j].size) ∧ (j ≠ 0 → 0 < (allB ((L.drop p).take j)).length) ∧ allB (L.take (p + j)) = allB (L.take p) ++ allB ((L.drop p).take j) := by
  have he' : ∀ s ∈ L.drop p, s.err = 0 := fun s hs => he s (List.mem_of_mem_drop hs)
  obtain ⟨j, h1, h2, h3, h4⟩ := fill_take n (L.drop p) [] 0 he' (by simp)
  rw [List.nil_append] at h2 h3 h4
  rw [List.length_drop] at h1
  refine ⟨j, by omega, ?_, ?_, ?_, h3, fun h => ?_, fun hj => ?_, ?_⟩
  · unfold fitB; rw [h2]; rfl
  · unfold fitK; rw [h2]; simp
  · unfold fitE; rw [h2]
  · have := h4 (by rw [List.length_drop]; omega)
    rw [List.getElem_drop] at this
    rw [bytes_len, if_pos (he _ (List.getElem_mem _))] at this
    exact this
  · obtain ⟨j', rfl⟩ : ∃ j', j = j' + 1 := ⟨j - 1, by omega⟩
    have hlt : p < L.length := by omega
    rw [List.drop_eq_getElem_cons hlt, List.take_succ_cons, allB_cons, List.length_append]
    have := pos_of (he L[p] (List.getElem_mem _))
    omega
  · rw [← allB_append]
    congr 1
    rw [List.take_add]
end Go.Proofs.Ytoblafeiidjaaaa
