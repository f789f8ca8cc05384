/- Make of package tree. Conditions: what TrOk asks, every path below the next.
Lists sorted in pieces: what the steps of a stable merging sort do to a list. Plain. No condition. -/
import Derived.Test.YtcmajcljafmphaaGreatKtA11
import Derived.Test.YtcmajcljafmphaaGreatKtA01
namespace Go.Proofs.YtcmajcljafmphaaGreat
section
open Go.RowKit
set_option maxRecDepth 100000
set_option linter.unusedVariables false
end
end Go.Proofs.YtcmajcljafmphaaGreat

namespace Go.Proofs.YtcmajcljafmphaaGreat
section
set_option linter.unusedVariables false

variable {α : Type}
structure Ordr (le : α → α → Bool) : Prop where
  total : ∀ a b, le a b = false → le b a = true
  trans : ∀ a b c, le a b = true → le b c = true → le a c = true
def Srt (le : α → α → Bool) (l : List α) : Prop := l.Pairwise fun a b => le a b = true
theorem Srt.app {le : α → α → Bool} {l m : List α} (h1 : Srt le l) (h2 : Srt le m) (h : ∀ a ∈ l, ∀ b ∈ m, le a b = true) : Srt le (l ++ m) := List.pairwise_append.2 ⟨h1, h2, h⟩
theorem Srt.left {le : α → α → Bool} {l m : List α} (h : Srt le (l ++ m)) : Srt le l := (List.pairwise_append.1 h).1
theorem Srt.right {le : α → α → Bool} {l m : List α} (h : Srt le (l ++ m)) : Srt le m := (List.pairwise_append.1 h).2.1
theorem Srt.cross {le : α → α → Bool} {l m : List α} (h : Srt le (l ++ m)) : ∀ a ∈ l, ∀ b ∈ m, le a b = true := (List.pairwise_append.1 h).2.2
theorem Srt.get {le : α → α → Bool} {l : List α} (h : Srt le l) {i j : Nat} (hij : i < j) (hj : j < l.length) : le (l[i]'(by omega)) l[j] = true := List.pairwise_iff_getElem.1 h i j (by omega) hj hij
theorem Srt.nil {le : α → α → Bool} : Srt le ([] : List α) := List.Pairwise.nil
theorem Srt.one {le : α → α → Bool} (a : α) : Srt le [a] := List.pairwise_singleton _ _
def swp (xs : List α) (i j : Nat) : List α :=
  match xs[i]?, xs[j]? with
  | some x, some y => (xs.set i y).set j x
  | _, _ => xs
theorem swp_mid {Q1 Q2 Q3 : List α} {x y : α} {i j : Nat} (hi : i = Q1.length) (hj : j = Q1.length + 1 + Q2.length) : swp (Q1 ++ x :: (Q2 ++ y :: Q3)) i j = Q1 ++ y :: (Q2 ++ x :: Q3) := by
  subst hi hj
  unfold swp
  have e1 : (Q1 ++ x :: (Q2 ++ y :: Q3))[Q1.length]? = some x := by simp
  have e2 : (Q1 ++ x :: (Q2 ++ y :: Q3))[Q1.length + 1 + Q2.length]? = some y := by
    rw [List.getElem?_append_right (by omega), show Q1.length + 1 + Q2.length - Q1.length = Q2.length + 1 by omega]; simp
  rw [e1, e2]
  simp only
  rw [List.set_append_right _ _ (Nat.le_refl _), Nat.sub_self, List.set_cons_zero, List.set_append_right _ _ (by omega), show Q1.length + 1 + Q2.length - Q1.length = Q2.length + 1 by omega, List.set_cons_succ, List.set_append_right _ _ (Nat.le_refl _), Nat.sub_self, List.set_cons_zero]
def SwapAt (xs ys : List α) (a b n k : Nat) : Prop := ∃ P U M V S, xs = P ++ U ++ M ++ V ++ S ∧ ys = P ++ (V.take k ++ U.drop k) ++ M ++ (U.take k ++ V.drop k) ++ S ∧ P.length = a ∧ (P ++ U ++ M).length = b ∧ U.length = n ∧ V.length = n
theorem SwapAt.start {xs : List α} {a b n : Nat} (hab : a + n ≤ b) (hb : b + n ≤ xs.length) : SwapAt xs xs a b n 0 := by
  refine ⟨xs.take a, (xs.drop a).take n, (xs.drop (a + n)).take (b - (a + n)), (xs.drop b).take n, xs.drop (b + n), ?_, ?_, by simp; omega, by simp; omega, by simp; omega, by simp; omega⟩ <;>
  · try simp only [List.take_zero, List.nil_append, List.drop_zero]
    rw [← List.drop_drop (i := n) (j := b), List.append_assoc, List.take_append_drop]
    have e1 : (xs.drop (a + n)).take (b - (a + n)) ++ xs.drop b = xs.drop (a + n) := by
      conv => rhs; rw [← List.take_append_drop (b - (a + n)) (xs.drop (a + n)), List.drop_drop, show a + n + (b - (a + n)) = b by omega]
    rw [List.append_assoc, e1, ← List.drop_drop, List.append_assoc, List.take_append_drop, List.take_append_drop]
theorem SwapAt.step {xs ys : List α} {a b n k : Nat} (h : SwapAt xs ys a b n k) (hk : k < n) : SwapAt xs (swp ys (a + k) (b + k)) a b n (k + 1) := by
  obtain ⟨P, U, M, V, S, rfl, rfl, ha, hb, hU, hV⟩ := h
  refine ⟨P, U, M, V, S, rfl, ?_, ha, hb, hU, hV⟩
  simp only [List.length_append] at hb
  rw [List.drop_eq_getElem_cons (l := U) (i := k) (by omega), List.drop_eq_getElem_cons (l := V) (i := k) (by omega)]
  have e : P ++ (V.take k ++ U[k] :: U.drop (k + 1)) ++ M ++ (U.take k ++ V[k] :: V.drop (k + 1)) ++ S = (P ++ V.take k) ++ U[k] :: ((U.drop (k + 1) ++ M ++ U.take k) ++ V[k] :: (V.drop (k + 1) ++ S)) := by simp only [List.append_assoc, List.cons_append]
  rw [e, swp_mid (by simp; omega) (by simp; omega), List.take_succ_eq_append_getElem (l := U) (i := k) (by omega), List.take_succ_eq_append_getElem (l := V) (i := k) (by omega)]
  simp only [List.append_assoc, List.cons_append, List.nil_append]
theorem ins_srt {le : α → α → Bool} (ho : ∀ a b c, le a b = true → le b c = true → le a c = true) {L1 L2 : List α} {x : α} (hL : Srt le (L1 ++ L2)) (h1 : ∀ y ∈ L1.getLast?, le y x = true) (h2 : ∀ y ∈ L2.head?, le x y = true) : Srt le (L1 ++ x :: L2) := by
  have hx2 : ∀ b ∈ L2, le x b = true := by
    cases L2 with
    | nil => intro b hb; cases hb
    | cons y M =>
      intro b hb
      rcases List.mem_cons.1 hb with h | h
      · rw [h]; exact h2 y (by simp)
      · exact ho _ _ _ (h2 y (by simp)) ((List.pairwise_cons.1 hL.right).1 b h)
  have h1x : ∀ a ∈ L1, le a x = true := by
    intro a ha
    have hn : L1 ≠ [] := List.ne_nil_of_mem ha
    have hl := h1 (L1.getLast hn) (by rw [List.getLast?_eq_some_getLast hn]; rfl)
    have hs : L1 = L1.dropLast ++ [L1.getLast hn] := (List.dropLast_concat_getLast hn).symm
    have hL1 := hL.left
    rw [hs] at ha hL1
    rcases List.mem_append.1 ha with h | h
    · exact ho _ _ _ (hL1.cross a h _ (by simp)) hl
    · rw [List.mem_singleton.1 h]; exact hl
  refine Srt.app hL.left (List.pairwise_cons.2 ⟨hx2, hL.right⟩) fun a ha b hb => ?_
  rcases List.mem_cons.1 hb with h | h
  · rw [h]; exact h1x a ha
  · exact hL.cross a ha b h

structure Rot (P A B S xs : List α) (m i j : Nat) : Prop where
  ex : ∃ X U V Y, xs = P ++ X ++ U ++ V ++ Y ++ S ∧ X ++ V ++ U ++ Y = B ++ A ∧ U.length = i ∧ V.length = j ∧ (P ++ X ++ U).length = m
theorem Rot.start (P A B S : List α) : Rot P A B S (P ++ A ++ B ++ S) (P ++ A).length A.length B.length :=
  ⟨[], A, B, [], by simp, by simp, rfl, rfl, by simp⟩

def Swapped (xs ys : List α) (a b n : Nat) : Prop := ∃ P U M V S, xs = P ++ U ++ M ++ V ++ S ∧ ys = P ++ V ++ M ++ U ++ S ∧ P.length = a ∧ (P ++ U ++ M).length = b ∧ U.length = n ∧ V.length = n
theorem SwapAt.done {xs ys : List α} {a b n : Nat} (h : SwapAt xs ys a b n n) : Swapped xs ys a b n := by
  obtain ⟨P, U, M, V, S, rfl, rfl, ha, hb, hU, hV⟩ := h
  refine ⟨P, U, M, V, S, rfl, ?_, ha, hb, hU, hV⟩
  rw [List.take_of_length_le (by omega), List.take_of_length_le (by omega), List.drop_of_length_le (by omega), List.drop_of_length_le (by omega)]
  simp
theorem split_len {l1 l2 m1 m2 : List α} (h : l1 ++ l2 = m1 ++ m2) (hl : l1.length = m1.length) : l1 = m1 ∧ l2 = m2 := List.append_inj h hl
theorem Rot.left {P A B S xs ys : List α} {m i j : Nat} (h : Rot P A B S xs m i j) (hij : j < i) (hs : Swapped xs ys (m - i) m j) : Rot P A B S ys m (i - j) j := by
  obtain ⟨X, U, V, Y, rfl, hr, hU, hV, hm⟩ := h.ex
  obtain ⟨P', U', M', V', S', hx, rfl, h1, h2, h3, h4⟩ := hs
  obtain ⟨U1, U2, rfl, hU1⟩ : ∃ U1 U2, U = U1 ++ U2 ∧ U1.length = j := ⟨U.take j, U.drop j, by simp, by simp; omega⟩
  simp only [List.length_append] at hU hm h2
  have e1 : P ++ X ++ (U1 ++ U2) ++ V ++ Y ++ S = (P ++ X) ++ (U1 ++ (U2 ++ (V ++ (Y ++ S)))) := by simp
  have e2 : P' ++ U' ++ M' ++ V' ++ S' = P' ++ (U' ++ (M' ++ (V' ++ S'))) := by simp
  rw [e1, e2] at hx
  obtain ⟨a1, hx⟩ := split_len hx (by simp; omega)
  obtain ⟨a2, hx⟩ := split_len hx (by omega)
  obtain ⟨a3, hx⟩ := split_len hx (by omega)
  obtain ⟨a4, a5⟩ := split_len hx (by omega)
  subst a2 a3 a4 a5
  rw [← a1]
  refine ⟨X ++ V, U2, U1, Y, by simp, ?_, by omega, hU1, by simp; omega⟩
  rw [← hr]; simp
theorem Rot.right {P A B S xs ys : List α} {m i j : Nat} (h : Rot P A B S xs m i j) (hij : i < j) (hs : Swapped xs ys (m - i) (m + j - i) i) : Rot P A B S ys m i (j - i) := by
  obtain ⟨X, U, V, Y, rfl, hr, hU, hV, hm⟩ := h.ex
  obtain ⟨P', U', M', V', S', hx, rfl, h1, h2, h3, h4⟩ := hs
  obtain ⟨V1, V2, rfl, hV1⟩ : ∃ V1 V2, V = V1 ++ V2 ∧ V1.length = j - i := ⟨V.take (j - i), V.drop (j - i), by simp, by simp; omega⟩
  simp only [List.length_append] at hV hm h2
  have e1 : P ++ X ++ U ++ (V1 ++ V2) ++ Y ++ S = (P ++ X) ++ (U ++ (V1 ++ (V2 ++ (Y ++ S)))) := by simp
  have e2 : P' ++ U' ++ M' ++ V' ++ S' = P' ++ (U' ++ (M' ++ (V' ++ S'))) := by simp
  rw [e1, e2] at hx
  obtain ⟨a1, hx⟩ := split_len hx (by simp; omega)
  obtain ⟨a2, hx⟩ := split_len hx (by omega)
  obtain ⟨a3, hx⟩ := split_len hx (by omega)
  obtain ⟨a4, a5⟩ := split_len hx (by omega)
  subst a2 a3 a4 a5
  rw [← a1]
  refine ⟨X, V2, V1, U ++ Y, by simp, ?_, by omega, hV1, by simp; omega⟩
  rw [← hr]; simp
theorem Rot.last {P A B S xs ys : List α} {m i : Nat} (h : Rot P A B S xs m i i) (hs : Swapped xs ys (m - i) m i) : ys = P ++ B ++ A ++ S := by
  obtain ⟨X, U, V, Y, rfl, hr, hU, hV, hm⟩ := h.ex
  obtain ⟨P', U', M', V', S', hx, rfl, h1, h2, h3, h4⟩ := hs
  simp only [List.length_append] at hm h2
  have e1 : P ++ X ++ U ++ V ++ Y ++ S = (P ++ X) ++ (U ++ ([] ++ (V ++ (Y ++ S)))) := by simp
  have e2 : P' ++ U' ++ M' ++ V' ++ S' = P' ++ (U' ++ (M' ++ (V' ++ S'))) := by simp
  rw [e1, e2] at hx
  obtain ⟨a1, hx⟩ := split_len hx (by simp; omega)
  obtain ⟨a2, hx⟩ := split_len hx (by omega)
  obtain ⟨a3, hx⟩ := split_len hx (by simp; omega)
  obtain ⟨a4, a5⟩ := split_len hx (by omega)
  subst a2 a3 a4 a5
  rw [← a1]
  have e : P ++ X ++ V ++ [] ++ U ++ (Y ++ S) = P ++ (X ++ V ++ U ++ Y) ++ S := by simp
  rw [e, hr]; simp

theorem sym_parts {le : α → α → Bool} (ho : Ordr le) {U1 U2 V1 V2 : List α} (hU : Srt le (U1 ++ U2)) (hV : Srt le (V1 ++ V2))
    (h1 : ∀ x ∈ U1.getLast?, ∀ y ∈ V2.head?, le x y = true) (h2 : ∀ x ∈ V1.getLast?, ∀ y ∈ U2.head?, le x y = true) : ∀ a ∈ U1 ++ V1, ∀ b ∈ U2 ++ V2, le a b = true := by
  have last : ∀ (L M : List α), Srt le L → Srt le M → (∀ x ∈ L.getLast?, ∀ y ∈ M.head?, le x y = true) → ∀ a ∈ L, ∀ b ∈ M, le a b = true := by
    intro L M hL hM h a ha b hb
    have hn : L ≠ [] := List.ne_nil_of_mem ha
    cases M with
    | nil => cases hb
    | cons y M' =>
      have hy := h (L.getLast hn) (by rw [List.getLast?_eq_some_getLast hn]; rfl) y (by simp)
      have e1 : a = L.getLast hn ∨ le a (L.getLast hn) = true := by
        have hs : L = L.dropLast ++ [L.getLast hn] := (List.dropLast_concat_getLast hn).symm
        rw [hs] at ha hL
        rcases List.mem_append.1 ha with h | h
        · exact .inr (hL.cross a h _ (by simp))
        · exact .inl (by simpa using h)
      have e2 : b = y ∨ le y b = true := by
        rcases List.mem_cons.1 hb with h | h
        · exact .inl h
        · exact .inr ((List.pairwise_cons.1 hM).1 b h)
      have e3 : le a y = true := by
        rcases e1 with h | h
        · rw [h]; exact hy
        · exact ho.trans _ _ _ h hy
      rcases e2 with h | h
      · rw [h]; exact e3
      · exact ho.trans _ _ _ e3 h
  intro a ha b hb
  rcases List.mem_append.1 ha with ha | ha <;> rcases List.mem_append.1 hb with hb | hb
  · exact hU.cross a ha b hb
  · exact last U1 V2 hU.left hV.right h1 a ha b hb
  · exact last V1 U2 hV.left hU.right h2 a ha b hb
  · exact hV.cross a ha b hb

def seg (xs : List α) (lo hi : Nat) : List α := (xs.drop lo).take (hi - lo)
theorem seg_mid {P T S : List α} {a b : Nat} (ha : P.length = a) (hb : (P ++ T).length = b) : seg (P ++ T ++ S) a b = T := by
  subst ha hb
  unfold seg
  rw [List.append_assoc, List.drop_left, show (P ++ T).length - P.length = T.length by simp, List.take_left]
theorem seg_all (xs : List α) {n : Nat} (h : xs.length ≤ n) : seg xs 0 n = xs := by
  unfold seg; rw [List.drop_zero, List.take_of_length_le (by omega)]
theorem seg_split (xs : List α) {a b : Nat} (h : a ≤ b) (hb : b ≤ xs.length) : ∃ P S, xs = P ++ seg xs a b ++ S ∧ P.length = a ∧ (P ++ seg xs a b).length = b := by
  refine ⟨xs.take a, xs.drop b, ?_, by simp; omega, by unfold seg; simp; omega⟩
  unfold seg
  have e : (xs.drop a).take (b - a) ++ xs.drop b = xs.drop a := by
    conv => rhs; rw [← List.take_append_drop (b - a) (xs.drop a), List.drop_drop, show a + (b - a) = b by omega]
  rw [List.append_assoc, e, List.take_append_drop]
theorem seg_length (xs : List α) {a b : Nat} (h : a ≤ b) (hb : b ≤ xs.length) : (seg xs a b).length = b - a := by unfold seg; simp; omega
theorem seg_join (xs : List α) {a m b : Nat} (h1 : a ≤ m) (h2 : m ≤ b) : seg xs a m ++ seg xs m b = seg xs a b := by
  unfold seg
  have e : xs.drop m = (xs.drop a).drop (m - a) := by rw [List.drop_drop, show a + (m - a) = m by omega]
  rw [e, show b - a = (m - a) + (b - m) by omega, List.take_add]
theorem seg_end (xs : List α) {a b c : Nat} (hb : xs.length ≤ b) (hc : xs.length ≤ c) : seg xs a b = seg xs a c := by
  unfold seg; rw [List.take_of_length_le (by simp; omega), List.take_of_length_le (by simp; omega)]
def Mended (xs ys : List α) (a b : Nat) : Prop := ∃ P T T' S, xs = P ++ T ++ S ∧ ys = P ++ T' ++ S ∧ P.length = a ∧ (P ++ T).length = b ∧ T'.Perm T
theorem Mended.refl {xs : List α} {a b : Nat} (h : a ≤ b) (hb : b ≤ xs.length) : Mended xs xs a b := by
  obtain ⟨P, S, h1, h2, h3⟩ := seg_split xs h hb
  exact ⟨P, _, _, S, h1, h1, h2, h3, List.Perm.refl _⟩
theorem Mended.perm {xs ys : List α} {a b : Nat} (h : Mended xs ys a b) : ys.Perm xs := by
  obtain ⟨P, T, T', S, rfl, rfl, _, _, hp⟩ := h
  exact (hp.append_left P).append_right S
theorem Mended.len {xs ys : List α} {a b : Nat} (h : Mended xs ys a b) : ys.length = xs.length := h.perm.length_eq
theorem Mended.before {xs ys : List α} {a b lo hi : Nat} (h : Mended xs ys a b) (hh : hi ≤ a) : seg ys lo hi = seg xs lo hi := by
  obtain ⟨P, T, T', S, rfl, rfl, ha, _, _⟩ := h
  unfold seg
  by_cases hl : lo ≤ hi
  · rw [List.append_assoc, List.append_assoc, List.drop_append_of_le_length (by omega), List.drop_append_of_le_length (by omega), List.take_append_of_le_length (by simp; omega), List.take_append_of_le_length (by simp; omega)]
  · rw [show hi - lo = 0 by omega]; simp
theorem Mended.behind {xs ys : List α} {a b lo hi : Nat} (h : Mended xs ys a b) (hh : b ≤ lo) : seg ys lo hi = seg xs lo hi := by
  obtain ⟨P, T, T', S, rfl, rfl, ha, hb, hp⟩ := h
  have hl := hp.length_eq
  simp only [List.length_append] at hb
  unfold seg
  have e1 : (P ++ T' ++ S).drop lo = S.drop (lo - (P ++ T').length) := by rw [List.drop_append, List.drop_of_length_le (by simp; omega), List.nil_append]
  have e2 : (P ++ T ++ S).drop lo = S.drop (lo - (P ++ T).length) := by rw [List.drop_append, List.drop_of_length_le (by simp; omega), List.nil_append]
  rw [e1, e2]
  simp only [List.length_append, hl]
theorem Mended.trans {xs ys zs : List α} {a b : Nat} (h1 : Mended xs ys a b) (h2 : Mended ys zs a b) : Mended xs zs a b := by
  obtain ⟨P, T, T', S, rfl, rfl, ha, hb, hp⟩ := h1
  obtain ⟨P2, T2, T2', S2, he, rfl, ha2, hb2, hp2⟩ := h2
  have hl := hp.length_eq
  simp only [List.length_append] at hb hb2
  rw [List.append_assoc, List.append_assoc] at he
  obtain ⟨hPP, he2⟩ := List.append_inj he (by omega)
  obtain ⟨hTT, hSS⟩ := List.append_inj he2 (by omega)
  subst hPP hTT hSS
  exact ⟨P, T, T2', S, rfl, rfl, ha, by simp; omega, hp2.trans hp⟩
def Done (le : α → α → Bool) (xs : List α) (bs q : Nat) : Prop := ∀ k, k < q → Srt le (seg xs (k * bs) (k * bs + bs))
theorem Done.step {le : α → α → Bool} {xs ys : List α} {bs q : Nat} (h : Done le xs bs q) (hm : Mended xs ys (q * bs) (q * bs + bs)) (hs : Srt le (seg ys (q * bs) (q * bs + bs))) : Done le ys bs (q + 1) := by
  intro k hk
  by_cases e : k = q
  · rw [e]; exact hs
  · have : (k + 1) * bs ≤ q * bs := Nat.mul_le_mul_right _ (by omega)
    rw [Nat.add_mul, Nat.one_mul] at this
    rw [hm.before this]; exact h k (by omega)
theorem Done.last {le : α → α → Bool} {xs ys : List α} {bs q : Nat} (h : Done le xs bs q) (hq : xs.length < q * bs + bs) (hm : Mended xs ys (q * bs) xs.length) (hs : Srt le (seg ys (q * bs) xs.length)) : ∀ k, Srt le (seg ys (k * bs) (k * bs + bs)) := by
  have hl := hm.len
  intro k
  rcases Nat.lt_trichotomy k q with hk | hk | hk
  · have : (k + 1) * bs ≤ q * bs := Nat.mul_le_mul_right _ (by omega)
    rw [Nat.add_mul, Nat.one_mul] at this
    rw [hm.before this]; exact h k hk
  · rw [hk, seg_end (c := xs.length) ys (by omega) (by omega)]; exact hs
  · have : (q + 1) * bs ≤ k * bs := Nat.mul_le_mul_right _ (by omega)
    rw [Nat.add_mul, Nat.one_mul] at this
    unfold seg
    rw [List.drop_of_length_le (by omega)]
    simp [Srt]
def MDone (le : α → α → Bool) (xs : List α) (bs q : Nat) : Prop := Done le xs (2 * bs) q ∧ ∀ k, 2 * q ≤ k → Srt le (seg xs (k * bs) (k * bs + bs))
theorem MDone.start {le : α → α → Bool} {xs : List α} {bs : Nat} (h : ∀ k, Srt le (seg xs (k * bs) (k * bs + bs))) : MDone le xs bs 0 := ⟨fun k hk => by omega, fun k _ => h k⟩
theorem MDone.two {le : α → α → Bool} {xs : List α} {bs q : Nat} (h : MDone le xs bs q) : Srt le (seg xs (q * (2 * bs)) (q * (2 * bs) + bs)) ∧ Srt le (seg xs (q * (2 * bs) + bs) (q * (2 * bs) + 2 * bs)) := by
  have e : q * (2 * bs) = 2 * q * bs := by rw [← Nat.mul_assoc, Nat.mul_comm q 2]
  have h1 := h.2 (2 * q) (Nat.le_refl _)
  have h2 := h.2 (2 * q + 1) (by omega)
  rw [Nat.add_mul, Nat.one_mul] at h2
  rw [e]
  exact ⟨h1, by rw [show 2 * q * bs + 2 * bs = 2 * q * bs + bs + bs by omega]; exact h2⟩
theorem MDone.step {le : α → α → Bool} {xs ys : List α} {bs q : Nat} (h : MDone le xs bs q) (hm : Mended xs ys (q * (2 * bs)) (q * (2 * bs) + 2 * bs)) (hs : Srt le (seg ys (q * (2 * bs)) (q * (2 * bs) + 2 * bs))) : MDone le ys bs (q + 1) := by
  refine ⟨h.1.step hm hs, fun k hk => ?_⟩
  have h1 : (2 * q + 2) * bs ≤ k * bs := Nat.mul_le_mul_right _ (by omega)
  have e : q * (2 * bs) = 2 * q * bs := by rw [← Nat.mul_assoc, Nat.mul_comm q 2]
  rw [Nat.add_mul] at h1
  rw [hm.behind (by omega)]
  exact h.2 k (by omega)
theorem MDone.last {le : α → α → Bool} {xs ys : List α} {bs q : Nat} (h : MDone le xs bs q) (hq : xs.length < q * (2 * bs) + 2 * bs) (hm : Mended xs ys (q * (2 * bs)) xs.length) (hs : Srt le (seg ys (q * (2 * bs)) xs.length)) : ∀ k, Srt le (seg ys (k * (2 * bs)) (k * (2 * bs) + 2 * bs)) :=
  h.1.last hq hm hs
theorem MDone.rest {le : α → α → Bool} {xs : List α} {bs q : Nat} (h : MDone le xs bs q) (hq : xs.length ≤ q * (2 * bs) + bs) : ∀ k, Srt le (seg xs (k * (2 * bs)) (k * (2 * bs) + 2 * bs)) := by
  intro k
  rcases Nat.lt_trichotomy k q with hk | hk | hk
  · exact h.1 k hk
  · rw [hk, seg_end (c := q * (2 * bs) + bs) xs (by omega) (by omega)]; exact h.two.1
  · have : (q + 1) * (2 * bs) ≤ k * (2 * bs) := Nat.mul_le_mul_right _ (by omega)
    rw [Nat.add_mul, Nat.one_mul] at this
    unfold seg
    rw [List.drop_of_length_le (by omega)]
    simp [Srt]
theorem all_srt {le : α → α → Bool} {xs : List α} {bs : Nat} (h : ∀ k, Srt le (seg xs (k * bs) (k * bs + bs))) (hb : xs.length ≤ bs) : Srt le xs := by
  have h0 := h 0
  rw [Nat.zero_mul, Nat.zero_add, seg_all xs hb] at h0
  exact h0
end
end Go.Proofs.YtcmajcljafmphaaGreat
