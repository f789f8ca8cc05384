/- The insertion of one node among sorted ones, in plain lists: the nodes' order (name, then path) and the two loops' invariants. No condition. And the texts behind it. -/
import Derived.Test.YtcmajcljafmphaaGreatKtA13
import Derived.Test.YtcmajcljafmphaaGreatKtA30
namespace Go.Proofs.YtcmajcljafmphaaGreat
section
set_option linter.unusedVariables false

def leNP (x y : Nod) : Bool := leS x.name y.name && (!leS y.name x.name || decide (x.path ≤ y.path))
theorem leNP_ordr : Ordr leNP where
  total a b h := by
    unfold leNP at *
    cases h1 : leS a.name b.name with
    | false =>
      have := leS_ordr.total _ _ h1
      rw [this]; simp
    | true =>
      rw [h1] at h
      cases h2 : leS b.name a.name with
      | false => rw [h2] at h; simp at h
      | true =>
        rw [h2] at h
        simp at h ⊢
        omega
  trans a b c h1 h2 := by
    unfold leNP at *
    simp only [Bool.and_eq_true, Bool.or_eq_true, Bool.not_eq_true', decide_eq_true_eq] at *
    refine ⟨leS_ordr.trans _ _ _ h1.1 h2.1, ?_⟩
    cases h : leS c.name a.name with
    | false => exact .inl rfl
    | true =>
      right
      have e1 : leS b.name a.name = true := leS_ordr.trans _ _ _ h2.1 h
      have e2 : leS c.name b.name = true := leS_ordr.trans _ _ _ h h1.1
      rcases h1.2 with k | k
      · rw [e1] at k; cases k
      · rcases h2.2 with k2 | k2
        · rw [e2] at k2; cases k2
        · omega
def InsIn (xs ys : List Nod) (a i j : Nat) : Prop := ∃ P T L1 x L2 R, xs = P ++ T ++ R ∧ ys = P ++ (L1 ++ x :: L2) ++ R ∧ P.length = a ∧ a + L1.length = j ∧ a + L1.length + L2.length = i ∧ (L1 ++ x :: L2).Perm T ∧ Srt leNP (L1 ++ L2) ∧ (∀ y ∈ L2.head?, leNP x y = true) ∧ ∀ y ∈ L1 ++ L2, y.path < x.path
def InsOut (xs ys : List Nod) (a i : Nat) : Prop := ∃ P T T' R, xs = P ++ T ++ R ∧ ys = P ++ T' ++ R ∧ P.length = a ∧ (P ++ T).length = i ∧ T'.Perm T ∧ Srt leNP T'
theorem swp_back {α : Type} {Q1 Q3 : List α} {x y : α} {i j : Nat} (hi : i = Q1.length + 1) (hj : j = Q1.length) : swp (Q1 ++ x :: y :: Q3) i j = Q1 ++ y :: x :: Q3 := by
  subst hi hj
  unfold swp
  have e1 : (Q1 ++ x :: y :: Q3)[Q1.length]? = some x := by simp
  have e2 : (Q1 ++ x :: y :: Q3)[Q1.length + 1]? = some y := by
    rw [List.getElem?_append_right (by omega), show Q1.length + 1 - Q1.length = 1 by omega]; simp
  rw [e1, e2]
  simp only
  rw [List.set_append_right _ _ (by omega), show Q1.length + 1 - Q1.length = 1 by omega, List.set_append_right _ _ (Nat.le_refl _), Nat.sub_self]
  rfl
theorem InsIn.done {xs ys : List Nod} {a i j : Nat} (h : InsIn xs ys a i j) (hst : j ≤ a ∨ ∃ x y, ys[j]? = some x ∧ ys[j - 1]? = some y ∧ leS y.name x.name = true) : InsOut xs ys a (i + 1) := by
  obtain ⟨P, T, L1, x', L2, R, hxs, rfl, ha, hj2, hi, hp, hs, h1, h2⟩ := h
  refine ⟨P, T, L1 ++ x' :: L2, R, hxs, rfl, ha, ?_, hp, ?_⟩
  · have := hp.length_eq
    simp at this ⊢
    omega
  · refine ins_srt leNP_ordr.trans hs ?_ h1
    intro z hz
    rcases List.eq_nil_or_concat L1 with e | ⟨M, y', e⟩
    · subst e; cases hz
    rw [List.concat_eq_append] at e
    subst e
    simp at hz
    subst hz
    have el : (M ++ [y']).length = M.length + 1 := by simp
    rw [el] at hj2 hi
    rcases hst with hst | ⟨x, y, hx, hy, hle⟩
    · omega
    have e0 : P ++ (M ++ [y'] ++ x' :: L2) ++ R = (P ++ M) ++ y' :: ([] ++ x' :: (L2 ++ R)) := by simp
    have ej : j = (P ++ M).length + 1 := by simp; omega
    rw [e0] at hx hy
    have hy' : y' = y := by
      rw [show j - 1 = (P ++ M).length by omega] at hy
      simpa using hy
    have hx' : x' = x := by
      rw [ej, List.getElem?_append_right (by omega), show (P ++ M).length + 1 - (P ++ M).length = 1 by omega] at hx
      simpa using hx
    subst hy' hx'
    have hp2 := h2 y' (by simp)
    unfold leNP
    rw [hle]
    simp
    exact .inr (by omega)
theorem InsOut.start {xs : List Nod} {a : Nat} (h : a < xs.length) : InsOut xs xs a (a + 1) := by
  refine ⟨xs.take a, [xs[a]], [xs[a]], xs.drop (a + 1), ?_, ?_, by simp; omega, by simp; omega, List.Perm.refl _, List.pairwise_singleton _ _⟩ <;>
  · rw [List.append_assoc, List.singleton_append, List.getElem_cons_drop, List.take_append_drop]
theorem InsOut.next {xs ys : List Nod} {a i b : Nat} (h : InsOut xs ys a i) (hi : i < b) (hb : b ≤ xs.length) (hp : (seg xs a b).Pairwise fun x y => x.path < y.path) : InsIn xs ys a i i := by
  obtain ⟨P, T, T', R, hxs, rfl, ha, hai, hpm, hs⟩ := h
  have hR : R ≠ [] := by
    intro e; subst e; rw [hxs] at hb; simp at hb hai; omega
  obtain ⟨x, R', rfl⟩ := List.exists_cons_of_ne_nil hR
  have hl := hpm.length_eq
  rw [List.length_append] at hai
  have hseg : seg xs a b = T ++ x :: R'.take (b - i - 1) := by
    unfold seg
    rw [hxs, List.append_assoc, ← ha, List.drop_left', List.take_append, List.take_of_length_le (by omega), show b - P.length - T.length = (b - i - 1) + 1 by omega, List.take_succ_cons]
    rfl
  rw [hseg] at hp
  have hx := (List.pairwise_append.1 hp).2.2
  refine ⟨P, T ++ [x], T', x, [], R', by rw [hxs]; simp, by simp, ha, by omega, by simp; omega, hpm.append_right [x], by simpa using hs, by simp, ?_⟩
  intro y hy
  rw [List.append_nil] at hy
  exact hx y (hpm.mem_iff.1 hy) x (by simp)
theorem InsOut.mended {xs ys : List Nod} {a b : Nat} (h : InsOut xs ys a b) : Mended xs ys a b ∧ Srt leNP (seg ys a b) := by
  obtain ⟨P, T, T', R, hxs, rfl, ha, hai, hpm, hs⟩ := h
  refine ⟨⟨P, T, T', R, hxs, rfl, ha, hai, hpm⟩, ?_⟩
  rw [seg_mid ha (by rw [List.length_append, hpm.length_eq, ← List.length_append]; exact hai)]
  exact hs
end
end Go.Proofs.YtcmajcljafmphaaGreat

namespace Go.Proofs.YtcmajcljafmphaaGreat
section
set_option linter.unusedVariables false

def nth (xs : List Nod) (k : Nat) : Nod := xs[k]?.getD zeroNod
theorem nth_get {xs : List Nod} {k : Nat} (h : k < xs.length) : xs[k] = nth xs k := by unfold nth; rw [List.getElem?_eq_getElem h]; rfl
theorem nth_some {xs : List Nod} {k : Nat} (h : k < xs.length) : xs[k]? = some (nth xs k) := by rw [← nth_get h]; exact List.getElem?_eq_getElem h
def Mono (p : Nat → Bool) (lo hi : Nat) : Prop := ∀ k k', lo ≤ k → k < k' → k' < hi → p k = true → p k' = true
structure BS (p : Nat → Bool) (lo hi i j : Nat) : Prop where
  blo : lo ≤ i
  ble : i ≤ j
  bhi : j ≤ hi
  f : ∀ k, lo ≤ k → k < i → p k = false
  t : ∀ k, j ≤ k → k < hi → p k = true
theorem BS.start {p : Nat → Bool} {lo hi : Nat} (h : lo ≤ hi) : BS p lo hi lo hi := ⟨Nat.le_refl _, h, Nat.le_refl _, fun k h1 h2 => by omega, fun k h1 h2 => by omega⟩
theorem BS.up {p : Nat → Bool} {lo hi i j h : Nat} (b : BS p lo hi i j) (m : Mono p lo hi) (h1 : i ≤ h) (h2 : h < j) (hp : p h = false) : BS p lo hi (h + 1) j := by
  have := b.blo; have := b.bhi
  refine ⟨by omega, by omega, b.bhi, fun k k1 k2 => ?_, b.t⟩
  rcases Nat.lt_or_ge k h with c | c
  · cases e : p k with
    | false => rfl
    | true => rw [m k h k1 c (by omega) e] at hp; cases hp
  · rw [show k = h by omega]; exact hp
theorem BS.down {p : Nat → Bool} {lo hi i j h : Nat} (b : BS p lo hi i j) (m : Mono p lo hi) (h1 : i ≤ h) (h2 : h < j) (hp : p h = true) : BS p lo hi i h := by
  have := b.blo; have := b.bhi
  refine ⟨b.blo, h1, by omega, b.f, fun k k1 k2 => ?_⟩
  rcases Nat.lt_or_ge h k with c | c
  · exact m h k (by omega) c k2 hp
  · rw [show k = h by omega]; exact hp
theorem leNP_cross {x y : Nod} (h : x.path < y.path) : leNP x y = leS x.name y.name := by
  unfold leNP
  rw [decide_eq_true (show x.path ≤ y.path by omega), Bool.or_true, Bool.and_true]

structure Hv (xs : List Nod) (a m b : Nat) (P U V S : List Nod) : Prop where
  eq : xs = P ++ U ++ V ++ S
  ha : P.length = a
  hm : (P ++ U).length = m
  hb : (P ++ U ++ V).length = b
  su : Srt leNP U
  sv : Srt leNP V
  cr : ∀ x ∈ U, ∀ y ∈ V, x.path < y.path
def Mrg (P U V S ys : List Nod) : Prop := ∃ T, ys = P ++ T ++ S ∧ T.Perm (U ++ V) ∧ Srt leNP T

theorem Hv.bounds {xs : List Nod} {a m b : Nat} {P U V S : List Nod} (h : Hv xs a m b P U V S) : a + U.length = m ∧ m + V.length = b ∧ b + S.length = xs.length := by
  have h1 := h.ha; have h2 := h.hm; have h3 := h.hb
  rw [h.eq]
  simp only [List.length_append] at *
  omega
theorem Hv.inU {xs : List Nod} {a m b : Nat} {P U V S : List Nod} (h : Hv xs a m b P U V S) {k : Nat} (h1 : a ≤ k) (h2 : k < m) : U[k - a]? = some (nth xs k) := by
  have hh := h.bounds
  have : (P ++ U ++ V ++ S)[k]? = U[k - a]? := by
    rw [List.append_assoc, List.append_assoc, List.getElem?_append_right (by have := h.ha; omega), h.ha, List.getElem?_append_left (by omega)]
  rw [← this, ← h.eq]
  exact nth_some (by omega)
theorem Hv.inV {xs : List Nod} {a m b : Nat} {P U V S : List Nod} (h : Hv xs a m b P U V S) {k : Nat} (h1 : m ≤ k) (h2 : k < b) : V[k - m]? = some (nth xs k) := by
  have hh := h.bounds
  have : (P ++ U ++ V ++ S)[k]? = V[k - m]? := by
    rw [List.append_assoc, List.getElem?_append_right (by have := h.hm; omega), h.hm, List.getElem?_append_left (by omega)]
  rw [← this, ← h.eq]
  exact nth_some (by omega)
theorem Hv.cross {xs : List Nod} {a m b : Nat} {P U V S : List Nod} (h : Hv xs a m b P U V S) {i j : Nat} (h1 : a ≤ i) (h2 : i < m) (h3 : m ≤ j) (h4 : j < b) : leNP (nth xs i) (nth xs j) = leS (nth xs i).name (nth xs j).name :=
  leNP_cross (h.cr _ (List.mem_of_getElem? (h.inU h1 h2)) _ (List.mem_of_getElem? (h.inV h3 h4)))
theorem srt_at {l : List Nod} (h : Srt leNP l) {i j : Nat} {x y : Nod} (hij : i < j) (hx : l[i]? = some x) (hy : l[j]? = some y) : leNP x y = true := by
  obtain ⟨h1, rfl⟩ := List.getElem?_eq_some_iff.1 hx
  obtain ⟨h2, rfl⟩ := List.getElem?_eq_some_iff.1 hy
  exact h.get hij h2
theorem Hv.ltU {xs : List Nod} {a m b : Nat} {P U V S : List Nod} (h : Hv xs a m b P U V S) {i j : Nat} (h1 : a ≤ i) (hij : i < j) (h2 : j < m) : leNP (nth xs i) (nth xs j) = true :=
  srt_at h.su (show i - a < j - a by omega) (h.inU h1 (by omega)) (h.inU (by omega) h2)
theorem Hv.ltV {xs : List Nod} {a m b : Nat} {P U V S : List Nod} (h : Hv xs a m b P U V S) {i j : Nat} (h1 : m ≤ i) (hij : i < j) (h2 : j < b) : leNP (nth xs i) (nth xs j) = true :=
  srt_at h.sv (show i - m < j - m by omega) (h.inV h1 (by omega)) (h.inV (by omega) h2)

def p1 (xs : List Nod) (a : Nat) (k : Nat) : Bool := leNP (nth xs a) (nth xs k)
theorem p1_mono {xs : List Nod} {a m b : Nat} {P U V S : List Nod} (h : Hv xs a m b P U V S) : Mono (p1 xs a) m b := fun k k' h1 h2 h3 hk =>
  leNP_ordr.trans _ _ _ hk (h.ltV h1 h2 h3)
def p2 (xs : List Nod) (m : Nat) (k : Nat) : Bool := !leNP (nth xs k) (nth xs m)
theorem p2_mono {xs : List Nod} {a m b : Nat} {P U V S : List Nod} (h : Hv xs a m b P U V S) : Mono (p2 xs m) a m := fun k k' h1 h2 h3 hk => by
  unfold p2 at *
  cases e : leNP (nth xs k') (nth xs m) with
  | false => rfl
  | true => rw [leNP_ordr.trans _ _ _ (h.ltU h1 h2 h3) e] at hk; cases hk
def p3 (xs : List Nod) (q : Nat) (c : Nat) : Bool := !leNP (nth xs c) (nth xs (q - c))
theorem p3_mono {xs : List Nod} {a m b q lo hi : Nat} {P U V S : List Nod} (h : Hv xs a m b P U V S) (h1 : a ≤ lo) (h2 : hi ≤ m) (h3 : lo < hi → q - lo < b) (h4 : lo < hi → m ≤ q - (hi - 1)) : Mono (p3 xs q) lo hi := fun k k' k1 k2 k3 hk => by
  have := h3 (by omega)
  have := h4 (by omega)
  have := h.bounds
  unfold p3 at *
  cases e : leNP (nth xs k') (nth xs (q - k')) with
  | false => rfl
  | true =>
    have e1 := h.ltU (i := k) (j := k') (by omega) k2 (by omega)
    by_cases hq : q - k' = q - k
    · rw [← hq, leNP_ordr.trans _ _ _ e1 e] at hk; cases hk
    · have e2 := h.ltV (i := q - k') (j := q - k) (by omega) (by omega) (by omega)
      rw [leNP_ordr.trans _ _ _ e1 (leNP_ordr.trans _ _ _ e e2)] at hk; cases hk

def Up (P V1 R : List Nod) (x : Nod) (ys : List Nod) (k : Nat) : Prop := ys = P ++ (V1.take k ++ x :: V1.drop k) ++ R
theorem Up.step {P V1 R ys : List Nod} {x : Nod} {k : Nat} (h : Up P V1 R x ys k) (hk : k < V1.length) : Up P V1 R x (swp ys (P.length + k) (P.length + k + 1)) (k + 1) := by
  unfold Up at *
  have e1 : V1.drop k = V1[k] :: V1.drop (k + 1) := (List.getElem_cons_drop (h := hk)).symm
  have e2 : V1.take (k + 1) = V1.take k ++ [V1[k]] := by rw [List.take_add_one, List.getElem?_eq_getElem hk]; rfl
  have e3 : ys = (P ++ V1.take k) ++ x :: ([] ++ V1[k] :: (V1.drop (k + 1) ++ R)) := by rw [h, e1]; simp only [List.append_assoc, List.cons_append, List.nil_append]
  have hl : (P ++ V1.take k).length = P.length + k := by simp; omega
  rw [e3, swp_mid (by omega) (by simp; omega), e2]
  simp only [List.append_assoc, List.cons_append, List.nil_append]
def Down (P U2 R : List Nod) (x : Nod) (ys : List Nod) (k : Nat) : Prop := ys = P ++ (U2.take k ++ x :: U2.drop k) ++ R
theorem Down.step {P U2 R ys : List Nod} {x : Nod} {k : Nat} (h : Down P U2 R x ys (k + 1)) (hk : k < U2.length) : Down P U2 R x (swp ys (P.length + (k + 1)) (P.length + k)) k := by
  unfold Down at *
  have e1 : U2.drop k = U2[k] :: U2.drop (k + 1) := (List.getElem_cons_drop (h := hk)).symm
  have e2 : U2.take (k + 1) = U2.take k ++ [U2[k]] := by rw [List.take_add_one, List.getElem?_eq_getElem hk]; rfl
  have e3 : ys = (P ++ U2.take k) ++ U2[k] :: x :: (U2.drop (k + 1) ++ R) := by rw [h, e2]; simp only [List.append_assoc, List.cons_append, List.nil_append]
  have hl : (P ++ U2.take k).length = P.length + k := by simp; omega
  rw [e3, swp_back (by omega) (by omega), e1]
  simp only [List.append_assoc, List.cons_append]

theorem Hv.one {xs : List Nod} {a m b i : Nat} {P U V S : List Nod} (h : Hv xs a m b P U V S) (hm : m = a + 1) (hi : BS (p1 xs a) m b i i) :
    Up P (V.take (i - m)) (V.drop (i - m) ++ S) (nth xs a) xs 0 ∧ (V.take (i - m)).length = i - m ∧ ∀ ys, Up P (V.take (i - m)) (V.drop (i - m) ++ S) (nth xs a) ys (i - m) → Mrg P U V S ys := by
  have hbd := h.bounds
  have h1 := hi.blo
  have h2 := hi.bhi
  have hU : U = [nth xs a] := by
    have := h.inU (Nat.le_refl a) (by omega)
    match U, this, hbd with
    | [z], e, _ => simpa using e
    | [], _, hh => simp at hh; omega
    | _ :: _ :: _, _, hh => simp at hh; omega
  have hl : (V.take (i - m)).length = i - m := by rw [List.length_take]; omega
  refine ⟨?_, hl, ?_⟩
  · unfold Up
    rw [List.take_zero, List.drop_zero, List.nil_append]
    have : P ++ U ++ V ++ S = P ++ nth xs a :: V.take (i - m) ++ (V.drop (i - m) ++ S) := by
      have e : V ++ S = V.take (i - m) ++ (V.drop (i - m) ++ S) := by rw [← List.append_assoc, List.take_append_drop]
      rw [List.append_assoc, e]
      generalize nth xs a = z at hU ⊢
      rw [hU]; simp
    rw [← this]; exact h.eq
  · intro ys hy
    unfold Up at hy
    rw [List.take_of_length_le (by omega), List.drop_of_length_le (by omega)] at hy
    refine ⟨V.take (i - m) ++ nth xs a :: V.drop (i - m), by rw [hy]; simp, ?_, ?_⟩
    · generalize nth xs a = z at hU ⊢
      rw [hU]
      refine List.perm_middle.trans ?_
      rw [List.take_append_drop]; exact List.Perm.refl _
    · refine ins_srt leNP_ordr.trans (by rw [List.take_append_drop]; exact h.sv) ?_ ?_
      · intro z hz
        have : z ∈ V.take (i - m) := List.mem_of_getLast? (by simpa using hz)
        obtain ⟨k, hk, rfl⟩ := List.mem_iff_getElem.1 this
        rw [hl] at hk
        have e := hi.f (m + k) (by omega) (by omega)
        have e2 := h.inV (k := m + k) (by omega) (by omega)
        rw [show m + k - m = k by omega] at e2
        have e3 : (V.take (i - m))[k] = nth xs (m + k) := by
          rw [List.getElem_take]; rw [List.getElem?_eq_getElem (by omega)] at e2; simpa using e2
        rw [e3]
        exact leNP_ordr.total _ _ e
      · intro z hz
        by_cases hib : i < b
        · have e := hi.t i (Nat.le_refl _) hib
          have e2 := h.inV (k := i) h1 hib
          have : (V.drop (i - m)).head? = some (nth xs i) := by rw [List.head?_drop]; exact e2
          rw [this] at hz
          cases hz
          exact e
        · rw [List.drop_of_length_le (by omega)] at hz; cases hz
theorem Hv.two {xs : List Nod} {a m b i : Nat} {P U V S : List Nod} (h : Hv xs a m b P U V S) (hm : b = m + 1) (hi : BS (p2 xs m) a m i i) :
    Down (P ++ U.take (i - a)) (U.drop (i - a)) S (nth xs m) xs (m - i) ∧ (U.drop (i - a)).length = m - i ∧ (P ++ U.take (i - a)).length = i ∧ ∀ ys, Down (P ++ U.take (i - a)) (U.drop (i - a)) S (nth xs m) ys 0 → Mrg P U V S ys := by
  have hbd := h.bounds
  have h1 := hi.blo
  have h2 := hi.bhi
  have hV : V = [nth xs m] := by
    have := h.inV (Nat.le_refl m) (by omega)
    match V, this, hbd with
    | [z], e, _ => simpa using e
    | [], _, hh => simp at hh; omega
    | _ :: _ :: _, _, hh => simp at hh; omega
  have hl : (U.drop (i - a)).length = m - i := by simp; omega
  refine ⟨?_, hl, by have := h.ha; simp; omega, ?_⟩
  · unfold Down
    rw [List.take_of_length_le (show (U.drop (i - a)).length ≤ m - i by omega), List.drop_of_length_le (show (U.drop (i - a)).length ≤ m - i by omega)]
    have : P ++ U ++ V ++ S = P ++ U.take (i - a) ++ (U.drop (i - a) ++ [nth xs m]) ++ S := by
      generalize nth xs m = z at hV ⊢
      rw [hV]
      have e : U.take (i - a) ++ U.drop (i - a) = U := List.take_append_drop _ _
      have : P ++ U = P ++ U.take (i - a) ++ U.drop (i - a) := by rw [List.append_assoc, e]
      rw [this]; simp only [List.append_assoc, List.cons_append, List.nil_append]
    rw [← this]; exact h.eq
  · intro ys hy
    unfold Down at hy
    rw [List.take_zero, List.drop_zero, List.nil_append] at hy
    refine ⟨U.take (i - a) ++ nth xs m :: U.drop (i - a), by rw [hy]; simp, ?_, ?_⟩
    · generalize nth xs m = z at hV ⊢
      rw [hV]
      refine List.perm_middle.trans ?_
      rw [List.take_append_drop]; exact (List.perm_append_singleton _ _).symm
    · refine ins_srt leNP_ordr.trans (by rw [List.take_append_drop]; exact h.su) ?_ ?_
      · intro z hz
        have : z ∈ U.take (i - a) := List.mem_of_getLast? (by simpa using hz)
        obtain ⟨k, hk, rfl⟩ := List.mem_iff_getElem.1 this
        have hk' := hk
        simp at hk'
        have e := hi.f (a + k) (by omega) (by omega)
        have e2 := h.inU (k := a + k) (by omega) (by omega)
        rw [show a + k - a = k by omega] at e2
        have e3 : (U.take (i - a))[k] = nth xs (a + k) := by
          rw [List.getElem_take]; rw [List.getElem?_eq_getElem (by omega)] at e2; simpa using e2
        rw [e3]
        unfold p2 at e
        simpa using e
      · intro z hz
        by_cases hib : i < m
        · have e := hi.t i (Nat.le_refl _) hib
          have e2 := h.inU (k := i) h1 hib
          have : (U.drop (i - a)).head? = some (nth xs i) := by rw [List.head?_drop]; exact e2
          rw [this] at hz
          cases hz
          unfold p2 at e
          exact leNP_ordr.total _ _ (by simpa using e)
        · rw [List.drop_of_length_le (by omega)] at hz; cases hz
structure Sym (xs : List Nod) (a m b mid st e : Nat) (P U1 U2 V1 V2 S : List Nod) : Prop where
  eq : xs = P ++ U1 ++ U2 ++ V1 ++ (V2 ++ S)
  l1 : P.length = a
  l2 : (P ++ U1).length = st
  l3 : (P ++ U1 ++ U2).length = m
  l4 : (P ++ U1 ++ U2 ++ V1).length = e
  l5 : (P ++ U1 ++ U2 ++ V1 ++ V2).length = b
  mid : st + e = mid + m
  sU : Srt leNP (U1 ++ U2)
  sV : Srt leNP (V1 ++ V2)
  cr : ∀ x ∈ U1 ++ U2, ∀ y ∈ V1 ++ V2, x.path < y.path
  le : ∀ x ∈ U1 ++ V1, ∀ y ∈ U2 ++ V2, leNP x y = true
theorem Hv.three {xs : List Nod} {a m b mid st lo hi : Nat} {P U V S : List Nod} (h : Hv xs a m b P U V S) (hb : BS (p3 xs (mid + m - 1)) lo hi st st) (hm1 : a < m) (hm2 : m < b)
    (hc : (m ≤ mid ∧ lo = a ∧ hi = m ∧ mid + m ≤ a + b) ∨ (mid < m ∧ lo + b = mid + m ∧ hi = mid ∧ a ≤ lo ∧ a < mid)) :
    Sym xs a m b mid st (mid + m - st) P (U.take (st - a)) (U.drop (st - a)) (V.take (mid - st)) (V.drop (mid - st)) S := by
  have hbd := h.bounds
  have k1 := hb.blo
  have k2 := hb.bhi
  have ha := h.ha
  have eU : U.take (st - a) ++ U.drop (st - a) = U := List.take_append_drop _ _
  have eV : V.take (mid - st) ++ V.drop (mid - st) = V := List.take_append_drop _ _
  have hst : st ≤ mid ∧ st ≤ m ∧ a ≤ st ∧ mid - st ≤ V.length := by omega
  have q1 : (U.take (st - a)).length = st - a := by simp; omega
  have q2 : (U.drop (st - a)).length = m - st := by simp; omega
  have q3 : (V.take (mid - st)).length = mid - st := by simp; omega
  have q4 : (V.drop (mid - st)).length = V.length - (mid - st) := by simp
  refine ⟨?_, ha, by simp only [List.length_append]; omega, by simp only [List.length_append]; omega, by simp only [List.length_append]; omega, by simp only [List.length_append]; omega, by omega, by rw [eU]; exact h.su, by rw [eV]; exact h.sv, by rw [eU, eV]; exact h.cr, ?_⟩
  · have : P ++ U ++ V ++ S = P ++ (U.take (st - a) ++ U.drop (st - a)) ++ (V.take (mid - st) ++ V.drop (mid - st)) ++ S := by rw [eU, eV]
    rw [h.eq, this]; simp only [List.append_assoc]
  · refine sym_parts leNP_ordr (by rw [eU]; exact h.su) (by rw [eV]; exact h.sv) ?_ ?_
    · intro x hx y hy
      by_cases c : lo < st
      · have e := hb.f (st - 1) (by omega) (by omega)
        have x1 : (U.take (st - a)).getLast? = some (nth xs (st - 1)) := by
          rw [List.getLast?_eq_getElem?, q1, List.getElem?_take_of_lt (by omega)]
          have := h.inU (k := st - 1) (by omega) (by omega)
          rw [← this]; congr 1; omega
        by_cases c2 : mid + m - st < b
        · have y1 : (V.drop (mid - st)).head? = some (nth xs (mid + m - st)) := by
            rw [List.head?_drop]
            have := h.inV (k := mid + m - st) (by omega) c2
            rw [← this]; congr 1; omega
          rw [x1] at hx; rw [y1] at hy
          cases hx; cases hy
          unfold p3 at e
          rw [show mid + m - 1 - (st - 1) = mid + m - st by omega] at e
          simpa using e
        · rw [List.drop_of_length_le (by omega)] at hy; cases hy
      · rcases hc with c2 | c2
        · rw [show st - a = 0 by omega] at hx; cases hx
        · rw [List.drop_of_length_le (by omega)] at hy; cases hy
    · intro x hx y hy
      by_cases c : st < hi
      · have e := hb.t st (Nat.le_refl _) c
        have x1 : (V.take (mid - st)).getLast? = some (nth xs (mid + m - 1 - st)) := by
          rw [List.getLast?_eq_getElem?, q3, List.getElem?_take_of_lt (by omega)]
          have := h.inV (k := mid + m - 1 - st) (by omega) (by omega)
          rw [← this]; congr 1; omega
        have y1 : (U.drop (st - a)).head? = some (nth xs st) := by
          rw [List.head?_drop]; exact h.inU (by omega) (by omega)
        rw [x1] at hx; rw [y1] at hy
        cases hx; cases hy
        unfold p3 at e
        exact leNP_ordr.total _ _ (by simpa using e)
      · rcases hc with c2 | c2
        · rw [List.drop_of_length_le (by omega)] at hy; cases hy
        · rw [show mid - st = 0 by omega] at hx; cases hx
theorem Sym.turned {xs : List Nod} {a m b mid st e : Nat} {P U1 U2 V1 V2 S : List Nod} (h : Sym xs a m b mid st e P U1 U2 V1 V2 S) (hn : ¬ (st < m ∧ m < e)) : xs = P ++ U1 ++ V1 ++ U2 ++ (V2 ++ S) := by
  have h1 := h.l1; have h2 := h.l2; have h3 := h.l3; have h4 := h.l4; have h5 := h.l5
  simp only [List.length_append] at *
  rw [h.eq]
  by_cases c : st < m
  · have : V1 = [] := List.length_eq_zero_iff.1 (by omega)
    subst this; simp
  · have : U2 = [] := List.length_eq_zero_iff.1 (by omega)
    subst this; simp
theorem Sym.left {xs : List Nod} {a m b mid st e : Nat} {P U1 U2 V1 V2 S : List Nod} (h : Sym xs a m b mid st e P U1 U2 V1 V2 S) : Hv (P ++ U1 ++ V1 ++ U2 ++ (V2 ++ S)) a st mid P U1 V1 (U2 ++ (V2 ++ S)) := by
  have h1 := h.l1; have h2 := h.l2; have h3 := h.l3; have h4 := h.l4; have h5 := h.l5; have h6 := h.mid
  refine ⟨by simp only [List.append_assoc], h1, h2, ?_, h.sU.left, h.sV.left, fun x hx y hy => h.cr x (by simp [hx]) y (by simp [hy])⟩
  simp only [List.length_append] at *
  omega
theorem Mrg.lone {P U V S : List Nod} (h1 : Srt leNP U) (h2 : Srt leNP V) (h : U = [] ∨ V = []) : Mrg P U V S (P ++ U ++ V ++ S) :=
  ⟨U ++ V, by simp only [List.append_assoc], List.Perm.refl _, by rcases h with h | h <;> subst h <;> simpa⟩
theorem Sym.left0 {xs : List Nod} {a m b mid st e : Nat} {P U1 U2 V1 V2 S : List Nod} (h : Sym xs a m b mid st e P U1 U2 V1 V2 S) (hn : ¬ (a < st ∧ st < mid)) : Mrg P U1 V1 (U2 ++ (V2 ++ S)) (P ++ U1 ++ V1 ++ U2 ++ (V2 ++ S)) := by
  have h1 := h.l1; have h2 := h.l2; have h3 := h.l3; have h4 := h.l4; have h5 := h.l5; have h6 := h.mid
  have := Mrg.lone (P := P) (S := U2 ++ (V2 ++ S)) h.sU.left h.sV.left (by
    simp only [List.length_append] at *
    by_cases c : a < st
    · exact .inr (List.length_eq_zero_iff.1 (by omega))
    · exact .inl (List.length_eq_zero_iff.1 (by omega)))
  simpa only [List.append_assoc] using this
def Rgt (P U1 U2 V1 V2 S ys : List Nod) (T1 : List Nod) : Prop := ys = P ++ T1 ++ U2 ++ V2 ++ S ∧ T1.Perm (U1 ++ V1) ∧ Srt leNP T1
theorem Mrg.rgt {P U1 U2 V1 V2 S ys : List Nod} (h : Mrg P U1 V1 (U2 ++ (V2 ++ S)) ys) : ∃ T1, Rgt P U1 U2 V1 V2 S ys T1 := by
  obtain ⟨T, h1, h2, h3⟩ := h
  exact ⟨T, by rw [h1]; simp only [List.append_assoc], h2, h3⟩
theorem Sym.right {xs : List Nod} {a m b mid st e : Nat} {P U1 U2 V1 V2 S ys T1 : List Nod} (h : Sym xs a m b mid st e P U1 U2 V1 V2 S) (hr : Rgt P U1 U2 V1 V2 S ys T1) : Hv ys mid e b (P ++ T1) U2 V2 S := by
  have h1 := h.l1; have h2 := h.l2; have h3 := h.l3; have h4 := h.l4; have h5 := h.l5; have h6 := h.mid
  have hl := hr.2.1.length_eq
  simp only [List.length_append] at *
  refine ⟨hr.1, ?_, ?_, ?_, h.sU.right, h.sV.right, fun x hx y hy => h.cr x (by simp [hx]) y (by simp [hy])⟩ <;> simp only [List.length_append] <;> omega
theorem Sym.right0 {xs : List Nod} {a m b mid st e : Nat} {P U1 U2 V1 V2 S ys T1 : List Nod} (h : Sym xs a m b mid st e P U1 U2 V1 V2 S) (hr : Rgt P U1 U2 V1 V2 S ys T1) (hn : ¬ (mid < e ∧ e < b)) : Mrg (P ++ T1) U2 V2 S ys := by
  have h1 := h.l1; have h2 := h.l2; have h3 := h.l3; have h4 := h.l4; have h5 := h.l5; have h6 := h.mid
  have := Mrg.lone (P := P ++ T1) (S := S) h.sU.right h.sV.right (by
    simp only [List.length_append] at *
    by_cases c : mid < e
    · exact .inr (List.length_eq_zero_iff.1 (by omega))
    · exact .inl (List.length_eq_zero_iff.1 (by omega)))
  rw [hr.1]; exact this
theorem Sym.whole {xs : List Nod} {a m b mid st e : Nat} {P U1 U2 V1 V2 S ys T1 zs : List Nod} (h : Sym xs a m b mid st e P U1 U2 V1 V2 S) (hr : Rgt P U1 U2 V1 V2 S ys T1) (hm : Mrg (P ++ T1) U2 V2 S zs) : Mrg P (U1 ++ U2) (V1 ++ V2) S zs := by
  obtain ⟨T2, k1, k2, k3⟩ := hm
  refine ⟨T1 ++ T2, by rw [k1]; simp only [List.append_assoc], ?_, ?_⟩
  · refine (hr.2.1.append k2).trans ?_
    simp only [List.append_assoc]
    refine List.Perm.append_left _ ?_
    simp only [← List.append_assoc]
    exact (List.perm_append_comm).append_right _
  · exact Srt.app hr.2.2 k3 fun x hx y hy => h.le x (hr.2.1.mem_iff.1 hx) y (k2.mem_iff.1 hy)
end
end Go.Proofs.YtcmajcljafmphaaGreat

namespace Go.Proofs.YtcmajcljafmphaaGreat
section
set_option linter.unusedVariables false

def Cut (l0 xs : List Nod) (c : Nat) : Prop := (xs.take c).Perm (l0.take c)
theorem Mended.take {xs ys : List Nod} {a b c : Nat} (h : Mended xs ys a b) (hc : c ≤ a ∨ b ≤ c) : (ys.take c).Perm (xs.take c) := by
  obtain ⟨P, T, T', S, rfl, rfl, ha, hb, hp⟩ := h
  have hl := hp.length_eq
  rw [List.length_append] at hb
  rcases hc with hc | hc
  · rw [List.append_assoc, List.append_assoc, List.take_append_of_le_length (by omega), List.take_append_of_le_length (by omega)]
  · have e1 : (P ++ T').length ≤ c := by simp; omega
    have e2 : (P ++ T).length ≤ c := by simp; omega
    rw [List.take_append (l₁ := P ++ T'), List.take_append (l₁ := P ++ T), List.take_of_length_le e1, List.take_of_length_le e2, show (P ++ T').length = (P ++ T).length by simp; omega]
    exact (hp.append_left P).append_right _
theorem Cut.mended {l0 xs ys : List Nod} {a b c : Nat} (h : Cut l0 xs c) (hm : Mended xs ys a b) (hc : c ≤ a ∨ b ≤ c) : Cut l0 ys c := (hm.take hc).trans h
theorem Cut.cross {l0 xs : List Nod} {m : Nat} (h : Cut l0 xs m) (hw : xs.Perm l0) (hp : l0.Pairwise fun x y => x.path < y.path) (a b : Nat) : ∀ x ∈ seg xs a m, ∀ y ∈ seg xs m b, x.path < y.path := by
  intro x hx y hy
  unfold seg at hx hy
  rw [← List.drop_take] at hx
  have x1 : x ∈ l0.take m := h.mem_iff.1 (List.mem_of_mem_drop hx)
  have hd : (xs.drop m).Perm (l0.drop m) := by
    refine (List.perm_append_left_iff (xs.take m)).1 ?_
    rw [List.take_append_drop]
    refine hw.trans ?_
    have := h.symm.append_right (l0.drop m)
    rwa [List.take_append_drop] at this
  have y1 : y ∈ l0.drop m := hd.mem_iff.1 (List.mem_of_mem_take hy)
  rw [← List.take_append_drop m l0] at hp
  exact (List.pairwise_append.1 hp).2.2 x x1 y y1
theorem hv_of {xs : List Nod} {a m b : Nat} (h1 : a ≤ m) (h2 : m ≤ b) (h3 : b ≤ xs.length) (su : Srt leNP (seg xs a m)) (sv : Srt leNP (seg xs m b)) (cr : ∀ x ∈ seg xs a m, ∀ y ∈ seg xs m b, x.path < y.path) : ∃ P U V S, Hv xs a m b P U V S := by
  refine ⟨xs.take a, seg xs a m, seg xs m b, xs.drop b, ?_, by simp; omega, ?_, ?_, su, sv, cr⟩
  · rw [List.append_assoc (xs.take a), seg_join xs h1 h2]
    unfold seg
    rw [List.append_assoc]
    have : xs.drop b = (xs.drop a).drop (b - a) := by rw [List.drop_drop, show a + (b - a) = b by omega]
    rw [this, List.take_append_drop, List.take_append_drop]
  · rw [List.length_append, seg_length xs h1 (by omega)]; simp; omega
  · rw [List.length_append, List.length_append, seg_length xs h1 (by omega), seg_length xs h2 h3]; simp; omega
theorem Hv.mended {xs ys : List Nod} {a m b : Nat} {P U V S : List Nod} (h : Hv xs a m b P U V S) (hm : Mrg P U V S ys) : Mended xs ys a b ∧ Srt leNP (seg ys a b) := by
  obtain ⟨T, rfl, h2, h3⟩ := hm
  have hb := h.hb
  have hl := h2.length_eq
  rw [List.append_assoc, List.length_append] at hb
  refine ⟨⟨P, U ++ V, T, S, by rw [h.eq]; simp only [List.append_assoc], rfl, h.ha, by rw [List.length_append]; exact hb, h2⟩, ?_⟩
  rw [seg_mid h.ha (by rw [List.length_append, hl]; exact hb)]
  exact h3
structure StA (l0 xs : List Nod) (q : Nat) : Prop where
  perm : xs.Perm l0
  done : Done leNP xs 20 q
  cut : ∀ k, Cut l0 xs (k * 20)
  rest : ∀ lo hi, q * 20 ≤ lo → seg xs lo hi = seg l0 lo hi
structure StB (l0 xs : List Nod) (bs : Nat) : Prop where
  perm : xs.Perm l0
  srt : ∀ k, Srt leNP (seg xs (k * bs) (k * bs + bs))
  cut : ∀ k, Cut l0 xs (k * bs)
structure StM (l0 xs : List Nod) (bs q : Nat) : Prop where
  perm : xs.Perm l0
  md : MDone leNP xs bs q
  c2 : ∀ k, Cut l0 xs (k * (2 * bs))
  c1 : ∀ k, 2 * q ≤ k → Cut l0 xs (k * bs)
theorem StA.start (l0 : List Nod) : StA l0 l0 0 := ⟨List.Perm.refl _, fun k h => by omega, fun k => List.Perm.refl _, fun _ _ _ => rfl⟩
theorem StA.step {l0 xs ys : List Nod} {q : Nat} (h : StA l0 xs q) (hm : Mended xs ys (q * 20) (q * 20 + 20)) (hs : Srt leNP (seg ys (q * 20) (q * 20 + 20))) : StA l0 ys (q + 1) :=
  ⟨hm.perm.trans h.perm, h.done.step hm hs, fun k => (h.cut k).mended hm (by omega), fun lo hi hl => by rw [hm.behind (by omega)]; exact h.rest lo hi (by omega)⟩
theorem StA.last {l0 xs ys : List Nod} {q : Nat} (h : StA l0 xs q) (hq : xs.length < q * 20 + 20) (hm : Mended xs ys (q * 20) xs.length) (hs : Srt leNP (seg ys (q * 20) xs.length)) : StB l0 ys 20 :=
  ⟨hm.perm.trans h.perm, h.done.last hq hm hs, fun k => (h.cut k).mended hm (by omega)⟩
theorem StB.start {l0 xs : List Nod} {bs : Nat} (h : StB l0 xs bs) : StM l0 xs bs 0 :=
  ⟨h.perm, .start h.srt, fun k => by have := h.cut (k * 2); rwa [Nat.mul_assoc] at this, fun k _ => h.cut k⟩
theorem StM.hv {l0 xs : List Nod} {bs q b : Nat} (h : StM l0 xs bs q) (hp : l0.Pairwise fun x y => x.path < y.path) (h2 : q * (2 * bs) + bs ≤ b) (h3 : b ≤ xs.length) (hb : b = q * (2 * bs) + 2 * bs ∨ (b = xs.length ∧ xs.length ≤ q * (2 * bs) + 2 * bs)) : ∃ P U V S, Hv xs (q * (2 * bs)) (q * (2 * bs) + bs) b P U V S := by
  have ht := h.md.two
  refine hv_of (by omega) h2 h3 ht.1 ?_ ?_
  · rcases hb with e | ⟨e, hle⟩
    · rw [e]; exact ht.2
    · rw [seg_end xs (c := q * (2 * bs) + 2 * bs) (by omega) (by omega)]; exact ht.2
  · refine Cut.cross ?_ h.perm hp _ _
    have := h.c1 (2 * q + 1) (by omega)
    rwa [show (2 * q + 1) * bs = q * (2 * bs) + bs by rw [Nat.add_mul, Nat.one_mul, Nat.mul_comm 2 q, Nat.mul_assoc]] at this
theorem mul_mono2 (bs : Nat) {k q : Nat} : k * (2 * bs) ≤ q * (2 * bs) ∨ q * (2 * bs) + 2 * bs ≤ k * (2 * bs) := by
  rcases Nat.lt_or_ge q k with h | h
  · right
    have := Nat.mul_le_mul_right (2 * bs) (show q + 1 ≤ k from h)
    rwa [Nat.add_mul, Nat.one_mul] at this
  · exact .inl (Nat.mul_le_mul_right _ h)
theorem StM.step {l0 xs ys : List Nod} {bs q : Nat} (h : StM l0 xs bs q) (hm : Mended xs ys (q * (2 * bs)) (q * (2 * bs) + 2 * bs)) (hs : Srt leNP (seg ys (q * (2 * bs)) (q * (2 * bs) + 2 * bs))) : StM l0 ys bs (q + 1) :=
  ⟨hm.perm.trans h.perm, h.md.step hm hs, fun k => (h.c2 k).mended hm (mul_mono2 bs), fun k hk => (h.c1 k (by omega)).mended hm (.inr (by
    have := Nat.mul_le_mul_right bs hk
    rw [Nat.mul_comm 2 (q + 1), Nat.mul_assoc, Nat.add_mul, Nat.one_mul] at this
    exact this))⟩
theorem StM.last {l0 xs ys : List Nod} {bs q : Nat} (h : StM l0 xs bs q) (hq : xs.length < q * (2 * bs) + 2 * bs) (hm : Mended xs ys (q * (2 * bs)) xs.length) (hs : Srt leNP (seg ys (q * (2 * bs)) xs.length)) : StB l0 ys (2 * bs) :=
  ⟨hm.perm.trans h.perm, h.md.last hq hm hs, fun k => (h.c2 k).mended hm (by rcases mul_mono2 bs (k := k) (q := q) with h | h <;> omega)⟩
theorem StM.rest {l0 xs : List Nod} {bs q : Nat} (h : StM l0 xs bs q) (hq : xs.length ≤ q * (2 * bs) + bs) : StB l0 xs (2 * bs) := ⟨h.perm, h.md.rest hq, h.c2⟩
theorem StB.all {l0 xs : List Nod} {bs : Nat} (h : StB l0 xs bs) (hb : xs.length ≤ bs) : Srt leNP xs ∧ xs.Perm l0 := ⟨all_srt h.srt hb, h.perm⟩
end
end Go.Proofs.YtcmajcljafmphaaGreat

namespace Go.Proofs.YtcmajcljafmphaaGreat
section
open Go.RowKit
set_option maxRecDepth 100000
set_option linter.unusedVariables false
end
end Go.Proofs.YtcmajcljafmphaaGreat

namespace Go.Proofs.YtcmajcljafmphaaGreat
section
open Go.RowKit
set_option maxRecDepth 100000
set_option linter.unusedVariables false
attribute [local go_sem ↓] load12_eq

theorem own_base {w : World} {base e n c g : Nat} {xs : List Value} (h : w.ownsRow base e 12 (.slice (some ⟨g, 0, none⟩) n c) n xs) : base ≤ w.heap.size := by
  rcases h.2 with ⟨h1, _⟩ | ⟨g', cap, cur, hv, hb, hg, _⟩
  · cases h1
  · have := lt_of_block hg
    omega
theorem own_swap {P : Program} {W : World} {base e N c g i j : Nat} {zs : List Nod} {x y : Nod} {cx cy : Array Value} (HD : W.ownsRow base e 12 (.slice (some ⟨g, 0, none⟩) N c) N (nodsL zs)) {hi : i < zs.length} {hj : j < zs.length} (hx : x = zs[i]) (hy : y = zs[j]) (hcx : cx = x.cells) (hcy : cy = y.cells) :
    cx.size = 12 ∧ cy.size = 12 ∧ Sem.run P (load12 ⟨g, i * 12, none⟩) W.drew = .ok cx W.drew ∧ Sem.run P (load12 ⟨g, j * 12, none⟩) W.drew = .ok cy W.drew ∧ Sem.run P (storeCells ⟨g, i * 12, none⟩ cy.toList 0) W.drew = .ok () (W.drew.setCells g (i * 12) cy.toList) ∧ Sem.run P (storeCells ⟨g, j * 12, none⟩ cx.toList 0) (W.drew.setCells g (i * 12) cy.toList) = .ok () ((W.drew.setCells g (i * 12) cy.toList).setCells g (j * 12) cx.toList) ∧
    ((W.drew.setCells g (i * 12) cy.toList).setCells g (j * 12) cx.toList).ownsRow base e 12 (.slice (some ⟨g, 0, none⟩) N c) N (nodsL (swp zs i j)) ∧ Below base W ((W.drew.setCells g (i * 12) cy.toList).setCells g (j * 12) cx.toList) := by
  have hD : W.drew.ownsRow base e 12 (.slice (some ⟨g, 0, none⟩) N c) N (nodsL zs) := HD
  have hln : N = zs.length := by have := HD.1; rw [nodsL_length] at this; omega
  have hs1 := own_set (x := y) hD (i := i) (by omega)
  have hs2 := own_set (x := x) hs1.1 (i := j) (by omega)
  subst hcx hcy
  refine ⟨by rw [nod_cells]; rfl, by rw [nod_cells]; rfl, by rw [hx]; exact own_load hD hi, by rw [hy]; exact own_load hD hj, own_store hD (by omega) y, own_store hs1.1 (by omega) x, ?_, ((Below.refl base W).drew).trans (hs1.2.1.trans hs2.2.1)⟩
  have := hs2.1
  rwa [show (zs.set i y).set j x = swp zs i j by unfold swp; simp [hi, hj, hx, hy]] at this
end
end Go.Proofs.YtcmajcljafmphaaGreat
