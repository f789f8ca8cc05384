/- A way walked down by names leads to where it began. Plain; conditions in the statements.
The kids of a valid tree: their names rise, and how many there are. Plain; conditions in the statements. -/
import Derived.Test.YtpmlhmficmillaaGreatBunNWy
import Derived.Test.YtpmlhmficmillaaGreatBunSA
namespace Go.Proofs.YtpmlhmficmillaaGreat
section
set_option maxRecDepth 100000
set_option linter.unusedVariables false

def walkD (l : List Nod) : List ByteArray → Nat → Option Nat
  | [], a => some a
  | s :: t, a => match findL l a s with
    | none => none
    | some x => walkD l t x.path
theorem walkD_app (l : List Nod) : ∀ (s t : List ByteArray) (a : Nat), walkD l (s ++ t) a = (walkD l s a).bind (walkD l t)
  | [], t, a => rfl
  | x :: s, t, a => by
    show (match findL l a x with | none => none | some y => walkD l (s ++ t) y.path) = (match findL l a x with | none => none | some y => walkD l s y.path).bind (walkD l t)
    cases findL l a x with
    | none => rfl
    | some y => exact walkD_app l s t y.path
theorem kid_found {t : Tr} (h : OkC t) {n : Nod} (hn : n ∈ t.n) (hg : n.gone = false) (h1 : n.path ≠ 1) : findL t.n n.up n.name = some n := by
  have hk : kidB n.up n = true := by unfold kidB; simp [hg, h1]
  cases hf : findL t.n n.up n.name with
  | none => exact absurd rfl (findL_none.1 hf n hn hk)
  | some x =>
    obtain ⟨hx, hkx, hnx⟩ := findL_some hf
    rw [h.uniq x hx n hn n.up hkx hk hnx]
theorem way_walk {t : Tr} (h : OkC t) : ∀ (k p : Nat) {o : List ByteArray}, wayL t.n k p = some o → walkD t.n o.reverse 1 = some p
  | 0, _, _, hw => by cases hw
  | k + 1, p, o, hw => by
    unfold wayL at hw
    by_cases e : p = 1
    · rw [if_pos e] at hw; cases hw
      rw [e]; rfl
    · rw [if_neg e] at hw
      cases hg : getL t.n p with
      | none => rw [hg] at hw; cases hw
      | some n =>
        rw [hg] at hw
        simp only at hw
        cases hq : n.gone with
        | true => rw [hq, if_pos rfl] at hw; cases hw
        | false =>
          rw [hq, if_neg (by simp)] at hw
          obtain ⟨o', ho, rfl⟩ := Option.map_eq_some_iff.1 hw
          obtain ⟨hm, hp⟩ := getL_some hg
          rw [List.reverse_cons, walkD_app, way_walk h k n.up ho]
          show (match findL t.n n.up n.name with | none => none | some y => walkD t.n [] y.path) = some p
          rw [kid_found h hm hq (by rw [hp]; exact e)]
          show some n.path = some p
          rw [hp]
def namesW (l : List Nod) (p : Nat) : List ByteArray := ((wayL l l.length p).getD []).reverse
theorem OkC.root1 {t : Tr} (h : OkC t) : ∃ r, getL t.n 1 = some r ∧ r.gone = false := by
  obtain ⟨r, hr, hp, _, _, hg, _⟩ := h.root
  exact ⟨r, (getL_iff h.sort).2 ⟨hr, hp⟩, hg⟩
theorem names_gone {t : Tr} (h : OkC t) {n : Nod} (hn : n ∈ t.n) (hg : n.gone = true) : namesW t.n n.path = [] := by
  unfold namesW
  cases hw : wayL t.n t.n.length n.path with
  | none => rfl
  | some o =>
    exfalso
    have hne : n.path ≠ 1 := fun e => by
      obtain ⟨r, hr, hrg⟩ := h.root1
      have := getL_of h.sort hn
      rw [e, hr] at this
      cases this
      rw [hg] at hrg; cases hrg
    cases hl : t.n.length with
    | zero => rw [hl] at hw; cases hw
    | succ k =>
      rw [hl] at hw
      unfold wayL at hw
      rw [if_neg hne, getL_of h.sort hn] at hw
      simp only [hg, if_true] at hw
      cases hw
theorem names_walk {t : Tr} (h : OkC t) {n : Nod} (hn : n ∈ t.n) (hg : n.gone = false) : walkD t.n (namesW t.n n.path) 1 = some n.path := by
  obtain ⟨r, hr, _⟩ := h.root1
  have h1 := leads_iff.1 (h.way n hn hg)
  rw [way_enough hr] at h1
  obtain ⟨o, ho⟩ := Option.isSome_iff_exists.1 h1
  unfold namesW
  rw [ho]
  exact way_walk h _ _ ho
theorem walk_step {l : List Nod} {W : List ByteArray} {k a p : Nat} (hk : k < W.length) (h : walkD l (W.drop k) a = some p) : ∃ x, findL l a W[k] = some x ∧ walkD l (W.drop (k + 1)) x.path = some p := by
  rw [List.drop_eq_getElem_cons hk] at h
  unfold walkD at h
  cases hf : findL l a W[k] with
  | none => rw [hf] at h; cases h
  | some x => rw [hf] at h; exact ⟨x, rfl, h⟩
theorem walk_done {l : List Nod} {W : List ByteArray} {k a p : Nat} (hk : k = W.length) (h : walkD l (W.drop k) a = some p) : a = p := by
  rw [hk, List.drop_length] at h
  exact Option.some.inj h
theorem names_len {t : Tr} (h : OkC t) (p : Nat) : (namesW t.n p).length ≤ t.n.length := by
  obtain ⟨r, hr, _⟩ := h.root1
  unfold namesW
  rw [List.length_reverse]
  cases hw : wayL t.n t.n.length p with
  | none => simp
  | some o => have := way_len hr hw; show o.length ≤ _; omega
end
end Go.Proofs.YtpmlhmficmillaaGreat

namespace Go.Proofs.YtpmlhmficmillaaGreat
section
set_option maxRecDepth 100000
set_option linter.unusedVariables false

theorem kids_nodup {l : List Nod} (h : SortL l) (d : Nat) : (kidsOf l d).Nodup := by
  have : (kidsOf l d).Pairwise fun a b => a.path < b.path := h.filter _
  exact this.imp fun {a b} hab e => by rw [e] at hab; omega
theorem kids_mem {l ks : List Nod} {d : Nat} (hp : ks.Perm (kidsOf l d)) {n : Nod} : n ∈ ks ↔ n ∈ l ∧ kidB d n = true := by
  rw [hp.mem_iff]; unfold kidsOf; rw [List.mem_filter]
theorem leS_antisymm {a b : ByteArray} (h1 : leS a b = true) (h2 : leS b a = true) : a = b := by
  unfold leS at *
  rw [bytesLess_eq] at *
  simp at h1 h2
  have h := List.le_antisymm h2 h1
  rw [ByteArray.toList_eq, ByteArray.toList_eq] at h
  cases a; cases b
  simpa using h.symm
theorem kids_rise {t : Tr} (h : OkC t) {ks : List Nod} {d : Nat} (hs : Srt leNP ks) (hp : ks.Perm (kidsOf t.n d)) {j : Nat} (hj : j + 1 < ks.length) : leS (ks[j + 1]).name (ks[j]).name = false := by
  have h1 := hs.get (i := j) (j := j + 1) (by omega) hj
  cases hle : leS (ks[j + 1]).name (ks[j]).name with
  | false => rfl
  | true =>
    exfalso
    have hl2 : leS (ks[j]).name (ks[j + 1]).name = true := by
      unfold leNP at h1
      simp only [Bool.and_eq_true] at h1
      exact h1.1
    have hn := leS_antisymm hl2 hle
    obtain ⟨m1, k1⟩ := (kids_mem hp).1 (List.getElem_mem (l := ks) (n := j) (by omega))
    obtain ⟨m2, k2⟩ := (kids_mem hp).1 (List.getElem_mem (l := ks) (n := j + 1) hj)
    have he := h.uniq _ m1 _ m2 d k1 k2 hn
    have hnd : ks.Nodup := hp.nodup_iff.2 (kids_nodup h.sort d)
    have := List.pairwise_iff_getElem.1 hnd j (j + 1) (by omega) hj (by omega)
    exact this he
theorem kids_dir {t : Tr} (h : OkC t) {n m : Nod} (hn : n ∈ t.n) (hm : m ∈ t.n) (hk : kidB n.path m = true) : dirB n = true := by
  unfold kidB at hk
  simp only [Bool.and_eq_true, Bool.not_eq_true', decide_eq_true_eq] at hk
  obtain ⟨u, hu, hp, hd, _⟩ := h.par m hm hk.1.1
  have : u = n := h.sort.inj hu hn (by rw [hp, hk.2])
  rw [← this]; exact hd
def cntK (l : List Nod) (m : List Nod) : Int := (m.map fun n => ((kidsOf l n.path).length : Int) - (if n.gone then 0 else 1)).sum
theorem cntK_take {l : List Nod} {k : Nat} (hk : k < l.length) : cntK l (l.take (k + 1)) = cntK l (l.take k) + (((kidsOf l l[k].path).length : Int) - (if l[k].gone then 0 else 1)) := by
  unfold cntK
  rw [List.take_succ_eq_append_getElem hk, List.map_append, List.sum_append]
  simp
theorem kids_sum (l : List Nod) : ∀ (ps : List Nat), ps.Nodup → (ps.map fun p => (kidsOf l p).length).sum = (l.filter fun n => !n.gone && decide (n.path ≠ 1) && decide (n.up ∈ ps)).length
  | [], _ => by
    rw [List.map_nil, List.sum_nil, List.filter_eq_nil_iff.2 (fun n _ => by simp)]; rfl
  | p :: ps, hn => by
    obtain ⟨h1, h2⟩ := List.nodup_cons.1 hn
    rw [List.map_cons, List.sum_cons, kids_sum l ps h2]
    clear hn h2
    induction l with
    | nil => rfl
    | cons n l ih =>
      unfold kidsOf at ih ⊢
      have e1 : (!n.gone && decide (n.path ≠ 1) && decide (n.up ∈ p :: ps)) = (kidB p n || (!n.gone && decide (n.path ≠ 1) && decide (n.up ∈ ps))) := by
        unfold kidB
        cases n.gone <;> by_cases a : n.path = 1 <;> by_cases b : n.up = p <;> by_cases c : n.up ∈ ps <;> simp [a, b, c]
      have e2 : kidB p n = true → (!n.gone && decide (n.path ≠ 1) && decide (n.up ∈ ps)) = false := fun hk => by
        unfold kidB at hk
        simp only [Bool.and_eq_true, decide_eq_true_eq] at hk
        have : ¬ n.up ∈ ps := by rw [hk.2]; exact h1
        simp [this]
      rw [List.filter_cons, List.filter_cons, List.filter_cons, e1]
      cases hk : kidB p n with
      | true =>
        rw [e2 hk]
        simp only [if_true, Bool.or_false, List.length_cons, Bool.false_eq_true, if_false]
        omega
      | false =>
        simp only [Bool.false_or, Bool.false_eq_true, if_false]
        split
        · simp only [List.length_cons]; omega
        · exact ih
theorem cntK_sum (l : List Nod) : ∀ m : List Nod, cntK l m = (((m.map (·.path)).map fun p => (kidsOf l p).length).sum : Int) - ((m.filter fun n => !n.gone).length : Int)
  | [] => rfl
  | n :: m => by
    have ih := cntK_sum l m
    unfold cntK at ih ⊢
    simp only [List.map_cons, List.sum_cons] at ih ⊢
    rw [ih, List.filter_cons]
    cases n.gone with
    | true => simp; omega
    | false => simp; omega
theorem cntK_all {t : Tr} (h : OkC t) : cntK t.n t.n = -1 := by
  have hnd : (t.n.map (·.path)).Nodup := by
    refine List.pairwise_map.2 ?_
    exact (show t.n.Pairwise fun a b => a.path < b.path from h.sort).imp fun {a b} hab => by omega
  rw [cntK_sum, kids_sum t.n _ hnd]
  have e : (t.n.filter fun n => !n.gone && decide (n.path ≠ 1) && decide (n.up ∈ t.n.map (·.path))) = t.n.filter fun n => !n.gone && decide (n.path ≠ 1) := by
    refine List.filter_congr fun n hn => ?_
    cases hg : n.gone with
    | true => rfl
    | false =>
      obtain ⟨u, hu, hp, _⟩ := h.par n hn hg
      have : n.up ∈ t.n.map (·.path) := List.mem_map.2 ⟨u, hu, hp⟩
      simp only [this, decide_true, Bool.and_true]
  rw [e]
  obtain ⟨r, hr, hp, _, _, hg, _⟩ := h.root
  have e2 : (t.n.filter fun n => !n.gone).Perm (r :: t.n.filter fun n => !n.gone && decide (n.path ≠ 1)) := by
    have h1 := (mem_perm h.sort hr).filter fun n => !n.gone
    rw [List.filter_cons_of_pos (by rw [hg]; rfl)] at h1
    have e3 : (dropL t.n r.path).filter (fun n => !n.gone) = t.n.filter fun n => !n.gone && decide (n.path ≠ 1) := by
      unfold dropL; rw [List.filter_filter, hp]
    rw [e3] at h1
    exact h1
  have := e2.length_eq
  rw [List.length_cons] at this
  omega
end
end Go.Proofs.YtpmlhmficmillaaGreat
