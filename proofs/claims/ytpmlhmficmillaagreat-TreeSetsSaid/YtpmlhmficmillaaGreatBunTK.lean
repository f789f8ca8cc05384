/- A valid tree stays valid, whatever is done to it. Plain.
The results of what is done to a valid tree are valid. Plain. -/
import Derived.Test.YtpmlhmficmillaaGreatBunTP
namespace Go.Proofs.YtpmlhmficmillaaGreat
section
set_option maxRecDepth 100000
set_option linter.unusedVariables false

theorem drop_about {l : List Nod} (h : SortL l) (p : Nat) : dropL l p = l.filter (fun n => decide (n.path < p)) ++ l.filter (fun n => decide (p < n.path)) := by
  induction l with
  | nil => rfl
  | cons a l ih =>
    have h1 := h.head
    unfold dropL at ih ⊢
    rcases Nat.lt_trichotomy a.path p with hh | hh | hh
    · rw [List.filter_cons_of_pos (by simp; omega), List.filter_cons_of_pos (by simpa using hh), List.filter_cons_of_neg (by simp; omega), ih h.tail, List.cons_append]
    · rw [List.filter_cons_of_neg (by simpa using hh), List.filter_cons_of_neg (by simp; omega), List.filter_cons_of_neg (by simp; omega), ih h.tail]
    · have e1 : l.filter (fun n => decide (n.path < p)) = [] := List.filter_eq_nil_iff.2 fun b hb => by have := h1 b hb; simp; omega
      rw [List.filter_cons_of_pos (by simp; omega), List.filter_cons_of_neg (by simp; omega), List.filter_cons_of_pos (by simpa using hh), ih h.tail, e1]
      rfl
theorem set_perm {l : List Nod} (h : SortL l) (y : Nod) : (setL l y).Perm (y :: dropL l y.path) := by
  unfold setL
  rw [drop_about h]
  exact List.perm_middle
theorem mem_perm {l : List Nod} (h : SortL l) {x : Nod} (hx : x ∈ l) : l.Perm (x :: dropL l x.path) := by
  have e : setL l x = l := by
    refine List.Perm.eq_of_pairwise (le := fun a b : Nod => a.path < b.path) (fun a b _ _ h1 h2 => by omega) (h.set x) h ?_
    have hn : ∀ m : List Nod, SortL m → m.Nodup := fun m hm => List.Pairwise.imp (fun {a b} hh e => by rw [e] at hh; omega) hm
    refine (List.perm_ext_iff_of_nodup (hn _ (h.set x)) (hn _ h)).2 fun n => ?_
    rw [mem_setL]
    constructor
    · rintro (e | ⟨e, _⟩)
      · rw [e]; exact hx
      · exact e
    · intro hn
      by_cases e : n.path = x.path
      · exact .inl (h.inj hn hx e)
      · exact .inr ⟨hn, e⟩
  have := set_perm h x
  rwa [e] at this
theorem drop_none {l : List Nod} {p : Nat} (h : getL l p = none) : dropL l p = l := List.filter_eq_self.2 fun n hn => by simpa using getL_none.1 h n hn
theorem bytes_perm {l m : List Nod} (h : l.Perm m) : bytesL l = bytesL m := (h.map _).sum_nat
theorem bytes_cons (x : Nod) (l : List Nod) : bytesL (x :: l) = x.data.size + bytesL l := by unfold bytesL; simp
theorem set_bytes {l : List Nod} (h : SortL l) {x : Nod} (hx : x ∈ l) (y : Nod) (hp : y.path = x.path) : bytesL (setL l y) + x.data.size = bytesL l + y.data.size := by
  rw [bytes_perm (set_perm h y), bytes_perm (mem_perm h hx), bytes_cons, bytes_cons, hp]; omega
theorem set_len {l : List Nod} (h : SortL l) {x : Nod} (hx : x ∈ l) (y : Nod) (hp : y.path = x.path) : (setL l y).length = l.length := by
  rw [(set_perm h y).length_eq, (mem_perm h hx).length_eq, List.length_cons, List.length_cons, hp]
theorem add_bytes {l : List Nod} (h : SortL l) (y : Nod) (hp : getL l y.path = none) : bytesL (setL l y) = bytesL l + y.data.size := by
  rw [bytes_perm (set_perm h y), bytes_cons, drop_none hp]; omega
theorem add_len {l : List Nod} (h : SortL l) (y : Nod) (hp : getL l y.path = none) : (setL l y).length = l.length + 1 := by
  rw [(set_perm h y).length_eq, List.length_cons, drop_none hp]
theorem drop_len (l : List Nod) (p : Nat) : (dropL l p).length ≤ l.length := List.length_filter_le _ _
theorem OkC.free {t : Tr} (h : OkC t) : getL t.n t.next = none := getL_none.2 fun n hn => by have := (h.low n hn).2; omega
theorem OkC.touch {t : Tr} (h : OkC t) {x y : Nod} (hx : x ∈ t.n) (hp : y.path = x.path) (hm : y.mode = x.mode) (hn : y.name = x.name) (hu : y.up = x.up) (hg : y.gone = x.gone)
    (hi : validB y.uid = true ∧ validB y.gid = true ∧ validB y.muid = true) (hl : y.data.size ≤ 4096) (he : dirB y = true → y.data.size = 0) (hb : bytesL (setL t.n y) ≤ 16384) : OkC ⟨t.next, setL t.n y⟩ := by
  have hd : dirB y = dirB x := by unfold dirB; rw [hm]
  have hk : ∀ d, kidB d y = kidB d x := fun d => by unfold kidB; rw [hp, hu, hg]
  have sw : ∀ u ∈ t.n, ∃ u' ∈ setL t.n y, u'.path = u.path ∧ dirB u' = dirB u ∧ u'.gone = u.gone ∧ u'.up = u.up ∧ u'.name = u.name := fun u hu' => by
    by_cases e : u.path = x.path
    · have : u = x := h.sort.inj hu' hx e
      rw [this]
      exact ⟨y, mem_setL.2 (.inl rfl), hp, hd, hg, hu, hn⟩
    · exact ⟨u, mem_setL.2 (.inr ⟨hu', by rw [hp]; exact e⟩), rfl, rfl, rfl, rfl, rfl⟩
  refine ⟨h.sort.set y, ?_, ?_, ?_, ?_, ?_, ?_, ?_, ?_, ?_, ?_, ?_, hb, ?_⟩
  · obtain ⟨r, hr, r1, r2, r3, r4, r5⟩ := h.root
    obtain ⟨r', hr', s1, s2, s3, s4, s5⟩ := sw r hr
    exact ⟨r', hr', s1.trans r1, s2.trans r2, s4.trans r3, s3.trans r4, s5.trans r5⟩
  · intro n hn'
    rcases mem_setL.1 hn' with e | ⟨e, _⟩
    · rw [e, hp]; exact h.low x hx
    · exact h.low n e
  · intro n hn'
    rcases mem_setL.1 hn' with e | ⟨e, _⟩
    · rw [e, hm]; exact h.bits x hx
    · exact h.bits n e
  · intro n hn'
    rcases mem_setL.1 hn' with e | ⟨e, _⟩
    · rw [e]; exact he
    · exact h.empt n e
  · intro n hn'
    rcases mem_setL.1 hn' with e | ⟨e, _⟩
    · rw [e, hp, hn]; exact h.nam x hx
    · exact h.nam n e
  · intro n hn'
    rcases mem_setL.1 hn' with e | ⟨e, _⟩
    · rw [e]; exact hi
    · exact h.ids n e
  · intro n hn'
    rcases mem_setL.1 hn' with e | ⟨e, _⟩
    · rw [e]; exact hl
    · exact h.len n e
  · intro n hn'
    rcases mem_setL.1 hn' with e | ⟨e, _⟩
    · rw [e, hg, hu]; exact h.gon x hx
    · exact h.gon n e
  · intro n hn' hgn
    have old : ∃ m ∈ t.n, m.gone = false ∧ m.up = n.up := by
      rcases mem_setL.1 hn' with e | ⟨e, _⟩
      · exact ⟨x, hx, by rw [← hg, ← e]; exact hgn, by rw [e, hu]⟩
      · exact ⟨n, e, hgn, rfl⟩
    obtain ⟨m, hm1, hm2, hm3⟩ := old
    obtain ⟨u, hu1, hu2, hu3, hu4⟩ := h.par m hm1 hm2
    obtain ⟨u', v1, v2, v3, v4, _⟩ := sw u hu1
    exact ⟨u', v1, v2.trans (hu2.trans hm3), v3.trans hu3, v4.trans hu4⟩
  · intro a ha b hb' d ka kb hab
    rcases mem_setL.1 ha with ea | ⟨ea, na⟩ <;> rcases mem_setL.1 hb' with eb | ⟨eb, nb⟩
    · rw [ea, eb]
    · rw [ea, hk] at ka; rw [ea, hn] at hab
      have := h.uniq x hx b eb d ka kb hab
      rw [← this] at nb; exact absurd hp.symm nb
    · rw [eb, hk] at kb; rw [eb, hn] at hab
      have := h.uniq a ea x hx d ka kb hab
      rw [this] at na; exact absurd hp.symm na
    · exact h.uniq a ea b eb d ka kb hab
  · show (setL t.n y).length ≤ 64
    rw [set_len h.sort hx y hp]; exact h.few
  · intro n hn' hgn
    have old : ∃ m ∈ t.n, m.gone = false ∧ m.path = n.path := by
      rcases mem_setL.1 hn' with e | ⟨e, _⟩
      · exact ⟨x, hx, by rw [← hg, ← e]; exact hgn, by rw [e, hp]⟩
      · exact ⟨n, e, hgn, rfl⟩
    obtain ⟨m, hm1, hm2, hm3⟩ := old
    rw [← hm3]
    refine Leads.imp (fun p k hk hgk => ?_) (h.way m hm1 hm2)
    show ∃ n', getL (setL t.n y) p = some n' ∧ _
    rw [getL_set h.sort]
    by_cases e : p = y.path
    · rw [if_pos e]
      obtain ⟨k1, k2⟩ := getL_some hk
      have : k = x := h.sort.inj k1 hx (by rw [k2, e, hp])
      exact ⟨y, rfl, by rw [hg, ← this]; exact hgk, by rw [hu, this]⟩
    · rw [if_neg e]; exact ⟨k, hk, hgk, rfl⟩
theorem OkC.add {t : Tr} (h : OkC t) {y d : Nod} (hd : d ∈ t.n) (hd1 : dirB d = true) (hd2 : d.gone = false) (hp : y.path = t.next) (hu : y.up = d.path) (hg : y.gone = false) (hbi : bitsB y.mode = true) (hna : nameN y.name = 0)
    (hi : validB y.uid = true ∧ validB y.gid = true ∧ validB y.muid = true) (hz : y.data.size = 0) (hf : findL t.n d.path y.name = none) (hl : t.n.length < 64) : OkC ⟨t.next + 1, setL t.n y⟩ := by
  have hfree : getL t.n y.path = none := by rw [hp]; exact h.free
  have old : ∀ n ∈ t.n, n ∈ setL t.n y := fun n hn => mem_setL.2 (.inr ⟨hn, getL_none.1 hfree n hn⟩)
  have lead : ∀ {p}, Leads t.n p → Leads (setL t.n y) p := fun hh => Leads.imp (fun p k hk hgk => by
    refine ⟨k, ?_, hgk, rfl⟩
    rw [getL_set h.sort, if_neg (fun e => by rw [e, hfree] at hk; cases hk)]; exact hk) hh
  obtain ⟨r, hr, r1, r2, r3, r4, r5⟩ := h.root
  refine ⟨h.sort.set y, ⟨r, old r hr, r1, r2, r3, r4, r5⟩, ?_, ?_, ?_, ?_, ?_, ?_, ?_, ?_, ?_, ?_, ?_, ?_⟩
  · intro n hn
    show 1 ≤ n.path ∧ n.path < t.next + 1
    rcases mem_setL.1 hn with e | ⟨e, _⟩
    · have := h.low d hd; rw [e, hp]; omega
    · have := h.low n e; omega
  · intro n hn
    rcases mem_setL.1 hn with e | ⟨e, _⟩
    · rw [e]; exact hbi
    · exact h.bits n e
  · intro n hn hdn
    rcases mem_setL.1 hn with e | ⟨e, _⟩
    · rw [e]; exact hz
    · exact h.empt n e hdn
  · intro n hn h1
    rcases mem_setL.1 hn with e | ⟨e, _⟩
    · rw [e]; exact hna
    · exact h.nam n e h1
  · intro n hn
    rcases mem_setL.1 hn with e | ⟨e, _⟩
    · rw [e]; exact hi
    · exact h.ids n e
  · intro n hn
    rcases mem_setL.1 hn with e | ⟨e, _⟩
    · rw [e, hz]; omega
    · exact h.len n e
  · intro n hn hgn
    rcases mem_setL.1 hn with e | ⟨e, _⟩
    · rw [e, hg] at hgn; cases hgn
    · exact h.gon n e hgn
  · intro n hn hgn
    rcases mem_setL.1 hn with e | ⟨e, _⟩
    · exact ⟨d, old d hd, by rw [e, hu], hd1, hd2⟩
    · obtain ⟨u, h1, h2, h3, h4⟩ := h.par n e hgn
      exact ⟨u, old u h1, h2, h3, h4⟩
  · intro a ha b hb e ka kb hab
    have fresh : ∀ c ∈ t.n, kidB e y = true → kidB e c = true → c.name = y.name → False := fun c hc ky kc hn => by
      have e1 : e = d.path := by unfold kidB at ky; simp only [Bool.and_eq_true, decide_eq_true_eq] at ky; rw [← hu]; exact ky.2.symm
      rw [e1] at kc
      exact findL_none.1 hf c hc kc hn
    rcases mem_setL.1 ha with ea | ⟨ea, na⟩ <;> rcases mem_setL.1 hb with eb | ⟨eb, nb⟩
    · rw [ea, eb]
    · rw [ea] at ka hab; exact absurd (fresh b eb ka kb hab.symm) (by simp)
    · rw [eb] at kb hab; exact absurd (fresh a ea kb ka hab) (by simp)
    · exact h.uniq a ea b eb e ka kb hab
  · show (setL t.n y).length ≤ 64
    rw [add_len h.sort y hfree]; omega
  · show bytesL (setL t.n y) ≤ 16384
    rw [add_bytes h.sort y hfree, hz]; exact h.byt
  · intro n hn hgn
    rcases mem_setL.1 hn with e | ⟨e, _⟩
    · rw [e]
      exact .up (getL_of (h.sort.set y) (mem_setL.2 (.inl rfl))) hg (by rw [hu]; exact lead (h.way d hd hd2))
    · exact lead (h.way n e hgn)
theorem OkC.leaf {t : Tr} (h : OkC t) {x : Nod} (hx : x ∈ t.n) (h1 : x.path ≠ 1) (hk : kidsOf t.n x.path = []) {n : Nod} (hn : n ∈ t.n) (hg : n.gone = false) : n.up ≠ x.path := fun e => by
  by_cases e1 : n.path = 1
  · obtain ⟨r, hr, r1, _, r3, _⟩ := h.root
    have : n = r := h.sort.inj hn hr (by rw [e1, r1])
    rw [this, r3] at e; exact h1 e.symm
  · have : n ∈ kidsOf t.n x.path := List.mem_filter.2 ⟨hn, by unfold kidB; simp [hg, e1, e]⟩
    rw [hk] at this; cases this
theorem OkC.out {t : Tr} (h : OkC t) {x : Nod} (hx : x ∈ t.n) (h1 : x.path ≠ 1) (hk : kidsOf t.n x.path = []) : OkC ⟨t.next, setL t.n (goneN x)⟩ := by
  have hp : (goneN x).path = x.path := rfl
  have keep : ∀ n ∈ t.n, n.path ≠ x.path → n ∈ setL t.n (goneN x) := fun n hn e => mem_setL.2 (.inr ⟨hn, e⟩)
  have nok : ∀ d, kidB d (goneN x) = false := fun d => by unfold kidB; rfl
  obtain ⟨r, hr, r1, r2, r3, r4, r5⟩ := h.root
  refine ⟨h.sort.set _, ⟨r, keep r hr (by rw [r1]; exact fun e => h1 e.symm), r1, r2, r3, r4, r5⟩, ?_, ?_, ?_, ?_, ?_, ?_, ?_, ?_, ?_, ?_, ?_, ?_⟩
  · intro n hn
    rcases mem_setL.1 hn with e | ⟨e, _⟩
    · rw [e]; exact h.low x hx
    · exact h.low n e
  · intro n hn
    rcases mem_setL.1 hn with e | ⟨e, _⟩
    · rw [e]; exact h.bits x hx
    · exact h.bits n e
  · intro n hn
    rcases mem_setL.1 hn with e | ⟨e, _⟩
    · rw [e]; exact h.empt x hx
    · exact h.empt n e
  · intro n hn
    rcases mem_setL.1 hn with e | ⟨e, _⟩
    · rw [e]; exact h.nam x hx
    · exact h.nam n e
  · intro n hn
    rcases mem_setL.1 hn with e | ⟨e, _⟩
    · rw [e]; exact h.ids x hx
    · exact h.ids n e
  · intro n hn
    rcases mem_setL.1 hn with e | ⟨e, _⟩
    · rw [e]; exact h.len x hx
    · exact h.len n e
  · intro n hn hgn
    rcases mem_setL.1 hn with e | ⟨e, _⟩
    · rw [e]; rfl
    · exact h.gon n e hgn
  · intro n hn hgn
    rcases mem_setL.1 hn with e | ⟨e, _⟩
    · rw [e] at hgn; cases hgn
    · obtain ⟨u, u1, u2, u3, u4⟩ := h.par n e hgn
      exact ⟨u, keep u u1 (by rw [u2]; exact h.leaf hx h1 hk e hgn), u2, u3, u4⟩
  · intro a ha b hb d ka kb hab
    rcases mem_setL.1 ha with ea | ⟨ea, na⟩ <;> rcases mem_setL.1 hb with eb | ⟨eb, nb⟩
    · rw [ea, eb]
    · rw [ea, nok] at ka; cases ka
    · rw [eb, nok] at kb; cases kb
    · exact h.uniq a ea b eb d ka kb hab
  · show (setL t.n _).length ≤ 64
    rw [set_len h.sort hx _ hp]; exact h.few
  · show bytesL (setL t.n _) ≤ 16384
    have := set_bytes h.sort hx (goneN x) hp
    have e : (goneN x).data.size = x.data.size := rfl
    have := h.byt
    omega
  · intro n hn hgn
    rcases mem_setL.1 hn with e | ⟨e, ne⟩
    · rw [e] at hgn; cases hgn
    · have lead : ∀ p, Leads t.n p → p ≠ x.path → Leads (setL t.n (goneN x)) p := fun p hp => by
        induction hp with
        | root => exact fun _ => .root
        | @up p k hg hq _ ih =>
          intro hne
          have hkm := (getL_some hg).1
          refine .up (n := k) ?_ hq (ih (h.leaf hx h1 hk hkm hq))
          rw [getL_set h.sort, if_neg (by exact hne)]; exact hg
      exact lead _ (h.way n e hgn) ne
end
end Go.Proofs.YtpmlhmficmillaaGreat

namespace Go.Proofs.YtpmlhmficmillaaGreat
section
set_option maxRecDepth 100000
set_option linter.unusedVariables false

theorem touchN_eq (x : Nod) (who : ByteArray) (now : Nat) : (touchN x who now).path = x.path ∧ (touchN x who now).mode = x.mode ∧ (touchN x who now).name = x.name ∧ (touchN x who now).up = x.up ∧ (touchN x who now).gone = x.gone ∧ (touchN x who now).uid = x.uid ∧ (touchN x who now).gid = x.gid ∧ (touchN x who now).muid = who ∧ (touchN x who now).data = x.data := ⟨rfl, rfl, rfl, rfl, rfl, rfl, rfl, rfl, rfl⟩
theorem OkC.touched {t : Tr} (h : OkC t) {x : Nod} (hx : x ∈ t.n) (who : ByteArray) (now : Nat) (hw : validB who = true) : OkC ⟨t.next, setL t.n (touchN x who now)⟩ := by
  obtain ⟨a1, a2, a3, a4, a5, a6, a7, a8, a9⟩ := touchN_eq x who now
  generalize touchN x who now = y at *
  have hi := h.ids x hx
  refine h.touch hx a1 a2 a3 a4 a5 ⟨by rw [a6]; exact hi.1, by rw [a7]; exact hi.2.1, by rw [a8]; exact hw⟩ (by rw [a9]; exact h.len x hx) (by rw [a9, show dirB y = dirB x by unfold dirB; rw [a2]]; exact h.empt x hx) ?_
  have := set_bytes h.sort hx y a1
  have := h.byt
  rw [a9] at *
  omega
end
end Go.Proofs.YtpmlhmficmillaaGreat
