/- A valid tree stays valid, whatever is done to it. Plain. And the texts behind it. -/
import Derived.Test.YtcmajcljafmphaaGreatKtA05
import Derived.Test.YtcmajcljafmphaaGreatKtA01
namespace Go.Proofs.YtcmajcljafmphaaGreat
section
set_option maxRecDepth 100000
set_option linter.unusedVariables false
variable {V : ByteArray → Bool}

theorem drop_about {l : List Nod} (h : SortL l) (p : Nat) : dropL l p = l.filter (fun n => decide (n.path < p)) ++ l.filter (fun n => decide (p < n.path)) := by
  induction l with
  | nil => rfl
  | cons a l ih =>
    have h1 := h.head
    unfold dropL at ih ⊢
    rcases Nat.lt_trichotomy a.path p with hh | hh | hh
    · rw [List.filter_cons_of_pos (by simp; omega), List.filter_cons_of_pos (by simpa using hh), List.filter_cons_of_neg (by simp; omega), ih h.tail, List.cons_append]
    · rw [List.filter_cons_of_neg (by simpa using hh), List.filter_cons_of_neg (by simp; omega), List.filter_cons_of_neg (by simp; omega), ih h.tail]
    · have e1 : l.filter (fun n => decide (n.path < p)) = [] := List.filter_eq_nil_iff.2 fun b hb => by have := h1 b hb; simp; omega
      rw [List.filter_cons_of_pos (by simp; omega), List.filter_cons_of_neg (by simp; omega), List.filter_cons_of_pos (by simpa using hh), ih h.tail, e1]
      rfl
theorem set_perm {l : List Nod} (h : SortL l) (y : Nod) : (setL l y).Perm (y :: dropL l y.path) := by
  unfold setL
  rw [drop_about h]
  exact List.perm_middle
theorem mem_perm {l : List Nod} (h : SortL l) {x : Nod} (hx : x ∈ l) : l.Perm (x :: dropL l x.path) := by
  have e : setL l x = l := by
    refine List.Perm.eq_of_pairwise (le := fun a b : Nod => a.path < b.path) (fun a b _ _ h1 h2 => by omega) (h.set x) h ?_
    have hn : ∀ m : List Nod, SortL m → m.Nodup := fun m hm => List.Pairwise.imp (fun {a b} hh e => by rw [e] at hh; omega) hm
    refine (List.perm_ext_iff_of_nodup (hn _ (h.set x)) (hn _ h)).2 fun n => ?_
    rw [mem_setL]
    constructor
    · rintro (e | ⟨e, _⟩)
      · rw [e]; exact hx
      · exact e
    · intro hn
      by_cases e : n.path = x.path
      · exact .inl (h.inj hn hx e)
      · exact .inr ⟨hn, e⟩
  have := set_perm h x
  rwa [e] at this
theorem drop_none {l : List Nod} {p : Nat} (h : getL l p = none) : dropL l p = l := List.filter_eq_self.2 fun n hn => by simpa using getL_none.1 h n hn
theorem bytes_perm {l m : List Nod} (h : l.Perm m) : bytesL l = bytesL m := (h.map _).sum_nat
theorem bytes_cons (x : Nod) (l : List Nod) : bytesL (x :: l) = x.data.size + bytesL l := by unfold bytesL; simp
theorem set_bytes {l : List Nod} (h : SortL l) {x : Nod} (hx : x ∈ l) (y : Nod) (hp : y.path = x.path) : bytesL (setL l y) + x.data.size = bytesL l + y.data.size := by
  rw [bytes_perm (set_perm h y), bytes_perm (mem_perm h hx), bytes_cons, bytes_cons, hp]; omega
theorem set_len {l : List Nod} (h : SortL l) {x : Nod} (hx : x ∈ l) (y : Nod) (hp : y.path = x.path) : (setL l y).length = l.length := by
  rw [(set_perm h y).length_eq, (mem_perm h hx).length_eq, List.length_cons, List.length_cons, hp]
theorem add_bytes {l : List Nod} (h : SortL l) (y : Nod) (hp : getL l y.path = none) : bytesL (setL l y) = bytesL l + y.data.size := by
  rw [bytes_perm (set_perm h y), bytes_cons, drop_none hp]; omega
theorem add_len {l : List Nod} (h : SortL l) (y : Nod) (hp : getL l y.path = none) : (setL l y).length = l.length + 1 := by
  rw [(set_perm h y).length_eq, List.length_cons, drop_none hp]
theorem OkV.free {t : Tr} (h : OkV V t) : getL t.n t.next = none := getL_none.2 fun n hn => by have := (h.low n hn).2; omega
theorem OkV.touch {t : Tr} (h : OkV V t) {x y : Nod} (hx : x ∈ t.n) (hp : y.path = x.path) (hm : y.mode = x.mode) (hn : y.name = x.name) (hu : y.up = x.up) (hg : y.gone = x.gone)
    (hi : V y.uid = true ∧ V y.gid = true ∧ V y.muid = true) (hl : y.data.size ≤ 4096) (he : dirB y = true → y.data.size = 0) (hb : bytesL (setL t.n y) ≤ 16384) : OkV V ⟨t.next, setL t.n y⟩ := by
  have hd : dirB y = dirB x := by unfold dirB; rw [hm]
  have hk : ∀ d, kidB d y = kidB d x := fun d => by unfold kidB; rw [hp, hu, hg]
  have sw : ∀ u ∈ t.n, ∃ u' ∈ setL t.n y, u'.path = u.path ∧ dirB u' = dirB u ∧ u'.gone = u.gone ∧ u'.up = u.up ∧ u'.name = u.name := fun u hu' => by
    by_cases e : u.path = x.path
    · have : u = x := h.sort.inj hu' hx e
      rw [this]
      exact ⟨y, mem_setL.2 (.inl rfl), hp, hd, hg, hu, hn⟩
    · exact ⟨u, mem_setL.2 (.inr ⟨hu', by rw [hp]; exact e⟩), rfl, rfl, rfl, rfl, rfl⟩
  refine ⟨h.sort.set y, ?_, ?_, ?_, ?_, ?_, ?_, ?_, ?_, ?_, ?_, ?_, hb, ?_⟩
  · obtain ⟨r, hr, r1, r2, r3, r4, r5⟩ := h.root
    obtain ⟨r', hr', s1, s2, s3, s4, s5⟩ := sw r hr
    exact ⟨r', hr', s1.trans r1, s2.trans r2, s4.trans r3, s3.trans r4, s5.trans r5⟩
  · intro n hn'
    rcases mem_setL.1 hn' with e | ⟨e, _⟩
    · rw [e, hp]; exact h.low x hx
    · exact h.low n e
  · intro n hn'
    rcases mem_setL.1 hn' with e | ⟨e, _⟩
    · rw [e, hm]; exact h.bits x hx
    · exact h.bits n e
  · intro n hn'
    rcases mem_setL.1 hn' with e | ⟨e, _⟩
    · rw [e]; exact he
    · exact h.empt n e
  · intro n hn'
    rcases mem_setL.1 hn' with e | ⟨e, _⟩
    · rw [e, hp, hn]; exact h.nam x hx
    · exact h.nam n e
  · intro n hn'
    rcases mem_setL.1 hn' with e | ⟨e, _⟩
    · rw [e]; exact hi
    · exact h.ids n e
  · intro n hn'
    rcases mem_setL.1 hn' with e | ⟨e, _⟩
    · rw [e]; exact hl
    · exact h.len n e
  · intro n hn'
    rcases mem_setL.1 hn' with e | ⟨e, _⟩
    · rw [e, hg, hu]; exact h.gon x hx
    · exact h.gon n e
  · intro n hn' hgn
    have old : ∃ m ∈ t.n, m.gone = false ∧ m.up = n.up := by
      rcases mem_setL.1 hn' with e | ⟨e, _⟩
      · exact ⟨x, hx, by rw [← hg, ← e]; exact hgn, by rw [e, hu]⟩
      · exact ⟨n, e, hgn, rfl⟩
    obtain ⟨m, hm1, hm2, hm3⟩ := old
    obtain ⟨u, hu1, hu2, hu3, hu4⟩ := h.par m hm1 hm2
    obtain ⟨u', v1, v2, v3, v4, _⟩ := sw u hu1
    exact ⟨u', v1, v2.trans (hu2.trans hm3), v3.trans hu3, v4.trans hu4⟩
  · intro a ha b hb' d ka kb hab
    rcases mem_setL.1 ha with ea | ⟨ea, na⟩ <;> rcases mem_setL.1 hb' with eb | ⟨eb, nb⟩
    · rw [ea, eb]
    · rw [ea, hk] at ka; rw [ea, hn] at hab
      have := h.uniq x hx b eb d ka kb hab
      rw [← this] at nb; exact absurd hp.symm nb
    · rw [eb, hk] at kb; rw [eb, hn] at hab
      have := h.uniq a ea x hx d ka kb hab
      rw [this] at na; exact absurd hp.symm na
    · exact h.uniq a ea b eb d ka kb hab
  · show (setL t.n y).length ≤ 64
    rw [set_len h.sort hx y hp]; exact h.few
  · intro n hn' hgn
    have old : ∃ m ∈ t.n, m.gone = false ∧ m.path = n.path := by
      rcases mem_setL.1 hn' with e | ⟨e, _⟩
      · exact ⟨x, hx, by rw [← hg, ← e]; exact hgn, by rw [e, hp]⟩
      · exact ⟨n, e, hgn, rfl⟩
    obtain ⟨m, hm1, hm2, hm3⟩ := old
    rw [← hm3]
    refine Leads.imp (fun p k hk hgk => ?_) (h.way m hm1 hm2)
    show ∃ n', getL (setL t.n y) p = some n' ∧ _
    rw [getL_set h.sort]
    by_cases e : p = y.path
    · rw [if_pos e]
      obtain ⟨k1, k2⟩ := getL_some hk
      have : k = x := h.sort.inj k1 hx (by rw [k2, e, hp])
      exact ⟨y, rfl, by rw [hg, ← this]; exact hgk, by rw [hu, this]⟩
    · rw [if_neg e]; exact ⟨k, hk, hgk, rfl⟩
theorem OkV.add {t : Tr} (h : OkV V t) {y d : Nod} (hd : d ∈ t.n) (hd1 : dirB d = true) (hd2 : d.gone = false) (hp : y.path = t.next) (hu : y.up = d.path) (hg : y.gone = false) (hbi : bitsB y.mode = true) (hna : nameN y.name = 0)
    (hi : V y.uid = true ∧ V y.gid = true ∧ V y.muid = true) (hz : y.data.size = 0) (hf : findL t.n d.path y.name = none) (hl : t.n.length < 64) : OkV V ⟨t.next + 1, setL t.n y⟩ := by
  have hfree : getL t.n y.path = none := by rw [hp]; exact h.free
  have old : ∀ n ∈ t.n, n ∈ setL t.n y := fun n hn => mem_setL.2 (.inr ⟨hn, getL_none.1 hfree n hn⟩)
  have lead : ∀ {p}, Leads t.n p → Leads (setL t.n y) p := fun hh => Leads.imp (fun p k hk hgk => by
    refine ⟨k, ?_, hgk, rfl⟩
    rw [getL_set h.sort, if_neg (fun e => by rw [e, hfree] at hk; cases hk)]; exact hk) hh
  obtain ⟨r, hr, r1, r2, r3, r4, r5⟩ := h.root
  refine ⟨h.sort.set y, ⟨r, old r hr, r1, r2, r3, r4, r5⟩, ?_, ?_, ?_, ?_, ?_, ?_, ?_, ?_, ?_, ?_, ?_, ?_⟩
  · intro n hn
    show 1 ≤ n.path ∧ n.path < t.next + 1
    rcases mem_setL.1 hn with e | ⟨e, _⟩
    · have := h.low d hd; rw [e, hp]; omega
    · have := h.low n e; omega
  · intro n hn
    rcases mem_setL.1 hn with e | ⟨e, _⟩
    · rw [e]; exact hbi
    · exact h.bits n e
  · intro n hn hdn
    rcases mem_setL.1 hn with e | ⟨e, _⟩
    · rw [e]; exact hz
    · exact h.empt n e hdn
  · intro n hn h1
    rcases mem_setL.1 hn with e | ⟨e, _⟩
    · rw [e]; exact hna
    · exact h.nam n e h1
  · intro n hn
    rcases mem_setL.1 hn with e | ⟨e, _⟩
    · rw [e]; exact hi
    · exact h.ids n e
  · intro n hn
    rcases mem_setL.1 hn with e | ⟨e, _⟩
    · rw [e, hz]; omega
    · exact h.len n e
  · intro n hn hgn
    rcases mem_setL.1 hn with e | ⟨e, _⟩
    · rw [e, hg] at hgn; cases hgn
    · exact h.gon n e hgn
  · intro n hn hgn
    rcases mem_setL.1 hn with e | ⟨e, _⟩
    · exact ⟨d, old d hd, by rw [e, hu], hd1, hd2⟩
    · obtain ⟨u, h1, h2, h3, h4⟩ := h.par n e hgn
      exact ⟨u, old u h1, h2, h3, h4⟩
  · intro a ha b hb e ka kb hab
    have fresh : ∀ c ∈ t.n, kidB e y = true → kidB e c = true → c.name = y.name → False := fun c hc ky kc hn => by
      have e1 : e = d.path := by unfold kidB at ky; simp only [Bool.and_eq_true, decide_eq_true_eq] at ky; rw [← hu]; exact ky.2.symm
      rw [e1] at kc
      exact findL_none.1 hf c hc kc hn
    rcases mem_setL.1 ha with ea | ⟨ea, na⟩ <;> rcases mem_setL.1 hb with eb | ⟨eb, nb⟩
    · rw [ea, eb]
    · rw [ea] at ka hab; exact absurd (fresh b eb ka kb hab.symm) (by simp)
    · rw [eb] at kb hab; exact absurd (fresh a ea kb ka hab) (by simp)
    · exact h.uniq a ea b eb e ka kb hab
  · show (setL t.n y).length ≤ 64
    rw [add_len h.sort y hfree]; omega
  · show bytesL (setL t.n y) ≤ 16384
    rw [add_bytes h.sort y hfree, hz]; exact h.byt
  · intro n hn hgn
    rcases mem_setL.1 hn with e | ⟨e, _⟩
    · rw [e]
      exact .up (getL_of (h.sort.set y) (mem_setL.2 (.inl rfl))) hg (by rw [hu]; exact lead (h.way d hd hd2))
    · exact lead (h.way n e hgn)
theorem OkV.leaf {t : Tr} (h : OkV V t) {x : Nod} (hx : x ∈ t.n) (h1 : x.path ≠ 1) (hk : kidsOf t.n x.path = []) {n : Nod} (hn : n ∈ t.n) (hg : n.gone = false) : n.up ≠ x.path := fun e => by
  by_cases e1 : n.path = 1
  · obtain ⟨r, hr, r1, _, r3, _⟩ := h.root
    have : n = r := h.sort.inj hn hr (by rw [e1, r1])
    rw [this, r3] at e; exact h1 e.symm
  · have : n ∈ kidsOf t.n x.path := List.mem_filter.2 ⟨hn, by unfold kidB; simp [hg, e1, e]⟩
    rw [hk] at this; cases this
theorem OkV.out {t : Tr} (h : OkV V t) {x : Nod} (hx : x ∈ t.n) (h1 : x.path ≠ 1) (hk : kidsOf t.n x.path = []) : OkV V ⟨t.next, setL t.n (goneN x)⟩ := by
  have hp : (goneN x).path = x.path := rfl
  have keep : ∀ n ∈ t.n, n.path ≠ x.path → n ∈ setL t.n (goneN x) := fun n hn e => mem_setL.2 (.inr ⟨hn, e⟩)
  have nok : ∀ d, kidB d (goneN x) = false := fun d => by unfold kidB; rfl
  obtain ⟨r, hr, r1, r2, r3, r4, r5⟩ := h.root
  refine ⟨h.sort.set _, ⟨r, keep r hr (by rw [r1]; exact fun e => h1 e.symm), r1, r2, r3, r4, r5⟩, ?_, ?_, ?_, ?_, ?_, ?_, ?_, ?_, ?_, ?_, ?_, ?_⟩
  · intro n hn
    rcases mem_setL.1 hn with e | ⟨e, _⟩
    · rw [e]; exact h.low x hx
    · exact h.low n e
  · intro n hn
    rcases mem_setL.1 hn with e | ⟨e, _⟩
    · rw [e]; exact h.bits x hx
    · exact h.bits n e
  · intro n hn
    rcases mem_setL.1 hn with e | ⟨e, _⟩
    · rw [e]; exact h.empt x hx
    · exact h.empt n e
  · intro n hn
    rcases mem_setL.1 hn with e | ⟨e, _⟩
    · rw [e]; exact h.nam x hx
    · exact h.nam n e
  · intro n hn
    rcases mem_setL.1 hn with e | ⟨e, _⟩
    · rw [e]; exact h.ids x hx
    · exact h.ids n e
  · intro n hn
    rcases mem_setL.1 hn with e | ⟨e, _⟩
    · rw [e]; exact h.len x hx
    · exact h.len n e
  · intro n hn hgn
    rcases mem_setL.1 hn with e | ⟨e, _⟩
    · rw [e]; rfl
    · exact h.gon n e hgn
  · intro n hn hgn
    rcases mem_setL.1 hn with e | ⟨e, _⟩
    · rw [e] at hgn; cases hgn
    · obtain ⟨u, u1, u2, u3, u4⟩ := h.par n e hgn
      exact ⟨u, keep u u1 (by rw [u2]; exact h.leaf hx h1 hk e hgn), u2, u3, u4⟩
  · intro a ha b hb d ka kb hab
    rcases mem_setL.1 ha with ea | ⟨ea, na⟩ <;> rcases mem_setL.1 hb with eb | ⟨eb, nb⟩
    · rw [ea, eb]
    · rw [ea, nok] at ka; cases ka
    · rw [eb, nok] at kb; cases kb
    · exact h.uniq a ea b eb d ka kb hab
  · show (setL t.n _).length ≤ 64
    rw [set_len h.sort hx _ hp]; exact h.few
  · show bytesL (setL t.n _) ≤ 16384
    have := set_bytes h.sort hx (goneN x) hp
    have e : (goneN x).data.size = x.data.size := rfl
    have := h.byt
    omega
  · intro n hn hgn
    rcases mem_setL.1 hn with e | ⟨e, ne⟩
    · rw [e] at hgn; cases hgn
    · have lead : ∀ p, Leads t.n p → p ≠ x.path → Leads (setL t.n (goneN x)) p := fun p hp => by
        induction hp with
        | root => exact fun _ => .root
        | @up p k hg hq _ ih =>
          intro hne
          have hkm := (getL_some hg).1
          refine .up (n := k) ?_ hq (ih (h.leaf hx h1 hk hkm hq))
          rw [getL_set h.sort, if_neg (by exact hne)]; exact hg
      exact lead _ (h.way n e hgn) ne
end
end Go.Proofs.YtcmajcljafmphaaGreat

namespace Go.Proofs.YtcmajcljafmphaaGreat
section
set_option maxRecDepth 100000
set_option linter.unusedVariables false
variable {V : ByteArray → Bool}

theorem touchN_eq (x : Nod) (who : ByteArray) (now : Nat) : (touchN x who now).path = x.path ∧ (touchN x who now).mode = x.mode ∧ (touchN x who now).name = x.name ∧ (touchN x who now).up = x.up ∧ (touchN x who now).gone = x.gone ∧ (touchN x who now).uid = x.uid ∧ (touchN x who now).gid = x.gid ∧ (touchN x who now).muid = who ∧ (touchN x who now).data = x.data := ⟨rfl, rfl, rfl, rfl, rfl, rfl, rfl, rfl, rfl⟩
theorem OkV.touched {t : Tr} (h : OkV V t) {x : Nod} (hx : x ∈ t.n) (who : ByteArray) (now : Nat) (hw : V who = true) : OkV V ⟨t.next, setL t.n (touchN x who now)⟩ := by
  obtain ⟨a1, a2, a3, a4, a5, a6, a7, a8, a9⟩ := touchN_eq x who now
  generalize touchN x who now = y at *
  have hi := h.ids x hx
  refine h.touch hx a1 a2 a3 a4 a5 ⟨by rw [a6]; exact hi.1, by rw [a7]; exact hi.2.1, by rw [a8]; exact hw⟩ (by rw [a9]; exact h.len x hx) (by rw [a9, show dirB y = dirB x by unfold dirB; rw [a2]]; exact h.empt x hx) ?_
  have := set_bytes h.sort hx y a1
  have := h.byt
  rw [a9] at *
  omega
end
end Go.Proofs.YtcmajcljafmphaaGreat

namespace Go.Proofs.YtcmajcljafmphaaGreat
section
open Go.RowKit
set_option maxRecDepth 100000
set_option linter.unusedVariables false

def zeroNod : Nod := ⟨0, 0, 0, 0, 0, ⟨#[]⟩, ⟨#[]⟩, ⟨#[]⟩, ⟨#[]⟩, 0, false, ⟨#[]⟩⟩
theorem zeroNod_cells : zeroNod.cells = #[.int .u64 0, .int .u32 0, .int .u32 0, .int .u32 0, .int .u32 0, .string ⟨#[]⟩, .string ⟨#[]⟩, .string ⟨#[]⟩, .string ⟨#[]⟩, .int .u64 0, .bool false, .string ⟨#[]⟩] := rfl
def getN (l : List Nod) (p : Nat) : Nod := (getL l p).getD zeroNod
theorem results_cs {P : Program} {fn : Func} {p q : Tmp} {ty : TypeId} (h : fn.results = #[.cell p ty, .tmp q]) (tmps : Array Value) (w : World) (g : Nat) (t : TypeId) (cs : Array Value) (fr : Nat × Nat) (d : TypeDesc) (x : Value)
    (hp : tmps.getD p undef = .pointer (some ⟨g, 0, none⟩)) (hq : tmps.getD q undef = x) (hg : w.heap[g]? = some (.cells cs t fr))
    (hu : P.underlying ty = some d) (hd : (match d with | .struct _ | .array _ _ => true | _ => false) = true) (hi : (P.info? ty).map (·.size) = some cs.size) :
    (results fn tmps).run P w = .ok (.tuple #[.agg cs, x]) w := by
  have hp' : tmps[p]?.getD undef = .pointer (some ⟨g, 0, none⟩) := by simpa using hp
  have hq' : tmps[q]?.getD undef = x := by simpa using hq
  simp [results, h, hp', hq', asAddr, run_loadVar_row w g t ty cs fr d hg hu hd hi]
theorem tfind_any (v : Value) (x : Nat) (l : List Nod) (p : Nat) (w : World) (hv : NodsAt w v l) (hs : SortL l) (hl : l.length ≤ 1000) :
    Calls Tryz.prog 101 #[.agg #[.int .u64 (x : Int), v], .int .u64 (p : Int)] w fun e w' => e = .returned (.tuple #[.int .i64 (belowN l p : Int), .bool (getL l p).isSome]) ∧ Below w.heap.size w w' := by
  obtain ⟨a, c, rfl, g1, g2⟩ := hv.form
  have hb0 := (Below.refl w.heap.size w).alloc (Nat.le_refl _) (.cells #[.int .u64 (x : Int), .slice a l.length c] 33)
  have hc := hid (bsearch_any _ l p _ (hv.below hb0) hs hl)
  replace hb0 := hid hb0
  generalize (getL l p).isSome = r at *
  generalize belowN l p = q at *
  clear hv hs
  go_enter Tryz.func101, Tryz.ntmps101
  go_wp2_with fail
  refine hc.out.mono ?_
  rintro e w1 ⟨rfl, hb1⟩
  have hB := hid (hb0.out.trans (hb1.mono (by simp)))
  clear hb1
  go_wp2_with fail
  go_ret2
  exact ⟨rfl, hB.out⟩
def GetPost (w : World) (l : List Nod) (p : Nat) (e : Ending) (w' : World) : Prop := e = .returned (.tuple #[.agg (getN l p).cells, .bool (getL l p).isSome]) ∧ Below w.heap.size w w'

set_option maxHeartbeats 1600000 in
theorem get_any (v : Value) (x : Nat) (l : List Nod) (p : Nat) (w : World) (hv : NodsAt w v l) (hs : SortL l) (hl : l.length ≤ 1000) :
    Calls Tryz.prog 72 #[.agg #[.int .u64 (x : Int), v], .int .u64 (p : Int)] w (GetPost w l p) := by
  obtain ⟨a, c, rfl, g1, g2⟩ := hv.form
  unfold maxLen at g2
  obtain ⟨W, hW⟩ : ∃ W, W = (w.alloc (.cells #[.int .u64 (x : Int), .slice a l.length c] 33)).alloc (.cells zeroNod.cells 68) := ⟨_, rfl⟩
  have hb0 : Below w.heap.size w W := by rw [hW]; exact ((Below.refl w.heap.size w).alloc (Nat.le_refl _) _).alloc (by simp) _
  have hx0 : W.heap[w.heap.size]? = some (.cells #[.int .u64 (x : Int), .slice a l.length c] 33 (0, 0)) := by rw [hW, heap_alloc_old _ _ (by simp), heap_alloc_new]
  have hy0 : W.heap[w.heap.size + 1]? = some (.cells zeroNod.cells 68 (0, 0)) := by rw [hW]; exact heap2 _ _ _
  have hv0 := hid (hv.below hb0)
  have hc := hid (fun X (h : NodsAt X (.slice a l.length c) l) => tfind_any _ x l p X h hs hl)
  have hga := hid (get_at hs p)
  have hgs := hid (getL_isSome hs p)
  have e0 := block_cell hx0 0
  have e1 := block_cell hx0 1
  have hz0 := lt_of_block hy0
  replace hb0 := hid hb0
  replace hx0 := hid hx0
  replace hy0 := hid hy0
  rw [zeroNod_cells] at hW
  clear hv hs
  go_enter Tryz.func72, Tryz.ntmps72
  go_wp2_with (rw [← hW]; replace hW := hid hW)
  try (rw [← hW]; replace hW := hid hW)
  refine (hc.out _ hv0.out).mono ?_
  rintro e w1 ⟨rfl, hb1⟩
  have hB1 := hid (sn hb0.out hb1)
  have hx1 := hid ((hb1.block _ (lt_of_block hx0.out)).trans hx0.out)
  have hy1 := hid ((hb1.block _ (lt_of_block hy0.out)).trans hy0.out)
  have hv1 := hid (hv0.out.below hb1)
  have f0 := block_cell hx1.out 0
  have f1 := block_cell hx1.out 1
  clear hb1 e0 e1
  rcases hr : (getL l p).isSome with _ | _
  · have hn : Hid (getL l p = none) := hid (by simpa using hr)
    rw [hr] at hgs
    clear hr
    go_wp2_with (refine wpList_store_row (by rfl) 68 (.tmp 4) (.tmp 16) (by rfl) (w.heap.size + 1) zeroNod.cells (by rfl) (by rfl) 68 _ hy1.out (by kernel_rfl) (by kernel_rfl) (by kernel_rfl) ?_)
    refine bodyPost_ret (results_cs rfl _ _ (w.heap.size + 1) _ _ _ _ _ rfl rfl (setRow_heap _ _ _ zeroNod.cells _ _ hy1.out) Tryz.underlying68 rfl (by kernel_rfl)) rfl ?_
    refine ⟨?_, below_setRow hB1.out (by omega) _⟩
    unfold getN
    rw [hn.out]; rfl
  · obtain ⟨m, hm⟩ := Option.isSome_iff_exists.1 hr
    have hq : Hid (∃ h : belowN l p < l.length, l[belowN l p] = m) := hid (by
      have h := hga.out
      rw [hm] at h
      cases hh : l[belowN l p]? with
      | none => rw [hh] at h; cases h
      | some k =>
        rw [hh] at h
        simp only at h
        obtain ⟨h1, h2⟩ := List.getElem?_eq_some_iff.1 hh
        by_cases e : k.path = p
        · rw [if_pos e] at h; exact ⟨h1, h2.trans (Option.some.inj h).symm⟩
        · rw [if_neg e] at h; cases h)
    replace hm := hid hm
    clear hga hgs
    replace hr := hid hr
    generalize belowN l p = q at *
    obtain ⟨hql, hqm⟩ := hq.out
    obtain ⟨b, o, ha, hrg⟩ := hv1.out.range q hql
    rw [hqm] at hrg
    subst ha
    replace hqm := hid hqm
    replace hrg := hid hrg
    go_wp2_with (first
      | (refine wpList_load_cells (by rfl) 68 (.tmp 20) (by rfl) b (o + q * 12) (by rfl) m.cells _ hrg.out Tryz.underlying68 (by rfl) (by kernel_rfl) ?_)
      | (refine wpList_store_row (by rfl) 68 (.tmp 4) (.tmp 21) (by rfl) (w.heap.size + 1) m.cells (by rfl) (by rfl) 68 _ hy1.out (by kernel_rfl) (by kernel_rfl) (nod_one m) ?_))
    refine bodyPost_ret (results_cs rfl _ _ (w.heap.size + 1) _ _ _ _ _ rfl rfl (setRow_heap _ _ _ m.cells _ _ hy1.out) Tryz.underlying68 rfl (by kernel_rfl)) rfl ?_
    refine ⟨?_, below_setRow hB1.out (by omega) _⟩
    unfold getN
    rw [hm.out]; rfl
end
end Go.Proofs.YtcmajcljafmphaaGreat

namespace Go.Proofs.YtcmajcljafmphaaGreat
section
theorem str_beq (s t : ByteArray) : (s.toList == t.toList) = decide (s = t) := by
  rw [ByteArray.toList_eq, ByteArray.toList_eq]
  by_cases h : s = t
  · subst h; simp
  · have h2 : ¬ s.data = t.data := fun e => h (ByteArray.ext e)
    simp [h, h2]
end
end Go.Proofs.YtcmajcljafmphaaGreat

namespace Go.Proofs.YtcmajcljafmphaaGreat
section
open Go.RowKit
set_option maxRecDepth 100000
set_option linter.unusedVariables false

theorem ndir_any (n : Nod) (w : World) (hn : NodOk n) : Calls Tryz.prog 35 #[.agg n.cells] w fun e w' => e = .returned (.bool (dirB n)) ∧ Below w.heap.size w w' := by
  have hb := (Below.refl w.heap.size w).alloc (Nat.le_refl _) (.cells n.cells 68)
  have hdm := dir_mode n.mode hn.mode
  have hm := hn.mode
  have hE : Hid (dirB n = !decide (n.mode &&& 2147483648 = 0)) := hid rfl
  rw [nod_cells] at hb ⊢
  replace hb := hid hb
  replace hn := hid hn
  replace hdm := hid hdm
  go_enter Tryz.func35, Tryz.ntmps35
  go_wp2_with fail
  go_ret
  exact ⟨ret_bool (by rw [hE.out, ← hdm.out]), hb.out⟩
def boxN (w : World) (n : Nod) : World := (w.alloc (.cells zeroNod.cells 68)).setRow w.heap.size n.cells
theorem boxN_heap (w : World) (n : Nod) : (boxN w n).heap[w.heap.size]? = some (.cells n.cells 68 (0, 0)) := setRow_heap _ _ _ _ _ _ (heap_alloc_new _ _)
theorem boxN_below (w : World) (n : Nod) : Below w.heap.size w (boxN w n) := below_setRow ((Below.refl _ _).alloc (Nat.le_refl _) _) (Nat.le_refl _) _
end
end Go.Proofs.YtcmajcljafmphaaGreat

namespace Go.Proofs.YtcmajcljafmphaaGreat
section
open Go.RowKit
set_option maxRecDepth 100000
set_option linter.unusedVariables false

theorem bytesL_take {l : List Nod} {k : Nat} (hk : k < l.length) : bytesL (l.take (k + 1)) = bytesL (l.take k) + l[k].data.size := by
  unfold bytesL
  rw [List.take_succ_eq_append_getElem hk, List.map_append, List.sum_append_nat]
  rfl
theorem bytesL_le {l : List Nod} (h : ∀ n ∈ l, n.data.size ≤ 1000000) : bytesL l ≤ l.length * 1000000 := by
  induction l with
  | nil => simp [bytesL]
  | cons a l ih =>
    have h1 := ih fun n hn => h n (by simp [hn])
    have h2 := h a (by simp)
    rw [bytes_cons]
    simp only [List.length_cons]; omega

set_option maxHeartbeats 3200000 in
theorem nbytes_any (v : Value) (x : Nat) (l : List Nod) (w : World) (hv : NodsAt w v l) (hl : l.length ≤ 1000) (hd : ∀ n ∈ l, n.data.size ≤ 1000000) :
    Calls Tryz.prog 37 #[.agg #[.int .u64 (x : Int), v]] w fun e w' => e = .returned (.int .i64 (bytesL l : Int)) ∧ Below w.heap.size w w' := by
  obtain ⟨a, c, rfl, g1, g2⟩ := hv.form
  unfold maxLen at g2
  obtain ⟨W, hW⟩ : ∃ W, W = w.alloc (.cells #[.int .u64 (x : Int), .slice a l.length c] 33) := ⟨_, rfl⟩
  have hb0 : Below w.heap.size w W := by rw [hW]; exact (Below.refl w.heap.size w).alloc (Nat.le_refl _) _
  have hx0 : W.heap[w.heap.size]? = some (.cells #[.int .u64 (x : Int), .slice a l.length c] 33 (0, 0)) := by rw [hW, heap_alloc_new]
  have e1 := block_cell hx0 1
  replace hv := hid hv
  replace hb0 := hid hb0
  replace hd := hid hd
  clear hx0
  go_enter Tryz.func37, Tryz.ntmps37
  go_wp2_with (rw [← hW]; replace hW := hid hW)
  go_loopw [3, 9] (fun sv kv wr => ∃ k s : Nat, k ≤ l.length ∧ kv = .int .i64 (k : Int) ∧ sv = .int .i64 (s : Int) ∧ Hid (Below w.heap.size w wr) ∧ Hid (s = bytesL (l.take k))) (fun _ kv _ => l.length - (intOf kv).toNat)
  case atStart => exact ⟨0, 0, by omega, rfl, rfl, hb0, hid rfl⟩
  case round =>
    obtain ⟨k, s, hk, rfl, rfl, hB, hs⟩ := hrel
    by_cases hkl : k < l.length
    · obtain ⟨b, o, ha, hr⟩ := (hv.out.below hB.out).range k hkl
      subst ha
      have hst := hid (bytesL_take hkl)
      have hle := bytesL_le (l := l.take (k + 1)) fun n hn => hd.out n (List.mem_of_mem_take hn)
      have hlt : (l.take (k + 1)).length ≤ 1000 := by simp; omega
      have hsz := hd.out _ (List.getElem_mem hkl)
      have hs2 : s + l[k].data.size ≤ 1000000000 := by rw [hs.out, ← hst.out]; omega
      clear hle hlt
      generalize l[k] = n at *
      have hnew := hid (heap_alloc_new wr (.cells zeroNod.cells 68))
      obtain ⟨W3, hW3⟩ : ∃ W, W = boxN wr n := ⟨_, rfl⟩
      have hb3 : Below wr.heap.size wr W3 := by rw [hW3]; exact boxN_below _ _
      have hn3 : W3.heap[wr.heap.size]? = some (.cells n.cells 68 (0, 0)) := by rw [hW3]; exact boxN_heap _ _
      have q11 : W3.cell? ⟨wr.heap.size, 11, none⟩ = some (.string n.data) := block_cell hn3 11
      have hB3 := hid (sn hB.out hb3)
      unfold boxN at hW3
      rw [zeroNod_cells] at hW3 hnew
      replace hr := hid hr
      clear hb3 hB hn3
      go_wp2_with (first
        | (refine wpList_load_cells (by rfl) 68 (.tmp 11) (by rfl) b (o + k * 12) (by rfl) n.cells _ hr.out Tryz.underlying68 (by rfl) (by kernel_rfl) ?_)
        | (refine wpList_store_row (by rfl) 68 (.tmp 5) (.tmp 12) (by rfl) wr.heap.size n.cells (by rfl) (by rfl) 68 _ hnew.out (by kernel_rfl) (by kernel_rfl) (nod_one n) ?_)
        | (rw [← hW3]; replace hW3 := hid hW3))
      go_roundw
      case rel => exact ⟨k + 1, s + n.data.size, by omega, by go_num, by go_num, hB3, hid (by rw [hst.out, ← hs.out])⟩
      case measure => simp [intOf]; omega
    · obtain rfl : k = l.length := by omega
      have hs2 : s = bytesL l := by have := hs.out; rwa [List.take_length] at this
      subst hs2
      go_wp2_with fail
      go_ret
      exact ⟨rfl, hB.out⟩

theorem elemN : ElemOk Tryz.prog 31 68 12 120 := elemOk_of (z := .agg zeroNod.cells) Tryz.underlying31 (by kernel_rfl) rfl (by decide)
def NClone (w : World) (l : List Nod) (e : Ending) (w' : World) : Prop := ∃ v', e = .returned v' ∧ w'.ownsRow w.heap.size 68 12 v' l.length (nodsL l) ∧ Below w.heap.size w w'
theorem nclone_any (v : Value) (l : List Nod) (w : World) (hv : NodsAt w v l) (hl : l.length ≤ 1000) :
    Calls Tryz.prog 93 #[v] w (NClone w l) := by
  obtain ⟨a, c, rfl, g1, g2⟩ := hv.form
  unfold maxLen at g2
  have qT := fun (w : World) (a : Option Addr) (n c n' c' : Nat) => Lib.run_eql_slice_nil (P := Tryz.prog) w 31 68 a n c n' c' Tryz.underlying31
  cases a with
  | none =>
    have hc0 : c = 0 := by
      obtain ⟨_, a', c', he, _, _, h3, _⟩ := hv
      cases he
      exact h3 rfl
    subst hc0
    have hl0 : l = [] := List.eq_nil_of_length_eq_zero (by omega)
    subst hl0
    simp only [List.length_nil] at *
    go_enter Tryz.func93, Tryz.ntmps93
    go_wp2_with fail
    go_ret
    exact ⟨_, rfl, World.ownsRow_nil _ _ _ _, Below.refl _ _⟩
  | some ad =>
    have hbA := (Below.refl w.heap.size w).alloc (Nat.le_refl _) (.cells #[] 68)
    have hvA := hid (hv.below hbA)
    replace hv := hid hv
    replace hbA := hid hbA
    go_enter Tryz.func93, Tryz.ntmps93
    go_wp2_with (at_builtin; refine wpList_append_weak elemN _ rfl (.tmp 5) (.tmp 6) rfl w.heap.size _ 0 [] rfl (own_empty w _ _) _ l.length (nodsL l) rfl hvA.out (nodsL_one l) (by unfold maxLen; omega) (by omega) (by simp) ?_)
    intro a6 c6 w6 h6 g6
    have hB6 := hid (hbA.out.grown g6 (by simp) (fun j hj => by cases hj; exact Nat.le_refl _))
    go_wp2_with fail
    go_ret
    (try simp only [Nat.zero_add] at h6)
    exact ⟨_, rfl, h6, hB6.out⟩
end
end Go.Proofs.YtcmajcljafmphaaGreat
