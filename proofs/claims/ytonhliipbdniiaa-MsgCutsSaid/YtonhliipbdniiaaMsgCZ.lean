/- A message's bytes without their end are no message. Conditions: texts of at most a thousand bytes each. -/
import Derived.Test.YtonhliipbdniiaaBunQ
namespace Go.Proofs.Ytonhliipbdniiaa
open Go.RowKit
set_option maxRecDepth 100000
set_option linter.unusedVariables false

/-- More bytes behind what is still to be read. -/
def ext (z : List UInt8) (p : List UInt8 × Nat) : List UInt8 × Nat := (p.1 ++ z, p.2)
theorem rd_zero {n : Nat} {p : List UInt8 × Nat} (h : (rd n p).2 = 0) : p.2 = 0 ∧ n ≤ p.1.length := by
  unfold rd restE at h
  simp only at h
  split at h
  · next h0 => exact absurd h h0
  · next h0 => split at h
               · omega
               · exact ⟨by simpa using h0, by omega⟩
theorem rd_ext {n : Nat} {p : List UInt8 × Nat} (z : List UInt8) (h : (rd n p).2 = 0) : rd n (ext z p) = ext z (rd n p) ∧ tv n (ext z p) = tv n p ∧ rawL n (ext z p).1 (ext z p).2 = rawL n p.1 p.2 := by
  obtain ⟨h1, h2⟩ := rd_zero h
  obtain ⟨l, e⟩ := p
  simp only at h1 h2
  subst h1
  have h3 : ¬ (l ++ z).length < n := by rw [List.length_append]; omega
  have h4 : ¬ l.length < n := by omega
  unfold rd tv takeV restL restE rawL ext
  simp only [ne_eq, not_true_eq_false, if_false]
  rw [if_neg h3, if_neg h4, if_neg h3, if_neg h4, if_neg h3, if_neg h4, if_neg h3, if_neg h4]
  refine ⟨?_, ?_, ?_⟩
  · rw [List.drop_append_of_le_length h2]
  · rw [List.take_append_of_le_length h2]
  · rw [List.take_append_of_le_length h2]
theorem qr_zero {p : List UInt8 × Nat} (h : (qr p).2 = 0) : (rd 1 p).2 = 0 ∧ (rd 4 (rd 1 p)).2 = 0 := by
  have h1 := (rd_zero (show (rd 8 (rd 4 (rd 1 p))).2 = 0 from h)).1
  exact ⟨(rd_zero h1).1, h1⟩
theorem qr_ext {p : List UInt8 × Nat} (z : List UInt8) (h : (qr p).2 = 0) : qr (ext z p) = ext z (qr p) ∧ qvR (ext z p) = qvR p := by
  obtain ⟨h1, h4⟩ := qr_zero h
  obtain ⟨a1, a2, _⟩ := rd_ext z h1
  obtain ⟨b1, b2, _⟩ := rd_ext z h4
  obtain ⟨c1, c2, _⟩ := rd_ext z (show (rd 8 (rd 4 (rd 1 p))).2 = 0 from h)
  have e : qr (ext z p) = ext z (qr p) := by unfold qr; rw [a1, b1, c1]
  refine ⟨e, ?_⟩
  have e2 : (qr (ext z p)).2 = 0 := by rw [e]; exact h
  unfold qvR qvT qvV qvP
  rw [if_neg (by rw [e2]; simp), if_neg (by rw [e2]; simp), if_neg (by rw [e2]; simp), if_neg (by rw [h]; simp), if_neg (by rw [h]; simp), if_neg (by rw [h]; simp), a2, a1, b2, b1, c2]
theorem te_zero {p : List UInt8 × Nat} (h : te p = 0) : (rd 2 p).2 = 0 ∧ (rd (tv 2 p) (rd 2 p)).2 = 0 ∧ mayN (strL (rawL (tv 2 p) (rd 2 p).1 (rd 2 p).2)) = 0 := by
  have h2 : (rd (tv 2 p) (rd 2 p)).2 = 0 := by
    rcases Nat.eq_zero_or_pos (rd (tv 2 p) (rd 2 p)).2 with h0 | h0
    · exact h0
    · exfalso
      unfold te tkErr at h
      rw [if_pos (show restE (takeV 2 p.1 p.2) (restL 2 p.1 p.2) (restE 2 p.1 p.2) ≠ 0 from Nat.ne_of_gt h0)] at h
      exact absurd h (Nat.ne_of_gt h0)
  refine ⟨(rd_zero h2).1, h2, ?_⟩
  unfold te tkErr at h
  rw [if_neg (show ¬ restE (takeV 2 p.1 p.2) (restL 2 p.1 p.2) (restE 2 p.1 p.2) ≠ 0 from fun hn => hn h2)] at h
  exact h
theorem te_ext {p : List UInt8 × Nat} (z : List UInt8) (h : te p = 0) : te (ext z p) = 0 ∧ ts (ext z p) = ts p ∧ tr (ext z p) = ext z (tr p) ∧ (tr p).2 = 0 := by
  obtain ⟨h1, h2, h3⟩ := te_zero h
  obtain ⟨a1, a2, _⟩ := rd_ext z h1
  obtain ⟨b1, b2, b3⟩ := rd_ext z h2
  have e1 : rd (tv 2 (ext z p)) (rd 2 (ext z p)) = ext z (rd (tv 2 p) (rd 2 p)) := by rw [a1, a2, b1]
  have e2 : rawL (tv 2 (ext z p)) (rd 2 (ext z p)).1 (rd 2 (ext z p)).2 = rawL (tv 2 p) (rd 2 p).1 (rd 2 p).2 := by rw [a1, a2, b3]
  have e3 : te (ext z p) = 0 := by
    unfold te tkErr
    rw [if_neg (show ¬ restE (takeV 2 (ext z p).1 (ext z p).2) (restL 2 (ext z p).1 (ext z p).2) (restE 2 (ext z p).1 (ext z p).2) ≠ 0 from by
      have : (rd (tv 2 (ext z p)) (rd 2 (ext z p))).2 = 0 := by rw [e1]; exact h2
      exact fun hn => hn this)]
    show mayN (strL (rawL (tv 2 (ext z p)) (rd 2 (ext z p)).1 (rd 2 (ext z p)).2)) = 0
    rw [e2]; exact h3
  refine ⟨e3, ?_, e1, h2⟩
  have f1 : ts (ext z p) = strL (rawL (tv 2 (ext z p)) (rd 2 (ext z p)).1 (rd 2 (ext z p)).2) := by
    unfold ts tkStr
    rw [if_neg (show ¬ tkErr (ext z p).1 (ext z p).2 ≠ 0 from by simpa using (show tkErr (ext z p).1 (ext z p).2 = 0 from e3))]; rfl
  have f2 : ts p = strL (rawL (tv 2 p) (rd 2 p).1 (rd 2 p).2) := by
    unfold ts tkStr
    rw [if_neg (show ¬ tkErr p.1 p.2 ≠ 0 from by simpa using (show tkErr p.1 p.2 = 0 from h))]; rfl
  rw [f1, f2, e2]
theorem texts_ext (z : List UInt8) : ∀ (n : Nat) (p : List UInt8 × Nat), (textsIn n p).1 = 0 → textsIn n (ext z p) = (0, ext z (textsIn n p).2.1, (textsIn n p).2.2) ∧ (p.2 = 0 → (textsIn n p).2.1.2 = 0)
  | 0, p, _ => ⟨rfl, fun h => h⟩
  | n + 1, p, h => by
    have ht : te p = 0 := by
      rcases Nat.eq_zero_or_pos (te p) with h0 | h0
      · exact h0
      · exfalso
        simp only [textsIn] at h
        rw [if_pos (Nat.ne_of_gt h0)] at h
        exact absurd h (Nat.ne_of_gt h0)
    simp only [textsIn] at h ⊢
    rw [if_neg (by simpa using ht)] at h
    obtain ⟨a1, a2, a3, a4⟩ := te_ext z ht
    obtain ⟨b1, b2⟩ := texts_ext z n (tr p) h
    rw [if_neg (show ¬ te (ext z p) ≠ 0 from fun hn => hn a1), if_neg (show ¬ te p ≠ 0 from fun hn => hn ht), a3, b1, a2]
    exact ⟨rfl, fun _ => b2 a4⟩
theorem qids_ext (z : List UInt8) : ∀ (n : Nat) (p : List UInt8 × Nat), (qidsIn n p).1 = 0 → qidsIn n (ext z p) = (0, ext z (qidsIn n p).2.1, (qidsIn n p).2.2) ∧ (p.2 = 0 → (qidsIn n p).2.1.2 = 0)
  | 0, p, _ => ⟨rfl, fun h => h⟩
  | n + 1, p, h => by
    have ht : (qr p).2 = 0 := by
      rcases Nat.eq_zero_or_pos (qr p).2 with h0 | h0
      · exact h0
      · exfalso
        simp only [qidsIn] at h
        rw [if_pos (Nat.ne_of_gt h0)] at h
        exact absurd h (Nat.ne_of_gt h0)
    simp only [qidsIn] at h ⊢
    rw [if_neg (by simpa using ht)] at h
    obtain ⟨a1, a2⟩ := qr_ext z ht
    obtain ⟨b1, b2⟩ := qids_ext z n (qr p) h
    rw [if_neg (show ¬ (qr (ext z p)).2 ≠ 0 from fun hn => hn (by rw [a1]; exact ht)), if_neg (show ¬ (qr p).2 ≠ 0 from fun hn => hn ht), a1, b1, a2]
    exact ⟨rfl, fun _ => b2 ht⟩

theorem lists_zero {α : Type} {f : Nat → List UInt8 × Nat → Nat × (List UInt8 × Nat) × List α} {p : List UInt8 × Nat} {E : Nat} (hE : E = if (rd 2 p).2 ≠ 0 then (rd 2 p).2 else if 16 < tv 2 p then 2 else (f (tv 2 p) (rd 2 p)).1) (h : E = 0) : (rd 2 p).2 = 0 ∧ tv 2 p ≤ 16 ∧ (f (tv 2 p) (rd 2 p)).1 = 0 := by
  rw [hE] at h
  by_cases h1 : (rd 2 p).2 = 0
  · rw [if_neg (fun hn => hn h1)] at h
    by_cases h2 : 16 < tv 2 p
    · rw [if_pos h2] at h; omega
    · rw [if_neg h2] at h; exact ⟨h1, by omega, h⟩
  · rw [if_pos h1] at h; exact absurd h h1

/-- A field that is read is read the same with more bytes behind it. -/
theorem slot_ext (z : List UInt8) (s : Slot) (p : List UInt8 × Nat) (x : M) (h : (s.i p x).1 = 0) : s.i (ext z p) x = (0, ext z (s.i p x).2.1, (s.i p x).2.2) ∧ (s.i p x).2.1.2 = 0 := by
  cases s
  case msize =>
    simp only [Slot.i] at h ⊢
    obtain ⟨a1, a2, _⟩ := rd_ext z h
    rw [a1, a2]
    exact ⟨by simp [ext, h], h⟩
  case version =>
    simp only [Slot.i] at h ⊢
    obtain ⟨a1, a2, a3, a4⟩ := te_ext z h
    rw [a1, a2, a3]
    exact ⟨rfl, a4⟩
  case fid =>
    simp only [Slot.i] at h ⊢
    obtain ⟨a1, a2, _⟩ := rd_ext z h
    rw [a1, a2]
    exact ⟨by simp [ext, h], h⟩
  case afid =>
    simp only [Slot.i] at h ⊢
    obtain ⟨a1, a2, _⟩ := rd_ext z h
    rw [a1, a2]
    exact ⟨by simp [ext, h], h⟩
  case new =>
    simp only [Slot.i] at h ⊢
    obtain ⟨a1, a2, _⟩ := rd_ext z h
    rw [a1, a2]
    exact ⟨by simp [ext, h], h⟩
  case uname =>
    simp only [Slot.i] at h ⊢
    obtain ⟨a1, a2, a3, a4⟩ := te_ext z h
    rw [a1, a2, a3]
    exact ⟨rfl, a4⟩
  case aname =>
    simp only [Slot.i] at h ⊢
    obtain ⟨a1, a2, a3, a4⟩ := te_ext z h
    rw [a1, a2, a3]
    exact ⟨rfl, a4⟩
  case ename =>
    simp only [Slot.i] at h ⊢
    obtain ⟨a1, a2, a3, a4⟩ := te_ext z h
    rw [a1, a2, a3]
    exact ⟨rfl, a4⟩
  case old =>
    simp only [Slot.i] at h ⊢
    obtain ⟨a1, a2, _⟩ := rd_ext z h
    rw [a1, a2]
    exact ⟨by simp [ext, h], h⟩
  case names =>
    simp only [Slot.i] at h ⊢
    obtain ⟨h1, h2, h3⟩ := lists_zero (f := textsIn) (p := p) rfl h
    obtain ⟨a1, a2, _⟩ := rd_ext z h1
    obtain ⟨b1, b2⟩ := texts_ext z (tv 2 p) (rd 2 p) h3
    have e1 : txE (ext z p) = 0 := by
      unfold txE
      rw [a1, a2, b1, if_neg (show ¬ (ext z (rd 2 p)).2 ≠ 0 from fun hn => hn h1), if_neg (by omega)]
    have e2 : txR (ext z p) = ext z (txR p) := by unfold txR; rw [a1, a2, b1]
    have e3 : txL (ext z p) = txL p := by unfold txL; rw [a1, a2, b1]
    rw [e1, e2, e3]
    exact ⟨rfl, b2 h1⟩
  case qids =>
    simp only [Slot.i] at h ⊢
    obtain ⟨h1, h2, h3⟩ := lists_zero (f := qidsIn) (p := p) rfl h
    obtain ⟨a1, a2, _⟩ := rd_ext z h1
    obtain ⟨b1, b2⟩ := qids_ext z (tv 2 p) (rd 2 p) h3
    have e1 : qsE (ext z p) = 0 := by
      unfold qsE
      rw [a1, a2, b1, if_neg (show ¬ (ext z (rd 2 p)).2 ≠ 0 from fun hn => hn h1), if_neg (by omega)]
    have e2 : qsR (ext z p) = ext z (qsR p) := by unfold qsR; rw [a1, a2, b1]
    have e3 : qsL (ext z p) = qsL p := by unfold qsL; rw [a1, a2, b1]
    rw [e1, e2, e3]
    exact ⟨rfl, b2 h1⟩
  case qid =>
    simp only [Slot.i] at h ⊢
    obtain ⟨a1, a2⟩ := qr_ext z h
    rw [a1, a2]
    exact ⟨by simp [ext, h], h⟩
  case iounit =>
    simp only [Slot.i] at h ⊢
    obtain ⟨a1, a2, _⟩ := rd_ext z h
    rw [a1, a2]
    exact ⟨by simp [ext, h], h⟩
  case mode =>
    simp only [Slot.i] at h ⊢
    obtain ⟨a1, a2, _⟩ := rd_ext z h
    rw [a1, a2]
    exact ⟨by simp [ext, h], h⟩
  case perm =>
    simp only [Slot.i] at h ⊢
    obtain ⟨a1, a2, _⟩ := rd_ext z h
    rw [a1, a2]
    exact ⟨by simp [ext, h], h⟩
  case name =>
    simp only [Slot.i] at h ⊢
    obtain ⟨a1, a2, a3, a4⟩ := te_ext z h
    rw [a1, a2, a3]
    exact ⟨rfl, a4⟩
  case offset =>
    simp only [Slot.i] at h ⊢
    obtain ⟨a1, a2, _⟩ := rd_ext z h
    rw [a1, a2]
    exact ⟨by simp [ext, h], h⟩
  case count =>
    simp only [Slot.i] at h ⊢
    obtain ⟨a1, a2, _⟩ := rd_ext z h
    rw [a1, a2]
    exact ⟨by simp [ext, h], h⟩
  case data =>
    simp only [Slot.i] at h ⊢
    obtain ⟨h1, h2, h3⟩ : (rd 4 p).2 = 0 ∧ tv 4 p ≤ 8192 ∧ (rd (tv 4 p) (rd 4 p)).2 = 0 := by
      unfold daE at h
      by_cases h1 : (rd 4 p).2 = 0
      · rw [if_neg (fun hn => hn h1)] at h
        by_cases h2 : 8192 < tv 4 p
        · rw [if_pos h2] at h; omega
        · rw [if_neg h2] at h; exact ⟨h1, by omega, h⟩
      · rw [if_pos h1] at h; exact absurd h h1
    obtain ⟨a1, a2, _⟩ := rd_ext z h1
    obtain ⟨b1, b2, b3⟩ := rd_ext z h3
    have e1 : daE (ext z p) = 0 := by
      unfold daE
      rw [a1, a2, if_neg (show ¬ (ext z (rd 4 p)).2 ≠ 0 from fun hn => hn h1), if_neg (by omega), b1]; exact h3
    have e2 : daR (ext z p) = ext z (daR p) := by unfold daR; rw [a1, a2, b1]
    have e3 : daB (ext z p) = daB p := by unfold daB; rw [a1, a2]; exact b3
    rw [e1, e2, e3]
    exact ⟨rfl, h3⟩
  case stat =>
    simp only [Slot.i] at h ⊢
    obtain ⟨h1, h2, h3, h4⟩ := stE_ok h
    obtain ⟨a1, a2, _⟩ := rd_ext z h1
    obtain ⟨b1, b2, b3⟩ := rd_ext z (show (rd (tv 2 p) (rd 2 p)).2 = 0 from h2)
    have e2 : stR (ext z p) = ext z (stR p) := by unfold stR; rw [a1, a2, b1]
    have e3 : stB (ext z p) = stB p := by unfold stB; rw [a1, a2]; exact b3
    have e1 : stE (ext z p) = 0 := by
      unfold stE
      rw [e2, e3, a1, if_neg (show ¬ (ext z (rd 2 p)).2 ≠ 0 from fun hn => hn h1), if_neg (show ¬ (ext z (stR p)).2 ≠ 0 from fun hn => hn h2), if_neg (fun hn => hn h3), if_neg (fun hn => hn h4)]
    rw [e1, e2, e3]
    exact ⟨rfl, h2⟩
theorem ins_ext (z : List UInt8) : ∀ (ss : List Slot) (p : List UInt8 × Nat) (x : M), (ins ss p x).1 = 0 → ins ss (ext z p) x = (0, ext z (ins ss p x).2.1, (ins ss p x).2.2) ∧ (p.2 = 0 → (ins ss p x).2.1.2 = 0)
  | [], p, x, _ => ⟨rfl, fun h => h⟩
  | s :: ss, p, x, h => by
    have he : (s.i p x).1 = 0 := by
      by_cases h0 : (s.i p x).1 = 0
      · exact h0
      · rw [ins_bad h0] at h; exact absurd h h0
    obtain ⟨a1, a2⟩ := slot_ext z s p x he
    rw [ins_ok he] at h ⊢
    rw [ins_ok (by rw [a1]), a1]
    obtain ⟨b1, b2⟩ := ins_ext z ss _ _ h
    exact ⟨b1, fun _ => b2 a2⟩

theorem is_parts {l : List UInt8} (h : isM l = true) : (headR l).2 = 0 ∧ knownT (headM l).ty = true ∧ (fieldsR l).1 = 0 ∧ lt (fieldsR l).2.1 = 0 := by
  unfold isM at h
  simp only [Bool.and_eq_true, decide_eq_true_eq] at h
  exact ⟨h.1.1.1, h.1.1.2, h.1.2, h.2⟩
/-- Bytes that are a message are none with more behind them. -/
theorem is_more {l : List UInt8} (h : isM l = true) (z : List UInt8) : (fieldsR (l ++ z)).2.1 = (z, 0) := by
  obtain ⟨h1, h2, h3, h4⟩ := is_parts h
  have r1 : (rd 1 (l, 0)).2 = 0 := (rd_zero (show (rd 2 (rd 1 (l, 0))).2 = 0 from h1)).1
  obtain ⟨a1, a2, _⟩ := rd_ext z r1
  obtain ⟨b1, b2, _⟩ := rd_ext z (show (rd 2 (rd 1 (l, 0))).2 = 0 from h1)
  have e : ((l ++ z, 0) : List UInt8 × Nat) = ext z (l, 0) := rfl
  have eh : headR (l ++ z) = ext z (headR l) := by unfold headR; rw [e, a1, b1]
  have em : headM (l ++ z) = headM l := by unfold headM; rw [e, a1, a2, b2]
  obtain ⟨c1, c2⟩ := ins_ext z (slots (headM l).ty) (headR l) (headM l) h3
  unfold fieldsR
  rw [em, eh, c1]
  have hz := c2 h1
  have hl : (fieldsR l).2.1.1 = [] := by
    have h4' := h4
    unfold lt leftN at h4'
    rw [if_neg (fun hn => hn hz)] at h4'
    exact List.eq_nil_of_length_eq_zero h4'
  show ((fieldsR l).2.1.1 ++ z, (fieldsR l).2.1.2) = (z, 0)
  rw [hl]
  exact Prod.ext rfl hz
theorem back_cut {m : M} (hm : MOk m) (hf : MFew m) (he : m.err = 0) (k : Nat) (hk : k < m.bytes.length) : isM (m.bytes.take k) = false := by
  rcases hb : isM (m.bytes.take k) with _ | _
  · rfl
  · exfalso
    have h1 := is_more hb (m.bytes.drop k)
    rw [List.take_append_drop] at h1
    obtain ⟨_, _, h3⟩ := back hm hf he []
    rw [List.append_nil] at h3
    rw [h3] at h1
    have h2 : m.bytes.drop k = [] := (Prod.mk.inj h1).1.symm
    have := congrArg List.length h2
    simp at this
    omega
end Go.Proofs.Ytonhliipbdniiaa
