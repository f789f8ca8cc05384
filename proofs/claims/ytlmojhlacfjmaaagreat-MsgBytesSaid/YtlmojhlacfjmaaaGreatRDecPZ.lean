/- What the reference's messages read, against what the program's read: plain. No condition. -/
import Derived.Test.YtlmojhlacfjmaaaGreatRFill2Z
import Derived.Test.YtlmojhlacfjmaaaGreatBunK
import Derived.Test.YtlmojhlacfjmaaaGreatMsgCZ
namespace Go.Proofs.YtlmojhlacfjmaaaGreat
open Go.RowKit
set_option maxRecDepth 100000
set_option linter.unusedVariables false

theorem rd_bad {n : Nat} {p : List UInt8 × Nat} (h : p.2 ≠ 0) : rd n p = p ∧ tv n p = 0 := by
 obtain ⟨l, e⟩ := p
 refine ⟨?_, ?_⟩
 ·show (restL n l e, restE n l e) = (l, e)
  unfold restL restE
  rw [if_pos h, if_pos h]
 ·show takeV n l e = 0
  unfold takeV
  rw [if_pos h]
theorem tr_rd (p : List UInt8 × Nat) : tr p = rd (tv 2 p) (rd 2 p) := rfl
theorem tr_bad {p : List UInt8 × Nat} (h : p.2 ≠ 0) : tr p = p := by
 rw [tr_rd, (rd_bad (n := 2) h).1, (rd_bad h).1]
theorem mtr_bad {p : List UInt8 × Nat} (h : p.2 ≠ 0) : (mtr p).2 ≠ 0 := by
 unfold mtr
 rw [tr_bad h, if_neg (fun hh => h hh.2)]
 exact h
theorem mtr_no {p : List UInt8 × Nat} (h : te p ≠ 0) : (mtr p).2 ≠ 0 := by
 unfold mtr
 by_cases h2 : (tr p).2 = 0
 ·rw [if_pos ⟨h, h2⟩]; simp
 ·rw [if_neg (fun hh => h2 hh.2)]; exact h2
theorem te_ok {p : List UInt8 × Nat} (h : te p = 0) : mtr p = tr p ∧ (tr p).2 = 0 := by
 refine ⟨by unfold mtr; rw [if_neg (fun hh => hh.1 h)], ?_⟩
 exact (te_zero h).2.1
theorem qr_bad {p : List UInt8 × Nat} (h : p.2 ≠ 0) : qr p = p := by
 unfold qr
 rw [(rd_bad (n := 1) h).1, (rd_bad (n := 4) h).1, (rd_bad (n := 8) h).1]
theorem rtxs_shift : ∀ n p, rtxs (n + 1) p = ((rtxs n (mtr p)).1, ts p :: (rtxs n (mtr p)).2)
 | 0, _ => rfl
 | n + 1, p => by
  show (mtr (rtxs (n + 1) p).1, (rtxs (n + 1) p).2 ++ [ts (rtxs (n + 1) p).1]) = _
  rw [rtxs_shift n p]
  rfl
theorem rqds_shift : ∀ n p, rqds (n + 1) p = ((rqds n (qr p)).1, qvR p :: (rqds n (qr p)).2)
 | 0, _ => rfl
 | n + 1, p => by
  show (qr (rqds (n + 1) p).1, (rqds (n + 1) p).2 ++ [qvR (rqds (n + 1) p).1]) = _
  rw [rqds_shift n p]
  rfl
theorem rtxs_bad : ∀ n p, p.2 ≠ 0 → (rtxs n p).1.2 ≠ 0
 | 0, _, h => h
 | n + 1, p, h => by rw [rtxs_shift]; exact rtxs_bad n _ (mtr_bad h)
theorem rqds_bad : ∀ n p, p.2 ≠ 0 → (rqds n p).1.2 ≠ 0
 | 0, _, h => h
 | n + 1, p, h => by rw [rqds_shift]; exact rqds_bad n _ (by rw [qr_bad h]; exact h)
theorem rtxs_alike : ∀ n p, p.2 = 0 → ((textsIn n p).1 = 0 → rtxs n p = (textsIn n p).2 ∧ (textsIn n p).2.1.2 = 0) ∧ ((textsIn n p).1 ≠ 0 → (rtxs n p).1.2 ≠ 0)
 | 0, p, h => ⟨fun _ => ⟨rfl, h⟩, fun h => absurd rfl h⟩
 | n + 1, p, h => by
  rw [rtxs_shift]
  unfold textsIn
  by_cases ht : te p = 0
  ·obtain ⟨h1, h2⟩ := te_ok ht
   rw [if_neg (fun hh => hh ht), h1]
   obtain ⟨i1, i2⟩ := rtxs_alike n (tr p) h2
   exact ⟨fun h0 => by rw [(i1 h0).1]; exact ⟨rfl, (i1 h0).2⟩, i2⟩
  ·rw [if_pos ht]
   exact ⟨fun h0 => absurd h0 ht, fun _ => rtxs_bad n _ (mtr_no ht)⟩
theorem rqds_alike : ∀ n p, p.2 = 0 → ((qidsIn n p).1 = 0 → rqds n p = (qidsIn n p).2 ∧ (qidsIn n p).2.1.2 = 0) ∧ ((qidsIn n p).1 ≠ 0 → (rqds n p).1.2 ≠ 0)
 | 0, p, h => ⟨fun _ => ⟨rfl, h⟩, fun h => absurd rfl h⟩
 | n + 1, p, h => by
  rw [rqds_shift]
  unfold qidsIn
  by_cases ht : (qr p).2 = 0
  ·rw [if_neg (fun hh => hh ht)]
   obtain ⟨i1, i2⟩ := rqds_alike n (qr p) ht
   exact ⟨fun h0 => by rw [(i1 h0).1]; exact ⟨rfl, (i1 h0).2⟩, i2⟩
  ·rw [if_pos ht]
   exact ⟨fun h0 => absurd h0 ht, fun _ => rqds_bad n _ ht⟩
theorem rd_no {n : Nat} {p : List UInt8 × Nat} (h0 : p.2 = 0) (h : (rd n p).2 ≠ 0) : tv n p = 0 := by
 obtain ⟨l, e⟩ := p
 obtain rfl : e = 0 := h0
 have h1 : restE n l 0 ≠ 0 := h
 show takeV n l 0 = 0
 unfold takeV
 unfold restE at h1
 rw [if_neg (by simp)] at h1 ⊢
 by_cases hl : l.length < n
 ·rw [if_pos hl]
 ·rw [if_neg hl] at h1; exact absurd rfl h1
theorem slot_ri {p : List UInt8 × Nat} {m : M} (s : Slot) (h : p.2 = 0) : ((s.i p m).1 = 0 → s.ri p m = (s.i p m).2 ∧ (s.i p m).2.1.2 = 0) ∧ ((s.i p m).1 ≠ 0 → (s.ri p m).1.2 ≠ 0) := by
 have text : (te p = 0 → (mtr p = tr p ∧ (tr p).2 = 0)) ∧ (te p ≠ 0 → (mtr p).2 ≠ 0) := ⟨te_ok, mtr_no⟩
 cases s
 case version => exact ⟨fun h0 => ⟨by show (mtr p, _) = (tr p, _); rw [(text.1 h0).1], (text.1 h0).2⟩, text.2⟩
 case uname => exact ⟨fun h0 => ⟨by show (mtr p, _) = (tr p, _); rw [(text.1 h0).1], (text.1 h0).2⟩, text.2⟩
 case aname => exact ⟨fun h0 => ⟨by show (mtr p, _) = (tr p, _); rw [(text.1 h0).1], (text.1 h0).2⟩, text.2⟩
 case ename => exact ⟨fun h0 => ⟨by show (mtr p, _) = (tr p, _); rw [(text.1 h0).1], (text.1 h0).2⟩, text.2⟩
 case name => exact ⟨fun h0 => ⟨by show (mtr p, _) = (tr p, _); rw [(text.1 h0).1], (text.1 h0).2⟩, text.2⟩
 case names =>
  show (txE p = 0 → ((rtxs (mnN p) (mnR p)).1, { m with names := (rtxs (mnN p) (mnR p)).2 }) = (txR p, { m with names := txL p }) ∧ (txR p).2 = 0) ∧ (txE p ≠ 0 → (rtxs (mnN p) (mnR p)).1.2 ≠ 0)
  unfold txE txR txL mnN mnR
  by_cases h1 : (rd 2 p).2 = 0
  ·rw [if_neg (fun hh => hh h1)]
   by_cases h16 : 16 < tv 2 p
   ·rw [if_pos h16, if_pos h16, if_pos h16]
    exact ⟨fun h0 => by omega, fun _ => by show (2 : Nat) ≠ 0; omega⟩
   ·rw [if_neg h16, if_neg h16, if_neg h16]
    obtain ⟨i1, i2⟩ := rtxs_alike (tv 2 p) (rd 2 p) h1
    exact ⟨fun h0 => by rw [(i1 h0).1]; exact ⟨rfl, (i1 h0).2⟩, i2⟩
  ·rw [if_pos h1, rd_no h h1, if_neg (by omega), if_neg (by omega)]
   exact ⟨fun h0 => absurd h0 h1, fun _ => h1⟩
 case qids =>
  show (qsE p = 0 → ((rqds (mnN p) (mnR p)).1, { m with qids := (rqds (mnN p) (mnR p)).2 }) = (qsR p, { m with qids := qsL p }) ∧ (qsR p).2 = 0) ∧ (qsE p ≠ 0 → (rqds (mnN p) (mnR p)).1.2 ≠ 0)
  unfold qsE qsR qsL mnN mnR
  by_cases h1 : (rd 2 p).2 = 0
  ·rw [if_neg (fun hh => hh h1)]
   by_cases h16 : 16 < tv 2 p
   ·rw [if_pos h16, if_pos h16, if_pos h16]
    exact ⟨fun h0 => by omega, fun _ => by show (2 : Nat) ≠ 0; omega⟩
   ·rw [if_neg h16, if_neg h16, if_neg h16]
    obtain ⟨i1, i2⟩ := rqds_alike (tv 2 p) (rd 2 p) h1
    exact ⟨fun h0 => by rw [(i1 h0).1]; exact ⟨rfl, (i1 h0).2⟩, i2⟩
  ·rw [if_pos h1, rd_no h h1, if_neg (by omega), if_neg (by omega)]
   exact ⟨fun h0 => absurd h0 h1, fun _ => h1⟩
 case data =>
  show (daE p = 0 → (mdR p, { m with data := mdB p }) = (daR p, { m with data := daB p }) ∧ (daR p).2 = 0) ∧ (daE p ≠ 0 → (mdR p).2 ≠ 0)
  unfold daE daR daB mdR mdB mdP
  by_cases h1 : (rd 4 p).2 = 0
  ·rw [if_neg (fun hh => hh h1)]
   by_cases h16 : 8192 < tv 4 p
   ·rw [if_pos h16, if_pos h16]
    exact ⟨fun h0 => by omega, fun _ => by rw [(rd_bad (p := ((rd 4 p).1, 2)) (by simp)).1]; simp⟩
   ·rw [if_neg h16, if_neg h16]
    exact ⟨fun h0 => ⟨rfl, h0⟩, fun h0 => h0⟩
  ·rw [if_pos h1, rd_no h h1, if_neg (by omega)]
   exact ⟨fun h0 => absurd h0 h1, fun _ => by rw [(rd_bad h1).1]; exact h1⟩
 case stat =>
  show (stE p = 0 → (msR p, { m with stat := decS (stB p) }) = (stR p, { m with stat := decS (stB p) }) ∧ (stR p).2 = 0) ∧ (stE p ≠ 0 → (msR p).2 ≠ 0)
  unfold stE msR
  by_cases h1 : (rd 2 p).2 = 0
  ·rw [if_neg (fun hh => hh h1)]
   by_cases h2 : (stR p).2 = 0
   ·rw [if_neg (fun hh => hh h2)]
    by_cases h3 : decE (stB p) = 0
    ·rw [if_neg (fun hh => hh h3)]
     by_cases h4 : decN (stB p) = (stB p).length
     ·rw [if_neg (fun hh => hh h4), if_neg (by rintro ⟨_, h | h⟩; exact h h3; exact h h4)]
      exact ⟨fun _ => ⟨rfl, h2⟩, fun h0 => absurd rfl h0⟩
     ·rw [if_pos h4, if_pos ⟨h2, .inr h4⟩]
      exact ⟨fun h0 => by omega, fun _ => by show (2 : Nat) ≠ 0; omega⟩
    ·rw [if_pos h3, if_pos ⟨h2, .inl h3⟩]
     exact ⟨fun h0 => absurd h0 h3, fun _ => by show (2 : Nat) ≠ 0; omega⟩
   ·rw [if_pos h2, if_neg (fun hh => h2 hh.1)]
    exact ⟨fun h0 => absurd h0 h2, fun _ => h2⟩
  ·have h2 : (stR p).2 ≠ 0 := by unfold stR; rw [(rd_bad h1).1]; exact h1
   rw [if_pos h1, if_neg (fun hh => h2 hh.1)]
   exact ⟨fun h0 => absurd h0 h1, fun _ => h2⟩
 all_goals exact ⟨fun h0 => ⟨rfl, h0⟩, fun h0 => h0⟩
theorem slot_ri_bad {p : List UInt8 × Nat} {m : M} (s : Slot) (h : p.2 ≠ 0) : (s.ri p m).1.2 ≠ 0 := by
 cases s
 case names => show (rtxs (mnN p) (mnR p)).1.2 ≠ 0; unfold mnN mnR; rw [(rd_bad (n := 2) h).2, if_neg (by omega), if_neg (by omega), (rd_bad (n := 2) h).1]; exact h
 case qids => show (rqds (mnN p) (mnR p)).1.2 ≠ 0; unfold mnN mnR; rw [(rd_bad (n := 2) h).2, if_neg (by omega), if_neg (by omega), (rd_bad (n := 2) h).1]; exact h
 case data => show (mdR p).2 ≠ 0; unfold mdR mdP; rw [(rd_bad (n := 4) h).2, if_neg (by omega), (rd_bad (n := 4) h).1, (rd_bad (n := 0) h).1]; exact h
 case stat =>
  have h2 : (stR p).2 ≠ 0 := by unfold stR; rw [(rd_bad (n := 2) h).1, (rd_bad h).1]; exact h
  show (msR p).2 ≠ 0
  unfold msR
  rw [if_neg (fun hh => h2 hh.1)]; exact h2
 case qid => show (qr p).2 ≠ 0; rw [qr_bad h]; exact h
 all_goals first
  | exact mtr_bad h
  | (show (rd _ p).2 ≠ 0; rw [(rd_bad h).1]; exact h)
theorem rins_bad : ∀ (ss : List Slot) (p : List UInt8 × Nat) (m : M), p.2 ≠ 0 → (rins ss p m).1.2 ≠ 0
 | [], _, _, h => h
 | s :: ss, p, m, h => rins_bad ss _ _ (slot_ri_bad s h)
theorem rins_alike : ∀ (ss : List Slot) (p : List UInt8 × Nat) (m : M), p.2 = 0 → ((ins ss p m).1 = 0 → rins ss p m = (ins ss p m).2 ∧ (ins ss p m).2.1.2 = 0) ∧ ((ins ss p m).1 ≠ 0 → (rins ss p m).1.2 ≠ 0)
 | [], _, _, h => ⟨fun _ => ⟨rfl, h⟩, fun h => absurd rfl h⟩
 | s :: ss, p, m, h => by
  obtain ⟨h1, h2⟩ := slot_ri (m := m) s h
  show (_ → rins ss (s.ri p m).1 (s.ri p m).2 = _ ∧ _) ∧ (_ → (rins ss (s.ri p m).1 (s.ri p m).2).1.2 ≠ 0)
  by_cases h0 : (s.i p m).1 = 0
  ·obtain ⟨e, hp⟩ := h1 h0
   rw [ins_ok h0, e]
   exact rins_alike ss _ _ hp
  ·rw [ins_bad h0]
   exact ⟨fun hh => absurd hh h0, fun _ => rins_bad ss _ _ (h2 h0)⟩
end Go.Proofs.YtlmojhlacfjmaaaGreat
