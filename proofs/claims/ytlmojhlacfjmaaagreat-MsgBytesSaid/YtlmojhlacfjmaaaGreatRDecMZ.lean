/- A message that is decoded encodes to the same bytes: plain. No condition. -/
import Derived.Test.YtlmojhlacfjmaaaGreatRDecBZ
namespace Go.Proofs.YtlmojhlacfjmaaaGreat
open Go.RowKit
set_option maxRecDepth 100000
set_option linter.unusedVariables false

theorem o_eq (s : Slot) {a b : M} (h : s.eqS a b) : s.o a = s.o b := by
 cases s <;> simp only [Slot.eqS] at h <;> simp only [Slot.o, h]
theorem i_other (s s' : Slot) (p : List UInt8 × Nat) (m : M) (h : s ≠ s') : s.eqS (s'.i p m).2.2 m := by
 cases s <;> cases s' <;> first | rfl | exact absurd rfl h
theorem ins_keep (s : Slot) : ∀ (ss : List Slot) (p : List UInt8 × Nat) (m : M), s ∉ ss → s.eqS (ins ss p m).2.2 m
 | [], _, _, _ => by cases s <;> rfl
 | s' :: ss, p, m, h => by
  have h1 := i_other s s' p m fun e => h (by rw [e]; exact List.mem_cons_self)
  by_cases h0 : (s'.i p m).1 = 0
  ·rw [ins_ok h0]
   exact eqS_trans s (ins_keep s ss _ _ fun h2 => h (List.mem_cons_of_mem _ h2)) h1
  ·rw [ins_bad h0]; exact h1
theorem slot_stat (m : M) (s : Stat) : Slot.o { m with stat := s } .stat = (s.err, numBytes s.bytes.length 2 ++ s.bytes) := rfl
theorem slot_i_stat (p : List UInt8 × Nat) (m : M) : Slot.i p m .stat = (stE p, stR p, { m with stat := decS (stB p) }) := rfl
theorem slot_back_st {p : List UInt8 × Nat} (h0 : p.2 = 0) (h1 : stE p = 0) : (decS (stB p)).err = 0 ∧ (numBytes (decS (stB p)).bytes.length 2 ++ (decS (stB p)).bytes) ++ (stR p).1 = p.1 ∧ (stR p).2 = 0 := by
 unfold stE at h1
 by_cases g1 : (rd 2 p).2 = 0
 ·rw [if_neg (fun hh => hh g1)] at h1
  by_cases g2 : (stR p).2 = 0
  ·rw [if_neg (fun hh => hh g2)] at h1
   by_cases g3 : decE (stB p) = 0
   ·rw [if_neg (fun hh => hh g3)] at h1
    by_cases g4 : decN (stB p) = (stB p).length
    ·obtain ⟨e1, e2⟩ := decS_back g3 g4
     obtain ⟨r1, r2⟩ := raw_tv g1 g2
     refine ⟨e1, ?_, g2⟩
     rw [e2, List.append_assoc]
     have r1' : stB p ++ (stR p).1 = (rd 2 p).1 := r1
     have r2' : (stB p).length = tv 2 p := r2
     rw [r1', r2']
     exact num_tv h0 g1
    ·rw [if_pos g4] at h1; omega
   ·rw [if_pos g3] at h1; exact absurd h1 g3
  ·rw [if_pos g2] at h1; exact absurd h1 g2
 ·rw [if_pos g1] at h1; exact absurd h1 g1
theorem slot_back_stat {p : List UInt8 × Nat} {m : M} (h0 : p.2 = 0) (h1 : stE p = 0) : (Slot.o (Slot.i p m .stat).2.2 .stat).1 = 0 ∧ (Slot.o (Slot.i p m .stat).2.2 .stat).2 ++ (Slot.i p m .stat).2.1.1 = p.1 ∧ (Slot.i p m .stat).2.1.2 = 0 := by
 have hb := slot_back_st h0 h1
 simp only [slot_i_stat, slot_stat]
 exact hb
theorem slot_back {p : List UInt8 × Nat} {m : M} (s : Slot) (h0 : p.2 = 0) (h : (s.i p m).1 = 0) : (s.o (s.i p m).2.2).1 = 0 ∧ (s.o (s.i p m).2.2).2 ++ (s.i p m).2.1.1 = p.1 ∧ (s.i p m).2.1.2 = 0 := by
 have text : te p = 0 → mayN (ts p) = 0 ∧ putText (ts p) ++ (tr p).1 = p.1 ∧ (tr p).2 = 0 := fun h => by
  obtain ⟨b1, b2, b3⟩ := text_back h0 h
  exact ⟨b2, b1, b3⟩
 cases s
 case version => exact text h
 case uname => exact text h
 case aname => exact text h
 case ename => exact text h
 case name => exact text h
 case names =>
  have h1 : txE p = 0 := h
  show ((if 16 < (txL p).length then 3 else textsErr (txL p)) = 0 ∧ (numBytes (txL p).length 2 ++ textsBytes (txL p)) ++ (txR p).1 = p.1 ∧ (txR p).2 = 0)
  unfold txE at h1
  unfold txL txR
  by_cases g1 : (rd 2 p).2 = 0
  ·rw [if_neg (fun hh => hh g1)] at h1
   by_cases h16 : 16 < tv 2 p
   ·rw [if_pos h16] at h1; omega
   ·rw [if_neg h16] at h1
    obtain ⟨i1, i2, i3, _⟩ := texts_back (tv 2 p) (rd 2 p) g1 h1
    obtain ⟨j1, _⟩ := rtxs_alike (tv 2 p) (rd 2 p) g1
    refine ⟨by rw [if_neg (by omega)]; exact i1, ?_, (j1 h1).2⟩
    rw [List.append_assoc, i2, i3]
    exact num_tv h0 g1
  ·rw [if_pos g1] at h1; exact absurd h1 g1
 case qids =>
  have h1 : qsE p = 0 := h
  show ((if 16 < (qsL p).length then 3 else 0) = 0 ∧ (numBytes (qsL p).length 2 ++ qidsBytes (qsL p)) ++ (qsR p).1 = p.1 ∧ (qsR p).2 = 0)
  unfold qsE at h1
  unfold qsL qsR
  by_cases g1 : (rd 2 p).2 = 0
  ·rw [if_neg (fun hh => hh g1)] at h1
   by_cases h16 : 16 < tv 2 p
   ·rw [if_pos h16] at h1; omega
   ·rw [if_neg h16] at h1
    obtain ⟨i2, i3, _⟩ := qids_back (tv 2 p) (rd 2 p) g1 h1
    obtain ⟨j1, _⟩ := rqds_alike (tv 2 p) (rd 2 p) g1
    refine ⟨by rw [if_neg (by omega)], ?_, (j1 h1).2⟩
    rw [List.append_assoc, i2, i3]
    exact num_tv h0 g1
  ·rw [if_pos g1] at h1; exact absurd h1 g1
 case qid => exact ⟨rfl, qid_back h0 h, h⟩
 case data =>
  have h1 : daE p = 0 := h
  show ((if 8192 < (daB p).length then 3 else 0) = 0 ∧ (numBytes (daB p).length 4 ++ daB p) ++ (daR p).1 = p.1 ∧ (daR p).2 = 0)
  unfold daE at h1
  unfold daB daR
  by_cases g1 : (rd 4 p).2 = 0
  ·rw [if_neg (fun hh => hh g1)] at h1
   by_cases h16 : 8192 < tv 4 p
   ·rw [if_pos h16] at h1; omega
   ·rw [if_neg h16] at h1
    obtain ⟨r1, r2⟩ := raw_tv g1 h1
    refine ⟨by rw [r2, if_neg h16], ?_, h1⟩
    rw [List.append_assoc, r1, r2]
    exact num_tv h0 g1
  ·rw [if_pos g1] at h1; exact absurd h1 g1
 case stat =>
  have h1 : stE p = 0 := by simp only [slot_i_stat] at h; exact h
  exact slot_back_stat h0 h1
 all_goals exact ⟨rfl, num_tv h0 h, h⟩
theorem ins_back : ∀ (ss : List Slot) (p : List UInt8 × Nat) (m : M), ss.Nodup → p.2 = 0 → (ins ss p m).1 = 0 → (outs (ins ss p m).2.2 ss).1 = 0 ∧ (outs (ins ss p m).2.2 ss).2 ++ (ins ss p m).2.1.1 = p.1 ∧ (ins ss p m).2.1.2 = 0
 | [], _, _, _, h0, _ => ⟨rfl, rfl, h0⟩
 | s :: ss, p, m, hn, h0, h => by
  by_cases hs : (s.i p m).1 = 0
  ·rw [ins_ok hs] at h ⊢
   obtain ⟨b1, b2, b3⟩ := slot_back s h0 hs
   obtain ⟨hns, hn2⟩ := List.nodup_cons.1 hn
   obtain ⟨i1, i2, i3⟩ := ins_back ss (s.i p m).2.1 (s.i p m).2.2 hn2 b3 h
   have e := o_eq s (ins_keep s ss (s.i p m).2.1 (s.i p m).2.2 hns)
   generalize (ins ss (s.i p m).2.1 (s.i p m).2.2) = r at *
   have e1 : (s.o r.2.2).1 = 0 := by rw [e]; exact b1
   rw [outs_ok e1]
   refine ⟨i1, ?_, i3⟩
   show ((s.o r.2.2).2 ++ (outs r.2.2 ss).2) ++ r.2.1.1 = p.1
   rw [List.append_assoc, i2, e]; exact b2
  ·rw [ins_bad hs] at h; exact absurd h hs
theorem slots_nodup (t : Nat) : (slots t).Nodup := by
 unfold slots
 split <;> simp
theorem i_ty (s : Slot) (p : List UInt8 × Nat) (m : M) : (s.i p m).2.2.ty = m.ty ∧ (s.i p m).2.2.tag = m.tag := by cases s <;> exact ⟨rfl, rfl⟩
theorem ins_ty : ∀ (ss : List Slot) (p : List UInt8 × Nat) (m : M), (ins ss p m).2.2.ty = m.ty ∧ (ins ss p m).2.2.tag = m.tag
 | [], _, _ => ⟨rfl, rfl⟩
 | s :: ss, p, m => by
  by_cases h0 : (s.i p m).1 = 0
  ·rw [ins_ok h0]
   exact ⟨(ins_ty ss _ _).1.trans (i_ty s p m).1, (ins_ty ss _ _).2.trans (i_ty s p m).2⟩
  ·rw [ins_bad h0]; exact i_ty s p m
structure Fine (m : M) : Prop where
 ok : MOk m
 few : RFew m
theorem readS_fine (x : List UInt8) : StatOk (readS x) ∧ Few (readS x) := by
 obtain ⟨f1, f2, f3, f4, f5, f6, f7, f8, f9, f10, f11, f12, f13⟩ := readS_fld x
 have q := qvR_ok (r2 x)
 have t1 := ts_size (r9 x)
 have t2 := ts_size (tr (r9 x))
 have t3 := ts_size (tr (tr (r9 x)))
 have t4 := ts_size (tr (tr (tr (r9 x))))
 have n1 := tv_lt 2 (x, 0) (by omega)
 have n2 := tv_lt 4 (rd 2 (x, 0)) (by omega)
 have n3 := tv_lt 4 (r5 x) (by omega)
 have n4 := tv_lt 4 (rd 4 (r5 x)) (by omega)
 have n5 := tv_lt 4 (rd 4 (rd 4 (r5 x))) (by omega)
 have n6 := tv_lt 8 (r8 x) (by omega)
 rw [← f1] at n1
 rw [← f2] at n2
 rw [← f6] at n3
 rw [← f7] at n4
 rw [← f8] at n5
 rw [← f9] at n6
 rw [← f10] at t1
 rw [← f11] at t2
 rw [← f12] at t3
 rw [← f13] at t4
 have q1 := q.t
 have q2 := q.v
 have q3 := q.p
 rw [← f3] at q1
 rw [← f4] at q2
 rw [← f5] at q3
 generalize readS x = s at *
 refine ⟨⟨by omega, by omega, by omega, by omega, by omega, by omega, by omega, by omega, by omega, ?_, ?_, ?_, ?_⟩, ⟨by omega, by omega, by omega, by omega⟩⟩ <;> unfold maxLen <;> omega
theorem decS_fine (l : List UInt8) : StatOk (decS l) ∧ Few (decS l) := by
 unfold decS
 split
 ·exact readS_fine _
 ·exact ⟨zeroS_ok, ⟨Nat.zero_le _, Nat.zero_le _, Nat.zero_le _, Nat.zero_le _⟩⟩
theorem i_fine {p : List UInt8 × Nat} {m : M} (s : Slot) (hm : Fine m) (h0 : p.2 = 0) (h : (s.i p m).1 = 0) : Fine (s.i p m).2.2 := by
 have v1 := tv_lt 1 p (by omega)
 have v2 := tv_lt 2 p (by omega)
 have v4 := tv_lt 4 p (by omega)
 have v8 := tv_lt 8 p (by omega)
 have z := ts_size p
 obtain ⟨⟨h1, h2, h3, h4, h5, h6, h7, h8, h9, h10, h11, h12, h13, h14, h15⟩, ⟨⟨k1, k2, k3, k4, k5, k6, k7⟩, l2, l3, l4⟩⟩ := hm
 cases s
 case names =>
  have e : txE p = 0 := h
  have hL : (txL p).length ≤ 16 ∧ ∀ s ∈ txL p, s.size ≤ 64 := by
   unfold txE at e
   unfold txL
   by_cases g1 : (rd 2 p).2 = 0
   ·rw [if_neg (fun hh => hh g1)] at e
    by_cases h16 : 16 < tv 2 p
    ·rw [if_pos h16] at e; omega
    ·rw [if_neg h16] at e
     obtain ⟨_, _, i3, i4⟩ := texts_back (tv 2 p) (rd 2 p) g1 e
     exact ⟨by omega, i4⟩
   ·rw [if_pos g1] at e; exact absurd e g1
  exact ⟨⟨h1, h2, h3, h4, h5, h6, h7, h8, h9, h10, h11, h12, h13, h14, h15⟩, ⟨⟨k1, k2, k3, k4, fun s hs => Nat.le_trans (hL.2 s hs) (by omega), k6, k7⟩, Nat.le_trans hL.1 (by omega), l3, l4⟩⟩
 case qids =>
  have e : qsE p = 0 := h
  have hL : (qsL p).length ≤ 16 ∧ ∀ s ∈ qsL p, QidOk s := by
   unfold qsE at e
   unfold qsL
   by_cases g1 : (rd 2 p).2 = 0
   ·rw [if_neg (fun hh => hh g1)] at e
    by_cases h16 : 16 < tv 2 p
    ·rw [if_pos h16] at e; omega
    ·rw [if_neg h16] at e
     obtain ⟨_, i3, i4⟩ := qids_back (tv 2 p) (rd 2 p) g1 e
     exact ⟨by omega, i4⟩
   ·rw [if_pos g1] at e; exact absurd e g1
  exact ⟨⟨h1, h2, h3, h4, h5, h6, h7, hL.2, h9, h10, h11, h12, h13, h14, h15⟩, ⟨⟨k1, k2, k3, k4, k5, k6, k7⟩, l2, Nat.le_trans hL.1 (by omega), l4⟩⟩
 case data =>
  have e : daE p = 0 := h
  have hL : (daB p).length ≤ 8192 := by
   unfold daE at e
   unfold daB
   by_cases g1 : (rd 4 p).2 = 0
   ·rw [if_neg (fun hh => hh g1)] at e
    by_cases h16 : 8192 < tv 4 p
    ·rw [if_pos h16] at e; omega
    ·rw [if_neg h16] at e
     rw [(raw_tv g1 e).2]; omega
   ·rw [if_pos g1] at e; exact absurd e g1
  exact ⟨⟨h1, h2, h3, h4, h5, h6, h7, h8, h9, h10, h11, h12, h13, h14, h15⟩, ⟨⟨k1, k2, k3, k4, k5, k6, k7⟩, l2, l3, Nat.le_trans hL (by omega)⟩⟩
 case qid => exact ⟨⟨h1, h2, h3, h4, h5, h6, h7, h8, qvR_ok p, h10, h11, h12, h13, h14, h15⟩, ⟨⟨k1, k2, k3, k4, k5, k6, k7⟩, l2, l3, l4⟩⟩
 case stat => exact ⟨⟨h1, h2, h3, h4, h5, h6, h7, h8, h9, h10, h11, h12, h13, h14, (decS_fine _).1⟩, ⟨⟨k1, k2, k3, k4, k5, k6, (decS_fine _).2⟩, l2, l3, l4⟩⟩
 case msize => exact ⟨⟨h1, h2, v4, h4, h5, h6, h7, h8, h9, h10, h11, h12, h13, h14, h15⟩, ⟨⟨k1, k2, k3, k4, k5, k6, k7⟩, l2, l3, l4⟩⟩
 case version => exact ⟨⟨h1, h2, h3, h4, h5, h6, h7, h8, h9, h10, h11, h12, h13, h14, h15⟩, ⟨⟨Nat.le_trans z (by omega), k2, k3, k4, k5, k6, k7⟩, l2, l3, l4⟩⟩
 case fid => exact ⟨⟨h1, h2, h3, v4, h5, h6, h7, h8, h9, h10, h11, h12, h13, h14, h15⟩, ⟨⟨k1, k2, k3, k4, k5, k6, k7⟩, l2, l3, l4⟩⟩
 case afid => exact ⟨⟨h1, h2, h3, h4, v4, h6, h7, h8, h9, h10, h11, h12, h13, h14, h15⟩, ⟨⟨k1, k2, k3, k4, k5, k6, k7⟩, l2, l3, l4⟩⟩
 case new => exact ⟨⟨h1, h2, h3, h4, h5, v4, h7, h8, h9, h10, h11, h12, h13, h14, h15⟩, ⟨⟨k1, k2, k3, k4, k5, k6, k7⟩, l2, l3, l4⟩⟩
 case uname => exact ⟨⟨h1, h2, h3, h4, h5, h6, h7, h8, h9, h10, h11, h12, h13, h14, h15⟩, ⟨⟨k1, Nat.le_trans z (by omega), k3, k4, k5, k6, k7⟩, l2, l3, l4⟩⟩
 case aname => exact ⟨⟨h1, h2, h3, h4, h5, h6, h7, h8, h9, h10, h11, h12, h13, h14, h15⟩, ⟨⟨k1, k2, Nat.le_trans z (by omega), k4, k5, k6, k7⟩, l2, l3, l4⟩⟩
 case ename => exact ⟨⟨h1, h2, h3, h4, h5, h6, h7, h8, h9, h10, h11, h12, h13, h14, h15⟩, ⟨⟨k1, k2, k3, Nat.le_trans z (by omega), k5, k6, k7⟩, l2, l3, l4⟩⟩
 case old => exact ⟨⟨h1, h2, h3, h4, h5, h6, v2, h8, h9, h10, h11, h12, h13, h14, h15⟩, ⟨⟨k1, k2, k3, k4, k5, k6, k7⟩, l2, l3, l4⟩⟩
 case iounit => exact ⟨⟨h1, h2, h3, h4, h5, h6, h7, h8, h9, v4, h11, h12, h13, h14, h15⟩, ⟨⟨k1, k2, k3, k4, k5, k6, k7⟩, l2, l3, l4⟩⟩
 case mode => exact ⟨⟨h1, h2, h3, h4, h5, h6, h7, h8, h9, h10, v1, h12, h13, h14, h15⟩, ⟨⟨k1, k2, k3, k4, k5, k6, k7⟩, l2, l3, l4⟩⟩
 case perm => exact ⟨⟨h1, h2, h3, h4, h5, h6, h7, h8, h9, h10, h11, v4, h13, h14, h15⟩, ⟨⟨k1, k2, k3, k4, k5, k6, k7⟩, l2, l3, l4⟩⟩
 case name => exact ⟨⟨h1, h2, h3, h4, h5, h6, h7, h8, h9, h10, h11, h12, h13, h14, h15⟩, ⟨⟨k1, k2, k3, k4, k5, Nat.le_trans z (by omega), k7⟩, l2, l3, l4⟩⟩
 case offset => exact ⟨⟨h1, h2, h3, h4, h5, h6, h7, h8, h9, h10, h11, h12, v8, h14, h15⟩, ⟨⟨k1, k2, k3, k4, k5, k6, k7⟩, l2, l3, l4⟩⟩
 case count => exact ⟨⟨h1, h2, h3, h4, h5, h6, h7, h8, h9, h10, h11, h12, h13, v4, h15⟩, ⟨⟨k1, k2, k3, k4, k5, k6, k7⟩, l2, l3, l4⟩⟩
theorem ins_fine : ∀ (ss : List Slot) (p : List UInt8 × Nat) (m : M), Fine m → p.2 = 0 → (ins ss p m).1 = 0 → Fine (ins ss p m).2.2
 | [], _, _, h, _, _ => h
 | s :: ss, p, m, hm, h0, h => by
  by_cases hs : (s.i p m).1 = 0
  ·rw [ins_ok hs] at h ⊢
   exact ins_fine ss _ _ (i_fine s hm h0 hs) (slot_back s h0 hs).2.2 h
  ·rw [ins_bad hs] at h; exact absurd h hs
theorem headM_fine (l : List UInt8) : Fine (headM l) := by
 have h1 := tv_lt 1 (l, 0) (by omega)
 have h2 := tv_lt 2 (rd 1 (l, 0)) (by omega)
 exact ⟨headTT_ok (t := tv 1 (l, 0)) (g := tv 2 (rd 1 (l, 0))) h1 h2, headTT_few _ _⟩
theorem decM_back {l : List UInt8} (h : isM l = true) : (decM l).err = 0 ∧ (decM l).bytes = l ∧ Fine (decM l) := by
 unfold isM at h
 simp only [Bool.and_eq_true, decide_eq_true_eq] at h
 obtain ⟨⟨⟨g2, hk⟩, hf⟩, hl⟩ := h
 have g1 : (rd 1 (l, 0)).2 = 0 := back_step (n := 2) g2
 have n1 := num_tv (n := 1) (p := (l, 0)) rfl g1
 have n2 := num_tv g1 g2
 have ht := ins_ty (slots (headM l).ty) (headR l) (headM l)
 obtain ⟨i1, i2, i3⟩ := ins_back (slots (headM l).ty) (headR l) (headM l) (slots_nodup _) g2 hf
 have hfi := ins_fine (slots (headM l).ty) (headR l) (headM l) (headM_fine l) g2 hf
 have e : decM l = (ins (slots (headM l).ty) (headR l) (headM l)).2.2 := rfl
 have hl2 : lt (ins (slots (headM l).ty) (headR l) (headM l)).2.1 = 0 := hl
 rw [← e] at i1 i2 hfi ht
 generalize (ins (slots (headM l).ty) (headR l) (headM l)).2.1 = z at hl2 i2 i3
 have hz : z.1 = [] := by
  unfold lt leftN at hl2
  rw [if_neg (fun hh => hh i3)] at hl2
  exact List.length_eq_zero_iff.1 hl2
 rw [hz, List.append_nil] at i2
 have hty : (decM l).ty = (headM l).ty := ht.1
 have he : (decM l).err = 0 := by
  unfold M.err
  rw [hty, if_pos hk]; exact i1
 refine ⟨he, ?_, hfi⟩
 rw [bytes_eq he, hty, i2, ht.2]
 show numBytes (tv 1 (l, 0)) 1 ++ (numBytes (tv 2 (rd 1 (l, 0))) 2 ++ (rd 2 (rd 1 (l, 0))).1) = l
 rw [n2, n1]
end Go.Proofs.YtlmojhlacfjmaaaGreat
