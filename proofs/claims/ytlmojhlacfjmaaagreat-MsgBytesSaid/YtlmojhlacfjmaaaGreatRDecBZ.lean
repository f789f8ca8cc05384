/- A message that is read has just the bytes that were read: plain. No condition. -/
import Derived.Test.YtlmojhlacfjmaaaGreatRDecPZ
import Derived.Test.YtlmojhlacfjmaaaGreatLawMsgBZ
namespace Go.Proofs.YtlmojhlacfjmaaaGreat
open Go.RowKit
set_option maxRecDepth 100000
set_option linter.unusedVariables false

theorem leN_inj : ∀ {a b : List UInt8}, a.length = b.length → leN a = leN b → a = b
 | [], [], _, _ => rfl
 | c :: a, d :: b, hl, h => by
  have h1 : c.toNat + 256 * leN a = d.toNat + 256 * leN b := h
  have h2 := c.toNat_lt
  have h3 := d.toNat_lt
  have e1 : c.toNat = d.toNat := by omega
  have e2 : leN a = leN b := by omega
  rw [UInt8.toNat_inj.1 e1, leN_inj (by simpa using hl) e2]
theorem num_leN (l : List UInt8) : numBytes (leN l) l.length = l :=
 leN_inj (numBytes_length _ _) (by rw [leN_num, Nat.mod_eq_of_lt (leN_lt l)])
theorem rd_cut {n : Nat} {p : List UInt8 × Nat} (h0 : p.2 = 0) (h : (rd n p).2 = 0) : p.1 = p.1.take n ++ (rd n p).1 ∧ (p.1.take n).length = n ∧ tv n p = leN (p.1.take n) ∧ rawL n p.1 p.2 = p.1.take n := by
 obtain ⟨l, e⟩ := p
 obtain rfl : e = 0 := h0
 have h1 : restE n l 0 = 0 := h
 unfold restE at h1
 rw [if_neg (by simp)] at h1
 by_cases hl : l.length < n
 ·rw [if_pos hl] at h1; omega
 ·refine ⟨?_, by simp; omega, ?_, ?_⟩
  ·show l = l.take n ++ restL n l 0
   unfold restL
   rw [if_neg (by simp), if_neg hl, List.take_append_drop]
  ·show takeV n l 0 = leN (l.take n)
   unfold takeV
   rw [if_neg (by simp), if_neg hl]
  ·unfold rawL
   rw [if_neg (by simp), if_neg hl]
theorem num_tv {n : Nat} {p : List UInt8 × Nat} (h0 : p.2 = 0) (h : (rd n p).2 = 0) : numBytes (tv n p) n ++ (rd n p).1 = p.1 := by
 obtain ⟨h1, h2, h3, _⟩ := rd_cut h0 h
 have h4 := num_leN (p.1.take n)
 rw [h2] at h4
 rw [h3, h4]; exact h1.symm
theorem raw_tv {n : Nat} {p : List UInt8 × Nat} (h0 : p.2 = 0) (h : (rd n p).2 = 0) : rawL n p.1 p.2 ++ (rd n p).1 = p.1 ∧ (rawL n p.1 p.2).length = n := by
 obtain ⟨h1, h2, _, h4⟩ := rd_cut h0 h
 rw [h4]; exact ⟨h1.symm, h2⟩
theorem ts_ok {p : List UInt8 × Nat} (h : te p = 0) : ts p = strL (rawL (tv 2 p) (rd 2 p).1 (rd 2 p).2) := by
 have h1 : tkErr p.1 p.2 = 0 := h
 show tkStr p.1 p.2 = _
 unfold tkStr
 rw [if_neg (fun hh => hh h1)]
 rfl
theorem ts_size (p : List UInt8 × Nat) : (ts p).size ≤ 64 := by
 by_cases h : te p = 0
 ·rw [ts_ok h]; exact mayN_zero_size (te_zero h).2.2
 ·show (tkStr p.1 p.2).size ≤ 64
  unfold tkStr
  rw [if_pos (show tkErr p.1 p.2 ≠ 0 from h)]
  exact Nat.zero_le _
theorem text_back {p : List UInt8 × Nat} (h0 : p.2 = 0) (h : te p = 0) : putText (ts p) ++ (tr p).1 = p.1 ∧ mayN (ts p) = 0 ∧ (tr p).2 = 0 := by
 obtain ⟨h1, h2, h3⟩ := te_zero h
 have hs := ts_ok h
 refine ⟨?_, by rw [hs]; exact h3, h2⟩
 obtain ⟨r1, r2⟩ := raw_tv h1 h2
 have e : putText (ts p) = numBytes (tv 2 p) 2 ++ rawL (tv 2 p) (rd 2 p).1 (rd 2 p).2 := by
  unfold putText
  rw [hs, strL_size, strL_data, r2]
 rw [e, List.append_assoc, show (tr p).1 = (rd (tv 2 p) (rd 2 p)).1 from rfl, r1]
 exact num_tv h0 h1
theorem qid_back {p : List UInt8 × Nat} (h0 : p.2 = 0) (h : (qr p).2 = 0) : (qvR p).bytes ++ (qr p).1 = p.1 := by
 have g8 : (rd 8 (rd 4 (rd 1 p))).2 = 0 := h
 have g4 : (rd 4 (rd 1 p)).2 = 0 := by
  by_cases hh : (rd 4 (rd 1 p)).2 = 0
  ·exact hh
  ·rw [(rd_bad (n := 8) hh).1] at g8; exact g8
 have g1 : (rd 1 p).2 = 0 := by
  by_cases hh : (rd 1 p).2 = 0
  ·exact hh
  ·rw [(rd_bad (n := 4) hh).1] at g4; exact g4
 have e1 : qvT p = tv 1 p := by unfold qvT; rw [if_neg (fun hh => hh h)]
 have e2 : qvV p = tv 4 (rd 1 p) := by unfold qvV; rw [if_neg (fun hh => hh h)]
 have e3 : qvP p = tv 8 (rd 4 (rd 1 p)) := by unfold qvP; rw [if_neg (fun hh => hh h)]
 show (numBytes (qvT p) 1 ++ numBytes (qvV p) 4 ++ numBytes (qvP p) 8) ++ (rd 8 (rd 4 (rd 1 p))).1 = p.1
 rw [e1, e2, e3, List.append_assoc, List.append_assoc, num_tv g4 g8, num_tv g1 g4, num_tv h0 g1]
theorem texts_back : ∀ n p, p.2 = 0 → (textsIn n p).1 = 0 → textsErr (textsIn n p).2.2 = 0 ∧ textsBytes (textsIn n p).2.2 ++ (textsIn n p).2.1.1 = p.1 ∧ (textsIn n p).2.2.length = n ∧ (∀ s ∈ (textsIn n p).2.2, s.size ≤ 64)
 | 0, _, _, _ => ⟨rfl, rfl, rfl, fun s hs => by cases hs⟩
 | n + 1, p, h0, h => by
  unfold textsIn at h ⊢
  by_cases ht : te p = 0
  ·rw [if_neg (fun hh => hh ht)] at h ⊢
   obtain ⟨b1, b2, b3⟩ := text_back h0 ht
   obtain ⟨i1, i2, i3, i4⟩ := texts_back n (tr p) b3 h
   refine ⟨?_, ?_, by simp [i3], ?_⟩
   ·show textsErr (ts p :: _) = 0
    unfold textsErr
    rw [if_pos b2]; exact i1
   ·show (putText (ts p) ++ textsBytes _) ++ _ = _
    rw [List.append_assoc, i2]; exact b1
   ·intro s hs
    rcases List.mem_cons.1 hs with e | e
    ·rw [e]; exact ts_size p
    ·exact i4 s e
  ·rw [if_pos ht] at h; exact absurd h ht
theorem qvR_ok (p : List UInt8 × Nat) : QidOk (qvR p) := by
 have h1 := tv_lt 1 p (by omega)
 have h2 := tv_lt 4 (rd 1 p) (by omega)
 have h3 := tv_lt 8 (rd 4 (rd 1 p)) (by omega)
 refine ⟨?_, ?_, ?_⟩
 ·show qvT p < 256; unfold qvT; split <;> omega
 ·show qvV p < 4294967296; unfold qvV; split <;> omega
 ·show qvP p < 18446744073709551616; unfold qvP; split <;> omega
theorem qids_back : ∀ n p, p.2 = 0 → (qidsIn n p).1 = 0 → qidsBytes (qidsIn n p).2.2 ++ (qidsIn n p).2.1.1 = p.1 ∧ (qidsIn n p).2.2.length = n ∧ (∀ q ∈ (qidsIn n p).2.2, QidOk q)
 | 0, _, _, _ => ⟨rfl, rfl, fun s hs => by cases hs⟩
 | n + 1, p, h0, h => by
  unfold qidsIn at h ⊢
  by_cases ht : (qr p).2 = 0
  ·rw [if_neg (fun hh => hh ht)] at h ⊢
   obtain ⟨i1, i2, i3⟩ := qids_back n (qr p) ht h
   refine ⟨?_, by simp [i2], ?_⟩
   ·show ((qvR p).bytes ++ qidsBytes _) ++ _ = _
    rw [List.append_assoc, i1]; exact qid_back h0 ht
   ·intro s hs
    rcases List.mem_cons.1 hs with e | e
    ·rw [e]; exact qvR_ok p
    ·exact i3 s e
  ·rw [if_pos ht] at h; exact absurd h ht
theorem back_step {n : Nat} {p : List UInt8 × Nat} (h : (rd n p).2 = 0) : p.2 = 0 := by
 by_cases hh : p.2 = 0
 ·exact hh
 ·rw [(rd_bad (n := n) hh).1] at h; exact h
theorem stat_join {s : Stat} {x x1 x2 x5 x6 x7 x8 x9 y1 y2 y3 : List UInt8} (n1 : numBytes s.kind 2 ++ x1 = x) (n2 : numBytes s.dev 4 ++ x2 = x1) (n5 : qidBytes s.qt s.qv s.qp ++ x5 = x2) (n6 : numBytes s.mode 4 ++ x6 = x5) (n7 : numBytes s.atm 4 ++ x7 = x6) (n8 : numBytes s.mtm 4 ++ x8 = x7) (n9 : numBytes s.len 8 ++ x9 = x8)
  (b1 : putText s.name ++ y1 = x9) (b2 : putText s.uid ++ y2 = y1) (b3 : putText s.gid ++ y3 = y2) (b4 : putText s.muid = y3) : s.rest = x := by
 rw [rest_eq, List.append_nil, b4, b3, b2, b1, n9, n8, n7, n6, n5, n2, n1]
theorem err_join {s : Stat} (m1 : mayN s.name = 0) (m2 : mayN s.uid = 0) (m3 : mayN s.gid = 0) (m4 : mayN s.muid = 0) : s.err = 0 := by
 unfold Stat.err Stat.texts
 simp only [textsErr, m1, m2, m3, m4, if_true]
theorem readS_fld (x : List UInt8) : (readS x).kind = tv 2 (x, 0) ∧ (readS x).dev = tv 4 (rd 2 (x, 0)) ∧ (readS x).qt = (qvR (r2 x)).t ∧ (readS x).qv = (qvR (r2 x)).v ∧ (readS x).qp = (qvR (r2 x)).p ∧ (readS x).mode = tv 4 (r5 x) ∧ (readS x).atm = tv 4 (rd 4 (r5 x)) ∧ (readS x).mtm = tv 4 (rd 4 (rd 4 (r5 x))) ∧ (readS x).len = tv 8 (r8 x) ∧ (readS x).name = ts (r9 x) ∧ (readS x).uid = ts (tr (r9 x)) ∧ (readS x).gid = ts (tr (tr (r9 x))) ∧ (readS x).muid = ts (tr (tr (tr (r9 x)))) := by
 refine ⟨?_, ?_, ?_, ?_, ?_, ?_, ?_, ?_, ?_, ?_, ?_, ?_, ?_⟩ <;> unfold readS <;> (try unfold qvR) <;> simp only
theorem stat_back {x : List UInt8} (h : readE x = true) : (readS x).err = 0 ∧ (readS x).rest = x := by
 unfold readE at h
 simp only [Bool.and_eq_true, beq_iff_eq] at h
 obtain ⟨⟨⟨⟨t1, t2⟩, t3⟩, t4⟩, hl⟩ := h
 obtain ⟨z1, _, _⟩ := te_zero t1
 have g9 : (r9 x).2 = 0 := back_step z1
 have n9 : (r8 x).2 = 0 ∧ numBytes (tv 8 (r8 x)) 8 ++ (r9 x).1 = (r8 x).1 := by
  unfold r9 at g9 ⊢
  have g8 := back_step (n := 8) g9
  exact ⟨g8, num_tv g8 g9⟩
 obtain ⟨g8, n9⟩ := n9
 have n8 : ((rd 4 (rd 4 (r5 x))).2 = 0) ∧ numBytes (tv 4 (rd 4 (rd 4 (r5 x)))) 4 ++ (r8 x).1 = (rd 4 (rd 4 (r5 x))).1 := by
  unfold r8 at g8 ⊢
  have g7 := back_step (n := 4) g8
  exact ⟨g7, num_tv g7 g8⟩
 obtain ⟨g7, n8⟩ := n8
 have g6 := back_step (n := 4) g7
 have n7 := num_tv g6 g7
 have g5 := back_step (n := 4) g6
 have n6 := num_tv g5 g6
 have n5 : (r2 x).2 = 0 ∧ (qvR (r2 x)).bytes ++ (r5 x).1 = (r2 x).1 := by
  unfold r5 at g5 ⊢
  have g1 : (r2 x).2 = 0 := by
   by_cases hh : (r2 x).2 = 0
   ·exact hh
   ·rw [qr_bad hh] at g5; exact g5
  exact ⟨g1, qid_back g1 g5⟩
 obtain ⟨g2, n5⟩ := n5
 have n2 : (rd 2 (x, 0)).2 = 0 ∧ numBytes (tv 4 (rd 2 (x, 0))) 4 ++ (r2 x).1 = (rd 2 (x, 0)).1 := by
  unfold r2 at g2 ⊢
  have g1 := back_step (n := 4) g2
  exact ⟨g1, num_tv g1 g2⟩
 obtain ⟨g1, n2⟩ := n2
 have n1 := num_tv (n := 2) (p := (x, 0)) rfl g1
 obtain ⟨b1, m1, k1⟩ := text_back g9 t1
 obtain ⟨b2, m2, k2⟩ := text_back k1 t2
 obtain ⟨b3, m3, k3⟩ := text_back k2 t3
 obtain ⟨b4, m4, k4⟩ := text_back k3 t4
 have hend : (tr (tr (tr (tr (r9 x))))).1 = [] := by
  generalize tr (tr (tr (tr (r9 x)))) = z at hl k4
  unfold lt leftN at hl
  rw [if_neg (fun hh => hh k4)] at hl
  exact List.length_eq_zero_iff.1 hl
 rw [hend, List.append_nil] at b4
 obtain ⟨f1, f2, f3, f4, f5, f6, f7, f8, f9, f10, f11, f12, f13⟩ := readS_fld x
 generalize readS x = s at *
 refine ⟨err_join (by rw [f10]; exact m1) (by rw [f11]; exact m2) (by rw [f12]; exact m3) (by rw [f13]; exact m4), ?_⟩
 exact stat_join (s := s) (by rw [f1]; exact n1) (by rw [f2]; exact n2) (by rw [f3, f4, f5]; exact n5) (by rw [f6]; exact n6) (by rw [f7]; exact n7) (by rw [f8]; exact n8) (by rw [f9]; exact n9) (by rw [f10]; exact b1) (by rw [f11]; exact b2) (by rw [f12]; exact b3) (by rw [f13]; exact b4)
theorem bytes_rest {s : Stat} (h : s.err = 0) : s.bytes = numBytes s.rest.length 2 ++ s.rest := by
 unfold Stat.bytes
 rw [if_pos h, List.append_assoc, rest_len]
 rfl
theorem decS_back {l : List UInt8} (h : decE l = 0) (hn : decN l = l.length) : (decS l).err = 0 ∧ (decS l).bytes = l := by
 have e : decS l = readS (bodyL l) := by unfold decS; rw [if_pos h]
 have hN : decN l = 2 + (bodyL l).length := by unfold decN; rw [if_pos h]
 have h12 : (rd (tv 2 (l, 0)) (rd 2 (l, 0))).2 = 0 ∧ readE (bodyL l) = true := by
  unfold decE at h
  by_cases h1 : (rd (tv 2 (l, 0)) (rd 2 (l, 0))).2 = 0
  ·rw [if_neg (fun hh => hh h1)] at h
   by_cases h2 : readE (bodyL l) = true
   ·exact ⟨h1, h2⟩
   ·rw [if_neg h2] at h; omega
  ·rw [if_pos h1] at h; omega
 obtain ⟨h1, h2⟩ := h12
 obtain ⟨a1, a2⟩ := stat_back h2
 have g1 : (rd 2 (l, 0)).2 = 0 := back_step (n := tv 2 (l, 0)) h1
 obtain ⟨r1, r2⟩ := raw_tv g1 h1
 have n1 := num_tv (n := 2) (p := (l, 0)) rfl g1
 have hB : bodyL l = rawL (tv 2 (l, 0)) (rd 2 (l, 0)).1 (rd 2 (l, 0)).2 := rfl
 rw [← hB] at r1 r2
 have hlen : l.length = 2 + (rd 2 (l, 0)).1.length := by
  have := congrArg List.length n1
  rw [List.length_append, numBytes_length] at this
  exact this.symm
 have h3 := congrArg List.length r1
 rw [List.length_append] at h3
 have hz : (rd (tv 2 (l, 0)) (rd 2 (l, 0))).1 = [] := List.length_eq_zero_iff.1 (by omega)
 rw [hz, List.append_nil] at r1
 rw [e]
 refine ⟨a1, ?_⟩
 rw [bytes_rest a1, a2, r2, r1]
 exact n1
end Go.Proofs.YtlmojhlacfjmaaaGreat
