/- Reading what was written: the plain reading functions on the bytes of numbers, texts, records. No program in sight but the types. Conditions: each theorem names its own. -/
import Derived.Test.YtoblafeiidjaaaaRBytes2
import Derived.Test.YtoblafeiidjaaaaStatO
import Derived.Test.YtoblafeiidjaaaaStatEq
namespace Go.Proofs.Ytoblafeiidjaaaa
open Go.RowKit
set_option maxRecDepth 100000

theorem leN_num (v : Nat) : ∀ n, leN (numBytes v n) = v % 256 ^ n
  | 0 => by simp [numBytes, leN, Nat.mod_one]
  | n + 1 => by
    simp only [numBytes]
    rw [leN_snoc, leN_num v n, numBytes_length, Nat.pow_succ, Nat.mod_mul]
    have : (numAt v n).toNat = v / 256 ^ n % 256 := by
      unfold numAt
      rw [UInt8.toNat_ofNat', Nat.pow_mul]
    rw [this, Nat.mul_comm]

theorem tv_num {v n : Nat} (r : List UInt8) (h : v < 256 ^ n) : tv n (numBytes v n ++ r, 0) = v := by
  show takeV n _ 0 = v
  unfold takeV
  rw [if_neg (by simp), if_neg (by simp [numBytes_length]), List.take_append_of_le_length (by simp [numBytes_length]), List.take_of_length_le (by simp [numBytes_length]), leN_num, Nat.mod_eq_of_lt h]
theorem rd_num {v n : Nat} (r : List UInt8) : rd n (numBytes v n ++ r, 0) = (r, 0) := by
  unfold rd restL restE
  simp only
  rw [if_neg (by simp), if_neg (by simp [numBytes_length]), if_neg (by simp), if_neg (by simp [numBytes_length]), List.drop_append_of_le_length (by simp [numBytes_length]), List.drop_of_length_le (by simp [numBytes_length]), List.nil_append]
theorem raw_pre (x r : List UInt8) : rawL x.length (x ++ r) 0 = x ∧ rd x.length (x ++ r, 0) = (r, 0) := by
  have h : ¬ (x ++ r).length < x.length := by simp
  unfold rawL rd restL restE
  simp only
  rw [if_neg (by simp), if_neg h, if_neg (by simp), if_neg h, if_neg (by simp), if_neg h]
  simp

theorem text_pre {t : ByteArray} (r : List UInt8) (h : mayN t = 0) : ts (putText t ++ r, 0) = t ∧ te (putText t ++ r, 0) = 0 ∧ tr (putText t ++ r, 0) = (r, 0) := by
  have hs := mayN_zero_size h
  have e : putText t ++ r = numBytes t.size 2 ++ (t.data.toList ++ r) := by unfold putText; rw [List.append_assoc]
  have e1 : takeV 2 (putText t ++ r) 0 = t.size := by rw [e]; exact tv_num _ (by omega)
  have e2 : rd 2 (putText t ++ r, 0) = (t.data.toList ++ r, 0) := by rw [e]; exact rd_num _
  have e3 : restL 2 (putText t ++ r) 0 = t.data.toList ++ r := congrArg Prod.fst e2
  have e4 : restE 2 (putText t ++ r) 0 = 0 := congrArg Prod.snd e2
  have hl : t.data.toList.length = t.size := by simp
  have e5 : rawL t.size (t.data.toList ++ r) 0 = t.data.toList := by have := (raw_pre t.data.toList r).1; rwa [hl] at this
  have e6 : rd t.size (t.data.toList ++ r, 0) = (r, 0) := by have := (raw_pre t.data.toList r).2; rwa [hl] at this
  have e7 : restE t.size (t.data.toList ++ r) 0 = 0 := congrArg Prod.snd e6
  have hE : te (putText t ++ r, 0) = 0 := by
    show tkErr _ 0 = 0
    unfold tkErr
    rw [e1, e3, e4, e5, e7, if_neg (by simp), strL_self]; exact h
  refine ⟨?_, hE, ?_⟩
  · show tkStr _ 0 = t
    unfold tkStr
    rw [if_neg (by show ¬ (te (putText t ++ r, 0) ≠ 0); rw [hE]; simp), e1, e3, e4, e5, strL_self]
  · show (tkL _ 0, tkE _ 0) = _
    unfold tkL tkE
    rw [e1, e3, e4]
    exact e6

theorem qr_pre (q v p : Nat) (r : List UInt8) : qr (qidBytes q v p ++ r, 0) = (r, 0) := by
  unfold qr qidBytes
  rw [List.append_assoc, List.append_assoc, rd_num, rd_num, rd_num]
theorem qv_pre (q v p : Nat) (r : List UInt8) (h1 : q < 256) (h2 : v < 4294967296) (h3 : p < 18446744073709551616) :
    qvT (qidBytes q v p ++ r, 0) = q ∧ qvV (qidBytes q v p ++ r, 0) = v ∧ qvP (qidBytes q v p ++ r, 0) = p := by
  unfold qvT qvV qvP
  rw [qr_pre, if_neg (by simp), if_neg (by simp), if_neg (by simp)]
  unfold qidBytes
  rw [List.append_assoc, List.append_assoc, rd_num, rd_num]
  exact ⟨tv_num _ (by omega), tv_num _ (by omega), tv_num _ (by omega)⟩

theorem texts_ok {s : Stat} (h : s.err = 0) : mayN s.name = 0 ∧ mayN s.uid = 0 ∧ mayN s.gid = 0 ∧ mayN s.muid = 0 := by
  unfold Stat.err Stat.texts textsErr textsErr textsErr textsErr textsErr at h
  by_cases h1 : mayN s.name = 0
  · rw [if_pos h1] at h
    by_cases h2 : mayN s.uid = 0
    · rw [if_pos h2] at h
      by_cases h3 : mayN s.gid = 0
      · rw [if_pos h3] at h
        by_cases h4 : mayN s.muid = 0
        · exact ⟨h1, h2, h3, h4⟩
        · rw [if_neg h4] at h; exact absurd h h4
      · rw [if_neg h3] at h; exact absurd h h3
    · rw [if_neg h2] at h; exact absurd h h2
  · rw [if_neg h1] at h; exact absurd h h1

/-- What follows the length of a record. -/
def Stat.rest (s : Stat) : List UInt8 := s.head ++ textsBytes s.texts
theorem rest_eq (s : Stat) : s.rest = numBytes s.kind 2 ++ (numBytes s.dev 4 ++ (qidBytes s.qt s.qv s.qp ++ (numBytes s.mode 4 ++ (numBytes s.atm 4 ++ (numBytes s.mtm 4 ++ (numBytes s.len 8 ++ (putText s.name ++ (putText s.uid ++ (putText s.gid ++ (putText s.muid ++ [])))))))))) := by
  unfold Stat.rest Stat.head Stat.texts textsBytes textsBytes textsBytes textsBytes textsBytes
  simp [List.append_assoc]
theorem rest_len (s : Stat) : s.rest.length = s.size - 2 := by
  rw [rest_eq]; simp [numBytes_length, qidBytes_length, putText_length]; unfold Stat.size; omega

theorem read_rest {s : Stat} (hok : StatOk s) (he : s.err = 0) : readS s.rest = s ∧ readE s.rest = true := by
  obtain ⟨o1, o2, o3, o4, o5, o6, o7, o8, o9, _, _, _, _⟩ := hok
  obtain ⟨t1, t2, t3, t4⟩ := texts_ok he
  have E := rest_eq s
  generalize hA : putText s.name ++ (putText s.uid ++ (putText s.gid ++ (putText s.muid ++ []))) = A at E
  have e2 : r2 s.rest = (qidBytes s.qt s.qv s.qp ++ (numBytes s.mode 4 ++ (numBytes s.atm 4 ++ (numBytes s.mtm 4 ++ (numBytes s.len 8 ++ A)))), 0) := by
    unfold r2; rw [E, rd_num, rd_num]
  have e5 : r5 s.rest = (numBytes s.mode 4 ++ (numBytes s.atm 4 ++ (numBytes s.mtm 4 ++ (numBytes s.len 8 ++ A))), 0) := by unfold r5; rw [e2, qr_pre]
  have e8 : r8 s.rest = (numBytes s.len 8 ++ A, 0) := by unfold r8; rw [e5, rd_num, rd_num, rd_num]
  have e9 : r9 s.rest = (A, 0) := by unfold r9; rw [e8, rd_num]
  obtain ⟨q1, q2, q3⟩ := qv_pre s.qt s.qv s.qp (numBytes s.mode 4 ++ (numBytes s.atm 4 ++ (numBytes s.mtm 4 ++ (numBytes s.len 8 ++ A)))) o3 o4 o5
  obtain ⟨a1, a2, a3⟩ := text_pre (putText s.uid ++ (putText s.gid ++ (putText s.muid ++ []))) t1
  obtain ⟨b1, b2, b3⟩ := text_pre (putText s.gid ++ (putText s.muid ++ [])) t2
  obtain ⟨c1, c2, c3⟩ := text_pre (putText s.muid ++ []) t3
  obtain ⟨d1, d2, d3⟩ := text_pre [] t4
  have k1 : tv 2 (s.rest, 0) = s.kind := by rw [E]; exact tv_num _ (by omega)
  have k2 : tv 4 (rd 2 (s.rest, 0)) = s.dev := by rw [E, rd_num]; exact tv_num _ (by omega)
  constructor
  · unfold readS
    rw [k1, k2, e2, q1, q2, q3, e5, e8, e9, rd_num, rd_num, tv_num _ (by omega : s.mode < 256 ^ 4), tv_num _ (by omega : s.atm < 256 ^ 4), tv_num _ (by omega : s.mtm < 256 ^ 4), tv_num _ (by omega : s.len < 256 ^ 8),
      ← hA, a1, a3, b1, b3, c1, c3, d1]
  · unfold readE
    rw [e9, ← hA, a2, a3, b2, b3, c2, c3, d2, d3]
    rfl

theorem bytes_ok {s : Stat} (he : s.err = 0) : s.bytes = numBytes (s.size - 2) 2 ++ s.rest := by
  unfold Stat.bytes Stat.rest; rw [if_pos he, List.append_assoc]

theorem dec_back {s : Stat} (hok : StatOk s) (hf : Few s) (he : s.err = 0) (m : List UInt8) : decE (s.bytes ++ m) = 0 ∧ decS (s.bytes ++ m) = s ∧ decN (s.bytes ++ m) = s.bytes.length := by
  have hsz : 49 ≤ s.size ∧ s.size ≤ 849 := by obtain ⟨h1, h2, h3, h4⟩ := hf; unfold Stat.size; omega
  have E : s.bytes ++ m = numBytes (s.size - 2) 2 ++ (s.rest ++ m) := by rw [bytes_ok he, List.append_assoc]
  have h1 : tv 2 (s.bytes ++ m, 0) = s.size - 2 := by rw [E]; exact tv_num _ (by omega)
  have h2 : rd 2 (s.bytes ++ m, 0) = (s.rest ++ m, 0) := by rw [E, rd_num]
  obtain ⟨p1, p2⟩ := raw_pre s.rest m
  rw [rest_len] at p1 p2
  have h3 : bodyL (s.bytes ++ m) = s.rest := by unfold bodyL; rw [h1, h2]; exact p1
  obtain ⟨r1, r2⟩ := read_rest hok he
  have h4 : decE (s.bytes ++ m) = 0 := by unfold decE; rw [h1, h2, p2, if_neg (by simp), h3, r2]; rfl
  refine ⟨h4, ?_, ?_⟩
  · unfold decS; rw [if_pos h4, h3, r1]
  · unfold decN; rw [if_pos h4, h3, bytes_ok he, List.length_append, numBytes_length]

theorem dec_cut {s : Stat} (hf : Few s) (he : s.err = 0) (k : Nat) (hk : k < s.bytes.length) : decE (s.bytes.take k) = 4 := by
  have hsz : 49 ≤ s.size ∧ s.size ≤ 849 := by obtain ⟨h1, h2, h3, h4⟩ := hf; unfold Stat.size; omega
  have E := bytes_ok he
  have hl : s.bytes.length = s.size := by rw [E, List.length_append, numBytes_length, rest_len]; omega
  have hl2 : (s.bytes.take k).length = k := by simp; omega
  unfold decE
  rw [if_pos]
  by_cases h2 : k < 2
  · have : (rd 2 (s.bytes.take k, 0)).2 = 4 := by show restE 2 _ 0 = 4; unfold restE; rw [if_neg (by simp), if_pos (show (s.bytes.take k).length < 2 by omega)]
    show restE _ _ _ ≠ 0
    unfold restE
    rw [if_pos (by rw [this]; simp), this]; simp
  · have e1 : s.bytes.take k = numBytes (s.size - 2) 2 ++ s.rest.take (k - 2) := by
      rw [E, List.take_append, numBytes_length, List.take_of_length_le (by rw [numBytes_length]; omega)]
    have h1 : tv 2 (s.bytes.take k, 0) = s.size - 2 := by rw [e1]; exact tv_num _ (by omega)
    have h3 : rd 2 (s.bytes.take k, 0) = (s.rest.take (k - 2), 0) := by rw [e1, rd_num]
    rw [h1, h3]
    show restE _ _ 0 ≠ 0
    unfold restE
    rw [if_neg (by simp), if_pos (by rw [List.length_take, rest_len]; omega)]; simp
end Go.Proofs.Ytoblafeiidjaaaa
