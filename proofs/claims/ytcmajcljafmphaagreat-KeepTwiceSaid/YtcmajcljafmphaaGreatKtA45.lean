/- keep.head: what the first sector says. Conditions: in the statements. And the texts behind it. -/
import Derived.Test.YtcmajcljafmphaaGreatKtA43
import Derived.Test.YtcmajcljafmphaaGreatKtA30
import Derived.Test.YtcmajcljafmphaaGreatKtA44
import Derived.Test.YtcmajcljafmphaaGreatKtA39
import Derived.Test.YtcmajcljafmphaaGreatKtA34
import Derived.Test.YtcmajcljafmphaaGreatKtA07
namespace Go.Proofs.YtcmajcljafmphaaGreat
section
open Go.RowKit Go.Maps
set_option maxRecDepth 100000
set_option linter.unusedVariables false

def hWord (l : List UInt8) : Nat := leN (l.take 8)
def hWhich (l : List UInt8) : Nat := leN ((l.drop 8).take 8)
def hLong (l : List UInt8) : Nat := leN (((l.drop 8).drop 8).take 8)
def hOk (l : List UInt8) : Bool := (decide (hWord l = 280368729932) && decide (hWhich l ≤ 1)) && decide (hLong l ≤ 65280)
theorem take_ok (l : List UInt8) (n : Nat) (h : n ≤ l.length) : takeV n l 0 = leN (l.take n) ∧ restL n l 0 = l.drop n ∧ restE n l 0 = 0 := by
  unfold takeV restL restE
  simp only [ne_eq, not_true_eq_false, if_false]
  rw [if_neg (by omega), if_neg (by omega), if_neg (by omega)]
  exact ⟨rfl, rfl, rfl⟩
set_option maxHeartbeats 3200000 in
theorem khead_any {base d : Nat} {zs : List Nat} {s : DskV} {w : World} (h : Dk base zs d s w) (hok : DOk s) (hp : s.pend = []) (hoff : s.off = false) (l : List UInt8) (hl : s.kept[0]? = some l) :
    Calls Tryz.prog 29 #[.pointer (some ⟨d, 0, none⟩)] w fun e w' => ∃ N : Nat, e = .returned (.tuple #[.bool (decide (hWhich l = 1)), .int .i64 (N : Int), .bool (hOk l)]) ∧ (hLong l ≤ 65280 → N = hLong l) ∧ Below w.heap.size w w' := by
  have h0 : 0 < s.kept.length := by have := hok.least; omega
  have hl0 : s.kept[0] = l := by rw [List.getElem?_eq_getElem h0] at hl; exact Option.some.inj hl
  have hlen : l.length = 256 := by rw [← hl0]; exact hok.len _ (List.getElem_mem h0)
  have hrd := hid (kread_any h hok hp hoff 0 h0)
  rw [hl0] at hrd
  have b1 := leN_lt (l.take 8)
  have b2 := leN_lt ((l.drop 8).take 8)
  have b3 := leN_lt (((l.drop 8).drop 8).take 8)
  have t1 := take_ok l 8 (by omega)
  have t2 := take_ok (l.drop 8) 8 (by simp; omega)
  have t3 := take_ok ((l.drop 8).drop 8) 8 (by simp; omega)
  have e1 : (256 : Nat) ^ (l.take 8).length = 18446744073709551616 := by rw [List.length_take]; rw [hlen]; rfl
  have e2 : (256 : Nat) ^ ((l.drop 8).take 8).length = 18446744073709551616 := by rw [List.length_take, List.length_drop]; rw [hlen]; rfl
  have e3 : (256 : Nat) ^ (((l.drop 8).drop 8).take 8).length = 18446744073709551616 := by rw [List.length_take, List.length_drop, List.length_drop]; rw [hlen]; rfl
  rw [e1] at b1; rw [e2] at b2; rw [e3] at b3
  obtain ⟨A, hA⟩ : ∃ A, A = hWord l := ⟨_, rfl⟩
  obtain ⟨B, hB⟩ : ∃ B, B = hWhich l := ⟨_, rfl⟩
  obtain ⟨C, hC⟩ : ∃ C, C = hLong l := ⟨_, rfl⟩
  have hE : hOk l = ((decide (A = 280368729932) && decide (B ≤ 1)) && decide (C ≤ 65280)) := by unfold hOk; rw [hA, hB, hC]
  rw [hE, ← hB, ← hC]
  unfold hWord at hA; unfold hWhich at hB; unfold hLong at hC
  rw [← hA] at b1 t1
  rw [← hB] at b2 t2
  rw [← hC] at b3 t3
  have hT := hid (fun (b : Nat) (l : List UInt8) (v : Nat) (w : World) (hl : l.length ≤ 1000000008) (ht : takeV 8 l 0 = v ∧ restL 8 l 0 = l.drop 8 ∧ restE 8 l 0 = 0) (hI : InIs w b l 0) => show Calls Tryz.prog 52 #[.pointer (some ⟨b, 0, none⟩), .int .i64 8] w fun en w' => en = .returned (.int .u64 (v : Int)) ∧ InIs w' b (l.drop 8) 0 ∧ OStep b w w' from by
    have h9 := in_take_step b 8 l 0 w (by decide) (by decide) hl hI
    rw [ht.1, ht.2.1, ht.2.2] at h9
    exact h9)
  replace t1 := hid t1
  replace t2 := hid t2
  replace t3 := hid t3
  replace hA := hid hA
  replace hB := hid hB
  replace hC := hid hC
  replace hE := hid hE
  replace hlen := hid hlen
  clear h hl hl0 e1 e2 e3
  go_enter Tryz.func29, Tryz.ntmps29
  go_wp2_with (first
    | (go_at_call 32; refine (show Calls Tryz.prog 32 #[.pointer (some ⟨d, 0, none⟩), .int .i64 0] w _ from hrd.out).mono ?_; rintro e w1 ⟨v1, rfl, hv1, _, hb1⟩; have hof := hid (nin_of_new v1 l w1 hv1 (by have := hlen.out; omega)); replace hb1 := hid hb1; clear hv1)
    | (go_at_call 51; refine hof.out.mono ?_; rintro e w2 ⟨b, rfl, hbb, hI, hb2, _⟩; have hk1 := hid (hT.out b l A w2 (by have := hlen.out; omega) t1.out hI); have hB2 := hid (sn hb1.out hb2); clear hI hb2))
  refine hk1.out.mono ?_
  rintro e w3 ⟨rfl, hI3, hs3⟩
  have hk2 := hid (hT.out b (l.drop 8) B w3 (by have := hlen.out; simp; omega) t2.out hI3)
  have hB3 := hid (hB2.out.trans (hs3.below.mono (by have := hb1.out.size; omega)))
  clear hI3 hs3 hk1 hB2
  go_wp2_with fail
  refine hk2.out.mono ?_
  rintro e w4 ⟨rfl, hI4, hs4⟩
  have hk3 := hid (hT.out b ((l.drop 8).drop 8) C w4 (by have := hlen.out; simp; omega) t3.out hI4)
  have hB4 := hid (hB3.out.trans (hs4.below.mono (by have := hb1.out.size; omega)))
  clear hI4 hs4 hk2 hB3
  go_wp2_with fail
  refine hk3.out.mono ?_
  rintro e w5 ⟨rfl, hI5, hs5⟩
  have hB5 := hid (hB4.out.trans (hs5.below.mono (by have := hb1.out.size; omega)))
  clear hI5 hs5 hk3 hB4
  obtain ⟨N, hN⟩ : ∃ N, N = C % 16777216 := ⟨_, rfl⟩
  have kN : bits .and .u64 (C : Int) 16777215 = (N : Int) := by
    rw [show (16777215 : Int) = ((16777215 : Nat) : Int) from rfl, u64_and_nat C 16777215 b3 (by omega), hN]
    have := Nat.and_two_pow_sub_one_eq_mod C 24
    norm_cast
  have hNC : C ≤ 65280 → N = C := fun h => by omega
  have hN9 : N < 16777216 := by omega
  replace hN := hid hN
  replace hNC := hid hNC
  have kB : ((B : Int) == 1) = decide (B = 1) := dec_int _ _
  by_cases hA1 : A = 280368729932
  · by_cases hB1 : B ≤ 1
    · go_wp2_with fail
      refine bodyPost_ret (results_tmp3 rfl _ _ _) rfl ?_
      exact ⟨N, by simp [hA1, hB1]; try omega, hNC.out, hB5.out⟩
    · go_wp2_with fail
      refine bodyPost_ret (results_tmp3 rfl _ _ _) rfl ?_
      exact ⟨N, by simp, hNC.out, hB5.out⟩
  · have kA : ((A : Int) == 280368729932) = false := by simp; omega
    go_wp2_with fail
    refine bodyPost_ret (results_tmp3 rfl _ _ _) rfl ?_
    exact ⟨N, by simp [hA1], hNC.out, hB5.out⟩
end
end Go.Proofs.YtcmajcljafmphaaGreat

namespace Go.Proofs.YtcmajcljafmphaaGreat
section
open Go.RowKit Go.Maps
set_option maxRecDepth 100000
set_option linter.unusedVariables false

def fromO (b : Bool) : Nat := if b then 256 else 1
def catB (s : DskV) (a : Nat) : Nat → List UInt8
  | 0 => []
  | j + 1 => catB s a j ++ s.kept.getD (a + j) []
theorem catB_len {s : DskV} (h : DOk s) (a : Nat) : ∀ j, a + j ≤ s.kept.length → (catB s a j).length = 256 * j
  | 0, _ => rfl
  | j + 1, hj => by
    have e : s.kept.getD (a + j) [] = s.kept[a + j]'(by omega) := by rw [List.getD_eq_getElem?_getD, List.getElem?_eq_getElem (by omega)]; rfl
    unfold catB
    rw [List.length_append, catB_len h a j (by omega), e, h.len _ (List.getElem_mem _)]; omega
def KOpenP (d : Nat) (s : DskV) (l0 : List UInt8) (w : World) (e : Ending) (w' : World) : Prop :=
  Below w.heap.size w w' ∧ ((∃ kb v t, e = .returned (.tuple #[.pointer (some ⟨kb, 0, none⟩), .int .i64 0]) ∧ hOk l0 = true ∧ w.heap.size ≤ kb ∧ w'.heap[kb]? = some (.cells #[.pointer (some ⟨d, 0, none⟩), .int .u64 (t.next : Int), v, .bool (decide (hWhich l0 = 1)), .bool false] 64 (0, 0)) ∧ NodsAt w' v t.n ∧ TreeOf ((catB s (fromO (decide (hWhich l0 = 1))) ((hLong l0 + 255) / 256)).take (hLong l0)) t) ∨
    (e = .returned (.tuple #[.pointer none, .int .i64 2]) ∧ (hOk l0 = false ∨ ∀ t, ¬ TreeOf ((catB s (fromO (decide (hWhich l0 = 1))) ((hLong l0 + 255) / 256)).take (hLong l0)) t)))
set_option maxHeartbeats 6400000 in
theorem kopen_any {base d : Nat} {zs : List Nat} {s : DskV} {w : World} (h : Dk base zs d s w) (hok : DOk s) (hp : s.pend = []) (hoff : s.off = false) (l0 : List UInt8) (hl0 : s.kept[0]? = some l0) (hmax : hOk l0 = true → hLong l0 ≤ 47000) :
    Calls Tryz.prog 11 #[.pointer (some ⟨d, 0, none⟩)] w (KOpenP d s l0 w) := by
  have hk := hid (kright2_any h)
  rw [show krightB s = true by unfold krightB; have := hok.least; have := hok.size; simp [*]] at hk
  have hof := hid (koff_any (h.pure (Below.refl _ _).drew))
  rw [hoff] at hof
  have hhd := hid (khead_any (h.pure (Below.refl _ _).drew) hok hp hoff l0 hl0)
  have hD := hid h
  replace hok := hid hok
  replace hl0 := hid hl0
  replace hmax := hid hmax
  clear h
  go_enter Tryz.func11, Tryz.ntmps11
  go_wp2_with (first
    | (go_at_call 28; refine hk.out.mono ?_; rintro e w1 ⟨rfl, hw1⟩; rw [hw1]; clear hw1)
    | (go_at_call 20; refine hof.out.mono ?_; rintro e w1 ⟨rfl, hw1⟩; rw [hw1]; clear hw1))
  refine hhd.out.mono ?_
  rintro e w2 ⟨N, rfl, hN, hb2⟩
  replace hb2 := hid ((Below.refl w.heap.size w).drew.trans hb2)
  clear hhd
  by_cases ho : hOk l0 = true
  · have hN2 := hN (Nat.le_trans (hmax.out ho) (by decide))
    have hN9 : N ≤ 47000 := by rw [hN2]; exact hmax.out ho
    obtain ⟨sc, hsc⟩ : ∃ sc, sc = decide (hWhich l0 = 1) := ⟨_, rfl⟩
    rw [ho, ← hsc]
    obtain ⟨a0, ha0⟩ : ∃ a0, a0 = fromO sc := ⟨_, rfl⟩
    have ha9 : 1 ≤ a0 ∧ a0 ≤ 256 := by rw [ha0]; unfold fromO; split <;> omega
    have hfr := hid (show ∀ w, Calls Tryz.prog 31 #[.bool sc] w fun e w' => e = .returned (.int .i64 (a0 : Int)) ∧ w' = w from fun w => by
      have := kfrom_any sc w
      rw [ha0]
      cases sc <;> exact this)
    replace hN2 := hid hN2
    replace hsc := hid hsc
    replace ha0 := hid ha0
    replace ho := hid ho
    have hkl := hok.out.least
    have hkm := hok.out.most
    replace hN := hid hN
    go_wp2_with (go_at_call 31; refine (hfr.out _).mono ?_; rintro e w3 ⟨rfl, hw3⟩; rw [hw3]; clear hw3)
    go_loopw [7, 8] (fun v at8 wr => ∃ (j q m : Nat) (a : Option Addr) (c : Nat), m = 256 * j ∧ q = a0 + j ∧ m < N + 256 ∧ at8 = .int .i64 (q : Int) ∧ v = .slice a m c ∧ Hid (wr.ownsRow w.heap.size 5 1 (.slice a m c) m ((catB s a0 j).map byteV)) ∧ Hid (Below w.heap.size w wr)) (fun _ at8 _ => 1000 - (intOf at8).toNat)
    case atStart => exact ⟨0, a0, 0, none, 0, rfl, rfl, by omega, rfl, rfl, hid (World.ownsRow_nil _ _ _ _), hb2⟩
    case round =>
      obtain ⟨j, q, m, a, c, hm, hq, hmN, rfl, rfl, hO, hB⟩ := hrel
      by_cases hlt : m < N
      · have hqk : q < s.kept.length := by omega
        have hrd := hid (kread_any (hD.out.pure hB.out) hok.out hp hoff q hqk)
        have hlen := hok.out.len _ (List.getElem_mem hqk)
        have hcat := hid (show catB s a0 (j + 1) = catB s a0 j ++ s.kept[q] from by
          have e : s.kept.getD (a0 + j) [] = s.kept[q] := by rw [← hq, List.getD_eq_getElem?_getD, List.getElem?_eq_getElem hqk]; rfl
          show catB s a0 j ++ s.kept.getD (a0 + j) [] = _
          rw [e])
        generalize s.kept[q] = sq at *
        obtain ⟨a9, hca⟩ : ∃ a9, a9 = catB s a0 j := ⟨_, rfl⟩
        rw [← hca] at hO hcat
        replace hca := hid hca
        replace hm := hid hm
        replace hq := hid hq
        replace hlen := hid hlen
        go_wp2_with (first
          | (go_at_call 32; refine hrd.out.mono ?_; rintro e w4 ⟨v4, rfl, hv4, _, hb4⟩; have hO4 := hid (own_keep hO.out (fun k hk => hb4.block k (hO.out.lt k hk).2)); have hB4 := hid (hB.out.trans (hb4.mono hB.out.size)); replace hv4 := hid hv4; clear hb4)
          | (at_builtin; refine wpList_append_row elemU8 _ rfl (.tmp 45) (.tmp 46) rfl w.heap.size _ m (a9.map byteV) rfl hO4.out v4 sq.length (sq.map byteV) rfl hv4.out (bytes_oneCell sq) (by have := hlen.out; unfold maxLen; omega) (by have := hlen.out; omega) hB4.out.size (fun a' c' w5 h5 h6 => ?_)))
        refine ⟨⟨j + 1, q + 1, m + sq.length, a', c', by rw [hm.out, hlen.out]; omega, by rw [hq.out]; omega, by rw [hlen.out]; omega, by push_cast; rfl, rfl, hid (by rw [hcat.out, List.map_append]; exact h5), hid (hB4.out.grown h6 hB4.out.size (fun k hk => (hO4.out.lt k hk).1))⟩, ?_⟩
        have := hm.out
        have := hq.out
        simp [intOf]
        omega
      · obtain ⟨bs, hbs⟩ : ∃ bs, bs = catB s a0 j := ⟨_, rfl⟩
        rw [← hbs] at hO
        have hbl : bs.length = m := by rw [hbs, catB_len hok.out _ _ (by omega)]; exact hm.symm
        have hby := hid (BytesAt.of_own hO.out rfl)
        have hNc : N ≤ c := by
          obtain ⟨a2, c2, e2, h1, h2, h3⟩ := hby.out.form
          cases e2
          omega
        have hbj : bs = catB s a0 ((N + 255) / 256) := by rw [hbs]; congr 1; omega
        have hbt := hid (hby.out.take N c (by omega) hNc (Nat.le_refl _))
        have hde := hid (ndecode_any _ _ wr hbt.out (by simp; omega))
        replace hbs := hid hbs
        replace hbl := hid hbl
        replace hm := hid hm
        replace hq := hid hq
        replace hbj := hid hbj
        go_wp2_with fail
        refine hde.out.mono ?_
        rintro e w4 ⟨t, v4, E, rfl, hn4, hb4, hor⟩
        obtain ⟨a4, c4, rfl, _, _⟩ := hn4.form
        replace hb4 := hid (hB.out.trans (hb4.mono hB.out.size))
        replace hn4 := hid hn4
        have hfin : ∀ X, TreeOf (bs.take N) X ↔ TreeOf ((catB s (fromO (decide (hWhich l0 = 1))) ((hLong l0 + 255) / 256)).take (hLong l0)) X := fun X => by rw [← hsc.out, ← ha0.out, ← hN2.out, ← hbj.out]
        replace hfin := hid hfin
        by_cases hE : E = 0
        · subst hE
          have hT : TreeOf (bs.take N) t := by
            rcases hor with h | h
            · exact h.1
            · exact absurd rfl h.2
          clear hor
          replace hT := hid hT
          go_wp2_with fail
          refine bodyPost_ret (results_tmp2 rfl _ _ _) rfl ?_
          have hA : ∀ (W : World) (o : Obj), Below W.heap.size W (W.alloc o) := fun W o => (Below.refl _ _).alloc (Nat.le_refl _) _
          have hb5 := sn (hA w4 (.cells #[.int .u64 (t.next : Int), .slice a4 t.n.length c4] 33)) (hA _ (.cells #[.pointer (some ⟨d, 0, none⟩), .int .u64 (t.next : Int), .slice a4 t.n.length c4, .bool sc, .bool false] 64))
          refine ⟨hb4.out.trans (hb5.mono hb4.out.size), .inl ⟨w4.heap.size + 1, _, t, rfl, ho.out, by have := hb4.out.size; omega, ?_, hn4.out.below hb5, (hfin.out t).1 hT.out⟩⟩
          rw [← hsc.out]
          exact heap2 _ _ _
        · have hT : ∀ t, ¬ TreeOf (bs.take N) t := by
            rcases hor with h | h
            · exact absurd h.2 hE
            · exact h.1
          have hE2 : (E == 0) = false := by simpa using hE
          clear hor
          replace hT := hid hT
          go_wp2_with fail
          refine bodyPost_ret (results_tmp2 rfl _ _ _) rfl ?_
          exact ⟨hb4.out.trans (((Below.refl _ _).alloc (Nat.le_refl _) _).mono hb4.out.size), .inr ⟨rfl, .inr fun X hX => hT.out X ((hfin.out X).2 hX)⟩⟩
  · have ho2 : hOk l0 = false := by simpa using ho
    rw [ho2]
    replace ho2 := hid ho2
    go_wp2_with fail
    refine bodyPost_ret (results_tmp2 rfl _ _ _) rfl ?_
    exact ⟨hb2.out, .inr ⟨rfl, .inl ho2.out⟩⟩
end
end Go.Proofs.YtcmajcljafmphaaGreat

namespace Go.Proofs.YtcmajcljafmphaaGreat
section
open Go.RowKit Go.Maps
set_option maxRecDepth 100000
set_option linter.unusedVariables false

def KeepAt (w : World) (d kb : Nat) (t : Tr) (sec down : Bool) : Prop := ∃ v, w.heap[kb]? = some (.cells #[.pointer (some ⟨d, 0, none⟩), .int .u64 (t.next : Int), v, .bool sec, .bool down] 64 (0, 0)) ∧ NodsAt w v t.n
structure LayOk (t : Tr) : Prop where
  ne : t.n ≠ []
  d0 : dropL t.n 0 = t.n
  len : t.n.length ≤ 900
  next : t.next < 18446744073709551616
  ok : ∀ n ∈ t.n, NodOk n
  enc : ∀ n ∈ t.n, (encN n).length ≤ 100000
  data : ∀ n ∈ t.n, n.data.size ≤ 1000000
  all : (encT t.next t.n).length ≤ 65280
def KFormatP (base d : Nat) (zs : List Nat) (t : Tr) (sec : Bool) (s : DskV) (w : World) (e : Ending) (w' : World) : Prop :=
  (∃ kb s' z, e = .returned (.tuple #[.pointer (some ⟨kb, 0, none⟩), .int .i64 0]) ∧ LaidP s s' (fromN !sec) (encT t.next t.n) (((encT t.next t.n).length + 255) / 256) (if sec then 0 else 1) ∧ w.heap.size ≤ kb ∧ Dk base (z :: kb :: zs) d s' w' ∧ KeepAt w' d kb t (!sec) false ∧ Fr base zs w w') ∨
  (∃ kb s', e = .returned (.tuple #[.pointer none, .int .i64 22]) ∧ CutP s s' ∧ Dk base (kb :: zs) d s' w' ∧ Fr base zs w w')
set_option maxHeartbeats 6400000 in
theorem kformat_any {s : DskV} {base d : Nat} {zs : List Nat} {w : World} (h : Dk base zs d s w) (hbase : base ≤ w.heap.size) (hok : DOk s) (hw9 : s.writes ≤ 90000000) (hoff : s.off = false) (hp : s.pend = []) (l0 : List UInt8) (hl0 : s.kept[0]? = some l0) (v : Value) (t : Tr) (hv : NodsAt w v t.n) (hva : ∀ j, v.ownBlock = some j → j ∈ zs ∨ j < base) (ht : LayOk t) (hc : OkC t) :
    Calls Tryz.prog 9 #[.pointer (some ⟨d, 0, none⟩), .agg #[.int .u64 (t.next : Int), v]] w (KFormatP base d zs t (decide (hWhich l0 = 1)) s w) := by
  obtain ⟨va, vc, rfl, _, _⟩ := hv.form
  obtain ⟨W, hW⟩ : ∃ W, W = w.alloc (.cells #[.int .u64 (t.next : Int), .slice va t.n.length vc] 33) := ⟨_, rfl⟩
  have hb0 : Below w.heap.size w W := by rw [hW]; exact (Below.refl _ _).alloc (Nat.le_refl _) _
  have hY0 : W.heap[w.heap.size]? = some (.cells #[.int .u64 (t.next : Int), .slice va t.n.length vc] 33 (0, 0)) := by rw [hW]; exact heap_alloc_new _ _
  have hlt := lt_of_block hY0
  have hk := hid (kright2_any (h.pure hb0))
  rw [show krightB s = true by unfold krightB; have := hok.least; have := hok.size; simp [*]] at hk
  have hck := hid (ncheck_any (.slice va t.n.length vc) t.next t.n W.drew (hv.below hb0.drew) ht.len ht.ok ht.data)
  have c0 := block_cell hY0 0
  have c1 := block_cell hY0 1
  have hD := hid h
  clear h
  obtain ⟨sec, hsec⟩ : ∃ b, b = decide (hWhich l0 = 1) := ⟨_, rfl⟩
  rw [← hsec]
  replace hY0 := hid hY0
  replace hb0 := hid hb0
  replace hc := hid hc
  replace ht := hid ht
  replace hv := hid hv
  replace hok := hid hok
  replace hsec := hid hsec
  replace hva := hid hva
  go_enter Tryz.func9, Tryz.ntmps9
  go_wp2_with (first
    | (rw [← hW]; replace hW := hid hW)
    | (go_at_call 28; refine hk.out.mono ?_; rintro e w1 ⟨rfl, hw1⟩; rw [hw1]; clear hw1; have d0 : W.drew.cell? ⟨w.heap.size, 0, none⟩ = some (.int .u64 (t.next : Int)) := c0; have d1 : W.drew.cell? ⟨w.heap.size, 1, none⟩ = some (.slice va t.n.length vc) := c1)
    | (go_at_call 16; refine hck.out.mono ?_; rintro e w2 ⟨E, rfl, hE, hb2⟩; obtain rfl : E = 0 := hE.2 hc.out; clear hE; have hbA := hb0.out.drew.trans (hb2.mono (by have := hb0.out.size; exact this)); have hof := hid (koff_any (hD.out.pure hbA)); rw [hoff] at hof; have hY2 := (hb2.block _ hlt).trans hY0.out; have g0 := block_cell hY2 0; have g1 := block_cell hY2 1; replace hbA := hid hbA; replace hY2 := hid hY2; clear hb2)
    | (go_at_call 20; refine hof.out.mono ?_; rintro e w3 ⟨rfl, hw3⟩; rw [hw3]; clear hw3))
  obtain ⟨V, hV⟩ : ∃ V, V = w2.alloc (.cells #[.pointer (some ⟨d, 0, none⟩), .int .u64 0, .slice none 0 0, .bool false, .bool false] 64) := ⟨_, rfl⟩
  have hbV : Below w2.heap.size w2 V := by rw [hV]; exact (Below.refl _ _).alloc (Nat.le_refl _) _
  have hKV : V.heap[w2.heap.size]? = some (.cells #[.pointer (some ⟨d, 0, none⟩), .int .u64 0, .slice none 0 0, .bool false, .bool false] 64 (0, 0)) := by rw [hV]; exact heap_alloc_new _ _
  rw [← hV]
  replace hV := hid hV
  have hbB := hid (hbA.out.trans (hbV.mono hbA.out.size))
  have hhd := hid (khead_any (hD.out.pure hbB.out) hok.out hp hoff l0 hl0)
  rw [← hsec.out] at hhd
  have hYV := hid ((hbV.block _ (lt_of_block hY2.out)).trans hY2.out)
  refine hhd.out.mono ?_
  rintro e w4 ⟨N, rfl, -, hb4⟩
  have hK4 := (hb4.block _ (lt_of_block hKV)).trans hKV
  have hY4 := (hb4.block _ (lt_of_block hYV.out)).trans hYV.out
  have hb5 := hid (hbB.out.trans (hb4.mono hbB.out.size))
  have hne : w.heap.size ≠ w2.heap.size := by have := lt_of_block hY2.out; omega
  obtain ⟨U, hU⟩ : ∃ U, U = w4.setCell ⟨w2.heap.size, 3, none⟩ (.bool sec) := ⟨_, rfl⟩
  have hKU : U.heap[w2.heap.size]? = some (.cells #[.pointer (some ⟨d, 0, none⟩), .int .u64 ((0 : Nat) : Int), .slice none 0 0, .bool sec, .bool false] 64 (0, 0)) := by rw [hU]; exact block_set hK4 3 (.bool sec)
  have hYU : U.heap[w.heap.size]? = _ := (by rw [hU]; exact block_set_other hne : U.heap[w.heap.size]? = w4.heap[w.heap.size]?).trans hY4
  have hbU : Below w.heap.size w U := by rw [hU]; exact hb5.out.setCell (p := ⟨w2.heap.size, 3, none⟩) (by show w.heap.size ≤ w2.heap.size; exact hbA.out.size) _
  have hDU := hid (hD.out.new hbU hbA.out.size (lt_of_block hKU))
  have hkn : w2.heap.size ∉ zs := fun hz => by have := hD.out.zlt _ hz; have := hbA.out.size; omega
  have hbase2 : base ≤ w2.heap.size := Nat.le_trans hbase hbA.out.size
  have hly := hid (klay_any base d w2.heap.size zs 0 t.next (.slice none 0 0) (.slice va t.n.length vc) sec false s t.n U hDU.out (Nat.le_trans hbase hbU.size) hok.out hw9 hoff hp hKU hkn hbase2 (hv.out.below hbU) hva.out ht.out.ne ht.out.d0 ht.out.len ht.out.next ht.out.ok ht.out.enc ht.out.all)
  have k0 := block_cell hK4 3
  have k1 := block_free hK4 3
  have y0 := block_cell hYU 0
  have y1 := block_cell hYU 1
  replace hbU := hid hbU
  replace hKU := hid hKU
  replace hYU := hid hYU
  replace hKV := hid hKV
  replace hK4 := hid hK4
  replace hY4 := hid hY4
  replace hbV := hid hbV
  clear hb4 c0 c1 g0 g1 d0 d1 hhd hck hk hof
  go_wp2_with (first
    | (rw [← hU]; replace hU := hid hU))
  refine hly.out.mono ?_
  rintro e w5 (⟨rfl, s', z, o, cp, hL, hD5, hK5, hN5, hF5⟩ | ⟨rfl, s', hC, hD5, hK5, hF5⟩)
  · replace hL := hid hL
    replace hD5 := hid hD5
    replace hF5 := hid hF5
    replace hK5 := hid hK5
    replace hN5 := hid hN5
    go_wp2_with fail
    refine bodyPost_ret (results_tmp2 rfl _ _ _) rfl ?_
    exact .inl ⟨w2.heap.size, s', z, rfl, hL.out, hbA.out.size, hD5.out, ⟨_, hK5.out, hN5.out⟩, (hD.out.fr hbU.out).trans hF5.out⟩
  · replace hC := hid hC
    replace hD5 := hid hD5
    replace hF5 := hid hF5
    go_wp2_with fail
    refine bodyPost_ret (results_tmp2 rfl _ _ _) rfl ?_
    exact .inr ⟨w2.heap.size, s', rfl, hC.out, hD5.out, (hD.out.fr hbU.out).trans hF5.out⟩
end
end Go.Proofs.YtcmajcljafmphaaGreat

namespace Go.Proofs.YtcmajcljafmphaaGreat
section
open Go.RowKit Go.Maps
set_option maxRecDepth 100000
set_option linter.unusedVariables false

theorem okc_next {x y : Nat} {l : List Nod} (h : OkC ⟨x, l⟩) (hxy : x ≤ y) : OkC ⟨y, l⟩ :=
  ⟨h.sort, h.root, fun n hn => ⟨(h.low n hn).1, Nat.lt_of_lt_of_le (h.low n hn).2 hxy⟩, h.bits, h.empt, h.nam, h.ids, h.len, h.gon, h.par, h.uniq, h.few, h.byt, h.way⟩
theorem okc_lay {t : Tr} (h : OkC t) (hok : ∀ n ∈ t.n, NodOk n) (hx : t.next < 18446744073709551616) (he : ∀ n ∈ t.n, (encN n).length ≤ 100000) (ha : (encT t.next t.n).length ≤ 65280) : LayOk t := by
  refine ⟨?_, ?_, by have := h.few; omega, hx, hok, he, fun n hn => by have := h.len n hn; omega, ha⟩
  · obtain ⟨r, hr, _⟩ := h.root
    exact List.ne_nil_of_mem hr
  · unfold dropL
    refine List.filter_eq_self.2 (fun n hn => ?_)
    have := (h.low n hn).1
    simp
    omega
theorem head_parts (which L : Nat) (hw : which ≤ 1) (hL : L ≤ 65280) : hWord (sectL (headB which L)) = 280368729932 ∧ hWhich (sectL (headB which L)) = which ∧ hLong (sectL (headB which L)) = L := by
  have h8 : ∀ v : Nat, (numBytes v 8).length = 8 := fun v => numBytes_length v 8
  have ht : ∀ (v : Nat) (r : List UInt8), (numBytes v 8 ++ r).take 8 = numBytes v 8 := fun v r => List.take_left' (h8 v)
  have hd : ∀ (v : Nat) (r : List UInt8), (numBytes v 8 ++ r).drop 8 = r := fun v r => List.drop_left' (h8 v)
  have e : sectL (headB which L) = numBytes 280368729932 8 ++ (numBytes which 8 ++ (numBytes L 8 ++ List.replicate (256 - (headB which L).length) 0)) := by
    unfold sectL
    rw [show headB which L = numBytes 280368729932 8 ++ numBytes which 8 ++ numBytes L 8 from rfl]
    simp only [List.append_assoc]
  unfold hWord hWhich hLong
  rw [e]
  rw [hd, hd, ht, ht, ht, leN_numP, leN_numP, leN_numP]
  exact ⟨by decide, by omega, by omega⟩
theorem head_ok (which L : Nat) (hw : which ≤ 1) (hL : L ≤ 65280) : hOk (sectL (headB which L)) = true := by
  obtain ⟨h1, h2, h3⟩ := head_parts which L hw hL
  unfold hOk
  rw [h1, h2, h3]
  simp [hw, hL]
theorem laid_cat {s0 s : DskV} {a n which : Nat} {c : List UInt8} (h : LaidP s0 s a c n which) (hn : n = (c.length + 255) / 256) (ha : a + n ≤ s.kept.length) : ∀ j, j ≤ n → (catB s a j).take c.length = c.take (256 * j)
  | 0, _ => by simp [catB]
  | j + 1, hj => by
    have ih := laid_cat h hn ha j (by omega)
    have hl := catB_len h.ok a j (by omega)
    have hlt : 256 * j < c.length := by omega
    have hs := h.sect j (by omega)
    have e : s.kept.getD (a + j) [] = sectL (chunkL c j) := by rw [List.getD_eq_getElem?_getD, hs]; rfl
    unfold catB
    rw [e, List.take_append, hl, ih]
    have h2 : (sectL (chunkL c j)).take (c.length - 256 * j) = chunkL c j := by
      unfold sectL
      have hk := chunkL_len c j
      by_cases hb : 256 ≤ c.length - 256 * j
      · rw [Nat.min_eq_left hb] at hk
        rw [hk]
        simp only [Nat.sub_self, List.replicate_zero, List.append_nil]
        exact List.take_of_length_le (by omega)
      · rw [Nat.min_eq_right (by omega)] at hk
        exact List.take_left' hk
    rw [h2, show 256 * (j + 1) = 256 * j + 256 by omega, List.take_add]
    rfl
theorem laid_all {s0 s : DskV} {sec : Bool} {c : List UInt8} (h : LaidP s0 s (fromN !sec) c ((c.length + 255) / 256) (if sec then 0 else 1)) (hc : c.length ≤ 65280) :
    ∃ l0, s.kept[0]? = some l0 ∧ hOk l0 = true ∧ decide (hWhich l0 = 1) = !sec ∧ hLong l0 = c.length ∧ (catB s (fromO (decide (hWhich l0 = 1))) ((hLong l0 + 255) / 256)).take (hLong l0) = c := by
  have hw : (if sec then 0 else 1) ≤ 1 := by cases sec <;> decide
  obtain ⟨h1, h2, h3⟩ := head_parts (if sec then 0 else 1) c.length hw hc
  have e : decide (hWhich (sectL (headB (if sec then 0 else 1) c.length)) = 1) = !sec := by rw [h2]; cases sec <;> rfl
  refine ⟨_, h.zero, head_ok _ _ hw hc, e, h3, ?_⟩
  rw [e, h3]
  have hk := h.ok.least
  have ha : fromN (!sec) + (c.length + 255) / 256 ≤ s.kept.length := by unfold fromN; split <;> omega
  have h9 := laid_cat h rfl ha _ (Nat.le_refl _)
  rw [show fromO (!sec) = fromN !sec from rfl, h9]
  exact List.take_of_length_le (by omega)
theorem laid_tree {t t' : Tr} (ht : LayOk t) (h : TreeOf (encT t.next t.n) t') : t' = t := by
  have h1 := treeP_enc t.next t.n ht.next ht.len ht.ok ht.enc
  have h2 := h.is
  rw [h1] at h2
  exact (Option.some.inj h2).symm
theorem laid_is {t : Tr} (ht : LayOk t) (hc : OkC t) : TreeOf (encT t.next t.n) t := ⟨treeP_enc t.next t.n ht.next ht.len ht.ok ht.enc, hc⟩
theorem kopen_laid {base d : Nat} {zs : List Nat} {s0 s : DskV} {w : World} {t : Tr} {sec : Bool} (h : Dk base zs d s w) (hl : LaidP s0 s (fromN !sec) (encT t.next t.n) (((encT t.next t.n).length + 255) / 256) (if sec then 0 else 1)) (hoff : s.off = false) (ht : LayOk t) (hc : OkC t) (hlen : (encT t.next t.n).length ≤ 47000) :
    Calls Tryz.prog 11 #[.pointer (some ⟨d, 0, none⟩)] w fun e w' => Below w.heap.size w w' ∧ ∃ kb, e = .returned (.tuple #[.pointer (some ⟨kb, 0, none⟩), .int .i64 0]) ∧ w.heap.size ≤ kb ∧ KeepAt w' d kb t (!sec) false := by
  obtain ⟨l0, h0, h1, h2, h3, h4⟩ := laid_all hl ht.all
  refine (kopen_any h hl.ok hl.pend hoff l0 h0 (fun _ => by rw [h3]; exact hlen)).mono ?_
  rintro e w' ⟨hb, ⟨kb, v, t', rfl, _, hk, hK, hN, hT⟩ | ⟨rfl, hor⟩⟩
  · rw [h4] at hT
    obtain rfl := laid_tree ht hT
    rw [h2] at hK
    exact ⟨hb, kb, rfl, hk, v, hK, hN⟩
  · rcases hor with h | h
    · rw [h1] at h; cases h
    · rw [h4] at h
      exact absurd (laid_is ht hc) (h t)
theorem leN_zeros : ∀ n, leN (zerosL n) = 0
  | 0 => rfl
  | n + 1 => by
    have ih := leN_zeros n
    unfold zerosL at ih ⊢
    rw [List.replicate_succ]
    simp [leN, ih]
theorem hwhich_zeros : decide (hWhich (zerosL 256) = 1) = false := by
  have : hWhich (zerosL 256) = 0 := by
    unfold hWhich
    rw [show ((zerosL 256).drop 8).take 8 = zerosL 8 from by unfold zerosL; rw [List.drop_replicate, List.take_replicate]; rfl]
    exact leN_zeros 8
  rw [this]; rfl
theorem fresh_ok (n : Nat) (h1 : 512 ≤ n) (h2 : n ≤ 100000) : DOk (DskV.fresh 256 (List.replicate n (zerosL 256))) ∧ (DskV.fresh 256 (List.replicate n (zerosL 256))).kept[0]? = some (zerosL 256) :=
  ⟨⟨rfl, by show 512 ≤ (List.replicate n (zerosL 256)).length; simpa using h1, by show (List.replicate n (zerosL 256)).length ≤ _; simpa using h2, fun l hl => by rw [List.eq_of_mem_replicate hl]; simp [zerosL], Nat.zero_le _, (fun h => by cases h), (fun x hx => by cases hx), Nat.zero_le _⟩, by show (List.replicate n (zerosL 256))[0]? = _; rw [List.getElem?_replicate, if_pos (by omega)]⟩
end
end Go.Proofs.YtcmajcljafmphaaGreat

namespace Go.Proofs.YtcmajcljafmphaaGreat
section
open Go.RowKit Go.Maps
set_option maxRecDepth 100000
set_option linter.unusedVariables false

set_option maxHeartbeats 6400000 in
theorem ksave_off {s : DskV} {base d kb : Nat} {zs : List Nat} {w : World} {x0 : Nat} {v0 : Value} {t : Tr} {sec : Bool} (h : Dk base (kb :: zs) d s w) (hbase : base ≤ w.heap.size) (hkbb : base ≤ kb) (hkz : kb ∉ zs) (hoff : s.off = true) (hkb : w.heap[kb]? = some (.cells #[.pointer (some ⟨d, 0, none⟩), .int .u64 (x0 : Int), v0, .bool sec, .bool false] 64 (0, 0))) (v : Value) (hv : NodsAt w v t.n) (ht : LayOk t) (hc : OkC t) :
    Calls Tryz.prog 17 #[.pointer (some ⟨kb, 0, none⟩), .agg #[.int .u64 (t.next : Int), v]] w fun e w' => e = .returned (.int .i64 22) ∧ Dk base (kb :: zs) d s w' ∧ Fr base zs w w' := by
  obtain ⟨va, vc, rfl, _, _⟩ := hv.form
  obtain ⟨W, hW⟩ : ∃ W, W = w.alloc (.cells #[.int .u64 (t.next : Int), .slice va t.n.length vc] 33) := ⟨_, rfl⟩
  have hb0 : Below w.heap.size w W := by rw [hW]; exact (Below.refl _ _).alloc (Nat.le_refl _) _
  have hY0 : W.heap[w.heap.size]? = some (.cells #[.int .u64 (t.next : Int), .slice va t.n.length vc] 33 (0, 0)) := by rw [hW]; exact heap_alloc_new _ _
  have hck := hid (ncheck_any (.slice va t.n.length vc) t.next t.n W (hv.below hb0) ht.len ht.ok ht.data)
  have c0 := block_cell hY0 0
  have c1 := block_cell hY0 1
  have hD := hid h
  clear h
  replace hY0 := hid hY0
  replace hb0 := hid hb0
  replace hc := hid hc
  replace ht := hid ht
  replace hkb := hid hkb
  clear hv
  go_enter Tryz.func17, Tryz.ntmps17
  go_wp2_with (first
    | (rw [← hW]; replace hW := hid hW)
    | (go_at_call 16; refine hck.out.mono ?_; rintro e w2 ⟨E, rfl, hE, hb2⟩; obtain rfl : E = 0 := hE.2 hc.out; clear hE; have hbA := hb0.out.trans (hb2.mono hb0.out.size); have hK2 := (hbA.block _ (lt_of_block hkb.out)).trans hkb.out; have g0 := block_cell hK2 0; have g3 := block_cell hK2 3; have g4 := block_cell hK2 4; have f4 := block_free hK2 4; have hof := hid (koff_any (hD.out.pure hbA)); rw [hoff] at hof; replace hK2 := hid hK2; replace hbA := hid hbA; clear hb2)
    | (go_at_call 20; refine hof.out.mono ?_; rintro e w3 ⟨rfl, hw3⟩; rw [hw3]; clear hw3))
  go_ret
  have hD2 := hD.out.pure hbA.out
  have hF2 := hD.out.fr hbA.out
  refine ⟨rfl, hD2.others (by simp [World.setCell]) (fun j _ hj => block_set_other (fun e => hj (by rw [e]; exact List.mem_cons_self))), ⟨hF2.below.setCell (p := ⟨kb, 4, none⟩) hkbb _, fun z hz => (block_set_other (fun e => hkz (by rw [← show z = kb from e]; exact hz))).trans (hF2.keep z (List.mem_cons_of_mem _ hz))⟩⟩
def KSaveP (base d kb : Nat) (zs : List Nat) (t : Tr) (sec : Bool) (s : DskV) (w : World) (e : Ending) (w' : World) : Prop := e = .returned (.int .i64 0) ∧ ∃ s', LaidP s s' (fromN !sec) (encT t.next t.n) (((encT t.next t.n).length + 255) / 256) (if sec then 0 else 1) ∧ Dk base (kb :: zs) d s' w' ∧ KeepAt w' d kb t (!sec) false ∧ Fr base zs w w'
set_option maxHeartbeats 6400000 in
theorem ksave_on {s : DskV} {base d kb : Nat} {zs : List Nat} {w : World} {t0 t : Tr} {sec : Bool} (h : Dk base (kb :: zs) d s w) (hbase : base ≤ w.heap.size) (hkbb : base ≤ kb) (hkz : kb ∉ zs) (hok : DOk s) (hw9 : s.writes ≤ 90000000) (hoff : s.off = false) (hp : s.pend = []) (har : s.armed = false) (hK : KeepAt w d kb t0 sec false) (v : Value) (hv : NodsAt w v t.n) (hva : ∀ j, v.ownBlock = some j → j ∈ zs ∨ j < base) (ht : LayOk t) (hc : OkC t) :
    Calls Tryz.prog 17 #[.pointer (some ⟨kb, 0, none⟩), .agg #[.int .u64 (t.next : Int), v]] w (KSaveP base d kb zs t sec s w) := by
  obtain ⟨v0, hkb, hv0⟩ := hK
  obtain ⟨va, vc, rfl, _, _⟩ := hv.form
  obtain ⟨W, hW⟩ : ∃ W, W = w.alloc (.cells #[.int .u64 (t.next : Int), .slice va t.n.length vc] 33) := ⟨_, rfl⟩
  have hb0 : Below w.heap.size w W := by rw [hW]; exact (Below.refl _ _).alloc (Nat.le_refl _) _
  have hY0 : W.heap[w.heap.size]? = some (.cells #[.int .u64 (t.next : Int), .slice va t.n.length vc] 33 (0, 0)) := by rw [hW]; exact heap_alloc_new _ _
  have hck := hid (ncheck_any (.slice va t.n.length vc) t.next t.n W (hv.below hb0) ht.len ht.ok ht.data)
  have c0 := block_cell hY0 0
  have c1 := block_cell hY0 1
  have hD := hid h
  clear h
  replace hY0 := hid hY0
  replace hb0 := hid hb0
  replace hc := hid hc
  replace ht := hid ht
  replace hkb := hid hkb
  replace hv := hid hv
  replace hva := hid hva
  replace hok := hid hok
  replace har := hid har
  clear hv0
  go_enter Tryz.func17, Tryz.ntmps17
  go_wp2_with (first
    | (rw [← hW]; replace hW := hid hW)
    | (go_at_call 16; refine hck.out.mono ?_; rintro e w2 ⟨E, rfl, hE, hb2⟩; obtain rfl : E = 0 := hE.2 hc.out; clear hE; have hbA := hb0.out.trans (hb2.mono hb0.out.size); have hK2 := (hbA.block _ (lt_of_block hkb.out)).trans hkb.out; have hY2 := (hb2.block _ (lt_of_block hY0.out)).trans hY0.out; have y0 := block_cell hY2 0; have y1 := block_cell hY2 1; have g0 := block_cell hK2 0; have g3 := block_cell hK2 3; have g4 := block_cell hK2 4; have f4 := block_free hK2 4; have hof := hid (koff_any (hD.out.pure hbA)); rw [hoff] at hof; have hly := hid (klay_any base d kb zs t0.next t.next v0 (.slice va t.n.length vc) sec false s t.n w2 (hD.out.pure hbA) (Nat.le_trans hbase hbA.size) hok.out hw9 hoff hp hK2 hkz hkbb (hv.out.below hbA) hva.out ht.out.ne ht.out.d0 ht.out.len ht.out.next ht.out.ok ht.out.enc ht.out.all); replace hK2 := hid hK2; replace hY2 := hid hY2; replace hbA := hid hbA; clear hb2)
    | (go_at_call 20; refine hof.out.mono ?_; rintro e w3 ⟨rfl, hw3⟩; rw [hw3]; clear hw3))
  refine hly.out.mono ?_
  rintro e w5 (⟨rfl, s', z, o, cp, hL, hD5, hK5, hN5, hF5⟩ | ⟨rfl, s', hC, hD5, hK5, hF5⟩)
  · replace hL := hid hL
    replace hD5 := hid hD5
    replace hF5 := hid hF5
    replace hK5 := hid hK5
    replace hN5 := hid hN5
    go_wp2_with fail
    go_ret
    exact ⟨rfl, s', hL.out, hD5.out.drop, ⟨_, hK5.out, hN5.out⟩, ((hD.out.fr hbA.out).sub (fun z hz => List.mem_cons_of_mem _ hz)).trans hF5.out⟩
  · have := hC.was
    rw [har.out] at this
    cases this
end
end Go.Proofs.YtcmajcljafmphaaGreat

namespace Go.Proofs.YtcmajcljafmphaaGreat
section
open Go.RowKit Go.Maps
set_option maxRecDepth 100000
set_option linter.unusedVariables false

theorem Dk.made {w w' : World} {s : DskV} {e : Ending} (h : DNewP w s e w') : ∃ d, e = .returned (.tuple #[.pointer (some ⟨d, 0, none⟩), .int .i64 0]) ∧ Dk w.heap.size [] d s w' ∧ Below w.heap.size w w' := by
  obtain ⟨d, g, m, cap, us, rfl, h1, h2, h3, h4, h5⟩ := h
  exact ⟨d, rfl, ⟨g, m, cap, us, [], _, h1, h2, h3, h4⟩, h5⟩
def plateV : DskV := DskV.fresh 256 (List.replicate 512 (zerosL 256))
theorem plate_ok : DOk plateV ∧ plateV.kept[0]? = some (zerosL 256) := fresh_ok 512 (by decide) (by decide)
theorem kplate_any (w : World) : Calls Tryz.prog 15 #[] w fun e w' => ∃ d, e = .returned (.pointer (some ⟨d, 0, none⟩)) ∧ Dk w.heap.size [] d plateV w' ∧ Below w.heap.size w w' := by
  have hn := hid (dnew_any 512 256 w (by decide) (by decide))
  go_enter Tryz.func15, Tryz.ntmps15
  go_wp2_with (go_at_call 8; refine (show Calls Tryz.prog 8 #[.int .i64 512, .int .i64 256] _ _ from hn.out).mono ?_; intro e w1 he; obtain ⟨d, rfl, hD, hb⟩ := Dk.made he)
  go_ret
  exact ⟨d, rfl, hD, hb⟩
theorem new2_any (uid : ByteArray) (now : Nat) (w : World) :
    Calls Tryz.prog 10 #[.string uid, .int .u32 (now : Int)] w fun e w' => ∃ z c, e = .returned (.agg #[.int .u64 2, .slice (some ⟨z, 0, none⟩) 1 c]) ∧ NodsAt w' (.slice (some ⟨z, 0, none⟩) 1 c) [rootN uid now] ∧ w.heap.size ≤ z ∧ z < w'.heap.size ∧ Below w.heap.size w w' := by
  go_enter Tryz.func10, Tryz.ntmps10
  go_wp2_with fail
  have hB : Below w.heap.size w ((w.alloc (.cells #[.int .u64 2, .slice (some ⟨w.heap.size + 1, 0, none⟩) 1 1] 33)).alloc (.cells (rootN uid now).cells 68)) := ((Below.refl w.heap.size w).alloc (Nat.le_refl _) _).alloc (by simp) _
  refine bodyPost_ret (results_cell_row rfl _ _ w.heap.size _ #[.int .u64 2, .slice (some ⟨w.heap.size + 1, 0, none⟩) 1 1] _ _ rfl ((Below.heap_alloc _ _ _ (by simp)).trans (heap_alloc_new _ _)) Tryz.underlying33 rfl (by kernel_rfl)) rfl ?_
  exact ⟨_, _, rfl, NodsAt.block (l := [rootN uid now]) (heap2 _ _ (.cells (rootN uid now).cells 68)) (by unfold maxLen; simp), by omega, by simp, hB⟩
theorem root_enc (uid : ByteArray) (now : Nat) : (encN (rootN uid now)).length = 8 + 16 + 8 + 1 + 20 + 1 + uid.size + uid.size + uid.size + 0 := by
  rw [encN_len]; rfl
theorem root_all (x : Nat) (uid : ByteArray) (now : Nat) (h : uid.size ≤ 1000) : (encT x [rootN uid now]).length ≤ 4000 := by
  have h1 := root_enc uid now
  unfold encT
  simp only [List.length_append, numBytes_length, List.flatMap_cons, List.flatMap_nil, List.length_nil, h1]
  omega
theorem root_okc (uid : ByteArray) (now x : Nat) (hu : validB uid = true) (hx : 2 ≤ x) : OkC ⟨x, [rootN uid now]⟩ := okc_next (root_ok uid now hu) hx
theorem root_lay (uid : ByteArray) (now x : Nat) (hu : validB uid = true) (h : uid.size ≤ 1000) (hn : now < 4294967296) (hx : 2 ≤ x) (hx2 : x < 18446744073709551616) : LayOk ⟨x, [rootN uid now]⟩ :=
  okc_lay (root_okc uid now x hu hx) (fun n hn2 => by rw [List.mem_singleton.1 hn2]; exact root_nod uid now (by unfold maxLen; omega) hn) hx2 (fun n hn2 => by rw [List.mem_singleton.1 hn2, root_enc]; omega) (Nat.le_trans (root_all x uid now h) (by decide))
theorem LaidP.cut {s0 s : DskV} {a n which : Nat} {c : List UInt8} (h : LaidP s0 s a c n which) (kl : List Bool) : LaidP { s0 with armed := false } { (s.cut kl) with off := false } a c n which := by
  have ek : (s.cut kl).kept = s.kept := by
    show settleK s.kept s.pend (fun i => kl.getD i false) s.pend.length = _
    rw [h.pend]; rfl
  obtain ⟨c1, c2, c3, c4, c5, c6, c7⟩ := h.ok.cut kl
  exact ⟨⟨c1.size, c1.least, c1.most, c1.len, c1.writes, (fun h => by cases h), c1.pin, c1.plen⟩, rfl, c3, rfl, c5.trans h.len, by show (s.cut kl).kept[0]? = _; rw [ek]; exact h.zero, fun k hk => by show (s.cut kl).kept[a + k]? = _; rw [ek]; exact h.sect k hk, h.writes⟩
theorem KeepAt.keep {w w' : World} {d kb : Nat} {t : Tr} {sec down : Bool} (h : KeepAt w d kb t sec down) (hb : Below w.heap.size w w') : KeepAt w' d kb t sec down := by
  obtain ⟨v, h1, h2⟩ := h
  exact ⟨v, (hb.block _ (lt_of_block h1)).trans h1, h2.below hb⟩
end
end Go.Proofs.YtcmajcljafmphaaGreat
