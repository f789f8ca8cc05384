/- How text.head and text.one of the program end, for every text of at most maxLen bytes. No further condition. And the texts behind it. -/
import Derived.Test.YtkefjeabckainaaGreatProg
import Derived.Test.YtkefjeabckainaaGreatFaB01
import Derived.WalkKit
import Derived.WalkSpells
import Derived.WalkLawsBesides
import Derived.Recover
import Derived.Test.YtkefjeabckainaaGreatShelf
import Derived.Lib.ConvBytes
namespace Go.Proofs.YtkefjeabckainaaGreat
section
open Go.RowKit

def noneChain : List PanicEntry := [{ v := .iface 252 (.agg #[]), recovered := false }]

theorem head_cases {c n v l : Nat} (h : S.head c = some (n, v, l)) :
    (c < 128 ∧ n = 0 ∧ v = c ∧ l = 0) ∨ (128 ≤ c ∧ c / 32 = 6 ∧ n = 1 ∧ v = c % 32 ∧ l = 128) ∨ (128 ≤ c ∧ c / 32 ≠ 6 ∧ c / 16 = 14 ∧ n = 2 ∧ v = c % 16 ∧ l = 2048) ∨
    (128 ≤ c ∧ c / 32 ≠ 6 ∧ c / 16 ≠ 14 ∧ c / 8 = 30 ∧ n = 3 ∧ v = c % 8 ∧ l = 65536) := by
  unfold S.head at h
  split at h
  · simp at h; omega
  split at h
  · simp at h; omega
  split at h
  · simp at h; omega
  split at h
  · simp at h; omega
  · simp at h

theorem head_no {c : Nat} (h : S.head c = none) : 128 ≤ c ∧ c / 32 ≠ 6 ∧ c / 16 ≠ 14 ∧ c / 8 ≠ 30 := by
  unfold S.head at h
  split at h
  · simp at h
  split at h
  · simp at h
  split at h
  · simp at h
  split at h
  · simp at h
  · omega

set_option maxRecDepth 100000 in
set_option maxHeartbeats 400000 in
theorem head_some (c : UInt8) (n v l : Nat) (w : World) (h : S.head c.toNat = some (n, v, l)) :
    Calls Tryz.prog 201 #[.int .u8 (c.toNat : Int)] w fun e w' => e = .returned (.tuple #[.int .i64 (n : Int), .int .i32 (v : Int), .int .i32 (l : Int)]) ∧ w = w' := by
  have hc := c.toNat_lt
  generalize c.toNat = c at h hc
  rcases head_cases h with ⟨h1, rfl, rfl, rfl⟩ | ⟨h1, h2, rfl, rfl, rfl⟩ | ⟨h1, h2, h3, rfl, rfl, rfl⟩ | ⟨h1, h2, h3, h4, rfl, rfl, rfl⟩
  · clear h
    go_enter Tryz.func201, Tryz.ntmps201
    go_wp2
    go_ret3
    exact ⟨rfl, rfl⟩
  · have k2 : (((c : Nat) : Int) / 32 == 6) = true := by simp; omega
    clear h h2
    go_enter Tryz.func201, Tryz.ntmps201
    go_wp2
    go_ret3
    exact ⟨rfl, rfl⟩
  · have k2 : (((c : Nat) : Int) / 32 == 6) = false := by simp; omega
    have k3 : (((c : Nat) : Int) / 16 == 14) = true := by simp; omega
    clear h h2 h3
    go_enter Tryz.func201, Tryz.ntmps201
    go_wp2
    go_ret3
    exact ⟨rfl, rfl⟩
  · have k2 : (((c : Nat) : Int) / 32 == 6) = false := by simp; omega
    have k3 : (((c : Nat) : Int) / 16 == 14) = false := by simp; omega
    have k4 : (((c : Nat) : Int) / 8 == 30) = true := by simp; omega
    clear h h2 h3 h4
    go_enter Tryz.func201, Tryz.ntmps201
    go_wp2
    go_ret3
    exact ⟨rfl, rfl⟩

set_option maxRecDepth 100000 in
set_option maxHeartbeats 400000 in
theorem head_none (c : UInt8) (w : World) (h : S.head c.toNat = none) :
    Calls Tryz.prog 201 #[.int .u8 (c.toNat : Int)] w fun e w' => e = .panicked noneChain ∧ w = w' := by
  have hc := c.toNat_lt
  generalize c.toNat = c at h hc
  obtain ⟨h1, h2, h3, h4⟩ := head_no h
  have k2 : (((c : Nat) : Int) / 32 == 6) = false := by simp; omega
  have k3 : (((c : Nat) : Int) / 16 == 14) = false := by simp; omega
  have k4 : (((c : Nat) : Int) / 8 == 30) = false := by simp; omega
  clear h h2 h3 h4
  go_enter Tryz.func201, Tryz.ntmps201
  go_wp2
  exact ⟨rfl, rfl, rfl⟩

def oneEnd : Option Nat → Ending
  | some n => .returned (.int .i64 (n : Int))
  | none => .panicked noneChain

theorem one_eq (s : ByteArray) (h0 : 0 < s.size) : S.one s.data.toList = match S.head s[0].toNat with
    | none => none
    | some (n, v, least) => if s.size ≤ n then none else match S.cont n v (s.data.toList.drop 1) with
      | none => none
      | some v => if S.good v least then some (n + 1) else none := by
  have e : s.data.toList = s[0] :: s.data.toList.drop 1 := by
    have h : 0 < s.data.toList.length := by simpa using h0
    exact List.drop_eq_getElem_cons h
  conv => lhs; rw [e]
  unfold S.one
  have : (s[0] :: List.drop 1 s.data.toList).length = s.size := by rw [← e]; simp
  simp only [this]
  rfl

set_option maxRecDepth 100000 in
set_option maxHeartbeats 400000 in
theorem one_any (s : ByteArray) (w : World) (hs : s.size ≤ maxLen) (h0 : 0 < s.size) :
    Calls Tryz.prog 193 #[.string s] w fun e w' => e = oneEnd (S.one s.data.toList) ∧ w = w' := by
  unfold maxLen at hs
  have E := hid (one_eq s h0)
  cases hh : S.head s[0].toNat with
  | none =>
    have E2 : Hid (S.one s.data.toList = none) := by have := E.out; rw [hh] at this; exact this
    have H := hid hh
    clear hh E
    go_enter Tryz.func193, Tryz.ntmps193
    go_wp2_with (go_at_call 201; refine (head_none _ _ H.out).mono ?_; rintro e w' ⟨rfl, rfl⟩)
    exact ⟨rfl, by rw [E2.out]; rfl, rfl⟩
  | some t =>
    obtain ⟨n, v, l⟩ := t
    have hl := S.head_lt hh
    have hle : n < s.size → Hid (S.one s.data.toList = match S.cont n v (s.data.toList.drop 1) with
      | none => none
      | some v => if S.good v l then some (n + 1) else none) := by
      intro h; have := E.out; rw [hh] at this; simp only [if_neg (show ¬ s.size ≤ n by omega)] at this; exact this
    have hgt : s.size ≤ n → Hid (S.one s.data.toList = none) := by
      intro h; have := E.out; rw [hh] at this; simp only [if_pos h] at this; exact this
    have H := hid hh
    clear hh E
    obtain ⟨hn, hb⟩ := hl
    by_cases hsz : s.size ≤ n
    · have E2 := hgt hsz
      clear hgt hle hb
      go_enter Tryz.func193, Tryz.ntmps193
      go_wp2_with (go_at_call 201; refine (head_some _ _ _ _ _ H.out).mono ?_; rintro e w' ⟨rfl, rfl⟩)
      exact ⟨rfl, by rw [E2.out]; rfl, rfl⟩
    have E2 := hle (by omega)
    clear hgt hle
    have hb := hid hb
    go_enter Tryz.func193, Tryz.ntmps193
    go_wp2_with (go_at_call 201; refine (head_some _ _ _ _ _ H.out).mono ?_; rintro e w' ⟨rfl, rfl⟩)
    go_loop [4, 6] (fun x i => ∃ k vi : Nat, 1 ≤ k ∧ k ≤ n + 1 ∧ i = .int .i64 (k : Int) ∧ x = .int .i32 (vi : Int) ∧ Hid ((vi + 1) * 64 ^ (n + 1 - k) ≤ 2097152) ∧ Hid (S.cont n v (s.data.toList.drop 1) = S.cont (n + 1 - k) vi (s.data.toList.drop k))) (fun _ i => n + 1 - (intOf i).toNat)
    case atStart => exact ⟨1, v, by omega, by omega, rfl, rfl, hid (by simpa using hb.out), hid rfl⟩
    case round =>
      obtain ⟨k, vi, hk1, hk2, rfl, rfl, hbd, hcont⟩ := hrel
      by_cases hk : k = n + 1
      · obtain rfl : n = k - 1 := by omega
        have hfin := hcont.out
        rw [show k - 1 + 1 - k = 0 from by omega] at hfin
        simp only [S.cont] at hfin
        have hv := S.bound_v hbd.out
        have E3 : Hid (S.one s.data.toList = if S.good vi l then some k else none) := by
          have := E2.out; rw [hfin] at this; exact hid (by simpa [show k - 1 + 1 = k by omega] using this)
        clear hfin hcont E2 H hb hbd hk
        go_wp2
        all_goals first
          | (exact ⟨rfl, by rw [E3.out, show S.good vi l = false from by unfold S.good; simp; omega]; rfl, rfl⟩)
          | (go_ret; exact ⟨by rw [E3.out, show S.good vi l = true from by unfold S.good; simp; omega]; exact congrArg (fun x => Ending.returned (Value.int .i64 x)) (by omega), rfl⟩)
      · have hbd' := hbd.out
        rw [show n + 1 - k = (n - k) + 1 from by omega] at hbd'
        have hv := S.bound_v hbd'
        have hbd'' := hid hbd'
        clear hbd' hbd
        have hklt : k < s.size := by omega
        have hkd : k < s.data.toList.length := by simpa using hklt
        by_cases hc : s[k].toNat / 64 = 2
        · have hstep := hid (S.cont_step (k := n - k) (v := vi) (l := s.data.toList) k hkd hc)
          have k2 : (((s[k].toNat : Nat) : Int) / 64 != 2) = false := by simp; omega
          have hb1 : ((s[k].toNat : Nat) : Int) ≤ 255 := by have := s[k].toNat_lt; omega
          have hb2 := S.bound_step hbd''.out (show s[k].toNat % 64 < 64 by omega)
          have hb3 := hid hb2
          clear hc hb2
          go_wp2
          go_round
          case rel => exact ⟨k + 1, vi * 64 + s[k].toNat % 64, by omega, by omega, by go_num, by go_num, hid (by rw [show n + 1 - (k + 1) = n - k from by omega]; exact hb3.out), hid (by rw [hcont.out, show n + 1 - k = n - k + 1 from by omega, hstep.out, show n + 1 - (k + 1) = n - k from by omega]; rfl)⟩
          case measure => simp [intOf]; omega
        · have hstop := hid (S.cont_stop (k := n - k) (v := vi) (l := s.data.toList) k hkd hc)
          have k2 : (((s[k].toNat : Nat) : Int) / 64 != 2) = true := by simp; omega
          clear hc
          go_wp2
          exact ⟨rfl, by rw [E2.out, hcont.out, show n + 1 - k = (n - k) + 1 from by omega, hstop.out]; rfl, rfl⟩




theorem one_some {s : ByteArray} {n : Nat} (w : World) (hs : s.size ≤ maxLen) (h : S.one s.data.toList = some n) :
    Calls Tryz.prog 193 #[.string s] w fun e w' => e = .returned (.int .i64 (n : Int)) ∧ w = w' := by
  have := one_any s w hs (by have := S.one_le h; simp at this; omega)
  rw [h] at this; exact this
theorem one_none {s : ByteArray} (w : World) (hs : s.size ≤ maxLen) (h0 : 0 < s.size) (h : S.one s.data.toList = none) :
    Calls Tryz.prog 193 #[.string s] w fun e w' => e = .panicked noneChain ∧ w = w' := by
  have := one_any s w hs h0
  rw [h] at this; exact this
end
end Go.Proofs.YtkefjeabckainaaGreat

namespace Go.Proofs.YtkefjeabckainaaGreat
section
open Go.RowKit
set_option maxRecDepth 100000

theorem neq_none (w : World) : (binOp .neq 20 (.iface 252 (.agg #[])) (.iface 252 (.agg #[]))).run Tryz.prog w = .ok (.bool false) w := by kernel_rfl


theorem runes1_panicking (p q : Addr) (x : Int) (y : Bool) (w : World) (hc : w.cell? p = some (.int .i64 x)) (hz : w.frozen? p = false) (hq : (w.setCell p (.int .i64 0)).cell? q = some (.bool y)) (hqz : w.frozen? q = false) :
    CallsD Tryz.prog 192 #[.pointer (some p), .pointer (some q)] (.panicking noneChain) w fun e u' w' =>
      e = .returned (.tuple #[]) ∧ u' = .panicking [{ v := .iface 252 (.agg #[]), recovered := true }] ∧ w' = (w.setCell p (.int .i64 0)).setCell q (.bool false) := by
  have hne := neq_none
  refine callsD_of_wpS Tryz.func192 rfl fun c₀ cs hu => ?_
  apply wpS_seq
  apply wpS_region
  simp [wpOpsS, go_sem, recoverD, hu, noneChain, Tryz.ntmps192, Exit.thenS, Array.replicate_succ]
  apply wpS_body
  go_wp2
  go_end0
  exact ⟨rfl, rfl⟩

theorem runes1_idle (p q : Addr) (w : World) :
    CallsD Tryz.prog 192 #[.pointer (some p), .pointer (some q)] .returning w fun e u' w' => e = .returned (.tuple #[]) ∧ u' = .returning ∧ w' = w := by
  refine callsD_of_wpS Tryz.func192 rfl fun c₀ cs hu => ?_
  apply wpS_seq
  apply wpS_region
  simp [wpOpsS, go_sem, recoverD, hu, Tryz.ntmps192, Exit.thenS, Array.replicate_succ]
  rw [show c₀ = { c₀ with mode := .returning } from by cases c₀; simp_all]
  apply wpS_body
  go_wp2
  go_end0
  exact ⟨rfl, rfl⟩

def strOf : Value → ByteArray | .string s => s | _ => ByteArray.empty

def runesN (s : ByteArray) : Nat := (S.runes s.data.toList).getD 0
def runesOk (s : ByteArray) : Bool := (S.runes s.data.toList).isSome

set_option maxHeartbeats 400000 in
theorem runes_any (s : ByteArray) (w : World) (hs : s.size ≤ maxLen) :
    Calls Tryz.prog 170 #[.string s] w fun e w' => e = .returned (.tuple #[.int .i64 (runesN s : Int), .bool (runesOk s)]) ∧ Below w.heap.size w w' := by
  unfold maxLen at hs
  have hmf : ∀ (fn : Fn) (first cap : Array Value) (w : World), (Instr.makeFunc fn first cap).run Tryz.prog w = .ok (.func fn first cap) w := fun _ _ _ _ => rfl
  go_enter_defers Tryz.func170, Tryz.ntmps170
  go_wp2
  go_loopw [0] (fun sv wr => ∃ (k : Nat) (t : ByteArray), sv = .string t ∧ wr = (w.alloc (.cells #[.int .i64 (k : Int)] 3)).alloc (.cells #[.bool false] 4) ∧ k + t.size ≤ s.size ∧ Hid (S.runes s.data.toList = (S.runes t.data.toList).map (· + k))) (fun sv _ => (strOf sv).size)
  case atStart => exact ⟨0, s, rfl, rfl, by omega, by exact hid (by simp)⟩
  case round =>
    obtain ⟨k, t, rfl, rfl, hkt, hr⟩ := hrel
    by_cases ht : t.size = 0
    · obtain ⟨e1, e2⟩ := str_empty ht
      have hn : t.data.toList = [] := List.eq_nil_of_length_eq_zero (by simpa using ht)
      have E : S.runes s.data.toList = some k := (by rw [hr.out, hn]; simp [S.runes_nil])
      have E1 := hid (show runesN s = k by unfold runesN; rw [E]; rfl)
      have E2 := hid (show runesOk s = true by unfold runesOk; rw [E]; rfl)
      clear hn ht E hr
      go_wp2_with fail
      refine leaves_cons (f := 192) (args := #[.pointer (some ⟨w.heap.size, 0, none⟩), .pointer (some ⟨w.heap.size + 1, 0, none⟩)]) (by simp) (by simp [go_sem]) ?_
      refine (runes1_idle ⟨w.heap.size, 0, none⟩ ⟨w.heap.size + 1, 0, none⟩ _).mono ?_
      rintro e u' w'' ⟨rfl, rfl, rfl⟩
      simp [Leaves, settle, results, Tryz.results170, go_sem]
      exact ⟨⟨by rw [E1.out], E2.out⟩, ((Below.refl _ _).alloc (Nat.le_refl _) _).alloc (by simp) _⟩
    · obtain ⟨e1, e2⟩ := str_full (t := t) (by omega)
      have ht0 : t.data.toList ≠ [] := fun h => ht (by simpa using congrArg List.length h)
      cases h1 : S.one t.data.toList with
      | none =>
        have E : S.runes s.data.toList = none := (by rw [hr.out, S.runes_none ht0 h1]; rfl)
        have E1 := hid (show runesN s = 0 by unfold runesN; rw [E]; rfl)
        have E2 := hid (show runesOk s = false by unfold runesOk; rw [E]; rfl)
        have h1 := hid h1
        have ht1 : 0 < t.size := by omega
        clear ht0 ht E hr
        go_wp2_with (go_at_call 193; refine (one_none _ (by unfold maxLen; omega) ht1 h1.out).mono ?_; rintro e w' ⟨rfl, rfl⟩)
        refine leaves_cons (f := 192) (args := #[.pointer (some ⟨w.heap.size, 0, none⟩), .pointer (some ⟨w.heap.size + 1, 0, none⟩)]) (by simp) (by simp [go_sem]) ?_
        refine (runes1_panicking ⟨w.heap.size, 0, none⟩ ⟨w.heap.size + 1, 0, none⟩ k false _ ?_ ?_ ?_ ?_).mono ?_
        · simp [go_sem]
        · simp [go_sem]
        · simp [go_sem]
        · simp [go_sem]
        rintro e u' w'' ⟨rfl, rfl, rfl⟩
        simp [Leaves, settle, results, Tryz.results170, go_sem]
        exact ⟨⟨by rw [E1.out]; rfl, E2.out⟩, ((Below.refl _ _).alloc (Nat.le_refl _) _).alloc (by simp) _⟩
      | some n =>
        have hle := S.one_le h1
        have E : Hid (S.runes s.data.toList = (S.runes (t.data.toList.drop n)).map (· + (k + 1))) := hid (by rw [hr.out, S.runes_some h1]; cases S.runes (t.data.toList.drop n) <;> simp; omega)
        have hle1 := hle.1
        have hle2 : n ≤ t.size := by simpa using hle.2
        have h1 := hid h1
        clear ht0 hle hr
        go_wp2_with (go_at_call 193; refine (one_some _ (by unfold maxLen; omega) h1.out).mono ?_; rintro e w' ⟨rfl, rfl⟩)
        go_roundw
        case rel => exact ⟨k + 1, t.extract n t.size, rfl, by simp, by simp; omega, hid (by rw [E.out, S.data_extract])⟩
        case measure => simp [strOf]; omega
end
end Go.Proofs.YtkefjeabckainaaGreat

namespace Go.Proofs.YtkefjeabckainaaGreat
section
open Go.RowKit
set_option maxRecDepth 100000
end
end Go.Proofs.YtkefjeabckainaaGreat

namespace Go.Proofs.YtkefjeabckainaaGreat
section
open Go.RowKit
set_option maxRecDepth 100000

theorem indexByte_mem (c : UInt8) : ∀ l : List UInt8, decide (0 ≤ Lib.indexByte l c) = l.contains c
  | [] => rfl
  | b :: l => by
    have ih := indexByte_mem c l
    have hlb : ∀ l : List UInt8, -1 ≤ Lib.indexByte l c := by
      intro l
      induction l with
      | nil => simp [Lib.indexByte]
      | cons b l ih => simp only [Lib.indexByte]; split <;> (try split) <;> omega
    have h1 := hlb l
    simp only [Lib.indexByte, List.contains_cons]
    by_cases hbc : b = c
    · subst hbc; simp
    · have e1 : (b == c) = false := by simpa using hbc
      have e2 : (c == b) = false := by simp; exact fun h => hbc h.symm
      rw [e2, ← ih, Bool.false_or]
      refine decide_eq_decide.2 ?_
      rw [e1]
      simp only [Bool.false_eq_true, if_false]
      by_cases h2 : Lib.indexByte l c = -1
      · simp [h2]
      · have e3 : (Lib.indexByte l c == -1) = false := by simpa using h2
        rw [e3]; simp; omega

def validB (s : ByteArray) : Bool := S.valid s.data.toList
def nameN (s : ByteArray) : Nat := S.name s.data.toList
theorem validB_eq (s : ByteArray) : validB s = (runesOk s && decide (s.size ≤ 64) && !decide (0 ≤ Lib.indexByte s.data.toList 0)) := by
  rw [indexByte_mem]; rfl

set_option maxHeartbeats 400000 in
theorem valid_any (s : ByteArray) (w : World) (hs : s.size ≤ maxLen) :
    Calls Tryz.prog 133 #[.string s] w fun e w' => e = .returned (.bool (validB s)) ∧ Below w.heap.size w w' := by
  have E := validB_eq s
  unfold maxLen at hs
  cases h1 : runesOk s with
  | false =>
    rw [h1] at E
    replace E := hid E
    replace h1 := hid h1
    go_enter Tryz.func133, Tryz.ntmps133
    go_wp2_with (go_at_call 170; refine (runes_any s _ (by unfold maxLen; omega)).mono ?_; rw [h1.out]; rintro e w' ⟨rfl, hb⟩)
    go_ret
    exact ⟨by rw [E.out]; rfl, hb⟩
  | true =>
    rw [h1] at E
    replace h1 := hid h1
    by_cases h2 : s.size ≤ 64
    · rw [decide_eq_true h2] at E
      replace E := hid E
      go_enter Tryz.func133, Tryz.ntmps133
      go_wp2_with (first | (go_at_call 170; refine (runes_any s _ (by unfold maxLen; omega)).mono ?_; rw [h1.out]; rintro e w' ⟨rfl, hb⟩) | (go_at_call 171; refine (Tryz.strings_Contains_one s 0 _).mono ?_; rintro e w' ⟨rfl, rfl⟩))
      go_ret
      exact ⟨by rw [E.out]; rfl, hb⟩
    · rw [decide_eq_false h2] at E
      replace E := hid E
      go_enter Tryz.func133, Tryz.ntmps133
      go_wp2_with (first | (go_at_call 170; refine (runes_any s _ (by unfold maxLen; omega)).mono ?_; rw [h1.out]; rintro e w' ⟨rfl, hb⟩))
      go_ret
      exact ⟨by rw [E.out]; rfl, hb⟩

theorem bytesWorld_cell' (w : World) (e : TypeId) (s : ByteArray) (j : Nat) (hj : j < s.size) : (Lib.bytesWorld w e s).cell? ⟨w.heap.size, j, none⟩ = some (.int .u8 (s[j].toNat : Int)) := by
  rw [Lib.bytesWorld_cell w e s j hj]
  have : s.data.toList.getD j 0 = s[j] := by
    simp only [List.getD_eq_getElem?_getD]
    rw [List.getElem?_eq_getElem (by simpa using hj)]; rfl
  rw [this]

theorem bad_any (c : Nat) (w : World) (hc : c < 256) :
    Calls Tryz.prog 182 #[.int .u8 (c : Int)] w fun e w' => e = .returned (.bool (decide (c < 32) || c == 47)) ∧ w = w' := by
  by_cases h1 : c < 32
  · go_enter Tryz.func182, Tryz.ntmps182
    go_wp2
    go_ret
    exact ⟨ret_bool (by simp), rfl⟩
  · go_enter Tryz.func182, Tryz.ntmps182
    go_wp2
    go_ret
    exact ⟨ret_bool (by rw [show decide (c < 32) = false from decide_eq_false h1, show decide ((c : Int) < 32) = false from decide_eq_false (by omega)]; exact Bool.eq_iff_iff.2 (by simp; omega)), rfl⟩

theorem name_eq (s : ByteArray) : nameN s = if !validB s || s.toList.isEmpty || s.toList == [46] || s.toList == [46, 46] then 6 else if s.data.toList.any S.badByte then 6 else if 28 < s.size then 3 else 0 := by
  rw [ByteArray.toList_eq]; rfl

set_option maxHeartbeats 800000 in
theorem name_any (s : ByteArray) (w : World) (hs : s.size ≤ maxLen) :
    Calls Tryz.prog 145 #[.string s] w fun e w' => e = .returned (.int .i64 (nameN s : Int)) ∧ Below w.heap.size w w' := by
  unfold maxLen at hs
  have E := name_eq s
  cases h1 : validB s with
  | false =>
    rw [h1] at E
    have E1 : Hid (nameN s = 6) := hid (by rw [E]; rfl)
    clear E
    replace h1 := hid h1
    go_enter Tryz.func145, Tryz.ntmps145
    go_wp2_with (go_at_call 133; refine (valid_any s _ (by unfold maxLen; omega)).mono ?_; rw [h1.out]; rintro e w' ⟨rfl, hb⟩)
    go_ret
    exact ⟨by rw [E1.out]; rfl, hb⟩
  | true =>
    rw [h1] at E
    replace h1 := hid h1
    by_cases h2 : (s.toList.isEmpty || s.toList == [46] || s.toList == [46, 46]) = true
    · have E1 : Hid (nameN s = 6) := hid (by rw [E]; simp only [Bool.not_true, Bool.false_or]; rw [if_pos h2])
      clear E
      go_enter Tryz.func145, Tryz.ntmps145
      go_wp2_with (go_at_call 133; refine (valid_any s _ (by unfold maxLen; omega)).mono ?_; rw [h1.out]; rintro e w' ⟨rfl, hb⟩)
      all_goals (go_ret; exact ⟨by rw [E1.out]; rfl, hb⟩)
    · have E1 := hid E
      have h3 : s.toList.isEmpty = false ∧ (s.toList == [46]) = false ∧ (s.toList == [46, 46]) = false := by simpa [and_assoc] using h2
      obtain ⟨h3, h4, h5⟩ := h3
      clear E h2
      have hcv := fun W => Lib.run_convert_string_bytes (P := Tryz.prog) W 9 226 5 s Tryz.underlying9 Tryz.underlying226 Tryz.underlying5
      go_enter Tryz.func145, Tryz.ntmps145
      go_wp2_with (go_at_call 133; refine (valid_any s _ (by unfold maxLen; omega)).mono ?_; rw [h1.out]; rintro e w' ⟨rfl, hb⟩)
      have hbd : Below w.heap.size w (Lib.bytesWorld w' 5 s) := hb.trans ⟨rfl, rfl, rfl, by rw [Lib.bytesWorld_size]; omega, fun k hk => Lib.bytesWorld_at_old w' _ s k (by have := hb.size; omega)⟩
      go_loop [23] (fun i => ∃ k : Nat, k ≤ s.size ∧ i = .int .i64 (k : Int) ∧ Hid ((s.data.toList.take k).any S.badByte = false)) (fun i => s.size - (intOf i).toNat)
      case atStart => exact ⟨0, by omega, rfl, hid rfl⟩
      case round =>
        obtain ⟨k, hk, rfl, hany⟩ := hrel
        by_cases hlt : k < s.size
        · have hcl := bytesWorld_cell' w' 5 s k hlt
          have hta := S.take_any s S.badByte k hlt
          rw [hany.out, Bool.false_or] at hta
          cases hbad : S.badByte s[k] with
          | true =>
            have hb2 : Hid ((decide (s[k].toNat < 32) || s[k].toNat == 47) = true) := hid hbad
            have E2 : Hid (nameN s = 6) := hid (by
              rw [E1.out]; rw [hbad] at hta
              simp only [h3, h4, h5, Bool.not_true, Bool.or_self, Bool.false_eq_true, if_false]
              rw [if_pos (S.any_of_take (k + 1) hta)])
            clear E1 hta hbad
            go_wp2_with (go_at_call 182; refine (bad_any _ _ s[k].toNat_lt).mono ?_; rw [hb2.out]; rintro e w' ⟨rfl, rfl⟩)
            go_ret
            exact ⟨by rw [E2.out]; rfl, hbd⟩
          | false =>
            have hb2 : Hid ((decide (s[k].toNat < 32) || s[k].toNat == 47) = false) := hid hbad
            replace hta := hid (hta.trans hbad)
            clear hbad
            go_wp2_with (go_at_call 182; refine (bad_any _ _ s[k].toNat_lt).mono ?_; rw [hb2.out]; rintro e w' ⟨rfl, rfl⟩)
            go_round
            case rel => exact ⟨k + 1, by omega, by go_num, hta⟩
            case measure => simp [intOf]; omega
        · obtain rfl : k = s.size := by omega
          have E2 : Hid (nameN s = if 28 < s.size then 3 else 0) := hid (by
            rw [E1.out]
            have h := hany.out
            rw [List.take_of_length_le (by simp)] at h
            simp only [h3, h4, h5, h, Bool.not_true, Bool.or_self, Bool.false_eq_true, if_false])
          clear E1
          by_cases h28 : 28 < s.size
          · go_wp2_with fail
            go_ret
            exact ⟨by rw [E2.out, if_pos h28]; rfl, hbd⟩
          · go_wp2_with fail
            go_ret
            exact ⟨by rw [E2.out, if_neg h28]; rfl, hbd⟩

end
end Go.Proofs.YtkefjeabckainaaGreat
