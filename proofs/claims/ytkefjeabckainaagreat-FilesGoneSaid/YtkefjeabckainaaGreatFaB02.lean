/- What num.Of and the methods of num.In do, under bounds on lengths that each theorem names. No further condition. And the texts behind it. -/
import Derived.Test.YtkefjeabckainaaGreatFaB01
import Derived.Recover
import Derived.Test.YtkefjeabckainaaGreatProg
import Derived.WalkKit
import Derived.WalkSpells
import Derived.WalkLawsBesides
namespace Go.Proofs.YtkefjeabckainaaGreat
section
open Go.RowKit
set_option maxRecDepth 100000

theorem block_cell {w : World} {b : Nat} {cs : Array Value} {t : TypeId} {fr : Nat × Nat} (h : w.heap[b]? = some (.cells cs t fr)) (i : Nat) : w.cell? ⟨b, i, none⟩ = cs[i]? := by simp [World.cell?, h]
theorem block_free {w : World} {b : Nat} {cs : Array Value} {t : TypeId} (h : w.heap[b]? = some (.cells cs t (0, 0))) (i : Nat) : w.frozen? ⟨b, i, none⟩ = false := by simp [World.frozen?, h]
theorem block_set {w : World} {b : Nat} {cs : Array Value} {t : TypeId} {fr : Nat × Nat} (h : w.heap[b]? = some (.cells cs t fr)) (i : Nat) (u : Value) : (w.setCell ⟨b, i, none⟩ u).heap[b]? = some (.cells (cs.setIfInBounds i u) t fr) := by
  have hlt := lt_of_block h
  have h' : w.heap[b] = .cells cs t fr := by simpa [Array.getElem?_eq_getElem hlt] using h
  show (w.heap.modify b _)[b]? = _
  rw [Array.getElem?_modify, if_pos rfl, h]
  rfl
theorem block_set_other {w : World} {b : Nat} {p : Addr} {u : Value} (hne : b ≠ p.block) : (w.setCell p u).heap[b]? = w.heap[b]? := Below.heap_setCell _ _ _ _ hne

theorem RowAt.other {w w' : World} {k n : Nat} {v : Value} {xs : List Value} (h : RowAt w k v n xs) (hsz : w.heap.size ≤ w'.heap.size) (hk : ∀ j, v.ownBlock = some j → w'.heap[j]? = w.heap[j]?) : RowAt w' k v n xs := by
  obtain ⟨hl, a, c, rfl, h1, h2, h3, h5, h4⟩ := h
  refine ⟨hl, a, c, rfl, h1, h2, h3, fun ad ha => ⟨(h5 ad ha).1, Nat.lt_of_lt_of_le (h5 ad ha).2 hsz⟩, fun i u hu => ?_⟩
  obtain ⟨b, o, rfl, hc⟩ := h4 i u hu
  refine ⟨b, o, rfl, ?_⟩
  rw [World.cell?_of_block (w := w) (hk b rfl)]; exact hc
theorem BytesAt.setCell {w : World} {v : Value} {l : List UInt8} (h : BytesAt w v l) {p : Addr} (u : Value) (hne : v.ownBlock ≠ some p.block) : BytesAt (w.setCell p u) v l :=
  RowAt.other h (by simp [World.setCell]) fun j hj => block_set_other fun e => hne (by rw [hj, e])

def errChain (e : Nat) : List PanicEntry := [{ v := .iface 33 (.int .i64 (e : Int)), recovered := false }]
def errChainR (e : Nat) : List PanicEntry := [{ v := .iface 33 (.int .i64 (e : Int)), recovered := true }]

end
end Go.Proofs.YtkefjeabckainaaGreat

namespace Go.Proofs.YtkefjeabckainaaGreat
section
open Go.RowKit

def noneChain : List PanicEntry := [{ v := .iface 252 (.agg #[]), recovered := false }]

theorem head_cases {c n v l : Nat} (h : S.head c = some (n, v, l)) :
    (c < 128 ∧ n = 0 ∧ v = c ∧ l = 0) ∨ (128 ≤ c ∧ c / 32 = 6 ∧ n = 1 ∧ v = c % 32 ∧ l = 128) ∨ (128 ≤ c ∧ c / 32 ≠ 6 ∧ c / 16 = 14 ∧ n = 2 ∧ v = c % 16 ∧ l = 2048) ∨
    (128 ≤ c ∧ c / 32 ≠ 6 ∧ c / 16 ≠ 14 ∧ c / 8 = 30 ∧ n = 3 ∧ v = c % 8 ∧ l = 65536) := by
  unfold S.head at h
  split at h
  · simp at h; omega
  split at h
  · simp at h; omega
  split at h
  · simp at h; omega
  split at h
  · simp at h; omega
  · simp at h

theorem head_no {c : Nat} (h : S.head c = none) : 128 ≤ c ∧ c / 32 ≠ 6 ∧ c / 16 ≠ 14 ∧ c / 8 ≠ 30 := by
  unfold S.head at h
  split at h
  · simp at h
  split at h
  · simp at h
  split at h
  · simp at h
  split at h
  · simp at h
  · omega

set_option maxRecDepth 100000 in
set_option maxHeartbeats 400000 in
theorem head_some (c : UInt8) (n v l : Nat) (w : World) (h : S.head c.toNat = some (n, v, l)) :
    Calls Tryz.prog 201 #[.int .u8 (c.toNat : Int)] w fun e w' => e = .returned (.tuple #[.int .i64 (n : Int), .int .i32 (v : Int), .int .i32 (l : Int)]) ∧ w = w' := by
  have hc := c.toNat_lt
  generalize c.toNat = c at h hc
  rcases head_cases h with ⟨h1, rfl, rfl, rfl⟩ | ⟨h1, h2, rfl, rfl, rfl⟩ | ⟨h1, h2, h3, rfl, rfl, rfl⟩ | ⟨h1, h2, h3, h4, rfl, rfl, rfl⟩
  · clear h
    go_enter Tryz.func201, Tryz.ntmps201
    go_wp2
    go_ret3
    exact ⟨rfl, rfl⟩
  · have k2 : (((c : Nat) : Int) / 32 == 6) = true := by simp; omega
    clear h h2
    go_enter Tryz.func201, Tryz.ntmps201
    go_wp2
    go_ret3
    exact ⟨rfl, rfl⟩
  · have k2 : (((c : Nat) : Int) / 32 == 6) = false := by simp; omega
    have k3 : (((c : Nat) : Int) / 16 == 14) = true := by simp; omega
    clear h h2 h3
    go_enter Tryz.func201, Tryz.ntmps201
    go_wp2
    go_ret3
    exact ⟨rfl, rfl⟩
  · have k2 : (((c : Nat) : Int) / 32 == 6) = false := by simp; omega
    have k3 : (((c : Nat) : Int) / 16 == 14) = false := by simp; omega
    have k4 : (((c : Nat) : Int) / 8 == 30) = true := by simp; omega
    clear h h2 h3 h4
    go_enter Tryz.func201, Tryz.ntmps201
    go_wp2
    go_ret3
    exact ⟨rfl, rfl⟩

set_option maxRecDepth 100000 in
set_option maxHeartbeats 400000 in
theorem head_none (c : UInt8) (w : World) (h : S.head c.toNat = none) :
    Calls Tryz.prog 201 #[.int .u8 (c.toNat : Int)] w fun e w' => e = .panicked noneChain ∧ w = w' := by
  have hc := c.toNat_lt
  generalize c.toNat = c at h hc
  obtain ⟨h1, h2, h3, h4⟩ := head_no h
  have k2 : (((c : Nat) : Int) / 32 == 6) = false := by simp; omega
  have k3 : (((c : Nat) : Int) / 16 == 14) = false := by simp; omega
  have k4 : (((c : Nat) : Int) / 8 == 30) = false := by simp; omega
  clear h h2 h3 h4
  go_enter Tryz.func201, Tryz.ntmps201
  go_wp2
  exact ⟨rfl, rfl, rfl⟩

def oneEnd : Option Nat → Ending
  | some n => .returned (.int .i64 (n : Int))
  | none => .panicked noneChain

theorem one_eq (s : ByteArray) (h0 : 0 < s.size) : S.one s.data.toList = match S.head s[0].toNat with
    | none => none
    | some (n, v, least) => if s.size ≤ n then none else match S.cont n v (s.data.toList.drop 1) with
      | none => none
      | some v => if S.good v least then some (n + 1) else none := by
  have e : s.data.toList = s[0] :: s.data.toList.drop 1 := by
    have h : 0 < s.data.toList.length := by simpa using h0
    exact List.drop_eq_getElem_cons h
  conv => lhs; rw [e]
  unfold S.one
  have : (s[0] :: List.drop 1 s.data.toList).length = s.size := by rw [← e]; simp
  simp only [this]
  rfl

set_option maxRecDepth 100000 in
set_option maxHeartbeats 400000 in
theorem one_any (s : ByteArray) (w : World) (hs : s.size ≤ maxLen) (h0 : 0 < s.size) :
    Calls Tryz.prog 193 #[.string s] w fun e w' => e = oneEnd (S.one s.data.toList) ∧ w = w' := by
  unfold maxLen at hs
  have E := hid (one_eq s h0)
  cases hh : S.head s[0].toNat with
  | none =>
    have E2 : Hid (S.one s.data.toList = none) := by have := E.out; rw [hh] at this; exact this
    have H := hid hh
    clear hh E
    go_enter Tryz.func193, Tryz.ntmps193
    go_wp2_with (go_at_call 201; refine (head_none _ _ H.out).mono ?_; rintro e w' ⟨rfl, rfl⟩)
    exact ⟨rfl, by rw [E2.out]; rfl, rfl⟩
  | some t =>
    obtain ⟨n, v, l⟩ := t
    have hl := S.head_lt hh
    have hle : n < s.size → Hid (S.one s.data.toList = match S.cont n v (s.data.toList.drop 1) with
      | none => none
      | some v => if S.good v l then some (n + 1) else none) := by
      intro h; have := E.out; rw [hh] at this; simp only [if_neg (show ¬ s.size ≤ n by omega)] at this; exact this
    have hgt : s.size ≤ n → Hid (S.one s.data.toList = none) := by
      intro h; have := E.out; rw [hh] at this; simp only [if_pos h] at this; exact this
    have H := hid hh
    clear hh E
    obtain ⟨hn, hb⟩ := hl
    by_cases hsz : s.size ≤ n
    · have E2 := hgt hsz
      clear hgt hle hb
      go_enter Tryz.func193, Tryz.ntmps193
      go_wp2_with (go_at_call 201; refine (head_some _ _ _ _ _ H.out).mono ?_; rintro e w' ⟨rfl, rfl⟩)
      exact ⟨rfl, by rw [E2.out]; rfl, rfl⟩
    have E2 := hle (by omega)
    clear hgt hle
    have hb := hid hb
    go_enter Tryz.func193, Tryz.ntmps193
    go_wp2_with (go_at_call 201; refine (head_some _ _ _ _ _ H.out).mono ?_; rintro e w' ⟨rfl, rfl⟩)
    go_loop [4, 6] (fun x i => ∃ k vi : Nat, 1 ≤ k ∧ k ≤ n + 1 ∧ i = .int .i64 (k : Int) ∧ x = .int .i32 (vi : Int) ∧ Hid ((vi + 1) * 64 ^ (n + 1 - k) ≤ 2097152) ∧ Hid (S.cont n v (s.data.toList.drop 1) = S.cont (n + 1 - k) vi (s.data.toList.drop k))) (fun _ i => n + 1 - (intOf i).toNat)
    case atStart => exact ⟨1, v, by omega, by omega, rfl, rfl, hid (by simpa using hb.out), hid rfl⟩
    case round =>
      obtain ⟨k, vi, hk1, hk2, rfl, rfl, hbd, hcont⟩ := hrel
      by_cases hk : k = n + 1
      · obtain rfl : n = k - 1 := by omega
        have hfin := hcont.out
        rw [show k - 1 + 1 - k = 0 from by omega] at hfin
        simp only [S.cont] at hfin
        have hv := S.bound_v hbd.out
        have E3 : Hid (S.one s.data.toList = if S.good vi l then some k else none) := by
          have := E2.out; rw [hfin] at this; exact hid (by simpa [show k - 1 + 1 = k by omega] using this)
        clear hfin hcont E2 H hb hbd hk
        go_wp2
        all_goals first
          | (exact ⟨rfl, by rw [E3.out, show S.good vi l = false from by unfold S.good; simp; omega]; rfl, rfl⟩)
          | (go_ret; exact ⟨by rw [E3.out, show S.good vi l = true from by unfold S.good; simp; omega]; exact congrArg (fun x => Ending.returned (Value.int .i64 x)) (by omega), rfl⟩)
      · have hbd' := hbd.out
        rw [show n + 1 - k = (n - k) + 1 from by omega] at hbd'
        have hv := S.bound_v hbd'
        have hbd'' := hid hbd'
        clear hbd' hbd
        have hklt : k < s.size := by omega
        have hkd : k < s.data.toList.length := by simpa using hklt
        by_cases hc : s[k].toNat / 64 = 2
        · have hstep := hid (S.cont_step (k := n - k) (v := vi) (l := s.data.toList) k hkd hc)
          have k2 : (((s[k].toNat : Nat) : Int) / 64 != 2) = false := by simp; omega
          have hb1 : ((s[k].toNat : Nat) : Int) ≤ 255 := by have := s[k].toNat_lt; omega
          have hb2 := S.bound_step hbd''.out (show s[k].toNat % 64 < 64 by omega)
          have hb3 := hid hb2
          clear hc hb2
          go_wp2
          go_round
          case rel => exact ⟨k + 1, vi * 64 + s[k].toNat % 64, by omega, by omega, by go_num, by go_num, hid (by rw [show n + 1 - (k + 1) = n - k from by omega]; exact hb3.out), hid (by rw [hcont.out, show n + 1 - k = n - k + 1 from by omega, hstep.out, show n + 1 - (k + 1) = n - k from by omega]; rfl)⟩
          case measure => simp [intOf]; omega
        · have hstop := hid (S.cont_stop (k := n - k) (v := vi) (l := s.data.toList) k hkd hc)
          have k2 : (((s[k].toNat : Nat) : Int) / 64 != 2) = true := by simp; omega
          clear hc
          go_wp2
          exact ⟨rfl, by rw [E2.out, hcont.out, show n + 1 - k = (n - k) + 1 from by omega, hstop.out]; rfl, rfl⟩




theorem one_some {s : ByteArray} {n : Nat} (w : World) (hs : s.size ≤ maxLen) (h : S.one s.data.toList = some n) :
    Calls Tryz.prog 193 #[.string s] w fun e w' => e = .returned (.int .i64 (n : Int)) ∧ w = w' := by
  have := one_any s w hs (by have := S.one_le h; simp at this; omega)
  rw [h] at this; exact this
theorem one_none {s : ByteArray} (w : World) (hs : s.size ≤ maxLen) (h0 : 0 < s.size) (h : S.one s.data.toList = none) :
    Calls Tryz.prog 193 #[.string s] w fun e w' => e = .panicked noneChain ∧ w = w' := by
  have := one_any s w hs h0
  rw [h] at this; exact this
end
end Go.Proofs.YtkefjeabckainaaGreat

namespace Go.Proofs.YtkefjeabckainaaGreat
section
open Go.RowKit
set_option maxRecDepth 100000

theorem neq_none (w : World) : (binOp .neq 20 (.iface 252 (.agg #[])) (.iface 252 (.agg #[]))).run Tryz.prog w = .ok (.bool false) w := by kernel_rfl


theorem runes1_panicking (p q : Addr) (x : Int) (y : Bool) (w : World) (hc : w.cell? p = some (.int .i64 x)) (hz : w.frozen? p = false) (hq : (w.setCell p (.int .i64 0)).cell? q = some (.bool y)) (hqz : w.frozen? q = false) :
    CallsD Tryz.prog 192 #[.pointer (some p), .pointer (some q)] (.panicking noneChain) w fun e u' w' =>
      e = .returned (.tuple #[]) ∧ u' = .panicking [{ v := .iface 252 (.agg #[]), recovered := true }] ∧ w' = (w.setCell p (.int .i64 0)).setCell q (.bool false) := by
  have hne := neq_none
  refine callsD_of_wpS Tryz.func192 rfl fun c₀ cs hu => ?_
  apply wpS_seq
  apply wpS_region
  simp [wpOpsS, go_sem, recoverD, hu, noneChain, Tryz.ntmps192, Exit.thenS, Array.replicate_succ]
  apply wpS_body
  go_wp2
  go_end0
  exact ⟨rfl, rfl⟩

theorem runes1_idle (p q : Addr) (w : World) :
    CallsD Tryz.prog 192 #[.pointer (some p), .pointer (some q)] .returning w fun e u' w' => e = .returned (.tuple #[]) ∧ u' = .returning ∧ w' = w := by
  refine callsD_of_wpS Tryz.func192 rfl fun c₀ cs hu => ?_
  apply wpS_seq
  apply wpS_region
  simp [wpOpsS, go_sem, recoverD, hu, Tryz.ntmps192, Exit.thenS, Array.replicate_succ]
  rw [show c₀ = { c₀ with mode := .returning } from by cases c₀; simp_all]
  apply wpS_body
  go_wp2
  go_end0
  exact ⟨rfl, rfl⟩

def strOf : Value → ByteArray | .string s => s | _ => ByteArray.empty

def runesN (s : ByteArray) : Nat := (S.runes s.data.toList).getD 0
def runesOk (s : ByteArray) : Bool := (S.runes s.data.toList).isSome

set_option maxHeartbeats 400000 in
theorem runes_any (s : ByteArray) (w : World) (hs : s.size ≤ maxLen) :
    Calls Tryz.prog 170 #[.string s] w fun e w' => e = .returned (.tuple #[.int .i64 (runesN s : Int), .bool (runesOk s)]) ∧ Below w.heap.size w w' := by
  unfold maxLen at hs
  have hmf : ∀ (fn : Fn) (first cap : Array Value) (w : World), (Instr.makeFunc fn first cap).run Tryz.prog w = .ok (.func fn first cap) w := fun _ _ _ _ => rfl
  go_enter_defers Tryz.func170, Tryz.ntmps170
  go_wp2
  go_loopw [0] (fun sv wr => ∃ (k : Nat) (t : ByteArray), sv = .string t ∧ wr = (w.alloc (.cells #[.int .i64 (k : Int)] 3)).alloc (.cells #[.bool false] 4) ∧ k + t.size ≤ s.size ∧ Hid (S.runes s.data.toList = (S.runes t.data.toList).map (· + k))) (fun sv _ => (strOf sv).size)
  case atStart => exact ⟨0, s, rfl, rfl, by omega, by exact hid (by simp)⟩
  case round =>
    obtain ⟨k, t, rfl, rfl, hkt, hr⟩ := hrel
    by_cases ht : t.size = 0
    · obtain ⟨e1, e2⟩ := str_empty ht
      have hn : t.data.toList = [] := List.eq_nil_of_length_eq_zero (by simpa using ht)
      have E : S.runes s.data.toList = some k := (by rw [hr.out, hn]; simp [S.runes_nil])
      have E1 := hid (show runesN s = k by unfold runesN; rw [E]; rfl)
      have E2 := hid (show runesOk s = true by unfold runesOk; rw [E]; rfl)
      clear hn ht E hr
      go_wp2_with fail
      refine leaves_cons (f := 192) (args := #[.pointer (some ⟨w.heap.size, 0, none⟩), .pointer (some ⟨w.heap.size + 1, 0, none⟩)]) (by simp) (by simp [go_sem]) ?_
      refine (runes1_idle ⟨w.heap.size, 0, none⟩ ⟨w.heap.size + 1, 0, none⟩ _).mono ?_
      rintro e u' w'' ⟨rfl, rfl, rfl⟩
      simp [Leaves, settle, results, Tryz.results170, go_sem]
      exact ⟨⟨by rw [E1.out], E2.out⟩, ((Below.refl _ _).alloc (Nat.le_refl _) _).alloc (by simp) _⟩
    · obtain ⟨e1, e2⟩ := str_full (t := t) (by omega)
      have ht0 : t.data.toList ≠ [] := fun h => ht (by simpa using congrArg List.length h)
      cases h1 : S.one t.data.toList with
      | none =>
        have E : S.runes s.data.toList = none := (by rw [hr.out, S.runes_none ht0 h1]; rfl)
        have E1 := hid (show runesN s = 0 by unfold runesN; rw [E]; rfl)
        have E2 := hid (show runesOk s = false by unfold runesOk; rw [E]; rfl)
        have h1 := hid h1
        have ht1 : 0 < t.size := by omega
        clear ht0 ht E hr
        go_wp2_with (go_at_call 193; refine (one_none _ (by unfold maxLen; omega) ht1 h1.out).mono ?_; rintro e w' ⟨rfl, rfl⟩)
        refine leaves_cons (f := 192) (args := #[.pointer (some ⟨w.heap.size, 0, none⟩), .pointer (some ⟨w.heap.size + 1, 0, none⟩)]) (by simp) (by simp [go_sem]) ?_
        refine (runes1_panicking ⟨w.heap.size, 0, none⟩ ⟨w.heap.size + 1, 0, none⟩ k false _ ?_ ?_ ?_ ?_).mono ?_
        · simp [go_sem]
        · simp [go_sem]
        · simp [go_sem]
        · simp [go_sem]
        rintro e u' w'' ⟨rfl, rfl, rfl⟩
        simp [Leaves, settle, results, Tryz.results170, go_sem]
        exact ⟨⟨by rw [E1.out]; rfl, E2.out⟩, ((Below.refl _ _).alloc (Nat.le_refl _) _).alloc (by simp) _⟩
      | some n =>
        have hle := S.one_le h1
        have E : Hid (S.runes s.data.toList = (S.runes (t.data.toList.drop n)).map (· + (k + 1))) := hid (by rw [hr.out, S.runes_some h1]; cases S.runes (t.data.toList.drop n) <;> simp; omega)
        have hle1 := hle.1
        have hle2 : n ≤ t.size := by simpa using hle.2
        have h1 := hid h1
        clear ht0 hle hr
        go_wp2_with (go_at_call 193; refine (one_some _ (by unfold maxLen; omega) h1.out).mono ?_; rintro e w' ⟨rfl, rfl⟩)
        go_roundw
        case rel => exact ⟨k + 1, t.extract n t.size, rfl, by simp, by simp; omega, hid (by rw [E.out, S.data_extract])⟩
        case measure => simp [strOf]; omega
end
end Go.Proofs.YtkefjeabckainaaGreat

namespace Go.Proofs.YtkefjeabckainaaGreat
section
open Go.RowKit
set_option maxRecDepth 100000
end
end Go.Proofs.YtkefjeabckainaaGreat
