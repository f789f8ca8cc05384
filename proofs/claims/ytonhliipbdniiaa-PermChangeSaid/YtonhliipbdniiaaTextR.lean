/- What text.Runes returns, for every text of at most maxLen bytes. No further condition. -/
import Derived.Test.YtonhliipbdniiaaText
import Derived.Recover
namespace Go.Proofs.Ytonhliipbdniiaa
open Go.RowKit
set_option maxRecDepth 100000

theorem neq_none (w : World) : (binOp .neq 20 (.iface 153 (.agg #[])) (.iface 153 (.agg #[]))).run Try.prog w = .ok (.bool false) w := by kernel_rfl


theorem runes1_panicking (p q : Addr) (x : Int) (y : Bool) (w : World) (hc : w.cell? p = some (.int .i64 x)) (hz : w.frozen? p = false) (hq : (w.setCell p (.int .i64 0)).cell? q = some (.bool y)) (hqz : w.frozen? q = false) :
    CallsD Try.prog 95 #[.pointer (some p), .pointer (some q)] (.panicking noneChain) w fun e u' w' =>
      e = .returned (.tuple #[]) ∧ u' = .panicking [{ v := .iface 153 (.agg #[]), recovered := true }] ∧ w' = (w.setCell p (.int .i64 0)).setCell q (.bool false) := by
  have hne := neq_none
  refine callsD_of_wpS Try.func95 rfl fun c₀ cs hu => ?_
  apply wpS_seq
  apply wpS_region
  simp [wpOpsS, go_sem, recoverD, hu, noneChain, Try.ntmps95, Exit.thenS, Array.replicate_succ]
  apply wpS_body
  go_wp2
  go_end0
  exact ⟨rfl, rfl⟩

theorem runes1_idle (p q : Addr) (w : World) :
    CallsD Try.prog 95 #[.pointer (some p), .pointer (some q)] .returning w fun e u' w' => e = .returned (.tuple #[]) ∧ u' = .returning ∧ w' = w := by
  refine callsD_of_wpS Try.func95 rfl fun c₀ cs hu => ?_
  apply wpS_seq
  apply wpS_region
  simp [wpOpsS, go_sem, recoverD, hu, Try.ntmps95, Exit.thenS, Array.replicate_succ]
  rw [show c₀ = { c₀ with mode := .returning } from by cases c₀; simp_all]
  apply wpS_body
  go_wp2
  go_end0
  exact ⟨rfl, rfl⟩

def strOf : Value → ByteArray | .string s => s | _ => ByteArray.empty

def runesN (s : ByteArray) : Nat := (S.runes s.data.toList).getD 0
def runesOk (s : ByteArray) : Bool := (S.runes s.data.toList).isSome

set_option maxHeartbeats 400000 in
theorem runes_any (s : ByteArray) (w : World) (hs : s.size ≤ maxLen) :
    Calls Try.prog 76 #[.string s] w fun e w' => e = .returned (.tuple #[.int .i64 (runesN s : Int), .bool (runesOk s)]) ∧ Below w.heap.size w w' := by
  unfold maxLen at hs
  have hmf : ∀ (fn : Fn) (first cap : Array Value) (w : World), (Instr.makeFunc fn first cap).run Try.prog w = .ok (.func fn first cap) w := fun _ _ _ _ => rfl
  go_enter_defers Try.func76, Try.ntmps76
  go_wp2
  go_loopw [0] (fun sv wr => ∃ (k : Nat) (t : ByteArray), sv = .string t ∧ wr = (w.alloc (.cells #[.int .i64 (k : Int)] 3)).alloc (.cells #[.bool false] 4) ∧ k + t.size ≤ s.size ∧ Hid (S.runes s.data.toList = (S.runes t.data.toList).map (· + k))) (fun sv _ => (strOf sv).size)
  case atStart => exact ⟨0, s, rfl, rfl, by omega, by exact hid (by simp)⟩
  case round =>
    obtain ⟨k, t, rfl, rfl, hkt, hr⟩ := hrel
    by_cases ht : t.size = 0
    · obtain ⟨e1, e2⟩ := str_empty ht
      have hn : t.data.toList = [] := List.eq_nil_of_length_eq_zero (by simpa using ht)
      have E : S.runes s.data.toList = some k := (by rw [hr.out, hn]; simp [S.runes_nil])
      have E1 := hid (show runesN s = k by unfold runesN; rw [E]; rfl)
      have E2 := hid (show runesOk s = true by unfold runesOk; rw [E]; rfl)
      clear hn ht E hr
      go_wp2_with fail
      refine leaves_cons (f := 95) (args := #[.pointer (some ⟨w.heap.size, 0, none⟩), .pointer (some ⟨w.heap.size + 1, 0, none⟩)]) (by simp) (by simp [go_sem]) ?_
      refine (runes1_idle ⟨w.heap.size, 0, none⟩ ⟨w.heap.size + 1, 0, none⟩ _).mono ?_
      rintro e u' w'' ⟨rfl, rfl, rfl⟩
      simp [Leaves, settle, results, Try.results76, go_sem]
      exact ⟨⟨by rw [E1.out], E2.out⟩, ((Below.refl _ _).alloc (Nat.le_refl _) _).alloc (by simp) _⟩
    · obtain ⟨e1, e2⟩ := str_full (t := t) (by omega)
      have ht0 : t.data.toList ≠ [] := fun h => ht (by simpa using congrArg List.length h)
      cases h1 : S.one t.data.toList with
      | none =>
        have E : S.runes s.data.toList = none := (by rw [hr.out, S.runes_none ht0 h1]; rfl)
        have E1 := hid (show runesN s = 0 by unfold runesN; rw [E]; rfl)
        have E2 := hid (show runesOk s = false by unfold runesOk; rw [E]; rfl)
        have h1 := hid h1
        have ht1 : 0 < t.size := by omega
        clear ht0 ht E hr
        go_wp2_with (go_at_call 96; refine (one_none _ (by unfold maxLen; omega) ht1 h1.out).mono ?_; rintro e w' ⟨rfl, rfl⟩)
        refine leaves_cons (f := 95) (args := #[.pointer (some ⟨w.heap.size, 0, none⟩), .pointer (some ⟨w.heap.size + 1, 0, none⟩)]) (by simp) (by simp [go_sem]) ?_
        refine (runes1_panicking ⟨w.heap.size, 0, none⟩ ⟨w.heap.size + 1, 0, none⟩ k false _ ?_ ?_ ?_ ?_).mono ?_
        · simp [go_sem]
        · simp [go_sem]
        · simp [go_sem]
        · simp [go_sem]
        rintro e u' w'' ⟨rfl, rfl, rfl⟩
        simp [Leaves, settle, results, Try.results76, go_sem]
        exact ⟨⟨by rw [E1.out]; rfl, E2.out⟩, ((Below.refl _ _).alloc (Nat.le_refl _) _).alloc (by simp) _⟩
      | some n =>
        have hle := S.one_le h1
        have E : Hid (S.runes s.data.toList = (S.runes (t.data.toList.drop n)).map (· + (k + 1))) := hid (by rw [hr.out, S.runes_some h1]; cases S.runes (t.data.toList.drop n) <;> simp; omega)
        have hle1 := hle.1
        have hle2 : n ≤ t.size := by simpa using hle.2
        have h1 := hid h1
        clear ht0 hle hr
        go_wp2_with (go_at_call 96; refine (one_some _ (by unfold maxLen; omega) h1.out).mono ?_; rintro e w' ⟨rfl, rfl⟩)
        go_roundw
        case rel => exact ⟨k + 1, t.extract n t.size, rfl, by simp, by simp; omega, hid (by rw [E.out, S.data_extract])⟩
        case measure => simp [strOf]; omega
end Go.Proofs.Ytonhliipbdniiaa
