/- What may be a name of a user, in the program and in the reference; a clone of texts. Conditions: texts of the machine's size. -/
import Derived.Test.YtonhliipbdniiaaUs3
import Derived.Test.YtonhliipbdniiaaTextIO
namespace Go.Proofs.Ytonhliipbdniiaa
open Go.RowKit
set_option maxRecDepth 100000
set_option linter.unusedVariables false

/-- May one be called so? -/
def calledB (s : ByteArray) : Bool := !s.data.toList.any (· == 32) && decide (nameN s = 0)
theorem index32 (s : ByteArray) : decide (0 ≤ Lib.indexByte s.data.toList 32) = s.data.toList.any (· == 32) := by
  rw [indexByte_mem]
  have h : ∀ l : List UInt8, l.contains 32 = l.any (· == 32) := by
    intro l
    induction l with
    | nil => rfl
    | cons b l ih => rw [List.contains_cons, List.any_cons, ih, Bool.beq_comm]
  exact h _

set_option maxHeartbeats 800000 in
theorem uname_any (s : ByteArray) (w : World) (hs : s.size ≤ maxLen) :
    Calls Try.prog 89 #[.string s] w fun e w' => e = .returned (.bool (calledB s)) ∧ Below w.heap.size w w' := by
  have hn := hid (name_any s w hs)
  have hc := hid (fun W => Try.strings_Contains_one s 32 W)
  have hE : Hid (calledB s = (decide (nameN s = 0) && !decide (0 ≤ Lib.indexByte s.data.toList 32))) := hid (by rw [index32]; unfold calledB; rw [Bool.and_comm])
  by_cases h0 : nameN s = 0
  · rw [h0] at hn hE
    go_enter Try.func89, Try.ntmps89
    go_wp2_with fail
    refine hn.out.mono ?_
    rintro e w1 ⟨rfl, hb⟩
    replace hb := hid hb
    go_wp2_with fail
    refine (hc.out _).mono ?_
    rintro e w2 ⟨rfl, rfl⟩
    go_wp2_with fail
    go_ret
    exact ⟨ret_bool (by rw [hE.out]; simp), hb.out⟩
  · have hk : (((nameN s : Nat) : Int) == 0) = false := by simpa using h0
    have hE2 : Hid (calledB s = false) := hid (by rw [hE.out, decide_eq_false h0]; rfl)
    clear h0 hE
    go_enter Try.func89, Try.ntmps89
    go_wp2_with fail
    refine hn.out.mono ?_
    rintro e w1 ⟨rfl, hb⟩
    replace hb := hid hb
    go_wp2_with fail
    go_ret
    exact ⟨ret_bool (by rw [hE2.out]), hb.out⟩

set_option maxHeartbeats 800000 in
theorem rcalled_any (s : ByteArray) (w : World) (hs : s.size ≤ maxLen) :
    Calls Try.prog 37 #[.string s] w fun e w' => e = .returned (.bool (calledB s)) ∧ w' = w := by
  have hn := hid (ref_name_any s w hs)
  unfold maxLen at hs
  have E : Hid (calledB s = (!s.data.toList.any (· == 32) && decide (nameN s = 0))) := hid rfl
  go_enter Try.func37, Try.ntmps37
  go_wp2_with fail
  go_loop [3] (fun i => ∃ k : Nat, k ≤ s.size ∧ i = .int .i64 (k : Int) ∧ Hid ((s.data.toList.take k).any (· == 32) = false)) (fun i => s.size - (intOf i).toNat)
  case atStart => exact ⟨0, by omega, rfl, hid rfl⟩
  case round =>
    obtain ⟨k, hk, rfl, hany⟩ := hrel
    by_cases hlt : k < s.size
    · have hta := S.take_any s (· == 32) k hlt
      rw [hany.out, Bool.false_or] at hta
      by_cases h0 : s[k].toNat = 32
      · have hk0 : (((s[k].toNat : Nat) : Int) == 32) = true := by simp [h0]
        have h00 : (s[k] == 32) = true := by simpa [← UInt8.toNat_inj] using h0
        have E1 : Hid (calledB s = false) := hid (by rw [E.out, S.any_of_take (k + 1) (hta.trans h00)]; simp)
        clear h0 h00 hta E
        go_wp2_with fail
        go_ret
        exact ⟨ret_bool (by rw [E1.out]), rfl⟩
      · have hk0 : (((s[k].toNat : Nat) : Int) == 32) = false := by simp; omega
        have h00 : (s[k] == 32) = false := by simpa [← UInt8.toNat_inj] using h0
        replace hta := hid (hta.trans h00)
        clear h0 h00
        go_wp2_with fail
        go_round
        case rel => exact ⟨k + 1, by omega, by go_num, hta⟩
        case measure => simp [intOf]; omega
    · obtain rfl : k = s.size := by omega
      have E1 : Hid (calledB s = decide (nameN s = 0)) := hid (by
        have h := hany.out
        rw [List.take_of_length_le (by simp)] at h
        rw [E.out, h]; simp)
      clear E
      go_wp2_with fail
      refine hn.out.mono ?_
      rintro e w1 ⟨rfl, rfl⟩
      go_wp2_with fail
      go_ret
      exact ⟨ret_bool (by rw [E1.out]; by_cases h : nameN s = 0 <;> simp [h]), rfl⟩

theorem umust_ok (e : Nat) (w : World) : Calls Try.prog 63 #[.bool false, .int .i64 (e : Int)] w fun en w' => en = .returned (.tuple #[]) ∧ w' = w := by
  go_enter Try.func63, Try.ntmps63
  go_wp2_with fail
  go_end0
  exact ⟨rfl, rfl⟩

/-- A slice of texts in a block of texts. -/
def MemAt (w : World) (v : Value) (l : List ByteArray) : Prop := TxtsAt w v l ∧ ∀ a n c, v = .slice (some a) n c → ∃ cs, w.heap[a.block]? = some (.cells cs 9 (0, 0))
theorem MemAt.of_own {w : World} {base : Nat} {v : Value} {l : List ByteArray} (h : w.ownsRow base 9 1 v l.length (l.map fun s => Value.string s)) : MemAt w v l := by
  refine ⟨TxtsAt.of_own h, ?_⟩
  rintro a n c rfl
  rcases h.2 with ⟨h1, h2⟩ | ⟨g, cap, cur, hv, hb, hg, r⟩
  · cases h1
  · cases hv
    exact ⟨cur, hg⟩

theorem uelemS : ElemOk Try.prog 22 9 1 16 := elemOk_of Try.underlying22 infoS rfl (by decide)
theorem sclone_any (v : Value) (l : List ByteArray) (w : World) (hv : TxtsAt w v l) (hl : l.length ≤ 1000) :
    Calls Try.prog 91 #[v] w fun e w' => ∃ v', e = .returned v' ∧ MemAt w' v' l ∧ Below w.heap.size w w' := by
  obtain ⟨a, c, rfl, g1, g2⟩ := hv.form
  unfold maxLen at g2
  have qT := fun (w : World) (a : Option Addr) (n c n' c' : Nat) => Lib.run_eql_slice_nil (P := Try.prog) w 22 9 a n c n' c' Try.underlying22
  cases a with
  | none =>
    have hc0 : c = 0 := by
      obtain ⟨_, a', c', he, _, _, h3, _⟩ := hv
      cases he
      exact h3 rfl
    subst hc0
    have hl0 : l = [] := List.eq_nil_of_length_eq_zero (by omega)
    subst hl0
    simp only [List.length_nil] at *
    go_enter Try.func91, Try.ntmps91
    go_wp2_with fail
    go_ret
    exact ⟨_, rfl, ⟨TxtsAt.nil, fun _ _ _ h => by cases h⟩, Below.refl _ _⟩
  | some ad =>
    have hbA := (Below.refl w.heap.size w).alloc (Nat.le_refl _) (.cells #[] 9)
    have hvA := hid (hv.below hbA)
    replace hv := hid hv
    replace hbA := hid hbA
    go_enter Try.func91, Try.ntmps91
    go_wp2_with (at_builtin; refine wpList_append_weak uelemS _ rfl (.tmp 5) (.tmp 6) rfl w.heap.size _ 0 [] rfl (own_empty w _ _) _ l.length (l.map fun s => Value.string s) rfl hvA.out (by intro u hu; simp at hu; obtain ⟨s, _, rfl⟩ := hu; rfl) (by unfold maxLen; omega) (by omega) (by simp) ?_)
    intro a6 c6 w6 h6 g6
    have hB6 := hid (hbA.out.grown g6 (by simp) (fun j hj => by cases hj; exact Nat.le_refl _))
    go_wp2_with fail
    go_ret
    (try simp only [Nat.zero_add] at h6)
    exact ⟨_, rfl, MemAt.of_own h6, hB6.out⟩
end Go.Proofs.Ytonhliipbdniiaa
