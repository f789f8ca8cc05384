/- What few of layer 22 and the body of the law ReadOne return, for every arguments under the bounds that each theorem names. No further condition. -/
import Derived.Test.YtoblafeiidjaaaaLawRead
namespace Go.Proofs.Ytoblafeiidjaaaa
open Go.RowKit
set_option maxRecDepth 100000

instance (s : Stat) : Decidable (Few s) :=
  if h : s.name.size ≤ 200 ∧ s.uid.size ≤ 200 ∧ s.gid.size ≤ 200 ∧ s.muid.size ≤ 200 then isTrue ⟨h.1, h.2.1, h.2.2.1, h.2.2.2⟩ else isFalse fun f => h ⟨f.name, f.uid, f.gid, f.muid⟩

def fewB (s : Stat) : Bool := decide (Few s)

set_option maxHeartbeats 800000 in
theorem few4_any (s : Stat) (w : World) (hok : StatOk s) : Calls Try.prog 39 #[.agg s.cells] w fun e w' => e = .returned (.bool (fewB s)) ∧ Below w.heap.size w w' := by
  obtain ⟨_, _, _, _, _, _, _, _, _, h1, h2, h3, h4⟩ := hok
  have hB : fewB s = (decide (s.name.size ≤ 200) && decide (s.uid.size ≤ 200) && decide (s.gid.size ≤ 200) && decide (s.muid.size ≤ 200)) := by
    unfold fewB
    rw [Bool.eq_iff_iff]
    simp only [decide_eq_true_eq, Bool.and_eq_true]
    exact ⟨fun f => ⟨⟨⟨f.name, f.uid⟩, f.gid⟩, f.muid⟩, fun f => ⟨f.1.1.1, f.1.1.2, f.1.2, f.2⟩⟩
  replace hB := hid hB
  obtain ⟨kind, dev, qt, qv, qp, mode, atm, mtm, len, name, uid, gid, muid⟩ := s
  simp only [Stat.cells] at *
  unfold maxLen at h1 h2 h3 h4
  go_enter Try.func39, Try.ntmps39
  go_wp2
  all_goals
    go_ret
    exact ⟨ret_bool (by rw [hB.out, Bool.eq_iff_iff]; simp; omega), (Below.refl _ _).alloc (Nat.le_refl _) _⟩

def few22 (L : List Stat) : Bool := decide (L.length ≤ 40) && L.all fewB

theorem all_step (L : List Stat) (k : Nat) (h : k < L.length) : (L.drop k).all fewB = (fewB L[k] && (L.drop (k + 1)).all fewB) := by
  rw [List.drop_eq_getElem_cons h]; rfl

set_option maxHeartbeats 800000 in
theorem few22_any (L : List Stat) (v : Value) (w : World) (hL : StatsAt w v L) (hok : ∀ s ∈ L, StatOk s) :
    Calls Try.prog 15 #[v] w fun e w' => e = .returned (.bool (few22 L)) ∧ Below w.heap.size w w' := by
  obtain ⟨a, c, rfl, hc1, hc2⟩ := hL.form
  unfold maxLen at hc2
  by_cases h40 : L.length ≤ 40
  · have hB := hid (show few22 L = L.all fewB by simp [few22, h40])
    have k0 : decide (40 < (L.length : Int)) = false := by simp; omega
    go_enter Try.func15, Try.ntmps15
    go_wp2_with fail
    go_loopw [3] (fun i wr => ∃ k : Nat, k ≤ L.length ∧ i = .int .i64 (k : Int) ∧ Below w.heap.size w wr ∧ Hid (L.all fewB = (L.drop k).all fewB)) (fun i _ => L.length - (intOf i).toNat)
    case atStart => exact ⟨0, by omega, rfl, Below.refl _ _, hid rfl⟩
    case round =>
      obtain ⟨k, hk, rfl, hbl, hall⟩ := hrel
      by_cases hlt : k < L.length
      · obtain ⟨bb, o, rfl, q0, q1, q2, q3, q4, q5, q6, q7, q8, q9, q10, q11, q12⟩ := (hL.below hbl).cells k hlt
        have hs := hok L[k] (List.getElem_mem hlt)
        have hst := hid (hall.out.trans (all_step L k hlt))
        clear hall
        generalize L[k] = s at q0 q1 q2 q3 q4 q5 q6 q7 q8 q9 q10 q11 q12 hs hst
        go_wp2_with fail
        refine (few4_any s _ hs).mono ?_
        rintro e w1 ⟨rfl, hb1⟩
        have hbl1 := hbl.trans (hb1.mono hbl.size)
        clear q0 q1 q2 q3 q4 q5 q6 q7 q8 q9 q10 q11 q12 hb1
        by_cases hf : fewB s = true
        · have hst2 := hid (hst.out.trans (by rw [hf, Bool.true_and]))
          rw [hf]
          replace hf := hid hf
          go_wp2_with fail
          exact ⟨⟨k + 1, by omega, by go_num, hbl1, hst2⟩, by simp [intOf]; omega⟩
        · have hf2 : fewB s = false := by simpa using hf
          have hst2 := hid (hst.out.trans (by rw [hf2, Bool.false_and]))
          rw [hf2]
          clear hf hf2
          go_wp2_with fail
          go_ret
          exact ⟨by rw [hB.out, hst2.out]; rfl, hbl1⟩
      · obtain rfl : k = L.length := by omega
        have hfin := hid (hall.out.trans (by rw [List.drop_length, List.all_nil]))
        go_wp2_with fail
        go_ret
        exact ⟨by rw [hB.out, hfin.out]; rfl, hbl⟩
  · have hB := hid (show few22 L = false by simp [few22, h40])
    have k0 : decide (40 < (L.length : Int)) = true := by simp; omega
    go_enter Try.func15, Try.ntmps15
    go_wp2_with fail
    go_ret
    exact ⟨by rw [hB.out]; rfl, Below.refl _ _⟩
end Go.Proofs.Ytoblafeiidjaaaa
