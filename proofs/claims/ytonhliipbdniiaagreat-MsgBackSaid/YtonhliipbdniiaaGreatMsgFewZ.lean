/- What Few of layers 4 and 5 returns. No further condition. -/
import Derived.Test.YtonhliipbdniiaaGreatBunP
namespace Go.Proofs.YtonhliipbdniiaaGreat
open Go.RowKit
set_option maxRecDepth 100000
set_option linter.unusedVariables false

instance (s : Stat) : Decidable (Few s) :=
  if h : s.name.size ≤ 200 ∧ s.uid.size ≤ 200 ∧ s.gid.size ≤ 200 ∧ s.muid.size ≤ 200 then isTrue ⟨h.1, h.2.1, h.2.2.1, h.2.2.2⟩ else isFalse fun f => h ⟨f.name, f.uid, f.gid, f.muid⟩

def fewB (s : Stat) : Bool := decide (Few s)

set_option maxHeartbeats 800000 in
theorem few4_any (s : Stat) (w : World) (hok : StatOk s) : Calls Tryz.prog 19 #[.agg s.cells] w fun e w' => e = .returned (.bool (fewB s)) ∧ Below w.heap.size w w' := by
  obtain ⟨_, _, _, _, _, _, _, _, _, h1, h2, h3, h4⟩ := hok
  have hB : fewB s = (decide (s.name.size ≤ 200) && decide (s.uid.size ≤ 200) && decide (s.gid.size ≤ 200) && decide (s.muid.size ≤ 200)) := by
    unfold fewB
    rw [Bool.eq_iff_iff]
    simp only [decide_eq_true_eq, Bool.and_eq_true]
    exact ⟨fun f => ⟨⟨⟨f.name, f.uid⟩, f.gid⟩, f.muid⟩, fun f => ⟨f.1.1.1, f.1.1.2, f.1.2, f.2⟩⟩
  replace hB := hid hB
  obtain ⟨kind, dev, qt, qv, qp, mode, atm, mtm, len, name, uid, gid, muid⟩ := s
  simp only [Stat.cells] at *
  unfold maxLen at h1 h2 h3 h4
  go_enter Tryz.func19, Tryz.ntmps19
  go_wp2
  all_goals
    go_ret
    exact ⟨ret_bool (by rw [hB.out, Bool.eq_iff_iff]; simp; omega), (Below.refl _ _).alloc (Nat.le_refl _) _⟩


structure FewM (m : M) : Prop where
  names : m.names.length ≤ 30
  qids : m.qids.length ≤ 30
  data : m.data.length ≤ 9000
  few : MFew m
def FewPost (w : World) (m : M) (e : Ending) (w' : World) : Prop := ∃ r, e = .returned (.bool r) ∧ (r = true → FewM m) ∧ Below w.heap.size w w'

set_option maxHeartbeats 6400000 in
theorem few5_any (a : MV) (w : World) (ha : a.At w) (hm : MOk a.m) : Calls Tryz.prog 7 #[.agg a.cells] w (FewPost w a.m) := by
  obtain ⟨hN, hQ, hD⟩ := ha
  obtain ⟨aN, cN, eN, gN, gN'⟩ := hN.form
  obtain ⟨aQ, cQ, eQ, gQ, gQ'⟩ := hQ.form
  obtain ⟨aD, cD, eD, gD, gD', _⟩ := hD.form
  rw [eN] at hN
  obtain ⟨cs, hcs⟩ : ∃ cs, cs = a.cells := ⟨_, rfl⟩
  have x3 : cs[3]? = some (.string a.m.version) := by rw [hcs]; unfold MV.cells; rw [eN, eQ, eD]; rfl
  have x7 : cs[7]? = some (.string a.m.uname) := by rw [hcs]; unfold MV.cells; rw [eN, eQ, eD]; rfl
  have x8 : cs[8]? = some (.string a.m.aname) := by rw [hcs]; unfold MV.cells; rw [eN, eQ, eD]; rfl
  have x9 : cs[9]? = some (.string a.m.ename) := by rw [hcs]; unfold MV.cells; rw [eN, eQ, eD]; rfl
  have x11 : cs[11]? = some (.slice aN a.m.names.length cN) := by rw [hcs]; unfold MV.cells; rw [eN, eQ, eD]; rfl
  have x12 : cs[12]? = some (.slice aQ a.m.qids.length cQ) := by rw [hcs]; unfold MV.cells; rw [eN, eQ, eD]; rfl
  have x19 : cs[19]? = some (.string a.m.name) := by rw [hcs]; unfold MV.cells; rw [eN, eQ, eD]; rfl
  have x22 : cs[22]? = some (.slice aD a.m.data.length cD) := by rw [hcs]; unfold MV.cells; rw [eN, eQ, eD]; rfl
  have x23 : cs[23]? = some (.int .u16 (a.m.stat.kind : Int)) := by rw [hcs]; unfold MV.cells; rw [eN, eQ, eD]; rfl
  have x24 : cs[24]? = some (.int .u32 (a.m.stat.dev : Int)) := by rw [hcs]; unfold MV.cells; rw [eN, eQ, eD]; rfl
  have x25 : cs[25]? = some (.int .u8 (a.m.stat.qt : Int)) := by rw [hcs]; unfold MV.cells; rw [eN, eQ, eD]; rfl
  have x26 : cs[26]? = some (.int .u32 (a.m.stat.qv : Int)) := by rw [hcs]; unfold MV.cells; rw [eN, eQ, eD]; rfl
  have x27 : cs[27]? = some (.int .u64 (a.m.stat.qp : Int)) := by rw [hcs]; unfold MV.cells; rw [eN, eQ, eD]; rfl
  have x28 : cs[28]? = some (.int .u32 (a.m.stat.mode : Int)) := by rw [hcs]; unfold MV.cells; rw [eN, eQ, eD]; rfl
  have x29 : cs[29]? = some (.int .u32 (a.m.stat.atm : Int)) := by rw [hcs]; unfold MV.cells; rw [eN, eQ, eD]; rfl
  have x30 : cs[30]? = some (.int .u32 (a.m.stat.mtm : Int)) := by rw [hcs]; unfold MV.cells; rw [eN, eQ, eD]; rfl
  have x31 : cs[31]? = some (.int .u64 (a.m.stat.len : Int)) := by rw [hcs]; unfold MV.cells; rw [eN, eQ, eD]; rfl
  have x32 : cs[32]? = some (.string a.m.stat.name) := by rw [hcs]; unfold MV.cells; rw [eN, eQ, eD]; rfl
  have x33 : cs[33]? = some (.string a.m.stat.uid) := by rw [hcs]; unfold MV.cells; rw [eN, eQ, eD]; rfl
  have x34 : cs[34]? = some (.string a.m.stat.gid) := by rw [hcs]; unfold MV.cells; rw [eN, eQ, eD]; rfl
  have x35 : cs[35]? = some (.string a.m.stat.muid) := by rw [hcs]; unfold MV.cells; rw [eN, eQ, eD]; rfl
  rw [← hcs]
  unfold maxLen at gN' gQ' gD'
  have hst := hm.stat
  obtain ⟨_, _, _, _, _, _, _, _, _, _, _, _, _⟩ := hm.stat
  have f4 := hid (fun W => few4_any a.m.stat W hst)
  rw [cells_eq] at f4
  have hb0 := hid ((Below.refl w.heap.size w).alloc (Nat.le_refl _) (.cells cs 33))
  have hlt0 : w.heap.size < (w.alloc (.cells cs 33)).heap.size := by simp
  replace hlt0 := hid hlt0
  replace hcs := hid hcs
  replace hm := hid hm
  replace hst := hid hst
  replace hN := hid hN
  replace hQ := hid hQ
  replace hD := hid hD
  replace eN := hid eN
  replace eQ := hid eQ
  replace eD := hid eD
  have s1 : a.m.version.size ≤ 200 ∨ 200 < a.m.version.size := by omega
  go_enter Tryz.func7, Tryz.ntmps7
  go_wp2_with fail
  all_goals first | (go_ret; exact ⟨false, rfl, fun h => (by cases h), hb0.out⟩) | skip
  all_goals
    refine (f4.out _).mono ?_
    rintro e w1 ⟨rfl, hb1⟩
    have hB1 := hid (sn hb0.out hb1)
    have y11 : w1.cell? ⟨w.heap.size, 11, none⟩ = some (.slice aN a.m.names.length cN) := by
      rw [hb1.cell (p := ⟨w.heap.size, 11, none⟩) hlt0.out, block_cell (heap_alloc_new _ _) 11]; exact x11
    have hlt1 : w.heap.size < w1.heap.size := Nat.lt_of_lt_of_le hlt0.out hb1.size
    have hN1 := hid (RowAt.below hN.out hB1.out : StrsAt w1 _ _)
    clear hb1
    rcases hf : fewB a.m.stat with _ | _
    · go_wp2_with fail
      go_ret
      exact ⟨false, rfl, fun h => (by cases h), hB1.out⟩
    have hst4 : Hid (Few a.m.stat) := hid (by
      have h := hf
      unfold fewB at h
      exact of_decide_eq_true h)
    clear hf
    go_wp2_with fail
    go_loopw [3] (fun kv wr => ∃ k : Nat, k ≤ a.m.names.length ∧ kv = .int .i64 (k : Int) ∧ wr = w1 ∧ Hid (∀ j (h : j < a.m.names.length), j < k → a.m.names[j].size ≤ 200)) (fun kv _ => a.m.names.length - (intOf kv).toNat)
    case atStart => exact ⟨0, by omega, rfl, rfl, hid (fun j _ h => by omega)⟩
    case round =>
      obtain ⟨k, hk, rfl, rfl, hall⟩ := hrel
      by_cases hkl : k < a.m.names.length
      · obtain ⟨b1, o1, ha1, hc1⟩ := StrsAt.cell hN1.out k hkl
        subst ha1
        have hsz : a.m.names[k].size ≤ 200 ∨ 200 < a.m.names[k].size := by omega
        generalize hs1 : a.m.names[k] = s1 at *
        replace hs1 := hid hs1
        rcases hsz with hsz | hsz
        · go_wp2_with fail
          go_roundw
          case rel => exact ⟨k + 1, by omega, by go_num, by first | rfl | trivial, hid (fun j h h2 => by
            by_cases hjk : j < k
            · exact hall.out j h hjk
            · obtain rfl : j = k := by omega
              rw [hs1.out]; exact hsz)⟩
          case measure => simp [intOf]; omega
        · go_wp2_with fail
          go_ret
          exact ⟨false, rfl, fun h => (by cases h), hB1.out⟩
      · obtain rfl : k = a.m.names.length := by omega
        go_wp2_with fail
        go_ret
        refine ⟨true, rfl, fun _ => ⟨by omega, by omega, by omega, ⟨by omega, by omega, by omega, by omega, fun s hs => ?_, by omega, hst4.out⟩⟩, hB1.out⟩
        obtain ⟨j, hj, rfl⟩ := List.getElem_of_mem hs
        have := hall.out j hj hj
        omega
end Go.Proofs.YtonhliipbdniiaaGreat
