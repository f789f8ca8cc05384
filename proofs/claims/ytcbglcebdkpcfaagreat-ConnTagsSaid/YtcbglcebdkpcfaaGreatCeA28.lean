/- What slices.Equal (of texts, of qids) and bytes.Equal return. Conditions: none beyond what a slice is. And the texts behind it. -/
import Derived.Test.YtcbglcebdkpcfaaGreatCeA11
import Derived.Test.YtcbglcebdkpcfaaGreatCeA03
import Derived.Test.YtcbglcebdkpcfaaGreatCeA04
import Derived.Laws.StructEq
import Derived.Test.YtcbglcebdkpcfaaGreatCeA27
namespace Go.Proofs.YtcbglcebdkpcfaaGreat
section
open Go.RowKit
set_option maxRecDepth 100000
set_option linter.unusedVariables false

def TestPost (w : World) (r : Bool) (e : Ending) (w' : World) : Prop := e = .returned (.bool r) ∧ Below w.heap.size w w'

theorem beq_toList {s t : ByteArray} (h : s ≠ t) : (s.toList == t.toList) = false := by
  rw [ByteArray.toList_eq, ByteArray.toList_eq]
  simp only [beq_eq_false_iff_ne, ne_eq]
  intro e
  apply h
  cases s; cases t
  simpa using e
theorem take_succ_eq {α : Type} {L1 L2 : List α} {k : Nat} (h : L1.take k = L2.take k) (h1 : k < L1.length) (h2 : k < L2.length) (he : L1[k] = L2[k]) : L1.take (k + 1) = L2.take (k + 1) := by
  rw [List.take_succ_eq_append_getElem h1, List.take_succ_eq_append_getElem h2, h, he]

set_option maxHeartbeats 1600000 in
theorem seq_any (v1 v2 : Value) (L1 L2 : List ByteArray) (w : World) (hv1 : StrsAt w v1 L1) (hv2 : StrsAt w v2 L2) :
    Calls Tryz.prog 28 #[v1, v2] w (TestPost w (decide (L1 = L2))) := by
  obtain ⟨a1, c1, rfl, g1, g1'⟩ := hv1.form
  obtain ⟨a2, c2, rfl, g2, g2'⟩ := hv2.form
  unfold maxLen at g1' g2'
  by_cases hlen : L1.length = L2.length
  case neg =>
    have hE : Hid (decide (L1 = L2) = false) := hid (decide_eq_false (fun e => hlen (by rw [e])))
    clear hv1 hv2
    go_enter Tryz.func28, Tryz.ntmps28
    go_wp2_with fail
    go_ret
    exact ⟨by rw [hE.out]; rfl, Below.refl _ _⟩
  replace hv1 := hid hv1
  replace hv2 := hid hv2
  have k0 : ((L1.length : Int) != (L2.length : Int)) = false := by simp [hlen]
  replace hlen := hid hlen
  go_enter Tryz.func28, Tryz.ntmps28
  go_wp2_with fail
  go_loopw [13] (fun kv wr => ∃ k : Nat, k ≤ L1.length ∧ kv = .int .i64 (k : Int) ∧ Below w.heap.size w wr ∧ Hid (L1.take k = L2.take k)) (fun kv _ => L1.length - (intOf kv).toNat)
  case atStart => exact ⟨0, by omega, rfl, Below.refl _ _, hid rfl⟩
  case round =>
    obtain ⟨k, hk, rfl, hb, hT⟩ := hrel
    by_cases hkl : k < L1.length
    · have hkl2 : k < L2.length := by have := hlen.out; omega
      obtain ⟨b1, o1, ha1, hc1⟩ := StrsAt.cell (RowAt.below hv1.out hb : StrsAt wr _ L1) k hkl
      obtain ⟨b2, o2, ha2, hc2⟩ := StrsAt.cell (RowAt.below hv2.out hb : StrsAt wr _ L2) k hkl2
      subst ha1 ha2
      have hd1 : wr.drew.cell? ⟨b1, o1 + k, none⟩ = some (.string L1[k]) := hc1
      have hd2 : wr.drew.cell? ⟨b2, o2 + k, none⟩ = some (.string L2[k]) := hc2
      have hst := hid (hb.drew)
      have hte := hid (take_succ_eq hT.out hkl hkl2)
      have hne : Hid (L1[k] ≠ L2[k] → decide (L1 = L2) = false) := hid (fun h => decide_eq_false (fun e => h (by simp only [e])))
      generalize L1[k] = s1 at *
      generalize L2[k] = s2 at *
      by_cases he : s1 = s2
      · have hte2 := hid (hte.out he)
        clear hte
        subst he
        go_wp2_with fail
        go_region_held3 (fun w' => w'.cell? ⟨b1, o1 + k, none⟩ = some (.string s1) ∧ w'.cell? ⟨b2, o2 + k, none⟩ = some (.string s1)) (go_keep) (fail)
        go_wp2_with fail
        go_roundw
        case rel => exact ⟨k + 1, by omega, by go_num, hst.out, hte2⟩
        case measure => simp [intOf]; omega
      · have hE := hid (hne.out he)
        have hq : (s1.toList == s2.toList) = false := beq_toList he
        go_wp2_with fail
        go_region_held3 (fun w' => w'.cell? ⟨b1, o1 + k, none⟩ = some (.string s1) ∧ w'.cell? ⟨b2, o2 + k, none⟩ = some (.string s2)) (go_keep) (fail)
        go_wp2_with fail
        go_ret
        exact ⟨by rw [hE.out]; rfl, hst.out⟩
    · obtain rfl : k = L1.length := by omega
      have hE : Hid (decide (L1 = L2) = true) := hid (decide_eq_true (by
        have h := hT.out
        rwa [List.take_length, hlen.out, List.take_length] at h))
      go_wp2_with fail
      go_ret
      exact ⟨by rw [hE.out]; rfl, hb⟩
end
end Go.Proofs.YtcbglcebdkpcfaaGreat

namespace Go.Proofs.YtcbglcebdkpcfaaGreat
section
open Go.RowKit
set_option maxRecDepth 100000

theorem st_self (s : Stat) (W : World) : (binOp .eql 39 (.agg s.cells) (.agg s.cells)).run Tryz.prog W = .ok (.bool true) W := by
  have h1 : Tryz.prog.underlying 39 = some (.struct (Tryz.prog.fieldsOf 39)) := by kernel_rfl
  have h2 : Tryz.prog.stoodInHeld 39 = false := by kernel_rfl
  have h4 : Tryz.prog.stoodInHeld 37 = false := by kernel_rfl
  have h5 := Tryz.underlying5
  have h6 := Tryz.underlying31
  have h7 := Tryz.underlying32
  have h8 := Tryz.underlying35
  have h9 := Tryz.underlying9
  rw [run_eql_struct, run_equalIn_agg W _ _ _ _ h1 h2]
  have g1 := Tryz.underlying39
  have g2 := Tryz.underlying37
  clear h1
  simp [go_sem, h4, h5, h6, h7, h8, h9, g1, g2, Stat.cells]

end
end Go.Proofs.YtcbglcebdkpcfaaGreat

namespace Go.Proofs.YtcbglcebdkpcfaaGreat
section
open Go.RowKit
set_option maxRecDepth 100000
set_option linter.unusedVariables false

def eqQ (x y : QidV) : Bool := decide (x.t = y.t) && decide (x.v = y.v) && decide (x.p = y.p)
theorem eqQ_iff {x y : QidV} : eqQ x y = true ↔ x = y := by
  cases x; cases y; simp [eqQ, and_assoc]
def eqS (x y : Stat) : Bool := decide (x.kind = y.kind ∧ x.dev = y.dev ∧ x.qt = y.qt ∧ x.qv = y.qv ∧ x.qp = y.qp ∧ x.mode = y.mode ∧ x.atm = y.atm ∧ x.mtm = y.mtm ∧ x.len = y.len ∧ x.name = y.name ∧ x.uid = y.uid ∧ x.gid = y.gid ∧ x.muid = y.muid)
theorem eqS_iff {x y : Stat} : eqS x y = true ↔ x = y := by
  cases x; cases y; simp [eqS]
theorem toList_inj {s t : ByteArray} (h : s.toList = t.toList) : s = t := by
  rw [ByteArray.toList_eq, ByteArray.toList_eq] at h
  cases s; cases t
  simpa using h
theorem qid_cmp (x y : QidV) (W : World) : (binOp .eql 37 (.agg x.cells) (.agg y.cells)).run Tryz.prog W = .ok (.bool (eqQ x y)) W := by
  have h1 : Tryz.prog.underlying 37 = some (.struct (Tryz.prog.fieldsOf 37)) := by kernel_rfl
  have h2 : Tryz.prog.stoodInHeld 37 = false := by kernel_rfl
  have h5 := Tryz.underlying5
  have h7 := Tryz.underlying32
  have h8 := Tryz.underlying35
  rw [run_eql_struct, run_equalIn_agg W _ _ _ _ h1 h2]
  have g2 := Tryz.underlying37
  clear h1
  by_cases h : eqQ x y = true
  · obtain rfl := eqQ_iff.1 h
    rw [h]
    simp [go_sem, h5, h7, h8, g2, QidV.cells]
  · rw [Bool.eq_false_iff.2 h]
    simp only [eqQ, Bool.and_eq_true, decide_eq_true_eq] at h
    simp [go_sem, h5, h7, h8, g2, QidV.cells]
    repeat' split
    all_goals first
      | rfl
      | (exfalso; omega)
      | omega
theorem qid_ncmp (x y : QidV) (W : World) : (binOp .neq 37 (.agg x.cells) (.agg y.cells)).run Tryz.prog W = .ok (.bool (!eqQ x y)) W := by
  have h1 : Tryz.prog.underlying 37 = some (.struct (Tryz.prog.fieldsOf 37)) := by kernel_rfl
  have h2 : Tryz.prog.stoodInHeld 37 = false := by kernel_rfl
  have h5 := Tryz.underlying5
  have h7 := Tryz.underlying32
  have h8 := Tryz.underlying35
  rw [run_neq_struct, run_equalIn_agg W _ _ _ _ h1 h2]
  have g2 := Tryz.underlying37
  clear h1
  by_cases h : eqQ x y = true
  · obtain rfl := eqQ_iff.1 h
    rw [h]
    simp [go_sem, h5, h7, h8, g2, QidV.cells]
  · rw [Bool.eq_false_iff.2 h]
    simp only [eqQ, Bool.and_eq_true, decide_eq_true_eq] at h
    simp [go_sem, h5, h7, h8, g2, QidV.cells]
    repeat' split
    all_goals first
      | rfl
      | (exfalso; omega)
      | omega
theorem stat_cmp (x y : Stat) (W : World) : (binOp .eql 39 (.agg x.cells) (.agg y.cells)).run Tryz.prog W = .ok (.bool (eqS x y)) W := by
  have h1 : Tryz.prog.underlying 39 = some (.struct (Tryz.prog.fieldsOf 39)) := by kernel_rfl
  have h2 : Tryz.prog.stoodInHeld 39 = false := by kernel_rfl
  have h4 : Tryz.prog.stoodInHeld 37 = false := by kernel_rfl
  have h5 := Tryz.underlying5
  have h6 := Tryz.underlying31
  have h7 := Tryz.underlying32
  have h8 := Tryz.underlying35
  have h9 := Tryz.underlying9
  by_cases h : eqS x y = true
  · obtain rfl := eqS_iff.1 h
    rw [h]
    exact st_self x W
  rw [Bool.eq_false_iff.2 h, run_eql_struct, run_equalIn_agg W _ _ _ _ h1 h2]
  have g1 := Tryz.underlying39
  have g2 := Tryz.underlying37
  clear h1
  simp [go_sem, h4, h5, h6, h7, h8, h9, g1, g2, Stat.cells]
  have hx : x.kind = y.kind → x.dev = y.dev → x.qt = y.qt → x.qv = y.qv → x.qp = y.qp → x.mode = y.mode → x.atm = y.atm → x.mtm = y.mtm → x.len = y.len → x.name.toList = y.name.toList → x.uid.toList = y.uid.toList → x.gid.toList = y.gid.toList → x.muid.toList = y.muid.toList → False :=
    fun a1 a2 a3 a4 a5 a6 a7 a8 a9 a10 a11 a12 a13 => h (decide_eq_true ⟨a1, a2, a3, a4, a5, a6, a7, a8, a9, toList_inj a10, toList_inj a11, toList_inj a12, toList_inj a13⟩)
  clear h2 h4 h5 h6 h7 h8 h9 g1 g2 h
  intro a1 a2 a3 a4 a5 a6 a7 a8 a9 a10 a11 a12 a13
  exact hx (by omega) (by omega) (by omega) (by omega) (by omega) (by omega) (by omega) (by omega) (by omega) a10 a11 a12 a13

noncomputable def eqQL (L1 L2 : List QidV) : Bool := @decide (L1 = L2) (Classical.propDecidable _)
theorem eqQL_iff {L1 L2 : List QidV} : eqQL L1 L2 = true ↔ L1 = L2 := by unfold eqQL; exact @decide_eq_true_iff _ (Classical.propDecidable _)
theorem eqQL_no {L1 L2 : List QidV} (h : L1 ≠ L2) : eqQL L1 L2 = false := by
  rcases hb : eqQL L1 L2 with _ | _
  · rfl
  · exact absurd (eqQL_iff.1 hb) h

set_option maxHeartbeats 1600000 in
theorem qeq_any (v1 v2 : Value) (L1 L2 : List QidV) (w : World) (hv1 : QidsAt w v1 L1) (hv2 : QidsAt w v2 L2) :
    Calls Tryz.prog 29 #[v1, v2] w (TestPost w (eqQL L1 L2)) := by
  obtain ⟨a1, c1, rfl, g1, g1'⟩ := hv1.form
  obtain ⟨a2, c2, rfl, g2, g2'⟩ := hv2.form
  unfold maxLen at g1' g2'
  by_cases hlen : L1.length = L2.length
  case neg =>
    have hE : Hid (eqQL L1 L2 = false) := hid (eqQL_no (fun e => hlen (by rw [e])))
    clear hv1 hv2
    go_enter Tryz.func29, Tryz.ntmps29
    go_wp2_with fail
    go_ret
    exact ⟨by rw [hE.out]; rfl, Below.refl _ _⟩
  replace hv1 := hid hv1
  replace hv2 := hid hv2
  have k0 : ((L1.length : Int) != (L2.length : Int)) = false := by simp [hlen]
  replace hlen := hid hlen
  have hcmp := qid_ncmp
  replace hcmp := hid hcmp
  go_enter Tryz.func29, Tryz.ntmps29
  go_wp2_with fail
  go_loopw [13] (fun kv wr => ∃ k : Nat, k ≤ L1.length ∧ kv = .int .i64 (k : Int) ∧ Below w.heap.size w wr ∧ Hid (L1.take k = L2.take k)) (fun kv _ => L1.length - (intOf kv).toNat)
  case atStart => exact ⟨0, by omega, rfl, Below.refl _ _, hid rfl⟩
  case round =>
    obtain ⟨k, hk, rfl, hb, hT⟩ := hrel
    by_cases hkl : k < L1.length
    · have hkl2 : k < L2.length := by have := hlen.out; omega
      obtain ⟨b1, o1, ha1, x1, x2, x3⟩ := QidsAt.cell (RowAt.below hv1.out hb : QidsAt wr _ L1) k hkl
      obtain ⟨b2, o2, ha2, y1, y2, y3⟩ := QidsAt.cell (RowAt.below hv2.out hb : QidsAt wr _ L2) k hkl2
      subst ha1 ha2
      have hst := hid (hb.drew)
      have hte := hid (take_succ_eq hT.out hkl hkl2)
      have hne : Hid (L1[k] ≠ L2[k] → eqQL L1 L2 = false) := hid (fun h => eqQL_no (fun e => h (by simp only [e])))
      have hcm := fun W => hcmp.out L1[k] L2[k] W
      generalize L1[k] = s1 at *
      generalize L2[k] = s2 at *
      by_cases he : s1 = s2
      · have hte2 := hid (hte.out he)
        have hq : eqQ s1 s2 = true := eqQ_iff.2 he
        rw [hq] at hcm
        clear hte hq
        have hcm2 : ∀ W, (binOp .neq 37 (.agg #[.int .u8 (s1.t : Int), .int .u32 (s1.v : Int), .int .u64 (s1.p : Int)]) (.agg #[.int .u8 (s2.t : Int), .int .u32 (s2.v : Int), .int .u64 (s2.p : Int)])).run Tryz.prog W = .ok (.bool false) W := hcm
        clear hcm he
        go_wp2_with fail
        go_region_held3 (fun w' => w'.cell? ⟨b1, o1 + k * 3, none⟩ = some (.int .u8 (s1.t : Int)) ∧ w'.cell? ⟨b1, o1 + k * 3 + 1, none⟩ = some (.int .u32 (s1.v : Int)) ∧ w'.cell? ⟨b1, o1 + k * 3 + 2, none⟩ = some (.int .u64 (s1.p : Int)) ∧ w'.cell? ⟨b2, o2 + k * 3, none⟩ = some (.int .u8 (s2.t : Int)) ∧ w'.cell? ⟨b2, o2 + k * 3 + 1, none⟩ = some (.int .u32 (s2.v : Int)) ∧ w'.cell? ⟨b2, o2 + k * 3 + 2, none⟩ = some (.int .u64 (s2.p : Int))) (go_keep) (fail)
        go_wp2_with fail
        go_roundw
        case rel => exact ⟨k + 1, by omega, by go_num, hst.out, hte2⟩
        case measure => simp [intOf]; omega
      · have hE := hid (hne.out he)
        have hq : eqQ s1 s2 = false := by
          rcases h : eqQ s1 s2 with _ | _
          · rfl
          · exact absurd (eqQ_iff.1 h) he
        rw [hq] at hcm
        clear hte hq
        have hcm2 : ∀ W, (binOp .neq 37 (.agg #[.int .u8 (s1.t : Int), .int .u32 (s1.v : Int), .int .u64 (s1.p : Int)]) (.agg #[.int .u8 (s2.t : Int), .int .u32 (s2.v : Int), .int .u64 (s2.p : Int)])).run Tryz.prog W = .ok (.bool true) W := hcm
        clear hcm he
        go_wp2_with fail
        go_region_held3 (fun w' => w'.cell? ⟨b1, o1 + k * 3, none⟩ = some (.int .u8 (s1.t : Int)) ∧ w'.cell? ⟨b1, o1 + k * 3 + 1, none⟩ = some (.int .u32 (s1.v : Int)) ∧ w'.cell? ⟨b1, o1 + k * 3 + 2, none⟩ = some (.int .u64 (s1.p : Int)) ∧ w'.cell? ⟨b2, o2 + k * 3, none⟩ = some (.int .u8 (s2.t : Int)) ∧ w'.cell? ⟨b2, o2 + k * 3 + 1, none⟩ = some (.int .u32 (s2.v : Int)) ∧ w'.cell? ⟨b2, o2 + k * 3 + 2, none⟩ = some (.int .u64 (s2.p : Int))) (go_keep) (fail)
        go_wp2_with fail
        go_ret
        exact ⟨by rw [hE.out]; rfl, hst.out⟩
    · obtain rfl : k = L1.length := by omega
      have hE : Hid (eqQL L1 L2 = true) := hid (eqQL_iff.2 (by
        have h := hT.out
        rwa [List.take_length, hlen.out, List.take_length] at h))
      go_wp2_with fail
      go_ret
      exact ⟨by rw [hE.out]; rfl, hb⟩

theorem beq_any (v1 v2 : Value) (L1 L2 : List UInt8) (w : World) (hv1 : BytesAt w v1 L1) (hv2 : BytesAt w v2 L2) :
    Calls Tryz.prog 30 #[v1, v2] w (TestPost w (decide (L1 = L2))) := by
  have k1 := conv_string w v1 L1 hv1
  have k2 := conv_string w v2 L2 hv2
  obtain ⟨a1, c1, rfl, g1, g1', _⟩ := hv1.form
  obtain ⟨a2, c2, rfl, g2, g2', _⟩ := hv2.form
  clear hv1 hv2
  by_cases he : L1 = L2
  · have hE : Hid (decide (L1 = L2) = true) := hid (decide_eq_true he)
    have hq : ((strL L1).toList == (strL L2).toList) = true := by rw [he]; simp
    clear he
    go_enter Tryz.func30, Tryz.ntmps30
    go_wp2_with fail
    go_ret
    exact ⟨by rw [hE.out]; rfl, Below.refl _ _⟩
  · have hE : Hid (decide (L1 = L2) = false) := hid (decide_eq_false he)
    have hq : ((strL L1).toList == (strL L2).toList) = false := beq_toList (fun e => he (by simpa [strL] using e))
    clear he
    go_enter Tryz.func30, Tryz.ntmps30
    go_wp2_with fail
    go_ret
    exact ⟨by rw [hE.out]; rfl, Below.refl _ _⟩
end
end Go.Proofs.YtcbglcebdkpcfaaGreat

namespace Go.Proofs.YtcbglcebdkpcfaaGreat
section
open Go.RowKit
set_option maxRecDepth 100000
set_option linter.unusedVariables false

structure Fr (a : Act) (k5 k6 g : Nat) (c : Bool) : Prop where
  size : a.tmps.size = 163
  s5 : a.tmps[5]? = some (pt k5 0)
  s6 : a.tmps[6]? = some (pt k6 0)
  sg : a.tmps[g]? = some (.bool c)
  df : a.defers = []
theorem put_tmps (a : Act) (d : Nat) (v : Value) : (a.put (some d) v).tmps = a.tmps.setIfInBounds d v := rfl
theorem put_df (a : Act) (d : Option Nat) (v : Value) : (a.put d v).defers = a.defers := by cases d <;> rfl
theorem put_at {a : Act} {d k : Nat} {v u : Value} (h : a.tmps[k]? = some u) (hd : d ≠ k) : (a.put (some d) v).tmps[k]? = some u := by
  rw [put_tmps, Array.getElem?_setIfInBounds_ne hd]; exact h
theorem put_same {a : Act} {d : Nat} {v : Value} (h : d < a.tmps.size) : (a.put (some d) v).tmps[d]? = some v := by
  rw [put_tmps, Array.getElem?_setIfInBounds_self_of_lt h]
theorem put_size (a : Act) (d : Nat) (v : Value) : (a.put (some d) v).tmps.size = a.tmps.size := by rw [put_tmps]; simp
theorem eval_tmp {a : Act} {k : Nat} {v : Value} (h : a.tmps[k]? = some v) : a.eval (.tmp k) = v := by
  show a.tmps.getD k undef = v
  rw [Array.getD_eq_getD_getElem?, h]; rfl
theorem wanted_of {ops : Array Oper} {o : Oper} {tmps : Array Value} {gi g : Nat} {c : Bool} (h1 : o.guard = some (gi, true)) (h2 : (ops[gi]?).bind (·.dst) = some g) (h3 : tmps[g]? = some (.bool c)) : Region.wanted o (yielded ops tmps) = c := by
  unfold Region.wanted yielded
  rw [h1]
  simp only [h2, Option.bind_some, h3]
  cases c <;> rfl
theorem wanted_none {ops : Array Oper} {o : Oper} {tmps : Array Value} (h1 : o.guard = none) : Region.wanted o (yielded ops tmps) = true := by
  unfold Region.wanted
  rw [h1]
theorem wpl_value {P : Program} {ops : Array Oper} {Q : Exit → Act → World → Prop} {o : Oper} {rest : List Oper} {a : Act} {w : World} {v : Value} (hw : Region.wanted o (yielded ops a.tmps) = true) (hr : (execOp a.eval o).run P w = .ok (.value v) w) (h : wpList P ops Q rest (a.put o.dst v) w) : wpList P ops Q (o :: rest) a w := by
  unfold wpList
  rw [if_pos hw]
  refine .inl ?_
  unfold Oper.wp
  rw [hr]
  exact h
theorem wpl_skip {P : Program} {ops : Array Oper} {Q : Exit → Act → World → Prop} {o : Oper} {rest : List Oper} {a : Act} {w : World} (hw : Region.wanted o (yielded ops a.tmps) = false) (h : wpList P ops Q rest (a.put o.dst undef) w) : wpList P ops Q (o :: rest) a w := by
  unfold wpList
  rw [if_neg (by rw [hw]; simp)]
  exact h
theorem run_load {o : Oper} {ev : Operand → Value} {ty : TypeId} {x : Operand} {k i : Nat} {v : Value} {w : World} (ho : o.op = .load ty x) (hx : ev x = pt k i) (hl : (loadVar ty ⟨k, i, none⟩).run Tryz.prog w = .ok v w) : (execOp ev o).run Tryz.prog w = .ok (.value v) w := by
  have hx' : ev x = .pointer (some ⟨k, i, none⟩) := hx
  simp only [execOp, ho, hx', Instr.loadAt, Instr.sureAddr, Sem.run_bind, Sem.run_pure, Result.andThen_ok, hl]
theorem run_pick {o : Oper} {ev : Operand → Value} {x y z : Operand} {c d : Bool} {w : World} (ho : o.op = .pick x y z) (hx : ev x = .bool c) (hz : ev z = .bool false) (hy : c = true → ev y = .bool d) : (execOp ev o).run Tryz.prog w = .ok (.value (.bool (c && d))) w := by
  cases c with
  | true => simp [execOp, ho, hx, hy rfl, go_sem]
  | false => simp [execOp, ho, hx, hz, go_sem]
theorem run_move {o : Oper} {ev : Operand → Value} {x : Operand} {v : Value} {w : World} (ho : o.op = .move x ∨ o.op = .assign x) (hx : ev x = v) : (execOp ev o).run Tryz.prog w = .ok (.value v) w := by
  rcases ho with ho | ho <;> simp [execOp, ho, hx, go_sem]
theorem run_field {o : Oper} {ev : Operand → Value} {x : Operand} {k f i : Nat} {w : World} (ho : o.op = .fieldAddr 41 x f) (hx : ev x = pt k 0) (hf : (Instr.fieldAt 41 (pt k 0) f).run Tryz.prog w = .ok (pt k i) w) : (execOp ev o).run Tryz.prog w = .ok (.value (pt k i)) w := by
  simp only [execOp, ho, hx, Sem.run_bind, hf, Result.andThen_ok, Sem.run_pure]

structure Chunk (ops : Array Oper) (d g gi f ty : Nat) (last : Option Nat) (o0 o1 o2 o3 o4 o5 o6 : Oper) : Prop where
  gd : (ops[gi]?).bind (·.dst) = some g
  a0 : o0.dst = some d ∧ o0.op = .fieldAddr 41 (.tmp 5) f ∧ o0.guard = some (gi, true)
  a1 : o1.dst = some (d + 1) ∧ o1.op = .load ty (.tmp d) ∧ o1.guard = some (gi, true)
  a2 : o2.dst = some (d + 2) ∧ o2.op = .fieldAddr 41 (.tmp 6) f ∧ o2.guard = some (gi, true)
  a3 : o3.dst = some (d + 3) ∧ o3.op = .load ty (.tmp (d + 2)) ∧ o3.guard = some (gi, true)
  a4 : o4.dst = some (d + 4) ∧ o4.guard = some (gi, true)
  a5 : o5.dst = some (d + 5) ∧ o5.op = .pick (.tmp g) (.tmp (d + 4)) (.const (.bool false)) ∧ o5.guard = none
  a6 : o6.dst = last ∧ (o6.op = .move (.tmp (d + 5)) ∨ o6.op = .assign (.tmp (d + 5))) ∧ o6.guard = none
  lim : 10 < g ∧ g < d ∧ d + 5 < 163

def Next (ops : Array Oper) (Q : Exit → Act → World → Prop) (k5 k6 s : Nat) (rest : List Oper) (w : World) (r : Bool) : Prop := ∀ a, Fr a k5 k6 s r → wpList Tryz.prog ops Q rest a w

theorem chunk_false {ops : Array Oper} {Q : Exit → Act → World → Prop} {d g gi f ty s : Nat} {o0 o1 o2 o3 o4 o5 o6 : Oper} (hc : Chunk ops d g gi f ty (some s) o0 o1 o2 o3 o4 o5 o6) (hs : s = 4 ∨ 10 < s) (hs2 : s < 163) {k5 k6 : Nat} {rest : List Oper} {w : World} {a : Act} (h : Fr a k5 k6 g false) (hn : Next ops Q k5 k6 s rest w false) :
    wpList Tryz.prog ops Q (o0 :: o1 :: o2 :: o3 :: o4 :: o5 :: o6 :: rest) a w := by
  obtain ⟨l1, l2, l3⟩ := hc.lim
  obtain ⟨z, s5, s6, sg, df⟩ := h
  refine wpl_skip (wanted_of hc.a0.2.2 hc.gd sg) ?_
  rw [hc.a0.1]
  have sg1 := put_at (v := undef) sg (show d ≠ g by omega)
  refine wpl_skip (wanted_of hc.a1.2.2 hc.gd sg1) ?_
  rw [hc.a1.1]
  have sg2 := put_at (v := undef) sg1 (show d + 1 ≠ g by omega)
  refine wpl_skip (wanted_of hc.a2.2.2 hc.gd sg2) ?_
  rw [hc.a2.1]
  have sg3 := put_at (v := undef) sg2 (show d + 2 ≠ g by omega)
  refine wpl_skip (wanted_of hc.a3.2.2 hc.gd sg3) ?_
  rw [hc.a3.1]
  have sg4 := put_at (v := undef) sg3 (show d + 3 ≠ g by omega)
  refine wpl_skip (wanted_of hc.a4.2 hc.gd sg4) ?_
  rw [hc.a4.1]
  have sg5 := put_at (v := undef) sg4 (show d + 4 ≠ g by omega)
  refine wpl_value (v := .bool false) (wanted_none hc.a5.2.2) (run_pick (c := false) (d := false) hc.a5.2.1 (eval_tmp sg5) rfl (fun h => by cases h)) ?_
  rw [hc.a5.1]
  have z5 : (((((a.put (some d) undef).put (some (d + 1)) undef).put (some (d + 2)) undef).put (some (d + 3)) undef).put (some (d + 4)) undef).tmps.size = 163 := by simp only [put_size]; exact z
  refine wpl_value (v := .bool false) (wanted_none hc.a6.2.2) (run_move hc.a6.2.1 (eval_tmp (put_same (by rw [z5]; omega)))) ?_
  rw [hc.a6.1]
  refine hn _ ⟨by simp only [put_size]; exact z, ?_, ?_, put_same (by simp only [put_size]; omega), by simp only [put_df]; exact df⟩
  · exact put_at (put_at (put_at (put_at (put_at (put_at (put_at s5 (by omega)) (by omega)) (by omega)) (by omega)) (by omega)) (by omega)) (by omega)
  · exact put_at (put_at (put_at (put_at (put_at (put_at (put_at s6 (by omega)) (by omega)) (by omega)) (by omega)) (by omega)) (by omega)) (by omega)

theorem chunk_true {ops : Array Oper} {Q : Exit → Act → World → Prop} {d g gi f ty s i : Nat} {o0 o1 o2 o3 o4 o5 o6 : Oper} (hc : Chunk ops d g gi f ty (some s) o0 o1 o2 o3 o4 o5 o6) (hs : s = 4 ∨ 10 < s) (hs2 : s < 163) {k5 k6 : Nat} {rest : List Oper} {w : World} {a : Act} (h : Fr a k5 k6 g true)
    (hf : ∀ (k : Nat) (w : World), (Instr.fieldAt 41 (pt k 0) f).run Tryz.prog w = .ok (pt k i) w) (u v : Value) (hu : (loadVar ty ⟨k5, i, none⟩).run Tryz.prog w = .ok u w) (hv : (loadVar ty ⟨k6, i, none⟩).run Tryz.prog w = .ok v w)
    (r : Bool) (R : World → Prop) (hcmp : ∀ (a : Act) (K : Act → World → Prop) (Q' : Exit → Act → World → Prop), a.eval (.tmp (d + 1)) = u → a.eval (.tmp (d + 3)) = v → (∀ w', R w' → K (a.put (some (d + 4)) (.bool r)) w') → o4.wp Tryz.prog a w K Q')
    (hn : ∀ w', R w' → Next ops Q k5 k6 s rest w' r) :
    wpList Tryz.prog ops Q (o0 :: o1 :: o2 :: o3 :: o4 :: o5 :: o6 :: rest) a w := by
  obtain ⟨l1, l2, l3⟩ := hc.lim
  obtain ⟨z, s5, s6, sg, df⟩ := h
  refine wpl_value (v := pt k5 i) (wanted_of hc.a0.2.2 hc.gd sg) (run_field hc.a0.2.1 (eval_tmp s5) (hf k5 w)) ?_
  rw [hc.a0.1]
  have sg1 := put_at (v := pt k5 i) sg (show d ≠ g by omega)
  have z1 : (a.put (some d) (pt k5 i)).tmps.size = 163 := by simp only [put_size]; exact z
  have q0 : (a.put (some d) (pt k5 i)).tmps[d]? = some (pt k5 i) := put_same (by omega)
  have s61 := put_at (v := pt k5 i) s6 (show d ≠ 6 by omega)
  have s51 := put_at (v := pt k5 i) s5 (show d ≠ 5 by omega)
  refine wpl_value (v := u) (wanted_of hc.a1.2.2 hc.gd sg1) (run_load hc.a1.2.1 (eval_tmp q0) hu) ?_
  rw [hc.a1.1]
  have sg2 := put_at (v := u) sg1 (show d + 1 ≠ g by omega)
  have s62 := put_at (v := u) s61 (show d + 1 ≠ 6 by omega)
  have s52 := put_at (v := u) s51 (show d + 1 ≠ 5 by omega)
  have q1 : ((a.put (some d) (pt k5 i)).put (some (d + 1)) u).tmps[d + 1]? = some u := put_same (by omega)
  refine wpl_value (v := pt k6 i) (wanted_of hc.a2.2.2 hc.gd sg2) (run_field hc.a2.2.1 (eval_tmp s62) (hf k6 w)) ?_
  rw [hc.a2.1]
  have z2 : ((a.put (some d) (pt k5 i)).put (some (d + 1)) u).tmps.size = 163 := by simp only [put_size]; exact z
  have sg3 := put_at (v := pt k6 i) sg2 (show d + 2 ≠ g by omega)
  have s63 := put_at (v := pt k6 i) s62 (show d + 2 ≠ 6 by omega)
  have s53 := put_at (v := pt k6 i) s52 (show d + 2 ≠ 5 by omega)
  have q13 := put_at (v := pt k6 i) q1 (show d + 2 ≠ d + 1 by omega)
  have q2 : (((a.put (some d) (pt k5 i)).put (some (d + 1)) u).put (some (d + 2)) (pt k6 i)).tmps[d + 2]? = some (pt k6 i) := put_same (by omega)
  refine wpl_value (v := v) (wanted_of hc.a3.2.2 hc.gd sg3) (run_load hc.a3.2.1 (eval_tmp q2) hv) ?_
  rw [hc.a3.1]
  have z3 : (((a.put (some d) (pt k5 i)).put (some (d + 1)) u).put (some (d + 2)) (pt k6 i)).tmps.size = 163 := by simp only [put_size]; exact z
  have sg4 := put_at (v := v) sg3 (show d + 3 ≠ g by omega)
  have s64 := put_at (v := v) s63 (show d + 3 ≠ 6 by omega)
  have s54 := put_at (v := v) s53 (show d + 3 ≠ 5 by omega)
  have q14 := put_at (v := v) q13 (show d + 3 ≠ d + 1 by omega)
  have q3 : ((((a.put (some d) (pt k5 i)).put (some (d + 1)) u).put (some (d + 2)) (pt k6 i)).put (some (d + 3)) v).tmps[d + 3]? = some v := put_same (by omega)
  have z4 : ((((a.put (some d) (pt k5 i)).put (some (d + 1)) u).put (some (d + 2)) (pt k6 i)).put (some (d + 3)) v).tmps.size = 163 := by simp only [put_size]; exact z
  have df4 : ((((a.put (some d) (pt k5 i)).put (some (d + 1)) u).put (some (d + 2)) (pt k6 i)).put (some (d + 3)) v).defers = [] := by simp only [put_df]; exact df
  generalize (((a.put (some d) (pt k5 i)).put (some (d + 1)) u).put (some (d + 2)) (pt k6 i)).put (some (d + 3)) v = b at *
  unfold wpList
  rw [if_pos (wanted_of hc.a4.2 hc.gd sg4)]
  refine .inl ?_
  refine hcmp b _ _ (eval_tmp q14) (eval_tmp q3) (fun w' hR => ?_)
  have sg5 := put_at (v := .bool r) sg4 (show d + 4 ≠ g by omega)
  have q4 : (b.put (some (d + 4)) (.bool r)).tmps[d + 4]? = some (.bool r) := put_same (by omega)
  refine wpl_value (v := .bool r) (wanted_none hc.a5.2.2) (by have := run_pick (c := true) (d := r) (w := w') hc.a5.2.1 (eval_tmp sg5) rfl (fun _ => eval_tmp q4); simpa using this) ?_
  rw [hc.a5.1]
  have z5 : (b.put (some (d + 4)) (.bool r)).tmps.size = 163 := by rw [put_size]; exact z4
  refine wpl_value (v := .bool r) (wanted_none hc.a6.2.2) (run_move hc.a6.2.1 (eval_tmp (put_same (by rw [z5]; omega)))) ?_
  rw [hc.a6.1]
  exact hn w' hR _ ⟨by simp only [put_size]; exact z4, put_at (put_at (put_at s54 (by omega)) (by omega)) (by omega), put_at (put_at (put_at s64 (by omega)) (by omega)) (by omega), put_same (by simp only [put_size]; omega), by simp only [put_df]; exact df4⟩

theorem cmp_bin {o4 : Oper} {d ty : Nat} {u v : Value} {r : Bool} {w : World} (ho : o4.op = .binOp .eql ty (.tmp (d + 1)) (.tmp (d + 3)) ty) (hdst : o4.dst = some (d + 4)) (hg : (eqGuard .eql ty (.tmp (d + 1)) (.tmp (d + 3)) u v).run Tryz.prog w = .ok () w) (hb : (binOp .eql ty u v).run Tryz.prog w = .ok (.bool r) w) :
    ∀ (a : Act) (K : Act → World → Prop) (Q' : Exit → Act → World → Prop), a.eval (.tmp (d + 1)) = u → a.eval (.tmp (d + 3)) = v → (∀ w', w' = w → K (a.put (some (d + 4)) (.bool r)) w') → o4.wp Tryz.prog a w K Q' := by
  intro a K Q' h1 h2 hK
  unfold Oper.wp
  have : (execOp a.eval o4).run Tryz.prog w = .ok (.value (.bool r)) w := by
    simp only [execOp, ho, h1, h2, Sem.run_bind, hg, hb, Result.andThen_ok, Sem.run_pure]
  rw [this]
  show K (a.put o4.dst (.bool r)) w
  rw [hdst]
  exact hK w rfl
theorem cmp_call {o4 : Oper} {d fn t : Nat} {u v : Value} {r : Bool} {w : World} (ho : o4.op = .call { callee := .value (.func fn), args := #[.tmp (d + 1), .tmp (d + 3)], argTypes := #[t, t] }) (hdst : o4.dst = some (d + 4)) (hf : (callFunc fn #[u, v]).run Tryz.prog w = .ok (.enter fn #[u, v]) w) (hb : Calls Tryz.prog fn #[u, v] w (TestPost w r)) :
    ∀ (a : Act) (K : Act → World → Prop) (Q' : Exit → Act → World → Prop), a.eval (.tmp (d + 1)) = u → a.eval (.tmp (d + 3)) = v → (∀ w', Below w.heap.size w w' → K (a.put (some (d + 4)) (.bool r)) w') → o4.wp Tryz.prog a w K Q' := by
  intro a K Q' h1 h2 hK
  unfold Oper.wp
  have : (execOp a.eval o4).run Tryz.prog w = .ok (.enter fn #[u, v]) w := by
    have h1' : a.tmps[d + 1]?.getD undef = u := by simpa [Act.eval] using h1
    have h2' : a.tmps[d + 3]?.getD undef = v := by simpa [Act.eval] using h2
    simp [execOp, ho, go_sem, h1', h2', hf]
  rw [this]
  refine hb.mono ?_
  rintro e w' ⟨rfl, hbl⟩
  show K (a.put o4.dst (.bool r)) w'
  rw [hdst]
  exact hK w' hbl
end
end Go.Proofs.YtcbglcebdkpcfaaGreat
