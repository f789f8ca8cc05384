/- What slices.Equal (of texts, of qids) and bytes.Equal return. Conditions: none beyond what a slice is.
A record equals itself, in the program's and in the reference's type. No condition.
Qids and records compared; slices.Equal of qids and bytes.Equal. No condition. -/
import Derived.Test.YtlmojhlacfjmaaaGreatBunI
import Derived.Test.YtlmojhlacfjmaaaGreatTextIOZ
import Derived.Test.YtlmojhlacfjmaaaGreatBunC
import Derived.Laws.StructEq
namespace Go.Proofs.YtlmojhlacfjmaaaGreat
section
open Go.RowKit
set_option maxRecDepth 100000
set_option linter.unusedVariables false

def TestPost (w : World) (r : Bool) (e : Ending) (w' : World) : Prop := e = .returned (.bool r) ∧ Below w.heap.size w w'

theorem beq_toList {s t : ByteArray} (h : s ≠ t) : (s.toList == t.toList) = false := by
 rw [ByteArray.toList_eq, ByteArray.toList_eq]
 simp only [beq_eq_false_iff_ne, ne_eq]
 intro e
 apply h
 cases s; cases t
 simpa using e
theorem take_succ_eq {α : Type} {L1 L2 : List α} {k : Nat} (h : L1.take k = L2.take k) (h1 : k < L1.length) (h2 : k < L2.length) (he : L1[k] = L2[k]) : L1.take (k + 1) = L2.take (k + 1) := by
 rw [List.take_succ_eq_append_getElem h1, List.take_succ_eq_append_getElem h2, h, he]

set_option maxHeartbeats 1600000 in
theorem seq_any (v1 v2 : Value) (L1 L2 : List ByteArray) (w : World) (hv1 : StrsAt w v1 L1) (hv2 : StrsAt w v2 L2) :
  Calls Tryz.prog 31 #[v1, v2] w (TestPost w (decide (L1 = L2))) := by
 obtain ⟨a1, c1, rfl, g1, g1'⟩ := hv1.form
 obtain ⟨a2, c2, rfl, g2, g2'⟩ := hv2.form
 unfold maxLen at g1' g2'
 by_cases hlen : L1.length = L2.length
 case neg =>
  have hE : Hid (decide (L1 = L2) = false) := hid (decide_eq_false (fun e => hlen (by rw [e])))
  clear hv1 hv2
  go_enter Tryz.func31, Tryz.ntmps31
  go_wp2_with fail
  go_ret
  exact ⟨by rw [hE.out]; rfl, Below.refl _ _⟩
 replace hv1 := hid hv1
 replace hv2 := hid hv2
 have k0 : ((L1.length : Int) != (L2.length : Int)) = false := by simp [hlen]
 replace hlen := hid hlen
 go_enter Tryz.func31, Tryz.ntmps31
 go_wp2_with fail
 go_loopw [13] (fun kv wr => ∃ k : Nat, k ≤ L1.length ∧ kv = .int .i64 (k : Int) ∧ Below w.heap.size w wr ∧ Hid (L1.take k = L2.take k)) (fun kv _ => L1.length - (intOf kv).toNat)
 case atStart => exact ⟨0, by omega, rfl, Below.refl _ _, hid rfl⟩
 case round =>
  obtain ⟨k, hk, rfl, hb, hT⟩ := hrel
  by_cases hkl : k < L1.length
  ·have hkl2 : k < L2.length := by have := hlen.out; omega
   obtain ⟨b1, o1, ha1, hc1⟩ := StrsAt.cell (RowAt.below hv1.out hb : StrsAt wr _ L1) k hkl
   obtain ⟨b2, o2, ha2, hc2⟩ := StrsAt.cell (RowAt.below hv2.out hb : StrsAt wr _ L2) k hkl2
   subst ha1 ha2
   have hd1 : wr.drew.cell? ⟨b1, o1 + k, none⟩ = some (.string L1[k]) := hc1
   have hd2 : wr.drew.cell? ⟨b2, o2 + k, none⟩ = some (.string L2[k]) := hc2
   have hst := hid (hb.drew)
   have hte := hid (take_succ_eq hT.out hkl hkl2)
   have hne : Hid (L1[k] ≠ L2[k] → decide (L1 = L2) = false) := hid (fun h => decide_eq_false (fun e => h (by simp only [e])))
   generalize L1[k] = s1 at *
   generalize L2[k] = s2 at *
   by_cases he : s1 = s2
   ·have hte2 := hid (hte.out he)
    clear hte
    subst he
    go_wp2_with fail
    go_region_held3 (fun w' => w'.cell? ⟨b1, o1 + k, none⟩ = some (.string s1) ∧ w'.cell? ⟨b2, o2 + k, none⟩ = some (.string s1)) (go_keep) (fail)
    go_wp2_with fail
    go_roundw
    case rel => exact ⟨k + 1, by omega, by go_num, hst.out, hte2⟩
    case measure => simp [intOf]; omega
   ·have hE := hid (hne.out he)
    have hq : (s1.toList == s2.toList) = false := beq_toList he
    go_wp2_with fail
    go_region_held3 (fun w' => w'.cell? ⟨b1, o1 + k, none⟩ = some (.string s1) ∧ w'.cell? ⟨b2, o2 + k, none⟩ = some (.string s2)) (go_keep) (fail)
    go_wp2_with fail
    go_ret
    exact ⟨by rw [hE.out]; rfl, hst.out⟩
  ·obtain rfl : k = L1.length := by omega
   have hE : Hid (decide (L1 = L2) = true) := hid (decide_eq_true (by
    have h := hT.out
    rwa [List.take_length, hlen.out, List.take_length] at h))
   go_wp2_with fail
   go_ret
   exact ⟨by rw [hE.out]; rfl, hb⟩
end
end Go.Proofs.YtlmojhlacfjmaaaGreat

namespace Go.Proofs.YtlmojhlacfjmaaaGreat
section
open Go.RowKit
set_option maxRecDepth 100000

theorem st_self (s : Stat) (W : World) : (binOp .eql 31 (.agg s.cells) (.agg s.cells)).run Tryz.prog W = .ok (.bool true) W := by
 have h1 : Tryz.prog.underlying 31 = some (.struct (Tryz.prog.fieldsOf 31)) := by kernel_rfl
 have h2 : Tryz.prog.stoodInHeld 31 = false := by kernel_rfl
 have h4 : Tryz.prog.stoodInHeld 28 = false := by kernel_rfl
 have h5 := Tryz.underlying5
 have h6 := Tryz.underlying22
 have h7 := Tryz.underlying23
 have h8 := Tryz.underlying26
 have h9 := Tryz.underlying9
 rw [run_eql_struct, run_equalIn_agg W _ _ _ _ h1 h2]
 have g1 := Tryz.underlying31
 have g2 := Tryz.underlying28
 clear h1
 simp [go_sem, h4, h5, h6, h7, h8, h9, g1, g2, Stat.cells]

end
end Go.Proofs.YtlmojhlacfjmaaaGreat

namespace Go.Proofs.YtlmojhlacfjmaaaGreat
section
open Go.RowKit
set_option maxRecDepth 100000
set_option linter.unusedVariables false

def eqQ (x y : QidV) : Bool := decide (x.t = y.t) && decide (x.v = y.v) && decide (x.p = y.p)
theorem eqQ_iff {x y : QidV} : eqQ x y = true ↔ x = y := by
 cases x; cases y; simp [eqQ, and_assoc]
def eqS (x y : Stat) : Bool := decide (x.kind = y.kind ∧ x.dev = y.dev ∧ x.qt = y.qt ∧ x.qv = y.qv ∧ x.qp = y.qp ∧ x.mode = y.mode ∧ x.atm = y.atm ∧ x.mtm = y.mtm ∧ x.len = y.len ∧ x.name = y.name ∧ x.uid = y.uid ∧ x.gid = y.gid ∧ x.muid = y.muid)
theorem eqS_iff {x y : Stat} : eqS x y = true ↔ x = y := by
 cases x; cases y; simp [eqS]
theorem toList_inj {s t : ByteArray} (h : s.toList = t.toList) : s = t := by
 rw [ByteArray.toList_eq, ByteArray.toList_eq] at h
 cases s; cases t
 simpa using h
theorem qid_cmp (x y : QidV) (W : World) : (binOp .eql 28 (.agg x.cells) (.agg y.cells)).run Tryz.prog W = .ok (.bool (eqQ x y)) W := by
 have h1 : Tryz.prog.underlying 28 = some (.struct (Tryz.prog.fieldsOf 28)) := by kernel_rfl
 have h2 : Tryz.prog.stoodInHeld 28 = false := by kernel_rfl
 have h5 := Tryz.underlying5
 have h7 := Tryz.underlying23
 have h8 := Tryz.underlying26
 rw [run_eql_struct, run_equalIn_agg W _ _ _ _ h1 h2]
 have g2 := Tryz.underlying28
 clear h1
 by_cases h : eqQ x y = true
 ·obtain rfl := eqQ_iff.1 h
  rw [h]
  simp [go_sem, h5, h7, h8, g2, QidV.cells]
 ·rw [Bool.eq_false_iff.2 h]
  simp only [eqQ, Bool.and_eq_true, decide_eq_true_eq] at h
  simp [go_sem, h5, h7, h8, g2, QidV.cells]
  repeat' split
  all_goals first
   | rfl
   | (exfalso; omega)
   | omega
theorem qid_ncmp (x y : QidV) (W : World) : (binOp .neq 28 (.agg x.cells) (.agg y.cells)).run Tryz.prog W = .ok (.bool (!eqQ x y)) W := by
 have h1 : Tryz.prog.underlying 28 = some (.struct (Tryz.prog.fieldsOf 28)) := by kernel_rfl
 have h2 : Tryz.prog.stoodInHeld 28 = false := by kernel_rfl
 have h5 := Tryz.underlying5
 have h7 := Tryz.underlying23
 have h8 := Tryz.underlying26
 rw [run_neq_struct, run_equalIn_agg W _ _ _ _ h1 h2]
 have g2 := Tryz.underlying28
 clear h1
 by_cases h : eqQ x y = true
 ·obtain rfl := eqQ_iff.1 h
  rw [h]
  simp [go_sem, h5, h7, h8, g2, QidV.cells]
 ·rw [Bool.eq_false_iff.2 h]
  simp only [eqQ, Bool.and_eq_true, decide_eq_true_eq] at h
  simp [go_sem, h5, h7, h8, g2, QidV.cells]
  repeat' split
  all_goals first
   | rfl
   | (exfalso; omega)
   | omega
theorem stat_cmp (x y : Stat) (W : World) : (binOp .eql 31 (.agg x.cells) (.agg y.cells)).run Tryz.prog W = .ok (.bool (eqS x y)) W := by
 have h1 : Tryz.prog.underlying 31 = some (.struct (Tryz.prog.fieldsOf 31)) := by kernel_rfl
 have h2 : Tryz.prog.stoodInHeld 31 = false := by kernel_rfl
 have h4 : Tryz.prog.stoodInHeld 28 = false := by kernel_rfl
 have h5 := Tryz.underlying5
 have h6 := Tryz.underlying22
 have h7 := Tryz.underlying23
 have h8 := Tryz.underlying26
 have h9 := Tryz.underlying9
 by_cases h : eqS x y = true
 ·obtain rfl := eqS_iff.1 h
  rw [h]
  exact st_self x W
 rw [Bool.eq_false_iff.2 h, run_eql_struct, run_equalIn_agg W _ _ _ _ h1 h2]
 have g1 := Tryz.underlying31
 have g2 := Tryz.underlying28
 clear h1
 simp [go_sem, h4, h5, h6, h7, h8, h9, g1, g2, Stat.cells]
 have hx : x.kind = y.kind → x.dev = y.dev → x.qt = y.qt → x.qv = y.qv → x.qp = y.qp → x.mode = y.mode → x.atm = y.atm → x.mtm = y.mtm → x.len = y.len → x.name.toList = y.name.toList → x.uid.toList = y.uid.toList → x.gid.toList = y.gid.toList → x.muid.toList = y.muid.toList → False :=
  fun a1 a2 a3 a4 a5 a6 a7 a8 a9 a10 a11 a12 a13 => h (decide_eq_true ⟨a1, a2, a3, a4, a5, a6, a7, a8, a9, toList_inj a10, toList_inj a11, toList_inj a12, toList_inj a13⟩)
 clear h2 h4 h5 h6 h7 h8 h9 g1 g2 h
 intro a1 a2 a3 a4 a5 a6 a7 a8 a9 a10 a11 a12 a13
 exact hx (by omega) (by omega) (by omega) (by omega) (by omega) (by omega) (by omega) (by omega) (by omega) a10 a11 a12 a13

noncomputable def eqQL (L1 L2 : List QidV) : Bool := @decide (L1 = L2) (Classical.propDecidable _)
theorem eqQL_iff {L1 L2 : List QidV} : eqQL L1 L2 = true ↔ L1 = L2 := by unfold eqQL; exact @decide_eq_true_iff _ (Classical.propDecidable _)
theorem eqQL_no {L1 L2 : List QidV} (h : L1 ≠ L2) : eqQL L1 L2 = false := by
 rcases hb : eqQL L1 L2 with _ | _
 ·rfl
 ·exact absurd (eqQL_iff.1 hb) h

set_option maxHeartbeats 1600000 in
theorem qeq_any (v1 v2 : Value) (L1 L2 : List QidV) (w : World) (hv1 : QidsAt w v1 L1) (hv2 : QidsAt w v2 L2) :
  Calls Tryz.prog 32 #[v1, v2] w (TestPost w (eqQL L1 L2)) := by
 obtain ⟨a1, c1, rfl, g1, g1'⟩ := hv1.form
 obtain ⟨a2, c2, rfl, g2, g2'⟩ := hv2.form
 unfold maxLen at g1' g2'
 by_cases hlen : L1.length = L2.length
 case neg =>
  have hE : Hid (eqQL L1 L2 = false) := hid (eqQL_no (fun e => hlen (by rw [e])))
  clear hv1 hv2
  go_enter Tryz.func32, Tryz.ntmps32
  go_wp2_with fail
  go_ret
  exact ⟨by rw [hE.out]; rfl, Below.refl _ _⟩
 replace hv1 := hid hv1
 replace hv2 := hid hv2
 have k0 : ((L1.length : Int) != (L2.length : Int)) = false := by simp [hlen]
 replace hlen := hid hlen
 have hcmp := qid_ncmp
 replace hcmp := hid hcmp
 go_enter Tryz.func32, Tryz.ntmps32
 go_wp2_with fail
 go_loopw [13] (fun kv wr => ∃ k : Nat, k ≤ L1.length ∧ kv = .int .i64 (k : Int) ∧ Below w.heap.size w wr ∧ Hid (L1.take k = L2.take k)) (fun kv _ => L1.length - (intOf kv).toNat)
 case atStart => exact ⟨0, by omega, rfl, Below.refl _ _, hid rfl⟩
 case round =>
  obtain ⟨k, hk, rfl, hb, hT⟩ := hrel
  by_cases hkl : k < L1.length
  ·have hkl2 : k < L2.length := by have := hlen.out; omega
   obtain ⟨b1, o1, ha1, x1, x2, x3⟩ := QidsAt.cell (RowAt.below hv1.out hb : QidsAt wr _ L1) k hkl
   obtain ⟨b2, o2, ha2, y1, y2, y3⟩ := QidsAt.cell (RowAt.below hv2.out hb : QidsAt wr _ L2) k hkl2
   subst ha1 ha2
   have hst := hid (hb.drew)
   have hte := hid (take_succ_eq hT.out hkl hkl2)
   have hne : Hid (L1[k] ≠ L2[k] → eqQL L1 L2 = false) := hid (fun h => eqQL_no (fun e => h (by simp only [e])))
   have hcm := fun W => hcmp.out L1[k] L2[k] W
   generalize L1[k] = s1 at *
   generalize L2[k] = s2 at *
   by_cases he : s1 = s2
   ·have hte2 := hid (hte.out he)
    have hq : eqQ s1 s2 = true := eqQ_iff.2 he
    rw [hq] at hcm
    clear hte hq
    have hcm2 : ∀ W, (binOp .neq 28 (.agg #[.int .u8 (s1.t : Int), .int .u32 (s1.v : Int), .int .u64 (s1.p : Int)]) (.agg #[.int .u8 (s2.t : Int), .int .u32 (s2.v : Int), .int .u64 (s2.p : Int)])).run Tryz.prog W = .ok (.bool false) W := hcm
    clear hcm he
    go_wp2_with fail
    go_region_held3 (fun w' => w'.cell? ⟨b1, o1 + k * 3, none⟩ = some (.int .u8 (s1.t : Int)) ∧ w'.cell? ⟨b1, o1 + k * 3 + 1, none⟩ = some (.int .u32 (s1.v : Int)) ∧ w'.cell? ⟨b1, o1 + k * 3 + 2, none⟩ = some (.int .u64 (s1.p : Int)) ∧ w'.cell? ⟨b2, o2 + k * 3, none⟩ = some (.int .u8 (s2.t : Int)) ∧ w'.cell? ⟨b2, o2 + k * 3 + 1, none⟩ = some (.int .u32 (s2.v : Int)) ∧ w'.cell? ⟨b2, o2 + k * 3 + 2, none⟩ = some (.int .u64 (s2.p : Int))) (go_keep) (fail)
    go_wp2_with fail
    go_roundw
    case rel => exact ⟨k + 1, by omega, by go_num, hst.out, hte2⟩
    case measure => simp [intOf]; omega
   ·have hE := hid (hne.out he)
    have hq : eqQ s1 s2 = false := by
     rcases h : eqQ s1 s2 with _ | _
     ·rfl
     ·exact absurd (eqQ_iff.1 h) he
    rw [hq] at hcm
    clear hte hq
    have hcm2 : ∀ W, (binOp .neq 28 (.agg #[.int .u8 (s1.t : Int), .int .u32 (s1.v : Int), .int .u64 (s1.p : Int)]) (.agg #[.int .u8 (s2.t : Int), .int .u32 (s2.v : Int), .int .u64 (s2.p : Int)])).run Tryz.prog W = .ok (.bool true) W := hcm
    clear hcm he
    go_wp2_with fail
    go_region_held3 (fun w' => w'.cell? ⟨b1, o1 + k * 3, none⟩ = some (.int .u8 (s1.t : Int)) ∧ w'.cell? ⟨b1, o1 + k * 3 + 1, none⟩ = some (.int .u32 (s1.v : Int)) ∧ w'.cell? ⟨b1, o1 + k * 3 + 2, none⟩ = some (.int .u64 (s1.p : Int)) ∧ w'.cell? ⟨b2, o2 + k * 3, none⟩ = some (.int .u8 (s2.t : Int)) ∧ w'.cell? ⟨b2, o2 + k * 3 + 1, none⟩ = some (.int .u32 (s2.v : Int)) ∧ w'.cell? ⟨b2, o2 + k * 3 + 2, none⟩ = some (.int .u64 (s2.p : Int))) (go_keep) (fail)
    go_wp2_with fail
    go_ret
    exact ⟨by rw [hE.out]; rfl, hst.out⟩
  ·obtain rfl : k = L1.length := by omega
   have hE : Hid (eqQL L1 L2 = true) := hid (eqQL_iff.2 (by
    have h := hT.out
    rwa [List.take_length, hlen.out, List.take_length] at h))
   go_wp2_with fail
   go_ret
   exact ⟨by rw [hE.out]; rfl, hb⟩

theorem beq_any (v1 v2 : Value) (L1 L2 : List UInt8) (w : World) (hv1 : BytesAt w v1 L1) (hv2 : BytesAt w v2 L2) :
  Calls Tryz.prog 33 #[v1, v2] w (TestPost w (decide (L1 = L2))) := by
 have k1 := conv_string w v1 L1 hv1
 have k2 := conv_string w v2 L2 hv2
 obtain ⟨a1, c1, rfl, g1, g1', _⟩ := hv1.form
 obtain ⟨a2, c2, rfl, g2, g2', _⟩ := hv2.form
 clear hv1 hv2
 by_cases he : L1 = L2
 ·have hE : Hid (decide (L1 = L2) = true) := hid (decide_eq_true he)
  have hq : ((strL L1).toList == (strL L2).toList) = true := by rw [he]; simp
  clear he
  go_enter Tryz.func33, Tryz.ntmps33
  go_wp2_with fail
  go_ret
  exact ⟨by rw [hE.out]; rfl, Below.refl _ _⟩
 ·have hE : Hid (decide (L1 = L2) = false) := hid (decide_eq_false he)
  have hq : ((strL L1).toList == (strL L2).toList) = false := beq_toList (fun e => he (by simpa [strL] using e))
  clear he
  go_enter Tryz.func33, Tryz.ntmps33
  go_wp2_with fail
  go_ret
  exact ⟨by rw [hE.out]; rfl, Below.refl _ _⟩
end
end Go.Proofs.YtlmojhlacfjmaaaGreat
