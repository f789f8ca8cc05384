/- What is told of a node, compared: the last region of law NodeTold. Conditions: in the statements.
Law NodeTold. Conditions: numbers in their types.
Law NodeTold as its frame needs it. Conditions: the argument as it comes in. -/
import Derived.Test.YtpmlhmficmillaaBunKn
import Derived.Test.YtpmlhmficmillaaBunNSr
import Derived.Test.YtpmlhmficmillaaBunW
import Derived.Test.YtpmlhmficmillaaBunTI
namespace Go.Proofs.Ytpmlhmficmillaa
section
open Go.RowKit
set_option maxRecDepth 100000
set_option linter.unusedVariables false

theorem rq_self (n : Nod) (W : World) : (binOp .eql 66 (.agg (qidC n)) (.agg (qidC n))).run Try.prog W = .ok (.bool true) W := by
  have h1 : Try.prog.underlying 66 = some (.struct (Try.prog.fieldsOf 66)) := by kernel_rfl
  have h2 : Try.prog.stoodInHeld 66 = false := by kernel_rfl
  have h5 := Try.underlying5
  have h7 := Try.underlying34
  have h8 := Try.underlying22
  rw [run_eql_struct, run_equalIn_agg W _ _ _ _ h1 h2]
  have g2 := Try.underlying66
  clear h1
  simp [go_sem, h5, h7, h8, g2, qidC]
section
variable {o : Oper} {ev : Operand → Value} {w : World} {x y z : Operand}
theorem rrun_pickt {c : Bool} {v : Value} (ho : o.op = .pick x y z) (hx : ev x = .bool c) (hc : c = true) (hy : ev y = v) : (execOp ev o).run Try.prog w = .ok (.value v) w := by
  subst hc
  simp [execOp, ho, hx, hy, go_sem]
end
def statN (n : Nod) : Stat := ⟨0, 0, typeN n.mode, n.vers, n.path, n.mode, n.atm, n.mtm, n.data.size, n.name, n.uid, n.gid, n.muid⟩
theorem st_same (n : Nod) (W : World) : (binOp .eql 74 (.agg (statC n n.data.size)) (.agg (statC n n.data.size))).run Try.prog W = .ok (.bool true) W := rst_self (statN n) W
theorem nstat_is (n : Nod) (w : World) (hn : NodOk n) (hd : n.data.size ≤ 1000000) (hl : lenN n = n.data.size) : Calls Try.prog 30 #[.agg n.cells] w fun e w' => e = .returned (.agg (statC n n.data.size)) ∧ Below w.heap.size w w' := by
  have h := nstat_any n w hn hd
  rw [hl] at h
  exact h

noncomputable def ops_nt5 : Array Oper := match Try.f7.body with | some c => (allOps' c).getD 5 #[] | none => #[]
theorem size_nt5 : ops_nt5.size = 17 := by kernel_rfl
set_option maxHeartbeats 4000000 in
theorem nt5_all {w1 : World} {g : Nat} {n : Nod} (hn : NodOk n) (hd : n.data.size ≤ 1000000) (hl : lenN n = n.data.size) (hg : w1.heap[g]? = some (.cells n.cells 56 (0, 0))) {v0 : Value} {Q : Exit → Act → World → Prop} {a : Act} {w : World} (hQ : ∀ d u c a w, Q (.panic c) (a.put d u) w → Q (.panic c) a w) (hF : FrL 60 [(1, ptr g 0), (0, v0)] a) (hS : (Below w1.heap.size w1) w) (hE : ∀ a w', FrL 60 ((2, .bool true) :: [(1, ptr g 0), (0, v0)]) a → (Below w1.heap.size w1) w' → Q .normal a w') : wpAnyH Try.prog .any ops_nt5 Q ((Below w1.heap.size w1)) 17 (Array.replicate 17 false) a w := by
  refine hst (i := 0) (o := ops_nt5[0]'(show 0 < ops_nt5.size by rw [size_nt5]; decide)) hF 44 true (.agg n.cells) (Array.getElem?_eq_getElem (show 0 < ops_nt5.size by rw [size_nt5]; decide)) (by kernel_rfl) (by decide) (by kernel_rfl) (by kernel_rfl) (by kernel_rfl) (hQ _ _) (want_n (by kernel_rfl)) (fun hW w hS => rrun_load (ty := 56) (x := .tmp 1) (by kernel_rfl) (hF.ev 1 (ptr g 0) rfl) (rld_nnode (range_wholeP ((hS.block _ (lt_of_block hg)).trans hg)))) hS (fun a hF => ?_)
  rw [show cond true (.agg n.cells) undef = .agg n.cells from rfl] at hF
  refine hst (i := 3) (o := ops_nt5[3]'(show 3 < ops_nt5.size by rw [size_nt5]; decide)) hF 47 true (.agg n.cells) (Array.getElem?_eq_getElem (show 3 < ops_nt5.size by rw [size_nt5]; decide)) (by kernel_rfl) (by decide) (by kernel_rfl) (by kernel_rfl) (by kernel_rfl) (hQ _ _) (want_n (by kernel_rfl)) (fun hW w hS => rrun_load (ty := 56) (x := .tmp 1) (by kernel_rfl) (hF.ev 1 (ptr g 0) rfl) (rld_nnode (range_wholeP ((hS.block _ (lt_of_block hg)).trans hg)))) hS (fun a hF => ?_)
  rw [show cond true (.agg n.cells) undef = .agg n.cells from rfl] at hF
  refine hcall (i := 1) (o := ops_nt5[1]'(show 1 < ops_nt5.size by rw [size_nt5]; decide)) hF 45 true (.agg (qidC n)) (Array.getElem?_eq_getElem (show 1 < ops_nt5.size by rw [size_nt5]; decide)) (by kernel_rfl) (by decide) (by kernel_rfl) (want_n (by kernel_rfl)) (fun hW => ⟨26, #[.agg n.cells], rrun_call1 (fn := 26) (t := 56) rfl (by kernel_rfl) (by kernel_rfl) (hF.ev 44 (.agg n.cells) rfl), (nqid_any n w hn).mono (fun e w' ⟨h, hb⟩ => ⟨h, hS.trans (hb.mono hS.size)⟩)⟩) hS (fun a w hF hS => ?_)
  rw [show cond true (.agg (qidC n)) undef = .agg (qidC n) from rfl] at hF
  refine hcall (i := 2) (o := ops_nt5[2]'(show 2 < ops_nt5.size by rw [size_nt5]; decide)) hF 46 true (.agg (qidC n)) (Array.getElem?_eq_getElem (show 2 < ops_nt5.size by rw [size_nt5]; decide)) (by kernel_rfl) (by decide) (by kernel_rfl) (want_n (by kernel_rfl)) (fun hW => ⟨25, #[.agg (qidC n)], rrun_call1 (fn := 25) (t := 68) rfl (by kernel_rfl) (by kernel_rfl) (hF.ev 45 (.agg (qidC n)) rfl), (qid_of_any (typeN n.mode : Int) (n.vers : Int) (n.path : Int) w).mono (fun e w' ⟨h, hb⟩ => ⟨h, hS.trans (hb.mono hS.size)⟩)⟩) hS (fun a w hF hS => ?_)
  rw [show cond true (.agg (qidC n)) undef = .agg (qidC n) from rfl] at hF
  refine hcall (i := 4) (o := ops_nt5[4]'(show 4 < ops_nt5.size by rw [size_nt5]; decide)) hF 48 true (.agg n.cells) (Array.getElem?_eq_getElem (show 4 < ops_nt5.size by rw [size_nt5]; decide)) (by kernel_rfl) (by decide) (by kernel_rfl) (want_n (by kernel_rfl)) (fun hW => ⟨28, #[.agg n.cells], rrun_call1 (fn := 28) (t := 56) rfl (by kernel_rfl) (by kernel_rfl) (hF.ev 47 (.agg n.cells) rfl), (ofnode_any n w).mono (fun e w' ⟨h, hb⟩ => ⟨h, hS.trans (hb.mono hS.size)⟩)⟩) hS (fun a w hF hS => ?_)
  rw [show cond true (.agg n.cells) undef = .agg n.cells from rfl] at hF
  refine hcall (i := 5) (o := ops_nt5[5]'(show 5 < ops_nt5.size by rw [size_nt5]; decide)) hF 49 true (.agg (qidC n)) (Array.getElem?_eq_getElem (show 5 < ops_nt5.size by rw [size_nt5]; decide)) (by kernel_rfl) (by decide) (by kernel_rfl) (want_n (by kernel_rfl)) (fun hW => ⟨27, #[.agg n.cells], rrun_call1 (fn := 27) (t := 71) rfl (by kernel_rfl) (by kernel_rfl) (hF.ev 48 (.agg n.cells) rfl), (rqid18_any n w hn).mono (fun e w' ⟨h, hb⟩ => ⟨h, hS.trans (hb.mono hS.size)⟩)⟩) hS (fun a w hF hS => ?_)
  rw [show cond true (.agg (qidC n)) undef = .agg (qidC n) from rfl] at hF
  refine hst (i := 6) (o := ops_nt5[6]'(show 6 < ops_nt5.size by rw [size_nt5]; decide)) hF 50 true (.bool true) (Array.getElem?_eq_getElem (show 6 < ops_nt5.size by rw [size_nt5]; decide)) (by kernel_rfl) (by decide) (by kernel_rfl) (by kernel_rfl) (by kernel_rfl) (hQ _ _) (want_n (by kernel_rfl)) (fun hW w hS => rrun_bin (op := .eql) (ty := 66) (ty2 := 66) (x := .tmp 46) (y := .tmp 49) (u := .agg (qidC n)) (v := .agg (qidC n)) (by kernel_rfl) (hF.ev 46 (.agg (qidC n)) rfl) (hF.ev 49 (.agg (qidC n)) rfl) (by kernel_rfl) (rq_self n w)) hS (fun a hF => ?_)
  rw [show cond true (.bool true) undef = .bool true from rfl] at hF
  refine hst (i := 7) (o := ops_nt5[7]'(show 7 < ops_nt5.size by rw [size_nt5]; decide)) hF 51 true (.bool true) (Array.getElem?_eq_getElem (show 7 < ops_nt5.size by rw [size_nt5]; decide)) (by kernel_rfl) (by decide) (by kernel_rfl) (by kernel_rfl) (by kernel_rfl) (hQ _ _) (want_n (by kernel_rfl)) (fun hW w hS => rrun_move (x := .tmp 50) (.inl (by kernel_rfl)) (hF.ev 50 (.bool true) rfl)) hS (fun a hF => ?_)
  rw [show cond true (.bool true) undef = .bool true from rfl] at hF
  refine hst (i := 8) (o := ops_nt5[8]'(show 8 < ops_nt5.size by rw [size_nt5]; decide)) hF 52 true (.agg n.cells) (Array.getElem?_eq_getElem (show 8 < ops_nt5.size by rw [size_nt5]; decide)) (by kernel_rfl) (by decide) (by kernel_rfl) (by kernel_rfl) (by kernel_rfl) (hQ _ _) (Eq.trans (b := (true == true)) (want_b (gi := 7) (g := 51) (c := true) hF (by kernel_rfl) (by kernel_rfl) rfl) rfl) (fun hW w hS => rrun_load (ty := 56) (x := .tmp 1) (by kernel_rfl) (hF.ev 1 (ptr g 0) rfl) (rld_nnode (range_wholeP ((hS.block _ (lt_of_block hg)).trans hg)))) hS (fun a hF => ?_)
  rw [show cond true (.agg n.cells) undef = .agg n.cells from rfl] at hF
  refine hst (i := 11) (o := ops_nt5[11]'(show 11 < ops_nt5.size by rw [size_nt5]; decide)) hF 55 true (.agg n.cells) (Array.getElem?_eq_getElem (show 11 < ops_nt5.size by rw [size_nt5]; decide)) (by kernel_rfl) (by decide) (by kernel_rfl) (by kernel_rfl) (by kernel_rfl) (hQ _ _) (Eq.trans (b := (true == true)) (want_b (gi := 7) (g := 51) (c := true) hF (by kernel_rfl) (by kernel_rfl) rfl) rfl) (fun hW w hS => rrun_load (ty := 56) (x := .tmp 1) (by kernel_rfl) (hF.ev 1 (ptr g 0) rfl) (rld_nnode (range_wholeP ((hS.block _ (lt_of_block hg)).trans hg)))) hS (fun a hF => ?_)
  rw [show cond true (.agg n.cells) undef = .agg n.cells from rfl] at hF
  refine hcall (i := 9) (o := ops_nt5[9]'(show 9 < ops_nt5.size by rw [size_nt5]; decide)) hF 53 true (.agg (statC n n.data.size)) (Array.getElem?_eq_getElem (show 9 < ops_nt5.size by rw [size_nt5]; decide)) (by kernel_rfl) (by decide) (by kernel_rfl) (Eq.trans (b := (true == true)) (want_b (gi := 7) (g := 51) (c := true) hF (by kernel_rfl) (by kernel_rfl) rfl) rfl) (fun hW => ⟨30, #[.agg n.cells], rrun_call1 (fn := 30) (t := 56) rfl (by kernel_rfl) (by kernel_rfl) (hF.ev 52 (.agg n.cells) rfl), (nstat_is n w hn hd hl).mono (fun e w' ⟨h, hb⟩ => ⟨h, hS.trans (hb.mono hS.size)⟩)⟩) hS (fun a w hF hS => ?_)
  rw [show cond true (.agg (statC n n.data.size)) undef = .agg (statC n n.data.size) from rfl] at hF
  refine hcall (i := 10) (o := ops_nt5[10]'(show 10 < ops_nt5.size by rw [size_nt5]; decide)) hF 54 true (.agg (statC n n.data.size)) (Array.getElem?_eq_getElem (show 10 < ops_nt5.size by rw [size_nt5]; decide)) (by kernel_rfl) (by decide) (by kernel_rfl) (Eq.trans (b := (true == true)) (want_b (gi := 7) (g := 51) (c := true) hF (by kernel_rfl) (by kernel_rfl) rfl) rfl) (fun hW => ⟨29, #[.agg (statC n n.data.size)], rrun_call1 (fn := 29) (t := 77) rfl (by kernel_rfl) (by kernel_rfl) (hF.ev 53 (.agg (statC n n.data.size)) rfl), (of_any (statN n) w).mono (fun e w' ⟨h, hb⟩ => ⟨h, hS.trans (hb.mono hS.size)⟩)⟩) hS (fun a w hF hS => ?_)
  rw [show cond true (.agg (statC n n.data.size)) undef = .agg (statC n n.data.size) from rfl] at hF
  refine hcall (i := 12) (o := ops_nt5[12]'(show 12 < ops_nt5.size by rw [size_nt5]; decide)) hF 56 true (.agg n.cells) (Array.getElem?_eq_getElem (show 12 < ops_nt5.size by rw [size_nt5]; decide)) (by kernel_rfl) (by decide) (by kernel_rfl) (Eq.trans (b := (true == true)) (want_b (gi := 7) (g := 51) (c := true) hF (by kernel_rfl) (by kernel_rfl) rfl) rfl) (fun hW => ⟨28, #[.agg n.cells], rrun_call1 (fn := 28) (t := 56) rfl (by kernel_rfl) (by kernel_rfl) (hF.ev 55 (.agg n.cells) rfl), (ofnode_any n w).mono (fun e w' ⟨h, hb⟩ => ⟨h, hS.trans (hb.mono hS.size)⟩)⟩) hS (fun a w hF hS => ?_)
  rw [show cond true (.agg n.cells) undef = .agg n.cells from rfl] at hF
  refine hcall (i := 13) (o := ops_nt5[13]'(show 13 < ops_nt5.size by rw [size_nt5]; decide)) hF 57 true (.agg (statC n n.data.size)) (Array.getElem?_eq_getElem (show 13 < ops_nt5.size by rw [size_nt5]; decide)) (by kernel_rfl) (by decide) (by kernel_rfl) (Eq.trans (b := (true == true)) (want_b (gi := 7) (g := 51) (c := true) hF (by kernel_rfl) (by kernel_rfl) rfl) rfl) (fun hW => ⟨31, #[.agg n.cells], rrun_call1 (fn := 31) (t := 71) rfl (by kernel_rfl) (by kernel_rfl) (hF.ev 56 (.agg n.cells) rfl), (rstat18_any n w hn hd).mono (fun e w' ⟨h, hb⟩ => ⟨h, hS.trans (hb.mono hS.size)⟩)⟩) hS (fun a w hF hS => ?_)
  rw [show cond true (.agg (statC n n.data.size)) undef = .agg (statC n n.data.size) from rfl] at hF
  refine hst (i := 14) (o := ops_nt5[14]'(show 14 < ops_nt5.size by rw [size_nt5]; decide)) hF 58 true (.bool true) (Array.getElem?_eq_getElem (show 14 < ops_nt5.size by rw [size_nt5]; decide)) (by kernel_rfl) (by decide) (by kernel_rfl) (by kernel_rfl) (by kernel_rfl) (hQ _ _) (Eq.trans (b := (true == true)) (want_b (gi := 7) (g := 51) (c := true) hF (by kernel_rfl) (by kernel_rfl) rfl) rfl) (fun hW w hS => rrun_bin (op := .eql) (ty := 74) (ty2 := 74) (x := .tmp 54) (y := .tmp 57) (u := .agg (statC n n.data.size)) (v := .agg (statC n n.data.size)) (by kernel_rfl) (hF.ev 54 (.agg (statC n n.data.size)) rfl) (hF.ev 57 (.agg (statC n n.data.size)) rfl) (by kernel_rfl) (st_same n w)) hS (fun a hF => ?_)
  rw [show cond true (.bool true) undef = .bool true from rfl] at hF
  refine hst (i := 15) (o := ops_nt5[15]'(show 15 < ops_nt5.size by rw [size_nt5]; decide)) hF 59 true (.bool true) (Array.getElem?_eq_getElem (show 15 < ops_nt5.size by rw [size_nt5]; decide)) (by kernel_rfl) (by decide) (by kernel_rfl) (by kernel_rfl) (by kernel_rfl) (hQ _ _) (want_n (by kernel_rfl)) (fun hW w hS => rrun_pickt (x := .tmp 51) (y := .tmp 58) (z := .const (.bool false)) (by kernel_rfl) (hF.ev 51 _ rfl) rfl (hF.ev 58 _ rfl)) hS (fun a hF => ?_)
  rw [show cond true (.bool true) undef = .bool true from rfl] at hF
  refine hst (i := 16) (o := ops_nt5[16]'(show 16 < ops_nt5.size by rw [size_nt5]; decide)) hF 2 true (.bool true) (Array.getElem?_eq_getElem (show 16 < ops_nt5.size by rw [size_nt5]; decide)) (by kernel_rfl) (by decide) (by kernel_rfl) (by kernel_rfl) (by kernel_rfl) (hQ _ _) (want_n (by kernel_rfl)) (fun hW w hS => rrun_move (x := .tmp 59) (.inr (by kernel_rfl)) (hF.ev 59 (.bool true) rfl)) hS (fun a hF => ?_)
  rw [show cond true (.bool true) undef = .bool true from rfl] at hF
  exact wpAnyH_done (by kernel_rfl) (hE _ _ (hF.sub ((2, .bool true) :: [(1, ptr g 0), (0, v0)]) ⟨rfl, rfl, rfl, trivial⟩) hS) _
end
end Go.Proofs.Ytpmlhmficmillaa

namespace Go.Proofs.Ytpmlhmficmillaa
section
open Go.RowKit
set_option maxRecDepth 100000
set_option linter.unusedVariables false

set_option maxHeartbeats 3200000 in
theorem law_NodeTold (n : Nod) (w : World) (hn : NodOk n) : Calls Try.prog 7 #[.agg n.cells] w fun e w' => e = .returned (.bool true) ∧ Below w.heap.size w w' := by
  have mixed : Try.prog.follows Departure.mixedOrders = true := by first | kernel_rfl | decide
  obtain ⟨W, hW⟩ : ∃ W, W = w.alloc (.cells n.cells 56) := ⟨_, rfl⟩
  have hb0 : Below w.heap.size w W := by rw [hW]; exact (Below.refl _ _).alloc (Nat.le_refl _) _
  have hx0 : W.heap[w.heap.size]? = some (.cells n.cells 56 (0, 0)) := by rw [hW]; exact heap_alloc_new _ _
  have hc := hid (known14_any W)
  have hnn := hid hn
  replace hx0 := hid hx0
  replace hb0 := hid hb0
  rw [nod_cells] at hW ⊢
  go_enter Try.func7, Try.ntmps7
  go_wp2_with (rw [← hW]; replace hW := hid hW)
  refine hc.out.mono ?_
  rintro e w1 ⟨rfl, hb1⟩
  have hB := hid (hb0.out.trans (hb1.mono (by have := hb0.out.size; omega)))
  have hx1 := hid ((hb1.block _ (lt_of_block hx0.out)).trans hx0.out)
  clear hc hb1 hx0 hb0 hn
  have s5 := hnn.out.name
  have s6 := hnn.out.uid
  have s7 := hnn.out.gid
  have s8 := hnn.out.muid
  have s11 := hnn.out.data
  unfold maxLen at s5 s6 s7 s8 s11
  have c2 : w1.cell? ⟨w.heap.size, 2, none⟩ = some (.int .u32 (n.mode : Int)) := block_cell hx1.out 2
  have c5 : w1.cell? ⟨w.heap.size, 5, none⟩ = some (.string n.name) := block_cell hx1.out 5
  have c6 : w1.cell? ⟨w.heap.size, 6, none⟩ = some (.string n.uid) := block_cell hx1.out 6
  have c7 : w1.cell? ⟨w.heap.size, 7, none⟩ = some (.string n.gid) := block_cell hx1.out 7
  have c8 : w1.cell? ⟨w.heap.size, 8, none⟩ = some (.string n.muid) := block_cell hx1.out 8
  have c11 : w1.cell? ⟨w.heap.size, 11, none⟩ = some (.string n.data) := block_cell hx1.out 11
  by_cases h0 : (100 : Int) < (n.name.size : Int)
  · go_wp2_with fail
    go_ret
    exact ⟨rfl, hB.out⟩
  by_cases h1 : (100 : Int) < (n.uid.size : Int)
  · go_wp2_with fail
    go_ret
    exact ⟨rfl, hB.out⟩
  by_cases h2 : (100 : Int) < (n.gid.size : Int)
  · go_wp2_with fail
    go_ret
    exact ⟨rfl, hB.out⟩
  by_cases h3 : (100 : Int) < (n.muid.size : Int)
  · go_wp2_with fail
    go_ret
    exact ⟨rfl, hB.out⟩
  by_cases h4 : (5000 : Int) < (n.data.size : Int)
  · go_wp2_with fail
    go_ret
    exact ⟨rfl, hB.out⟩
  have hdm := dir_mode n.mode hnn.out.mode
  have hdB : Hid (dirB n = !decide (n.mode &&& 2147483648 = 0)) := hid rfl
  rw [← hdB.out] at hdm
  have hde : (bits .and .u32 (n.mode : Int) 2147483648 != 0) = dirB n := hdm
  replace hdm := hid hdm
  by_cases hempty : n.data = ⟨#[]⟩
  · have hl := hid (show lenN n = n.data.size by
      unfold lenN
      rw [hempty]
      split <;> rfl)
    have hq : n.data.toList.isEmpty = true := by rw [hempty, ByteArray.toList_eq]; rfl
    replace hempty := hid hempty
    cases hd : dirB n with
    | true =>
      rw [hd] at hde
      go_wp2_with fail
      have hgd : w1.drew.heap[w.heap.size]? = some (.cells n.cells 56 (0, 0)) := hx1.out
      refine wp_region_held (S := Below w1.drew.heap.size w1.drew) mixed ?_
      refine (show wpAnyH Try.prog .any ops_nt5 _ _ _ _ _ _ → _ from fun h => h) ?_
      refine nt5_all (w1 := w1.drew) (g := w.heap.size) (n := n) hnn.out (by omega) hl.out hgd (fun d u c a w h => by cases d <;> exact h) (FrL.of_all (by rfl) rfl ⟨rfl, rfl, trivial⟩) (Below.refl _ _) (fun a w' hF hS => ?_)
      have he := frame_eq hF [.agg n.cells, .pointer (some ⟨w.heap.size, 0, none⟩), .bool true, a.tmps.getD 3 undef, a.tmps.getD 4 undef, a.tmps.getD 5 undef, a.tmps.getD 6 undef, a.tmps.getD 7 undef, a.tmps.getD 8 undef, a.tmps.getD 9 undef, a.tmps.getD 10 undef, a.tmps.getD 11 undef, a.tmps.getD 12 undef, a.tmps.getD 13 undef, a.tmps.getD 14 undef, a.tmps.getD 15 undef, a.tmps.getD 16 undef, a.tmps.getD 17 undef, a.tmps.getD 18 undef, a.tmps.getD 19 undef, a.tmps.getD 20 undef, a.tmps.getD 21 undef, a.tmps.getD 22 undef, a.tmps.getD 23 undef, a.tmps.getD 24 undef, a.tmps.getD 25 undef, a.tmps.getD 26 undef, a.tmps.getD 27 undef, a.tmps.getD 28 undef, a.tmps.getD 29 undef, a.tmps.getD 30 undef, a.tmps.getD 31 undef, a.tmps.getD 32 undef, a.tmps.getD 33 undef, a.tmps.getD 34 undef, a.tmps.getD 35 undef, a.tmps.getD 36 undef, a.tmps.getD 37 undef, a.tmps.getD 38 undef, a.tmps.getD 39 undef, a.tmps.getD 40 undef, a.tmps.getD 41 undef, a.tmps.getD 42 undef, a.tmps.getD 43 undef, a.tmps.getD 44 undef, a.tmps.getD 45 undef, a.tmps.getD 46 undef, a.tmps.getD 47 undef, a.tmps.getD 48 undef, a.tmps.getD 49 undef, a.tmps.getD 50 undef, a.tmps.getD 51 undef, a.tmps.getD 52 undef, a.tmps.getD 53 undef, a.tmps.getD 54 undef, a.tmps.getD 55 undef, a.tmps.getD 56 undef, a.tmps.getD 57 undef, a.tmps.getD 58 undef, a.tmps.getD 59 undef] (by rfl) ⟨hF.get 0 _ rfl, hF.get 1 _ rfl, hF.get 2 _ rfl, hF.any 3 (by decide), hF.any 4 (by decide), hF.any 5 (by decide), hF.any 6 (by decide), hF.any 7 (by decide), hF.any 8 (by decide), hF.any 9 (by decide), hF.any 10 (by decide), hF.any 11 (by decide), hF.any 12 (by decide), hF.any 13 (by decide), hF.any 14 (by decide), hF.any 15 (by decide), hF.any 16 (by decide), hF.any 17 (by decide), hF.any 18 (by decide), hF.any 19 (by decide), hF.any 20 (by decide), hF.any 21 (by decide), hF.any 22 (by decide), hF.any 23 (by decide), hF.any 24 (by decide), hF.any 25 (by decide), hF.any 26 (by decide), hF.any 27 (by decide), hF.any 28 (by decide), hF.any 29 (by decide), hF.any 30 (by decide), hF.any 31 (by decide), hF.any 32 (by decide), hF.any 33 (by decide), hF.any 34 (by decide), hF.any 35 (by decide), hF.any 36 (by decide), hF.any 37 (by decide), hF.any 38 (by decide), hF.any 39 (by decide), hF.any 40 (by decide), hF.any 41 (by decide), hF.any 42 (by decide), hF.any 43 (by decide), hF.any 44 (by decide), hF.any 45 (by decide), hF.any 46 (by decide), hF.any 47 (by decide), hF.any 48 (by decide), hF.any 49 (by decide), hF.any 50 (by decide), hF.any 51 (by decide), hF.any 52 (by decide), hF.any 53 (by decide), hF.any 54 (by decide), hF.any 55 (by decide), hF.any 56 (by decide), hF.any 57 (by decide), hF.any 58 (by decide), hF.any 59 (by decide), trivial⟩
      rw [he]
      clear he hF
      generalize a.tmps.getD 3 undef = y3
      generalize a.tmps.getD 4 undef = y4
      generalize a.tmps.getD 5 undef = y5
      generalize a.tmps.getD 6 undef = y6
      generalize a.tmps.getD 7 undef = y7
      generalize a.tmps.getD 8 undef = y8
      generalize a.tmps.getD 9 undef = y9
      generalize a.tmps.getD 10 undef = y10
      generalize a.tmps.getD 11 undef = y11
      generalize a.tmps.getD 12 undef = y12
      generalize a.tmps.getD 13 undef = y13
      generalize a.tmps.getD 14 undef = y14
      generalize a.tmps.getD 15 undef = y15
      generalize a.tmps.getD 16 undef = y16
      generalize a.tmps.getD 17 undef = y17
      generalize a.tmps.getD 18 undef = y18
      generalize a.tmps.getD 19 undef = y19
      generalize a.tmps.getD 20 undef = y20
      generalize a.tmps.getD 21 undef = y21
      generalize a.tmps.getD 22 undef = y22
      generalize a.tmps.getD 23 undef = y23
      generalize a.tmps.getD 24 undef = y24
      generalize a.tmps.getD 25 undef = y25
      generalize a.tmps.getD 26 undef = y26
      generalize a.tmps.getD 27 undef = y27
      generalize a.tmps.getD 28 undef = y28
      generalize a.tmps.getD 29 undef = y29
      generalize a.tmps.getD 30 undef = y30
      generalize a.tmps.getD 31 undef = y31
      generalize a.tmps.getD 32 undef = y32
      generalize a.tmps.getD 33 undef = y33
      generalize a.tmps.getD 34 undef = y34
      generalize a.tmps.getD 35 undef = y35
      generalize a.tmps.getD 36 undef = y36
      generalize a.tmps.getD 37 undef = y37
      generalize a.tmps.getD 38 undef = y38
      generalize a.tmps.getD 39 undef = y39
      generalize a.tmps.getD 40 undef = y40
      generalize a.tmps.getD 41 undef = y41
      generalize a.tmps.getD 42 undef = y42
      generalize a.tmps.getD 43 undef = y43
      generalize a.tmps.getD 44 undef = y44
      generalize a.tmps.getD 45 undef = y45
      generalize a.tmps.getD 46 undef = y46
      generalize a.tmps.getD 47 undef = y47
      generalize a.tmps.getD 48 undef = y48
      generalize a.tmps.getD 49 undef = y49
      generalize a.tmps.getD 50 undef = y50
      generalize a.tmps.getD 51 undef = y51
      generalize a.tmps.getD 52 undef = y52
      generalize a.tmps.getD 53 undef = y53
      generalize a.tmps.getD 54 undef = y54
      generalize a.tmps.getD 55 undef = y55
      generalize a.tmps.getD 56 undef = y56
      generalize a.tmps.getD 57 undef = y57
      generalize a.tmps.getD 58 undef = y58
      generalize a.tmps.getD 59 undef = y59
      clear a
      go_wp2_with fail
      go_ret
      exact ⟨rfl, hB.out.trans (((Below.refl _ _).drew.trans hS).mono hB.out.size)⟩
    | false =>
      rw [hd] at hde
      go_wp2_with fail
      have hgd : w1.drew.heap[w.heap.size]? = some (.cells n.cells 56 (0, 0)) := hx1.out
      refine wp_region_held (S := Below w1.drew.heap.size w1.drew) mixed ?_
      refine (show wpAnyH Try.prog .any ops_nt5 _ _ _ _ _ _ → _ from fun h => h) ?_
      refine nt5_all (w1 := w1.drew) (g := w.heap.size) (n := n) hnn.out (by omega) hl.out hgd (fun d u c a w h => by cases d <;> exact h) (FrL.of_all (by rfl) rfl ⟨rfl, rfl, trivial⟩) (Below.refl _ _) (fun a w' hF hS => ?_)
      have he := frame_eq hF [.agg n.cells, .pointer (some ⟨w.heap.size, 0, none⟩), .bool true, a.tmps.getD 3 undef, a.tmps.getD 4 undef, a.tmps.getD 5 undef, a.tmps.getD 6 undef, a.tmps.getD 7 undef, a.tmps.getD 8 undef, a.tmps.getD 9 undef, a.tmps.getD 10 undef, a.tmps.getD 11 undef, a.tmps.getD 12 undef, a.tmps.getD 13 undef, a.tmps.getD 14 undef, a.tmps.getD 15 undef, a.tmps.getD 16 undef, a.tmps.getD 17 undef, a.tmps.getD 18 undef, a.tmps.getD 19 undef, a.tmps.getD 20 undef, a.tmps.getD 21 undef, a.tmps.getD 22 undef, a.tmps.getD 23 undef, a.tmps.getD 24 undef, a.tmps.getD 25 undef, a.tmps.getD 26 undef, a.tmps.getD 27 undef, a.tmps.getD 28 undef, a.tmps.getD 29 undef, a.tmps.getD 30 undef, a.tmps.getD 31 undef, a.tmps.getD 32 undef, a.tmps.getD 33 undef, a.tmps.getD 34 undef, a.tmps.getD 35 undef, a.tmps.getD 36 undef, a.tmps.getD 37 undef, a.tmps.getD 38 undef, a.tmps.getD 39 undef, a.tmps.getD 40 undef, a.tmps.getD 41 undef, a.tmps.getD 42 undef, a.tmps.getD 43 undef, a.tmps.getD 44 undef, a.tmps.getD 45 undef, a.tmps.getD 46 undef, a.tmps.getD 47 undef, a.tmps.getD 48 undef, a.tmps.getD 49 undef, a.tmps.getD 50 undef, a.tmps.getD 51 undef, a.tmps.getD 52 undef, a.tmps.getD 53 undef, a.tmps.getD 54 undef, a.tmps.getD 55 undef, a.tmps.getD 56 undef, a.tmps.getD 57 undef, a.tmps.getD 58 undef, a.tmps.getD 59 undef] (by rfl) ⟨hF.get 0 _ rfl, hF.get 1 _ rfl, hF.get 2 _ rfl, hF.any 3 (by decide), hF.any 4 (by decide), hF.any 5 (by decide), hF.any 6 (by decide), hF.any 7 (by decide), hF.any 8 (by decide), hF.any 9 (by decide), hF.any 10 (by decide), hF.any 11 (by decide), hF.any 12 (by decide), hF.any 13 (by decide), hF.any 14 (by decide), hF.any 15 (by decide), hF.any 16 (by decide), hF.any 17 (by decide), hF.any 18 (by decide), hF.any 19 (by decide), hF.any 20 (by decide), hF.any 21 (by decide), hF.any 22 (by decide), hF.any 23 (by decide), hF.any 24 (by decide), hF.any 25 (by decide), hF.any 26 (by decide), hF.any 27 (by decide), hF.any 28 (by decide), hF.any 29 (by decide), hF.any 30 (by decide), hF.any 31 (by decide), hF.any 32 (by decide), hF.any 33 (by decide), hF.any 34 (by decide), hF.any 35 (by decide), hF.any 36 (by decide), hF.any 37 (by decide), hF.any 38 (by decide), hF.any 39 (by decide), hF.any 40 (by decide), hF.any 41 (by decide), hF.any 42 (by decide), hF.any 43 (by decide), hF.any 44 (by decide), hF.any 45 (by decide), hF.any 46 (by decide), hF.any 47 (by decide), hF.any 48 (by decide), hF.any 49 (by decide), hF.any 50 (by decide), hF.any 51 (by decide), hF.any 52 (by decide), hF.any 53 (by decide), hF.any 54 (by decide), hF.any 55 (by decide), hF.any 56 (by decide), hF.any 57 (by decide), hF.any 58 (by decide), hF.any 59 (by decide), trivial⟩
      rw [he]
      clear he hF
      generalize a.tmps.getD 3 undef = y3
      generalize a.tmps.getD 4 undef = y4
      generalize a.tmps.getD 5 undef = y5
      generalize a.tmps.getD 6 undef = y6
      generalize a.tmps.getD 7 undef = y7
      generalize a.tmps.getD 8 undef = y8
      generalize a.tmps.getD 9 undef = y9
      generalize a.tmps.getD 10 undef = y10
      generalize a.tmps.getD 11 undef = y11
      generalize a.tmps.getD 12 undef = y12
      generalize a.tmps.getD 13 undef = y13
      generalize a.tmps.getD 14 undef = y14
      generalize a.tmps.getD 15 undef = y15
      generalize a.tmps.getD 16 undef = y16
      generalize a.tmps.getD 17 undef = y17
      generalize a.tmps.getD 18 undef = y18
      generalize a.tmps.getD 19 undef = y19
      generalize a.tmps.getD 20 undef = y20
      generalize a.tmps.getD 21 undef = y21
      generalize a.tmps.getD 22 undef = y22
      generalize a.tmps.getD 23 undef = y23
      generalize a.tmps.getD 24 undef = y24
      generalize a.tmps.getD 25 undef = y25
      generalize a.tmps.getD 26 undef = y26
      generalize a.tmps.getD 27 undef = y27
      generalize a.tmps.getD 28 undef = y28
      generalize a.tmps.getD 29 undef = y29
      generalize a.tmps.getD 30 undef = y30
      generalize a.tmps.getD 31 undef = y31
      generalize a.tmps.getD 32 undef = y32
      generalize a.tmps.getD 33 undef = y33
      generalize a.tmps.getD 34 undef = y34
      generalize a.tmps.getD 35 undef = y35
      generalize a.tmps.getD 36 undef = y36
      generalize a.tmps.getD 37 undef = y37
      generalize a.tmps.getD 38 undef = y38
      generalize a.tmps.getD 39 undef = y39
      generalize a.tmps.getD 40 undef = y40
      generalize a.tmps.getD 41 undef = y41
      generalize a.tmps.getD 42 undef = y42
      generalize a.tmps.getD 43 undef = y43
      generalize a.tmps.getD 44 undef = y44
      generalize a.tmps.getD 45 undef = y45
      generalize a.tmps.getD 46 undef = y46
      generalize a.tmps.getD 47 undef = y47
      generalize a.tmps.getD 48 undef = y48
      generalize a.tmps.getD 49 undef = y49
      generalize a.tmps.getD 50 undef = y50
      generalize a.tmps.getD 51 undef = y51
      generalize a.tmps.getD 52 undef = y52
      generalize a.tmps.getD 53 undef = y53
      generalize a.tmps.getD 54 undef = y54
      generalize a.tmps.getD 55 undef = y55
      generalize a.tmps.getD 56 undef = y56
      generalize a.tmps.getD 57 undef = y57
      generalize a.tmps.getD 58 undef = y58
      generalize a.tmps.getD 59 undef = y59
      clear a
      go_wp2_with fail
      go_ret
      exact ⟨rfl, hB.out.trans (((Below.refl _ _).drew.trans hS).mono hB.out.size)⟩
  · cases hd : dirB n with
    | true =>
      rw [hd] at hde
      have hq : n.data.toList.isEmpty = false := by
        rw [Bool.eq_false_iff]
        intro h
        refine hempty (toListInj ?_)
        rw [ByteArray.toList_eq ⟨#[]⟩]
        simpa using h
      clear hempty
      go_wp2_with fail
      go_ret
      exact ⟨rfl, hB.out⟩
    | false =>
      rw [hd] at hde
      have hl := hid (show lenN n = n.data.size by unfold lenN; rw [hd]; rfl)
      clear hempty
      go_wp2_with fail
      have hgd : w1.drew.heap[w.heap.size]? = some (.cells n.cells 56 (0, 0)) := hx1.out
      refine wp_region_held (S := Below w1.drew.heap.size w1.drew) mixed ?_
      refine (show wpAnyH Try.prog .any ops_nt5 _ _ _ _ _ _ → _ from fun h => h) ?_
      refine nt5_all (w1 := w1.drew) (g := w.heap.size) (n := n) hnn.out (by omega) hl.out hgd (fun d u c a w h => by cases d <;> exact h) (FrL.of_all (by rfl) rfl ⟨rfl, rfl, trivial⟩) (Below.refl _ _) (fun a w' hF hS => ?_)
      have he := frame_eq hF [.agg n.cells, .pointer (some ⟨w.heap.size, 0, none⟩), .bool true, a.tmps.getD 3 undef, a.tmps.getD 4 undef, a.tmps.getD 5 undef, a.tmps.getD 6 undef, a.tmps.getD 7 undef, a.tmps.getD 8 undef, a.tmps.getD 9 undef, a.tmps.getD 10 undef, a.tmps.getD 11 undef, a.tmps.getD 12 undef, a.tmps.getD 13 undef, a.tmps.getD 14 undef, a.tmps.getD 15 undef, a.tmps.getD 16 undef, a.tmps.getD 17 undef, a.tmps.getD 18 undef, a.tmps.getD 19 undef, a.tmps.getD 20 undef, a.tmps.getD 21 undef, a.tmps.getD 22 undef, a.tmps.getD 23 undef, a.tmps.getD 24 undef, a.tmps.getD 25 undef, a.tmps.getD 26 undef, a.tmps.getD 27 undef, a.tmps.getD 28 undef, a.tmps.getD 29 undef, a.tmps.getD 30 undef, a.tmps.getD 31 undef, a.tmps.getD 32 undef, a.tmps.getD 33 undef, a.tmps.getD 34 undef, a.tmps.getD 35 undef, a.tmps.getD 36 undef, a.tmps.getD 37 undef, a.tmps.getD 38 undef, a.tmps.getD 39 undef, a.tmps.getD 40 undef, a.tmps.getD 41 undef, a.tmps.getD 42 undef, a.tmps.getD 43 undef, a.tmps.getD 44 undef, a.tmps.getD 45 undef, a.tmps.getD 46 undef, a.tmps.getD 47 undef, a.tmps.getD 48 undef, a.tmps.getD 49 undef, a.tmps.getD 50 undef, a.tmps.getD 51 undef, a.tmps.getD 52 undef, a.tmps.getD 53 undef, a.tmps.getD 54 undef, a.tmps.getD 55 undef, a.tmps.getD 56 undef, a.tmps.getD 57 undef, a.tmps.getD 58 undef, a.tmps.getD 59 undef] (by rfl) ⟨hF.get 0 _ rfl, hF.get 1 _ rfl, hF.get 2 _ rfl, hF.any 3 (by decide), hF.any 4 (by decide), hF.any 5 (by decide), hF.any 6 (by decide), hF.any 7 (by decide), hF.any 8 (by decide), hF.any 9 (by decide), hF.any 10 (by decide), hF.any 11 (by decide), hF.any 12 (by decide), hF.any 13 (by decide), hF.any 14 (by decide), hF.any 15 (by decide), hF.any 16 (by decide), hF.any 17 (by decide), hF.any 18 (by decide), hF.any 19 (by decide), hF.any 20 (by decide), hF.any 21 (by decide), hF.any 22 (by decide), hF.any 23 (by decide), hF.any 24 (by decide), hF.any 25 (by decide), hF.any 26 (by decide), hF.any 27 (by decide), hF.any 28 (by decide), hF.any 29 (by decide), hF.any 30 (by decide), hF.any 31 (by decide), hF.any 32 (by decide), hF.any 33 (by decide), hF.any 34 (by decide), hF.any 35 (by decide), hF.any 36 (by decide), hF.any 37 (by decide), hF.any 38 (by decide), hF.any 39 (by decide), hF.any 40 (by decide), hF.any 41 (by decide), hF.any 42 (by decide), hF.any 43 (by decide), hF.any 44 (by decide), hF.any 45 (by decide), hF.any 46 (by decide), hF.any 47 (by decide), hF.any 48 (by decide), hF.any 49 (by decide), hF.any 50 (by decide), hF.any 51 (by decide), hF.any 52 (by decide), hF.any 53 (by decide), hF.any 54 (by decide), hF.any 55 (by decide), hF.any 56 (by decide), hF.any 57 (by decide), hF.any 58 (by decide), hF.any 59 (by decide), trivial⟩
      rw [he]
      clear he hF
      generalize a.tmps.getD 3 undef = y3
      generalize a.tmps.getD 4 undef = y4
      generalize a.tmps.getD 5 undef = y5
      generalize a.tmps.getD 6 undef = y6
      generalize a.tmps.getD 7 undef = y7
      generalize a.tmps.getD 8 undef = y8
      generalize a.tmps.getD 9 undef = y9
      generalize a.tmps.getD 10 undef = y10
      generalize a.tmps.getD 11 undef = y11
      generalize a.tmps.getD 12 undef = y12
      generalize a.tmps.getD 13 undef = y13
      generalize a.tmps.getD 14 undef = y14
      generalize a.tmps.getD 15 undef = y15
      generalize a.tmps.getD 16 undef = y16
      generalize a.tmps.getD 17 undef = y17
      generalize a.tmps.getD 18 undef = y18
      generalize a.tmps.getD 19 undef = y19
      generalize a.tmps.getD 20 undef = y20
      generalize a.tmps.getD 21 undef = y21
      generalize a.tmps.getD 22 undef = y22
      generalize a.tmps.getD 23 undef = y23
      generalize a.tmps.getD 24 undef = y24
      generalize a.tmps.getD 25 undef = y25
      generalize a.tmps.getD 26 undef = y26
      generalize a.tmps.getD 27 undef = y27
      generalize a.tmps.getD 28 undef = y28
      generalize a.tmps.getD 29 undef = y29
      generalize a.tmps.getD 30 undef = y30
      generalize a.tmps.getD 31 undef = y31
      generalize a.tmps.getD 32 undef = y32
      generalize a.tmps.getD 33 undef = y33
      generalize a.tmps.getD 34 undef = y34
      generalize a.tmps.getD 35 undef = y35
      generalize a.tmps.getD 36 undef = y36
      generalize a.tmps.getD 37 undef = y37
      generalize a.tmps.getD 38 undef = y38
      generalize a.tmps.getD 39 undef = y39
      generalize a.tmps.getD 40 undef = y40
      generalize a.tmps.getD 41 undef = y41
      generalize a.tmps.getD 42 undef = y42
      generalize a.tmps.getD 43 undef = y43
      generalize a.tmps.getD 44 undef = y44
      generalize a.tmps.getD 45 undef = y45
      generalize a.tmps.getD 46 undef = y46
      generalize a.tmps.getD 47 undef = y47
      generalize a.tmps.getD 48 undef = y48
      generalize a.tmps.getD 49 undef = y49
      generalize a.tmps.getD 50 undef = y50
      generalize a.tmps.getD 51 undef = y51
      generalize a.tmps.getD 52 undef = y52
      generalize a.tmps.getD 53 undef = y53
      generalize a.tmps.getD 54 undef = y54
      generalize a.tmps.getD 55 undef = y55
      generalize a.tmps.getD 56 undef = y56
      generalize a.tmps.getD 57 undef = y57
      generalize a.tmps.getD 58 undef = y58
      generalize a.tmps.getD 59 undef = y59
      clear a
      go_wp2_with fail
      go_ret
      exact ⟨rfl, hB.out.trans (((Below.refl _ _).drew.trans hS).mono hB.out.size)⟩
end
end Go.Proofs.Ytpmlhmficmillaa

namespace Go.Proofs.Ytpmlhmficmillaa
section
end
end Go.Proofs.Ytpmlhmficmillaa
