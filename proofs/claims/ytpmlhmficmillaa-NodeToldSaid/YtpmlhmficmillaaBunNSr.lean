/- The reference's Stat of a node. Conditions: numbers in their types.
The reference's Stat of a node, walked. Conditions: numbers in their types. -/
import Derived.Test.YtpmlhmficmillaaBunNSt
import Derived.Test.YtpmlhmficmillaaBunRE
namespace Go.Proofs.Ytpmlhmficmillaa
section
open Go.RowKit
set_option maxRecDepth 100000
set_option linter.unusedVariables false

theorem rstat_built (n : Nod) : Try.prog.built 74 [(2, .agg (qidC n)), (3, .int .u32 (n.mode : Int)), (4, .int .u32 (n.atm : Int)), (5, .int .u32 (n.mtm : Int)), (6, .int .u64 (n.data.size : Int)), (7, .string n.name), (8, .string n.uid), (9, .string n.gid), (10, .string n.muid)] = some (statC n n.data.size) := by kernel_rfl
section
variable {o : Oper} {ev : Operand → Value} {w : World} {x : Operand}
theorem rrun_slen {s : ByteArray} (ho : o.op = .call { callee := .builtin .len, args := #[x], argTypes := #[9] }) (hx : ev x = .string s) (hs : s.size ≤ 9223372036854775807) : (execOp ev o).run Try.prog w = .ok (.value (.int .i64 (s.size : Int))) w := by
  simp [execOp, ho, hx, go_sem]
theorem rrun_cvu {n : Nat} (ho : o.op = .convert 3 22 x) (hx : ev x = .int .i64 (n : Int)) (hn : n ≤ 9223372036854775807) : (execOp ev o).run Try.prog w = .ok (.value (.int .u64 (n : Int))) w := by
  have cv : IntKind.u64.wrap (n : Int) = (n : Int) := IntWalk.u64_in _ (by omega)
  simp [execOp, ho, hx, cv, go_sem]
theorem rrun_rstatbuild {n : Nod} (ho : o.op = .build 74 #[(2, .tmp 4), (3, .tmp 6), (4, .tmp 8), (5, .tmp 10), (6, .tmp 14), (7, .tmp 16), (8, .tmp 18), (9, .tmp 20), (10, .tmp 22)]) (h4 : ev (.tmp 4) = .agg (qidC n)) (h6 : ev (.tmp 6) = .int .u32 (n.mode : Int)) (h8 : ev (.tmp 8) = .int .u32 (n.atm : Int)) (h10 : ev (.tmp 10) = .int .u32 (n.mtm : Int)) (h14 : ev (.tmp 14) = .int .u64 (n.data.size : Int)) (h16 : ev (.tmp 16) = .string n.name) (h18 : ev (.tmp 18) = .string n.uid) (h20 : ev (.tmp 20) = .string n.gid) (h22 : ev (.tmp 22) = .string n.muid) : (execOp ev o).run Try.prog w = .ok (.value (.agg (statC n n.data.size))) w := by
  refine rrun_build ho ?_
  simp only [List.map_toArray, List.map_cons, List.map_nil, h4, h6, h8, h10, h14, h16, h18, h20, h22]
  exact rstat_built n
end

noncomputable def ops_rs1 : Array Oper := match Try.f31.body with | some c => (allOps' c).getD 1 #[] | none => #[]
theorem size_rs1 : ops_rs1.size = 22 := by kernel_rfl
set_option maxHeartbeats 4000000 in
theorem rs1_all {w1 : World} {g r : Nat} {n : Nod} {v0 : Value} {zs : Array Value} {Q : Exit → Act → World → Prop} {a : Act} {w : World} (hn : NodOk n) (hd : n.data.size ≤ 1000000) (hg : w1.heap[g]? = some (.cells n.cells 71 (0, 0))) (hgr : g ≠ r) (hr : w1.heap[r]? = some (.cells zs 74 (0, 0))) (hz : zs.size = 13)
    (hQ : ∀ d u c a w, Q (.panic c) (a.put d u) w → Q (.panic c) a w) (hF : FrL 24 [(1, ptr g 0), (2, ptr r 0), (0, v0)] a) (hS : Below w1.heap.size w1 w)
    (hE : ∀ a w2, FrL 24 [(1, ptr g 0), (2, ptr r 0), (0, v0)] a → Below w1.heap.size w1 w2 → w2.heap[r]? = some (.cells zs 74 (0, 0)) → Q .normal a (w2.setRow r (statC n n.data.size))) :
    wpAnyH Try.prog .any ops_rs1 Q (fun w' => w'.heap[g]? = some (.cells n.cells 71 (0, 0))) 22 (Array.replicate 22 false) a w := by
  have hb0 : ∀ w : World, (fun w' : World => w'.heap[g]? = some (.cells n.cells 71 (0, 0))) w → w.heap[g]? = some (.cells n.cells 71 (0, 0)) := fun w h => h
  have hB := hS
  replace hS : (fun w' : World => w'.heap[g]? = some (.cells n.cells 71 (0, 0))) w := (hS.block _ (lt_of_block hg)).trans hg
  refine hst (i := 0) (o := ops_rs1[0]'(show 0 < ops_rs1.size by rw [size_rs1]; decide)) hF 3 true (.agg n.cells) (Array.getElem?_eq_getElem (show 0 < ops_rs1.size by rw [size_rs1]; decide)) (by kernel_rfl) (by decide) (by kernel_rfl) (by kernel_rfl) (by kernel_rfl) (hQ _ _) (want_n (by kernel_rfl)) (fun hW w hS => rrun_load (ty := 71) (x := .tmp 1) (by kernel_rfl) (hF.ev 1 (ptr g 0) rfl) (rld_node (range_whole (hb0 w hS)))) hS (fun a hF => ?_)
  rw [show cond true (.agg n.cells) undef = .agg n.cells from rfl] at hF
  refine hst (i := 2) (o := ops_rs1[2]'(show 2 < ops_rs1.size by rw [size_rs1]; decide)) hF 5 true (ptr g 2) (Array.getElem?_eq_getElem (show 2 < ops_rs1.size by rw [size_rs1]; decide)) (by kernel_rfl) (by decide) (by kernel_rfl) (by kernel_rfl) (by kernel_rfl) (hQ _ _) (want_n (by kernel_rfl)) (fun hW w hS => rrun_fld (T := 71) (x := .tmp 1) (f := 2) (by kernel_rfl) (hF.ev 1 (ptr g 0) rfl) (by kernel_rfl)) hS (fun a hF => ?_)
  rw [show cond true (ptr g 2) undef = ptr g 2 from rfl] at hF
  refine hst (i := 3) (o := ops_rs1[3]'(show 3 < ops_rs1.size by rw [size_rs1]; decide)) hF 6 true (.int .u32 ((n.mode : Nat) : Int)) (Array.getElem?_eq_getElem (show 3 < ops_rs1.size by rw [size_rs1]; decide)) (by kernel_rfl) (by decide) (by kernel_rfl) (by kernel_rfl) (by kernel_rfl) (hQ _ _) (want_n (by kernel_rfl)) (fun hW w hS => rrun_load (ty := 34) (x := .tmp 5) (by kernel_rfl) (hF.ev 5 (ptr g 2) rfl) (rld_u32 (block_cell (hb0 w hS) 2))) hS (fun a hF => ?_)
  rw [show cond true (.int .u32 ((n.mode : Nat) : Int)) undef = .int .u32 ((n.mode : Nat) : Int) from rfl] at hF
  refine hst (i := 4) (o := ops_rs1[4]'(show 4 < ops_rs1.size by rw [size_rs1]; decide)) hF 7 true (ptr g 3) (Array.getElem?_eq_getElem (show 4 < ops_rs1.size by rw [size_rs1]; decide)) (by kernel_rfl) (by decide) (by kernel_rfl) (by kernel_rfl) (by kernel_rfl) (hQ _ _) (want_n (by kernel_rfl)) (fun hW w hS => rrun_fld (T := 71) (x := .tmp 1) (f := 3) (by kernel_rfl) (hF.ev 1 (ptr g 0) rfl) (by kernel_rfl)) hS (fun a hF => ?_)
  rw [show cond true (ptr g 3) undef = ptr g 3 from rfl] at hF
  refine hst (i := 5) (o := ops_rs1[5]'(show 5 < ops_rs1.size by rw [size_rs1]; decide)) hF 8 true (.int .u32 ((n.atm : Nat) : Int)) (Array.getElem?_eq_getElem (show 5 < ops_rs1.size by rw [size_rs1]; decide)) (by kernel_rfl) (by decide) (by kernel_rfl) (by kernel_rfl) (by kernel_rfl) (hQ _ _) (want_n (by kernel_rfl)) (fun hW w hS => rrun_load (ty := 34) (x := .tmp 7) (by kernel_rfl) (hF.ev 7 (ptr g 3) rfl) (rld_u32 (block_cell (hb0 w hS) 3))) hS (fun a hF => ?_)
  rw [show cond true (.int .u32 ((n.atm : Nat) : Int)) undef = .int .u32 ((n.atm : Nat) : Int) from rfl] at hF
  refine hst (i := 6) (o := ops_rs1[6]'(show 6 < ops_rs1.size by rw [size_rs1]; decide)) hF 9 true (ptr g 4) (Array.getElem?_eq_getElem (show 6 < ops_rs1.size by rw [size_rs1]; decide)) (by kernel_rfl) (by decide) (by kernel_rfl) (by kernel_rfl) (by kernel_rfl) (hQ _ _) (want_n (by kernel_rfl)) (fun hW w hS => rrun_fld (T := 71) (x := .tmp 1) (f := 4) (by kernel_rfl) (hF.ev 1 (ptr g 0) rfl) (by kernel_rfl)) hS (fun a hF => ?_)
  rw [show cond true (ptr g 4) undef = ptr g 4 from rfl] at hF
  refine hst (i := 7) (o := ops_rs1[7]'(show 7 < ops_rs1.size by rw [size_rs1]; decide)) hF 10 true (.int .u32 ((n.mtm : Nat) : Int)) (Array.getElem?_eq_getElem (show 7 < ops_rs1.size by rw [size_rs1]; decide)) (by kernel_rfl) (by decide) (by kernel_rfl) (by kernel_rfl) (by kernel_rfl) (hQ _ _) (want_n (by kernel_rfl)) (fun hW w hS => rrun_load (ty := 34) (x := .tmp 9) (by kernel_rfl) (hF.ev 9 (ptr g 4) rfl) (rld_u32 (block_cell (hb0 w hS) 4))) hS (fun a hF => ?_)
  rw [show cond true (.int .u32 ((n.mtm : Nat) : Int)) undef = .int .u32 ((n.mtm : Nat) : Int) from rfl] at hF
  refine hst (i := 8) (o := ops_rs1[8]'(show 8 < ops_rs1.size by rw [size_rs1]; decide)) hF 11 true (ptr g 11) (Array.getElem?_eq_getElem (show 8 < ops_rs1.size by rw [size_rs1]; decide)) (by kernel_rfl) (by decide) (by kernel_rfl) (by kernel_rfl) (by kernel_rfl) (hQ _ _) (want_n (by kernel_rfl)) (fun hW w hS => rrun_fld (T := 71) (x := .tmp 1) (f := 11) (by kernel_rfl) (hF.ev 1 (ptr g 0) rfl) (by kernel_rfl)) hS (fun a hF => ?_)
  rw [show cond true (ptr g 11) undef = ptr g 11 from rfl] at hF
  refine hst (i := 9) (o := ops_rs1[9]'(show 9 < ops_rs1.size by rw [size_rs1]; decide)) hF 12 true (.string n.data) (Array.getElem?_eq_getElem (show 9 < ops_rs1.size by rw [size_rs1]; decide)) (by kernel_rfl) (by decide) (by kernel_rfl) (by kernel_rfl) (by kernel_rfl) (hQ _ _) (want_n (by kernel_rfl)) (fun hW w hS => rrun_load (ty := 9) (x := .tmp 11) (by kernel_rfl) (hF.ev 11 (ptr g 11) rfl) (rld_str (block_cell (hb0 w hS) 11))) hS (fun a hF => ?_)
  rw [show cond true (.string n.data) undef = .string n.data from rfl] at hF
  refine hst (i := 10) (o := ops_rs1[10]'(show 10 < ops_rs1.size by rw [size_rs1]; decide)) hF 13 true (.int .i64 ((n.data.size : Nat) : Int)) (Array.getElem?_eq_getElem (show 10 < ops_rs1.size by rw [size_rs1]; decide)) (by kernel_rfl) (by decide) (by kernel_rfl) (by kernel_rfl) (by kernel_rfl) (hQ _ _) (want_n (by kernel_rfl)) (fun hW w hS => rrun_slen (x := .tmp 12) (by kernel_rfl) (hF.ev 12 (.string n.data) rfl) (by omega)) hS (fun a hF => ?_)
  rw [show cond true (.int .i64 ((n.data.size : Nat) : Int)) undef = .int .i64 ((n.data.size : Nat) : Int) from rfl] at hF
  refine hst (i := 11) (o := ops_rs1[11]'(show 11 < ops_rs1.size by rw [size_rs1]; decide)) hF 14 true (.int .u64 ((n.data.size : Nat) : Int)) (Array.getElem?_eq_getElem (show 11 < ops_rs1.size by rw [size_rs1]; decide)) (by kernel_rfl) (by decide) (by kernel_rfl) (by kernel_rfl) (by kernel_rfl) (hQ _ _) (want_n (by kernel_rfl)) (fun hW w hS => rrun_cvu (x := .tmp 13) (by kernel_rfl) (hF.ev 13 (.int .i64 ((n.data.size : Nat) : Int)) rfl) (by omega)) hS (fun a hF => ?_)
  rw [show cond true (.int .u64 ((n.data.size : Nat) : Int)) undef = .int .u64 ((n.data.size : Nat) : Int) from rfl] at hF
  refine hst (i := 12) (o := ops_rs1[12]'(show 12 < ops_rs1.size by rw [size_rs1]; decide)) hF 15 true (ptr g 5) (Array.getElem?_eq_getElem (show 12 < ops_rs1.size by rw [size_rs1]; decide)) (by kernel_rfl) (by decide) (by kernel_rfl) (by kernel_rfl) (by kernel_rfl) (hQ _ _) (want_n (by kernel_rfl)) (fun hW w hS => rrun_fld (T := 71) (x := .tmp 1) (f := 5) (by kernel_rfl) (hF.ev 1 (ptr g 0) rfl) (by kernel_rfl)) hS (fun a hF => ?_)
  rw [show cond true (ptr g 5) undef = ptr g 5 from rfl] at hF
  refine hst (i := 13) (o := ops_rs1[13]'(show 13 < ops_rs1.size by rw [size_rs1]; decide)) hF 16 true (.string n.name) (Array.getElem?_eq_getElem (show 13 < ops_rs1.size by rw [size_rs1]; decide)) (by kernel_rfl) (by decide) (by kernel_rfl) (by kernel_rfl) (by kernel_rfl) (hQ _ _) (want_n (by kernel_rfl)) (fun hW w hS => rrun_load (ty := 9) (x := .tmp 15) (by kernel_rfl) (hF.ev 15 (ptr g 5) rfl) (rld_str (block_cell (hb0 w hS) 5))) hS (fun a hF => ?_)
  rw [show cond true (.string n.name) undef = .string n.name from rfl] at hF
  refine hst (i := 14) (o := ops_rs1[14]'(show 14 < ops_rs1.size by rw [size_rs1]; decide)) hF 17 true (ptr g 6) (Array.getElem?_eq_getElem (show 14 < ops_rs1.size by rw [size_rs1]; decide)) (by kernel_rfl) (by decide) (by kernel_rfl) (by kernel_rfl) (by kernel_rfl) (hQ _ _) (want_n (by kernel_rfl)) (fun hW w hS => rrun_fld (T := 71) (x := .tmp 1) (f := 6) (by kernel_rfl) (hF.ev 1 (ptr g 0) rfl) (by kernel_rfl)) hS (fun a hF => ?_)
  rw [show cond true (ptr g 6) undef = ptr g 6 from rfl] at hF
  refine hst (i := 15) (o := ops_rs1[15]'(show 15 < ops_rs1.size by rw [size_rs1]; decide)) hF 18 true (.string n.uid) (Array.getElem?_eq_getElem (show 15 < ops_rs1.size by rw [size_rs1]; decide)) (by kernel_rfl) (by decide) (by kernel_rfl) (by kernel_rfl) (by kernel_rfl) (hQ _ _) (want_n (by kernel_rfl)) (fun hW w hS => rrun_load (ty := 9) (x := .tmp 17) (by kernel_rfl) (hF.ev 17 (ptr g 6) rfl) (rld_str (block_cell (hb0 w hS) 6))) hS (fun a hF => ?_)
  rw [show cond true (.string n.uid) undef = .string n.uid from rfl] at hF
  refine hst (i := 16) (o := ops_rs1[16]'(show 16 < ops_rs1.size by rw [size_rs1]; decide)) hF 19 true (ptr g 7) (Array.getElem?_eq_getElem (show 16 < ops_rs1.size by rw [size_rs1]; decide)) (by kernel_rfl) (by decide) (by kernel_rfl) (by kernel_rfl) (by kernel_rfl) (hQ _ _) (want_n (by kernel_rfl)) (fun hW w hS => rrun_fld (T := 71) (x := .tmp 1) (f := 7) (by kernel_rfl) (hF.ev 1 (ptr g 0) rfl) (by kernel_rfl)) hS (fun a hF => ?_)
  rw [show cond true (ptr g 7) undef = ptr g 7 from rfl] at hF
  refine hst (i := 17) (o := ops_rs1[17]'(show 17 < ops_rs1.size by rw [size_rs1]; decide)) hF 20 true (.string n.gid) (Array.getElem?_eq_getElem (show 17 < ops_rs1.size by rw [size_rs1]; decide)) (by kernel_rfl) (by decide) (by kernel_rfl) (by kernel_rfl) (by kernel_rfl) (hQ _ _) (want_n (by kernel_rfl)) (fun hW w hS => rrun_load (ty := 9) (x := .tmp 19) (by kernel_rfl) (hF.ev 19 (ptr g 7) rfl) (rld_str (block_cell (hb0 w hS) 7))) hS (fun a hF => ?_)
  rw [show cond true (.string n.gid) undef = .string n.gid from rfl] at hF
  refine hst (i := 18) (o := ops_rs1[18]'(show 18 < ops_rs1.size by rw [size_rs1]; decide)) hF 21 true (ptr g 8) (Array.getElem?_eq_getElem (show 18 < ops_rs1.size by rw [size_rs1]; decide)) (by kernel_rfl) (by decide) (by kernel_rfl) (by kernel_rfl) (by kernel_rfl) (hQ _ _) (want_n (by kernel_rfl)) (fun hW w hS => rrun_fld (T := 71) (x := .tmp 1) (f := 8) (by kernel_rfl) (hF.ev 1 (ptr g 0) rfl) (by kernel_rfl)) hS (fun a hF => ?_)
  rw [show cond true (ptr g 8) undef = ptr g 8 from rfl] at hF
  refine hst (i := 19) (o := ops_rs1[19]'(show 19 < ops_rs1.size by rw [size_rs1]; decide)) hF 22 true (.string n.muid) (Array.getElem?_eq_getElem (show 19 < ops_rs1.size by rw [size_rs1]; decide)) (by kernel_rfl) (by decide) (by kernel_rfl) (by kernel_rfl) (by kernel_rfl) (hQ _ _) (want_n (by kernel_rfl)) (fun hW w hS => rrun_load (ty := 9) (x := .tmp 21) (by kernel_rfl) (hF.ev 21 (ptr g 8) rfl) (rld_str (block_cell (hb0 w hS) 8))) hS (fun a hF => ?_)
  rw [show cond true (.string n.muid) undef = .string n.muid from rfl] at hF
  refine hcallx (i := 1) (o := ops_rs1[1]'(show 1 < ops_rs1.size by rw [size_rs1]; decide)) (R := fun v w' => v = .agg (qidC n) ∧ Below w1.heap.size w1 w') hF 4 (Array.getElem?_eq_getElem (show 1 < ops_rs1.size by rw [size_rs1]; decide)) (by kernel_rfl) (by decide) (by kernel_rfl) (want_n (by kernel_rfl)) ⟨27, #[.agg n.cells], rrun_call1 (fn := 27) (t := 71) rfl (by kernel_rfl) (by kernel_rfl) (hF.ev 3 _ rfl), (rqid18_any n w hn).mono (by rintro e w' ⟨rfl, hb⟩; exact ⟨_, rfl, ⟨rfl, hB.trans (hb.mono hB.size)⟩, (hb.block _ (lt_of_block (hb0 w hS))).trans hS⟩)⟩ ?_
  rintro _ a w2 ⟨rfl, hB2⟩ hF hS
  refine hst (i := 20) (o := ops_rs1[20]'(show 20 < ops_rs1.size by rw [size_rs1]; decide)) hF 23 true (.agg (statC n n.data.size)) (Array.getElem?_eq_getElem (show 20 < ops_rs1.size by rw [size_rs1]; decide)) (by kernel_rfl) (by decide) (by kernel_rfl) (by kernel_rfl) (by kernel_rfl) (hQ _ _) (want_n (by kernel_rfl)) (fun hW w hS => rrun_rstatbuild (by kernel_rfl) (hF.ev 4 _ rfl) (hF.ev 6 _ rfl) (hF.ev 8 _ rfl) (hF.ev 10 _ rfl) (hF.ev 14 _ rfl) (hF.ev 16 _ rfl) (hF.ev 18 _ rfl) (hF.ev 20 _ rfl) (hF.ev 22 _ rfl)) hS (fun a hF => ?_)
  rw [show cond true (Value.agg (statC n n.data.size)) undef = .agg (statC n n.data.size) from rfl] at hF
  have hr2 := (hB2.block _ (lt_of_block hr)).trans hr
  refine wpAnyH_all (rs := [21]) (by kernel_rfl) (by simp) fun j hj => ?_
  obtain rfl : j = 21 := by simpa using hj
  refine hdo0 (o := ops_rs1[21]'(show 21 < ops_rs1.size by rw [size_rs1]; decide)) (w2.setRow r (statC n n.data.size)) (Array.getElem?_eq_getElem (show 21 < ops_rs1.size by rw [size_rs1]; decide)) (by kernel_rfl) (want_n (by kernel_rfl)) (rrun_store (t := 74) (x := .tmp 2) (y := .tmp 23) (by kernel_rfl) (hF.ev 2 _ rfl) (hF.ev 23 _ rfl) hr2 (by kernel_rfl) hz (statC_one n _)) ?_
  refine ⟨(setRow_other w2 r g _ hgr).trans hS, ?_⟩
  exact wpAnyH_done (by kernel_rfl) (hE _ _ (hF.sub [(1, ptr g 0), (2, ptr r 0), (0, v0)] ⟨rfl, rfl, rfl, trivial⟩) hB2 hr2) _
end
end Go.Proofs.Ytpmlhmficmillaa

namespace Go.Proofs.Ytpmlhmficmillaa
section
open Go.RowKit
set_option maxRecDepth 100000
set_option linter.unusedVariables false

set_option maxHeartbeats 3200000 in
theorem rstat18_any (n : Nod) (w : World) (hn : NodOk n) (hd : n.data.size ≤ 1000000) :
    Calls Try.prog 31 #[.agg n.cells] w fun e w' => e = .returned (.agg (statC n n.data.size)) ∧ Below w.heap.size w w' := by
  have mixed : Try.prog.follows Departure.mixedOrders = true := by first | kernel_rfl | decide
  obtain ⟨W, hW⟩ : ∃ W, W = (w.alloc (.cells n.cells 71)).alloc (.cells #[.int .u16 0, .int .u32 0, .int .u8 0, .int .u32 0, .int .u64 0, .int .u32 0, .int .u32 0, .int .u32 0, .int .u64 0, .string ⟨#[]⟩, .string ⟨#[]⟩, .string ⟨#[]⟩, .string ⟨#[]⟩] 74) := ⟨_, rfl⟩
  have hb0 : Below w.heap.size w W := by rw [hW]; exact ((Below.refl w.heap.size w).alloc (Nat.le_refl _) _).alloc (by simp) _
  have hN := hid (show W.heap[w.heap.size]? = some (.cells n.cells 71 (0, 0)) by rw [hW, heap_alloc_old _ _ (by simp), heap_alloc_new])
  have hR := hid (show W.heap[w.heap.size + 1]? = some (.cells #[.int .u16 0, .int .u32 0, .int .u8 0, .int .u32 0, .int .u64 0, .int .u32 0, .int .u32 0, .int .u32 0, .int .u64 0, .string ⟨#[]⟩, .string ⟨#[]⟩, .string ⟨#[]⟩, .string ⟨#[]⟩] 74 (0, 0)) by rw [hW]; exact heap2 _ _ _)
  have hsz := hid (show W.heap.size = w.heap.size + 2 by rw [hW]; simp)
  replace hb0 := hid hb0
  replace hn := hid hn
  go_enter Try.func31, Try.ntmps31
  go_upto_region 1 with (rw [← hW]; replace hW := hid hW)
  try (rw [← hW]; replace hW := hid hW)
  go_cut [3] (fun s wx => Hid (∃ w2, wx = w2.setRow (w.heap.size + 1) (statC n n.data.size) ∧ Below W.drew.heap.size W.drew w2 ∧ w2.heap[w.heap.size + 1]? = some (.cells #[.int .u16 0, .int .u32 0, .int .u8 0, .int .u32 0, .int .u64 0, .int .u32 0, .int .u32 0, .int .u32 0, .int .u64 0, .string ⟨#[]⟩, .string ⟨#[]⟩, .string ⟨#[]⟩, .string ⟨#[]⟩] 74 (0, 0))))
  case first => as_aux_lemma =>
    rename_i J K' hJ hK
    refine wp_region_noPanic ?_
    refine wp_region_held (S := (fun w' : World => w'.heap[w.heap.size]? = some (.cells n.cells 71 (0, 0)))) mixed ?_
    refine (show wpAnyH Try.prog .any ops_rs1 _ _ _ _ _ _ → _ from fun h => h) ?_
    refine rs1_all (w1 := W.drew) (g := w.heap.size) (r := w.heap.size + 1) (n := n) (zs := #[.int .u16 0, .int .u32 0, .int .u8 0, .int .u32 0, .int .u64 0, .int .u32 0, .int .u32 0, .int .u32 0, .int .u64 0, .string ⟨#[]⟩, .string ⟨#[]⟩, .string ⟨#[]⟩, .string ⟨#[]⟩]) hn.out hd hN.out (by omega) hR.out rfl (fun _ _ _ _ _ h => h) (FrL.of_all (by rfl) rfl ⟨rfl, rfl, rfl, trivial⟩) (Below.refl _ _) (fun a w2 hF hS hr => ?_)
    exact hK _ _ (Met.intro (hJ _ _ ⟨a.tmps.getD 3 undef, a.tmps.getD 4 undef, a.tmps.getD 5 undef, a.tmps.getD 6 undef, a.tmps.getD 7 undef, a.tmps.getD 8 undef, a.tmps.getD 9 undef, a.tmps.getD 10 undef, a.tmps.getD 11 undef, a.tmps.getD 12 undef, a.tmps.getD 13 undef, a.tmps.getD 14 undef, a.tmps.getD 15 undef, a.tmps.getD 16 undef, a.tmps.getD 17 undef, a.tmps.getD 18 undef, a.tmps.getD 19 undef, a.tmps.getD 20 undef, a.tmps.getD 21 undef, a.tmps.getD 22 undef, a.tmps.getD 23 undef, hid ⟨w2, rfl, hS, hr⟩, frame_eq hF _ (by rfl) ⟨hF.get 0 _ rfl, hF.get 1 _ rfl, hF.get 2 _ rfl, hF.any 3 (by decide), hF.any 4 (by decide), hF.any 5 (by decide), hF.any 6 (by decide), hF.any 7 (by decide), hF.any 8 (by decide), hF.any 9 (by decide), hF.any 10 (by decide), hF.any 11 (by decide), hF.any 12 (by decide), hF.any 13 (by decide), hF.any 14 (by decide), hF.any 15 (by decide), hF.any 16 (by decide), hF.any 17 (by decide), hF.any 18 (by decide), hF.any 19 (by decide), hF.any 20 (by decide), hF.any 21 (by decide), hF.any 22 (by decide), hF.any 23 (by decide), trivial⟩⟩))
  case rest =>
    obtain ⟨w2, hw, hb, hr⟩ := hcut.out
    have hB := hid (show Below w.heap.size w wc from by
      rw [hw]
      exact below_setRow (hb0.out.drew.trans (hb.mono (show w.heap.size ≤ W.drew.heap.size from by have : W.drew.heap.size = W.heap.size := rfl; have := hsz.out; omega))) (by omega) _)
    have hF := hid (show wc.heap[w.heap.size + 1]? = some (.cells (statC n n.data.size) 74 (0, 0)) from by rw [hw]; exact setRow_heap _ _ _ _ _ _ hr)
    clear hw hb hr hcut
    go_wp2_with fail
    refine bodyPost_ret (results_cell_row rfl _ _ (w.heap.size + 1) _ _ _ _ rfl hF.out Try.underlying74 rfl (by kernel_rfl)) rfl ?_
    exact ⟨rfl, hB.out⟩
end
end Go.Proofs.Ytpmlhmficmillaa
