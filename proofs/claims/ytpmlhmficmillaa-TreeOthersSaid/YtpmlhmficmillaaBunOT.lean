/- The last region of law TreeOthers, operation by operation. No condition.
Law TreeOthers returns true. Conditions: the arguments as they come in.
Law TreeOthers and what comes in to it. No condition. -/
import Derived.Test.YtpmlhmficmillaaPly1Z
import Derived.Test.YtpmlhmficmillaaBunPL
import Derived.Test.YtpmlhmficmillaaBunTI
namespace Go.Proofs.Ytpmlhmficmillaa
section
open Go.RowKit
set_option maxRecDepth 100000
set_option linter.unusedVariables false

section
variable {o : Oper} {ev : Operand → Value} {w : World} {x y : Operand}
theorem rrun_pickt {z : Operand} {c : Bool} {v : Value} (ho : o.op = .pick x y z) (hx : ev x = .bool c) (hc : c = true) (hy : ev y = v) : (execOp ev o).run Try.prog w = .ok (.value v) w := by
  subst hc
  simp [execOp, ho, hx, hy, go_sem]
theorem radd_one (n : Nat) (h : n + 1 ≤ 9223372036854775807) : (binOp .add 3 (.int .i64 (n : Int)) (.int .i64 1)).run Try.prog w = .ok (.int .i64 ((n + 1 : Nat) : Int)) w := by
  have h1 : IntKind.i64.wrap ((n : Int) + 1) = ((n + 1 : Nat) : Int) := by rw [show ((n + 1 : Nat) : Int) = (n : Int) + 1 by omega]; exact IntWalk.i64_in _ (by omega)
  simp [go_sem, h1]
theorem rle_i64 (s t : Nat) : (binOp .leq 3 (.int .i64 (s : Int)) (.int .i64 (t : Int))).run Try.prog w = .ok (.bool (decide (s ≤ t))) w := by
  simp [go_sem]
theorem rld_nnods {p : Addr} {v : Value} (h : w.cell? p = some v) : (loadVar 23 p).run Try.prog w = .ok v w := by simp [go_sem, h]
end

noncomputable def ops_rp27 : Array Oper := match Try.f5.body with | some c => (allOps' c).getD 27 #[] | none => #[]
theorem size_rp27 : ops_rp27.size = 15 := by kernel_rfl
set_option maxHeartbeats 4000000 in
theorem rp27_all {w1 : World} {g2 kA kB x : Nat} {l : List Nod} {T : Tr} {a0 a1 a2 : Option Addr} {d0 d1 d2 : Nat} (hl0 : l.length ≤ 1000) (hl : T.n.length ≤ 1000) (hle : T.n.length ≤ l.length + 1) (hT2 : w1.heap[g2]? = some (.cells #[.int .u64 (x : Int), .slice a0 l.length d0] 25 (0, 0))) (hA : w1.heap[kA]? = some (.cells #[.int .u64 (T.next : Int), .slice a1 T.n.length d1] 25 (0, 0))) (hB : w1.heap[kB]? = some (.cells #[.int .u64 (T.next : Int), .slice a2 T.n.length d2] 32 (0, 0))) (hv : NodsAt w1 (.slice a1 T.n.length d1) T.n) (hu : NodsAt w1 (.slice a2 T.n.length d2) T.n)  {v0 v1 v3 v5 v8 v9 v10 v11 v12 v13 v14 v15 : Value} {Q : Exit → Act → World → Prop} {a : Act} {w : World} (hQ : ∀ d u c a w, Q (.panic c) (a.put d u) w → Q (.panic c) a w) (hF : FrL 122 [(2, ptr g2 0), (6, ptr kA 0), (7, ptr kB 0), (0, v0), (1, v1), (3, v3), (5, v5), (8, v8), (9, v9), (10, v10), (11, v11), (12, v12), (13, v13), (14, v14), (15, v15)] a) (hS : (Below w1.heap.size w1) w) (hE : ∀ a w', FrL 122 ((4, .bool true) :: [(2, ptr g2 0), (6, ptr kA 0), (7, ptr kB 0), (0, v0), (1, v1), (3, v3), (5, v5), (8, v8), (9, v9), (10, v10), (11, v11), (12, v12), (13, v13), (14, v14), (15, v15)]) a → (Below w1.heap.size w1) w' → Q .normal a w') : wpAnyH Try.prog .any ops_rp27 Q ((Below w1.heap.size w1)) 15 (Array.replicate 15 false) a w := by
  refine hst (i := 0) (o := ops_rp27[0]'(show 0 < ops_rp27.size by rw [size_rp27]; decide)) hF 108 true (ptr kA 1) (Array.getElem?_eq_getElem (show 0 < ops_rp27.size by rw [size_rp27]; decide)) (by kernel_rfl) (by decide) (by kernel_rfl) (by kernel_rfl) (by kernel_rfl) (hQ _ _) (want_n (by kernel_rfl)) (fun hW w hS => rrun_fld (T := 25) (x := .tmp 6) (f := 1) (by kernel_rfl) (hF.ev 6 (ptr kA 0) rfl) (by kernel_rfl)) hS (fun a hF => ?_)
  rw [show cond true (ptr kA 1) undef = ptr kA 1 from rfl] at hF
  refine hst (i := 1) (o := ops_rp27[1]'(show 1 < ops_rp27.size by rw [size_rp27]; decide)) hF 109 true (.slice a1 T.n.length d1) (Array.getElem?_eq_getElem (show 1 < ops_rp27.size by rw [size_rp27]; decide)) (by kernel_rfl) (by decide) (by kernel_rfl) (by kernel_rfl) (by kernel_rfl) (hQ _ _) (want_n (by kernel_rfl)) (fun hW w hS => rrun_load (ty := 23) (x := .tmp 108) (by kernel_rfl) (hF.ev 108 (ptr kA 1) rfl) (rld_nnods (block_cell ((hS.block _ (lt_of_block hA)).trans hA) 1))) hS (fun a hF => ?_)
  rw [show cond true (.slice a1 T.n.length d1) undef = .slice a1 T.n.length d1 from rfl] at hF
  refine hst (i := 2) (o := ops_rp27[2]'(show 2 < ops_rp27.size by rw [size_rp27]; decide)) hF 110 true (.int .i64 ((T.n.length : Nat) : Int)) (Array.getElem?_eq_getElem (show 2 < ops_rp27.size by rw [size_rp27]; decide)) (by kernel_rfl) (by decide) (by kernel_rfl) (by kernel_rfl) (by kernel_rfl) (hQ _ _) (want_n (by kernel_rfl)) (fun hW w hS => rrun_len (t := 23) (x := .tmp 109) (by kernel_rfl) (hF.ev 109 (.slice a1 T.n.length d1) rfl) (by kernel_rfl)) hS (fun a hF => ?_)
  rw [show cond true (.int .i64 ((T.n.length : Nat) : Int)) undef = .int .i64 ((T.n.length : Nat) : Int) from rfl] at hF
  refine hst (i := 3) (o := ops_rp27[3]'(show 3 < ops_rp27.size by rw [size_rp27]; decide)) hF 111 true (ptr g2 1) (Array.getElem?_eq_getElem (show 3 < ops_rp27.size by rw [size_rp27]; decide)) (by kernel_rfl) (by decide) (by kernel_rfl) (by kernel_rfl) (by kernel_rfl) (hQ _ _) (want_n (by kernel_rfl)) (fun hW w hS => rrun_fld (T := 25) (x := .tmp 2) (f := 1) (by kernel_rfl) (hF.ev 2 (ptr g2 0) rfl) (by kernel_rfl)) hS (fun a hF => ?_)
  rw [show cond true (ptr g2 1) undef = ptr g2 1 from rfl] at hF
  refine hst (i := 4) (o := ops_rp27[4]'(show 4 < ops_rp27.size by rw [size_rp27]; decide)) hF 112 true (.slice a0 l.length d0) (Array.getElem?_eq_getElem (show 4 < ops_rp27.size by rw [size_rp27]; decide)) (by kernel_rfl) (by decide) (by kernel_rfl) (by kernel_rfl) (by kernel_rfl) (hQ _ _) (want_n (by kernel_rfl)) (fun hW w hS => rrun_load (ty := 23) (x := .tmp 111) (by kernel_rfl) (hF.ev 111 (ptr g2 1) rfl) (rld_nnods (block_cell ((hS.block _ (lt_of_block hT2)).trans hT2) 1))) hS (fun a hF => ?_)
  rw [show cond true (.slice a0 l.length d0) undef = .slice a0 l.length d0 from rfl] at hF
  refine hst (i := 5) (o := ops_rp27[5]'(show 5 < ops_rp27.size by rw [size_rp27]; decide)) hF 113 true (.int .i64 ((l.length : Nat) : Int)) (Array.getElem?_eq_getElem (show 5 < ops_rp27.size by rw [size_rp27]; decide)) (by kernel_rfl) (by decide) (by kernel_rfl) (by kernel_rfl) (by kernel_rfl) (hQ _ _) (want_n (by kernel_rfl)) (fun hW w hS => rrun_len (t := 23) (x := .tmp 112) (by kernel_rfl) (hF.ev 112 (.slice a0 l.length d0) rfl) (by kernel_rfl)) hS (fun a hF => ?_)
  rw [show cond true (.int .i64 ((l.length : Nat) : Int)) undef = .int .i64 ((l.length : Nat) : Int) from rfl] at hF
  refine hst (i := 6) (o := ops_rp27[6]'(show 6 < ops_rp27.size by rw [size_rp27]; decide)) hF 114 true (.int .i64 ((l.length + 1 : Nat) : Int)) (Array.getElem?_eq_getElem (show 6 < ops_rp27.size by rw [size_rp27]; decide)) (by kernel_rfl) (by decide) (by kernel_rfl) (by kernel_rfl) (by kernel_rfl) (hQ _ _) (want_n (by kernel_rfl)) (fun hW w hS => rrun_bin (op := .add) (ty := 3) (ty2 := 3) (x := .tmp 113) (y := .const (.int .i64 1)) (u := .int .i64 ((l.length : Nat) : Int)) (v := .int .i64 ((1 : Nat) : Int)) (by kernel_rfl) (hF.ev 113 (.int .i64 ((l.length : Nat) : Int)) rfl) (rfl) (by kernel_rfl) (radd_one l.length (by omega))) hS (fun a hF => ?_)
  rw [show cond true (.int .i64 ((l.length + 1 : Nat) : Int)) undef = .int .i64 ((l.length + 1 : Nat) : Int) from rfl] at hF
  refine hst (i := 7) (o := ops_rp27[7]'(show 7 < ops_rp27.size by rw [size_rp27]; decide)) hF 115 true (.bool (decide (T.n.length ≤ l.length + 1))) (Array.getElem?_eq_getElem (show 7 < ops_rp27.size by rw [size_rp27]; decide)) (by kernel_rfl) (by decide) (by kernel_rfl) (by kernel_rfl) (by kernel_rfl) (hQ _ _) (want_n (by kernel_rfl)) (fun hW w hS => rrun_bin (op := .leq) (ty := 3) (ty2 := 3) (x := .tmp 110) (y := .tmp 114) (u := .int .i64 ((T.n.length : Nat) : Int)) (v := .int .i64 ((l.length + 1 : Nat) : Int)) (by kernel_rfl) (hF.ev 110 (.int .i64 ((T.n.length : Nat) : Int)) rfl) (hF.ev 114 (.int .i64 ((l.length + 1 : Nat) : Int)) rfl) (by kernel_rfl) (rle_i64 _ _)) hS (fun a hF => ?_)
  rw [show cond true (.bool (decide (T.n.length ≤ l.length + 1))) undef = .bool (decide (T.n.length ≤ l.length + 1)) from rfl] at hF
  refine hst (i := 8) (o := ops_rp27[8]'(show 8 < ops_rp27.size by rw [size_rp27]; decide)) hF 116 true (.bool (decide (T.n.length ≤ l.length + 1))) (Array.getElem?_eq_getElem (show 8 < ops_rp27.size by rw [size_rp27]; decide)) (by kernel_rfl) (by decide) (by kernel_rfl) (by kernel_rfl) (by kernel_rfl) (hQ _ _) (want_n (by kernel_rfl)) (fun hW w hS => rrun_move (x := .tmp 115) (.inl (by kernel_rfl)) (hF.ev 115 (.bool (decide (T.n.length ≤ l.length + 1))) rfl)) hS (fun a hF => ?_)
  rw [show cond true (.bool (decide (T.n.length ≤ l.length + 1))) undef = .bool (decide (T.n.length ≤ l.length + 1)) from rfl] at hF
  refine hst (i := 9) (o := ops_rp27[9]'(show 9 < ops_rp27.size by rw [size_rp27]; decide)) hF 117 true (.agg #[.int .u64 (T.next : Int), .slice a2 T.n.length d2]) (Array.getElem?_eq_getElem (show 9 < ops_rp27.size by rw [size_rp27]; decide)) (by kernel_rfl) (by decide) (by kernel_rfl) (by kernel_rfl) (by kernel_rfl) (hQ _ _) (Eq.trans (b := ((decide (T.n.length ≤ l.length + 1)) == true)) (want_b (gi := 8) (g := 116) (c := (decide (T.n.length ≤ l.length + 1))) hF (by kernel_rfl) (by kernel_rfl) rfl) (by simp [hle])) (fun hW w hS => rrun_load (ty := 32) (x := .tmp 7) (by kernel_rfl) (hF.ev 7 (ptr kB 0) rfl) (rld_tree (block_cell ((hS.block _ (lt_of_block hB)).trans hB) 0) (block_cell ((hS.block _ (lt_of_block hB)).trans hB) 1))) hS (fun a hF => ?_)
  rw [show cond true (.agg #[.int .u64 (T.next : Int), .slice a2 T.n.length d2]) undef = .agg #[.int .u64 (T.next : Int), .slice a2 T.n.length d2] from rfl] at hF
  refine hst (i := 10) (o := ops_rp27[10]'(show 10 < ops_rp27.size by rw [size_rp27]; decide)) hF 118 true (.agg #[.int .u64 (T.next : Int), .slice a1 T.n.length d1]) (Array.getElem?_eq_getElem (show 10 < ops_rp27.size by rw [size_rp27]; decide)) (by kernel_rfl) (by decide) (by kernel_rfl) (by kernel_rfl) (by kernel_rfl) (hQ _ _) (Eq.trans (b := ((decide (T.n.length ≤ l.length + 1)) == true)) (want_b (gi := 8) (g := 116) (c := (decide (T.n.length ≤ l.length + 1))) hF (by kernel_rfl) (by kernel_rfl) rfl) (by simp [hle])) (fun hW w hS => rrun_load (ty := 25) (x := .tmp 6) (by kernel_rfl) (hF.ev 6 (ptr kA 0) rfl) (rld_ntree (block_cell ((hS.block _ (lt_of_block hA)).trans hA) 0) (block_cell ((hS.block _ (lt_of_block hA)).trans hA) 1))) hS (fun a hF => ?_)
  rw [show cond true (.agg #[.int .u64 (T.next : Int), .slice a1 T.n.length d1]) undef = .agg #[.int .u64 (T.next : Int), .slice a1 T.n.length d1] from rfl] at hF
  refine hcallx (i := 11) (o := ops_rp27[11]'(show 11 < ops_rp27.size by rw [size_rp27]; decide)) (R := fun v w' => ∃ vo, v = .agg #[.int .u64 (T.next : Int), vo] ∧ NodsAt w' vo T.n) hF 119 (Array.getElem?_eq_getElem (show 11 < ops_rp27.size by rw [size_rp27]; decide)) (by kernel_rfl) (by decide) (by kernel_rfl) (Eq.trans (b := ((decide (T.n.length ≤ l.length + 1)) == true)) (want_b (gi := 8) (g := 116) (c := (decide (T.n.length ≤ l.length + 1))) hF (by kernel_rfl) (by kernel_rfl) rfl) (by simp [hle])) ⟨11, #[.agg #[.int .u64 (T.next : Int), .slice a1 T.n.length d1]], rrun_call1 (fn := 11) (t := 25) rfl (by kernel_rfl) (by kernel_rfl) (hF.ev 118 (.agg #[.int .u64 (T.next : Int), .slice a1 T.n.length d1]) rfl), (of14_any _ _ _ w (hv.below hS) hl).mono (by rintro e w' ⟨q, rfl, h1, _, h2⟩; exact ⟨_, rfl, ⟨q, rfl, h1⟩, hS.trans (h2.mono hS.size)⟩)⟩ ?_
  rintro _ a w ⟨vo, rfl, hvo⟩ hF hS
  refine hcall (i := 12) (o := ops_rp27[12]'(show 12 < ops_rp27.size by rw [size_rp27]; decide)) hF 120 true (.bool true) (Array.getElem?_eq_getElem (show 12 < ops_rp27.size by rw [size_rp27]; decide)) (by kernel_rfl) (by decide) (by kernel_rfl) (Eq.trans (b := ((decide (T.n.length ≤ l.length + 1)) == true)) (want_b (gi := 8) (g := 116) (c := (decide (T.n.length ≤ l.length + 1))) hF (by kernel_rfl) (by kernel_rfl) rfl) (by simp [hle])) (fun hW => ⟨15, #[.agg #[.int .u64 (T.next : Int), .slice a2 T.n.length d2], .agg #[.int .u64 (T.next : Int), vo]], rrun_call2 (fn := 15) (t := 32) (u := 32) rfl (by kernel_rfl) (by kernel_rfl) (hF.ev 117 (.agg #[.int .u64 (T.next : Int), .slice a2 T.n.length d2]) rfl) (hF.ev 119 (.agg #[.int .u64 (T.next : Int), vo]) rfl), (rsame_any _ _ _ _ _ _ w (hu.below hS) hvo hl hl).mono (by rintro e w' ⟨rfl, hb⟩; exact ⟨by rw [eqL_iff.2 rfl]; simp, hS.trans (hb.mono hS.size)⟩)⟩) hS (fun a w hF hS => ?_)
  rw [show cond true (.bool true) undef = .bool true from rfl] at hF
  refine hst (i := 13) (o := ops_rp27[13]'(show 13 < ops_rp27.size by rw [size_rp27]; decide)) hF 121 true (.bool true) (Array.getElem?_eq_getElem (show 13 < ops_rp27.size by rw [size_rp27]; decide)) (by kernel_rfl) (by decide) (by kernel_rfl) (by kernel_rfl) (by kernel_rfl) (hQ _ _) (want_n (by kernel_rfl)) (fun hW w hS => rrun_pickt (x := .tmp 116) (y := .tmp 120) (z := .const (.bool false)) (by kernel_rfl) (hF.ev 116 _ rfl) (decide_eq_true hle) (hF.ev 120 _ rfl)) hS (fun a hF => ?_)
  rw [show cond true (.bool true) undef = .bool true from rfl] at hF
  refine hst (i := 14) (o := ops_rp27[14]'(show 14 < ops_rp27.size by rw [size_rp27]; decide)) hF 4 true (.bool true) (Array.getElem?_eq_getElem (show 14 < ops_rp27.size by rw [size_rp27]; decide)) (by kernel_rfl) (by decide) (by kernel_rfl) (by kernel_rfl) (by kernel_rfl) (hQ _ _) (want_n (by kernel_rfl)) (fun hW w hS => rrun_move (x := .tmp 121) (.inr (by kernel_rfl)) (hF.ev 121 (.bool true) rfl)) hS (fun a hF => ?_)
  rw [show cond true (.bool true) undef = .bool true from rfl] at hF
  exact wpAnyH_done (by kernel_rfl) (hE _ _ (hF.sub ((4, .bool true) :: [(2, ptr g2 0), (6, ptr kA 0), (7, ptr kB 0), (0, v0), (1, v1), (3, v3), (5, v5), (8, v8), (9, v9), (10, v10), (11, v11), (12, v12), (13, v13), (14, v14), (15, v15)]) ⟨rfl, rfl, rfl, rfl, rfl, rfl, rfl, rfl, rfl, rfl, rfl, rfl, rfl, rfl, rfl, rfl, trivial⟩) hS) _
end
end Go.Proofs.Ytpmlhmficmillaa

namespace Go.Proofs.Ytpmlhmficmillaa
section
open Go.RowKit
set_option maxRecDepth 100000
set_option linter.unusedVariables false

theorem acts_one {w : World} {g : Nat} {z : ActV} {fr : Nat × Nat} {t : TypeId} (h : w.heap[g]? = some (.cells z.cells t fr)) : ActsAt w (.slice (some ⟨g, 0, none⟩) 1 1) [z] := by
  have := (RowAt.of_block (k := 11) (n := 1) h (by rw [act_cells]; rfl) (by unfold maxLen; omega)).weak
  unfold ActsAt
  rw [show actsL [z] = z.cells.toList by simp [actsL]]
  exact this
structure OtS (B g2 g3 kA kB x : Nat) (l : List Nod) (tv : Value) (z : ActV) (T : Tr) (v' u' : Value) (w0 w : World) : Prop where
  bel : Below B w0 w
  tb : w.heap[g2]? = some (.cells #[.int .u64 (x : Int), tv] 25 (0, 0))
  ab : w.heap[g3]? = some (.cells z.cells 36 (0, 0))
  ka : w.heap[kA]? = some (.cells #[.int .u64 (T.next : Int), v'] 25 (0, 0))
  kb : w.heap[kB]? = some (.cells #[.int .u64 (T.next : Int), u'] 32 (0, 0))
  tr : NodsAt w tv l
  va : NodsAt w v' T.n
  ub : NodsAt w u' T.n
  hB : B ≤ w.heap.size
theorem OtS.next {B g2 g3 kA kB x : Nat} {l : List Nod} {tv : Value} {z : ActV} {T : Tr} {v' u' : Value} {w0 w w' : World} (h : OtS B g2 g3 kA kB x l tv z T v' u' w0 w) (hb : Below w.heap.size w w') : OtS B g2 g3 kA kB x l tv z T v' u' w0 w' :=
  ⟨h.bel.trans (hb.mono h.hB), (hb.block _ (lt_of_block h.tb)).trans h.tb, (hb.block _ (lt_of_block h.ab)).trans h.ab, (hb.block _ (lt_of_block h.ka)).trans h.ka, (hb.block _ (lt_of_block h.kb)).trans h.kb, h.tr.below hb, h.va.below hb, h.ub.below hb, Nat.le_trans h.hB hb.size⟩
def clockN (n m : Nod) : Nod := { n with vers := m.vers, mtm := m.mtm, muid := m.muid }
def DirP (l : List Nod) (T : Tr) (z : ActV) (D : Nat) : Prop := ∀ p n, getL l p = some n → (z.op = 1 ∨ p ≠ z.path) → ∃ m, getL T.n p = some m ∧ (p ≠ D → m = n) ∧ clockN n m = m
theorem dirP_of {t T : Tr} {z : ActV} (h : Left t T z) (D : Nat) (h1 : z.op = 1 → D = z.dir) (h2 : z.op ≠ 1 → ∀ y, getL t.n z.path = some y → D = y.up) : DirP t.n T z D := fun p n hn hp => by
  obtain ⟨m, g1, g2, g3⟩ := h.get p n hn hp
  refine ⟨m, g1, fun hd => g3 (fun e => by rw [← h1 e]; exact hd) (fun e y hy => by rw [← h2 e y hy]; exact hd), ?_⟩
  rcases g2 with rfl | ⟨v, c, u, rfl⟩ <;> rfl
theorem nnod_ncmp (x y : Nod) (W : World) : (binOp .neq 56 (.agg x.cells) (.agg y.cells)).run Try.prog W = .ok (.bool (!eqN x y)) W := by
  have h1 : Try.prog.underlying 56 = some (.struct (Try.prog.fieldsOf 56)) := by kernel_rfl
  have h2 : Try.prog.stoodInHeld 56 = false := by kernel_rfl
  have h5 := Try.underlying4
  have h7 := Try.underlying34
  have h8 := Try.underlying22
  have h9 := Try.underlying9
  rw [run_neq_struct, run_equalIn_agg W _ _ _ _ h1 h2]
  have g2 := Try.underlying56
  clear h1
  by_cases h : eqN x y = true
  · obtain rfl := eqN_iff.1 h
    rw [h]
    simp [go_sem, h5, h7, h8, h9, g2, Nod.cells]
  · rw [Bool.eq_false_iff.2 h]
    simp [go_sem, h5, h7, h8, h9, g2, Nod.cells]
    have hx : x.path = y.path → x.vers = y.vers → x.mode = y.mode → x.atm = y.atm → x.mtm = y.mtm → x.name.toList = y.name.toList → x.uid.toList = y.uid.toList → x.gid.toList = y.gid.toList → x.muid.toList = y.muid.toList → x.up = y.up → x.gone = y.gone → x.data.toList = y.data.toList → False :=
      fun a1 a2 a3 a4 a5 a6 a7 a8 a9 a10 a11 a12 => h (decide_eq_true ⟨a1, a2, a3, a4, a5, toListInj a6, toListInj a7, toListInj a8, toListInj a9, a10, a11, toListInj a12⟩)
    clear h2 h5 h7 h8 h9 g2 h
    intro a1 a2 a3 a4 a5 a6 a7 a8 a9 a10 a11 a12
    exact hx (by omega) (by omega) (by omega) (by omega) (by omega) a6 a7 a8 a9 (by omega) a11 a12
def ncmpP (a b : Value) : Sem Value := binOp .neq 56 a b
theorem ncmpP_eq (a b : Value) : binOp .neq 56 a b = ncmpP a b := rfl
attribute [local go_sem ↓] ncmpP_eq
set_option maxHeartbeats 6400000 in
theorem law_TreeOthers (v : Value) (x : Nat) (l : List Nod) (z : ActV) (w : World) (hv : NodsAt w v l) (hok : ∀ n ∈ l, NodOk n) (hz : ActOk z) :
    Calls Try.prog 5 #[.agg #[.int .u64 (x : Int), v], .agg z.cells] w (LawTrue w) := by
  obtain ⟨a, c, rfl, g1, g2⟩ := hv.form
  unfold maxLen at g2
  have mixed : Try.prog.follows Departure.mixedOrders = true := by first | kernel_rfl | decide
  obtain ⟨W, hW⟩ : ∃ W, W = (w.alloc (.cells #[.int .u64 (x : Int), .slice a l.length c] 25)).alloc (.cells z.cells 36) := ⟨_, rfl⟩
  have hb0 : Below w.heap.size w W := by rw [hW]; exact ((Below.refl w.heap.size w).alloc (Nat.le_refl _) _).alloc (by simp) _
  have hX0 := hid (show W.heap[w.heap.size]? = some (.cells #[.int .u64 (x : Int), .slice a l.length c] 25 (0, 0)) by rw [hW, heap_alloc_old _ _ (by simp), heap_alloc_new])
  have hA0 := hid (show W.heap[w.heap.size + 1]? = some (.cells z.cells 36 (0, 0)) by rw [hW]; exact heap2 _ _ _)
  have hvW := hid (hv.below hb0)
  have hkn := hid (known17_any W)
  replace hb0 := hid hb0
  replace hok := hid hok
  replace hz := hid hz
  rw [act_cells] at hW ⊢
  go_enter Try.func5, Try.ntmps5
  go_wp2_with (rw [← hW]; replace hW := hid hW)
  try (rw [← hW]; replace hW := hid hW)
  refine hkn.out.mono ?_
  rintro e w2 ⟨rfl, hb2⟩
  have hB2 := hid (sn hb0.out hb2)
  have hX2 := (hb2.block _ (lt_of_block hX0.out)).trans hX0.out
  have hA2 := hid ((hb2.block _ (lt_of_block hA0.out)).trans hA0.out)
  have hv2 := hid (hvW.out.below hb2)
  have hmay := hid (may14_any _ x l w2 hv2.out hok.out)
  have e0 := block_cell hX2 0
  have e1 := block_cell hX2 1
  replace hX2 := hid hX2
  clear hb2 hkn hX0 hA0 hvW hb0
  go_wp2_with fail
  refine hmay.out.mono ?_
  rintro e w3 ⟨bM, rfl, hM, hb3⟩
  have hB3 := hid (sn hB2.out hb3)
  have hX3 := (hb3.block _ (lt_of_block hX2.out)).trans hX2.out
  have hA3 := hid ((hb3.block _ (lt_of_block hA2.out)).trans hA2.out)
  have hv3 := hid (hv2.out.below hb3)
  clear e0 e1 hb3 hmay hX2 hA2 hv2 hB2
  have e0 := block_cell hX3 0
  have e1 := block_cell hX3 1
  replace hX3 := hid hX3
  cases bM with
  | false =>
    go_wp2_with fail
    go_ret
    exact ⟨rfl, hB3.out⟩
  | true =>
    obtain ⟨hOk, hFew⟩ := hM rfl
    have hlen := fewL_len hFew
    replace hOk := hid hOk
    clear hM hFew
    obtain ⟨W4, hW4⟩ : ∃ W, W = w3.alloc (.cells z.cells 36) := ⟨_, rfl⟩
    have hb4 : Below w3.heap.size w3 W4 := by rw [hW4]; exact (Below.refl _ _).alloc (Nat.le_refl _) _
    have hN4 : W4.heap[w3.heap.size]? = some (.cells z.cells 36 (0, 0)) := by rw [hW4, heap_alloc_new]
    have hfw := hid (few17_any _ [z] W4 (acts_one hN4))
    have hB4 := hid (sn hB3.out hb4)
    have hX4 := (hb4.block _ (lt_of_block hX3.out)).trans hX3.out
    have hA4 := hid ((hb4.block _ (lt_of_block hA3.out)).trans hA3.out)
    have hv4 := hid (hv3.out.below hb4)
    clear e0 e1 hN4 hb4
    rw [act_cells] at hW4
    have y0 : w3.cell? ⟨w.heap.size + 1, 0, none⟩ = some (.int .i64 z.op) := block_cell hA3.out 0
    have y1 : w3.cell? ⟨w.heap.size + 1, 1, none⟩ = some (.int .u64 (z.dir : Int)) := block_cell hA3.out 1
    have y2 : w3.cell? ⟨w.heap.size + 1, 2, none⟩ = some (.int .u64 (z.path : Int)) := block_cell hA3.out 2
    have y3 : w3.cell? ⟨w.heap.size + 1, 3, none⟩ = some (.int .u64 (z.off : Int)) := block_cell hA3.out 3
    have y4 : w3.cell? ⟨w.heap.size + 1, 4, none⟩ = some (.int .u32 (z.n : Int)) := block_cell hA3.out 4
    have y5 : w3.cell? ⟨w.heap.size + 1, 5, none⟩ = some (.int .u32 (z.mode : Int)) := block_cell hA3.out 5
    have y6 : w3.cell? ⟨w.heap.size + 1, 6, none⟩ = some (.string z.name) := block_cell hA3.out 6
    have y7 : w3.cell? ⟨w.heap.size + 1, 7, none⟩ = some (.string z.who) := block_cell hA3.out 7
    have y8 : w3.cell? ⟨w.heap.size + 1, 8, none⟩ = some (.string z.gid) := block_cell hA3.out 8
    have y9 : w3.cell? ⟨w.heap.size + 1, 9, none⟩ = some (.string z.data) := block_cell hA3.out 9
    have y10 : w3.cell? ⟨w.heap.size + 1, 10, none⟩ = some (.int .u32 (z.now : Int)) := block_cell hA3.out 10
    go_wp2_with (rw [← hW4]; replace hW4 := hid hW4)
    refine hfw.out.mono ?_
    rintro e w5 ⟨rfl, hw5⟩
    subst hw5
    have e0 := block_cell hX4 0
    have e1 := block_cell hX4 1
    clear y0 y1 y2 y3 y4 y5 y6 y7 y8 y9 y10 hfw hX3 hA3 hv3 hB3
    rcases hfa : fewAs [z] with _ | _
    · go_wp2_with fail
      go_ret
      exact ⟨rfl, hB4.out⟩
    have hzf := hid (fewAs_of hfa z (by simp))
    clear hfa
    by_cases hx : 1152921504606846976 < x
    · have q1 : (1152921504606846976 : Int) < (x : Int) := by omega
      go_wp2_with fail
      go_ret
      exact ⟨rfl, hB4.out⟩
    have q1 : ¬ (1152921504606846976 : Int) < (x : Int) := by omega
    have hof := hid (of14_any _ x l w5 hv4.out (by omega))
    have hgood := hid (show Good ⟨x, l⟩ from ⟨hOk.out, hok.out, by show x < _; omega⟩)
    replace hX4 := hid hX4
    replace hA4 := hid hA4
    go_wp2_with fail
    refine hof.out.mono ?_
    rintro e w6 ⟨u6, rfl, hu6, _, hb6⟩
    obtain ⟨a6, c6, rfl, _, _⟩ := hu6.form
    obtain ⟨k5, hk5⟩ : ∃ k, k = w6.heap.size := ⟨_, rfl⟩
    obtain ⟨V6, hV6⟩ : ∃ V, V = w6.alloc (.cells #[.int .u64 (x : Int), .slice a6 l.length c6] 32) := ⟨_, rfl⟩
    have hbV : Below w6.heap.size w6 V6 := by rw [hV6]; exact (Below.refl _ _).alloc (Nat.le_refl _) _
    have hbx := sn hb6 hbV
    have hX6 := hid ((hbx.block _ (lt_of_block hX4.out)).trans hX4.out)
    have hA6 := hid ((hbx.block _ (lt_of_block hA4.out)).trans hA4.out)
    have hU6 := hid (show V6.heap[k5]? = some (.cells #[.int .u64 (x : Int), .slice a6 l.length c6] 32 (0, 0)) by rw [hV6, hk5]; exact heap_alloc_new _ _)
    have hv6 := hid (hv4.out.below hbx)
    have hu6' := hid (hu6.below hbV)
    have hB6 := hid (sn hB4.out hbx)
    have hstep := hid (step_any (.slice a l.length c) (.slice a6 l.length c6) x l z V6 hv6.out hu6'.out hgood.out hz.out hzf.out (by omega))
    have hTne := hid (actT_ne hOk.out z)
    have hT := hid (actT_left (t := ⟨x, l⟩) hOk.out.sort (fun n hn => (hOk.out.low n hn).2) z)
    have hTl : (actT ⟨x, l⟩ z).n.length ≤ 1000 := by have := hT.out.len; simp only at this; omega
    clear hbV hbx hb6 hu6 hof e0 e1 hX4 hA4 hv4 hB4 q1
    have e0 := block_cell hX6.out 0
    have e1 := block_cell hX6.out 1
    obtain ⟨T, hTT⟩ : ∃ T, T = actT ⟨x, l⟩ z := ⟨_, rfl⟩
    rw [← hTT] at hstep hTne hT hTl
    replace hTT := hid hTT
    rw [hk5] at hU6
    have e2 := block_cell hU6.out 0
    have e3 := block_cell hU6.out 1
    go_wp2_with (first
      | (rw [← hV6]; replace hV6 := hid hV6)
      | (refine wpList_load_row (by rfl) 36 (.tmp 3) (by rfl) (w.heap.size + 1) (by rfl) 36 _ (0, 0) _ hA6.out Try.underlying36 (by rfl) (by kernel_rfl) ?_))
    rw [← hk5] at hU6 e2 e3 ⊢
    replace hk5 := hid hk5
    refine hstep.out.mono ?_
    rintro e w7 ⟨v7, u7, rfl, hv7, hu7, hb7⟩
    obtain ⟨a1, d1, rfl, _, _⟩ := hv7.form
    obtain ⟨a2, d2, rfl, _, _⟩ := hu7.form
    clear hstep e0 e1 e2 e3
    go_upto_region 7 with fail
    obtain ⟨kA, hkA⟩ : ∃ k, k = w7.heap.size := ⟨_, rfl⟩
    obtain ⟨kB, hkB⟩ : ∃ k, k = w7.heap.size + 1 := ⟨_, rfl⟩
    obtain ⟨V7, hV7⟩ : ∃ V, V = (w7.alloc (.cells #[.int .u64 (T.next : Int), .slice a1 T.n.length d1] 25)).alloc (.cells #[.int .u64 (T.next : Int), .slice a2 T.n.length d2] 32) := ⟨_, rfl⟩
    have hbV : Below w7.heap.size w7 V7 := by rw [hV7]; exact ((Below.refl _ _).alloc (Nat.le_refl _) _).alloc (by simp) _
    have hbx := sn hb7 hbV
    have hS := hid (show (OtS w.heap.size w.heap.size (w.heap.size + 1) kA kB x l (.slice a l.length c) z T (.slice a1 T.n.length d1) (.slice a2 T.n.length d2) w) V7 from ⟨sn hB6.out hbx, (hbx.block _ (lt_of_block hX6.out)).trans hX6.out, (hbx.block _ (lt_of_block hA6.out)).trans hA6.out, by rw [hV7, hkA, heap_alloc_old _ _ (by simp), heap_alloc_new], by rw [hV7, hkB]; exact heap2 _ _ _, hv6.out.below hbx, hv7.below hbV, hu7.below hbV, (sn hB6.out hbx).size⟩)
    clear hbV hbx hb7 hv7 hu7 hv6 hu6' hX6 hA6 hU6 hB6
    rw [← hV7, ← hkB, ← hkA]
    replace hV7 := hid hV7
    replace hkA := hid hkA
    replace hkB := hid hkB
    have hsl := hid hOk.out.sort
    have e0 := block_cell hS.out.tb 0
    have e1 := block_cell hS.out.tb 1
    have f0 : V7.cell? ⟨w.heap.size + 1, 0, none⟩ = some (.int .i64 z.op) := block_cell hS.out.ab 0
    have f1 : V7.cell? ⟨w.heap.size + 1, 1, none⟩ = some (.int .u64 (z.dir : Int)) := block_cell hS.out.ab 1
    have f2 : V7.cell? ⟨w.heap.size + 1, 2, none⟩ = some (.int .u64 (z.path : Int)) := block_cell hS.out.ab 2
    have hget := hid (get_any _ x l z.path V7 hS.out.tr hsl.out (by omega))
    go_wp2_with fail
    refine hget.out.mono ?_
    rintro e w8 ⟨rfl, hb8⟩
    have hS8 := hid (hS.out.next hb8)
    obtain ⟨y, hy⟩ : ∃ y, y = getN l z.path := ⟨_, rfl⟩
    obtain ⟨bI, hI⟩ : ∃ b, b = (getL l z.path).isSome := ⟨_, rfl⟩
    rw [← hy, ← hI]
    replace hy := hid hy
    have hnew := hid (heap_alloc_new w8 (.cells zeroNod.cells 56))
    obtain ⟨V8, hV8⟩ : ∃ V, V = boxN w8 y := ⟨_, rfl⟩
    have hbV8 : Below w8.heap.size w8 V8 := by rw [hV8]; exact boxN_below _ _
    have hY8 := hid (show V8.heap[w8.heap.size]? = some (.cells y.cells 56 (0, 0)) by rw [hV8]; exact boxN_heap _ _)
    have hS9 := hid (hS8.out.next hbV8)
    unfold boxN at hV8
    rw [zeroNod_cells] at hV8 hnew
    clear hbV8 hb8 hS8 e0 e1 f0 f1 f2 hget hS
    have f0 : V8.cell? ⟨w.heap.size + 1, 0, none⟩ = some (.int .i64 z.op) := block_cell hS9.out.ab 0
    have y9 : V8.cell? ⟨w8.heap.size, 9, none⟩ = some (.int .u64 (y.up : Int)) := block_cell hY8.out 9
    have hcase : (bI = false ∧ DirP l T z z.dir) ∨ (bI = true ∧ z.op = 1 ∧ DirP l T z z.dir) ∨ (bI = true ∧ z.op ≠ 1 ∧ DirP l T z y.up) := by
      rcases hg : getL l z.path with _ | n
      · rw [hg] at hI
        exact .inl ⟨hI, dirP_of (t := ⟨x, l⟩) hT.out _ (fun _ => rfl) (fun _ y hy => by have h2 : getL l z.path = some y := hy; rw [hg] at h2; cases h2)⟩
      · rw [hg] at hI
        by_cases e1 : z.op = 1
        · exact .inr (.inl ⟨hI, e1, dirP_of (t := ⟨x, l⟩) hT.out _ (fun _ => rfl) (fun e => absurd e1 e)⟩)
        · refine .inr (.inr ⟨hI, e1, dirP_of (t := ⟨x, l⟩) hT.out _ (fun e => absurd e e1) (fun _ y2 hy2 => ?_)⟩)
          have h2 : getL l z.path = some y2 := hy2
          rw [hg] at h2; cases h2
          rw [hy.out]
          unfold getN
          rw [hg]; rfl
    clear hI
    replace hcase := hid hcase
    obtain ⟨D, hD⟩ : ∃ D, D = if bI && !decide (z.op = 1) then y.up else z.dir := ⟨_, rfl⟩
    have hDp := hid (show DirP l T z D from by
      rcases hcase.out with ⟨h1, h2⟩ | ⟨h1, h2, h3⟩ | ⟨h1, h2, h3⟩
      · rw [hD, h1]; exact h2
      · rw [hD, h1, h2]; exact h3
      · rw [hD, h1]; simp only [h2, decide_false, Bool.not_false, Bool.and_self, if_true]; exact h3)
    clear hcase
    have k1 : (z.op != 1) = !decide (z.op = 1) := by by_cases h : z.op = 1 <;> simp [h]
    cases bI <;> rcases hq : decide (z.op = 1) with _ | _
    all_goals
      rw [hq] at k1 hD
      first | (replace hD : D = y.up := hD) | (replace hD : D = z.dir := hD)
      first | (replace k1 : (z.op != 1) = true := k1) | (replace k1 : (z.op != 1) = false := k1)
      replace hq := hid hq
      go_upto_region 13 with (first
        | (rw [← hV8]; replace hV8 := hid hV8)
        | (refine wpList_store_row (by rfl) 56 (.tmp 10) (.tmp 51) (by rfl) w8.heap.size y.cells (by rfl) (by rfl) 56 _ hnew.out (by kernel_rfl) (by kernel_rfl) (nod_one y) ?_))
      rw [← hD]
      replace hD := hid hD
      clear f0 y9 k1 hnew
      go_wp2_with fail
      go_loopw [12] (fun kv wr => ∃ i : Nat, i ≤ l.length ∧ kv = .int .i64 (i : Int) ∧ Hid ((OtS w.heap.size w.heap.size (w.heap.size + 1) kA kB x l (.slice a l.length c) z T (.slice a1 T.n.length d1) (.slice a2 T.n.length d2) w) wr)) (fun kv _ => l.length - (intOf kv).toNat)
      case atStart => exact ⟨0, by omega, rfl, hS9⟩
      case round =>
        clear hS9 hY8
        obtain ⟨i, hi, rfl, hS⟩ := hrel
        have e1 := block_cell hS.out.tb 1
        by_cases hil : i < l.length
        · obtain ⟨b, o, ha, hr⟩ := hS.out.tr.range i hil
          subst ha
          obtain ⟨n, hn⟩ : ∃ n, n = l[i] := ⟨_, rfl⟩
          rw [← hn] at hr
          have hmem := hid (show getL l n.path = some n from getL_of hsl.out (by rw [hn]; exact List.getElem_mem hil))
          replace hn := hid hn
          replace hr := hid hr
          have i1 : (0 : Int) ≤ (i : Int) := by omega
          have i2 : (i : Int) < (l.length : Int) := by omega
          have hnew1 := hid (heap_alloc_new wr (.cells zeroNod.cells 56))
          obtain ⟨V1, hV1⟩ : ∃ V, V = boxN wr n := ⟨_, rfl⟩
          have hbV1 : Below wr.heap.size wr V1 := by rw [hV1]; exact boxN_below _ _
          have hN1 := hid (show V1.heap[wr.heap.size]? = some (.cells n.cells 56 (0, 0)) by rw [hV1]; exact boxN_heap _ _)
          have hS1 := hid (hS.out.next hbV1)
          unfold boxN at hV1
          rw [zeroNod_cells] at hV1 hnew1
          have p0 : V1.cell? ⟨wr.heap.size, 0, none⟩ = some (.int .u64 (n.path : Int)) := block_cell hN1.out 0
          have r0 := block_cell hS1.out.ka 0
          have r1 := block_cell hS1.out.ka 1
          have hget := hid (get_any _ T.next T.n n.path V1 hS1.out.va hT.out.sort hTl)
          go_wp2_with (first
            | (rw [← hV1]; replace hV1 := hid hV1)
            | (refine wpList_load_cells (by rfl) 56 (.tmp 71) (by rfl) b (o + i * 12) (by rfl) n.cells _ hr.out Try.underlying56 (by rfl) (by kernel_rfl) ?_)
            | (refine wpList_store_row (by rfl) 56 (.tmp 13) (.tmp 72) (by rfl) wr.heap.size n.cells (by rfl) (by rfl) 56 _ hnew1.out (by kernel_rfl) (by kernel_rfl) (nod_one n) ?_))
          refine hget.out.mono ?_
          rintro e w2 ⟨rfl, hb2⟩
          have hS2 := hid (hS1.out.next hb2)
          have hN2 := hid ((hb2.block _ (lt_of_block hN1.out)).trans hN1.out)
          obtain ⟨m, hm⟩ : ∃ m, m = getN T.n n.path := ⟨_, rfl⟩
          obtain ⟨bJ, hJ⟩ : ∃ b, b = (getL T.n n.path).isSome := ⟨_, rfl⟩
          rw [← hm, ← hJ]
          replace hm := hid hm
          replace hJ := hid hJ
          have hnew2 := hid (heap_alloc_new w2 (.cells zeroNod.cells 56))
          obtain ⟨V2, hV2⟩ : ∃ V, V = boxN w2 m := ⟨_, rfl⟩
          have hbV2 : Below w2.heap.size w2 V2 := by rw [hV2]; exact boxN_below _ _
          have hM2 := hid (show V2.heap[w2.heap.size]? = some (.cells m.cells 56 (0, 0)) by rw [hV2]; exact boxN_heap _ _)
          have hS3 := hid (hS2.out.next hbV2)
          have hN3 := hid ((hbV2.block _ (lt_of_block hN2.out)).trans hN2.out)
          have hlt : wr.heap.size ≠ w2.heap.size := by have := lt_of_block hN2.out; omega
          unfold boxN at hV2
          rw [zeroNod_cells] at hV2 hnew2
          have hall := hid (sn (sn hbV1 hb2) hbV2)
          clear hbV1 hbV2 hb2 hget p0 r0 r1 e1 hnew1 hS1 hS2 hN1 hN2 i1 i2
          have f0 : V2.cell? ⟨w.heap.size + 1, 0, none⟩ = some (.int .i64 z.op) := block_cell hS3.out.ab 0
          have f2 : V2.cell? ⟨w.heap.size + 1, 2, none⟩ = some (.int .u64 (z.path : Int)) := block_cell hS3.out.ab 2
          have p0 : V2.cell? ⟨wr.heap.size, 0, none⟩ = some (.int .u64 (n.path : Int)) := block_cell hN3.out 0
          by_cases hc : z.op ≠ 1 ∧ n.path = z.path
          · have q1 : (z.op != 1) = true := by simpa using hc.1
            have q2 : ((n.path : Int) == (z.path : Int)) = true := by simp [hc.2]
            replace hc := hid hc
            go_wp2_with (first
              | (rw [← hV2]; replace hV2 := hid hV2)
              | (refine wpList_store_row (by rfl) 56 (.tmp 14) (.tmp 78) (by rfl) w2.heap.size m.cells (by rfl) (by rfl) 56 _ hnew2.out (by kernel_rfl) (by kernel_rfl) (nod_one m) ?_))
            go_roundw
            case rel => exact ⟨i + 1, by omega, by go_num, hS3⟩
            case measure => simp [intOf]; omega
          have hc2 : z.op = 1 ∨ n.path ≠ z.path := by
            by_cases h1 : z.op = 1
            · exact .inl h1
            · exact .inr (fun h => hc ⟨h1, h⟩)
          obtain ⟨m2, gm, gD, gC⟩ := hDp.out n.path n hmem.out hc2
          obtain rfl : m2 = m := by
            rw [hm.out]; unfold getN; rw [gm]; rfl
          obtain rfl : bJ = true := by rw [hJ.out, gm]; rfl
          have hgrd : ((z.op != 1) = false) ∨ ((z.op != 1) = true ∧ ((n.path : Int) == (z.path : Int)) = false) := by
            by_cases h1 : z.op = 1
            · exact .inl (by simp [h1])
            · refine .inr ⟨by simpa using h1, ?_⟩
              have : n.path ≠ z.path := fun h => hc ⟨h1, h⟩
              simp; omega
          replace gm := hid gm
          replace hc := hid hc
          replace hc2 := hid hc2
          have u0 : V2.cell? ⟨w2.heap.size, 1, none⟩ = some (.int .u32 (m2.vers : Int)) := block_cell hM2.out 1
          have u1 : V2.cell? ⟨w2.heap.size, 4, none⟩ = some (.int .u32 (m2.mtm : Int)) := block_cell hM2.out 4
          have u2 : V2.cell? ⟨w2.heap.size, 8, none⟩ = some (.string m2.muid) := block_cell hM2.out 8
          have p1 : V2.cell? ⟨wr.heap.size, 1, none⟩ = some (.int .u32 (n.vers : Int)) := block_cell hN3.out 1
          have p4 : V2.cell? ⟨wr.heap.size, 4, none⟩ = some (.int .u32 (n.mtm : Int)) := block_cell hN3.out 4
          have p8 : V2.cell? ⟨wr.heap.size, 8, none⟩ = some (.string n.muid) := block_cell hN3.out 8
          have p1f : V2.frozen? ⟨wr.heap.size, 1, none⟩ = false := block_free hN3.out 1
          have p4f : V2.frozen? ⟨wr.heap.size, 4, none⟩ = false := block_free hN3.out 4
          have p8f : V2.frozen? ⟨wr.heap.size, 8, none⟩ = false := block_free hN3.out 8
          by_cases hd : n.path = D
          · have q3 : ((n.path : Int) == (D : Int)) = true := by simp [hd]
            replace hd := hid hd
            obtain ⟨V3, hV3⟩ : ∃ V, V = ((V2.setCell ⟨wr.heap.size, 1, none⟩ (.int .u32 (m2.vers : Int))).setCell ⟨wr.heap.size, 4, none⟩ (.int .u32 (m2.mtm : Int))).setCell ⟨wr.heap.size, 8, none⟩ (.string m2.muid) := ⟨_, rfl⟩
            have hN4 := hid (show V3.heap[wr.heap.size]? = some (.cells (clockN n m2).cells 56 (0, 0)) by rw [hV3]; exact block_set (block_set (block_set hN3.out 1 _) 4 _) 8 _)
            have hM4 := hid (show V3.heap[w2.heap.size]? = some (.cells m2.cells 56 (0, 0)) by
              rw [hV3]
              exact (block_set_other (by show w2.heap.size ≠ wr.heap.size; omega)).trans ((block_set_other (by show w2.heap.size ≠ wr.heap.size; omega)).trans ((block_set_other (by show w2.heap.size ≠ wr.heap.size; omega)).trans hM2.out)))
            have hcmp : (ncmpP (.agg (clockN n m2).cells) (.agg m2.cells)).run Try.prog V3 = .ok (.bool false) V3 := by
              have := nnod_ncmp (clockN n m2) m2 V3
              rw [gC] at this ⊢
              rw [eqN_iff.2 rfl] at this
              exact this
            have hSn := hid (hS.out.next (show Below wr.heap.size wr V3 from by rw [hV3]; exact ((hall.out.setCell (p := ⟨wr.heap.size, 1, none⟩) (Nat.le_refl _) _).setCell (p := ⟨wr.heap.size, 4, none⟩) (Nat.le_refl _) _).setCell (p := ⟨wr.heap.size, 8, none⟩) (Nat.le_refl _) _))
            replace gC := hid gC
            replace gD := hid gD
            rcases hgrd with q1 | ⟨q1, q2⟩
            all_goals
              go_wp2_with (first
                | (rw [← hV3]; replace hV3 := hid hV3)
                | (rw [← hV2]; replace hV2 := hid hV2)
                | (refine wpList_store_row (by rfl) 56 (.tmp 14) (.tmp 78) (by rfl) w2.heap.size m2.cells (by rfl) (by rfl) 56 _ hnew2.out (by kernel_rfl) (by kernel_rfl) (nod_one m2) ?_)
                | (refine wpList_load_row (by rfl) 56 (.tmp 13) (by rfl) wr.heap.size (by rfl) 56 (clockN n m2).cells (0, 0) _ hN4.out Try.underlying56 (by rfl) (by kernel_rfl) ?_)
                | (refine wpList_load_row (by rfl) 56 (.tmp 14) (by rfl) w2.heap.size (by rfl) 56 m2.cells (0, 0) _ hM4.out Try.underlying56 (by rfl) (by kernel_rfl) ?_))
              go_roundw
              case rel => exact ⟨i + 1, by omega, by go_num, hSn⟩
              case measure => simp [intOf]; omega
          · have q3 : ((n.path : Int) == (D : Int)) = false := by simp; omega
            obtain rfl : m2 = n := gD hd
            replace hd := hid hd
            have hcmp : (ncmpP (.agg m2.cells) (.agg m2.cells)).run Try.prog V2 = .ok (.bool false) V2 := by
              have := nnod_ncmp m2 m2 V2
              rw [eqN_iff.2 rfl] at this
              exact this
            clear u0 u1 u2 p1 p4 p8 p1f p4f p8f gC gD
            rcases hgrd with q1 | ⟨q1, q2⟩
            all_goals
              go_wp2_with (first
                | (rw [← hV2]; replace hV2 := hid hV2)
                | (refine wpList_store_row (by rfl) 56 (.tmp 14) (.tmp 78) (by rfl) w2.heap.size m2.cells (by rfl) (by rfl) 56 _ hnew2.out (by kernel_rfl) (by kernel_rfl) (nod_one m2) ?_)
                | (refine wpList_load_row (by rfl) 56 (.tmp 13) (by rfl) wr.heap.size (by rfl) 56 m2.cells (0, 0) _ hN3.out Try.underlying56 (by rfl) (by kernel_rfl) ?_)
                | (refine wpList_load_row (by rfl) 56 (.tmp 14) (by rfl) w2.heap.size (by rfl) 56 m2.cells (0, 0) _ hM2.out Try.underlying56 (by rfl) (by kernel_rfl) ?_))
              go_roundw
              case rel => exact ⟨i + 1, by omega, by go_num, hS3⟩
              case measure => simp [intOf]; omega
        · obtain rfl : i = l.length := by omega
          go_wp2_with fail
          go_cut [4] (fun s wx => s = .bool true ∧ Hid (Below wr.drew.heap.size wr.drew wx))
          case first => as_aux_lemma =>
            rename_i J K' hJ hK
            refine wp_region_noPanic ?_
            refine wp_region_held (S := (Below wr.drew.heap.size wr.drew)) mixed ?_
            refine (show wpAnyH Try.prog .any ops_rp27 _ _ _ _ _ _ → _ from fun h => h) ?_
            refine rp27_all (w1 := wr.drew) (g2 := w.heap.size) (kA := kA) (kB := kB) (l := l) (T := T) (by omega) hTl hT.out.len hS.out.tb hS.out.ka hS.out.kb hS.out.va hS.out.ub (fun _ _ _ _ _ h => h) (FrL.of_all (by rfl) rfl ⟨rfl, rfl, rfl, rfl, rfl, rfl, rfl, rfl, rfl, rfl, rfl, rfl, rfl, rfl, rfl, trivial⟩) (Below.refl _ _) (fun a w' hF hS2 => ?_)
            exact hK _ _ (Met.intro (hJ _ _ ⟨.bool true, a.tmps.getD 16 undef, a.tmps.getD 17 undef, a.tmps.getD 18 undef, a.tmps.getD 19 undef, a.tmps.getD 20 undef, a.tmps.getD 21 undef, a.tmps.getD 22 undef, a.tmps.getD 23 undef, a.tmps.getD 24 undef, a.tmps.getD 25 undef, a.tmps.getD 26 undef, a.tmps.getD 27 undef, a.tmps.getD 28 undef, a.tmps.getD 29 undef, a.tmps.getD 30 undef, a.tmps.getD 31 undef, a.tmps.getD 32 undef, a.tmps.getD 33 undef, a.tmps.getD 34 undef, a.tmps.getD 35 undef, a.tmps.getD 36 undef, a.tmps.getD 37 undef, a.tmps.getD 38 undef, a.tmps.getD 39 undef, a.tmps.getD 40 undef, a.tmps.getD 41 undef, a.tmps.getD 42 undef, a.tmps.getD 43 undef, a.tmps.getD 44 undef, a.tmps.getD 45 undef, a.tmps.getD 46 undef, a.tmps.getD 47 undef, a.tmps.getD 48 undef, a.tmps.getD 49 undef, a.tmps.getD 50 undef, a.tmps.getD 51 undef, a.tmps.getD 52 undef, a.tmps.getD 53 undef, a.tmps.getD 54 undef, a.tmps.getD 55 undef, a.tmps.getD 56 undef, a.tmps.getD 57 undef, a.tmps.getD 58 undef, a.tmps.getD 59 undef, a.tmps.getD 60 undef, a.tmps.getD 61 undef, a.tmps.getD 62 undef, a.tmps.getD 63 undef, a.tmps.getD 64 undef, a.tmps.getD 65 undef, a.tmps.getD 66 undef, a.tmps.getD 67 undef, a.tmps.getD 68 undef, a.tmps.getD 69 undef, a.tmps.getD 70 undef, a.tmps.getD 71 undef, a.tmps.getD 72 undef, a.tmps.getD 73 undef, a.tmps.getD 74 undef, a.tmps.getD 75 undef, a.tmps.getD 76 undef, a.tmps.getD 77 undef, a.tmps.getD 78 undef, a.tmps.getD 79 undef, a.tmps.getD 80 undef, a.tmps.getD 81 undef, a.tmps.getD 82 undef, a.tmps.getD 83 undef, a.tmps.getD 84 undef, a.tmps.getD 85 undef, a.tmps.getD 86 undef, a.tmps.getD 87 undef, a.tmps.getD 88 undef, a.tmps.getD 89 undef, a.tmps.getD 90 undef, a.tmps.getD 91 undef, a.tmps.getD 92 undef, a.tmps.getD 93 undef, a.tmps.getD 94 undef, a.tmps.getD 95 undef, a.tmps.getD 96 undef, a.tmps.getD 97 undef, a.tmps.getD 98 undef, a.tmps.getD 99 undef, a.tmps.getD 100 undef, a.tmps.getD 101 undef, a.tmps.getD 102 undef, a.tmps.getD 103 undef, a.tmps.getD 104 undef, a.tmps.getD 105 undef, a.tmps.getD 106 undef, a.tmps.getD 107 undef, a.tmps.getD 108 undef, a.tmps.getD 109 undef, a.tmps.getD 110 undef, a.tmps.getD 111 undef, a.tmps.getD 112 undef, a.tmps.getD 113 undef, a.tmps.getD 114 undef, a.tmps.getD 115 undef, a.tmps.getD 116 undef, a.tmps.getD 117 undef, a.tmps.getD 118 undef, a.tmps.getD 119 undef, a.tmps.getD 120 undef, a.tmps.getD 121 undef, ⟨rfl, hid hS2⟩, frame_eq hF _ (by rfl) ⟨hF.get 0 _ rfl, hF.get 1 _ rfl, hF.get 2 _ rfl, hF.get 3 _ rfl, hF.get 4 _ rfl, hF.get 5 _ rfl, hF.get 6 _ rfl, hF.get 7 _ rfl, hF.get 8 _ rfl, hF.get 9 _ rfl, hF.get 10 _ rfl, hF.get 11 _ rfl, hF.get 12 _ rfl, hF.get 13 _ rfl, hF.get 14 _ rfl, hF.get 15 _ rfl, hF.any 16 (by decide), hF.any 17 (by decide), hF.any 18 (by decide), hF.any 19 (by decide), hF.any 20 (by decide), hF.any 21 (by decide), hF.any 22 (by decide), hF.any 23 (by decide), hF.any 24 (by decide), hF.any 25 (by decide), hF.any 26 (by decide), hF.any 27 (by decide), hF.any 28 (by decide), hF.any 29 (by decide), hF.any 30 (by decide), hF.any 31 (by decide), hF.any 32 (by decide), hF.any 33 (by decide), hF.any 34 (by decide), hF.any 35 (by decide), hF.any 36 (by decide), hF.any 37 (by decide), hF.any 38 (by decide), hF.any 39 (by decide), hF.any 40 (by decide), hF.any 41 (by decide), hF.any 42 (by decide), hF.any 43 (by decide), hF.any 44 (by decide), hF.any 45 (by decide), hF.any 46 (by decide), hF.any 47 (by decide), hF.any 48 (by decide), hF.any 49 (by decide), hF.any 50 (by decide), hF.any 51 (by decide), hF.any 52 (by decide), hF.any 53 (by decide), hF.any 54 (by decide), hF.any 55 (by decide), hF.any 56 (by decide), hF.any 57 (by decide), hF.any 58 (by decide), hF.any 59 (by decide), hF.any 60 (by decide), hF.any 61 (by decide), hF.any 62 (by decide), hF.any 63 (by decide), hF.any 64 (by decide), hF.any 65 (by decide), hF.any 66 (by decide), hF.any 67 (by decide), hF.any 68 (by decide), hF.any 69 (by decide), hF.any 70 (by decide), hF.any 71 (by decide), hF.any 72 (by decide), hF.any 73 (by decide), hF.any 74 (by decide), hF.any 75 (by decide), hF.any 76 (by decide), hF.any 77 (by decide), hF.any 78 (by decide), hF.any 79 (by decide), hF.any 80 (by decide), hF.any 81 (by decide), hF.any 82 (by decide), hF.any 83 (by decide), hF.any 84 (by decide), hF.any 85 (by decide), hF.any 86 (by decide), hF.any 87 (by decide), hF.any 88 (by decide), hF.any 89 (by decide), hF.any 90 (by decide), hF.any 91 (by decide), hF.any 92 (by decide), hF.any 93 (by decide), hF.any 94 (by decide), hF.any 95 (by decide), hF.any 96 (by decide), hF.any 97 (by decide), hF.any 98 (by decide), hF.any 99 (by decide), hF.any 100 (by decide), hF.any 101 (by decide), hF.any 102 (by decide), hF.any 103 (by decide), hF.any 104 (by decide), hF.any 105 (by decide), hF.any 106 (by decide), hF.any 107 (by decide), hF.any 108 (by decide), hF.any 109 (by decide), hF.any 110 (by decide), hF.any 111 (by decide), hF.any 112 (by decide), hF.any 113 (by decide), hF.any 114 (by decide), hF.any 115 (by decide), hF.any 116 (by decide), hF.any 117 (by decide), hF.any 118 (by decide), hF.any 119 (by decide), hF.any 120 (by decide), hF.any 121 (by decide), trivial⟩⟩))
          case rest =>
            obtain ⟨rfl, hb⟩ := hcut
            have hBe := hid (hS.out.bel.drew.trans (hb.out.mono hS.out.hB))
            go_wp2_with fail
            go_ret
            exact ⟨rfl, hBe.out⟩
end
end Go.Proofs.Ytpmlhmficmillaa

namespace Go.Proofs.Ytpmlhmficmillaa
section
end
end Go.Proofs.Ytpmlhmficmillaa
