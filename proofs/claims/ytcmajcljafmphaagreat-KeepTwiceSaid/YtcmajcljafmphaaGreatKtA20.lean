/- A part of a slice, its head or its tail, reads as that part of the list. No condition.
Operations of a drawn region that make memory, one by one: a slice that is built, an append, a part of a slice. No condition.
The first test of the reference's Check, operation by operation. Conditions: numbers in their types. -/
import Derived.Test.YtcmajcljafmphaaGreatKtA05
import Derived.Test.YtcmajcljafmphaaGreatKtA13
import Derived.Test.YtcmajcljafmphaaGreatKtA19
namespace Go.Proofs.YtcmajcljafmphaaGreat
section
open Go.RowKit
set_option maxRecDepth 100000
set_option linter.unusedVariables false

theorem RowW.take {w : World} {k n c m : Nat} {a : Option Addr} {xs : List Value} (h : RowW w k (.slice a n c) n xs) (hm : m ≤ n) : RowW w k (.slice a m c) m (xs.take (m * k)) := by
  obtain ⟨hl, a', c', hv, h1, h2, h3, h4⟩ := h
  cases hv
  have hk := Nat.mul_le_mul_right k hm
  refine ⟨by rw [List.length_take, hl]; omega, a, c, rfl, Nat.le_trans hm h1, h2, h3, fun i u hu => ?_⟩
  refine h4 i u ?_
  have hi : i < m * k := by
    have := (List.getElem?_eq_some_iff.1 hu).1
    rw [List.length_take] at this
    omega
  rw [List.getElem?_take_of_lt hi] at hu
  exact hu
theorem RowW.drop {w : World} {k n c m : Nat} {a : Option Addr} {xs : List Value} (h : RowW w k (.slice a n c) n xs) (hm : m ≤ n) :
    RowW w k (.slice (if c = m then a else a.map (fun ad => ad.add (m * k))) (n - m) (c - m)) (n - m) (xs.drop (m * k)) := by
  obtain ⟨hl, a', c', hv, h1, h2, h3, h4⟩ := h
  cases hv
  refine ⟨by rw [List.length_drop, hl, Nat.sub_mul], _, _, rfl, by omega, by omega, fun h0 => ?_, fun i u hu => ?_⟩
  · cases a with
    | none => have := h3 rfl; omega
    | some ad => revert h0; split <;> simp
  · rw [List.getElem?_drop] at hu
    obtain ⟨b, o, ha, hc⟩ := h4 _ u hu
    have hi := (List.getElem?_eq_some_iff.1 hu).1
    have hne : ¬ c = m := fun he => by
      have : n = m := by omega
      subst this
      omega
    subst ha
    refine ⟨b, o + m * k, by rw [if_neg hne]; simp [add_plain'], ?_⟩
    rw [Nat.add_assoc]; exact hc
theorem nodsL_take (l : List Nod) (m : Nat) : (nodsL l).take (m * 12) = nodsL (l.take m) := by
  induction l generalizing m with
  | nil => simp [nodsL]
  | cons n l ih =>
    have h12 : n.cells.toList.length = 12 := by rw [nod_cells]; rfl
    cases m with
    | zero => rw [Nat.zero_mul]; rfl
    | succ m =>
      show (n.cells.toList ++ nodsL l).take _ = n.cells.toList ++ nodsL (l.take m)
      rw [List.take_append, h12, show (m + 1) * 12 - 12 = m * 12 by omega, ih, List.take_of_length_le (by omega)]
theorem nodsL_drop (l : List Nod) (m : Nat) : (nodsL l).drop (m * 12) = nodsL (l.drop m) := by
  induction l generalizing m with
  | nil => simp [nodsL]
  | cons n l ih =>
    have h12 : n.cells.toList.length = 12 := by rw [nod_cells]; rfl
    cases m with
    | zero => rw [Nat.zero_mul]; rfl
    | succ m =>
      show (n.cells.toList ++ nodsL l).drop _ = nodsL (l.drop m)
      rw [List.drop_append, h12, show (m + 1) * 12 - 12 = m * 12 by omega, ih, List.drop_of_length_le (by omega)]
      rfl
theorem NodsAt.take {w : World} {c m : Nat} {a : Option Addr} {l : List Nod} (h : NodsAt w (.slice a l.length c) l) (hm : m ≤ l.length) : RowW w 12 (.slice a m c) m (nodsL (l.take m)) := by
  rw [← nodsL_take]; exact RowW.take h hm
theorem NodsAt.drop {w : World} {c m : Nat} {a : Option Addr} {l : List Nod} (h : NodsAt w (.slice a l.length c) l) (hm : m ≤ l.length) :
    RowW w 12 (.slice (if c = m then a else a.map (fun ad => ad.add (m * 12))) (l.length - m) (c - m)) (l.length - m) (nodsL (l.drop m)) := by
  rw [← nodsL_drop]; exact RowW.drop h hm
end
end Go.Proofs.YtcmajcljafmphaaGreat

namespace Go.Proofs.YtcmajcljafmphaaGreat
section
open Go.RowKit
set_option maxRecDepth 100000
set_option linter.unusedVariables false

section
variable {P : Program} {ops : Array Oper} {Q : Exit → Act → World → Prop} {o : Oper} {a : Act} {w : World} {N : Nat} {fx : List (Nat × Value)}
theorem hdo {i : Nat} {K : Act → World → Prop} (hF : FrL N fx a) (d : Nat) (v : Value) (w' : World) (hi : ops[i]? = some o) (hd : o.dst = some d) (hN : d < N) (hw : Region.wanted o (yielded ops a.tmps) = true)
    (hrun : (execOp a.eval o).run P w = .ok (.value v) w') (hk : ∀ b, FrL N ((d, v) :: fx) b → K b w') : wpOp P ops Q i K a w := by
  unfold wpOp
  simp only [hi]
  rw [if_pos hw]
  refine .inl ?_
  unfold Oper.wp
  rw [hrun]
  show K (a.put o.dst v) w'
  rw [hd]
  exact hk _ (hF.put d v hN)
theorem hdo0 {i : Nat} {K : Act → World → Prop} (w' : World) (hi : ops[i]? = some o) (hd : o.dst = none) (hw : Region.wanted o (yielded ops a.tmps) = true)
    (hrun : (execOp a.eval o).run P w = .ok .skip w') (hk : K a w') : wpOp P ops Q i K a w := by
  unfold wpOp
  simp only [hi]
  rw [if_pos hw]
  refine .inl ?_
  unfold Oper.wp
  rw [hrun]
  show K (a.put o.dst undef) w'
  rw [hd]
  exact hk
theorem hcallx {S : World → Prop} {listed : Array Bool} {fuel i : Nat} {R : Value → World → Prop} (hF : FrL N fx a) (d : Nat) (hi : ops[i]? = some o) (hd : o.dst = some d) (hN : d < N) (hr : Region.ready .any ops listed = [i])
    (hw : Region.wanted o (yielded ops a.tmps) = true) (hrun : ∃ f args, (execOp a.eval o).run P w = .ok (.enter f args) w ∧ Calls P f args w fun e w' => ∃ v, e = .returned v ∧ R v w' ∧ S w')
    (hk : ∀ v b w', R v w' → FrL N ((d, v) :: fx) b → S w' → wpAnyH P .any ops Q S fuel (listed.setIfInBounds i true) b w') : wpAnyH P .any ops Q S (fuel + 1) listed a w := by
  refine wpAnyH_all (rs := [i]) hr (by simp) fun j hj => ?_
  obtain rfl : j = i := by simpa using hj
  unfold wpOp
  simp only [hi]
  rw [if_pos hw]
  refine .inl ?_
  obtain ⟨f, args, h1, h2⟩ := hrun
  unfold Oper.wp
  rw [h1]
  refine h2.mono ?_
  rintro e w' ⟨v, rfl, h3, h4⟩
  show S w' ∧ _
  rw [hd]
  exact ⟨h4, hk v _ _ h3 (hF.put d v hN) h4⟩
end
section
variable {o : Oper} {ev : Operand → Value} {w w' : World} {x y : Operand}
theorem rrun_append {t : TypeId} {u v r : Value} (ho : o.op = .call { callee := .builtin .append, args := #[x, y], argTypes := #[t, t] }) (hx : ev x = u) (hy : ev y = v) (hr : (Builtin.append_ #[t, t] o.type #[u, v]).run Tryz.prog w = .ok r w') : (execOp ev o).run Tryz.prog w = .ok (.value r) w' := by
  unfold execOp
  simp only [ho, resolve, invoke, builtin, Sem.run_bind, Sem.run_pure, Result.andThen_ok, List.map_toArray, List.map_cons, List.map_nil, hx, hy, hr]
theorem rrun_alloc {t : TypeId} {z : Value} (ho : o.op = .alloc t) (hz : (zeroValue t).run Tryz.prog w = .ok z w) : (execOp ev o).run Tryz.prog w = .ok (.value (.pointer (some ⟨w.heap.size, 0, none⟩))) (w.alloc (.cells z.cells t)) := by
  simp [execOp, ho, hz, go_sem]
theorem rrun_store {t T : TypeId} {g : Nat} {old cells : Array Value} (ho : o.op = .store t x y) (hx : ev x = .pointer (some ⟨g, 0, none⟩)) (hy : ev y = .agg cells) (hg : w.heap[g]? = some (.cells old T (0, 0))) (hi : (Tryz.prog.info? t).map (·.size) = some cells.size)
    (hold : old.size = cells.size) (h1 : cells.all (·.oneCell') = true) : (execOp ev o).run Tryz.prog w = .ok .skip (w.setRow g cells) := by
  unfold execOp
  simp only [ho, hx, hy, Instr.storeAt, Instr.sureAddr, Sem.run_bind, Sem.run_pure, Result.andThen_ok, run_storeVar_row w g T t old cells hg hi hold h1]
theorem rrun_ext {n : Nat} {vs : Array Value} {v : Value} (ho : o.op = .extract x n) (hx : ev x = .tuple vs) (hv : vs[n]? = some v) : (execOp ev o).run Tryz.prog w = .ok (.value v) w := by
  simp [execOp, ho, hx, hv, go_sem]
end
end
end Go.Proofs.YtcmajcljafmphaaGreat

namespace Go.Proofs.YtcmajcljafmphaaGreat
section
open Go.RowKit
set_option maxRecDepth 100000
set_option linter.unusedVariables false

structure ChS (B g b f x c : Nat) (l : List Nod) (w0 w : World) : Prop where
  bel : Below B w0 w
  box : w.heap[g]? = some (.cells #[.int .u64 (x : Int), .slice (some ⟨b, f, none⟩) l.length c] 49 (0, 0))
  row : NodsAt w (.slice (some ⟨b, f, none⟩) l.length c) l
  hB : B ≤ w.heap.size
theorem ChS.next {B g b f x c : Nat} {l : List Nod} {w0 w w' : World} (h : ChS B g b f x c l w0 w) (hb : Below w.heap.size w w') : ChS B g b f x c l w0 w' :=
  ⟨h.bel.trans (hb.mono h.hB), (hb.block _ (lt_of_block h.box)).trans h.box, h.row.below hb, Nat.le_trans h.hB hb.size⟩
theorem ChS.drew {B g b f x c : Nat} {l : List Nod} {w0 w : World} (h : ChS B g b f x c l w0 w) : ChS B g b f x c l w0 w.drew := h.next (Below.refl _ _).drew
theorem ChS.el {B g b f x c : Nat} {l : List Nod} {w0 w : World} (h : ChS B g b f x c l w0 w) (j : Nat) (m : Nod) (hm : l[j]? = some m) : w.rangeAt b (f + j * 12) m.cells.toList := by
  obtain ⟨hj, rfl⟩ := List.getElem?_eq_some_iff.1 hm
  obtain ⟨b', o', ha, hr⟩ := h.row.range j hj
  cases ha
  exact hr

noncomputable def ops_rc1 : Array Oper := match Tryz.f26.body with | some c => (allOps' c).getD 1 #[] | none => #[]
noncomputable def l_rc1 : List Oper := ops_rc1.toList
theorem len_rc1 : l_rc1.length = 43 := by kernel_rfl
set_option maxHeartbeats 4000000 in
theorem rc1_all {w0 : World} {B g b f x c : Nat} {l : List Nod} {n : Nod} (hl : l.length ≤ 9223372036854775807) (hn0 : l.length ≠ 0 → l[0]? = some n) (hn : l.length ≠ 0 → NodOk n)  {v0 v2 v3 v4 v5 v6 v7 : Value} {Q : Exit → Act → World → Prop} {a : Act} {w : World} (hF : FrL 100 [(1, ptr g 0), (0, v0), (2, v2), (3, v3), (4, v4), (5, v5), (6, v6), (7, v7)] a) (hS : (ChS B g b f x c l w0) w) (hE : ∀ a w', FrL 100 ((50, .bool ((((((decide (l.length = 0)) || (!decide (n.path = 1))) || (!(dirB n))) || (!decide (n.up = 1))) || n.gone) || (!decide (n.name = ⟨#[47]⟩)))) :: [(1, ptr g 0), (0, v0), (2, v2), (3, v3), (4, v4), (5, v5), (6, v6), (7, v7)]) a → (ChS B g b f x c l w0) w' → Q .normal a w') : wpList Tryz.prog ops_rc1 Q (l_rc1.drop 0) a w := by
  rw [List.drop_eq_getElem_cons (show 0 < l_rc1.length by rw [len_rc1]; decide)]
  refine st hF 8 (ptr g 1) (by kernel_rfl) (by decide) (by kernel_rfl) (rrun_fld (T := 49) (x := .tmp 1) (f := 1) (by kernel_rfl) (hF.ev 1 (ptr g 0) rfl) (by kernel_rfl)) (fun a hF => ?_)
  rw [List.drop_eq_getElem_cons (show 1 < l_rc1.length by rw [len_rc1]; decide)]
  refine st hF 9 (.slice (some ⟨b, f, none⟩) l.length c) (by kernel_rfl) (by decide) (by kernel_rfl) (rrun_load (ty := 47) (x := .tmp 8) (by kernel_rfl) (hF.ev 8 (ptr g 1) rfl) (rld_nods (block_cell hS.box 1))) (fun a hF => ?_)
  rw [List.drop_eq_getElem_cons (show 2 < l_rc1.length by rw [len_rc1]; decide)]
  refine st hF 10 (.int .i64 ((l.length : Nat) : Int)) (by kernel_rfl) (by decide) (by kernel_rfl) (rrun_len (t := 47) (x := .tmp 9) (by kernel_rfl) (hF.ev 9 (.slice (some ⟨b, f, none⟩) l.length c) rfl) (by kernel_rfl)) (fun a hF => ?_)
  rw [List.drop_eq_getElem_cons (show 3 < l_rc1.length by rw [len_rc1]; decide)]
  refine st hF 11 (.bool (decide (l.length = 0))) (by kernel_rfl) (by decide) (by kernel_rfl) (rrun_bin (op := .eql) (ty := 3) (ty2 := 3) (x := .tmp 10) (y := .const (.int .i64 0)) (u := .int .i64 ((l.length : Nat) : Int)) (v := .int .i64 ((0 : Nat) : Int)) (by kernel_rfl) (hF.ev 10 (.int .i64 ((l.length : Nat) : Int)) rfl) (rfl) (by kernel_rfl) (req_i64 _ _ w)) (fun a hF => ?_)
  rw [List.drop_eq_getElem_cons (show 4 < l_rc1.length by rw [len_rc1]; decide)]
  refine st hF 12 (.bool (decide (l.length = 0))) (by kernel_rfl) (by decide) (by kernel_rfl) (rrun_move (x := .tmp 11) (.inl (by kernel_rfl)) (hF.ev 11 (.bool (decide (l.length = 0))) rfl)) (fun a hF => ?_)
  rw [List.drop_eq_getElem_cons (show 5 < l_rc1.length by rw [len_rc1]; decide)]
  refine st_if hF 13 ((decide (l.length = 0)) == false) (ptr g 1) (by kernel_rfl) (by decide) (want_b (gi := 4) (g := 12) (c := (decide (l.length = 0))) hF (by kernel_rfl) (by kernel_rfl) rfl) (fun hW => rrun_fld (T := 49) (x := .tmp 1) (f := 1) (by kernel_rfl) (hF.ev 1 (ptr g 0) rfl) (by kernel_rfl)) (fun a hF => ?_)
  rw [List.drop_eq_getElem_cons (show 6 < l_rc1.length by rw [len_rc1]; decide)]
  refine st_if hF 14 ((decide (l.length = 0)) == false) (.slice (some ⟨b, f, none⟩) l.length c) (by kernel_rfl) (by decide) (want_b (gi := 4) (g := 12) (c := (decide (l.length = 0))) hF (by kernel_rfl) (by kernel_rfl) rfl) (fun hW => rrun_load (ty := 47) (x := .tmp 13) (by kernel_rfl) ((hF.ev 13 (cond ((decide (l.length = 0)) == false) (ptr g 1) undef) rfl).trans (cond_t hW)) (rld_nods (block_cell hS.box 1))) (fun a hF => ?_)
  rw [List.drop_eq_getElem_cons (show 7 < l_rc1.length by rw [len_rc1]; decide)]
  refine st_if hF 15 ((decide (l.length = 0)) == false) (ptr b (f + 0 * 12)) (by kernel_rfl) (by decide) (want_b (gi := 4) (g := 12) (c := (decide (l.length = 0))) hF (by kernel_rfl) (by kernel_rfl) rfl) (fun hW => rrun_idx 12 (ty := 47) (x := .tmp 14) (y := .const (.int .i64 0)) (by kernel_rfl) ((hF.ev 14 (cond ((decide (l.length = 0)) == false) (.slice (some ⟨b, f, none⟩) l.length c) undef) rfl).trans (cond_t hW)) (rfl) (Nat.pos_of_ne_zero (by rintro h0; revert hW; simp [h0])) (ridx_nod _ _ _ _ 0 (Nat.pos_of_ne_zero (by rintro h0; revert hW; simp [h0])) hl w)) (fun a hF => ?_)
  rw [List.drop_eq_getElem_cons (show 8 < l_rc1.length by rw [len_rc1]; decide)]
  refine st_if hF 16 ((decide (l.length = 0)) == false) (ptr b (f + 0 * 12)) (by kernel_rfl) (by decide) (want_b (gi := 4) (g := 12) (c := (decide (l.length = 0))) hF (by kernel_rfl) (by kernel_rfl) rfl) (fun hW => rrun_fld (T := 83) (x := .tmp 15) (f := 0) (by kernel_rfl) ((hF.ev 15 (cond ((decide (l.length = 0)) == false) (ptr b (f + 0 * 12)) undef) rfl).trans (cond_t hW)) (by kernel_rfl)) (fun a hF => ?_)
  rw [List.drop_eq_getElem_cons (show 9 < l_rc1.length by rw [len_rc1]; decide)]
  refine st_if hF 17 ((decide (l.length = 0)) == false) (.int .u64 ((n.path : Nat) : Int)) (by kernel_rfl) (by decide) (want_b (gi := 4) (g := 12) (c := (decide (l.length = 0))) hF (by kernel_rfl) (by kernel_rfl) rfl) (fun hW => rrun_load (ty := 30) (x := .tmp 16) (by kernel_rfl) ((hF.ev 16 (cond ((decide (l.length = 0)) == false) (ptr b (f + 0 * 12)) undef) rfl).trans (cond_t hW)) (rld_u64 (p := ⟨b, f + 0 * 12, none⟩) (hS.el 0 n (hn0 (by rintro h0; revert hW; simp [h0])) 0 (.int .u64 ((n.path : Nat) : Int)) (by rw [nod_cells]; rfl)))) (fun a hF => ?_)
  rw [List.drop_eq_getElem_cons (show 10 < l_rc1.length by rw [len_rc1]; decide)]
  refine st_if hF 18 ((decide (l.length = 0)) == false) (.bool (!decide (n.path = 1))) (by kernel_rfl) (by decide) (want_b (gi := 4) (g := 12) (c := (decide (l.length = 0))) hF (by kernel_rfl) (by kernel_rfl) rfl) (fun hW => rrun_bin (op := .neq) (ty := 30) (ty2 := 30) (x := .tmp 17) (y := .const (.int .u64 1)) (u := .int .u64 ((n.path : Nat) : Int)) (v := .int .u64 ((1 : Nat) : Int)) (by kernel_rfl) ((hF.ev 17 (cond ((decide (l.length = 0)) == false) (.int .u64 ((n.path : Nat) : Int)) undef) rfl).trans (cond_t hW)) (rfl) (by kernel_rfl) (rne_u64 _ _ w)) (fun a hF => ?_)
  rw [List.drop_eq_getElem_cons (show 11 < l_rc1.length by rw [len_rc1]; decide)]
  refine st hF 19 (.bool ((decide (l.length = 0)) || (!decide (n.path = 1)))) (by kernel_rfl) (by decide) (by kernel_rfl) (rrun_or (y := .const (.bool true)) (x := .tmp 12) (b := (decide (l.length = 0))) (b' := (!decide (n.path = 1))) (by kernel_rfl) (hF.ev 12 _ rfl) rfl (hF.ev 18 (cond ((decide (l.length = 0)) == false) (.bool (!decide (n.path = 1))) undef) rfl)) (fun a hF => ?_)
  rw [List.drop_eq_getElem_cons (show 12 < l_rc1.length by rw [len_rc1]; decide)]
  refine st hF 20 (.bool ((decide (l.length = 0)) || (!decide (n.path = 1)))) (by kernel_rfl) (by decide) (by kernel_rfl) (rrun_move (x := .tmp 19) (.inl (by kernel_rfl)) (hF.ev 19 (.bool ((decide (l.length = 0)) || (!decide (n.path = 1)))) rfl)) (fun a hF => ?_)
  rw [List.drop_eq_getElem_cons (show 13 < l_rc1.length by rw [len_rc1]; decide)]
  refine st_if hF 21 (((decide (l.length = 0)) || (!decide (n.path = 1))) == false) (ptr g 1) (by kernel_rfl) (by decide) (want_b (gi := 12) (g := 20) (c := ((decide (l.length = 0)) || (!decide (n.path = 1)))) hF (by kernel_rfl) (by kernel_rfl) rfl) (fun hW => rrun_fld (T := 49) (x := .tmp 1) (f := 1) (by kernel_rfl) (hF.ev 1 (ptr g 0) rfl) (by kernel_rfl)) (fun a hF => ?_)
  rw [List.drop_eq_getElem_cons (show 14 < l_rc1.length by rw [len_rc1]; decide)]
  refine st_if hF 22 (((decide (l.length = 0)) || (!decide (n.path = 1))) == false) (.slice (some ⟨b, f, none⟩) l.length c) (by kernel_rfl) (by decide) (want_b (gi := 12) (g := 20) (c := ((decide (l.length = 0)) || (!decide (n.path = 1)))) hF (by kernel_rfl) (by kernel_rfl) rfl) (fun hW => rrun_load (ty := 47) (x := .tmp 21) (by kernel_rfl) ((hF.ev 21 (cond (((decide (l.length = 0)) || (!decide (n.path = 1))) == false) (ptr g 1) undef) rfl).trans (cond_t hW)) (rld_nods (block_cell hS.box 1))) (fun a hF => ?_)
  rw [List.drop_eq_getElem_cons (show 15 < l_rc1.length by rw [len_rc1]; decide)]
  refine st_if hF 23 (((decide (l.length = 0)) || (!decide (n.path = 1))) == false) (ptr b (f + 0 * 12)) (by kernel_rfl) (by decide) (want_b (gi := 12) (g := 20) (c := ((decide (l.length = 0)) || (!decide (n.path = 1)))) hF (by kernel_rfl) (by kernel_rfl) rfl) (fun hW => rrun_idx 12 (ty := 47) (x := .tmp 22) (y := .const (.int .i64 0)) (by kernel_rfl) ((hF.ev 22 (cond (((decide (l.length = 0)) || (!decide (n.path = 1))) == false) (.slice (some ⟨b, f, none⟩) l.length c) undef) rfl).trans (cond_t hW)) (rfl) (Nat.pos_of_ne_zero (by rintro h0; revert hW; simp [h0])) (ridx_nod _ _ _ _ 0 (Nat.pos_of_ne_zero (by rintro h0; revert hW; simp [h0])) hl w)) (fun a hF => ?_)
  rw [List.drop_eq_getElem_cons (show 16 < l_rc1.length by rw [len_rc1]; decide)]
  refine st_if hF 24 (((decide (l.length = 0)) || (!decide (n.path = 1))) == false) (.agg n.cells) (by kernel_rfl) (by decide) (want_b (gi := 12) (g := 20) (c := ((decide (l.length = 0)) || (!decide (n.path = 1)))) hF (by kernel_rfl) (by kernel_rfl) rfl) (fun hW => rrun_load (ty := 83) (x := .tmp 23) (by kernel_rfl) ((hF.ev 23 (cond (((decide (l.length = 0)) || (!decide (n.path = 1))) == false) (ptr b (f + 0 * 12)) undef) rfl).trans (cond_t hW)) (rld_node (hS.el 0 n (hn0 (by rintro h0; revert hW; simp [h0]))))) (fun a hF => ?_)
  rw [List.drop_eq_getElem_cons (show 17 < l_rc1.length by rw [len_rc1]; decide)]
  refine stcall hF 25 (((decide (l.length = 0)) || (!decide (n.path = 1))) == false) (.bool (dirB n)) (by kernel_rfl) (by decide) (want_b (gi := 12) (g := 20) (c := ((decide (l.length = 0)) || (!decide (n.path = 1)))) hF (by kernel_rfl) (by kernel_rfl) rfl) (fun hW => ⟨46, #[.agg n.cells], rrun_call1 (fn := 46) (t := 83) rfl (by kernel_rfl) (by kernel_rfl) ((hF.ev 24 (cond (((decide (l.length = 0)) || (!decide (n.path = 1))) == false) (.agg n.cells) undef) rfl).trans (cond_t hW)), (rdir_any n w (hn (by rintro h0; revert hW; simp [h0]))).mono (by rintro e w' ⟨rfl, hb⟩; exact ⟨rfl, hS.next hb⟩)⟩) hS (fun a w hF hS => ?_)
  rw [List.drop_eq_getElem_cons (show 18 < l_rc1.length by rw [len_rc1]; decide)]
  refine st_if hF 26 (((decide (l.length = 0)) || (!decide (n.path = 1))) == false) (.bool (!(dirB n))) (by kernel_rfl) (by decide) (want_b (gi := 12) (g := 20) (c := ((decide (l.length = 0)) || (!decide (n.path = 1)))) hF (by kernel_rfl) (by kernel_rfl) rfl) (fun hW => rrun_not (ty := 4) (x := .tmp 25) (by kernel_rfl) ((hF.ev 25 (cond (((decide (l.length = 0)) || (!decide (n.path = 1))) == false) (.bool (dirB n)) undef) rfl).trans (cond_t hW))) (fun a hF => ?_)
  rw [List.drop_eq_getElem_cons (show 19 < l_rc1.length by rw [len_rc1]; decide)]
  refine st hF 27 (.bool (((decide (l.length = 0)) || (!decide (n.path = 1))) || (!(dirB n)))) (by kernel_rfl) (by decide) (by kernel_rfl) (rrun_or (y := .const (.bool true)) (x := .tmp 20) (b := ((decide (l.length = 0)) || (!decide (n.path = 1)))) (b' := (!(dirB n))) (by kernel_rfl) (hF.ev 20 _ rfl) rfl (hF.ev 26 (cond (((decide (l.length = 0)) || (!decide (n.path = 1))) == false) (.bool (!(dirB n))) undef) rfl)) (fun a hF => ?_)
  rw [List.drop_eq_getElem_cons (show 20 < l_rc1.length by rw [len_rc1]; decide)]
  refine st hF 28 (.bool (((decide (l.length = 0)) || (!decide (n.path = 1))) || (!(dirB n)))) (by kernel_rfl) (by decide) (by kernel_rfl) (rrun_move (x := .tmp 27) (.inl (by kernel_rfl)) (hF.ev 27 (.bool (((decide (l.length = 0)) || (!decide (n.path = 1))) || (!(dirB n)))) rfl)) (fun a hF => ?_)
  rw [List.drop_eq_getElem_cons (show 21 < l_rc1.length by rw [len_rc1]; decide)]
  refine st_if hF 29 ((((decide (l.length = 0)) || (!decide (n.path = 1))) || (!(dirB n))) == false) (ptr g 1) (by kernel_rfl) (by decide) (want_b (gi := 20) (g := 28) (c := (((decide (l.length = 0)) || (!decide (n.path = 1))) || (!(dirB n)))) hF (by kernel_rfl) (by kernel_rfl) rfl) (fun hW => rrun_fld (T := 49) (x := .tmp 1) (f := 1) (by kernel_rfl) (hF.ev 1 (ptr g 0) rfl) (by kernel_rfl)) (fun a hF => ?_)
  rw [List.drop_eq_getElem_cons (show 22 < l_rc1.length by rw [len_rc1]; decide)]
  refine st_if hF 30 ((((decide (l.length = 0)) || (!decide (n.path = 1))) || (!(dirB n))) == false) (.slice (some ⟨b, f, none⟩) l.length c) (by kernel_rfl) (by decide) (want_b (gi := 20) (g := 28) (c := (((decide (l.length = 0)) || (!decide (n.path = 1))) || (!(dirB n)))) hF (by kernel_rfl) (by kernel_rfl) rfl) (fun hW => rrun_load (ty := 47) (x := .tmp 29) (by kernel_rfl) ((hF.ev 29 (cond ((((decide (l.length = 0)) || (!decide (n.path = 1))) || (!(dirB n))) == false) (ptr g 1) undef) rfl).trans (cond_t hW)) (rld_nods (block_cell hS.box 1))) (fun a hF => ?_)
  rw [List.drop_eq_getElem_cons (show 23 < l_rc1.length by rw [len_rc1]; decide)]
  refine st_if hF 31 ((((decide (l.length = 0)) || (!decide (n.path = 1))) || (!(dirB n))) == false) (ptr b (f + 0 * 12)) (by kernel_rfl) (by decide) (want_b (gi := 20) (g := 28) (c := (((decide (l.length = 0)) || (!decide (n.path = 1))) || (!(dirB n)))) hF (by kernel_rfl) (by kernel_rfl) rfl) (fun hW => rrun_idx 12 (ty := 47) (x := .tmp 30) (y := .const (.int .i64 0)) (by kernel_rfl) ((hF.ev 30 (cond ((((decide (l.length = 0)) || (!decide (n.path = 1))) || (!(dirB n))) == false) (.slice (some ⟨b, f, none⟩) l.length c) undef) rfl).trans (cond_t hW)) (rfl) (Nat.pos_of_ne_zero (by rintro h0; revert hW; simp [h0])) (ridx_nod _ _ _ _ 0 (Nat.pos_of_ne_zero (by rintro h0; revert hW; simp [h0])) hl w)) (fun a hF => ?_)
  rw [List.drop_eq_getElem_cons (show 24 < l_rc1.length by rw [len_rc1]; decide)]
  refine st_if hF 32 ((((decide (l.length = 0)) || (!decide (n.path = 1))) || (!(dirB n))) == false) (ptr b (f + 0 * 12 + 9)) (by kernel_rfl) (by decide) (want_b (gi := 20) (g := 28) (c := (((decide (l.length = 0)) || (!decide (n.path = 1))) || (!(dirB n)))) hF (by kernel_rfl) (by kernel_rfl) rfl) (fun hW => rrun_fld (T := 83) (x := .tmp 31) (f := 9) (by kernel_rfl) ((hF.ev 31 (cond ((((decide (l.length = 0)) || (!decide (n.path = 1))) || (!(dirB n))) == false) (ptr b (f + 0 * 12)) undef) rfl).trans (cond_t hW)) (by kernel_rfl)) (fun a hF => ?_)
  rw [List.drop_eq_getElem_cons (show 25 < l_rc1.length by rw [len_rc1]; decide)]
  refine st_if hF 33 ((((decide (l.length = 0)) || (!decide (n.path = 1))) || (!(dirB n))) == false) (.int .u64 ((n.up : Nat) : Int)) (by kernel_rfl) (by decide) (want_b (gi := 20) (g := 28) (c := (((decide (l.length = 0)) || (!decide (n.path = 1))) || (!(dirB n)))) hF (by kernel_rfl) (by kernel_rfl) rfl) (fun hW => rrun_load (ty := 30) (x := .tmp 32) (by kernel_rfl) ((hF.ev 32 (cond ((((decide (l.length = 0)) || (!decide (n.path = 1))) || (!(dirB n))) == false) (ptr b (f + 0 * 12 + 9)) undef) rfl).trans (cond_t hW)) (rld_u64 (p := ⟨b, f + 0 * 12 + 9, none⟩) (hS.el 0 n (hn0 (by rintro h0; revert hW; simp [h0])) 9 (.int .u64 ((n.up : Nat) : Int)) (by rw [nod_cells]; rfl)))) (fun a hF => ?_)
  rw [List.drop_eq_getElem_cons (show 26 < l_rc1.length by rw [len_rc1]; decide)]
  refine st_if hF 34 ((((decide (l.length = 0)) || (!decide (n.path = 1))) || (!(dirB n))) == false) (.bool (!decide (n.up = 1))) (by kernel_rfl) (by decide) (want_b (gi := 20) (g := 28) (c := (((decide (l.length = 0)) || (!decide (n.path = 1))) || (!(dirB n)))) hF (by kernel_rfl) (by kernel_rfl) rfl) (fun hW => rrun_bin (op := .neq) (ty := 30) (ty2 := 30) (x := .tmp 33) (y := .const (.int .u64 1)) (u := .int .u64 ((n.up : Nat) : Int)) (v := .int .u64 ((1 : Nat) : Int)) (by kernel_rfl) ((hF.ev 33 (cond ((((decide (l.length = 0)) || (!decide (n.path = 1))) || (!(dirB n))) == false) (.int .u64 ((n.up : Nat) : Int)) undef) rfl).trans (cond_t hW)) (rfl) (by kernel_rfl) (rne_u64 _ _ w)) (fun a hF => ?_)
  rw [List.drop_eq_getElem_cons (show 27 < l_rc1.length by rw [len_rc1]; decide)]
  refine st hF 35 (.bool ((((decide (l.length = 0)) || (!decide (n.path = 1))) || (!(dirB n))) || (!decide (n.up = 1)))) (by kernel_rfl) (by decide) (by kernel_rfl) (rrun_or (y := .const (.bool true)) (x := .tmp 28) (b := (((decide (l.length = 0)) || (!decide (n.path = 1))) || (!(dirB n)))) (b' := (!decide (n.up = 1))) (by kernel_rfl) (hF.ev 28 _ rfl) rfl (hF.ev 34 (cond ((((decide (l.length = 0)) || (!decide (n.path = 1))) || (!(dirB n))) == false) (.bool (!decide (n.up = 1))) undef) rfl)) (fun a hF => ?_)
  rw [List.drop_eq_getElem_cons (show 28 < l_rc1.length by rw [len_rc1]; decide)]
  refine st hF 36 (.bool ((((decide (l.length = 0)) || (!decide (n.path = 1))) || (!(dirB n))) || (!decide (n.up = 1)))) (by kernel_rfl) (by decide) (by kernel_rfl) (rrun_move (x := .tmp 35) (.inl (by kernel_rfl)) (hF.ev 35 (.bool ((((decide (l.length = 0)) || (!decide (n.path = 1))) || (!(dirB n))) || (!decide (n.up = 1)))) rfl)) (fun a hF => ?_)
  rw [List.drop_eq_getElem_cons (show 29 < l_rc1.length by rw [len_rc1]; decide)]
  refine st_if hF 37 (((((decide (l.length = 0)) || (!decide (n.path = 1))) || (!(dirB n))) || (!decide (n.up = 1))) == false) (ptr g 1) (by kernel_rfl) (by decide) (want_b (gi := 28) (g := 36) (c := ((((decide (l.length = 0)) || (!decide (n.path = 1))) || (!(dirB n))) || (!decide (n.up = 1)))) hF (by kernel_rfl) (by kernel_rfl) rfl) (fun hW => rrun_fld (T := 49) (x := .tmp 1) (f := 1) (by kernel_rfl) (hF.ev 1 (ptr g 0) rfl) (by kernel_rfl)) (fun a hF => ?_)
  rw [List.drop_eq_getElem_cons (show 30 < l_rc1.length by rw [len_rc1]; decide)]
  refine st_if hF 38 (((((decide (l.length = 0)) || (!decide (n.path = 1))) || (!(dirB n))) || (!decide (n.up = 1))) == false) (.slice (some ⟨b, f, none⟩) l.length c) (by kernel_rfl) (by decide) (want_b (gi := 28) (g := 36) (c := ((((decide (l.length = 0)) || (!decide (n.path = 1))) || (!(dirB n))) || (!decide (n.up = 1)))) hF (by kernel_rfl) (by kernel_rfl) rfl) (fun hW => rrun_load (ty := 47) (x := .tmp 37) (by kernel_rfl) ((hF.ev 37 (cond (((((decide (l.length = 0)) || (!decide (n.path = 1))) || (!(dirB n))) || (!decide (n.up = 1))) == false) (ptr g 1) undef) rfl).trans (cond_t hW)) (rld_nods (block_cell hS.box 1))) (fun a hF => ?_)
  rw [List.drop_eq_getElem_cons (show 31 < l_rc1.length by rw [len_rc1]; decide)]
  refine st_if hF 39 (((((decide (l.length = 0)) || (!decide (n.path = 1))) || (!(dirB n))) || (!decide (n.up = 1))) == false) (ptr b (f + 0 * 12)) (by kernel_rfl) (by decide) (want_b (gi := 28) (g := 36) (c := ((((decide (l.length = 0)) || (!decide (n.path = 1))) || (!(dirB n))) || (!decide (n.up = 1)))) hF (by kernel_rfl) (by kernel_rfl) rfl) (fun hW => rrun_idx 12 (ty := 47) (x := .tmp 38) (y := .const (.int .i64 0)) (by kernel_rfl) ((hF.ev 38 (cond (((((decide (l.length = 0)) || (!decide (n.path = 1))) || (!(dirB n))) || (!decide (n.up = 1))) == false) (.slice (some ⟨b, f, none⟩) l.length c) undef) rfl).trans (cond_t hW)) (rfl) (Nat.pos_of_ne_zero (by rintro h0; revert hW; simp [h0])) (ridx_nod _ _ _ _ 0 (Nat.pos_of_ne_zero (by rintro h0; revert hW; simp [h0])) hl w)) (fun a hF => ?_)
  rw [List.drop_eq_getElem_cons (show 32 < l_rc1.length by rw [len_rc1]; decide)]
  refine st_if hF 40 (((((decide (l.length = 0)) || (!decide (n.path = 1))) || (!(dirB n))) || (!decide (n.up = 1))) == false) (ptr b (f + 0 * 12 + 10)) (by kernel_rfl) (by decide) (want_b (gi := 28) (g := 36) (c := ((((decide (l.length = 0)) || (!decide (n.path = 1))) || (!(dirB n))) || (!decide (n.up = 1)))) hF (by kernel_rfl) (by kernel_rfl) rfl) (fun hW => rrun_fld (T := 83) (x := .tmp 39) (f := 10) (by kernel_rfl) ((hF.ev 39 (cond (((((decide (l.length = 0)) || (!decide (n.path = 1))) || (!(dirB n))) || (!decide (n.up = 1))) == false) (ptr b (f + 0 * 12)) undef) rfl).trans (cond_t hW)) (by kernel_rfl)) (fun a hF => ?_)
  rw [List.drop_eq_getElem_cons (show 33 < l_rc1.length by rw [len_rc1]; decide)]
  refine st_if hF 41 (((((decide (l.length = 0)) || (!decide (n.path = 1))) || (!(dirB n))) || (!decide (n.up = 1))) == false) (.bool n.gone) (by kernel_rfl) (by decide) (want_b (gi := 28) (g := 36) (c := ((((decide (l.length = 0)) || (!decide (n.path = 1))) || (!(dirB n))) || (!decide (n.up = 1)))) hF (by kernel_rfl) (by kernel_rfl) rfl) (fun hW => rrun_load (ty := 4) (x := .tmp 40) (by kernel_rfl) ((hF.ev 40 (cond (((((decide (l.length = 0)) || (!decide (n.path = 1))) || (!(dirB n))) || (!decide (n.up = 1))) == false) (ptr b (f + 0 * 12 + 10)) undef) rfl).trans (cond_t hW)) (rld_bool (p := ⟨b, f + 0 * 12 + 10, none⟩) (hS.el 0 n (hn0 (by rintro h0; revert hW; simp [h0])) 10 (.bool n.gone) (by rw [nod_cells]; rfl)))) (fun a hF => ?_)
  rw [List.drop_eq_getElem_cons (show 34 < l_rc1.length by rw [len_rc1]; decide)]
  refine st hF 42 (.bool (((((decide (l.length = 0)) || (!decide (n.path = 1))) || (!(dirB n))) || (!decide (n.up = 1))) || n.gone)) (by kernel_rfl) (by decide) (by kernel_rfl) (rrun_or (y := .const (.bool true)) (x := .tmp 36) (b := ((((decide (l.length = 0)) || (!decide (n.path = 1))) || (!(dirB n))) || (!decide (n.up = 1)))) (b' := n.gone) (by kernel_rfl) (hF.ev 36 _ rfl) rfl (hF.ev 41 (cond (((((decide (l.length = 0)) || (!decide (n.path = 1))) || (!(dirB n))) || (!decide (n.up = 1))) == false) (.bool n.gone) undef) rfl)) (fun a hF => ?_)
  rw [List.drop_eq_getElem_cons (show 35 < l_rc1.length by rw [len_rc1]; decide)]
  refine st hF 43 (.bool (((((decide (l.length = 0)) || (!decide (n.path = 1))) || (!(dirB n))) || (!decide (n.up = 1))) || n.gone)) (by kernel_rfl) (by decide) (by kernel_rfl) (rrun_move (x := .tmp 42) (.inl (by kernel_rfl)) (hF.ev 42 (.bool (((((decide (l.length = 0)) || (!decide (n.path = 1))) || (!(dirB n))) || (!decide (n.up = 1))) || n.gone)) rfl)) (fun a hF => ?_)
  rw [List.drop_eq_getElem_cons (show 36 < l_rc1.length by rw [len_rc1]; decide)]
  refine st_if hF 44 ((((((decide (l.length = 0)) || (!decide (n.path = 1))) || (!(dirB n))) || (!decide (n.up = 1))) || n.gone) == false) (ptr g 1) (by kernel_rfl) (by decide) (want_b (gi := 35) (g := 43) (c := (((((decide (l.length = 0)) || (!decide (n.path = 1))) || (!(dirB n))) || (!decide (n.up = 1))) || n.gone)) hF (by kernel_rfl) (by kernel_rfl) rfl) (fun hW => rrun_fld (T := 49) (x := .tmp 1) (f := 1) (by kernel_rfl) (hF.ev 1 (ptr g 0) rfl) (by kernel_rfl)) (fun a hF => ?_)
  rw [List.drop_eq_getElem_cons (show 37 < l_rc1.length by rw [len_rc1]; decide)]
  refine st_if hF 45 ((((((decide (l.length = 0)) || (!decide (n.path = 1))) || (!(dirB n))) || (!decide (n.up = 1))) || n.gone) == false) (.slice (some ⟨b, f, none⟩) l.length c) (by kernel_rfl) (by decide) (want_b (gi := 35) (g := 43) (c := (((((decide (l.length = 0)) || (!decide (n.path = 1))) || (!(dirB n))) || (!decide (n.up = 1))) || n.gone)) hF (by kernel_rfl) (by kernel_rfl) rfl) (fun hW => rrun_load (ty := 47) (x := .tmp 44) (by kernel_rfl) ((hF.ev 44 (cond ((((((decide (l.length = 0)) || (!decide (n.path = 1))) || (!(dirB n))) || (!decide (n.up = 1))) || n.gone) == false) (ptr g 1) undef) rfl).trans (cond_t hW)) (rld_nods (block_cell hS.box 1))) (fun a hF => ?_)
  rw [List.drop_eq_getElem_cons (show 38 < l_rc1.length by rw [len_rc1]; decide)]
  refine st_if hF 46 ((((((decide (l.length = 0)) || (!decide (n.path = 1))) || (!(dirB n))) || (!decide (n.up = 1))) || n.gone) == false) (ptr b (f + 0 * 12)) (by kernel_rfl) (by decide) (want_b (gi := 35) (g := 43) (c := (((((decide (l.length = 0)) || (!decide (n.path = 1))) || (!(dirB n))) || (!decide (n.up = 1))) || n.gone)) hF (by kernel_rfl) (by kernel_rfl) rfl) (fun hW => rrun_idx 12 (ty := 47) (x := .tmp 45) (y := .const (.int .i64 0)) (by kernel_rfl) ((hF.ev 45 (cond ((((((decide (l.length = 0)) || (!decide (n.path = 1))) || (!(dirB n))) || (!decide (n.up = 1))) || n.gone) == false) (.slice (some ⟨b, f, none⟩) l.length c) undef) rfl).trans (cond_t hW)) (rfl) (Nat.pos_of_ne_zero (by rintro h0; revert hW; simp [h0])) (ridx_nod _ _ _ _ 0 (Nat.pos_of_ne_zero (by rintro h0; revert hW; simp [h0])) hl w)) (fun a hF => ?_)
  rw [List.drop_eq_getElem_cons (show 39 < l_rc1.length by rw [len_rc1]; decide)]
  refine st_if hF 47 ((((((decide (l.length = 0)) || (!decide (n.path = 1))) || (!(dirB n))) || (!decide (n.up = 1))) || n.gone) == false) (ptr b (f + 0 * 12 + 5)) (by kernel_rfl) (by decide) (want_b (gi := 35) (g := 43) (c := (((((decide (l.length = 0)) || (!decide (n.path = 1))) || (!(dirB n))) || (!decide (n.up = 1))) || n.gone)) hF (by kernel_rfl) (by kernel_rfl) rfl) (fun hW => rrun_fld (T := 83) (x := .tmp 46) (f := 5) (by kernel_rfl) ((hF.ev 46 (cond ((((((decide (l.length = 0)) || (!decide (n.path = 1))) || (!(dirB n))) || (!decide (n.up = 1))) || n.gone) == false) (ptr b (f + 0 * 12)) undef) rfl).trans (cond_t hW)) (by kernel_rfl)) (fun a hF => ?_)
  rw [List.drop_eq_getElem_cons (show 40 < l_rc1.length by rw [len_rc1]; decide)]
  refine st_if hF 48 ((((((decide (l.length = 0)) || (!decide (n.path = 1))) || (!(dirB n))) || (!decide (n.up = 1))) || n.gone) == false) (.string n.name) (by kernel_rfl) (by decide) (want_b (gi := 35) (g := 43) (c := (((((decide (l.length = 0)) || (!decide (n.path = 1))) || (!(dirB n))) || (!decide (n.up = 1))) || n.gone)) hF (by kernel_rfl) (by kernel_rfl) rfl) (fun hW => rrun_load (ty := 9) (x := .tmp 47) (by kernel_rfl) ((hF.ev 47 (cond ((((((decide (l.length = 0)) || (!decide (n.path = 1))) || (!(dirB n))) || (!decide (n.up = 1))) || n.gone) == false) (ptr b (f + 0 * 12 + 5)) undef) rfl).trans (cond_t hW)) (rld_str (p := ⟨b, f + 0 * 12 + 5, none⟩) (hS.el 0 n (hn0 (by rintro h0; revert hW; simp [h0])) 5 (.string n.name) (by rw [nod_cells]; rfl)))) (fun a hF => ?_)
  rw [List.drop_eq_getElem_cons (show 41 < l_rc1.length by rw [len_rc1]; decide)]
  refine st_if hF 49 ((((((decide (l.length = 0)) || (!decide (n.path = 1))) || (!(dirB n))) || (!decide (n.up = 1))) || n.gone) == false) (.bool (!decide (n.name = ⟨#[47]⟩))) (by kernel_rfl) (by decide) (want_b (gi := 35) (g := 43) (c := (((((decide (l.length = 0)) || (!decide (n.path = 1))) || (!(dirB n))) || (!decide (n.up = 1))) || n.gone)) hF (by kernel_rfl) (by kernel_rfl) rfl) (fun hW => rrun_bin (op := .neq) (ty := 9) (ty2 := 9) (x := .tmp 48) (y := .const (.string ⟨#[47]⟩)) (u := .string n.name) (v := .string ⟨#[47]⟩) (by kernel_rfl) ((hF.ev 48 (cond ((((((decide (l.length = 0)) || (!decide (n.path = 1))) || (!(dirB n))) || (!decide (n.up = 1))) || n.gone) == false) (.string n.name) undef) rfl).trans (cond_t hW)) (rfl) (by kernel_rfl) (rne_str _ _ w)) (fun a hF => ?_)
  rw [List.drop_eq_getElem_cons (show 42 < l_rc1.length by rw [len_rc1]; decide)]
  refine st hF 50 (.bool ((((((decide (l.length = 0)) || (!decide (n.path = 1))) || (!(dirB n))) || (!decide (n.up = 1))) || n.gone) || (!decide (n.name = ⟨#[47]⟩)))) (by kernel_rfl) (by decide) (by kernel_rfl) (rrun_or (y := .const (.bool true)) (x := .tmp 43) (b := (((((decide (l.length = 0)) || (!decide (n.path = 1))) || (!(dirB n))) || (!decide (n.up = 1))) || n.gone)) (b' := (!decide (n.name = ⟨#[47]⟩))) (by kernel_rfl) (hF.ev 43 _ rfl) rfl (hF.ev 49 (cond ((((((decide (l.length = 0)) || (!decide (n.path = 1))) || (!(dirB n))) || (!decide (n.up = 1))) || n.gone) == false) (.bool (!decide (n.name = ⟨#[47]⟩))) undef) rfl)) (fun a hF => ?_)
  rw [show l_rc1.drop 43 = [] from by kernel_rfl]
  exact hE _ _ (hF.sub ((50, .bool ((((((decide (l.length = 0)) || (!decide (n.path = 1))) || (!(dirB n))) || (!decide (n.up = 1))) || n.gone) || (!decide (n.name = ⟨#[47]⟩)))) :: [(1, ptr g 0), (0, v0), (2, v2), (3, v3), (4, v4), (5, v5), (6, v6), (7, v7)]) ⟨rfl, rfl, rfl, rfl, rfl, rfl, rfl, rfl, rfl, trivial⟩) hS
noncomputable def ops_rc16 : Array Oper := match Tryz.f26.body with | some c => (allOps' c).getD 15 #[] | none => #[]
theorem size_rc16 : ops_rc16.size = 13 := by kernel_rfl
set_option maxHeartbeats 4000000 in
theorem rc16_all {w0 : World} {B g b f x c k : Nat} {l : List Nod} {n : Nod} {v0 v2 v3 v4 v8 v9 v10 v11 v12 v13 v14 v15 v16 v17 v18 v19 v20 v21 v22 v23 v24 v25 v26 v27 v28 v29 v30 v31 v32 v33 v34 v35 v36 v37 v38 v39 v40 v41 v42 v43 v44 v45 v46 v47 v48 v49 v50 v51 v52 v53 v54 v55 v56 v57 v58 v59 v60 v61 v62 v63 v64 v65 v66 v67 v68 v69 v70 : Value} {Q : Exit → Act → World → Prop} {a : Act} {w : World} (hl : l.length ≤ 900) (hkl : k < l.length) (hkn : l[k]? = some n)
    (hQ : ∀ d u c a w, Q (.panic c) (a.put d u) w → Q (.panic c) a w) (hF : FrL 100 [(1, ptr g 0), (5, .int .i64 ((k : Nat) : Int)), (0, v0), (2, v2), (3, v3), (4, v4), (8, v8), (9, v9), (10, v10), (11, v11), (12, v12), (13, v13), (14, v14), (15, v15), (16, v16), (17, v17), (18, v18), (19, v19), (20, v20), (21, v21), (22, v22), (23, v23), (24, v24), (25, v25), (26, v26), (27, v27), (28, v28), (29, v29), (30, v30), (31, v31), (32, v32), (33, v33), (34, v34), (35, v35), (36, v36), (37, v37), (38, v38), (39, v39), (40, v40), (41, v41), (42, v42), (43, v43), (44, v44), (45, v45), (46, v46), (47, v47), (48, v48), (49, v49), (50, v50), (51, v51), (52, v52), (53, v53), (54, v54), (55, v55), (56, v56), (57, v57), (58, v58), (59, v59), (60, v60), (61, v61), (62, v62), (63, v63), (64, v64), (65, v65), (66, v66), (67, v67), (68, v68), (69, v69), (70, v70)] a) (hS : ChS B g b f x c l w0 w) (hE : ∀ a w' r, FrL 100 ((7, .bool (wayL l (l.length + 1) n.path).isSome) :: (6, r) :: [(1, ptr g 0), (5, .int .i64 ((k : Nat) : Int)), (0, v0), (2, v2), (3, v3), (4, v4), (8, v8), (9, v9), (10, v10), (11, v11), (12, v12), (13, v13), (14, v14), (15, v15), (16, v16), (17, v17), (18, v18), (19, v19), (20, v20), (21, v21), (22, v22), (23, v23), (24, v24), (25, v25), (26, v26), (27, v27), (28, v28), (29, v29), (30, v30), (31, v31), (32, v32), (33, v33), (34, v34), (35, v35), (36, v36), (37, v37), (38, v38), (39, v39), (40, v40), (41, v41), (42, v42), (43, v43), (44, v44), (45, v45), (46, v46), (47, v47), (48, v48), (49, v49), (50, v50), (51, v51), (52, v52), (53, v53), (54, v54), (55, v55), (56, v56), (57, v57), (58, v58), (59, v59), (60, v60), (61, v61), (62, v62), (63, v63), (64, v64), (65, v65), (66, v66), (67, v67), (68, v68), (69, v69), (70, v70)]) a → ChS B g b f x c l w0 w' → Q .normal a w') :
    wpAnyH Tryz.prog .any ops_rc16 Q (ChS B g b f x c l w0) 13 (Array.replicate 13 false) a w := by
  refine hst (i := 0) (o := ops_rc16[0]'(show 0 < ops_rc16.size by rw [size_rc16]; decide)) hF 79 true (.agg #[.int .u64 (x : Int), .slice (some ⟨b, f, none⟩) l.length c]) (Array.getElem?_eq_getElem (show 0 < ops_rc16.size by rw [size_rc16]; decide)) (by kernel_rfl) (by decide) (by kernel_rfl) (by kernel_rfl) (by kernel_rfl) (hQ _ _) (want_n (by kernel_rfl)) (fun hW w hS => rrun_load (ty := 49) (x := .tmp 1) (by kernel_rfl) (hF.ev 1 (ptr g 0) rfl) (rld_tree (block_cell hS.box 0) (block_cell hS.box 1))) hS (fun a hF => ?_)
  rw [show cond true (.agg #[.int .u64 (x : Int), .slice (some ⟨b, f, none⟩) l.length c]) undef = .agg #[.int .u64 (x : Int), .slice (some ⟨b, f, none⟩) l.length c] from rfl] at hF
  refine hst (i := 1) (o := ops_rc16[1]'(show 1 < ops_rc16.size by rw [size_rc16]; decide)) hF 80 true (ptr g 1) (Array.getElem?_eq_getElem (show 1 < ops_rc16.size by rw [size_rc16]; decide)) (by kernel_rfl) (by decide) (by kernel_rfl) (by kernel_rfl) (by kernel_rfl) (hQ _ _) (want_n (by kernel_rfl)) (fun hW w hS => rrun_fld (T := 49) (x := .tmp 1) (f := 1) (by kernel_rfl) (hF.ev 1 (ptr g 0) rfl) (by kernel_rfl)) hS (fun a hF => ?_)
  rw [show cond true (ptr g 1) undef = ptr g 1 from rfl] at hF
  refine hst (i := 2) (o := ops_rc16[2]'(show 2 < ops_rc16.size by rw [size_rc16]; decide)) hF 81 true (.slice (some ⟨b, f, none⟩) l.length c) (Array.getElem?_eq_getElem (show 2 < ops_rc16.size by rw [size_rc16]; decide)) (by kernel_rfl) (by decide) (by kernel_rfl) (by kernel_rfl) (by kernel_rfl) (hQ _ _) (want_n (by kernel_rfl)) (fun hW w hS => rrun_load (ty := 47) (x := .tmp 80) (by kernel_rfl) (hF.ev 80 (ptr g 1) rfl) (rld_nods (block_cell hS.box 1))) hS (fun a hF => ?_)
  rw [show cond true (.slice (some ⟨b, f, none⟩) l.length c) undef = .slice (some ⟨b, f, none⟩) l.length c from rfl] at hF
  refine hst (i := 3) (o := ops_rc16[3]'(show 3 < ops_rc16.size by rw [size_rc16]; decide)) hF 82 true (.int .i64 ((k : Nat) : Int)) (Array.getElem?_eq_getElem (show 3 < ops_rc16.size by rw [size_rc16]; decide)) (by kernel_rfl) (by decide) (by kernel_rfl) (by kernel_rfl) (by kernel_rfl) (hQ _ _) (want_n (by kernel_rfl)) (fun hW w hS => rrun_move (x := .tmp 5) (.inl (by kernel_rfl)) (hF.ev 5 (.int .i64 ((k : Nat) : Int)) rfl)) hS (fun a hF => ?_)
  rw [show cond true (.int .i64 ((k : Nat) : Int)) undef = .int .i64 ((k : Nat) : Int) from rfl] at hF
  refine hst (i := 4) (o := ops_rc16[4]'(show 4 < ops_rc16.size by rw [size_rc16]; decide)) hF 83 true (ptr b (f + k * 12)) (Array.getElem?_eq_getElem (show 4 < ops_rc16.size by rw [size_rc16]; decide)) (by kernel_rfl) (by decide) (by kernel_rfl) (by kernel_rfl) (by kernel_rfl) (hQ _ _) (want_n (by kernel_rfl)) (fun hW w hS => rrun_idx 12 (ty := 47) (x := .tmp 81) (y := .tmp 82) (by kernel_rfl) (hF.ev 81 (.slice (some ⟨b, f, none⟩) l.length c) rfl) (hF.ev 82 (.int .i64 ((k : Nat) : Int)) rfl) hkl (ridx_nod _ _ _ _ _ hkl (by omega) w)) hS (fun a hF => ?_)
  rw [show cond true (ptr b (f + k * 12)) undef = ptr b (f + k * 12) from rfl] at hF
  refine hst (i := 5) (o := ops_rc16[5]'(show 5 < ops_rc16.size by rw [size_rc16]; decide)) hF 84 true (ptr b (f + k * 12)) (Array.getElem?_eq_getElem (show 5 < ops_rc16.size by rw [size_rc16]; decide)) (by kernel_rfl) (by decide) (by kernel_rfl) (by kernel_rfl) (by kernel_rfl) (hQ _ _) (want_n (by kernel_rfl)) (fun hW w hS => rrun_fld (T := 83) (x := .tmp 83) (f := 0) (by kernel_rfl) (hF.ev 83 (ptr b (f + k * 12)) rfl) (by kernel_rfl)) hS (fun a hF => ?_)
  rw [show cond true (ptr b (f + k * 12)) undef = ptr b (f + k * 12) from rfl] at hF
  refine hst (i := 6) (o := ops_rc16[6]'(show 6 < ops_rc16.size by rw [size_rc16]; decide)) hF 85 true (.int .u64 ((n.path : Nat) : Int)) (Array.getElem?_eq_getElem (show 6 < ops_rc16.size by rw [size_rc16]; decide)) (by kernel_rfl) (by decide) (by kernel_rfl) (by kernel_rfl) (by kernel_rfl) (hQ _ _) (want_n (by kernel_rfl)) (fun hW w hS => rrun_load (ty := 30) (x := .tmp 84) (by kernel_rfl) (hF.ev 84 (ptr b (f + k * 12)) rfl) (rld_u64 (p := ⟨b, f + k * 12, none⟩) (hS.el k n hkn 0 (.int .u64 ((n.path : Nat) : Int)) (by rw [nod_cells]; rfl)))) hS (fun a hF => ?_)
  rw [show cond true (.int .u64 ((n.path : Nat) : Int)) undef = .int .u64 ((n.path : Nat) : Int) from rfl] at hF
  refine hcallx (i := 7) (o := ops_rc16[7]'(show 7 < ops_rc16.size by rw [size_rc16]; decide)) (R := fun v _ => ∃ r, v = .tuple #[r, .bool (wayL l (l.length + 1) n.path).isSome]) hF 86 (Array.getElem?_eq_getElem (show 7 < ops_rc16.size by rw [size_rc16]; decide)) (by kernel_rfl) (by decide) (by kernel_rfl) (want_n (by kernel_rfl)) ⟨49, #[.agg #[.int .u64 (x : Int), .slice (some ⟨b, f, none⟩) l.length c], .int .u64 ((n.path : Nat) : Int)], rrun_call2 (fn := 49) (t := 49) (u := 30) rfl (by kernel_rfl) (by kernel_rfl) (hF.ev 79 _ rfl) (hF.ev 85 _ rfl), (rway_any _ x l n.path w hS.row hl).mono (by rintro e w' ⟨⟨r, rfl⟩, hb⟩; exact ⟨_, rfl, ⟨r, rfl⟩, hS.next hb⟩)⟩ ?_
  rintro v a w ⟨r, rfl⟩ hF hS
  refine hst (i := 8) (o := ops_rc16[8]'(show 8 < ops_rc16.size by rw [size_rc16]; decide)) hF 78 true (.tuple #[r, .bool (wayL l (l.length + 1) n.path).isSome]) (Array.getElem?_eq_getElem (show 8 < ops_rc16.size by rw [size_rc16]; decide)) (by kernel_rfl) (by decide) (by kernel_rfl) (by kernel_rfl) (by kernel_rfl) (hQ _ _) (want_n (by kernel_rfl)) (fun hW w hS => rrun_move (x := .tmp 86) (.inl (by kernel_rfl)) (hF.ev 86 _ rfl)) hS (fun a hF => ?_)
  rw [show cond true (.tuple #[r, .bool (wayL l (l.length + 1) n.path).isSome]) undef = .tuple #[r, .bool (wayL l (l.length + 1) n.path).isSome] from rfl] at hF
  refine hst (i := 9) (o := ops_rc16[9]'(show 9 < ops_rc16.size by rw [size_rc16]; decide)) hF 87 true (r) (Array.getElem?_eq_getElem (show 9 < ops_rc16.size by rw [size_rc16]; decide)) (by kernel_rfl) (by decide) (by kernel_rfl) (by kernel_rfl) (by kernel_rfl) (hQ _ _) (want_n (by kernel_rfl)) (fun hW w hS => rrun_ext (x := .tmp 78) (n := 0) (by kernel_rfl) (hF.ev 78 _ rfl) rfl) hS (fun a hF => ?_)
  rw [show cond true (r) undef = r from rfl] at hF
  refine hst (i := 10) (o := ops_rc16[10]'(show 10 < ops_rc16.size by rw [size_rc16]; decide)) hF 88 true (.bool (wayL l (l.length + 1) n.path).isSome) (Array.getElem?_eq_getElem (show 10 < ops_rc16.size by rw [size_rc16]; decide)) (by kernel_rfl) (by decide) (by kernel_rfl) (by kernel_rfl) (by kernel_rfl) (hQ _ _) (want_n (by kernel_rfl)) (fun hW w hS => rrun_ext (x := .tmp 78) (n := 1) (by kernel_rfl) (hF.ev 78 _ rfl) rfl) hS (fun a hF => ?_)
  rw [show cond true (.bool (wayL l (l.length + 1) n.path).isSome) undef = .bool (wayL l (l.length + 1) n.path).isSome from rfl] at hF
  refine hst (i := 11) (o := ops_rc16[11]'(show 11 < ops_rc16.size by rw [size_rc16]; decide)) hF 6 true (r) (Array.getElem?_eq_getElem (show 11 < ops_rc16.size by rw [size_rc16]; decide)) (by kernel_rfl) (by decide) (by kernel_rfl) (by kernel_rfl) (by kernel_rfl) (hQ _ _) (want_n (by kernel_rfl)) (fun hW w hS => rrun_move (x := .tmp 87) (.inr (by kernel_rfl)) (hF.ev 87 _ rfl)) hS (fun a hF => ?_)
  rw [show cond true (r) undef = r from rfl] at hF
  refine hst (i := 12) (o := ops_rc16[12]'(show 12 < ops_rc16.size by rw [size_rc16]; decide)) hF 7 true (.bool (wayL l (l.length + 1) n.path).isSome) (Array.getElem?_eq_getElem (show 12 < ops_rc16.size by rw [size_rc16]; decide)) (by kernel_rfl) (by decide) (by kernel_rfl) (by kernel_rfl) (by kernel_rfl) (hQ _ _) (want_n (by kernel_rfl)) (fun hW w hS => rrun_move (x := .tmp 88) (.inr (by kernel_rfl)) (hF.ev 88 _ rfl)) hS (fun a hF => ?_)
  rw [show cond true (.bool (wayL l (l.length + 1) n.path).isSome) undef = .bool (wayL l (l.length + 1) n.path).isSome from rfl] at hF
  exact wpAnyH_done (by kernel_rfl) (hE _ _ _ (hF.sub ((7, .bool (wayL l (l.length + 1) n.path).isSome) :: (6, r) :: [(1, ptr g 0), (5, .int .i64 ((k : Nat) : Int)), (0, v0), (2, v2), (3, v3), (4, v4), (8, v8), (9, v9), (10, v10), (11, v11), (12, v12), (13, v13), (14, v14), (15, v15), (16, v16), (17, v17), (18, v18), (19, v19), (20, v20), (21, v21), (22, v22), (23, v23), (24, v24), (25, v25), (26, v26), (27, v27), (28, v28), (29, v29), (30, v30), (31, v31), (32, v32), (33, v33), (34, v34), (35, v35), (36, v36), (37, v37), (38, v38), (39, v39), (40, v40), (41, v41), (42, v42), (43, v43), (44, v44), (45, v45), (46, v46), (47, v47), (48, v48), (49, v49), (50, v50), (51, v51), (52, v52), (53, v53), (54, v54), (55, v55), (56, v56), (57, v57), (58, v58), (59, v59), (60, v60), (61, v61), (62, v62), (63, v63), (64, v64), (65, v65), (66, v66), (67, v67), (68, v68), (69, v69), (70, v70)]) ⟨rfl, rfl, rfl, rfl, rfl, rfl, rfl, rfl, rfl, rfl, rfl, rfl, rfl, rfl, rfl, rfl, rfl, rfl, rfl, rfl, rfl, rfl, rfl, rfl, rfl, rfl, rfl, rfl, rfl, rfl, rfl, rfl, rfl, rfl, rfl, rfl, rfl, rfl, rfl, rfl, rfl, rfl, rfl, rfl, rfl, rfl, rfl, rfl, rfl, rfl, rfl, rfl, rfl, rfl, rfl, rfl, rfl, rfl, rfl, rfl, rfl, rfl, rfl, rfl, rfl, rfl, rfl, rfl, rfl, rfl, rfl, trivial⟩) hS) _
end
end Go.Proofs.YtcmajcljafmphaaGreat
