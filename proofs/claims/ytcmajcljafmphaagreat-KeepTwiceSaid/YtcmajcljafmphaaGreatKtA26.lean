/- The first test of the program's Check, operation by operation. Conditions: numbers in their types.
The first region of the program's Stat, operation by operation. Conditions: numbers in their types. -/
import Derived.Test.YtcmajcljafmphaaGreatKtA25
import Derived.Test.YtcmajcljafmphaaGreatKtA06
import Derived.Test.YtcmajcljafmphaaGreatKtA23
namespace Go.Proofs.YtcmajcljafmphaaGreat
section
open Go.RowKit
set_option maxRecDepth 100000
set_option linter.unusedVariables false

theorem rld_nnode {b f : Nat} {n : Nod} {w : World} (h : w.rangeAt b f n.cells.toList) : (loadVar 68 ⟨b, f, none⟩).run Tryz.prog w = .ok (.agg n.cells) w := by
  have hl : (loadCells ⟨b, f, none⟩ 12).run Tryz.prog w = .ok n.cells w := by
    have := run_loadCells_list (P := Tryz.prog) (w := w) ⟨b, f, none⟩ n.cells.toList (fun j v hv => by rw [Addr.add_mid]; exact h j v hv)
    rw [show n.cells.toList.length = 12 by rw [nod_cells]; rfl] at this
    simpa using this
  obtain ⟨i0, hi0, hz0⟩ : ∃ i0, Tryz.prog.info? 68 = some i0 ∧ i0.size = 12 := ⟨_, rfl, rfl⟩
  have hagg : (isAgg 68).run Tryz.prog w = .ok true w := by kernel_rfl
  simp [loadVar, Sem.run_bind, hagg, sizeOf, typeInfo, hi0, hz0, hl]
theorem range_wholeP {w : World} {z : Nat} {cs : Array Value} {T : TypeId} {fr : Nat × Nat} (h : w.heap[z]? = some (.cells cs T fr)) : w.rangeAt z 0 cs.toList := fun j v hv => by
  rw [Nat.zero_add, block_cell h j]; simpa using hv

noncomputable def ops_pc4 : Array Oper := match Tryz.f16.body with | some c => (allOps' c).getD 4 #[] | none => #[]
noncomputable def l_pc4 : List Oper := ops_pc4.toList
theorem len_pc4 : l_pc4.length = 22 := by kernel_rfl
set_option maxHeartbeats 4000000 in
theorem pc4_all {w0 : World} {B g z b f x c : Nat} {l : List Nod} {n : Nod} (hn : NodOk n)  {v0 v1 v2 v4 v5 v6 v7 v8 v9 v42 v43 v53 v58 v63 v64 v65 : Value} {Q : Exit → Act → World → Prop} {a : Act} {w : World} (hF : FrL 88 [(3, ptr z 0), (0, v0), (1, v1), (2, v2), (4, v4), (5, v5), (6, v6), (7, v7), (8, v8), (9, v9), (42, v42), (43, v43), (53, v53), (58, v58), (63, v63), (64, v64), (65, v65)] a) (hS : (PwS B g z b f x c l n w0) w) (hE : ∀ a w', FrL 88 ((39, .bool (((((!decide (n.path = 1)) || (!(dirB n))) || (!decide (n.up = 1))) || n.gone) || (!decide (n.name = ⟨#[47]⟩)))) :: [(3, ptr z 0), (0, v0), (1, v1), (2, v2), (4, v4), (5, v5), (6, v6), (7, v7), (8, v8), (9, v9), (42, v42), (43, v43), (53, v53), (58, v58), (63, v63), (64, v64), (65, v65)]) a → (PwS B g z b f x c l n w0) w' → Q .normal a w') : wpList Tryz.prog ops_pc4 Q (l_pc4.drop 0) a w := by
  rw [List.drop_eq_getElem_cons (show 0 < l_pc4.length by rw [len_pc4]; decide)]
  refine st hF 18 (ptr z 0) (by kernel_rfl) (by decide) (by kernel_rfl) (rrun_fld (T := 68) (x := .tmp 3) (f := 0) (by kernel_rfl) (hF.ev 3 (ptr z 0) rfl) (by kernel_rfl)) (fun a hF => ?_)
  rw [List.drop_eq_getElem_cons (show 1 < l_pc4.length by rw [len_pc4]; decide)]
  refine st hF 19 (.int .u64 ((n.path : Nat) : Int)) (by kernel_rfl) (by decide) (by kernel_rfl) (rrun_load (ty := 30) (x := .tmp 18) (by kernel_rfl) (hF.ev 18 (ptr z 0) rfl) (rld_u64 (block_cell hS.nod 0))) (fun a hF => ?_)
  rw [List.drop_eq_getElem_cons (show 2 < l_pc4.length by rw [len_pc4]; decide)]
  refine st hF 20 (.bool (!decide (n.path = 1))) (by kernel_rfl) (by decide) (by kernel_rfl) (rrun_bin (op := .neq) (ty := 30) (ty2 := 30) (x := .tmp 19) (y := .const (.int .u64 1)) (u := .int .u64 ((n.path : Nat) : Int)) (v := .int .u64 ((1 : Nat) : Int)) (by kernel_rfl) (hF.ev 19 (.int .u64 ((n.path : Nat) : Int)) rfl) (rfl) (by kernel_rfl) (rne_u64 _ _ w)) (fun a hF => ?_)
  rw [List.drop_eq_getElem_cons (show 3 < l_pc4.length by rw [len_pc4]; decide)]
  refine st hF 21 (.bool (!decide (n.path = 1))) (by kernel_rfl) (by decide) (by kernel_rfl) (rrun_move (x := .tmp 20) (.inl (by kernel_rfl)) (hF.ev 20 (.bool (!decide (n.path = 1))) rfl)) (fun a hF => ?_)
  rw [List.drop_eq_getElem_cons (show 4 < l_pc4.length by rw [len_pc4]; decide)]
  refine st_if hF 22 ((!decide (n.path = 1)) == false) (.agg n.cells) (by kernel_rfl) (by decide) (want_b (gi := 3) (g := 21) (c := (!decide (n.path = 1))) hF (by kernel_rfl) (by kernel_rfl) rfl) (fun hW => rrun_load (ty := 68) (x := .tmp 3) (by kernel_rfl) (hF.ev 3 (ptr z 0) rfl) (rld_nnode (range_wholeP hS.nod))) (fun a hF => ?_)
  rw [List.drop_eq_getElem_cons (show 5 < l_pc4.length by rw [len_pc4]; decide)]
  refine stcall hF 23 ((!decide (n.path = 1)) == false) (.bool (dirB n)) (by kernel_rfl) (by decide) (want_b (gi := 3) (g := 21) (c := (!decide (n.path = 1))) hF (by kernel_rfl) (by kernel_rfl) rfl) (fun hW => ⟨35, #[.agg n.cells], rrun_call1 (fn := 35) (t := 68) rfl (by kernel_rfl) (by kernel_rfl) ((hF.ev 22 (cond ((!decide (n.path = 1)) == false) (.agg n.cells) undef) rfl).trans (cond_t hW)), (ndir_any n w hn).mono (by rintro e w' ⟨rfl, hb⟩; exact ⟨rfl, hS.next hb⟩)⟩) hS (fun a w hF hS => ?_)
  rw [List.drop_eq_getElem_cons (show 6 < l_pc4.length by rw [len_pc4]; decide)]
  refine st_if hF 24 ((!decide (n.path = 1)) == false) (.bool (!(dirB n))) (by kernel_rfl) (by decide) (want_b (gi := 3) (g := 21) (c := (!decide (n.path = 1))) hF (by kernel_rfl) (by kernel_rfl) rfl) (fun hW => rrun_not (ty := 4) (x := .tmp 23) (by kernel_rfl) ((hF.ev 23 (cond ((!decide (n.path = 1)) == false) (.bool (dirB n)) undef) rfl).trans (cond_t hW))) (fun a hF => ?_)
  rw [List.drop_eq_getElem_cons (show 7 < l_pc4.length by rw [len_pc4]; decide)]
  refine st hF 25 (.bool ((!decide (n.path = 1)) || (!(dirB n)))) (by kernel_rfl) (by decide) (by kernel_rfl) (rrun_or (y := .const (.bool true)) (x := .tmp 21) (b := (!decide (n.path = 1))) (b' := (!(dirB n))) (by kernel_rfl) (hF.ev 21 _ rfl) rfl (hF.ev 24 (cond ((!decide (n.path = 1)) == false) (.bool (!(dirB n))) undef) rfl)) (fun a hF => ?_)
  rw [List.drop_eq_getElem_cons (show 8 < l_pc4.length by rw [len_pc4]; decide)]
  refine st hF 26 (.bool ((!decide (n.path = 1)) || (!(dirB n)))) (by kernel_rfl) (by decide) (by kernel_rfl) (rrun_move (x := .tmp 25) (.inl (by kernel_rfl)) (hF.ev 25 (.bool ((!decide (n.path = 1)) || (!(dirB n)))) rfl)) (fun a hF => ?_)
  rw [List.drop_eq_getElem_cons (show 9 < l_pc4.length by rw [len_pc4]; decide)]
  refine st_if hF 27 (((!decide (n.path = 1)) || (!(dirB n))) == false) (ptr z 9) (by kernel_rfl) (by decide) (want_b (gi := 8) (g := 26) (c := ((!decide (n.path = 1)) || (!(dirB n)))) hF (by kernel_rfl) (by kernel_rfl) rfl) (fun hW => rrun_fld (T := 68) (x := .tmp 3) (f := 9) (by kernel_rfl) (hF.ev 3 (ptr z 0) rfl) (by kernel_rfl)) (fun a hF => ?_)
  rw [List.drop_eq_getElem_cons (show 10 < l_pc4.length by rw [len_pc4]; decide)]
  refine st_if hF 28 (((!decide (n.path = 1)) || (!(dirB n))) == false) (.int .u64 ((n.up : Nat) : Int)) (by kernel_rfl) (by decide) (want_b (gi := 8) (g := 26) (c := ((!decide (n.path = 1)) || (!(dirB n)))) hF (by kernel_rfl) (by kernel_rfl) rfl) (fun hW => rrun_load (ty := 30) (x := .tmp 27) (by kernel_rfl) ((hF.ev 27 (cond (((!decide (n.path = 1)) || (!(dirB n))) == false) (ptr z 9) undef) rfl).trans (cond_t hW)) (rld_u64 (block_cell hS.nod 9))) (fun a hF => ?_)
  rw [List.drop_eq_getElem_cons (show 11 < l_pc4.length by rw [len_pc4]; decide)]
  refine st_if hF 29 (((!decide (n.path = 1)) || (!(dirB n))) == false) (.bool (!decide (n.up = 1))) (by kernel_rfl) (by decide) (want_b (gi := 8) (g := 26) (c := ((!decide (n.path = 1)) || (!(dirB n)))) hF (by kernel_rfl) (by kernel_rfl) rfl) (fun hW => rrun_bin (op := .neq) (ty := 30) (ty2 := 30) (x := .tmp 28) (y := .const (.int .u64 1)) (u := .int .u64 ((n.up : Nat) : Int)) (v := .int .u64 ((1 : Nat) : Int)) (by kernel_rfl) ((hF.ev 28 (cond (((!decide (n.path = 1)) || (!(dirB n))) == false) (.int .u64 ((n.up : Nat) : Int)) undef) rfl).trans (cond_t hW)) (rfl) (by kernel_rfl) (rne_u64 _ _ w)) (fun a hF => ?_)
  rw [List.drop_eq_getElem_cons (show 12 < l_pc4.length by rw [len_pc4]; decide)]
  refine st hF 30 (.bool (((!decide (n.path = 1)) || (!(dirB n))) || (!decide (n.up = 1)))) (by kernel_rfl) (by decide) (by kernel_rfl) (rrun_or (y := .const (.bool true)) (x := .tmp 26) (b := ((!decide (n.path = 1)) || (!(dirB n)))) (b' := (!decide (n.up = 1))) (by kernel_rfl) (hF.ev 26 _ rfl) rfl (hF.ev 29 (cond (((!decide (n.path = 1)) || (!(dirB n))) == false) (.bool (!decide (n.up = 1))) undef) rfl)) (fun a hF => ?_)
  rw [List.drop_eq_getElem_cons (show 13 < l_pc4.length by rw [len_pc4]; decide)]
  refine st hF 31 (.bool (((!decide (n.path = 1)) || (!(dirB n))) || (!decide (n.up = 1)))) (by kernel_rfl) (by decide) (by kernel_rfl) (rrun_move (x := .tmp 30) (.inl (by kernel_rfl)) (hF.ev 30 (.bool (((!decide (n.path = 1)) || (!(dirB n))) || (!decide (n.up = 1)))) rfl)) (fun a hF => ?_)
  rw [List.drop_eq_getElem_cons (show 14 < l_pc4.length by rw [len_pc4]; decide)]
  refine st_if hF 32 ((((!decide (n.path = 1)) || (!(dirB n))) || (!decide (n.up = 1))) == false) (ptr z 10) (by kernel_rfl) (by decide) (want_b (gi := 13) (g := 31) (c := (((!decide (n.path = 1)) || (!(dirB n))) || (!decide (n.up = 1)))) hF (by kernel_rfl) (by kernel_rfl) rfl) (fun hW => rrun_fld (T := 68) (x := .tmp 3) (f := 10) (by kernel_rfl) (hF.ev 3 (ptr z 0) rfl) (by kernel_rfl)) (fun a hF => ?_)
  rw [List.drop_eq_getElem_cons (show 15 < l_pc4.length by rw [len_pc4]; decide)]
  refine st_if hF 33 ((((!decide (n.path = 1)) || (!(dirB n))) || (!decide (n.up = 1))) == false) (.bool n.gone) (by kernel_rfl) (by decide) (want_b (gi := 13) (g := 31) (c := (((!decide (n.path = 1)) || (!(dirB n))) || (!decide (n.up = 1)))) hF (by kernel_rfl) (by kernel_rfl) rfl) (fun hW => rrun_load (ty := 4) (x := .tmp 32) (by kernel_rfl) ((hF.ev 32 (cond ((((!decide (n.path = 1)) || (!(dirB n))) || (!decide (n.up = 1))) == false) (ptr z 10) undef) rfl).trans (cond_t hW)) (rld_bool (block_cell hS.nod 10))) (fun a hF => ?_)
  rw [List.drop_eq_getElem_cons (show 16 < l_pc4.length by rw [len_pc4]; decide)]
  refine st hF 34 (.bool ((((!decide (n.path = 1)) || (!(dirB n))) || (!decide (n.up = 1))) || n.gone)) (by kernel_rfl) (by decide) (by kernel_rfl) (rrun_or (y := .const (.bool true)) (x := .tmp 31) (b := (((!decide (n.path = 1)) || (!(dirB n))) || (!decide (n.up = 1)))) (b' := n.gone) (by kernel_rfl) (hF.ev 31 _ rfl) rfl (hF.ev 33 (cond ((((!decide (n.path = 1)) || (!(dirB n))) || (!decide (n.up = 1))) == false) (.bool n.gone) undef) rfl)) (fun a hF => ?_)
  rw [List.drop_eq_getElem_cons (show 17 < l_pc4.length by rw [len_pc4]; decide)]
  refine st hF 35 (.bool ((((!decide (n.path = 1)) || (!(dirB n))) || (!decide (n.up = 1))) || n.gone)) (by kernel_rfl) (by decide) (by kernel_rfl) (rrun_move (x := .tmp 34) (.inl (by kernel_rfl)) (hF.ev 34 (.bool ((((!decide (n.path = 1)) || (!(dirB n))) || (!decide (n.up = 1))) || n.gone)) rfl)) (fun a hF => ?_)
  rw [List.drop_eq_getElem_cons (show 18 < l_pc4.length by rw [len_pc4]; decide)]
  refine st_if hF 36 (((((!decide (n.path = 1)) || (!(dirB n))) || (!decide (n.up = 1))) || n.gone) == false) (ptr z 5) (by kernel_rfl) (by decide) (want_b (gi := 17) (g := 35) (c := ((((!decide (n.path = 1)) || (!(dirB n))) || (!decide (n.up = 1))) || n.gone)) hF (by kernel_rfl) (by kernel_rfl) rfl) (fun hW => rrun_fld (T := 68) (x := .tmp 3) (f := 5) (by kernel_rfl) (hF.ev 3 (ptr z 0) rfl) (by kernel_rfl)) (fun a hF => ?_)
  rw [List.drop_eq_getElem_cons (show 19 < l_pc4.length by rw [len_pc4]; decide)]
  refine st_if hF 37 (((((!decide (n.path = 1)) || (!(dirB n))) || (!decide (n.up = 1))) || n.gone) == false) (.string n.name) (by kernel_rfl) (by decide) (want_b (gi := 17) (g := 35) (c := ((((!decide (n.path = 1)) || (!(dirB n))) || (!decide (n.up = 1))) || n.gone)) hF (by kernel_rfl) (by kernel_rfl) rfl) (fun hW => rrun_load (ty := 9) (x := .tmp 36) (by kernel_rfl) ((hF.ev 36 (cond (((((!decide (n.path = 1)) || (!(dirB n))) || (!decide (n.up = 1))) || n.gone) == false) (ptr z 5) undef) rfl).trans (cond_t hW)) (rld_str (block_cell hS.nod 5))) (fun a hF => ?_)
  rw [List.drop_eq_getElem_cons (show 20 < l_pc4.length by rw [len_pc4]; decide)]
  refine st_if hF 38 (((((!decide (n.path = 1)) || (!(dirB n))) || (!decide (n.up = 1))) || n.gone) == false) (.bool (!decide (n.name = ⟨#[47]⟩))) (by kernel_rfl) (by decide) (want_b (gi := 17) (g := 35) (c := ((((!decide (n.path = 1)) || (!(dirB n))) || (!decide (n.up = 1))) || n.gone)) hF (by kernel_rfl) (by kernel_rfl) rfl) (fun hW => rrun_bin (op := .neq) (ty := 9) (ty2 := 9) (x := .tmp 37) (y := .const (.string ⟨#[47]⟩)) (u := .string n.name) (v := .string ⟨#[47]⟩) (by kernel_rfl) ((hF.ev 37 (cond (((((!decide (n.path = 1)) || (!(dirB n))) || (!decide (n.up = 1))) || n.gone) == false) (.string n.name) undef) rfl).trans (cond_t hW)) (rfl) (by kernel_rfl) (rne_str _ _ w)) (fun a hF => ?_)
  rw [List.drop_eq_getElem_cons (show 21 < l_pc4.length by rw [len_pc4]; decide)]
  refine st hF 39 (.bool (((((!decide (n.path = 1)) || (!(dirB n))) || (!decide (n.up = 1))) || n.gone) || (!decide (n.name = ⟨#[47]⟩)))) (by kernel_rfl) (by decide) (by kernel_rfl) (rrun_or (y := .const (.bool true)) (x := .tmp 35) (b := ((((!decide (n.path = 1)) || (!(dirB n))) || (!decide (n.up = 1))) || n.gone)) (b' := (!decide (n.name = ⟨#[47]⟩))) (by kernel_rfl) (hF.ev 35 _ rfl) rfl (hF.ev 38 (cond (((((!decide (n.path = 1)) || (!(dirB n))) || (!decide (n.up = 1))) || n.gone) == false) (.bool (!decide (n.name = ⟨#[47]⟩))) undef) rfl)) (fun a hF => ?_)
  rw [show l_pc4.drop 22 = [] from by kernel_rfl]
  exact hE _ _ (hF.sub ((39, .bool (((((!decide (n.path = 1)) || (!(dirB n))) || (!decide (n.up = 1))) || n.gone) || (!decide (n.name = ⟨#[47]⟩)))) :: [(3, ptr z 0), (0, v0), (1, v1), (2, v2), (4, v4), (5, v5), (6, v6), (7, v7), (8, v8), (9, v9), (42, v42), (43, v43), (53, v53), (58, v58), (63, v63), (64, v64), (65, v65)]) ⟨rfl, rfl, rfl, rfl, rfl, rfl, rfl, rfl, rfl, rfl, rfl, rfl, rfl, rfl, rfl, rfl, rfl, rfl, trivial⟩) hS
end
end Go.Proofs.YtcmajcljafmphaaGreat

namespace Go.Proofs.YtcmajcljafmphaaGreat
section
open Go.RowKit
set_option maxRecDepth 100000
set_option linter.unusedVariables false
section
variable {o : Oper} {ev : Operand → Value} {w : World}
theorem rrun_build {t : TypeId} {parts : Array (Nat × Operand)} {cells : Array Value} (ho : o.op = .build t parts) (hb : Tryz.prog.built t (parts.map fun (i, x) => (i, ev x)).toList = some cells) : (execOp ev o).run Tryz.prog w = .ok (.value (.agg cells)) w := by
  unfold execOp
  simp only [ho, Sem.run_bind, run_build w t _ cells hb, Result.andThen_ok]
  rfl
end
end
end Go.Proofs.YtcmajcljafmphaaGreat
