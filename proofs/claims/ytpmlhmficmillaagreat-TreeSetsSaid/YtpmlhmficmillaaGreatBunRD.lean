/- The first test of the reference's Check, operation by operation. Conditions: numbers in their types.
The reference's Check: what it finds right is a valid tree. Conditions: numbers in their types; at most 900 nodes.
Law 14's May: where it says yes, the tree is valid. Conditions: numbers in their types. -/
import Derived.Test.YtpmlhmficmillaaGreatBunRE
import Derived.Test.YtpmlhmficmillaaGreatBunRX
import Derived.Test.YtpmlhmficmillaaGreatBunRC
import Derived.Test.YtpmlhmficmillaaGreatBunRN5
import Derived.Test.YtpmlhmficmillaaGreatBunLA
namespace Go.Proofs.YtpmlhmficmillaaGreat
section
open Go.RowKit
set_option maxRecDepth 100000
set_option linter.unusedVariables false

structure ChS (B g b f x c : Nat) (l : List Nod) (w0 w : World) : Prop where
  bel : Below B w0 w
  box : w.heap[g]? = some (.cells #[.int .u64 (x : Int), .slice (some ⟨b, f, none⟩) l.length c] 33 (0, 0))
  row : NodsAt w (.slice (some ⟨b, f, none⟩) l.length c) l
  hB : B ≤ w.heap.size
theorem ChS.next {B g b f x c : Nat} {l : List Nod} {w0 w w' : World} (h : ChS B g b f x c l w0 w) (hb : Below w.heap.size w w') : ChS B g b f x c l w0 w' :=
  ⟨h.bel.trans (hb.mono h.hB), (hb.block _ (lt_of_block h.box)).trans h.box, h.row.below hb, Nat.le_trans h.hB hb.size⟩
theorem ChS.drew {B g b f x c : Nat} {l : List Nod} {w0 w : World} (h : ChS B g b f x c l w0 w) : ChS B g b f x c l w0 w.drew := h.next (Below.refl _ _).drew
theorem ChS.el {B g b f x c : Nat} {l : List Nod} {w0 w : World} (h : ChS B g b f x c l w0 w) (j : Nat) (m : Nod) (hm : l[j]? = some m) : w.rangeAt b (f + j * 12) m.cells.toList := by
  obtain ⟨hj, rfl⟩ := List.getElem?_eq_some_iff.1 hm
  obtain ⟨b', o', ha, hr⟩ := h.row.range j hj
  cases ha
  exact hr

noncomputable def ops_rc1 : Array Oper := match Tryz.f20.body with | some c => (allOps' c).getD 1 #[] | none => #[]
noncomputable def l_rc1 : List Oper := ops_rc1.toList
theorem len_rc1 : l_rc1.length = 43 := by kernel_rfl
set_option maxHeartbeats 4000000 in
theorem rc1_all {w0 : World} {B g b f x c : Nat} {l : List Nod} {n : Nod} (hl : l.length ≤ 9223372036854775807) (hn0 : l.length ≠ 0 → l[0]? = some n) (hn : l.length ≠ 0 → NodOk n)  {v0 v2 v3 v4 v5 v6 v7 : Value} {Q : Exit → Act → World → Prop} {a : Act} {w : World} (hF : FrL 100 [(1, ptr g 0), (0, v0), (2, v2), (3, v3), (4, v4), (5, v5), (6, v6), (7, v7)] a) (hS : (ChS B g b f x c l w0) w) (hE : ∀ a w', FrL 100 ((50, .bool ((((((decide (l.length = 0)) || (!decide (n.path = 1))) || (!(dirB n))) || (!decide (n.up = 1))) || n.gone) || (!decide (n.name = ⟨#[47]⟩)))) :: [(1, ptr g 0), (0, v0), (2, v2), (3, v3), (4, v4), (5, v5), (6, v6), (7, v7)]) a → (ChS B g b f x c l w0) w' → Q .normal a w') : wpList Tryz.prog ops_rc1 Q (l_rc1.drop 0) a w := by
  rw [List.drop_eq_getElem_cons (show 0 < l_rc1.length by rw [len_rc1]; decide)]
  refine st hF 8 (ptr g 1) (by kernel_rfl) (by decide) (by kernel_rfl) (rrun_fld (T := 33) (x := .tmp 1) (f := 1) (by kernel_rfl) (hF.ev 1 (ptr g 0) rfl) (by kernel_rfl)) (fun a hF => ?_)
  rw [List.drop_eq_getElem_cons (show 1 < l_rc1.length by rw [len_rc1]; decide)]
  refine st hF 9 (.slice (some ⟨b, f, none⟩) l.length c) (by kernel_rfl) (by decide) (by kernel_rfl) (rrun_load (ty := 31) (x := .tmp 8) (by kernel_rfl) (hF.ev 8 (ptr g 1) rfl) (rld_nods (block_cell hS.box 1))) (fun a hF => ?_)
  rw [List.drop_eq_getElem_cons (show 2 < l_rc1.length by rw [len_rc1]; decide)]
  refine st hF 10 (.int .i64 ((l.length : Nat) : Int)) (by kernel_rfl) (by decide) (by kernel_rfl) (rrun_len (t := 31) (x := .tmp 9) (by kernel_rfl) (hF.ev 9 (.slice (some ⟨b, f, none⟩) l.length c) rfl) (by kernel_rfl)) (fun a hF => ?_)
  rw [List.drop_eq_getElem_cons (show 3 < l_rc1.length by rw [len_rc1]; decide)]
  refine st hF 11 (.bool (decide (l.length = 0))) (by kernel_rfl) (by decide) (by kernel_rfl) (rrun_bin (op := .eql) (ty := 3) (ty2 := 3) (x := .tmp 10) (y := .const (.int .i64 0)) (u := .int .i64 ((l.length : Nat) : Int)) (v := .int .i64 ((0 : Nat) : Int)) (by kernel_rfl) (hF.ev 10 (.int .i64 ((l.length : Nat) : Int)) rfl) (rfl) (by kernel_rfl) (req_i64 _ _ w)) (fun a hF => ?_)
  rw [List.drop_eq_getElem_cons (show 4 < l_rc1.length by rw [len_rc1]; decide)]
  refine st hF 12 (.bool (decide (l.length = 0))) (by kernel_rfl) (by decide) (by kernel_rfl) (rrun_move (x := .tmp 11) (.inl (by kernel_rfl)) (hF.ev 11 (.bool (decide (l.length = 0))) rfl)) (fun a hF => ?_)
  rw [List.drop_eq_getElem_cons (show 5 < l_rc1.length by rw [len_rc1]; decide)]
  refine st_if hF 13 ((decide (l.length = 0)) == false) (ptr g 1) (by kernel_rfl) (by decide) (want_b (gi := 4) (g := 12) (c := (decide (l.length = 0))) hF (by kernel_rfl) (by kernel_rfl) rfl) (fun hW => rrun_fld (T := 33) (x := .tmp 1) (f := 1) (by kernel_rfl) (hF.ev 1 (ptr g 0) rfl) (by kernel_rfl)) (fun a hF => ?_)
  rw [List.drop_eq_getElem_cons (show 6 < l_rc1.length by rw [len_rc1]; decide)]
  refine st_if hF 14 ((decide (l.length = 0)) == false) (.slice (some ⟨b, f, none⟩) l.length c) (by kernel_rfl) (by decide) (want_b (gi := 4) (g := 12) (c := (decide (l.length = 0))) hF (by kernel_rfl) (by kernel_rfl) rfl) (fun hW => rrun_load (ty := 31) (x := .tmp 13) (by kernel_rfl) ((hF.ev 13 (cond ((decide (l.length = 0)) == false) (ptr g 1) undef) rfl).trans (cond_t hW)) (rld_nods (block_cell hS.box 1))) (fun a hF => ?_)
  rw [List.drop_eq_getElem_cons (show 7 < l_rc1.length by rw [len_rc1]; decide)]
  refine st_if hF 15 ((decide (l.length = 0)) == false) (ptr b (f + 0 * 12)) (by kernel_rfl) (by decide) (want_b (gi := 4) (g := 12) (c := (decide (l.length = 0))) hF (by kernel_rfl) (by kernel_rfl) rfl) (fun hW => rrun_idx 12 (ty := 31) (x := .tmp 14) (y := .const (.int .i64 0)) (by kernel_rfl) ((hF.ev 14 (cond ((decide (l.length = 0)) == false) (.slice (some ⟨b, f, none⟩) l.length c) undef) rfl).trans (cond_t hW)) (rfl) (Nat.pos_of_ne_zero (by rintro h0; revert hW; simp [h0])) (ridx_nod _ _ _ _ 0 (Nat.pos_of_ne_zero (by rintro h0; revert hW; simp [h0])) hl w)) (fun a hF => ?_)
  rw [List.drop_eq_getElem_cons (show 8 < l_rc1.length by rw [len_rc1]; decide)]
  refine st_if hF 16 ((decide (l.length = 0)) == false) (ptr b (f + 0 * 12)) (by kernel_rfl) (by decide) (want_b (gi := 4) (g := 12) (c := (decide (l.length = 0))) hF (by kernel_rfl) (by kernel_rfl) rfl) (fun hW => rrun_fld (T := 38) (x := .tmp 15) (f := 0) (by kernel_rfl) ((hF.ev 15 (cond ((decide (l.length = 0)) == false) (ptr b (f + 0 * 12)) undef) rfl).trans (cond_t hW)) (by kernel_rfl)) (fun a hF => ?_)
  rw [List.drop_eq_getElem_cons (show 9 < l_rc1.length by rw [len_rc1]; decide)]
  refine st_if hF 17 ((decide (l.length = 0)) == false) (.int .u64 ((n.path : Nat) : Int)) (by kernel_rfl) (by decide) (want_b (gi := 4) (g := 12) (c := (decide (l.length = 0))) hF (by kernel_rfl) (by kernel_rfl) rfl) (fun hW => rrun_load (ty := 22) (x := .tmp 16) (by kernel_rfl) ((hF.ev 16 (cond ((decide (l.length = 0)) == false) (ptr b (f + 0 * 12)) undef) rfl).trans (cond_t hW)) (rld_u64 (p := ⟨b, f + 0 * 12, none⟩) (hS.el 0 n (hn0 (by rintro h0; revert hW; simp [h0])) 0 (.int .u64 ((n.path : Nat) : Int)) (by rw [nod_cells]; rfl)))) (fun a hF => ?_)
  rw [List.drop_eq_getElem_cons (show 10 < l_rc1.length by rw [len_rc1]; decide)]
  refine st_if hF 18 ((decide (l.length = 0)) == false) (.bool (!decide (n.path = 1))) (by kernel_rfl) (by decide) (want_b (gi := 4) (g := 12) (c := (decide (l.length = 0))) hF (by kernel_rfl) (by kernel_rfl) rfl) (fun hW => rrun_bin (op := .neq) (ty := 22) (ty2 := 22) (x := .tmp 17) (y := .const (.int .u64 1)) (u := .int .u64 ((n.path : Nat) : Int)) (v := .int .u64 ((1 : Nat) : Int)) (by kernel_rfl) ((hF.ev 17 (cond ((decide (l.length = 0)) == false) (.int .u64 ((n.path : Nat) : Int)) undef) rfl).trans (cond_t hW)) (rfl) (by kernel_rfl) (rne_u64 _ _ w)) (fun a hF => ?_)
  rw [List.drop_eq_getElem_cons (show 11 < l_rc1.length by rw [len_rc1]; decide)]
  refine st hF 19 (.bool ((decide (l.length = 0)) || (!decide (n.path = 1)))) (by kernel_rfl) (by decide) (by kernel_rfl) (rrun_or (y := .const (.bool true)) (x := .tmp 12) (b := (decide (l.length = 0))) (b' := (!decide (n.path = 1))) (by kernel_rfl) (hF.ev 12 _ rfl) rfl (hF.ev 18 (cond ((decide (l.length = 0)) == false) (.bool (!decide (n.path = 1))) undef) rfl)) (fun a hF => ?_)
  rw [List.drop_eq_getElem_cons (show 12 < l_rc1.length by rw [len_rc1]; decide)]
  refine st hF 20 (.bool ((decide (l.length = 0)) || (!decide (n.path = 1)))) (by kernel_rfl) (by decide) (by kernel_rfl) (rrun_move (x := .tmp 19) (.inl (by kernel_rfl)) (hF.ev 19 (.bool ((decide (l.length = 0)) || (!decide (n.path = 1)))) rfl)) (fun a hF => ?_)
  rw [List.drop_eq_getElem_cons (show 13 < l_rc1.length by rw [len_rc1]; decide)]
  refine st_if hF 21 (((decide (l.length = 0)) || (!decide (n.path = 1))) == false) (ptr g 1) (by kernel_rfl) (by decide) (want_b (gi := 12) (g := 20) (c := ((decide (l.length = 0)) || (!decide (n.path = 1)))) hF (by kernel_rfl) (by kernel_rfl) rfl) (fun hW => rrun_fld (T := 33) (x := .tmp 1) (f := 1) (by kernel_rfl) (hF.ev 1 (ptr g 0) rfl) (by kernel_rfl)) (fun a hF => ?_)
  rw [List.drop_eq_getElem_cons (show 14 < l_rc1.length by rw [len_rc1]; decide)]
  refine st_if hF 22 (((decide (l.length = 0)) || (!decide (n.path = 1))) == false) (.slice (some ⟨b, f, none⟩) l.length c) (by kernel_rfl) (by decide) (want_b (gi := 12) (g := 20) (c := ((decide (l.length = 0)) || (!decide (n.path = 1)))) hF (by kernel_rfl) (by kernel_rfl) rfl) (fun hW => rrun_load (ty := 31) (x := .tmp 21) (by kernel_rfl) ((hF.ev 21 (cond (((decide (l.length = 0)) || (!decide (n.path = 1))) == false) (ptr g 1) undef) rfl).trans (cond_t hW)) (rld_nods (block_cell hS.box 1))) (fun a hF => ?_)
  rw [List.drop_eq_getElem_cons (show 15 < l_rc1.length by rw [len_rc1]; decide)]
  refine st_if hF 23 (((decide (l.length = 0)) || (!decide (n.path = 1))) == false) (ptr b (f + 0 * 12)) (by kernel_rfl) (by decide) (want_b (gi := 12) (g := 20) (c := ((decide (l.length = 0)) || (!decide (n.path = 1)))) hF (by kernel_rfl) (by kernel_rfl) rfl) (fun hW => rrun_idx 12 (ty := 31) (x := .tmp 22) (y := .const (.int .i64 0)) (by kernel_rfl) ((hF.ev 22 (cond (((decide (l.length = 0)) || (!decide (n.path = 1))) == false) (.slice (some ⟨b, f, none⟩) l.length c) undef) rfl).trans (cond_t hW)) (rfl) (Nat.pos_of_ne_zero (by rintro h0; revert hW; simp [h0])) (ridx_nod _ _ _ _ 0 (Nat.pos_of_ne_zero (by rintro h0; revert hW; simp [h0])) hl w)) (fun a hF => ?_)
  rw [List.drop_eq_getElem_cons (show 16 < l_rc1.length by rw [len_rc1]; decide)]
  refine st_if hF 24 (((decide (l.length = 0)) || (!decide (n.path = 1))) == false) (.agg n.cells) (by kernel_rfl) (by decide) (want_b (gi := 12) (g := 20) (c := ((decide (l.length = 0)) || (!decide (n.path = 1)))) hF (by kernel_rfl) (by kernel_rfl) rfl) (fun hW => rrun_load (ty := 38) (x := .tmp 23) (by kernel_rfl) ((hF.ev 23 (cond (((decide (l.length = 0)) || (!decide (n.path = 1))) == false) (ptr b (f + 0 * 12)) undef) rfl).trans (cond_t hW)) (rld_node (hS.el 0 n (hn0 (by rintro h0; revert hW; simp [h0]))))) (fun a hF => ?_)
  rw [List.drop_eq_getElem_cons (show 17 < l_rc1.length by rw [len_rc1]; decide)]
  refine stcall hF 25 (((decide (l.length = 0)) || (!decide (n.path = 1))) == false) (.bool (dirB n)) (by kernel_rfl) (by decide) (want_b (gi := 12) (g := 20) (c := ((decide (l.length = 0)) || (!decide (n.path = 1)))) hF (by kernel_rfl) (by kernel_rfl) rfl) (fun hW => ⟨24, #[.agg n.cells], rrun_call1 (fn := 24) (t := 38) rfl (by kernel_rfl) (by kernel_rfl) ((hF.ev 24 (cond (((decide (l.length = 0)) || (!decide (n.path = 1))) == false) (.agg n.cells) undef) rfl).trans (cond_t hW)), (rdir_any n w (hn (by rintro h0; revert hW; simp [h0]))).mono (by rintro e w' ⟨rfl, hb⟩; exact ⟨rfl, hS.next hb⟩)⟩) hS (fun a w hF hS => ?_)
  rw [List.drop_eq_getElem_cons (show 18 < l_rc1.length by rw [len_rc1]; decide)]
  refine st_if hF 26 (((decide (l.length = 0)) || (!decide (n.path = 1))) == false) (.bool (!(dirB n))) (by kernel_rfl) (by decide) (want_b (gi := 12) (g := 20) (c := ((decide (l.length = 0)) || (!decide (n.path = 1)))) hF (by kernel_rfl) (by kernel_rfl) rfl) (fun hW => rrun_not (ty := 4) (x := .tmp 25) (by kernel_rfl) ((hF.ev 25 (cond (((decide (l.length = 0)) || (!decide (n.path = 1))) == false) (.bool (dirB n)) undef) rfl).trans (cond_t hW))) (fun a hF => ?_)
  rw [List.drop_eq_getElem_cons (show 19 < l_rc1.length by rw [len_rc1]; decide)]
  refine st hF 27 (.bool (((decide (l.length = 0)) || (!decide (n.path = 1))) || (!(dirB n)))) (by kernel_rfl) (by decide) (by kernel_rfl) (rrun_or (y := .const (.bool true)) (x := .tmp 20) (b := ((decide (l.length = 0)) || (!decide (n.path = 1)))) (b' := (!(dirB n))) (by kernel_rfl) (hF.ev 20 _ rfl) rfl (hF.ev 26 (cond (((decide (l.length = 0)) || (!decide (n.path = 1))) == false) (.bool (!(dirB n))) undef) rfl)) (fun a hF => ?_)
  rw [List.drop_eq_getElem_cons (show 20 < l_rc1.length by rw [len_rc1]; decide)]
  refine st hF 28 (.bool (((decide (l.length = 0)) || (!decide (n.path = 1))) || (!(dirB n)))) (by kernel_rfl) (by decide) (by kernel_rfl) (rrun_move (x := .tmp 27) (.inl (by kernel_rfl)) (hF.ev 27 (.bool (((decide (l.length = 0)) || (!decide (n.path = 1))) || (!(dirB n)))) rfl)) (fun a hF => ?_)
  rw [List.drop_eq_getElem_cons (show 21 < l_rc1.length by rw [len_rc1]; decide)]
  refine st_if hF 29 ((((decide (l.length = 0)) || (!decide (n.path = 1))) || (!(dirB n))) == false) (ptr g 1) (by kernel_rfl) (by decide) (want_b (gi := 20) (g := 28) (c := (((decide (l.length = 0)) || (!decide (n.path = 1))) || (!(dirB n)))) hF (by kernel_rfl) (by kernel_rfl) rfl) (fun hW => rrun_fld (T := 33) (x := .tmp 1) (f := 1) (by kernel_rfl) (hF.ev 1 (ptr g 0) rfl) (by kernel_rfl)) (fun a hF => ?_)
  rw [List.drop_eq_getElem_cons (show 22 < l_rc1.length by rw [len_rc1]; decide)]
  refine st_if hF 30 ((((decide (l.length = 0)) || (!decide (n.path = 1))) || (!(dirB n))) == false) (.slice (some ⟨b, f, none⟩) l.length c) (by kernel_rfl) (by decide) (want_b (gi := 20) (g := 28) (c := (((decide (l.length = 0)) || (!decide (n.path = 1))) || (!(dirB n)))) hF (by kernel_rfl) (by kernel_rfl) rfl) (fun hW => rrun_load (ty := 31) (x := .tmp 29) (by kernel_rfl) ((hF.ev 29 (cond ((((decide (l.length = 0)) || (!decide (n.path = 1))) || (!(dirB n))) == false) (ptr g 1) undef) rfl).trans (cond_t hW)) (rld_nods (block_cell hS.box 1))) (fun a hF => ?_)
  rw [List.drop_eq_getElem_cons (show 23 < l_rc1.length by rw [len_rc1]; decide)]
  refine st_if hF 31 ((((decide (l.length = 0)) || (!decide (n.path = 1))) || (!(dirB n))) == false) (ptr b (f + 0 * 12)) (by kernel_rfl) (by decide) (want_b (gi := 20) (g := 28) (c := (((decide (l.length = 0)) || (!decide (n.path = 1))) || (!(dirB n)))) hF (by kernel_rfl) (by kernel_rfl) rfl) (fun hW => rrun_idx 12 (ty := 31) (x := .tmp 30) (y := .const (.int .i64 0)) (by kernel_rfl) ((hF.ev 30 (cond ((((decide (l.length = 0)) || (!decide (n.path = 1))) || (!(dirB n))) == false) (.slice (some ⟨b, f, none⟩) l.length c) undef) rfl).trans (cond_t hW)) (rfl) (Nat.pos_of_ne_zero (by rintro h0; revert hW; simp [h0])) (ridx_nod _ _ _ _ 0 (Nat.pos_of_ne_zero (by rintro h0; revert hW; simp [h0])) hl w)) (fun a hF => ?_)
  rw [List.drop_eq_getElem_cons (show 24 < l_rc1.length by rw [len_rc1]; decide)]
  refine st_if hF 32 ((((decide (l.length = 0)) || (!decide (n.path = 1))) || (!(dirB n))) == false) (ptr b (f + 0 * 12 + 9)) (by kernel_rfl) (by decide) (want_b (gi := 20) (g := 28) (c := (((decide (l.length = 0)) || (!decide (n.path = 1))) || (!(dirB n)))) hF (by kernel_rfl) (by kernel_rfl) rfl) (fun hW => rrun_fld (T := 38) (x := .tmp 31) (f := 9) (by kernel_rfl) ((hF.ev 31 (cond ((((decide (l.length = 0)) || (!decide (n.path = 1))) || (!(dirB n))) == false) (ptr b (f + 0 * 12)) undef) rfl).trans (cond_t hW)) (by kernel_rfl)) (fun a hF => ?_)
  rw [List.drop_eq_getElem_cons (show 25 < l_rc1.length by rw [len_rc1]; decide)]
  refine st_if hF 33 ((((decide (l.length = 0)) || (!decide (n.path = 1))) || (!(dirB n))) == false) (.int .u64 ((n.up : Nat) : Int)) (by kernel_rfl) (by decide) (want_b (gi := 20) (g := 28) (c := (((decide (l.length = 0)) || (!decide (n.path = 1))) || (!(dirB n)))) hF (by kernel_rfl) (by kernel_rfl) rfl) (fun hW => rrun_load (ty := 22) (x := .tmp 32) (by kernel_rfl) ((hF.ev 32 (cond ((((decide (l.length = 0)) || (!decide (n.path = 1))) || (!(dirB n))) == false) (ptr b (f + 0 * 12 + 9)) undef) rfl).trans (cond_t hW)) (rld_u64 (p := ⟨b, f + 0 * 12 + 9, none⟩) (hS.el 0 n (hn0 (by rintro h0; revert hW; simp [h0])) 9 (.int .u64 ((n.up : Nat) : Int)) (by rw [nod_cells]; rfl)))) (fun a hF => ?_)
  rw [List.drop_eq_getElem_cons (show 26 < l_rc1.length by rw [len_rc1]; decide)]
  refine st_if hF 34 ((((decide (l.length = 0)) || (!decide (n.path = 1))) || (!(dirB n))) == false) (.bool (!decide (n.up = 1))) (by kernel_rfl) (by decide) (want_b (gi := 20) (g := 28) (c := (((decide (l.length = 0)) || (!decide (n.path = 1))) || (!(dirB n)))) hF (by kernel_rfl) (by kernel_rfl) rfl) (fun hW => rrun_bin (op := .neq) (ty := 22) (ty2 := 22) (x := .tmp 33) (y := .const (.int .u64 1)) (u := .int .u64 ((n.up : Nat) : Int)) (v := .int .u64 ((1 : Nat) : Int)) (by kernel_rfl) ((hF.ev 33 (cond ((((decide (l.length = 0)) || (!decide (n.path = 1))) || (!(dirB n))) == false) (.int .u64 ((n.up : Nat) : Int)) undef) rfl).trans (cond_t hW)) (rfl) (by kernel_rfl) (rne_u64 _ _ w)) (fun a hF => ?_)
  rw [List.drop_eq_getElem_cons (show 27 < l_rc1.length by rw [len_rc1]; decide)]
  refine st hF 35 (.bool ((((decide (l.length = 0)) || (!decide (n.path = 1))) || (!(dirB n))) || (!decide (n.up = 1)))) (by kernel_rfl) (by decide) (by kernel_rfl) (rrun_or (y := .const (.bool true)) (x := .tmp 28) (b := (((decide (l.length = 0)) || (!decide (n.path = 1))) || (!(dirB n)))) (b' := (!decide (n.up = 1))) (by kernel_rfl) (hF.ev 28 _ rfl) rfl (hF.ev 34 (cond ((((decide (l.length = 0)) || (!decide (n.path = 1))) || (!(dirB n))) == false) (.bool (!decide (n.up = 1))) undef) rfl)) (fun a hF => ?_)
  rw [List.drop_eq_getElem_cons (show 28 < l_rc1.length by rw [len_rc1]; decide)]
  refine st hF 36 (.bool ((((decide (l.length = 0)) || (!decide (n.path = 1))) || (!(dirB n))) || (!decide (n.up = 1)))) (by kernel_rfl) (by decide) (by kernel_rfl) (rrun_move (x := .tmp 35) (.inl (by kernel_rfl)) (hF.ev 35 (.bool ((((decide (l.length = 0)) || (!decide (n.path = 1))) || (!(dirB n))) || (!decide (n.up = 1)))) rfl)) (fun a hF => ?_)
  rw [List.drop_eq_getElem_cons (show 29 < l_rc1.length by rw [len_rc1]; decide)]
  refine st_if hF 37 (((((decide (l.length = 0)) || (!decide (n.path = 1))) || (!(dirB n))) || (!decide (n.up = 1))) == false) (ptr g 1) (by kernel_rfl) (by decide) (want_b (gi := 28) (g := 36) (c := ((((decide (l.length = 0)) || (!decide (n.path = 1))) || (!(dirB n))) || (!decide (n.up = 1)))) hF (by kernel_rfl) (by kernel_rfl) rfl) (fun hW => rrun_fld (T := 33) (x := .tmp 1) (f := 1) (by kernel_rfl) (hF.ev 1 (ptr g 0) rfl) (by kernel_rfl)) (fun a hF => ?_)
  rw [List.drop_eq_getElem_cons (show 30 < l_rc1.length by rw [len_rc1]; decide)]
  refine st_if hF 38 (((((decide (l.length = 0)) || (!decide (n.path = 1))) || (!(dirB n))) || (!decide (n.up = 1))) == false) (.slice (some ⟨b, f, none⟩) l.length c) (by kernel_rfl) (by decide) (want_b (gi := 28) (g := 36) (c := ((((decide (l.length = 0)) || (!decide (n.path = 1))) || (!(dirB n))) || (!decide (n.up = 1)))) hF (by kernel_rfl) (by kernel_rfl) rfl) (fun hW => rrun_load (ty := 31) (x := .tmp 37) (by kernel_rfl) ((hF.ev 37 (cond (((((decide (l.length = 0)) || (!decide (n.path = 1))) || (!(dirB n))) || (!decide (n.up = 1))) == false) (ptr g 1) undef) rfl).trans (cond_t hW)) (rld_nods (block_cell hS.box 1))) (fun a hF => ?_)
  rw [List.drop_eq_getElem_cons (show 31 < l_rc1.length by rw [len_rc1]; decide)]
  refine st_if hF 39 (((((decide (l.length = 0)) || (!decide (n.path = 1))) || (!(dirB n))) || (!decide (n.up = 1))) == false) (ptr b (f + 0 * 12)) (by kernel_rfl) (by decide) (want_b (gi := 28) (g := 36) (c := ((((decide (l.length = 0)) || (!decide (n.path = 1))) || (!(dirB n))) || (!decide (n.up = 1)))) hF (by kernel_rfl) (by kernel_rfl) rfl) (fun hW => rrun_idx 12 (ty := 31) (x := .tmp 38) (y := .const (.int .i64 0)) (by kernel_rfl) ((hF.ev 38 (cond (((((decide (l.length = 0)) || (!decide (n.path = 1))) || (!(dirB n))) || (!decide (n.up = 1))) == false) (.slice (some ⟨b, f, none⟩) l.length c) undef) rfl).trans (cond_t hW)) (rfl) (Nat.pos_of_ne_zero (by rintro h0; revert hW; simp [h0])) (ridx_nod _ _ _ _ 0 (Nat.pos_of_ne_zero (by rintro h0; revert hW; simp [h0])) hl w)) (fun a hF => ?_)
  rw [List.drop_eq_getElem_cons (show 32 < l_rc1.length by rw [len_rc1]; decide)]
  refine st_if hF 40 (((((decide (l.length = 0)) || (!decide (n.path = 1))) || (!(dirB n))) || (!decide (n.up = 1))) == false) (ptr b (f + 0 * 12 + 10)) (by kernel_rfl) (by decide) (want_b (gi := 28) (g := 36) (c := ((((decide (l.length = 0)) || (!decide (n.path = 1))) || (!(dirB n))) || (!decide (n.up = 1)))) hF (by kernel_rfl) (by kernel_rfl) rfl) (fun hW => rrun_fld (T := 38) (x := .tmp 39) (f := 10) (by kernel_rfl) ((hF.ev 39 (cond (((((decide (l.length = 0)) || (!decide (n.path = 1))) || (!(dirB n))) || (!decide (n.up = 1))) == false) (ptr b (f + 0 * 12)) undef) rfl).trans (cond_t hW)) (by kernel_rfl)) (fun a hF => ?_)
  rw [List.drop_eq_getElem_cons (show 33 < l_rc1.length by rw [len_rc1]; decide)]
  refine st_if hF 41 (((((decide (l.length = 0)) || (!decide (n.path = 1))) || (!(dirB n))) || (!decide (n.up = 1))) == false) (.bool n.gone) (by kernel_rfl) (by decide) (want_b (gi := 28) (g := 36) (c := ((((decide (l.length = 0)) || (!decide (n.path = 1))) || (!(dirB n))) || (!decide (n.up = 1)))) hF (by kernel_rfl) (by kernel_rfl) rfl) (fun hW => rrun_load (ty := 4) (x := .tmp 40) (by kernel_rfl) ((hF.ev 40 (cond (((((decide (l.length = 0)) || (!decide (n.path = 1))) || (!(dirB n))) || (!decide (n.up = 1))) == false) (ptr b (f + 0 * 12 + 10)) undef) rfl).trans (cond_t hW)) (rld_bool (p := ⟨b, f + 0 * 12 + 10, none⟩) (hS.el 0 n (hn0 (by rintro h0; revert hW; simp [h0])) 10 (.bool n.gone) (by rw [nod_cells]; rfl)))) (fun a hF => ?_)
  rw [List.drop_eq_getElem_cons (show 34 < l_rc1.length by rw [len_rc1]; decide)]
  refine st hF 42 (.bool (((((decide (l.length = 0)) || (!decide (n.path = 1))) || (!(dirB n))) || (!decide (n.up = 1))) || n.gone)) (by kernel_rfl) (by decide) (by kernel_rfl) (rrun_or (y := .const (.bool true)) (x := .tmp 36) (b := ((((decide (l.length = 0)) || (!decide (n.path = 1))) || (!(dirB n))) || (!decide (n.up = 1)))) (b' := n.gone) (by kernel_rfl) (hF.ev 36 _ rfl) rfl (hF.ev 41 (cond (((((decide (l.length = 0)) || (!decide (n.path = 1))) || (!(dirB n))) || (!decide (n.up = 1))) == false) (.bool n.gone) undef) rfl)) (fun a hF => ?_)
  rw [List.drop_eq_getElem_cons (show 35 < l_rc1.length by rw [len_rc1]; decide)]
  refine st hF 43 (.bool (((((decide (l.length = 0)) || (!decide (n.path = 1))) || (!(dirB n))) || (!decide (n.up = 1))) || n.gone)) (by kernel_rfl) (by decide) (by kernel_rfl) (rrun_move (x := .tmp 42) (.inl (by kernel_rfl)) (hF.ev 42 (.bool (((((decide (l.length = 0)) || (!decide (n.path = 1))) || (!(dirB n))) || (!decide (n.up = 1))) || n.gone)) rfl)) (fun a hF => ?_)
  rw [List.drop_eq_getElem_cons (show 36 < l_rc1.length by rw [len_rc1]; decide)]
  refine st_if hF 44 ((((((decide (l.length = 0)) || (!decide (n.path = 1))) || (!(dirB n))) || (!decide (n.up = 1))) || n.gone) == false) (ptr g 1) (by kernel_rfl) (by decide) (want_b (gi := 35) (g := 43) (c := (((((decide (l.length = 0)) || (!decide (n.path = 1))) || (!(dirB n))) || (!decide (n.up = 1))) || n.gone)) hF (by kernel_rfl) (by kernel_rfl) rfl) (fun hW => rrun_fld (T := 33) (x := .tmp 1) (f := 1) (by kernel_rfl) (hF.ev 1 (ptr g 0) rfl) (by kernel_rfl)) (fun a hF => ?_)
  rw [List.drop_eq_getElem_cons (show 37 < l_rc1.length by rw [len_rc1]; decide)]
  refine st_if hF 45 ((((((decide (l.length = 0)) || (!decide (n.path = 1))) || (!(dirB n))) || (!decide (n.up = 1))) || n.gone) == false) (.slice (some ⟨b, f, none⟩) l.length c) (by kernel_rfl) (by decide) (want_b (gi := 35) (g := 43) (c := (((((decide (l.length = 0)) || (!decide (n.path = 1))) || (!(dirB n))) || (!decide (n.up = 1))) || n.gone)) hF (by kernel_rfl) (by kernel_rfl) rfl) (fun hW => rrun_load (ty := 31) (x := .tmp 44) (by kernel_rfl) ((hF.ev 44 (cond ((((((decide (l.length = 0)) || (!decide (n.path = 1))) || (!(dirB n))) || (!decide (n.up = 1))) || n.gone) == false) (ptr g 1) undef) rfl).trans (cond_t hW)) (rld_nods (block_cell hS.box 1))) (fun a hF => ?_)
  rw [List.drop_eq_getElem_cons (show 38 < l_rc1.length by rw [len_rc1]; decide)]
  refine st_if hF 46 ((((((decide (l.length = 0)) || (!decide (n.path = 1))) || (!(dirB n))) || (!decide (n.up = 1))) || n.gone) == false) (ptr b (f + 0 * 12)) (by kernel_rfl) (by decide) (want_b (gi := 35) (g := 43) (c := (((((decide (l.length = 0)) || (!decide (n.path = 1))) || (!(dirB n))) || (!decide (n.up = 1))) || n.gone)) hF (by kernel_rfl) (by kernel_rfl) rfl) (fun hW => rrun_idx 12 (ty := 31) (x := .tmp 45) (y := .const (.int .i64 0)) (by kernel_rfl) ((hF.ev 45 (cond ((((((decide (l.length = 0)) || (!decide (n.path = 1))) || (!(dirB n))) || (!decide (n.up = 1))) || n.gone) == false) (.slice (some ⟨b, f, none⟩) l.length c) undef) rfl).trans (cond_t hW)) (rfl) (Nat.pos_of_ne_zero (by rintro h0; revert hW; simp [h0])) (ridx_nod _ _ _ _ 0 (Nat.pos_of_ne_zero (by rintro h0; revert hW; simp [h0])) hl w)) (fun a hF => ?_)
  rw [List.drop_eq_getElem_cons (show 39 < l_rc1.length by rw [len_rc1]; decide)]
  refine st_if hF 47 ((((((decide (l.length = 0)) || (!decide (n.path = 1))) || (!(dirB n))) || (!decide (n.up = 1))) || n.gone) == false) (ptr b (f + 0 * 12 + 5)) (by kernel_rfl) (by decide) (want_b (gi := 35) (g := 43) (c := (((((decide (l.length = 0)) || (!decide (n.path = 1))) || (!(dirB n))) || (!decide (n.up = 1))) || n.gone)) hF (by kernel_rfl) (by kernel_rfl) rfl) (fun hW => rrun_fld (T := 38) (x := .tmp 46) (f := 5) (by kernel_rfl) ((hF.ev 46 (cond ((((((decide (l.length = 0)) || (!decide (n.path = 1))) || (!(dirB n))) || (!decide (n.up = 1))) || n.gone) == false) (ptr b (f + 0 * 12)) undef) rfl).trans (cond_t hW)) (by kernel_rfl)) (fun a hF => ?_)
  rw [List.drop_eq_getElem_cons (show 40 < l_rc1.length by rw [len_rc1]; decide)]
  refine st_if hF 48 ((((((decide (l.length = 0)) || (!decide (n.path = 1))) || (!(dirB n))) || (!decide (n.up = 1))) || n.gone) == false) (.string n.name) (by kernel_rfl) (by decide) (want_b (gi := 35) (g := 43) (c := (((((decide (l.length = 0)) || (!decide (n.path = 1))) || (!(dirB n))) || (!decide (n.up = 1))) || n.gone)) hF (by kernel_rfl) (by kernel_rfl) rfl) (fun hW => rrun_load (ty := 9) (x := .tmp 47) (by kernel_rfl) ((hF.ev 47 (cond ((((((decide (l.length = 0)) || (!decide (n.path = 1))) || (!(dirB n))) || (!decide (n.up = 1))) || n.gone) == false) (ptr b (f + 0 * 12 + 5)) undef) rfl).trans (cond_t hW)) (rld_str (p := ⟨b, f + 0 * 12 + 5, none⟩) (hS.el 0 n (hn0 (by rintro h0; revert hW; simp [h0])) 5 (.string n.name) (by rw [nod_cells]; rfl)))) (fun a hF => ?_)
  rw [List.drop_eq_getElem_cons (show 41 < l_rc1.length by rw [len_rc1]; decide)]
  refine st_if hF 49 ((((((decide (l.length = 0)) || (!decide (n.path = 1))) || (!(dirB n))) || (!decide (n.up = 1))) || n.gone) == false) (.bool (!decide (n.name = ⟨#[47]⟩))) (by kernel_rfl) (by decide) (want_b (gi := 35) (g := 43) (c := (((((decide (l.length = 0)) || (!decide (n.path = 1))) || (!(dirB n))) || (!decide (n.up = 1))) || n.gone)) hF (by kernel_rfl) (by kernel_rfl) rfl) (fun hW => rrun_bin (op := .neq) (ty := 9) (ty2 := 9) (x := .tmp 48) (y := .const (.string ⟨#[47]⟩)) (u := .string n.name) (v := .string ⟨#[47]⟩) (by kernel_rfl) ((hF.ev 48 (cond ((((((decide (l.length = 0)) || (!decide (n.path = 1))) || (!(dirB n))) || (!decide (n.up = 1))) || n.gone) == false) (.string n.name) undef) rfl).trans (cond_t hW)) (rfl) (by kernel_rfl) (rne_str _ _ w)) (fun a hF => ?_)
  rw [List.drop_eq_getElem_cons (show 42 < l_rc1.length by rw [len_rc1]; decide)]
  refine st hF 50 (.bool ((((((decide (l.length = 0)) || (!decide (n.path = 1))) || (!(dirB n))) || (!decide (n.up = 1))) || n.gone) || (!decide (n.name = ⟨#[47]⟩)))) (by kernel_rfl) (by decide) (by kernel_rfl) (rrun_or (y := .const (.bool true)) (x := .tmp 43) (b := (((((decide (l.length = 0)) || (!decide (n.path = 1))) || (!(dirB n))) || (!decide (n.up = 1))) || n.gone)) (b' := (!decide (n.name = ⟨#[47]⟩))) (by kernel_rfl) (hF.ev 43 _ rfl) rfl (hF.ev 49 (cond ((((((decide (l.length = 0)) || (!decide (n.path = 1))) || (!(dirB n))) || (!decide (n.up = 1))) || n.gone) == false) (.bool (!decide (n.name = ⟨#[47]⟩))) undef) rfl)) (fun a hF => ?_)
  rw [show l_rc1.drop 43 = [] from by kernel_rfl]
  exact hE _ _ (hF.sub ((50, .bool ((((((decide (l.length = 0)) || (!decide (n.path = 1))) || (!(dirB n))) || (!decide (n.up = 1))) || n.gone) || (!decide (n.name = ⟨#[47]⟩)))) :: [(1, ptr g 0), (0, v0), (2, v2), (3, v3), (4, v4), (5, v5), (6, v6), (7, v7)]) ⟨rfl, rfl, rfl, rfl, rfl, rfl, rfl, rfl, rfl, trivial⟩) hS
noncomputable def ops_rc16 : Array Oper := match Tryz.f20.body with | some c => (allOps' c).getD 15 #[] | none => #[]
theorem size_rc16 : ops_rc16.size = 13 := by kernel_rfl
set_option maxHeartbeats 4000000 in
theorem rc16_all {w0 : World} {B g b f x c k : Nat} {l : List Nod} {n : Nod} {v0 v2 v3 v4 v8 v9 v10 v11 v12 v13 v14 v15 v16 v17 v18 v19 v20 v21 v22 v23 v24 v25 v26 v27 v28 v29 v30 v31 v32 v33 v34 v35 v36 v37 v38 v39 v40 v41 v42 v43 v44 v45 v46 v47 v48 v49 v50 v51 v52 v53 v54 v55 v56 v57 v58 v59 v60 v61 v62 v63 v64 v65 v66 v67 v68 v69 v70 : Value} {Q : Exit → Act → World → Prop} {a : Act} {w : World} (hl : l.length ≤ 900) (hkl : k < l.length) (hkn : l[k]? = some n)
    (hQ : ∀ d u c a w, Q (.panic c) (a.put d u) w → Q (.panic c) a w) (hF : FrL 100 [(1, ptr g 0), (5, .int .i64 ((k : Nat) : Int)), (0, v0), (2, v2), (3, v3), (4, v4), (8, v8), (9, v9), (10, v10), (11, v11), (12, v12), (13, v13), (14, v14), (15, v15), (16, v16), (17, v17), (18, v18), (19, v19), (20, v20), (21, v21), (22, v22), (23, v23), (24, v24), (25, v25), (26, v26), (27, v27), (28, v28), (29, v29), (30, v30), (31, v31), (32, v32), (33, v33), (34, v34), (35, v35), (36, v36), (37, v37), (38, v38), (39, v39), (40, v40), (41, v41), (42, v42), (43, v43), (44, v44), (45, v45), (46, v46), (47, v47), (48, v48), (49, v49), (50, v50), (51, v51), (52, v52), (53, v53), (54, v54), (55, v55), (56, v56), (57, v57), (58, v58), (59, v59), (60, v60), (61, v61), (62, v62), (63, v63), (64, v64), (65, v65), (66, v66), (67, v67), (68, v68), (69, v69), (70, v70)] a) (hS : ChS B g b f x c l w0 w) (hE : ∀ a w' r, FrL 100 ((7, .bool (wayL l (l.length + 1) n.path).isSome) :: (6, r) :: [(1, ptr g 0), (5, .int .i64 ((k : Nat) : Int)), (0, v0), (2, v2), (3, v3), (4, v4), (8, v8), (9, v9), (10, v10), (11, v11), (12, v12), (13, v13), (14, v14), (15, v15), (16, v16), (17, v17), (18, v18), (19, v19), (20, v20), (21, v21), (22, v22), (23, v23), (24, v24), (25, v25), (26, v26), (27, v27), (28, v28), (29, v29), (30, v30), (31, v31), (32, v32), (33, v33), (34, v34), (35, v35), (36, v36), (37, v37), (38, v38), (39, v39), (40, v40), (41, v41), (42, v42), (43, v43), (44, v44), (45, v45), (46, v46), (47, v47), (48, v48), (49, v49), (50, v50), (51, v51), (52, v52), (53, v53), (54, v54), (55, v55), (56, v56), (57, v57), (58, v58), (59, v59), (60, v60), (61, v61), (62, v62), (63, v63), (64, v64), (65, v65), (66, v66), (67, v67), (68, v68), (69, v69), (70, v70)]) a → ChS B g b f x c l w0 w' → Q .normal a w') :
    wpAnyH Tryz.prog .any ops_rc16 Q (ChS B g b f x c l w0) 13 (Array.replicate 13 false) a w := by
  refine hst (i := 0) (o := ops_rc16[0]'(show 0 < ops_rc16.size by rw [size_rc16]; decide)) hF 79 true (.agg #[.int .u64 (x : Int), .slice (some ⟨b, f, none⟩) l.length c]) (Array.getElem?_eq_getElem (show 0 < ops_rc16.size by rw [size_rc16]; decide)) (by kernel_rfl) (by decide) (by kernel_rfl) (by kernel_rfl) (by kernel_rfl) (hQ _ _) (want_n (by kernel_rfl)) (fun hW w hS => rrun_load (ty := 33) (x := .tmp 1) (by kernel_rfl) (hF.ev 1 (ptr g 0) rfl) (rld_tree (block_cell hS.box 0) (block_cell hS.box 1))) hS (fun a hF => ?_)
  rw [show cond true (.agg #[.int .u64 (x : Int), .slice (some ⟨b, f, none⟩) l.length c]) undef = .agg #[.int .u64 (x : Int), .slice (some ⟨b, f, none⟩) l.length c] from rfl] at hF
  refine hst (i := 1) (o := ops_rc16[1]'(show 1 < ops_rc16.size by rw [size_rc16]; decide)) hF 80 true (ptr g 1) (Array.getElem?_eq_getElem (show 1 < ops_rc16.size by rw [size_rc16]; decide)) (by kernel_rfl) (by decide) (by kernel_rfl) (by kernel_rfl) (by kernel_rfl) (hQ _ _) (want_n (by kernel_rfl)) (fun hW w hS => rrun_fld (T := 33) (x := .tmp 1) (f := 1) (by kernel_rfl) (hF.ev 1 (ptr g 0) rfl) (by kernel_rfl)) hS (fun a hF => ?_)
  rw [show cond true (ptr g 1) undef = ptr g 1 from rfl] at hF
  refine hst (i := 2) (o := ops_rc16[2]'(show 2 < ops_rc16.size by rw [size_rc16]; decide)) hF 81 true (.slice (some ⟨b, f, none⟩) l.length c) (Array.getElem?_eq_getElem (show 2 < ops_rc16.size by rw [size_rc16]; decide)) (by kernel_rfl) (by decide) (by kernel_rfl) (by kernel_rfl) (by kernel_rfl) (hQ _ _) (want_n (by kernel_rfl)) (fun hW w hS => rrun_load (ty := 31) (x := .tmp 80) (by kernel_rfl) (hF.ev 80 (ptr g 1) rfl) (rld_nods (block_cell hS.box 1))) hS (fun a hF => ?_)
  rw [show cond true (.slice (some ⟨b, f, none⟩) l.length c) undef = .slice (some ⟨b, f, none⟩) l.length c from rfl] at hF
  refine hst (i := 3) (o := ops_rc16[3]'(show 3 < ops_rc16.size by rw [size_rc16]; decide)) hF 82 true (.int .i64 ((k : Nat) : Int)) (Array.getElem?_eq_getElem (show 3 < ops_rc16.size by rw [size_rc16]; decide)) (by kernel_rfl) (by decide) (by kernel_rfl) (by kernel_rfl) (by kernel_rfl) (hQ _ _) (want_n (by kernel_rfl)) (fun hW w hS => rrun_move (x := .tmp 5) (.inl (by kernel_rfl)) (hF.ev 5 (.int .i64 ((k : Nat) : Int)) rfl)) hS (fun a hF => ?_)
  rw [show cond true (.int .i64 ((k : Nat) : Int)) undef = .int .i64 ((k : Nat) : Int) from rfl] at hF
  refine hst (i := 4) (o := ops_rc16[4]'(show 4 < ops_rc16.size by rw [size_rc16]; decide)) hF 83 true (ptr b (f + k * 12)) (Array.getElem?_eq_getElem (show 4 < ops_rc16.size by rw [size_rc16]; decide)) (by kernel_rfl) (by decide) (by kernel_rfl) (by kernel_rfl) (by kernel_rfl) (hQ _ _) (want_n (by kernel_rfl)) (fun hW w hS => rrun_idx 12 (ty := 31) (x := .tmp 81) (y := .tmp 82) (by kernel_rfl) (hF.ev 81 (.slice (some ⟨b, f, none⟩) l.length c) rfl) (hF.ev 82 (.int .i64 ((k : Nat) : Int)) rfl) hkl (ridx_nod _ _ _ _ _ hkl (by omega) w)) hS (fun a hF => ?_)
  rw [show cond true (ptr b (f + k * 12)) undef = ptr b (f + k * 12) from rfl] at hF
  refine hst (i := 5) (o := ops_rc16[5]'(show 5 < ops_rc16.size by rw [size_rc16]; decide)) hF 84 true (ptr b (f + k * 12)) (Array.getElem?_eq_getElem (show 5 < ops_rc16.size by rw [size_rc16]; decide)) (by kernel_rfl) (by decide) (by kernel_rfl) (by kernel_rfl) (by kernel_rfl) (hQ _ _) (want_n (by kernel_rfl)) (fun hW w hS => rrun_fld (T := 38) (x := .tmp 83) (f := 0) (by kernel_rfl) (hF.ev 83 (ptr b (f + k * 12)) rfl) (by kernel_rfl)) hS (fun a hF => ?_)
  rw [show cond true (ptr b (f + k * 12)) undef = ptr b (f + k * 12) from rfl] at hF
  refine hst (i := 6) (o := ops_rc16[6]'(show 6 < ops_rc16.size by rw [size_rc16]; decide)) hF 85 true (.int .u64 ((n.path : Nat) : Int)) (Array.getElem?_eq_getElem (show 6 < ops_rc16.size by rw [size_rc16]; decide)) (by kernel_rfl) (by decide) (by kernel_rfl) (by kernel_rfl) (by kernel_rfl) (hQ _ _) (want_n (by kernel_rfl)) (fun hW w hS => rrun_load (ty := 22) (x := .tmp 84) (by kernel_rfl) (hF.ev 84 (ptr b (f + k * 12)) rfl) (rld_u64 (p := ⟨b, f + k * 12, none⟩) (hS.el k n hkn 0 (.int .u64 ((n.path : Nat) : Int)) (by rw [nod_cells]; rfl)))) hS (fun a hF => ?_)
  rw [show cond true (.int .u64 ((n.path : Nat) : Int)) undef = .int .u64 ((n.path : Nat) : Int) from rfl] at hF
  refine hcallx (i := 7) (o := ops_rc16[7]'(show 7 < ops_rc16.size by rw [size_rc16]; decide)) (R := fun v _ => ∃ r, v = .tuple #[r, .bool (wayL l (l.length + 1) n.path).isSome]) hF 86 (Array.getElem?_eq_getElem (show 7 < ops_rc16.size by rw [size_rc16]; decide)) (by kernel_rfl) (by decide) (by kernel_rfl) (want_n (by kernel_rfl)) ⟨46, #[.agg #[.int .u64 (x : Int), .slice (some ⟨b, f, none⟩) l.length c], .int .u64 ((n.path : Nat) : Int)], rrun_call2 (fn := 46) (t := 33) (u := 22) rfl (by kernel_rfl) (by kernel_rfl) (hF.ev 79 _ rfl) (hF.ev 85 _ rfl), (rway_any _ x l n.path w hS.row hl).mono (by rintro e w' ⟨⟨r, rfl⟩, hb⟩; exact ⟨_, rfl, ⟨r, rfl⟩, hS.next hb⟩)⟩ ?_
  rintro v a w ⟨r, rfl⟩ hF hS
  refine hst (i := 8) (o := ops_rc16[8]'(show 8 < ops_rc16.size by rw [size_rc16]; decide)) hF 78 true (.tuple #[r, .bool (wayL l (l.length + 1) n.path).isSome]) (Array.getElem?_eq_getElem (show 8 < ops_rc16.size by rw [size_rc16]; decide)) (by kernel_rfl) (by decide) (by kernel_rfl) (by kernel_rfl) (by kernel_rfl) (hQ _ _) (want_n (by kernel_rfl)) (fun hW w hS => rrun_move (x := .tmp 86) (.inl (by kernel_rfl)) (hF.ev 86 _ rfl)) hS (fun a hF => ?_)
  rw [show cond true (.tuple #[r, .bool (wayL l (l.length + 1) n.path).isSome]) undef = .tuple #[r, .bool (wayL l (l.length + 1) n.path).isSome] from rfl] at hF
  refine hst (i := 9) (o := ops_rc16[9]'(show 9 < ops_rc16.size by rw [size_rc16]; decide)) hF 87 true (r) (Array.getElem?_eq_getElem (show 9 < ops_rc16.size by rw [size_rc16]; decide)) (by kernel_rfl) (by decide) (by kernel_rfl) (by kernel_rfl) (by kernel_rfl) (hQ _ _) (want_n (by kernel_rfl)) (fun hW w hS => rrun_ext (x := .tmp 78) (n := 0) (by kernel_rfl) (hF.ev 78 _ rfl) rfl) hS (fun a hF => ?_)
  rw [show cond true (r) undef = r from rfl] at hF
  refine hst (i := 10) (o := ops_rc16[10]'(show 10 < ops_rc16.size by rw [size_rc16]; decide)) hF 88 true (.bool (wayL l (l.length + 1) n.path).isSome) (Array.getElem?_eq_getElem (show 10 < ops_rc16.size by rw [size_rc16]; decide)) (by kernel_rfl) (by decide) (by kernel_rfl) (by kernel_rfl) (by kernel_rfl) (hQ _ _) (want_n (by kernel_rfl)) (fun hW w hS => rrun_ext (x := .tmp 78) (n := 1) (by kernel_rfl) (hF.ev 78 _ rfl) rfl) hS (fun a hF => ?_)
  rw [show cond true (.bool (wayL l (l.length + 1) n.path).isSome) undef = .bool (wayL l (l.length + 1) n.path).isSome from rfl] at hF
  refine hst (i := 11) (o := ops_rc16[11]'(show 11 < ops_rc16.size by rw [size_rc16]; decide)) hF 6 true (r) (Array.getElem?_eq_getElem (show 11 < ops_rc16.size by rw [size_rc16]; decide)) (by kernel_rfl) (by decide) (by kernel_rfl) (by kernel_rfl) (by kernel_rfl) (hQ _ _) (want_n (by kernel_rfl)) (fun hW w hS => rrun_move (x := .tmp 87) (.inr (by kernel_rfl)) (hF.ev 87 _ rfl)) hS (fun a hF => ?_)
  rw [show cond true (r) undef = r from rfl] at hF
  refine hst (i := 12) (o := ops_rc16[12]'(show 12 < ops_rc16.size by rw [size_rc16]; decide)) hF 7 true (.bool (wayL l (l.length + 1) n.path).isSome) (Array.getElem?_eq_getElem (show 12 < ops_rc16.size by rw [size_rc16]; decide)) (by kernel_rfl) (by decide) (by kernel_rfl) (by kernel_rfl) (by kernel_rfl) (hQ _ _) (want_n (by kernel_rfl)) (fun hW w hS => rrun_move (x := .tmp 88) (.inr (by kernel_rfl)) (hF.ev 88 _ rfl)) hS (fun a hF => ?_)
  rw [show cond true (.bool (wayL l (l.length + 1) n.path).isSome) undef = .bool (wayL l (l.length + 1) n.path).isSome from rfl] at hF
  exact wpAnyH_done (by kernel_rfl) (hE _ _ _ (hF.sub ((7, .bool (wayL l (l.length + 1) n.path).isSome) :: (6, r) :: [(1, ptr g 0), (5, .int .i64 ((k : Nat) : Int)), (0, v0), (2, v2), (3, v3), (4, v4), (8, v8), (9, v9), (10, v10), (11, v11), (12, v12), (13, v13), (14, v14), (15, v15), (16, v16), (17, v17), (18, v18), (19, v19), (20, v20), (21, v21), (22, v22), (23, v23), (24, v24), (25, v25), (26, v26), (27, v27), (28, v28), (29, v29), (30, v30), (31, v31), (32, v32), (33, v33), (34, v34), (35, v35), (36, v36), (37, v37), (38, v38), (39, v39), (40, v40), (41, v41), (42, v42), (43, v43), (44, v44), (45, v45), (46, v46), (47, v47), (48, v48), (49, v49), (50, v50), (51, v51), (52, v52), (53, v53), (54, v54), (55, v55), (56, v56), (57, v57), (58, v58), (59, v59), (60, v60), (61, v61), (62, v62), (63, v63), (64, v64), (65, v65), (66, v66), (67, v67), (68, v68), (69, v69), (70, v70)]) ⟨rfl, rfl, rfl, rfl, rfl, rfl, rfl, rfl, rfl, rfl, rfl, rfl, rfl, rfl, rfl, rfl, rfl, rfl, rfl, rfl, rfl, rfl, rfl, rfl, rfl, rfl, rfl, rfl, rfl, rfl, rfl, rfl, rfl, rfl, rfl, rfl, rfl, rfl, rfl, rfl, rfl, rfl, rfl, rfl, rfl, rfl, rfl, rfl, rfl, rfl, rfl, rfl, rfl, rfl, rfl, rfl, rfl, rfl, rfl, rfl, rfl, rfl, rfl, rfl, rfl, rfl, rfl, rfl, rfl, rfl, rfl, trivial⟩) hS) _
end
end Go.Proofs.YtpmlhmficmillaaGreat

namespace Go.Proofs.YtpmlhmficmillaaGreat
section
open Go.RowKit
set_option maxRecDepth 100000
set_option linter.unusedVariables false

def badR (l : List Nod) (n : Nod) : Bool := ((((((decide (l.length = 0)) || (!decide (n.path = 1))) || (!(dirB n))) || (!decide (n.up = 1))) || n.gone) || (!decide (n.name = ⟨#[47]⟩)))
theorem badR_iff {l : List Nod} {n : Nod} (h0 : l.length ≠ 0) : badR l n = false ↔ n.path = 1 ∧ dirB n = true ∧ n.up = 1 ∧ n.gone = false ∧ n.name = slashS := by
  unfold badR slashS
  simp [h0, and_assoc]
def CheckPost (w : World) (x : Nat) (l : List Nod) (e : Ending) (w' : World) : Prop := ∃ E : Int, e = .returned (.int .i64 E) ∧ (E = 0 ↔ ChkOk ⟨x, l⟩) ∧ Below w.heap.size w w'
theorem check_bad {w w' : World} {x : Nat} {l : List Nod} (E : Int) (hE : E ≠ 0) (h : ¬ ChkOk ⟨x, l⟩) (hb : Below w.heap.size w w') : CheckPost w x l (.returned (.int .i64 E)) w' := ⟨E, rfl, ⟨fun h1 => absurd h1 hE, fun h1 => absurd h1 h⟩, hb⟩
set_option maxHeartbeats 6400000 in
theorem rcheck_any (v : Value) (x : Nat) (l : List Nod) (w : World) (hv : NodsAt w v l) (hl : l.length ≤ 900) (hok : ∀ n ∈ l, NodOk n) (hds : ∀ n ∈ l, n.data.size ≤ 1000000) :
    Calls Tryz.prog 20 #[.agg #[.int .u64 (x : Int), v]] w (CheckPost w x l) := by
  obtain ⟨a, c, rfl, g1, g2⟩ := hv.form
  unfold maxLen at g2
  have mixed : Tryz.prog.follows Departure.mixedOrders = true := by first | kernel_rfl | decide
  obtain ⟨W, hW⟩ : ∃ W, W = w.alloc (.cells #[.int .u64 (x : Int), .slice a l.length c] 33) := ⟨_, rfl⟩
  have hb0 : Below w.heap.size w W := by rw [hW]; exact (Below.refl w.heap.size w).alloc (Nat.le_refl _) _
  have hX0 : W.heap[w.heap.size]? = some (.cells #[.int .u64 (x : Int), .slice a l.length c] 33 (0, 0)) := by rw [hW, heap_alloc_new]
  by_cases h0 : l.length = 0
  · have hR := hid (show ¬ ChkOk ⟨x, l⟩ from fun hc => by
      obtain ⟨r, hr, _⟩ := hc.root
      have := (List.getElem?_eq_some_iff.1 hr).1
      have : 0 < l.length := this
      omega)
    have e1 := block_cell hX0 1
    replace hb0 := hid hb0
    replace hv := hid hv
    rw [h0] at hW e1
    clear hX0
    rw [h0]
    go_enter Tryz.func20, Tryz.ntmps20
    go_wp2_with (rw [← hW]; replace hW := hid hW)
    go_ret
    exact check_bad 2 (by omega) hR.out hb0.out
  obtain ⟨b, o, ha, hr⟩ := (hv.below hb0).range 0 (by omega)
  subst ha
  have hS := hid (show ChS w.heap.size w.heap.size b o x c l w W from ⟨hb0, hX0, hv.below hb0, hb0.size⟩)
  obtain ⟨n, hn⟩ : ∃ n, l[0]? = some n := ⟨l[0]'(by omega), List.getElem?_eq_getElem _⟩
  have hnok := hid (hok n (List.mem_of_getElem? hn))
  replace hn := hid hn
  obtain ⟨bA, hbA⟩ : ∃ bA, bA = badR l n := ⟨_, rfl⟩
  replace hbA := hid hbA
  replace hv := hid hv
  clear hr hb0 hX0
  go_enter Tryz.func20, Tryz.ntmps20
  go_upto_region 1 with (rw [← hW]; replace hW := hid hW)
  try (rw [← hW]; replace hW := hid hW)
  go_cut [50] (fun s50 wx => s50 = .bool bA ∧ Hid (ChS w.heap.size w.heap.size b o x c l w wx))
  case first => as_aux_lemma =>
    rename_i J K' hJ hK
    refine wp_region_list ?_
    refine (show wpList Tryz.prog ops_rc1 _ l_rc1 _ _ → _ from fun h => h) ?_
    refine rc1_all (x := x) (l := l) (n := n) (w0 := w) (B := w.heap.size) (g := w.heap.size) (b := b) (f := o) (c := c) (by omega) (fun _ => hn.out) (fun _ => hnok.out) (FrL.of_all (by rfl) rfl ⟨rfl, rfl, rfl, rfl, rfl, rfl, rfl, rfl, trivial⟩) hS.out (fun a w' hF hS => ?_)
    have hE := hbA.out
    unfold badR at hE
    rw [← hE] at hF
    exact hK _ _ (Met.intro (hJ _ _ ⟨a.tmps.getD 8 undef, a.tmps.getD 9 undef, a.tmps.getD 10 undef, a.tmps.getD 11 undef, a.tmps.getD 12 undef, a.tmps.getD 13 undef, a.tmps.getD 14 undef, a.tmps.getD 15 undef, a.tmps.getD 16 undef, a.tmps.getD 17 undef, a.tmps.getD 18 undef, a.tmps.getD 19 undef, a.tmps.getD 20 undef, a.tmps.getD 21 undef, a.tmps.getD 22 undef, a.tmps.getD 23 undef, a.tmps.getD 24 undef, a.tmps.getD 25 undef, a.tmps.getD 26 undef, a.tmps.getD 27 undef, a.tmps.getD 28 undef, a.tmps.getD 29 undef, a.tmps.getD 30 undef, a.tmps.getD 31 undef, a.tmps.getD 32 undef, a.tmps.getD 33 undef, a.tmps.getD 34 undef, a.tmps.getD 35 undef, a.tmps.getD 36 undef, a.tmps.getD 37 undef, a.tmps.getD 38 undef, a.tmps.getD 39 undef, a.tmps.getD 40 undef, a.tmps.getD 41 undef, a.tmps.getD 42 undef, a.tmps.getD 43 undef, a.tmps.getD 44 undef, a.tmps.getD 45 undef, a.tmps.getD 46 undef, a.tmps.getD 47 undef, a.tmps.getD 48 undef, a.tmps.getD 49 undef, .bool bA, a.tmps.getD 51 undef, a.tmps.getD 52 undef, a.tmps.getD 53 undef, a.tmps.getD 54 undef, a.tmps.getD 55 undef, a.tmps.getD 56 undef, a.tmps.getD 57 undef, a.tmps.getD 58 undef, a.tmps.getD 59 undef, a.tmps.getD 60 undef, a.tmps.getD 61 undef, a.tmps.getD 62 undef, a.tmps.getD 63 undef, a.tmps.getD 64 undef, a.tmps.getD 65 undef, a.tmps.getD 66 undef, a.tmps.getD 67 undef, a.tmps.getD 68 undef, a.tmps.getD 69 undef, a.tmps.getD 70 undef, a.tmps.getD 71 undef, a.tmps.getD 72 undef, a.tmps.getD 73 undef, a.tmps.getD 74 undef, a.tmps.getD 75 undef, a.tmps.getD 76 undef, a.tmps.getD 77 undef, a.tmps.getD 78 undef, a.tmps.getD 79 undef, a.tmps.getD 80 undef, a.tmps.getD 81 undef, a.tmps.getD 82 undef, a.tmps.getD 83 undef, a.tmps.getD 84 undef, a.tmps.getD 85 undef, a.tmps.getD 86 undef, a.tmps.getD 87 undef, a.tmps.getD 88 undef, a.tmps.getD 89 undef, a.tmps.getD 90 undef, a.tmps.getD 91 undef, a.tmps.getD 92 undef, a.tmps.getD 93 undef, a.tmps.getD 94 undef, a.tmps.getD 95 undef, a.tmps.getD 96 undef, a.tmps.getD 97 undef, a.tmps.getD 98 undef, a.tmps.getD 99 undef, ⟨rfl, hid hS⟩, frame_eq hF _ (by rfl) ⟨hF.get 0 _ rfl, hF.get 1 _ rfl, hF.get 2 _ rfl, hF.get 3 _ rfl, hF.get 4 _ rfl, hF.get 5 _ rfl, hF.get 6 _ rfl, hF.get 7 _ rfl, hF.any 8 (by decide), hF.any 9 (by decide), hF.any 10 (by decide), hF.any 11 (by decide), hF.any 12 (by decide), hF.any 13 (by decide), hF.any 14 (by decide), hF.any 15 (by decide), hF.any 16 (by decide), hF.any 17 (by decide), hF.any 18 (by decide), hF.any 19 (by decide), hF.any 20 (by decide), hF.any 21 (by decide), hF.any 22 (by decide), hF.any 23 (by decide), hF.any 24 (by decide), hF.any 25 (by decide), hF.any 26 (by decide), hF.any 27 (by decide), hF.any 28 (by decide), hF.any 29 (by decide), hF.any 30 (by decide), hF.any 31 (by decide), hF.any 32 (by decide), hF.any 33 (by decide), hF.any 34 (by decide), hF.any 35 (by decide), hF.any 36 (by decide), hF.any 37 (by decide), hF.any 38 (by decide), hF.any 39 (by decide), hF.any 40 (by decide), hF.any 41 (by decide), hF.any 42 (by decide), hF.any 43 (by decide), hF.any 44 (by decide), hF.any 45 (by decide), hF.any 46 (by decide), hF.any 47 (by decide), hF.any 48 (by decide), hF.any 49 (by decide), hF.get 50 _ rfl, hF.any 51 (by decide), hF.any 52 (by decide), hF.any 53 (by decide), hF.any 54 (by decide), hF.any 55 (by decide), hF.any 56 (by decide), hF.any 57 (by decide), hF.any 58 (by decide), hF.any 59 (by decide), hF.any 60 (by decide), hF.any 61 (by decide), hF.any 62 (by decide), hF.any 63 (by decide), hF.any 64 (by decide), hF.any 65 (by decide), hF.any 66 (by decide), hF.any 67 (by decide), hF.any 68 (by decide), hF.any 69 (by decide), hF.any 70 (by decide), hF.any 71 (by decide), hF.any 72 (by decide), hF.any 73 (by decide), hF.any 74 (by decide), hF.any 75 (by decide), hF.any 76 (by decide), hF.any 77 (by decide), hF.any 78 (by decide), hF.any 79 (by decide), hF.any 80 (by decide), hF.any 81 (by decide), hF.any 82 (by decide), hF.any 83 (by decide), hF.any 84 (by decide), hF.any 85 (by decide), hF.any 86 (by decide), hF.any 87 (by decide), hF.any 88 (by decide), hF.any 89 (by decide), hF.any 90 (by decide), hF.any 91 (by decide), hF.any 92 (by decide), hF.any 93 (by decide), hF.any 94 (by decide), hF.any 95 (by decide), hF.any 96 (by decide), hF.any 97 (by decide), hF.any 98 (by decide), hF.any 99 (by decide), trivial⟩⟩))
  case rest =>
    clear hS
    obtain ⟨rfl, hS⟩ := hcut
    cases bA with
    | true =>
      have hR := hid (show ¬ ChkOk ⟨x, l⟩ from fun hc => by
        obtain ⟨r, hr, h1⟩ := hc.root
        have hr2 : l[0]? = some r := hr
        rw [hn.out] at hr2; cases hr2
        have := (badR_iff h0).2 h1
        rw [← hbA.out] at this; cases this)
      go_wp2_with fail
      go_ret
      exact check_bad 2 (by omega) hR.out hS.out.bel
    | false =>
      have hroot := hid ((badR_iff h0).1 hbA.out.symm)
      clear hbA
      go_wp2_with fail
      go_loopw [3] (fun kv wr => ∃ k : Nat, k ≤ l.length ∧ kv = .int .i64 (k : Int) ∧ Hid (ChS w.heap.size w.heap.size b o x c l w wr) ∧ Hid (∀ j q, j < k → l[j]? = some q → WrOk x l j q)) (fun kv _ => l.length - (intOf kv).toNat)
      case atStart => exact ⟨0, by omega, rfl, hS, hid (fun j q h1 h2 => by omega)⟩
      case round =>
        clear hS
        obtain ⟨k, hk, rfl, hS, hall⟩ := hrel
        have e0 := block_cell hS.out.box 0
        have e1 := block_cell hS.out.box 1
        by_cases hkl : k < l.length
        · obtain ⟨q, hq⟩ : ∃ q, l[k]? = some q := ⟨l[k], List.getElem?_eq_getElem _⟩
          have hwr := hid (rwrong_any _ x l k q wr hS.out.row hl hq hok hds)
          have q1 : (k : Int) < (l.length : Int) := by omega
          replace hq := hid hq
          go_wp2_with fail
          refine hwr.out.mono ?_
          rintro e w2 ⟨E, rfl, hE, hb2⟩
          have hS2 := hid (hS.out.next hb2)
          clear hS hb2 hwr e0 e1
          by_cases hE0 : E = 0
          · subst hE0
            have hw := hid (hE.1 rfl)
            clear hE
            go_wp2_with fail
            go_roundw
            case rel =>
              refine ⟨k + 1, by omega, by go_num, hS2, hid (fun j p g1 gp => ?_)⟩
              rcases Nat.lt_or_ge j k with h | h
              · exact hall.out j p h gp
              · obtain rfl : j = k := by omega
                rw [hq.out] at gp; cases gp
                exact hw.out
            case measure => simp [intOf]; omega
          · have hR := hid (show ¬ ChkOk ⟨x, l⟩ from fun hc => hE0 (hE.2 (hc.each k q hq.out)))
            have q2 : (E != 0) = true := by simpa using hE0
            replace hE := hid hE
            replace hE0 := hid hE0
            go_wp2_with fail
            go_ret
            exact check_bad E hE0.out hR.out hS2.out.bel
        · obtain rfl : k = l.length := by omega
          have heach := hid (show ∀ j q, l[j]? = some q → WrOk x l j q from fun j q hq => hall.out j q (List.getElem?_eq_some_iff.1 hq).1 hq)
          clear hall
          by_cases h64 : 64 < l.length
          · have q2 : (64 : Int) < (l.length : Int) := by omega
            go_wp2_with fail
            go_ret
            exact check_bad 3 (by omega) (fun hc => by have := hc.few; simp only at this; omega) hS.out.bel
          have q2 : ¬ (64 : Int) < (l.length : Int) := by omega
          have hby := hid (rbytes_any _ x l wr hS.out.row (by omega) hds)
          go_wp2_with fail
          refine hby.out.mono ?_
          rintro e w2 ⟨rfl, hb2⟩
          have hS2 := hid (hS.out.next hb2)
          clear hS hb2 hby e0 e1 hkl
          by_cases hB : 16384 < bytesL l
          · have q3 : (16384 : Int) < (bytesL l : Int) := by omega
            go_wp2_with fail
            go_ret
            exact check_bad 14 (by omega) (fun hc => by have := hc.byt; simp only at this; omega) hS2.out.bel
          have q3 : ¬ (16384 : Int) < (bytesL l : Int) := by omega
          go_wp2_with fail
          go_loopw [5] (fun kv wr => ∃ k : Nat, k ≤ l.length ∧ kv = .int .i64 (k : Int) ∧ Hid (ChS w.heap.size w.heap.size b o x c l w wr) ∧ Hid (∀ j q, j < k → l[j]? = some q → q.gone = false → (wayL l (l.length + 1) q.path).isSome = true)) (fun kv _ => l.length - (intOf kv).toNat)
          case atStart => exact ⟨0, by omega, rfl, hS2, hid (fun j q h1 h2 => by omega)⟩
          case round =>
            clear hS2 q2 q3
            obtain ⟨k, hk, rfl, hS, hall⟩ := hrel
            have e1 := block_cell hS.out.box 1
            by_cases hkl : k < l.length
            · obtain ⟨q, hq⟩ : ∃ q, l[k]? = some q := ⟨l[k], List.getElem?_eq_getElem _⟩
              have q1 : (k : Int) < (l.length : Int) := by omega
              replace hq := hid hq
              obtain ⟨bW, hbW⟩ : ∃ bW, bW = (wayL l (l.length + 1) q.path).isSome := ⟨_, rfl⟩
              replace hbW := hid hbW
              go_wp2_with fail
              go_cut [6, 7] (fun s6 s7 wx => s7 = .bool bW ∧ Hid (ChS w.heap.size w.heap.size b o x c l w wx))
              case first => as_aux_lemma =>
                rename_i J K' hJ hK
                refine wp_region_noPanic ?_
                refine wp_region_held (S := (ChS w.heap.size w.heap.size b o x c l w)) mixed ?_
                refine (show wpAnyH Tryz.prog .any ops_rc16 _ _ _ _ _ _ → _ from fun h => h) ?_
                refine rc16_all (x := x) (l := l) (n := q) (w0 := w) (B := w.heap.size) (g := w.heap.size) (b := b) (f := o) (c := c) hl (by omega) hq.out (fun _ _ _ _ _ h => h) (FrL.of_all (by rfl) rfl ⟨rfl, rfl, rfl, rfl, rfl, rfl, rfl, rfl, rfl, rfl, rfl, rfl, rfl, rfl, rfl, rfl, rfl, rfl, rfl, rfl, rfl, rfl, rfl, rfl, rfl, rfl, rfl, rfl, rfl, rfl, rfl, rfl, rfl, rfl, rfl, rfl, rfl, rfl, rfl, rfl, rfl, rfl, rfl, rfl, rfl, rfl, rfl, rfl, rfl, rfl, rfl, rfl, rfl, rfl, rfl, rfl, rfl, rfl, rfl, rfl, rfl, rfl, rfl, rfl, rfl, rfl, rfl, rfl, rfl, trivial⟩) hS.out.drew (fun a w' r hF hS => ?_)
                rw [← hbW.out] at hF
                exact hK _ _ (Met.intro (hJ _ _ ⟨r, .bool bW, a.tmps.getD 71 undef, a.tmps.getD 72 undef, a.tmps.getD 73 undef, a.tmps.getD 74 undef, a.tmps.getD 75 undef, a.tmps.getD 76 undef, a.tmps.getD 77 undef, a.tmps.getD 78 undef, a.tmps.getD 79 undef, a.tmps.getD 80 undef, a.tmps.getD 81 undef, a.tmps.getD 82 undef, a.tmps.getD 83 undef, a.tmps.getD 84 undef, a.tmps.getD 85 undef, a.tmps.getD 86 undef, a.tmps.getD 87 undef, a.tmps.getD 88 undef, a.tmps.getD 89 undef, a.tmps.getD 90 undef, a.tmps.getD 91 undef, a.tmps.getD 92 undef, a.tmps.getD 93 undef, a.tmps.getD 94 undef, a.tmps.getD 95 undef, a.tmps.getD 96 undef, a.tmps.getD 97 undef, a.tmps.getD 98 undef, a.tmps.getD 99 undef, ⟨rfl, hid hS⟩, frame_eq hF _ (by rfl) ⟨hF.get 0 _ rfl, hF.get 1 _ rfl, hF.get 2 _ rfl, hF.get 3 _ rfl, hF.get 4 _ rfl, hF.get 5 _ rfl, hF.get 6 _ rfl, hF.get 7 _ rfl, hF.get 8 _ rfl, hF.get 9 _ rfl, hF.get 10 _ rfl, hF.get 11 _ rfl, hF.get 12 _ rfl, hF.get 13 _ rfl, hF.get 14 _ rfl, hF.get 15 _ rfl, hF.get 16 _ rfl, hF.get 17 _ rfl, hF.get 18 _ rfl, hF.get 19 _ rfl, hF.get 20 _ rfl, hF.get 21 _ rfl, hF.get 22 _ rfl, hF.get 23 _ rfl, hF.get 24 _ rfl, hF.get 25 _ rfl, hF.get 26 _ rfl, hF.get 27 _ rfl, hF.get 28 _ rfl, hF.get 29 _ rfl, hF.get 30 _ rfl, hF.get 31 _ rfl, hF.get 32 _ rfl, hF.get 33 _ rfl, hF.get 34 _ rfl, hF.get 35 _ rfl, hF.get 36 _ rfl, hF.get 37 _ rfl, hF.get 38 _ rfl, hF.get 39 _ rfl, hF.get 40 _ rfl, hF.get 41 _ rfl, hF.get 42 _ rfl, hF.get 43 _ rfl, hF.get 44 _ rfl, hF.get 45 _ rfl, hF.get 46 _ rfl, hF.get 47 _ rfl, hF.get 48 _ rfl, hF.get 49 _ rfl, hF.get 50 _ rfl, hF.get 51 _ rfl, hF.get 52 _ rfl, hF.get 53 _ rfl, hF.get 54 _ rfl, hF.get 55 _ rfl, hF.get 56 _ rfl, hF.get 57 _ rfl, hF.get 58 _ rfl, hF.get 59 _ rfl, hF.get 60 _ rfl, hF.get 61 _ rfl, hF.get 62 _ rfl, hF.get 63 _ rfl, hF.get 64 _ rfl, hF.get 65 _ rfl, hF.get 66 _ rfl, hF.get 67 _ rfl, hF.get 68 _ rfl, hF.get 69 _ rfl, hF.get 70 _ rfl, hF.any 71 (by decide), hF.any 72 (by decide), hF.any 73 (by decide), hF.any 74 (by decide), hF.any 75 (by decide), hF.any 76 (by decide), hF.any 77 (by decide), hF.any 78 (by decide), hF.any 79 (by decide), hF.any 80 (by decide), hF.any 81 (by decide), hF.any 82 (by decide), hF.any 83 (by decide), hF.any 84 (by decide), hF.any 85 (by decide), hF.any 86 (by decide), hF.any 87 (by decide), hF.any 88 (by decide), hF.any 89 (by decide), hF.any 90 (by decide), hF.any 91 (by decide), hF.any 92 (by decide), hF.any 93 (by decide), hF.any 94 (by decide), hF.any 95 (by decide), hF.any 96 (by decide), hF.any 97 (by decide), hF.any 98 (by decide), hF.any 99 (by decide), trivial⟩⟩))
              case rest =>
                clear hS e1
                obtain ⟨rfl, hS⟩ := hcut
                have e1 := block_cell hS.out.box 1
                have f10 : wc.cell? ⟨b, o + k * 12 + 10, none⟩ = some (.bool q.gone) := hS.out.el k q hq.out 10 _ (by rw [nod_cells]; rfl)
                have i1 : (0 : Int) ≤ (k : Int) := by omega
                rcases hqg : q.gone with _ | _
                · rw [hqg] at f10
                  cases bW with
                  | true =>
                    replace hqg := hid hqg
                    go_wp2_with fail
                    go_roundw
                    case rel =>
                      refine ⟨k + 1, by omega, by go_num, hS, hid (fun j p g1 gp gg => ?_)⟩
                      rcases Nat.lt_or_ge j k with h | h
                      · exact hall.out j p h gp gg
                      · obtain rfl : j = k := by omega
                        rw [hq.out] at gp; cases gp
                        exact hbW.out.symm
                    case measure => simp [intOf]; omega
                  | false =>
                    have hR := hid (show ¬ ChkOk ⟨x, l⟩ from fun hc => by
                      have h1 := hc.way q (List.mem_of_getElem? hq.out) hqg
                      have h2 : (wayL l (l.length + 1) q.path).isSome = true := h1
                      rw [← hbW.out] at h2; cases h2)
                    replace hqg := hid hqg
                    go_wp2_with fail
                    go_ret
                    exact check_bad 2 (by omega) hR.out hS.out.bel
                · rw [hqg] at f10
                  replace hqg := hid hqg
                  go_wp2_with fail
                  go_roundw
                  case rel =>
                    refine ⟨k + 1, by omega, by go_num, hS, hid (fun j p g1 gp gg => ?_)⟩
                    rcases Nat.lt_or_ge j k with h | h
                    · exact hall.out j p h gp gg
                    · obtain rfl : j = k := by omega
                      rw [hq.out] at gp; cases gp
                      rw [hqg.out] at gg; cases gg
                  case measure => simp [intOf]; omega
            · obtain rfl : k = l.length := by omega
              have hR := hid (show ChkOk ⟨x, l⟩ from ⟨⟨n, hn.out, hroot.out⟩, heach.out, by show l.length ≤ 64; omega, by show bytesL l ≤ 16384; omega, fun q hm hg => by
                obtain ⟨j, hj⟩ := List.getElem?_of_mem hm
                exact hall.out j q (List.getElem?_eq_some_iff.1 hj).1 hj hg⟩)
              go_wp2_with fail
              go_ret
              exact ⟨0, rfl, ⟨fun _ => hR.out, fun _ => rfl⟩, hS.out.bel⟩
end
end Go.Proofs.YtpmlhmficmillaaGreat

namespace Go.Proofs.YtpmlhmficmillaaGreat
section
open Go.RowKit
set_option maxRecDepth 100000
set_option linter.unusedVariables false

theorem fewL_len {l : List Nod} (h : fewL l = true) : l.length ≤ 70 := by unfold fewL at h; simp at h; exact h.1
theorem fewL_data {l : List Nod} (h : fewL l = true) : ∀ n ∈ l, n.data.size ≤ 1000000 := fun n hn => by
  unfold fewL fewN at h
  simp at h
  have := h.2 n hn
  omega
def MayPost (w : World) (x : Nat) (l : List Nod) (e : Ending) (w' : World) : Prop := ∃ b : Bool, e = .returned (.bool b) ∧ (b = true → OkC ⟨x, l⟩ ∧ fewL l = true) ∧ Below w.heap.size w w'
set_option maxHeartbeats 3200000 in
theorem may14_any (v : Value) (x : Nat) (l : List Nod) (w : World) (hv : NodsAt w v l) (hok : ∀ n ∈ l, NodOk n) :
    Calls Tryz.prog 9 #[.agg #[.int .u64 (x : Int), v]] w (MayPost w x l) := by
  obtain ⟨a, c, rfl, g1, g2⟩ := hv.form
  unfold maxLen at g2
  obtain ⟨W, hW⟩ : ∃ W, W = w.alloc (.cells #[.int .u64 (x : Int), .slice a l.length c] 25) := ⟨_, rfl⟩
  have hb0 : Below w.heap.size w W := by rw [hW]; exact (Below.refl w.heap.size w).alloc (Nat.le_refl _) _
  have hX0 : W.heap[w.heap.size]? = some (.cells #[.int .u64 (x : Int), .slice a l.length c] 25 (0, 0)) := by rw [hW, heap_alloc_new]
  have hvW := hv.below hb0
  have hfew := hid (few14t_any _ x l W hvW)
  have e0 := block_cell hX0 0
  have e1 := block_cell hX0 1
  rcases hf : fewL l with _ | _
  · rw [hf] at hfew
    replace hf := hid hf
    replace hb0 := hid hb0
    clear hX0
    go_enter Tryz.func9, Tryz.ntmps9
    go_wp2_with (rw [← hW]; replace hW := hid hW)
    refine hfew.out.mono ?_
    rintro e w2 ⟨rfl, hb2⟩
    have hB2 := hid (sn hb0.out hb2)
    go_wp2_with fail
    go_ret
    exact ⟨false, rfl, (fun h => by cases h), hB2.out⟩
  · rw [hf] at hfew
    have hlen := fewL_len hf
    have hdat := fewL_data hf
    replace hf := hid hf
    replace hb0 := hid hb0
    replace hX0 := hid hX0
    replace hvW := hid hvW
    replace hdat := hid hdat
    replace hok := hid hok
    go_enter Tryz.func9, Tryz.ntmps9
    go_wp2_with (rw [← hW]; replace hW := hid hW)
    refine hfew.out.mono ?_
    rintro e w2 ⟨rfl, hb2⟩
    have hB2 := hid (sn hb0.out hb2)
    have hX2 := (hb2.block _ (lt_of_block hX0.out)).trans hX0.out
    have hof := hid (of14_any _ x l w2 (hvW.out.below hb2) (by omega))
    clear e0 e1 hb2 hfew
    have e0 := block_cell hX2 0
    have e1 := block_cell hX2 1
    replace hX2 := hid hX2
    go_wp2_with fail
    refine hof.out.mono ?_
    rintro e w3 ⟨v3, rfl, hv3, _, hb3⟩
    have hB3 := hid (sn hB2.out hb3)
    have hck := hid (rcheck_any v3 x l w3 hv3 (by omega) hok.out hdat.out)
    obtain ⟨a3, c3, rfl, _, _⟩ := hv3.form
    clear e0 e1 hb3 hof hv3
    go_wp2_with fail
    refine hck.out.mono ?_
    rintro e w4 ⟨E, rfl, hE, hb4⟩
    have hB4 := hid (sn hB3.out hb4)
    obtain ⟨bE, hbE⟩ : ∃ bE, bE = (E == 0) := ⟨_, rfl⟩
    have hR := hid (show bE = true → OkC ⟨x, l⟩ from fun h => chk_ok.1 (hE.1 (by rw [hbE] at h; simpa using h)))
    have q1 : (E == 0) = bE := hbE.symm
    replace hbE := hid hbE
    replace hE := hid hE
    clear hb4 hck
    cases bE
    all_goals
      go_wp2_with fail
      go_ret
      exact ⟨_, rfl, (fun h => ⟨(by first | exact hR.out h | exact hR.out trivial | cases h), hf.out⟩), hB4.out⟩
end
end Go.Proofs.YtpmlhmficmillaaGreat
