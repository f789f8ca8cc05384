/- The regions of law TreePlays, operation by operation. Conditions: numbers in their types. -/
import Derived.Test.YtpmlhmficmillaaBunRX
import Derived.Test.YtpmlhmficmillaaBunSV
import Derived.Test.YtpmlhmficmillaaRNd4Z
import Derived.Test.YtpmlhmficmillaaRNd5Z
import Derived.Test.YtpmlhmficmillaaBunRE
namespace Go.Proofs.Ytpmlhmficmillaa
open Go.RowKit
set_option maxRecDepth 100000
set_option linter.unusedVariables false

structure PlS (B g2 g5 : Nat) (av : Value) (x : Nat) (l : List Nod) (tv uv : Value) (al : List ActV) (w0 w : World) : Prop where
  bel : Below B w0 w
  tb : w.heap[g2]? = some (.cells #[.int .u64 (x : Int), tv] 25 (0, 0))
  ub : w.heap[g5]? = some (.cells #[.int .u64 (x : Int), uv] 32 (0, 0))
  tr : NodsAt w tv l
  ur : NodsAt w uv l
  ac : ActsAt w av al
  hB : B ≤ w.heap.size
theorem PlS.next {B g2 g5 x : Nat} {av : Value} {l : List Nod} {tv uv : Value} {al : List ActV} {w0 w w' : World} (h : PlS B g2 g5 av x l tv uv al w0 w) (hb : Below w.heap.size w w') : PlS B g2 g5 av x l tv uv al w0 w' :=
  ⟨h.bel.trans (hb.mono h.hB), (hb.block _ (lt_of_block h.tb)).trans h.tb, (hb.block _ (lt_of_block h.ub)).trans h.ub, h.tr.below hb, h.ur.below hb, h.ac.below hb, Nat.le_trans h.hB hb.size⟩
theorem PlS.drew {B g2 g5 x : Nat} {av : Value} {l : List Nod} {tv uv : Value} {al : List ActV} {w0 w : World} (h : PlS B g2 g5 av x l tv uv al w0 w) : PlS B g2 g5 av x l tv uv al w0 w.drew := h.next (Below.refl _ _).drew
theorem PlS.el {B g2 g5 bA oA cA x : Nat} {l : List Nod} {tv uv : Value} {al : List ActV} {w0 w : World} (h : PlS B g2 g5 (.slice (some ⟨bA, oA, none⟩) al.length cA) x l tv uv al w0 w) (j : Nat) (m : ActV) (hm : al[j]? = some m) : w.rangeAt bA (oA + j * 11) m.cells.toList := by
  obtain ⟨hj, rfl⟩ := List.getElem?_eq_some_iff.1 hm
  obtain ⟨b', o', ha, hr⟩ := h.ac.range j hj
  cases ha
  exact hr
theorem ridx_act (b f n c j : Nat) (hj : j < n) (hn : n ≤ 9223372036854775807) (w : World) : (Instr.indexAt 26 (.slice (some ⟨b, f, none⟩) n c) (.int .i64 (j : Int))).run Try.prog w = .ok (ptr b (f + j * 11)) w := by
  have h1 : (0 : Int) ≤ (j : Int) := by omega
  have h2 : (j : Int) < (n : Int) := by omega
  simp [go_sem, h1, h2, ptr]
theorem rld_int {p : Addr} {v : Value} {w : World} (h : w.cell? p = some v) : (loadVar 3 p).run Try.prog w = .ok v w := by simp [go_sem, h]
theorem rld_act {b f : Nat} {n : ActV} {w : World} (h : w.rangeAt b f n.cells.toList) : (loadVar 36 ⟨b, f, none⟩).run Try.prog w = .ok (.agg n.cells) w := by
  have hl : (loadCells ⟨b, f, none⟩ 11).run Try.prog w = .ok n.cells w := by
    have := run_loadCells_list (P := Try.prog) (w := w) ⟨b, f, none⟩ n.cells.toList (fun j v hv => by rw [Addr.add_mid]; exact h j v hv)
    rw [show n.cells.toList.length = 11 by rw [act_cells]; rfl] at this
    simpa using this
  obtain ⟨i0, hi0, hz0⟩ : ∃ i0, Try.prog.info? 36 = some i0 ∧ i0.size = 11 := ⟨_, rfl, rfl⟩
  have hagg : (isAgg 36).run Try.prog w = .ok true w := by kernel_rfl
  simp [loadVar, Sem.run_bind, hagg, sizeOf, typeInfo, hi0, hz0, hl]
theorem rld_ntree {z : Nat} {u v : Value} {w : World} (h0 : w.cell? ⟨z, 0, none⟩ = some u) (h1 : w.cell? ⟨z, 1, none⟩ = some v) : (loadVar 25 ⟨z, 0, none⟩).run Try.prog w = .ok (.agg #[u, v]) w := by
  have hl : (loadCells ⟨z, 0, none⟩ 2).run Try.prog w = .ok #[u, v] w := by
    refine run_loadCells_list (P := Try.prog) (w := w) ⟨z, 0, none⟩ [u, v] (fun j s hv => ?_)
    match j, hv with
    | 0, hv => cases hv; exact h0
    | 1, hv => cases hv; exact h1
  obtain ⟨i0, hi0, hz0⟩ : ∃ i0, Try.prog.info? 25 = some i0 ∧ i0.size = 2 := ⟨_, rfl, rfl⟩
  have hagg : (isAgg 25).run Try.prog w = .ok true w := by kernel_rfl
  simp [loadVar, Sem.run_bind, hagg, sizeOf, typeInfo, hi0, hz0, hl]

noncomputable def ops_rp9 : Array Oper := match Try.f3.body with | some c => (allOps' c).getD 8 #[] | none => #[]
noncomputable def l_rp9 : List Oper := ops_rp9.toList
theorem len_rp9 : l_rp9.length = 47 := by kernel_rfl
set_option maxHeartbeats 4000000 in
theorem rp9_all {w0 : World} {B g2 g5 bA oA cA x i : Nat} {l : List Nod} {tv uv : Value} {al : List ActV} {z : ActV} (hl : al.length ≤ 9223372036854775807) (hil : i < al.length) (hz : al[i]? = some z) (hz2 : ActOk z)  {v0 v2 v3 v4 v7 v8 v9 v10 v11 v12 v13 v14 v15 v16 v17 v18 v19 v20 v21 v104 v105 v106 : Value} {Q : Exit → Act → World → Prop} {a : Act} {w : World} (hF : FrL 107 [(1, .slice (some ⟨bA, oA, none⟩) al.length cA), (5, ptr g5 0), (6, .int .i64 ((i : Nat) : Int)), (0, v0), (2, v2), (3, v3), (4, v4), (7, v7), (8, v8), (9, v9), (10, v10), (11, v11), (12, v12), (13, v13), (14, v14), (15, v15), (16, v16), (17, v17), (18, v18), (19, v19), (20, v20), (21, v21), (104, v104), (105, v105), (106, v106)] a) (hS : (PlS B g2 g5 (.slice (some ⟨bA, oA, none⟩) al.length cA) x l tv uv al w0) w) (hE : ∀ a w', FrL 107 ((74, .bool ((((decide (z.op = 1)) && (((!(bitsB z.mode)) || (!(asciiB z.who))) || (!(asciiB z.gid)))) || (!(asciiB z.who))) || (decide (1152921504606846976 < x)))) :: [(1, .slice (some ⟨bA, oA, none⟩) al.length cA), (5, ptr g5 0), (6, .int .i64 ((i : Nat) : Int)), (0, v0), (2, v2), (3, v3), (4, v4), (7, v7), (8, v8), (9, v9), (10, v10), (11, v11), (12, v12), (13, v13), (14, v14), (15, v15), (16, v16), (17, v17), (18, v18), (19, v19), (20, v20), (21, v21), (104, v104), (105, v105), (106, v106)]) a → (PlS B g2 g5 (.slice (some ⟨bA, oA, none⟩) al.length cA) x l tv uv al w0) w' → Q .normal a w') : wpList Try.prog ops_rp9 Q (l_rp9.drop 0) a w := by
  rw [List.drop_eq_getElem_cons (show 0 < l_rp9.length by rw [len_rp9]; decide)]
  refine st hF 28 (.slice (some ⟨bA, oA, none⟩) al.length cA) (by kernel_rfl) (by decide) (by kernel_rfl) (rrun_move (x := .tmp 1) (.inl (by kernel_rfl)) (hF.ev 1 (.slice (some ⟨bA, oA, none⟩) al.length cA) rfl)) (fun a hF => ?_)
  rw [List.drop_eq_getElem_cons (show 1 < l_rp9.length by rw [len_rp9]; decide)]
  refine st hF 29 (.int .i64 ((i : Nat) : Int)) (by kernel_rfl) (by decide) (by kernel_rfl) (rrun_move (x := .tmp 6) (.inl (by kernel_rfl)) (hF.ev 6 (.int .i64 ((i : Nat) : Int)) rfl)) (fun a hF => ?_)
  rw [List.drop_eq_getElem_cons (show 2 < l_rp9.length by rw [len_rp9]; decide)]
  refine st hF 30 (ptr bA (oA + i * 11)) (by kernel_rfl) (by decide) (by kernel_rfl) (rrun_idx 11 (ty := 26) (x := .tmp 28) (y := .tmp 29) (by kernel_rfl) (hF.ev 28 (.slice (some ⟨bA, oA, none⟩) al.length cA) rfl) (hF.ev 29 (.int .i64 ((i : Nat) : Int)) rfl) hil (ridx_act _ _ _ _ _ hil hl w)) (fun a hF => ?_)
  rw [List.drop_eq_getElem_cons (show 3 < l_rp9.length by rw [len_rp9]; decide)]
  refine st hF 31 (ptr bA (oA + i * 11)) (by kernel_rfl) (by decide) (by kernel_rfl) (rrun_fld (T := 36) (x := .tmp 30) (f := 0) (by kernel_rfl) (hF.ev 30 (ptr bA (oA + i * 11)) rfl) (by kernel_rfl)) (fun a hF => ?_)
  rw [List.drop_eq_getElem_cons (show 4 < l_rp9.length by rw [len_rp9]; decide)]
  refine st hF 32 (.int .i64 z.op) (by kernel_rfl) (by decide) (by kernel_rfl) (rrun_load (ty := 3) (x := .tmp 31) (by kernel_rfl) (hF.ev 31 (ptr bA (oA + i * 11)) rfl) (rld_int (p := ⟨bA, oA + i * 11, none⟩) (hS.el i z hz 0 (.int .i64 z.op) (by rw [act_cells]; rfl)))) (fun a hF => ?_)
  rw [List.drop_eq_getElem_cons (show 5 < l_rp9.length by rw [len_rp9]; decide)]
  refine st hF 33 (.bool (decide (z.op = 1))) (by kernel_rfl) (by decide) (by kernel_rfl) (rrun_bin (op := .eql) (ty := 3) (ty2 := 3) (x := .tmp 32) (y := .const (.int .i64 1)) (u := .int .i64 z.op) (v := .int .i64 ((1 : Nat) : Int)) (by kernel_rfl) (hF.ev 32 (.int .i64 z.op) rfl) (rfl) (by kernel_rfl) (req_int _ _ w)) (fun a hF => ?_)
  rw [List.drop_eq_getElem_cons (show 6 < l_rp9.length by rw [len_rp9]; decide)]
  refine st hF 34 (.bool (decide (z.op = 1))) (by kernel_rfl) (by decide) (by kernel_rfl) (rrun_move (x := .tmp 33) (.inl (by kernel_rfl)) (hF.ev 33 (.bool (decide (z.op = 1))) rfl)) (fun a hF => ?_)
  rw [List.drop_eq_getElem_cons (show 7 < l_rp9.length by rw [len_rp9]; decide)]
  refine st_if hF 35 ((decide (z.op = 1)) == true) (.slice (some ⟨bA, oA, none⟩) al.length cA) (by kernel_rfl) (by decide) (want_b (gi := 6) (g := 34) (c := (decide (z.op = 1))) hF (by kernel_rfl) (by kernel_rfl) rfl) (fun hW => rrun_move (x := .tmp 1) (.inl (by kernel_rfl)) (hF.ev 1 (.slice (some ⟨bA, oA, none⟩) al.length cA) rfl)) (fun a hF => ?_)
  rw [List.drop_eq_getElem_cons (show 8 < l_rp9.length by rw [len_rp9]; decide)]
  refine st_if hF 36 ((decide (z.op = 1)) == true) (.int .i64 ((i : Nat) : Int)) (by kernel_rfl) (by decide) (want_b (gi := 6) (g := 34) (c := (decide (z.op = 1))) hF (by kernel_rfl) (by kernel_rfl) rfl) (fun hW => rrun_move (x := .tmp 6) (.inl (by kernel_rfl)) (hF.ev 6 (.int .i64 ((i : Nat) : Int)) rfl)) (fun a hF => ?_)
  rw [List.drop_eq_getElem_cons (show 9 < l_rp9.length by rw [len_rp9]; decide)]
  refine st_if hF 37 ((decide (z.op = 1)) == true) (ptr bA (oA + i * 11)) (by kernel_rfl) (by decide) (want_b (gi := 6) (g := 34) (c := (decide (z.op = 1))) hF (by kernel_rfl) (by kernel_rfl) rfl) (fun hW => rrun_idx 11 (ty := 26) (x := .tmp 35) (y := .tmp 36) (by kernel_rfl) ((hF.ev 35 (cond ((decide (z.op = 1)) == true) (.slice (some ⟨bA, oA, none⟩) al.length cA) undef) rfl).trans (cond_t hW)) ((hF.ev 36 (cond ((decide (z.op = 1)) == true) (.int .i64 ((i : Nat) : Int)) undef) rfl).trans (cond_t hW)) hil (ridx_act _ _ _ _ _ hil hl w)) (fun a hF => ?_)
  rw [List.drop_eq_getElem_cons (show 10 < l_rp9.length by rw [len_rp9]; decide)]
  refine st_if hF 38 ((decide (z.op = 1)) == true) (ptr bA (oA + i * 11 + 5)) (by kernel_rfl) (by decide) (want_b (gi := 6) (g := 34) (c := (decide (z.op = 1))) hF (by kernel_rfl) (by kernel_rfl) rfl) (fun hW => rrun_fld (T := 36) (x := .tmp 37) (f := 5) (by kernel_rfl) ((hF.ev 37 (cond ((decide (z.op = 1)) == true) (ptr bA (oA + i * 11)) undef) rfl).trans (cond_t hW)) (by kernel_rfl)) (fun a hF => ?_)
  rw [List.drop_eq_getElem_cons (show 11 < l_rp9.length by rw [len_rp9]; decide)]
  refine st_if hF 39 ((decide (z.op = 1)) == true) (.int .u32 ((z.mode : Nat) : Int)) (by kernel_rfl) (by decide) (want_b (gi := 6) (g := 34) (c := (decide (z.op = 1))) hF (by kernel_rfl) (by kernel_rfl) rfl) (fun hW => rrun_load (ty := 34) (x := .tmp 38) (by kernel_rfl) ((hF.ev 38 (cond ((decide (z.op = 1)) == true) (ptr bA (oA + i * 11 + 5)) undef) rfl).trans (cond_t hW)) (rld_u32 (p := ⟨bA, oA + i * 11 + 5, none⟩) (hS.el i z hz 5 (.int .u32 ((z.mode : Nat) : Int)) (by rw [act_cells]; rfl)))) (fun a hF => ?_)
  rw [List.drop_eq_getElem_cons (show 12 < l_rp9.length by rw [len_rp9]; decide)]
  refine stcall hF 40 ((decide (z.op = 1)) == true) (.bool (bitsB z.mode)) (by kernel_rfl) (by decide) (want_b (gi := 6) (g := 34) (c := (decide (z.op = 1))) hF (by kernel_rfl) (by kernel_rfl) rfl) (fun hW => ⟨12, #[.int .u32 ((z.mode : Nat) : Int)], rrun_call1 (fn := 12) (t := 34) rfl (by kernel_rfl) (by kernel_rfl) ((hF.ev 39 (cond ((decide (z.op = 1)) == true) (.int .u32 ((z.mode : Nat) : Int)) undef) rfl).trans (cond_t hW)), (rbits_any z.mode w hz2.mode).mono (by rintro e w' ⟨rfl, rfl⟩; exact ⟨rfl, hS⟩)⟩) hS (fun a w hF hS => ?_)
  rw [List.drop_eq_getElem_cons (show 13 < l_rp9.length by rw [len_rp9]; decide)]
  refine st_if hF 41 ((decide (z.op = 1)) == true) (.bool (!(bitsB z.mode))) (by kernel_rfl) (by decide) (want_b (gi := 6) (g := 34) (c := (decide (z.op = 1))) hF (by kernel_rfl) (by kernel_rfl) rfl) (fun hW => rrun_not (ty := 4) (x := .tmp 40) (by kernel_rfl) ((hF.ev 40 (cond ((decide (z.op = 1)) == true) (.bool (bitsB z.mode)) undef) rfl).trans (cond_t hW))) (fun a hF => ?_)
  rw [List.drop_eq_getElem_cons (show 14 < l_rp9.length by rw [len_rp9]; decide)]
  refine st_if hF 42 ((decide (z.op = 1)) == true) (.bool (!(bitsB z.mode))) (by kernel_rfl) (by decide) (want_b (gi := 6) (g := 34) (c := (decide (z.op = 1))) hF (by kernel_rfl) (by kernel_rfl) rfl) (fun hW => rrun_move (x := .tmp 41) (.inl (by kernel_rfl)) ((hF.ev 41 (cond ((decide (z.op = 1)) == true) (.bool (!(bitsB z.mode))) undef) rfl).trans (cond_t hW))) (fun a hF => ?_)
  rw [List.drop_eq_getElem_cons (show 15 < l_rp9.length by rw [len_rp9]; decide)]
  refine st_if hF 43 (((decide (z.op = 1)) == true) && ((!(bitsB z.mode)) == false)) (.slice (some ⟨bA, oA, none⟩) al.length cA) (by kernel_rfl) (by decide) (want_c (gi := 14) (g := 42) (c := ((decide (z.op = 1)) == true)) (b := (!(bitsB z.mode))) hF (by kernel_rfl) (by kernel_rfl) rfl) (fun hW => rrun_move (x := .tmp 1) (.inl (by kernel_rfl)) (hF.ev 1 (.slice (some ⟨bA, oA, none⟩) al.length cA) rfl)) (fun a hF => ?_)
  rw [List.drop_eq_getElem_cons (show 16 < l_rp9.length by rw [len_rp9]; decide)]
  refine st_if hF 44 (((decide (z.op = 1)) == true) && ((!(bitsB z.mode)) == false)) (.int .i64 ((i : Nat) : Int)) (by kernel_rfl) (by decide) (want_c (gi := 14) (g := 42) (c := ((decide (z.op = 1)) == true)) (b := (!(bitsB z.mode))) hF (by kernel_rfl) (by kernel_rfl) rfl) (fun hW => rrun_move (x := .tmp 6) (.inl (by kernel_rfl)) (hF.ev 6 (.int .i64 ((i : Nat) : Int)) rfl)) (fun a hF => ?_)
  rw [List.drop_eq_getElem_cons (show 17 < l_rp9.length by rw [len_rp9]; decide)]
  refine st_if hF 45 (((decide (z.op = 1)) == true) && ((!(bitsB z.mode)) == false)) (ptr bA (oA + i * 11)) (by kernel_rfl) (by decide) (want_c (gi := 14) (g := 42) (c := ((decide (z.op = 1)) == true)) (b := (!(bitsB z.mode))) hF (by kernel_rfl) (by kernel_rfl) rfl) (fun hW => rrun_idx 11 (ty := 26) (x := .tmp 43) (y := .tmp 44) (by kernel_rfl) ((hF.ev 43 (cond (((decide (z.op = 1)) == true) && ((!(bitsB z.mode)) == false)) (.slice (some ⟨bA, oA, none⟩) al.length cA) undef) rfl).trans (cond_t hW)) ((hF.ev 44 (cond (((decide (z.op = 1)) == true) && ((!(bitsB z.mode)) == false)) (.int .i64 ((i : Nat) : Int)) undef) rfl).trans (cond_t hW)) hil (ridx_act _ _ _ _ _ hil hl w)) (fun a hF => ?_)
  rw [List.drop_eq_getElem_cons (show 18 < l_rp9.length by rw [len_rp9]; decide)]
  refine st_if hF 46 (((decide (z.op = 1)) == true) && ((!(bitsB z.mode)) == false)) (ptr bA (oA + i * 11 + 7)) (by kernel_rfl) (by decide) (want_c (gi := 14) (g := 42) (c := ((decide (z.op = 1)) == true)) (b := (!(bitsB z.mode))) hF (by kernel_rfl) (by kernel_rfl) rfl) (fun hW => rrun_fld (T := 36) (x := .tmp 45) (f := 7) (by kernel_rfl) ((hF.ev 45 (cond (((decide (z.op = 1)) == true) && ((!(bitsB z.mode)) == false)) (ptr bA (oA + i * 11)) undef) rfl).trans (cond_t hW)) (by kernel_rfl)) (fun a hF => ?_)
  rw [List.drop_eq_getElem_cons (show 19 < l_rp9.length by rw [len_rp9]; decide)]
  refine st_if hF 47 (((decide (z.op = 1)) == true) && ((!(bitsB z.mode)) == false)) (.string z.who) (by kernel_rfl) (by decide) (want_c (gi := 14) (g := 42) (c := ((decide (z.op = 1)) == true)) (b := (!(bitsB z.mode))) hF (by kernel_rfl) (by kernel_rfl) rfl) (fun hW => rrun_load (ty := 9) (x := .tmp 46) (by kernel_rfl) ((hF.ev 46 (cond (((decide (z.op = 1)) == true) && ((!(bitsB z.mode)) == false)) (ptr bA (oA + i * 11 + 7)) undef) rfl).trans (cond_t hW)) (rld_str (p := ⟨bA, oA + i * 11 + 7, none⟩) (hS.el i z hz 7 (.string z.who) (by rw [act_cells]; rfl)))) (fun a hF => ?_)
  rw [List.drop_eq_getElem_cons (show 20 < l_rp9.length by rw [len_rp9]; decide)]
  refine stcall hF 48 (((decide (z.op = 1)) == true) && ((!(bitsB z.mode)) == false)) (.bool (asciiB z.who)) (by kernel_rfl) (by decide) (want_c (gi := 14) (g := 42) (c := ((decide (z.op = 1)) == true)) (b := (!(bitsB z.mode))) hF (by kernel_rfl) (by kernel_rfl) rfl) (fun hW => ⟨13, #[.string z.who], rrun_call1 (fn := 13) (t := 9) rfl (by kernel_rfl) (by kernel_rfl) ((hF.ev 47 (cond (((decide (z.op = 1)) == true) && ((!(bitsB z.mode)) == false)) (.string z.who) undef) rfl).trans (cond_t hW)), (valid17_any z.who w hz2.who).mono (by rintro e w' ⟨rfl, rfl⟩; exact ⟨rfl, hS⟩)⟩) hS (fun a w hF hS => ?_)
  rw [List.drop_eq_getElem_cons (show 21 < l_rp9.length by rw [len_rp9]; decide)]
  refine st_if hF 49 (((decide (z.op = 1)) == true) && ((!(bitsB z.mode)) == false)) (.bool (!(asciiB z.who))) (by kernel_rfl) (by decide) (want_c (gi := 14) (g := 42) (c := ((decide (z.op = 1)) == true)) (b := (!(bitsB z.mode))) hF (by kernel_rfl) (by kernel_rfl) rfl) (fun hW => rrun_not (ty := 4) (x := .tmp 48) (by kernel_rfl) ((hF.ev 48 (cond (((decide (z.op = 1)) == true) && ((!(bitsB z.mode)) == false)) (.bool (asciiB z.who)) undef) rfl).trans (cond_t hW))) (fun a hF => ?_)
  rw [List.drop_eq_getElem_cons (show 22 < l_rp9.length by rw [len_rp9]; decide)]
  refine st_if hF 50 ((decide (z.op = 1)) == true) (.bool ((!(bitsB z.mode)) || (!(asciiB z.who)))) (by kernel_rfl) (by decide) (want_b (gi := 6) (g := 34) (c := (decide (z.op = 1))) hF (by kernel_rfl) (by kernel_rfl) rfl) (fun hW => rrun_orc (y := .const (.bool true)) (x := .tmp 42) (W := ((decide (z.op = 1)) == true)) (b := (!(bitsB z.mode))) (b' := (!(asciiB z.who))) hW (by kernel_rfl) (hF.ev 42 _ rfl) rfl (hF.ev 49 (cond (((decide (z.op = 1)) == true) && ((!(bitsB z.mode)) == false)) (.bool (!(asciiB z.who))) undef) rfl)) (fun a hF => ?_)
  rw [List.drop_eq_getElem_cons (show 23 < l_rp9.length by rw [len_rp9]; decide)]
  refine st_if hF 51 ((decide (z.op = 1)) == true) (.bool ((!(bitsB z.mode)) || (!(asciiB z.who)))) (by kernel_rfl) (by decide) (want_b (gi := 6) (g := 34) (c := (decide (z.op = 1))) hF (by kernel_rfl) (by kernel_rfl) rfl) (fun hW => rrun_move (x := .tmp 50) (.inl (by kernel_rfl)) ((hF.ev 50 (cond ((decide (z.op = 1)) == true) (.bool ((!(bitsB z.mode)) || (!(asciiB z.who)))) undef) rfl).trans (cond_t hW))) (fun a hF => ?_)
  rw [List.drop_eq_getElem_cons (show 24 < l_rp9.length by rw [len_rp9]; decide)]
  refine st_if hF 52 (((decide (z.op = 1)) == true) && (((!(bitsB z.mode)) || (!(asciiB z.who))) == false)) (.slice (some ⟨bA, oA, none⟩) al.length cA) (by kernel_rfl) (by decide) (want_c (gi := 23) (g := 51) (c := ((decide (z.op = 1)) == true)) (b := ((!(bitsB z.mode)) || (!(asciiB z.who)))) hF (by kernel_rfl) (by kernel_rfl) rfl) (fun hW => rrun_move (x := .tmp 1) (.inl (by kernel_rfl)) (hF.ev 1 (.slice (some ⟨bA, oA, none⟩) al.length cA) rfl)) (fun a hF => ?_)
  rw [List.drop_eq_getElem_cons (show 25 < l_rp9.length by rw [len_rp9]; decide)]
  refine st_if hF 53 (((decide (z.op = 1)) == true) && (((!(bitsB z.mode)) || (!(asciiB z.who))) == false)) (.int .i64 ((i : Nat) : Int)) (by kernel_rfl) (by decide) (want_c (gi := 23) (g := 51) (c := ((decide (z.op = 1)) == true)) (b := ((!(bitsB z.mode)) || (!(asciiB z.who)))) hF (by kernel_rfl) (by kernel_rfl) rfl) (fun hW => rrun_move (x := .tmp 6) (.inl (by kernel_rfl)) (hF.ev 6 (.int .i64 ((i : Nat) : Int)) rfl)) (fun a hF => ?_)
  rw [List.drop_eq_getElem_cons (show 26 < l_rp9.length by rw [len_rp9]; decide)]
  refine st_if hF 54 (((decide (z.op = 1)) == true) && (((!(bitsB z.mode)) || (!(asciiB z.who))) == false)) (ptr bA (oA + i * 11)) (by kernel_rfl) (by decide) (want_c (gi := 23) (g := 51) (c := ((decide (z.op = 1)) == true)) (b := ((!(bitsB z.mode)) || (!(asciiB z.who)))) hF (by kernel_rfl) (by kernel_rfl) rfl) (fun hW => rrun_idx 11 (ty := 26) (x := .tmp 52) (y := .tmp 53) (by kernel_rfl) ((hF.ev 52 (cond (((decide (z.op = 1)) == true) && (((!(bitsB z.mode)) || (!(asciiB z.who))) == false)) (.slice (some ⟨bA, oA, none⟩) al.length cA) undef) rfl).trans (cond_t hW)) ((hF.ev 53 (cond (((decide (z.op = 1)) == true) && (((!(bitsB z.mode)) || (!(asciiB z.who))) == false)) (.int .i64 ((i : Nat) : Int)) undef) rfl).trans (cond_t hW)) hil (ridx_act _ _ _ _ _ hil hl w)) (fun a hF => ?_)
  rw [List.drop_eq_getElem_cons (show 27 < l_rp9.length by rw [len_rp9]; decide)]
  refine st_if hF 55 (((decide (z.op = 1)) == true) && (((!(bitsB z.mode)) || (!(asciiB z.who))) == false)) (ptr bA (oA + i * 11 + 8)) (by kernel_rfl) (by decide) (want_c (gi := 23) (g := 51) (c := ((decide (z.op = 1)) == true)) (b := ((!(bitsB z.mode)) || (!(asciiB z.who)))) hF (by kernel_rfl) (by kernel_rfl) rfl) (fun hW => rrun_fld (T := 36) (x := .tmp 54) (f := 8) (by kernel_rfl) ((hF.ev 54 (cond (((decide (z.op = 1)) == true) && (((!(bitsB z.mode)) || (!(asciiB z.who))) == false)) (ptr bA (oA + i * 11)) undef) rfl).trans (cond_t hW)) (by kernel_rfl)) (fun a hF => ?_)
  rw [List.drop_eq_getElem_cons (show 28 < l_rp9.length by rw [len_rp9]; decide)]
  refine st_if hF 56 (((decide (z.op = 1)) == true) && (((!(bitsB z.mode)) || (!(asciiB z.who))) == false)) (.string z.gid) (by kernel_rfl) (by decide) (want_c (gi := 23) (g := 51) (c := ((decide (z.op = 1)) == true)) (b := ((!(bitsB z.mode)) || (!(asciiB z.who)))) hF (by kernel_rfl) (by kernel_rfl) rfl) (fun hW => rrun_load (ty := 9) (x := .tmp 55) (by kernel_rfl) ((hF.ev 55 (cond (((decide (z.op = 1)) == true) && (((!(bitsB z.mode)) || (!(asciiB z.who))) == false)) (ptr bA (oA + i * 11 + 8)) undef) rfl).trans (cond_t hW)) (rld_str (p := ⟨bA, oA + i * 11 + 8, none⟩) (hS.el i z hz 8 (.string z.gid) (by rw [act_cells]; rfl)))) (fun a hF => ?_)
  rw [List.drop_eq_getElem_cons (show 29 < l_rp9.length by rw [len_rp9]; decide)]
  refine stcall hF 57 (((decide (z.op = 1)) == true) && (((!(bitsB z.mode)) || (!(asciiB z.who))) == false)) (.bool (asciiB z.gid)) (by kernel_rfl) (by decide) (want_c (gi := 23) (g := 51) (c := ((decide (z.op = 1)) == true)) (b := ((!(bitsB z.mode)) || (!(asciiB z.who)))) hF (by kernel_rfl) (by kernel_rfl) rfl) (fun hW => ⟨13, #[.string z.gid], rrun_call1 (fn := 13) (t := 9) rfl (by kernel_rfl) (by kernel_rfl) ((hF.ev 56 (cond (((decide (z.op = 1)) == true) && (((!(bitsB z.mode)) || (!(asciiB z.who))) == false)) (.string z.gid) undef) rfl).trans (cond_t hW)), (valid17_any z.gid w hz2.gid).mono (by rintro e w' ⟨rfl, rfl⟩; exact ⟨rfl, hS⟩)⟩) hS (fun a w hF hS => ?_)
  rw [List.drop_eq_getElem_cons (show 30 < l_rp9.length by rw [len_rp9]; decide)]
  refine st_if hF 58 (((decide (z.op = 1)) == true) && (((!(bitsB z.mode)) || (!(asciiB z.who))) == false)) (.bool (!(asciiB z.gid))) (by kernel_rfl) (by decide) (want_c (gi := 23) (g := 51) (c := ((decide (z.op = 1)) == true)) (b := ((!(bitsB z.mode)) || (!(asciiB z.who)))) hF (by kernel_rfl) (by kernel_rfl) rfl) (fun hW => rrun_not (ty := 4) (x := .tmp 57) (by kernel_rfl) ((hF.ev 57 (cond (((decide (z.op = 1)) == true) && (((!(bitsB z.mode)) || (!(asciiB z.who))) == false)) (.bool (asciiB z.gid)) undef) rfl).trans (cond_t hW))) (fun a hF => ?_)
  rw [List.drop_eq_getElem_cons (show 31 < l_rp9.length by rw [len_rp9]; decide)]
  refine st_if hF 59 ((decide (z.op = 1)) == true) (.bool (((!(bitsB z.mode)) || (!(asciiB z.who))) || (!(asciiB z.gid)))) (by kernel_rfl) (by decide) (want_b (gi := 6) (g := 34) (c := (decide (z.op = 1))) hF (by kernel_rfl) (by kernel_rfl) rfl) (fun hW => rrun_orc (y := .const (.bool true)) (x := .tmp 51) (W := ((decide (z.op = 1)) == true)) (b := ((!(bitsB z.mode)) || (!(asciiB z.who)))) (b' := (!(asciiB z.gid))) hW (by kernel_rfl) (hF.ev 51 _ rfl) rfl (hF.ev 58 (cond (((decide (z.op = 1)) == true) && (((!(bitsB z.mode)) || (!(asciiB z.who))) == false)) (.bool (!(asciiB z.gid))) undef) rfl)) (fun a hF => ?_)
  rw [List.drop_eq_getElem_cons (show 32 < l_rp9.length by rw [len_rp9]; decide)]
  refine st hF 60 (.bool ((decide (z.op = 1)) && (((!(bitsB z.mode)) || (!(asciiB z.who))) || (!(asciiB z.gid))))) (by kernel_rfl) (by decide) (by kernel_rfl) (rrun_and (z := .const (.bool false)) (x := .tmp 34) (c := (decide (z.op = 1))) (b := (((!(bitsB z.mode)) || (!(asciiB z.who))) || (!(asciiB z.gid)))) (by kernel_rfl) (hF.ev 34 _ rfl) (hF.ev 59 (cond ((decide (z.op = 1)) == true) (.bool (((!(bitsB z.mode)) || (!(asciiB z.who))) || (!(asciiB z.gid)))) undef) rfl) rfl) (fun a hF => ?_)
  rw [List.drop_eq_getElem_cons (show 33 < l_rp9.length by rw [len_rp9]; decide)]
  refine st hF 61 (.bool ((decide (z.op = 1)) && (((!(bitsB z.mode)) || (!(asciiB z.who))) || (!(asciiB z.gid))))) (by kernel_rfl) (by decide) (by kernel_rfl) (rrun_move (x := .tmp 60) (.inl (by kernel_rfl)) (hF.ev 60 (.bool ((decide (z.op = 1)) && (((!(bitsB z.mode)) || (!(asciiB z.who))) || (!(asciiB z.gid))))) rfl)) (fun a hF => ?_)
  rw [List.drop_eq_getElem_cons (show 34 < l_rp9.length by rw [len_rp9]; decide)]
  refine st_if hF 62 (((decide (z.op = 1)) && (((!(bitsB z.mode)) || (!(asciiB z.who))) || (!(asciiB z.gid)))) == false) (.slice (some ⟨bA, oA, none⟩) al.length cA) (by kernel_rfl) (by decide) (want_b (gi := 33) (g := 61) (c := ((decide (z.op = 1)) && (((!(bitsB z.mode)) || (!(asciiB z.who))) || (!(asciiB z.gid))))) hF (by kernel_rfl) (by kernel_rfl) rfl) (fun hW => rrun_move (x := .tmp 1) (.inl (by kernel_rfl)) (hF.ev 1 (.slice (some ⟨bA, oA, none⟩) al.length cA) rfl)) (fun a hF => ?_)
  rw [List.drop_eq_getElem_cons (show 35 < l_rp9.length by rw [len_rp9]; decide)]
  refine st_if hF 63 (((decide (z.op = 1)) && (((!(bitsB z.mode)) || (!(asciiB z.who))) || (!(asciiB z.gid)))) == false) (.int .i64 ((i : Nat) : Int)) (by kernel_rfl) (by decide) (want_b (gi := 33) (g := 61) (c := ((decide (z.op = 1)) && (((!(bitsB z.mode)) || (!(asciiB z.who))) || (!(asciiB z.gid))))) hF (by kernel_rfl) (by kernel_rfl) rfl) (fun hW => rrun_move (x := .tmp 6) (.inl (by kernel_rfl)) (hF.ev 6 (.int .i64 ((i : Nat) : Int)) rfl)) (fun a hF => ?_)
  rw [List.drop_eq_getElem_cons (show 36 < l_rp9.length by rw [len_rp9]; decide)]
  refine st_if hF 64 (((decide (z.op = 1)) && (((!(bitsB z.mode)) || (!(asciiB z.who))) || (!(asciiB z.gid)))) == false) (ptr bA (oA + i * 11)) (by kernel_rfl) (by decide) (want_b (gi := 33) (g := 61) (c := ((decide (z.op = 1)) && (((!(bitsB z.mode)) || (!(asciiB z.who))) || (!(asciiB z.gid))))) hF (by kernel_rfl) (by kernel_rfl) rfl) (fun hW => rrun_idx 11 (ty := 26) (x := .tmp 62) (y := .tmp 63) (by kernel_rfl) ((hF.ev 62 (cond (((decide (z.op = 1)) && (((!(bitsB z.mode)) || (!(asciiB z.who))) || (!(asciiB z.gid)))) == false) (.slice (some ⟨bA, oA, none⟩) al.length cA) undef) rfl).trans (cond_t hW)) ((hF.ev 63 (cond (((decide (z.op = 1)) && (((!(bitsB z.mode)) || (!(asciiB z.who))) || (!(asciiB z.gid)))) == false) (.int .i64 ((i : Nat) : Int)) undef) rfl).trans (cond_t hW)) hil (ridx_act _ _ _ _ _ hil hl w)) (fun a hF => ?_)
  rw [List.drop_eq_getElem_cons (show 37 < l_rp9.length by rw [len_rp9]; decide)]
  refine st_if hF 65 (((decide (z.op = 1)) && (((!(bitsB z.mode)) || (!(asciiB z.who))) || (!(asciiB z.gid)))) == false) (ptr bA (oA + i * 11 + 7)) (by kernel_rfl) (by decide) (want_b (gi := 33) (g := 61) (c := ((decide (z.op = 1)) && (((!(bitsB z.mode)) || (!(asciiB z.who))) || (!(asciiB z.gid))))) hF (by kernel_rfl) (by kernel_rfl) rfl) (fun hW => rrun_fld (T := 36) (x := .tmp 64) (f := 7) (by kernel_rfl) ((hF.ev 64 (cond (((decide (z.op = 1)) && (((!(bitsB z.mode)) || (!(asciiB z.who))) || (!(asciiB z.gid)))) == false) (ptr bA (oA + i * 11)) undef) rfl).trans (cond_t hW)) (by kernel_rfl)) (fun a hF => ?_)
  rw [List.drop_eq_getElem_cons (show 38 < l_rp9.length by rw [len_rp9]; decide)]
  refine st_if hF 66 (((decide (z.op = 1)) && (((!(bitsB z.mode)) || (!(asciiB z.who))) || (!(asciiB z.gid)))) == false) (.string z.who) (by kernel_rfl) (by decide) (want_b (gi := 33) (g := 61) (c := ((decide (z.op = 1)) && (((!(bitsB z.mode)) || (!(asciiB z.who))) || (!(asciiB z.gid))))) hF (by kernel_rfl) (by kernel_rfl) rfl) (fun hW => rrun_load (ty := 9) (x := .tmp 65) (by kernel_rfl) ((hF.ev 65 (cond (((decide (z.op = 1)) && (((!(bitsB z.mode)) || (!(asciiB z.who))) || (!(asciiB z.gid)))) == false) (ptr bA (oA + i * 11 + 7)) undef) rfl).trans (cond_t hW)) (rld_str (p := ⟨bA, oA + i * 11 + 7, none⟩) (hS.el i z hz 7 (.string z.who) (by rw [act_cells]; rfl)))) (fun a hF => ?_)
  rw [List.drop_eq_getElem_cons (show 39 < l_rp9.length by rw [len_rp9]; decide)]
  refine stcall hF 67 (((decide (z.op = 1)) && (((!(bitsB z.mode)) || (!(asciiB z.who))) || (!(asciiB z.gid)))) == false) (.bool (asciiB z.who)) (by kernel_rfl) (by decide) (want_b (gi := 33) (g := 61) (c := ((decide (z.op = 1)) && (((!(bitsB z.mode)) || (!(asciiB z.who))) || (!(asciiB z.gid))))) hF (by kernel_rfl) (by kernel_rfl) rfl) (fun hW => ⟨13, #[.string z.who], rrun_call1 (fn := 13) (t := 9) rfl (by kernel_rfl) (by kernel_rfl) ((hF.ev 66 (cond (((decide (z.op = 1)) && (((!(bitsB z.mode)) || (!(asciiB z.who))) || (!(asciiB z.gid)))) == false) (.string z.who) undef) rfl).trans (cond_t hW)), (valid17_any z.who w hz2.who).mono (by rintro e w' ⟨rfl, rfl⟩; exact ⟨rfl, hS⟩)⟩) hS (fun a w hF hS => ?_)
  rw [List.drop_eq_getElem_cons (show 40 < l_rp9.length by rw [len_rp9]; decide)]
  refine st_if hF 68 (((decide (z.op = 1)) && (((!(bitsB z.mode)) || (!(asciiB z.who))) || (!(asciiB z.gid)))) == false) (.bool (!(asciiB z.who))) (by kernel_rfl) (by decide) (want_b (gi := 33) (g := 61) (c := ((decide (z.op = 1)) && (((!(bitsB z.mode)) || (!(asciiB z.who))) || (!(asciiB z.gid))))) hF (by kernel_rfl) (by kernel_rfl) rfl) (fun hW => rrun_not (ty := 4) (x := .tmp 67) (by kernel_rfl) ((hF.ev 67 (cond (((decide (z.op = 1)) && (((!(bitsB z.mode)) || (!(asciiB z.who))) || (!(asciiB z.gid)))) == false) (.bool (asciiB z.who)) undef) rfl).trans (cond_t hW))) (fun a hF => ?_)
  rw [List.drop_eq_getElem_cons (show 41 < l_rp9.length by rw [len_rp9]; decide)]
  refine st hF 69 (.bool (((decide (z.op = 1)) && (((!(bitsB z.mode)) || (!(asciiB z.who))) || (!(asciiB z.gid)))) || (!(asciiB z.who)))) (by kernel_rfl) (by decide) (by kernel_rfl) (rrun_or (y := .const (.bool true)) (x := .tmp 61) (b := ((decide (z.op = 1)) && (((!(bitsB z.mode)) || (!(asciiB z.who))) || (!(asciiB z.gid))))) (b' := (!(asciiB z.who))) (by kernel_rfl) (hF.ev 61 _ rfl) rfl (hF.ev 68 (cond (((decide (z.op = 1)) && (((!(bitsB z.mode)) || (!(asciiB z.who))) || (!(asciiB z.gid)))) == false) (.bool (!(asciiB z.who))) undef) rfl)) (fun a hF => ?_)
  rw [List.drop_eq_getElem_cons (show 42 < l_rp9.length by rw [len_rp9]; decide)]
  refine st hF 70 (.bool (((decide (z.op = 1)) && (((!(bitsB z.mode)) || (!(asciiB z.who))) || (!(asciiB z.gid)))) || (!(asciiB z.who)))) (by kernel_rfl) (by decide) (by kernel_rfl) (rrun_move (x := .tmp 69) (.inl (by kernel_rfl)) (hF.ev 69 (.bool (((decide (z.op = 1)) && (((!(bitsB z.mode)) || (!(asciiB z.who))) || (!(asciiB z.gid)))) || (!(asciiB z.who)))) rfl)) (fun a hF => ?_)
  rw [List.drop_eq_getElem_cons (show 43 < l_rp9.length by rw [len_rp9]; decide)]
  refine st_if hF 71 ((((decide (z.op = 1)) && (((!(bitsB z.mode)) || (!(asciiB z.who))) || (!(asciiB z.gid)))) || (!(asciiB z.who))) == false) (ptr g5 0) (by kernel_rfl) (by decide) (want_b (gi := 42) (g := 70) (c := (((decide (z.op = 1)) && (((!(bitsB z.mode)) || (!(asciiB z.who))) || (!(asciiB z.gid)))) || (!(asciiB z.who)))) hF (by kernel_rfl) (by kernel_rfl) rfl) (fun hW => rrun_fld (T := 32) (x := .tmp 5) (f := 0) (by kernel_rfl) (hF.ev 5 (ptr g5 0) rfl) (by kernel_rfl)) (fun a hF => ?_)
  rw [List.drop_eq_getElem_cons (show 44 < l_rp9.length by rw [len_rp9]; decide)]
  refine st_if hF 72 ((((decide (z.op = 1)) && (((!(bitsB z.mode)) || (!(asciiB z.who))) || (!(asciiB z.gid)))) || (!(asciiB z.who))) == false) (.int .u64 ((x : Nat) : Int)) (by kernel_rfl) (by decide) (want_b (gi := 42) (g := 70) (c := (((decide (z.op = 1)) && (((!(bitsB z.mode)) || (!(asciiB z.who))) || (!(asciiB z.gid)))) || (!(asciiB z.who)))) hF (by kernel_rfl) (by kernel_rfl) rfl) (fun hW => rrun_load (ty := 22) (x := .tmp 71) (by kernel_rfl) ((hF.ev 71 (cond ((((decide (z.op = 1)) && (((!(bitsB z.mode)) || (!(asciiB z.who))) || (!(asciiB z.gid)))) || (!(asciiB z.who))) == false) (ptr g5 0) undef) rfl).trans (cond_t hW)) (rld_u64 (block_cell hS.ub 0))) (fun a hF => ?_)
  rw [List.drop_eq_getElem_cons (show 45 < l_rp9.length by rw [len_rp9]; decide)]
  refine st_if hF 73 ((((decide (z.op = 1)) && (((!(bitsB z.mode)) || (!(asciiB z.who))) || (!(asciiB z.gid)))) || (!(asciiB z.who))) == false) (.bool (decide (1152921504606846976 < x))) (by kernel_rfl) (by decide) (want_b (gi := 42) (g := 70) (c := (((decide (z.op = 1)) && (((!(bitsB z.mode)) || (!(asciiB z.who))) || (!(asciiB z.gid)))) || (!(asciiB z.who)))) hF (by kernel_rfl) (by kernel_rfl) rfl) (fun hW => rrun_bin (op := .gtr) (ty := 22) (ty2 := 22) (x := .tmp 72) (y := .const (.int .u64 1152921504606846976)) (u := .int .u64 ((x : Nat) : Int)) (v := .int .u64 ((1152921504606846976 : Nat) : Int)) (by kernel_rfl) ((hF.ev 72 (cond ((((decide (z.op = 1)) && (((!(bitsB z.mode)) || (!(asciiB z.who))) || (!(asciiB z.gid)))) || (!(asciiB z.who))) == false) (.int .u64 ((x : Nat) : Int)) undef) rfl).trans (cond_t hW)) (rfl) (by kernel_rfl) (rgt_u64 _ _ w)) (fun a hF => ?_)
  rw [List.drop_eq_getElem_cons (show 46 < l_rp9.length by rw [len_rp9]; decide)]
  refine st hF 74 (.bool ((((decide (z.op = 1)) && (((!(bitsB z.mode)) || (!(asciiB z.who))) || (!(asciiB z.gid)))) || (!(asciiB z.who))) || (decide (1152921504606846976 < x)))) (by kernel_rfl) (by decide) (by kernel_rfl) (rrun_or (y := .const (.bool true)) (x := .tmp 70) (b := (((decide (z.op = 1)) && (((!(bitsB z.mode)) || (!(asciiB z.who))) || (!(asciiB z.gid)))) || (!(asciiB z.who)))) (b' := (decide (1152921504606846976 < x))) (by kernel_rfl) (hF.ev 70 _ rfl) rfl (hF.ev 73 (cond ((((decide (z.op = 1)) && (((!(bitsB z.mode)) || (!(asciiB z.who))) || (!(asciiB z.gid)))) || (!(asciiB z.who))) == false) (.bool (decide (1152921504606846976 < x))) undef) rfl)) (fun a hF => ?_)
  rw [show l_rp9.drop 47 = [] from by kernel_rfl]
  exact hE _ _ (hF.sub ((74, .bool ((((decide (z.op = 1)) && (((!(bitsB z.mode)) || (!(asciiB z.who))) || (!(asciiB z.gid)))) || (!(asciiB z.who))) || (decide (1152921504606846976 < x)))) :: [(1, .slice (some ⟨bA, oA, none⟩) al.length cA), (5, ptr g5 0), (6, .int .i64 ((i : Nat) : Int)), (0, v0), (2, v2), (3, v3), (4, v4), (7, v7), (8, v8), (9, v9), (10, v10), (11, v11), (12, v12), (13, v13), (14, v14), (15, v15), (16, v16), (17, v17), (18, v18), (19, v19), (20, v20), (21, v21), (104, v104), (105, v105), (106, v106)]) ⟨rfl, rfl, rfl, rfl, rfl, rfl, rfl, rfl, rfl, rfl, rfl, rfl, rfl, rfl, rfl, rfl, rfl, rfl, rfl, rfl, rfl, rfl, rfl, rfl, rfl, rfl, trivial⟩) hS
noncomputable def ops_rp11 : Array Oper := match Try.f3.body with | some c => (allOps' c).getD 10 #[] | none => #[]
theorem size_rp11 : ops_rp11.size = 16 := by kernel_rfl
theorem rp11_fin {w1 : World} {kA kB : Nat} {T : Tr} {v' u' : Value} {Q : Exit → Act → World → Prop} {a : Act} {w : World} {fx : List (Nat × Value)} {listed : Array Bool} (hF : FrL 107 fx a) (h7 : fx.lookup 7 = some (ptr kA 0)) (h8 : fx.lookup 8 = some (ptr kB 0))
    (h83 : fx.lookup 83 = some (.agg #[.int .u64 (T.next : Int), v'])) (h84 : fx.lookup 84 = some (.agg #[.int .u64 (T.next : Int), u'])) (h85 : fx.lookup 85 = some (.bool true)) (fA : w.heap[kA]? = some (.cells #[.int .u64 0, .slice none 0 0] 25 (0, 0))) (fB : w.heap[kB]? = some (.cells #[.int .u64 0, .slice none 0 0] 32 (0, 0))) (hne : kA ≠ kB) (gA : w1.heap.size ≤ kA) (gB : w1.heap.size ≤ kB)
    (hv : NodsAt w v' T.n) (hu : NodsAt w u' T.n) (hTn : T.n ≠ []) (hv1 : v'.oneCell' = true) (hu1 : u'.oneCell' = true) (hS : Below w1.heap.size w1 w)
    (r1 : Region.ready .any ops_rp11 listed = [13]) (r2 : Region.ready .any ops_rp11 (listed.setIfInBounds 13 true) = [14]) (r3 : (Region.ready .any ops_rp11 ((listed.setIfInBounds 13 true).setIfInBounds 14 true)).contains 15 = true) (r4 : Region.free .any ops_rp11 ((listed.setIfInBounds 13 true).setIfInBounds 14 true) 15 = true)
    (r5 : Region.ready .any ops_rp11 (((listed.setIfInBounds 13 true).setIfInBounds 14 true).setIfInBounds 15 true) = [])
    (hQ : ∀ d u c a w, Q (.panic c) (a.put d u) w → Q (.panic c) a w)
    (hE : ∀ a w', FrL 107 ((9, .bool true) :: fx) a → Below w1.heap.size w1 w' → w'.heap[kA]? = some (.cells #[.int .u64 (T.next : Int), v'] 25 (0, 0)) → w'.heap[kB]? = some (.cells #[.int .u64 (T.next : Int), u'] 32 (0, 0)) → NodsAt w' v' T.n → NodsAt w' u' T.n → Q .normal a w') :
    wpAnyH Try.prog .any ops_rp11 Q (Below w1.heap.size w1) 3 listed a w := by
  have o1 := own_not hv hTn fA (by show 2 < 12; omega)
  have o2 := own_not hu hTn fA (by show 2 < 12; omega)
  have o3 := own_not hv hTn fB (by show 2 < 12; omega)
  have o4 := own_not hu hTn fB (by show 2 < 12; omega)
  refine wpAnyH_all (rs := [13]) r1 (by simp) fun j hj => ?_
  obtain rfl : j = 13 := by simpa using hj
  refine hdo0 (o := ops_rp11[13]'(show 13 < ops_rp11.size by rw [size_rp11]; decide)) (w.setRow kA #[.int .u64 (T.next : Int), v']) (Array.getElem?_eq_getElem (show 13 < ops_rp11.size by rw [size_rp11]; decide)) (by kernel_rfl) (want_n (by kernel_rfl)) (rrun_store (t := 25) (x := .tmp 7) (y := .tmp 83) (by kernel_rfl) (hF.ev 7 _ h7) (hF.ev 83 _ h83) fA (by kernel_rfl) rfl (Array.all_eq_true_iff_forall_mem.2 (by intro u hu; simp at hu; rcases hu with rfl | rfl; exact rfl; exact hv1))) ?_
  have hS2 := below_setRow (g := kA) hS gA #[.int .u64 (T.next : Int), v']
  refine ⟨hS2, ?_⟩
  have fA2 := setRow_heap w kA _ #[.int .u64 (T.next : Int), v'] _ _ fA
  have fB2 := (setRow_other w kA kB #[.int .u64 (T.next : Int), v'] (Ne.symm hne)).trans fB
  have hv2 := hv.other (w' := w.setRow kA #[.int .u64 (T.next : Int), v']) kA o1 (by simp) (fun k hk => setRow_other w kA k #[.int .u64 (T.next : Int), v'] hk)
  have hu2 := hu.other (w' := w.setRow kA #[.int .u64 (T.next : Int), v']) kA o2 (by simp) (fun k hk => setRow_other w kA k #[.int .u64 (T.next : Int), v'] hk)
  generalize w.setRow kA #[.int .u64 (T.next : Int), v'] = w2 at hS2 fA2 fB2 hv2 hu2 ⊢
  refine wpAnyH_all (rs := [14]) r2 (by simp) fun j hj => ?_
  obtain rfl : j = 14 := by simpa using hj
  refine hdo0 (o := ops_rp11[14]'(show 14 < ops_rp11.size by rw [size_rp11]; decide)) (w2.setRow kB #[.int .u64 (T.next : Int), u']) (Array.getElem?_eq_getElem (show 14 < ops_rp11.size by rw [size_rp11]; decide)) (by kernel_rfl) (want_n (by kernel_rfl)) (rrun_store (t := 32) (x := .tmp 8) (y := .tmp 84) (by kernel_rfl) (hF.ev 8 _ h8) (hF.ev 84 _ h84) fB2 (by kernel_rfl) rfl (Array.all_eq_true_iff_forall_mem.2 (by intro u hu; simp at hu; rcases hu with rfl | rfl; exact rfl; exact hu1))) ?_
  have hS3 := below_setRow (g := kB) hS2 gB #[.int .u64 (T.next : Int), u']
  refine ⟨hS3, ?_⟩
  have fA3 := (setRow_other w2 kB kA #[.int .u64 (T.next : Int), u'] hne).trans fA2
  have fB3 := setRow_heap w2 kB _ #[.int .u64 (T.next : Int), u'] _ _ fB2
  have hv3 := hv2.other (w' := w2.setRow kB #[.int .u64 (T.next : Int), u']) kB o3 (by simp) (fun k hk => setRow_other w2 kB k #[.int .u64 (T.next : Int), u'] hk)
  have hu3 := hu2.other (w' := w2.setRow kB #[.int .u64 (T.next : Int), u']) kB o4 (by simp) (fun k hk => setRow_other w2 kB k #[.int .u64 (T.next : Int), u'] hk)
  generalize w2.setRow kB #[.int .u64 (T.next : Int), u'] = w3 at hS3 fA3 fB3 hv3 hu3 ⊢
  refine hst (i := 15) (o := ops_rp11[15]'(show 15 < ops_rp11.size by rw [size_rp11]; decide)) hF 9 true (.bool true) (Array.getElem?_eq_getElem (show 15 < ops_rp11.size by rw [size_rp11]; decide)) (by kernel_rfl) (by decide) (by kernel_rfl) r4 r3 (hQ _ _) (want_n (by kernel_rfl)) (fun hW w hS => rrun_move (x := .tmp 85) (.inr (by kernel_rfl)) (hF.ev 85 _ h85)) hS3 (fun a hF => ?_)
  rw [show cond true (Value.bool true) undef = .bool true from rfl] at hF
  exact wpAnyH_done r5 (hE _ _ hF hS3 fA3 fB3 hv3 hu3) _

set_option maxHeartbeats 4000000 in
theorem rp11_all {w0 w1 : World} {B g2 g5 bA oA cA x i : Nat} {l : List Nod} {tv uv : Value} {al : List ActV} {z : ActV} {T : Tr} {v0 v3 v4 v10 v11 v12 v13 v14 v15 v16 v17 v18 v19 v20 v21 v104 v105 v106 : Value} {Q : Exit → Act → World → Prop} {a : Act} {w : World} (hl : al.length ≤ 9223372036854775807) (hil : i < al.length) (hz : al[i]? = some z)
    (hP : PlS B g2 g5 (.slice (some ⟨bA, oA, none⟩) al.length cA) x l tv uv al w0 w1) (hTn : T.n ≠ []) (hstep : ∀ w, NodsAt w tv l → NodsAt w uv l → Calls Try.prog 14 #[.agg #[.int .u64 (x : Int), tv], .agg #[.int .u64 (x : Int), uv], .agg z.cells] w (StepPost w T))
    (hQ : ∀ d u c a w, Q (.panic c) (a.put d u) w → Q (.panic c) a w) (hF : FrL 107 [(1, .slice (some ⟨bA, oA, none⟩) al.length cA), (2, ptr g2 0), (5, ptr g5 0), (6, .int .i64 ((i : Nat) : Int)), (0, v0), (3, v3), (4, v4), (10, v10), (11, v11), (12, v12), (13, v13), (14, v14), (15, v15), (16, v16), (17, v17), (18, v18), (19, v19), (20, v20), (21, v21), (104, v104), (105, v105), (106, v106)] a) (hS : Below w1.heap.size w1 w)
    (hE : ∀ a w' kA kB v' u', FrL 107 ((9, .bool true) :: (8, ptr kB 0) :: (7, ptr kA 0) :: [(1, .slice (some ⟨bA, oA, none⟩) al.length cA), (2, ptr g2 0), (5, ptr g5 0), (6, .int .i64 ((i : Nat) : Int)), (0, v0), (3, v3), (4, v4), (10, v10), (11, v11), (12, v12), (13, v13), (14, v14), (15, v15), (16, v16), (17, v17), (18, v18), (19, v19), (20, v20), (21, v21), (104, v104), (105, v105), (106, v106)]) a → Below w1.heap.size w1 w' → w'.heap[kA]? = some (.cells #[.int .u64 (T.next : Int), v'] 25 (0, 0)) → w'.heap[kB]? = some (.cells #[.int .u64 (T.next : Int), u'] 32 (0, 0)) → NodsAt w' v' T.n → NodsAt w' u' T.n → w1.heap.size ≤ kA → w1.heap.size ≤ kB → kA ≠ kB → Q .normal a w') :
    wpAnyH Try.prog .any ops_rp11 Q (Below w1.heap.size w1) 16 (Array.replicate 16 false) a w := by
  refine hst (i := 0) (o := ops_rp11[0]'(show 0 < ops_rp11.size by rw [size_rp11]; decide)) hF 76 true (.agg #[.int .u64 (x : Int), tv]) (Array.getElem?_eq_getElem (show 0 < ops_rp11.size by rw [size_rp11]; decide)) (by kernel_rfl) (by decide) (by kernel_rfl) (by kernel_rfl) (by kernel_rfl) (hQ _ _) (want_n (by kernel_rfl)) (fun hW w hS => rrun_load (ty := 25) (x := .tmp 2) (by kernel_rfl) (hF.ev 2 (ptr g2 0) rfl) (rld_ntree (block_cell (hP.next hS).tb 0) (block_cell (hP.next hS).tb 1))) hS (fun a hF => ?_)
  rw [show cond true (.agg #[.int .u64 (x : Int), tv]) undef = .agg #[.int .u64 (x : Int), tv] from rfl] at hF
  refine hst (i := 1) (o := ops_rp11[1]'(show 1 < ops_rp11.size by rw [size_rp11]; decide)) hF 77 true (.agg #[.int .u64 (x : Int), uv]) (Array.getElem?_eq_getElem (show 1 < ops_rp11.size by rw [size_rp11]; decide)) (by kernel_rfl) (by decide) (by kernel_rfl) (by kernel_rfl) (by kernel_rfl) (hQ _ _) (want_n (by kernel_rfl)) (fun hW w hS => rrun_load (ty := 32) (x := .tmp 5) (by kernel_rfl) (hF.ev 5 (ptr g5 0) rfl) (rld_tree (block_cell (hP.next hS).ub 0) (block_cell (hP.next hS).ub 1))) hS (fun a hF => ?_)
  rw [show cond true (.agg #[.int .u64 (x : Int), uv]) undef = .agg #[.int .u64 (x : Int), uv] from rfl] at hF
  refine hst (i := 2) (o := ops_rp11[2]'(show 2 < ops_rp11.size by rw [size_rp11]; decide)) hF 78 true (.slice (some ⟨bA, oA, none⟩) al.length cA) (Array.getElem?_eq_getElem (show 2 < ops_rp11.size by rw [size_rp11]; decide)) (by kernel_rfl) (by decide) (by kernel_rfl) (by kernel_rfl) (by kernel_rfl) (hQ _ _) (want_n (by kernel_rfl)) (fun hW w hS => rrun_move (x := .tmp 1) (.inl (by kernel_rfl)) (hF.ev 1 (.slice (some ⟨bA, oA, none⟩) al.length cA) rfl)) hS (fun a hF => ?_)
  rw [show cond true (.slice (some ⟨bA, oA, none⟩) al.length cA) undef = .slice (some ⟨bA, oA, none⟩) al.length cA from rfl] at hF
  refine hst (i := 3) (o := ops_rp11[3]'(show 3 < ops_rp11.size by rw [size_rp11]; decide)) hF 79 true (.int .i64 ((i : Nat) : Int)) (Array.getElem?_eq_getElem (show 3 < ops_rp11.size by rw [size_rp11]; decide)) (by kernel_rfl) (by decide) (by kernel_rfl) (by kernel_rfl) (by kernel_rfl) (hQ _ _) (want_n (by kernel_rfl)) (fun hW w hS => rrun_move (x := .tmp 6) (.inl (by kernel_rfl)) (hF.ev 6 (.int .i64 ((i : Nat) : Int)) rfl)) hS (fun a hF => ?_)
  rw [show cond true (.int .i64 ((i : Nat) : Int)) undef = .int .i64 ((i : Nat) : Int) from rfl] at hF
  refine hst (i := 4) (o := ops_rp11[4]'(show 4 < ops_rp11.size by rw [size_rp11]; decide)) hF 80 true (ptr bA (oA + i * 11)) (Array.getElem?_eq_getElem (show 4 < ops_rp11.size by rw [size_rp11]; decide)) (by kernel_rfl) (by decide) (by kernel_rfl) (by kernel_rfl) (by kernel_rfl) (hQ _ _) (want_n (by kernel_rfl)) (fun hW w hS => rrun_idx 11 (ty := 26) (x := .tmp 78) (y := .tmp 79) (by kernel_rfl) (hF.ev 78 (.slice (some ⟨bA, oA, none⟩) al.length cA) rfl) (hF.ev 79 (.int .i64 ((i : Nat) : Int)) rfl) hil (ridx_act _ _ _ _ _ hil hl w)) hS (fun a hF => ?_)
  rw [show cond true (ptr bA (oA + i * 11)) undef = ptr bA (oA + i * 11) from rfl] at hF
  refine hst (i := 5) (o := ops_rp11[5]'(show 5 < ops_rp11.size by rw [size_rp11]; decide)) hF 81 true (.agg z.cells) (Array.getElem?_eq_getElem (show 5 < ops_rp11.size by rw [size_rp11]; decide)) (by kernel_rfl) (by decide) (by kernel_rfl) (by kernel_rfl) (by kernel_rfl) (hQ _ _) (want_n (by kernel_rfl)) (fun hW w hS => rrun_load (ty := 36) (x := .tmp 80) (by kernel_rfl) (hF.ev 80 (ptr bA (oA + i * 11)) rfl) (rld_act ((hP.next hS).el i z hz))) hS (fun a hF => ?_)
  rw [show cond true (.agg z.cells) undef = .agg z.cells from rfl] at hF
  refine wpAnyH_all (rs := [6, 11, 12]) (by kernel_rfl) (by simp) fun j hj => ?_
  have hj2 : j = 6 ∨ j = 11 ∨ j = 12 := by simpa using hj
  rcases hj2 with rfl | rfl | rfl
  · skip
    refine hdoc (i := 6) (o := ops_rp11[6]'(show 6 < ops_rp11.size by rw [size_rp11]; decide)) (R := fun v w' => ∃ v' u', v = .tuple #[.agg #[.int .u64 (T.next : Int), v'], .agg #[.int .u64 (T.next : Int), u'], .bool true] ∧ NodsAt w' v' T.n ∧ NodsAt w' u' T.n ∧ Below w.heap.size w w') hF 82 (Array.getElem?_eq_getElem (show 6 < ops_rp11.size by rw [size_rp11]; decide)) (by kernel_rfl) (by decide) (want_n (by kernel_rfl)) ⟨14, #[.agg #[.int .u64 (x : Int), tv], .agg #[.int .u64 (x : Int), uv], .agg z.cells], rrun_call3 (x := .tmp 76) (y := .tmp 77) (z := .tmp 81) (fn := 14) (t := 25) (u := 32) (s := 36) rfl (by kernel_rfl) (by kernel_rfl) (hF.ev 76 _ rfl) (hF.ev 77 _ rfl) (hF.ev 81 _ rfl), (hstep w (hP.next hS).tr (hP.next hS).ur).mono (by rintro e w' ⟨v', u', rfl, h1, h2, h3⟩; exact ⟨_, rfl, v', u', rfl, h1, h2, h3⟩)⟩ ?_
    rintro _ a wc ⟨v', u', rfl, hv, hu, hb⟩ hF
    replace hS := hS.trans (hb.mono hS.size)
    refine ⟨hS, ?_⟩
    clear hb
    have hv1 : v'.oneCell' = true := by obtain ⟨q1, q2, rfl, _⟩ := hv.form; rfl
    have hu1 : u'.oneCell' = true := by obtain ⟨q1, q2, rfl, _⟩ := hu.form; rfl
    refine hst (i := 7) (o := ops_rp11[7]'(show 7 < ops_rp11.size by rw [size_rp11]; decide)) hF 75 true (.tuple #[.agg #[.int .u64 (T.next : Int), v'], .agg #[.int .u64 (T.next : Int), u'], .bool true]) (Array.getElem?_eq_getElem (show 7 < ops_rp11.size by rw [size_rp11]; decide)) (by kernel_rfl) (by decide) (by kernel_rfl) (by kernel_rfl) (by kernel_rfl) (hQ _ _) (want_n (by kernel_rfl)) (fun hW w hS => rrun_move (x := .tmp 82) (.inl (by kernel_rfl)) (hF.ev 82 _ rfl)) hS (fun a hF => ?_)
    rw [show cond true (.tuple #[.agg #[.int .u64 (T.next : Int), v'], .agg #[.int .u64 (T.next : Int), u'], .bool true]) undef = .tuple #[.agg #[.int .u64 (T.next : Int), v'], .agg #[.int .u64 (T.next : Int), u'], .bool true] from rfl] at hF
    refine hst (i := 8) (o := ops_rp11[8]'(show 8 < ops_rp11.size by rw [size_rp11]; decide)) hF 83 true (.agg #[.int .u64 (T.next : Int), v']) (Array.getElem?_eq_getElem (show 8 < ops_rp11.size by rw [size_rp11]; decide)) (by kernel_rfl) (by decide) (by kernel_rfl) (by kernel_rfl) (by kernel_rfl) (hQ _ _) (want_n (by kernel_rfl)) (fun hW w hS => rrun_ext (x := .tmp 75) (n := 0) (by kernel_rfl) (hF.ev 75 _ rfl) rfl) hS (fun a hF => ?_)
    rw [show cond true (.agg #[.int .u64 (T.next : Int), v']) undef = .agg #[.int .u64 (T.next : Int), v'] from rfl] at hF
    refine hst (i := 9) (o := ops_rp11[9]'(show 9 < ops_rp11.size by rw [size_rp11]; decide)) hF 84 true (.agg #[.int .u64 (T.next : Int), u']) (Array.getElem?_eq_getElem (show 9 < ops_rp11.size by rw [size_rp11]; decide)) (by kernel_rfl) (by decide) (by kernel_rfl) (by kernel_rfl) (by kernel_rfl) (hQ _ _) (want_n (by kernel_rfl)) (fun hW w hS => rrun_ext (x := .tmp 75) (n := 1) (by kernel_rfl) (hF.ev 75 _ rfl) rfl) hS (fun a hF => ?_)
    rw [show cond true (.agg #[.int .u64 (T.next : Int), u']) undef = .agg #[.int .u64 (T.next : Int), u'] from rfl] at hF
    refine hst (i := 10) (o := ops_rp11[10]'(show 10 < ops_rp11.size by rw [size_rp11]; decide)) hF 85 true (.bool true) (Array.getElem?_eq_getElem (show 10 < ops_rp11.size by rw [size_rp11]; decide)) (by kernel_rfl) (by decide) (by kernel_rfl) (by kernel_rfl) (by kernel_rfl) (hQ _ _) (want_n (by kernel_rfl)) (fun hW w hS => rrun_ext (x := .tmp 75) (n := 2) (by kernel_rfl) (hF.ev 75 _ rfl) rfl) hS (fun a hF => ?_)
    rw [show cond true (.bool true) undef = .bool true from rfl] at hF
    refine wpAnyH_all (rs := [11, 12]) (by kernel_rfl) (by simp) fun j hj => ?_
    have hj2 : j = 11 ∨ j = 12 := by simpa using hj
    rcases hj2 with rfl | rfl
    · skip
      refine hdo (i := 11) (o := ops_rp11[11]'(show 11 < ops_rp11.size by rw [size_rp11]; decide)) hF 7 (ptr wc.heap.size 0) (wc.alloc (.cells #[.int .u64 0, .slice none 0 0] 25)) (Array.getElem?_eq_getElem (show 11 < ops_rp11.size by rw [size_rp11]; decide)) (by kernel_rfl) (by decide) (want_n (by kernel_rfl)) (rrun_alloc (t := 25) (z := .agg #[.int .u64 0, .slice none 0 0]) (by kernel_rfl) (by kernel_rfl)) (fun a hF => ?_)
      have hb := (Below.refl wc.heap.size wc).alloc (Nat.le_refl _) (.cells #[.int .u64 0, .slice none 0 0] 25)
      have gA := hS.size
      have fA := heap_alloc_new wc (.cells #[.int .u64 0, .slice none 0 0] 25)
      replace hS := hS.trans (hb.mono hS.size)
      replace hv := hv.below hb
      replace hu := hu.below hb
      refine ⟨hS, ?_⟩
      clear hb
      generalize wc.alloc (.cells #[.int .u64 0, .slice none 0 0] 25) = wca at hS fA hv hu ⊢
      generalize wc.heap.size = kA at fA gA hF
      refine wpAnyH_all (rs := [12]) (by kernel_rfl) (by simp) fun j hj => ?_
      obtain rfl : j = 12 := by simpa using hj
      refine hdo (i := 12) (o := ops_rp11[12]'(show 12 < ops_rp11.size by rw [size_rp11]; decide)) hF 8 (ptr wca.heap.size 0) (wca.alloc (.cells #[.int .u64 0, .slice none 0 0] 32)) (Array.getElem?_eq_getElem (show 12 < ops_rp11.size by rw [size_rp11]; decide)) (by kernel_rfl) (by decide) (want_n (by kernel_rfl)) (rrun_alloc (t := 32) (z := .agg #[.int .u64 0, .slice none 0 0]) (by kernel_rfl) (by kernel_rfl)) (fun a hF => ?_)
      have hb := (Below.refl wca.heap.size wca).alloc (Nat.le_refl _) (.cells #[.int .u64 0, .slice none 0 0] 32)
      have hlt := lt_of_block fA
      have gB := hS.size
      have fB := heap_alloc_new wca (.cells #[.int .u64 0, .slice none 0 0] 32)
      replace hS := hS.trans (hb.mono hS.size)
      replace fA := (hb.block _ (lt_of_block fA)).trans fA
      replace hv := hv.below hb
      replace hu := hu.below hb
      refine ⟨hS, ?_⟩
      clear hb
      generalize wca.alloc (.cells #[.int .u64 0, .slice none 0 0] 32) = wcab at hS fB fA hv hu ⊢
      generalize wca.heap.size = kB at fB gB hF hlt
      have hne : kA ≠ kB := by omega
      exact rp11_fin (T := T) hF rfl rfl rfl rfl rfl fA fB hne gA gB hv hu hTn hv1 hu1 hS (by kernel_rfl) (by kernel_rfl) (by kernel_rfl) (by kernel_rfl) (by kernel_rfl) hQ (fun a w' hF hS f1 f2 n1 n2 => hE a w' kA kB v' u' (hF.sub ((9, .bool true) :: (8, ptr kB 0) :: (7, ptr kA 0) :: [(1, .slice (some ⟨bA, oA, none⟩) al.length cA), (2, ptr g2 0), (5, ptr g5 0), (6, .int .i64 ((i : Nat) : Int)), (0, v0), (3, v3), (4, v4), (10, v10), (11, v11), (12, v12), (13, v13), (14, v14), (15, v15), (16, v16), (17, v17), (18, v18), (19, v19), (20, v20), (21, v21), (104, v104), (105, v105), (106, v106)]) ⟨rfl, rfl, rfl, rfl, rfl, rfl, rfl, rfl, rfl, rfl, rfl, rfl, rfl, rfl, rfl, rfl, rfl, rfl, rfl, rfl, rfl, rfl, rfl, rfl, rfl, trivial⟩) hS f1 f2 n1 n2 gA gB hne)
    · skip
      refine hdo (i := 12) (o := ops_rp11[12]'(show 12 < ops_rp11.size by rw [size_rp11]; decide)) hF 8 (ptr wc.heap.size 0) (wc.alloc (.cells #[.int .u64 0, .slice none 0 0] 32)) (Array.getElem?_eq_getElem (show 12 < ops_rp11.size by rw [size_rp11]; decide)) (by kernel_rfl) (by decide) (want_n (by kernel_rfl)) (rrun_alloc (t := 32) (z := .agg #[.int .u64 0, .slice none 0 0]) (by kernel_rfl) (by kernel_rfl)) (fun a hF => ?_)
      have hb := (Below.refl wc.heap.size wc).alloc (Nat.le_refl _) (.cells #[.int .u64 0, .slice none 0 0] 32)
      have gB := hS.size
      have fB := heap_alloc_new wc (.cells #[.int .u64 0, .slice none 0 0] 32)
      replace hS := hS.trans (hb.mono hS.size)
      replace hv := hv.below hb
      replace hu := hu.below hb
      refine ⟨hS, ?_⟩
      clear hb
      generalize wc.alloc (.cells #[.int .u64 0, .slice none 0 0] 32) = wcb at hS fB hv hu ⊢
      generalize wc.heap.size = kB at fB gB hF
      refine wpAnyH_all (rs := [11]) (by kernel_rfl) (by simp) fun j hj => ?_
      obtain rfl : j = 11 := by simpa using hj
      refine hdo (i := 11) (o := ops_rp11[11]'(show 11 < ops_rp11.size by rw [size_rp11]; decide)) hF 7 (ptr wcb.heap.size 0) (wcb.alloc (.cells #[.int .u64 0, .slice none 0 0] 25)) (Array.getElem?_eq_getElem (show 11 < ops_rp11.size by rw [size_rp11]; decide)) (by kernel_rfl) (by decide) (want_n (by kernel_rfl)) (rrun_alloc (t := 25) (z := .agg #[.int .u64 0, .slice none 0 0]) (by kernel_rfl) (by kernel_rfl)) (fun a hF => ?_)
      have hb := (Below.refl wcb.heap.size wcb).alloc (Nat.le_refl _) (.cells #[.int .u64 0, .slice none 0 0] 25)
      have hlt := lt_of_block fB
      have gA := hS.size
      have fA := heap_alloc_new wcb (.cells #[.int .u64 0, .slice none 0 0] 25)
      replace hS := hS.trans (hb.mono hS.size)
      replace fB := (hb.block _ (lt_of_block fB)).trans fB
      replace hv := hv.below hb
      replace hu := hu.below hb
      refine ⟨hS, ?_⟩
      clear hb
      generalize wcb.alloc (.cells #[.int .u64 0, .slice none 0 0] 25) = wcba at hS fA fB hv hu ⊢
      generalize wcb.heap.size = kA at fA gA hF hlt
      have hne : kA ≠ kB := by omega
      exact rp11_fin (T := T) hF rfl rfl rfl rfl rfl fA fB hne gA gB hv hu hTn hv1 hu1 hS (by kernel_rfl) (by kernel_rfl) (by kernel_rfl) (by kernel_rfl) (by kernel_rfl) hQ (fun a w' hF hS f1 f2 n1 n2 => hE a w' kA kB v' u' (hF.sub ((9, .bool true) :: (8, ptr kB 0) :: (7, ptr kA 0) :: [(1, .slice (some ⟨bA, oA, none⟩) al.length cA), (2, ptr g2 0), (5, ptr g5 0), (6, .int .i64 ((i : Nat) : Int)), (0, v0), (3, v3), (4, v4), (10, v10), (11, v11), (12, v12), (13, v13), (14, v14), (15, v15), (16, v16), (17, v17), (18, v18), (19, v19), (20, v20), (21, v21), (104, v104), (105, v105), (106, v106)]) ⟨rfl, rfl, rfl, rfl, rfl, rfl, rfl, rfl, rfl, rfl, rfl, rfl, rfl, rfl, rfl, rfl, rfl, rfl, rfl, rfl, rfl, rfl, rfl, rfl, rfl, trivial⟩) hS f1 f2 n1 n2 gA gB hne)
  · skip
    refine hdo (i := 11) (o := ops_rp11[11]'(show 11 < ops_rp11.size by rw [size_rp11]; decide)) hF 7 (ptr w.heap.size 0) (w.alloc (.cells #[.int .u64 0, .slice none 0 0] 25)) (Array.getElem?_eq_getElem (show 11 < ops_rp11.size by rw [size_rp11]; decide)) (by kernel_rfl) (by decide) (want_n (by kernel_rfl)) (rrun_alloc (t := 25) (z := .agg #[.int .u64 0, .slice none 0 0]) (by kernel_rfl) (by kernel_rfl)) (fun a hF => ?_)
    have hb := (Below.refl w.heap.size w).alloc (Nat.le_refl _) (.cells #[.int .u64 0, .slice none 0 0] 25)
    have gA := hS.size
    have fA := heap_alloc_new w (.cells #[.int .u64 0, .slice none 0 0] 25)
    replace hS := hS.trans (hb.mono hS.size)
    refine ⟨hS, ?_⟩
    clear hb
    generalize w.alloc (.cells #[.int .u64 0, .slice none 0 0] 25) = wa at hS fA ⊢
    generalize w.heap.size = kA at fA gA hF
    refine wpAnyH_all (rs := [6, 12]) (by kernel_rfl) (by simp) fun j hj => ?_
    have hj2 : j = 6 ∨ j = 12 := by simpa using hj
    rcases hj2 with rfl | rfl
    · skip
      refine hdoc (i := 6) (o := ops_rp11[6]'(show 6 < ops_rp11.size by rw [size_rp11]; decide)) (R := fun v w' => ∃ v' u', v = .tuple #[.agg #[.int .u64 (T.next : Int), v'], .agg #[.int .u64 (T.next : Int), u'], .bool true] ∧ NodsAt w' v' T.n ∧ NodsAt w' u' T.n ∧ Below wa.heap.size wa w') hF 82 (Array.getElem?_eq_getElem (show 6 < ops_rp11.size by rw [size_rp11]; decide)) (by kernel_rfl) (by decide) (want_n (by kernel_rfl)) ⟨14, #[.agg #[.int .u64 (x : Int), tv], .agg #[.int .u64 (x : Int), uv], .agg z.cells], rrun_call3 (x := .tmp 76) (y := .tmp 77) (z := .tmp 81) (fn := 14) (t := 25) (u := 32) (s := 36) rfl (by kernel_rfl) (by kernel_rfl) (hF.ev 76 _ rfl) (hF.ev 77 _ rfl) (hF.ev 81 _ rfl), (hstep wa (hP.next hS).tr (hP.next hS).ur).mono (by rintro e w' ⟨v', u', rfl, h1, h2, h3⟩; exact ⟨_, rfl, v', u', rfl, h1, h2, h3⟩)⟩ ?_
      rintro _ a wac ⟨v', u', rfl, hv, hu, hb⟩ hF
      replace hS := hS.trans (hb.mono hS.size)
      replace fA := (hb.block _ (lt_of_block fA)).trans fA
      refine ⟨hS, ?_⟩
      clear hb
      have hv1 : v'.oneCell' = true := by obtain ⟨q1, q2, rfl, _⟩ := hv.form; rfl
      have hu1 : u'.oneCell' = true := by obtain ⟨q1, q2, rfl, _⟩ := hu.form; rfl
      refine hst (i := 7) (o := ops_rp11[7]'(show 7 < ops_rp11.size by rw [size_rp11]; decide)) hF 75 true (.tuple #[.agg #[.int .u64 (T.next : Int), v'], .agg #[.int .u64 (T.next : Int), u'], .bool true]) (Array.getElem?_eq_getElem (show 7 < ops_rp11.size by rw [size_rp11]; decide)) (by kernel_rfl) (by decide) (by kernel_rfl) (by kernel_rfl) (by kernel_rfl) (hQ _ _) (want_n (by kernel_rfl)) (fun hW w hS => rrun_move (x := .tmp 82) (.inl (by kernel_rfl)) (hF.ev 82 _ rfl)) hS (fun a hF => ?_)
      rw [show cond true (.tuple #[.agg #[.int .u64 (T.next : Int), v'], .agg #[.int .u64 (T.next : Int), u'], .bool true]) undef = .tuple #[.agg #[.int .u64 (T.next : Int), v'], .agg #[.int .u64 (T.next : Int), u'], .bool true] from rfl] at hF
      refine hst (i := 8) (o := ops_rp11[8]'(show 8 < ops_rp11.size by rw [size_rp11]; decide)) hF 83 true (.agg #[.int .u64 (T.next : Int), v']) (Array.getElem?_eq_getElem (show 8 < ops_rp11.size by rw [size_rp11]; decide)) (by kernel_rfl) (by decide) (by kernel_rfl) (by kernel_rfl) (by kernel_rfl) (hQ _ _) (want_n (by kernel_rfl)) (fun hW w hS => rrun_ext (x := .tmp 75) (n := 0) (by kernel_rfl) (hF.ev 75 _ rfl) rfl) hS (fun a hF => ?_)
      rw [show cond true (.agg #[.int .u64 (T.next : Int), v']) undef = .agg #[.int .u64 (T.next : Int), v'] from rfl] at hF
      refine hst (i := 9) (o := ops_rp11[9]'(show 9 < ops_rp11.size by rw [size_rp11]; decide)) hF 84 true (.agg #[.int .u64 (T.next : Int), u']) (Array.getElem?_eq_getElem (show 9 < ops_rp11.size by rw [size_rp11]; decide)) (by kernel_rfl) (by decide) (by kernel_rfl) (by kernel_rfl) (by kernel_rfl) (hQ _ _) (want_n (by kernel_rfl)) (fun hW w hS => rrun_ext (x := .tmp 75) (n := 1) (by kernel_rfl) (hF.ev 75 _ rfl) rfl) hS (fun a hF => ?_)
      rw [show cond true (.agg #[.int .u64 (T.next : Int), u']) undef = .agg #[.int .u64 (T.next : Int), u'] from rfl] at hF
      refine hst (i := 10) (o := ops_rp11[10]'(show 10 < ops_rp11.size by rw [size_rp11]; decide)) hF 85 true (.bool true) (Array.getElem?_eq_getElem (show 10 < ops_rp11.size by rw [size_rp11]; decide)) (by kernel_rfl) (by decide) (by kernel_rfl) (by kernel_rfl) (by kernel_rfl) (hQ _ _) (want_n (by kernel_rfl)) (fun hW w hS => rrun_ext (x := .tmp 75) (n := 2) (by kernel_rfl) (hF.ev 75 _ rfl) rfl) hS (fun a hF => ?_)
      rw [show cond true (.bool true) undef = .bool true from rfl] at hF
      refine wpAnyH_all (rs := [12]) (by kernel_rfl) (by simp) fun j hj => ?_
      obtain rfl : j = 12 := by simpa using hj
      refine hdo (i := 12) (o := ops_rp11[12]'(show 12 < ops_rp11.size by rw [size_rp11]; decide)) hF 8 (ptr wac.heap.size 0) (wac.alloc (.cells #[.int .u64 0, .slice none 0 0] 32)) (Array.getElem?_eq_getElem (show 12 < ops_rp11.size by rw [size_rp11]; decide)) (by kernel_rfl) (by decide) (want_n (by kernel_rfl)) (rrun_alloc (t := 32) (z := .agg #[.int .u64 0, .slice none 0 0]) (by kernel_rfl) (by kernel_rfl)) (fun a hF => ?_)
      have hb := (Below.refl wac.heap.size wac).alloc (Nat.le_refl _) (.cells #[.int .u64 0, .slice none 0 0] 32)
      have hlt := lt_of_block fA
      have gB := hS.size
      have fB := heap_alloc_new wac (.cells #[.int .u64 0, .slice none 0 0] 32)
      replace hS := hS.trans (hb.mono hS.size)
      replace fA := (hb.block _ (lt_of_block fA)).trans fA
      replace hv := hv.below hb
      replace hu := hu.below hb
      refine ⟨hS, ?_⟩
      clear hb
      generalize wac.alloc (.cells #[.int .u64 0, .slice none 0 0] 32) = wacb at hS fB fA hv hu ⊢
      generalize wac.heap.size = kB at fB gB hF hlt
      have hne : kA ≠ kB := by omega
      exact rp11_fin (T := T) hF rfl rfl rfl rfl rfl fA fB hne gA gB hv hu hTn hv1 hu1 hS (by kernel_rfl) (by kernel_rfl) (by kernel_rfl) (by kernel_rfl) (by kernel_rfl) hQ (fun a w' hF hS f1 f2 n1 n2 => hE a w' kA kB v' u' (hF.sub ((9, .bool true) :: (8, ptr kB 0) :: (7, ptr kA 0) :: [(1, .slice (some ⟨bA, oA, none⟩) al.length cA), (2, ptr g2 0), (5, ptr g5 0), (6, .int .i64 ((i : Nat) : Int)), (0, v0), (3, v3), (4, v4), (10, v10), (11, v11), (12, v12), (13, v13), (14, v14), (15, v15), (16, v16), (17, v17), (18, v18), (19, v19), (20, v20), (21, v21), (104, v104), (105, v105), (106, v106)]) ⟨rfl, rfl, rfl, rfl, rfl, rfl, rfl, rfl, rfl, rfl, rfl, rfl, rfl, rfl, rfl, rfl, rfl, rfl, rfl, rfl, rfl, rfl, rfl, rfl, rfl, trivial⟩) hS f1 f2 n1 n2 gA gB hne)
    · skip
      refine hdo (i := 12) (o := ops_rp11[12]'(show 12 < ops_rp11.size by rw [size_rp11]; decide)) hF 8 (ptr wa.heap.size 0) (wa.alloc (.cells #[.int .u64 0, .slice none 0 0] 32)) (Array.getElem?_eq_getElem (show 12 < ops_rp11.size by rw [size_rp11]; decide)) (by kernel_rfl) (by decide) (want_n (by kernel_rfl)) (rrun_alloc (t := 32) (z := .agg #[.int .u64 0, .slice none 0 0]) (by kernel_rfl) (by kernel_rfl)) (fun a hF => ?_)
      have hb := (Below.refl wa.heap.size wa).alloc (Nat.le_refl _) (.cells #[.int .u64 0, .slice none 0 0] 32)
      have hlt := lt_of_block fA
      have gB := hS.size
      have fB := heap_alloc_new wa (.cells #[.int .u64 0, .slice none 0 0] 32)
      replace hS := hS.trans (hb.mono hS.size)
      replace fA := (hb.block _ (lt_of_block fA)).trans fA
      refine ⟨hS, ?_⟩
      clear hb
      generalize wa.alloc (.cells #[.int .u64 0, .slice none 0 0] 32) = wab at hS fB fA ⊢
      generalize wa.heap.size = kB at fB gB hF hlt
      have hne : kA ≠ kB := by omega
      refine wpAnyH_all (rs := [6]) (by kernel_rfl) (by simp) fun j hj => ?_
      obtain rfl : j = 6 := by simpa using hj
      refine hdoc (i := 6) (o := ops_rp11[6]'(show 6 < ops_rp11.size by rw [size_rp11]; decide)) (R := fun v w' => ∃ v' u', v = .tuple #[.agg #[.int .u64 (T.next : Int), v'], .agg #[.int .u64 (T.next : Int), u'], .bool true] ∧ NodsAt w' v' T.n ∧ NodsAt w' u' T.n ∧ Below wab.heap.size wab w') hF 82 (Array.getElem?_eq_getElem (show 6 < ops_rp11.size by rw [size_rp11]; decide)) (by kernel_rfl) (by decide) (want_n (by kernel_rfl)) ⟨14, #[.agg #[.int .u64 (x : Int), tv], .agg #[.int .u64 (x : Int), uv], .agg z.cells], rrun_call3 (x := .tmp 76) (y := .tmp 77) (z := .tmp 81) (fn := 14) (t := 25) (u := 32) (s := 36) rfl (by kernel_rfl) (by kernel_rfl) (hF.ev 76 _ rfl) (hF.ev 77 _ rfl) (hF.ev 81 _ rfl), (hstep wab (hP.next hS).tr (hP.next hS).ur).mono (by rintro e w' ⟨v', u', rfl, h1, h2, h3⟩; exact ⟨_, rfl, v', u', rfl, h1, h2, h3⟩)⟩ ?_
      rintro _ a wabc ⟨v', u', rfl, hv, hu, hb⟩ hF
      replace hS := hS.trans (hb.mono hS.size)
      replace fA := (hb.block _ (lt_of_block fA)).trans fA
      replace fB := (hb.block _ (lt_of_block fB)).trans fB
      refine ⟨hS, ?_⟩
      clear hb
      have hv1 : v'.oneCell' = true := by obtain ⟨q1, q2, rfl, _⟩ := hv.form; rfl
      have hu1 : u'.oneCell' = true := by obtain ⟨q1, q2, rfl, _⟩ := hu.form; rfl
      refine hst (i := 7) (o := ops_rp11[7]'(show 7 < ops_rp11.size by rw [size_rp11]; decide)) hF 75 true (.tuple #[.agg #[.int .u64 (T.next : Int), v'], .agg #[.int .u64 (T.next : Int), u'], .bool true]) (Array.getElem?_eq_getElem (show 7 < ops_rp11.size by rw [size_rp11]; decide)) (by kernel_rfl) (by decide) (by kernel_rfl) (by kernel_rfl) (by kernel_rfl) (hQ _ _) (want_n (by kernel_rfl)) (fun hW w hS => rrun_move (x := .tmp 82) (.inl (by kernel_rfl)) (hF.ev 82 _ rfl)) hS (fun a hF => ?_)
      rw [show cond true (.tuple #[.agg #[.int .u64 (T.next : Int), v'], .agg #[.int .u64 (T.next : Int), u'], .bool true]) undef = .tuple #[.agg #[.int .u64 (T.next : Int), v'], .agg #[.int .u64 (T.next : Int), u'], .bool true] from rfl] at hF
      refine hst (i := 8) (o := ops_rp11[8]'(show 8 < ops_rp11.size by rw [size_rp11]; decide)) hF 83 true (.agg #[.int .u64 (T.next : Int), v']) (Array.getElem?_eq_getElem (show 8 < ops_rp11.size by rw [size_rp11]; decide)) (by kernel_rfl) (by decide) (by kernel_rfl) (by kernel_rfl) (by kernel_rfl) (hQ _ _) (want_n (by kernel_rfl)) (fun hW w hS => rrun_ext (x := .tmp 75) (n := 0) (by kernel_rfl) (hF.ev 75 _ rfl) rfl) hS (fun a hF => ?_)
      rw [show cond true (.agg #[.int .u64 (T.next : Int), v']) undef = .agg #[.int .u64 (T.next : Int), v'] from rfl] at hF
      refine hst (i := 9) (o := ops_rp11[9]'(show 9 < ops_rp11.size by rw [size_rp11]; decide)) hF 84 true (.agg #[.int .u64 (T.next : Int), u']) (Array.getElem?_eq_getElem (show 9 < ops_rp11.size by rw [size_rp11]; decide)) (by kernel_rfl) (by decide) (by kernel_rfl) (by kernel_rfl) (by kernel_rfl) (hQ _ _) (want_n (by kernel_rfl)) (fun hW w hS => rrun_ext (x := .tmp 75) (n := 1) (by kernel_rfl) (hF.ev 75 _ rfl) rfl) hS (fun a hF => ?_)
      rw [show cond true (.agg #[.int .u64 (T.next : Int), u']) undef = .agg #[.int .u64 (T.next : Int), u'] from rfl] at hF
      refine hst (i := 10) (o := ops_rp11[10]'(show 10 < ops_rp11.size by rw [size_rp11]; decide)) hF 85 true (.bool true) (Array.getElem?_eq_getElem (show 10 < ops_rp11.size by rw [size_rp11]; decide)) (by kernel_rfl) (by decide) (by kernel_rfl) (by kernel_rfl) (by kernel_rfl) (hQ _ _) (want_n (by kernel_rfl)) (fun hW w hS => rrun_ext (x := .tmp 75) (n := 2) (by kernel_rfl) (hF.ev 75 _ rfl) rfl) hS (fun a hF => ?_)
      rw [show cond true (.bool true) undef = .bool true from rfl] at hF
      exact rp11_fin (T := T) hF rfl rfl rfl rfl rfl fA fB hne gA gB hv hu hTn hv1 hu1 hS (by kernel_rfl) (by kernel_rfl) (by kernel_rfl) (by kernel_rfl) (by kernel_rfl) hQ (fun a w' hF hS f1 f2 n1 n2 => hE a w' kA kB v' u' (hF.sub ((9, .bool true) :: (8, ptr kB 0) :: (7, ptr kA 0) :: [(1, .slice (some ⟨bA, oA, none⟩) al.length cA), (2, ptr g2 0), (5, ptr g5 0), (6, .int .i64 ((i : Nat) : Int)), (0, v0), (3, v3), (4, v4), (10, v10), (11, v11), (12, v12), (13, v13), (14, v14), (15, v15), (16, v16), (17, v17), (18, v18), (19, v19), (20, v20), (21, v21), (104, v104), (105, v105), (106, v106)]) ⟨rfl, rfl, rfl, rfl, rfl, rfl, rfl, rfl, rfl, rfl, rfl, rfl, rfl, rfl, rfl, rfl, rfl, rfl, rfl, rfl, rfl, rfl, rfl, rfl, rfl, trivial⟩) hS f1 f2 n1 n2 gA gB hne)
  · skip
    refine hdo (i := 12) (o := ops_rp11[12]'(show 12 < ops_rp11.size by rw [size_rp11]; decide)) hF 8 (ptr w.heap.size 0) (w.alloc (.cells #[.int .u64 0, .slice none 0 0] 32)) (Array.getElem?_eq_getElem (show 12 < ops_rp11.size by rw [size_rp11]; decide)) (by kernel_rfl) (by decide) (want_n (by kernel_rfl)) (rrun_alloc (t := 32) (z := .agg #[.int .u64 0, .slice none 0 0]) (by kernel_rfl) (by kernel_rfl)) (fun a hF => ?_)
    have hb := (Below.refl w.heap.size w).alloc (Nat.le_refl _) (.cells #[.int .u64 0, .slice none 0 0] 32)
    have gB := hS.size
    have fB := heap_alloc_new w (.cells #[.int .u64 0, .slice none 0 0] 32)
    replace hS := hS.trans (hb.mono hS.size)
    refine ⟨hS, ?_⟩
    clear hb
    generalize w.alloc (.cells #[.int .u64 0, .slice none 0 0] 32) = wb at hS fB ⊢
    generalize w.heap.size = kB at fB gB hF
    refine wpAnyH_all (rs := [6, 11]) (by kernel_rfl) (by simp) fun j hj => ?_
    have hj2 : j = 6 ∨ j = 11 := by simpa using hj
    rcases hj2 with rfl | rfl
    · skip
      refine hdoc (i := 6) (o := ops_rp11[6]'(show 6 < ops_rp11.size by rw [size_rp11]; decide)) (R := fun v w' => ∃ v' u', v = .tuple #[.agg #[.int .u64 (T.next : Int), v'], .agg #[.int .u64 (T.next : Int), u'], .bool true] ∧ NodsAt w' v' T.n ∧ NodsAt w' u' T.n ∧ Below wb.heap.size wb w') hF 82 (Array.getElem?_eq_getElem (show 6 < ops_rp11.size by rw [size_rp11]; decide)) (by kernel_rfl) (by decide) (want_n (by kernel_rfl)) ⟨14, #[.agg #[.int .u64 (x : Int), tv], .agg #[.int .u64 (x : Int), uv], .agg z.cells], rrun_call3 (x := .tmp 76) (y := .tmp 77) (z := .tmp 81) (fn := 14) (t := 25) (u := 32) (s := 36) rfl (by kernel_rfl) (by kernel_rfl) (hF.ev 76 _ rfl) (hF.ev 77 _ rfl) (hF.ev 81 _ rfl), (hstep wb (hP.next hS).tr (hP.next hS).ur).mono (by rintro e w' ⟨v', u', rfl, h1, h2, h3⟩; exact ⟨_, rfl, v', u', rfl, h1, h2, h3⟩)⟩ ?_
      rintro _ a wbc ⟨v', u', rfl, hv, hu, hb⟩ hF
      replace hS := hS.trans (hb.mono hS.size)
      replace fB := (hb.block _ (lt_of_block fB)).trans fB
      refine ⟨hS, ?_⟩
      clear hb
      have hv1 : v'.oneCell' = true := by obtain ⟨q1, q2, rfl, _⟩ := hv.form; rfl
      have hu1 : u'.oneCell' = true := by obtain ⟨q1, q2, rfl, _⟩ := hu.form; rfl
      refine hst (i := 7) (o := ops_rp11[7]'(show 7 < ops_rp11.size by rw [size_rp11]; decide)) hF 75 true (.tuple #[.agg #[.int .u64 (T.next : Int), v'], .agg #[.int .u64 (T.next : Int), u'], .bool true]) (Array.getElem?_eq_getElem (show 7 < ops_rp11.size by rw [size_rp11]; decide)) (by kernel_rfl) (by decide) (by kernel_rfl) (by kernel_rfl) (by kernel_rfl) (hQ _ _) (want_n (by kernel_rfl)) (fun hW w hS => rrun_move (x := .tmp 82) (.inl (by kernel_rfl)) (hF.ev 82 _ rfl)) hS (fun a hF => ?_)
      rw [show cond true (.tuple #[.agg #[.int .u64 (T.next : Int), v'], .agg #[.int .u64 (T.next : Int), u'], .bool true]) undef = .tuple #[.agg #[.int .u64 (T.next : Int), v'], .agg #[.int .u64 (T.next : Int), u'], .bool true] from rfl] at hF
      refine hst (i := 8) (o := ops_rp11[8]'(show 8 < ops_rp11.size by rw [size_rp11]; decide)) hF 83 true (.agg #[.int .u64 (T.next : Int), v']) (Array.getElem?_eq_getElem (show 8 < ops_rp11.size by rw [size_rp11]; decide)) (by kernel_rfl) (by decide) (by kernel_rfl) (by kernel_rfl) (by kernel_rfl) (hQ _ _) (want_n (by kernel_rfl)) (fun hW w hS => rrun_ext (x := .tmp 75) (n := 0) (by kernel_rfl) (hF.ev 75 _ rfl) rfl) hS (fun a hF => ?_)
      rw [show cond true (.agg #[.int .u64 (T.next : Int), v']) undef = .agg #[.int .u64 (T.next : Int), v'] from rfl] at hF
      refine hst (i := 9) (o := ops_rp11[9]'(show 9 < ops_rp11.size by rw [size_rp11]; decide)) hF 84 true (.agg #[.int .u64 (T.next : Int), u']) (Array.getElem?_eq_getElem (show 9 < ops_rp11.size by rw [size_rp11]; decide)) (by kernel_rfl) (by decide) (by kernel_rfl) (by kernel_rfl) (by kernel_rfl) (hQ _ _) (want_n (by kernel_rfl)) (fun hW w hS => rrun_ext (x := .tmp 75) (n := 1) (by kernel_rfl) (hF.ev 75 _ rfl) rfl) hS (fun a hF => ?_)
      rw [show cond true (.agg #[.int .u64 (T.next : Int), u']) undef = .agg #[.int .u64 (T.next : Int), u'] from rfl] at hF
      refine hst (i := 10) (o := ops_rp11[10]'(show 10 < ops_rp11.size by rw [size_rp11]; decide)) hF 85 true (.bool true) (Array.getElem?_eq_getElem (show 10 < ops_rp11.size by rw [size_rp11]; decide)) (by kernel_rfl) (by decide) (by kernel_rfl) (by kernel_rfl) (by kernel_rfl) (hQ _ _) (want_n (by kernel_rfl)) (fun hW w hS => rrun_ext (x := .tmp 75) (n := 2) (by kernel_rfl) (hF.ev 75 _ rfl) rfl) hS (fun a hF => ?_)
      rw [show cond true (.bool true) undef = .bool true from rfl] at hF
      refine wpAnyH_all (rs := [11]) (by kernel_rfl) (by simp) fun j hj => ?_
      obtain rfl : j = 11 := by simpa using hj
      refine hdo (i := 11) (o := ops_rp11[11]'(show 11 < ops_rp11.size by rw [size_rp11]; decide)) hF 7 (ptr wbc.heap.size 0) (wbc.alloc (.cells #[.int .u64 0, .slice none 0 0] 25)) (Array.getElem?_eq_getElem (show 11 < ops_rp11.size by rw [size_rp11]; decide)) (by kernel_rfl) (by decide) (want_n (by kernel_rfl)) (rrun_alloc (t := 25) (z := .agg #[.int .u64 0, .slice none 0 0]) (by kernel_rfl) (by kernel_rfl)) (fun a hF => ?_)
      have hb := (Below.refl wbc.heap.size wbc).alloc (Nat.le_refl _) (.cells #[.int .u64 0, .slice none 0 0] 25)
      have hlt := lt_of_block fB
      have gA := hS.size
      have fA := heap_alloc_new wbc (.cells #[.int .u64 0, .slice none 0 0] 25)
      replace hS := hS.trans (hb.mono hS.size)
      replace fB := (hb.block _ (lt_of_block fB)).trans fB
      replace hv := hv.below hb
      replace hu := hu.below hb
      refine ⟨hS, ?_⟩
      clear hb
      generalize wbc.alloc (.cells #[.int .u64 0, .slice none 0 0] 25) = wbca at hS fA fB hv hu ⊢
      generalize wbc.heap.size = kA at fA gA hF hlt
      have hne : kA ≠ kB := by omega
      exact rp11_fin (T := T) hF rfl rfl rfl rfl rfl fA fB hne gA gB hv hu hTn hv1 hu1 hS (by kernel_rfl) (by kernel_rfl) (by kernel_rfl) (by kernel_rfl) (by kernel_rfl) hQ (fun a w' hF hS f1 f2 n1 n2 => hE a w' kA kB v' u' (hF.sub ((9, .bool true) :: (8, ptr kB 0) :: (7, ptr kA 0) :: [(1, .slice (some ⟨bA, oA, none⟩) al.length cA), (2, ptr g2 0), (5, ptr g5 0), (6, .int .i64 ((i : Nat) : Int)), (0, v0), (3, v3), (4, v4), (10, v10), (11, v11), (12, v12), (13, v13), (14, v14), (15, v15), (16, v16), (17, v17), (18, v18), (19, v19), (20, v20), (21, v21), (104, v104), (105, v105), (106, v106)]) ⟨rfl, rfl, rfl, rfl, rfl, rfl, rfl, rfl, rfl, rfl, rfl, rfl, rfl, rfl, rfl, rfl, rfl, rfl, rfl, rfl, rfl, rfl, rfl, rfl, rfl, trivial⟩) hS f1 f2 n1 n2 gA gB hne)
    · skip
      refine hdo (i := 11) (o := ops_rp11[11]'(show 11 < ops_rp11.size by rw [size_rp11]; decide)) hF 7 (ptr wb.heap.size 0) (wb.alloc (.cells #[.int .u64 0, .slice none 0 0] 25)) (Array.getElem?_eq_getElem (show 11 < ops_rp11.size by rw [size_rp11]; decide)) (by kernel_rfl) (by decide) (want_n (by kernel_rfl)) (rrun_alloc (t := 25) (z := .agg #[.int .u64 0, .slice none 0 0]) (by kernel_rfl) (by kernel_rfl)) (fun a hF => ?_)
      have hb := (Below.refl wb.heap.size wb).alloc (Nat.le_refl _) (.cells #[.int .u64 0, .slice none 0 0] 25)
      have hlt := lt_of_block fB
      have gA := hS.size
      have fA := heap_alloc_new wb (.cells #[.int .u64 0, .slice none 0 0] 25)
      replace hS := hS.trans (hb.mono hS.size)
      replace fB := (hb.block _ (lt_of_block fB)).trans fB
      refine ⟨hS, ?_⟩
      clear hb
      generalize wb.alloc (.cells #[.int .u64 0, .slice none 0 0] 25) = wba at hS fA fB ⊢
      generalize wb.heap.size = kA at fA gA hF hlt
      have hne : kA ≠ kB := by omega
      refine wpAnyH_all (rs := [6]) (by kernel_rfl) (by simp) fun j hj => ?_
      obtain rfl : j = 6 := by simpa using hj
      refine hdoc (i := 6) (o := ops_rp11[6]'(show 6 < ops_rp11.size by rw [size_rp11]; decide)) (R := fun v w' => ∃ v' u', v = .tuple #[.agg #[.int .u64 (T.next : Int), v'], .agg #[.int .u64 (T.next : Int), u'], .bool true] ∧ NodsAt w' v' T.n ∧ NodsAt w' u' T.n ∧ Below wba.heap.size wba w') hF 82 (Array.getElem?_eq_getElem (show 6 < ops_rp11.size by rw [size_rp11]; decide)) (by kernel_rfl) (by decide) (want_n (by kernel_rfl)) ⟨14, #[.agg #[.int .u64 (x : Int), tv], .agg #[.int .u64 (x : Int), uv], .agg z.cells], rrun_call3 (x := .tmp 76) (y := .tmp 77) (z := .tmp 81) (fn := 14) (t := 25) (u := 32) (s := 36) rfl (by kernel_rfl) (by kernel_rfl) (hF.ev 76 _ rfl) (hF.ev 77 _ rfl) (hF.ev 81 _ rfl), (hstep wba (hP.next hS).tr (hP.next hS).ur).mono (by rintro e w' ⟨v', u', rfl, h1, h2, h3⟩; exact ⟨_, rfl, v', u', rfl, h1, h2, h3⟩)⟩ ?_
      rintro _ a wbac ⟨v', u', rfl, hv, hu, hb⟩ hF
      replace hS := hS.trans (hb.mono hS.size)
      replace fA := (hb.block _ (lt_of_block fA)).trans fA
      replace fB := (hb.block _ (lt_of_block fB)).trans fB
      refine ⟨hS, ?_⟩
      clear hb
      have hv1 : v'.oneCell' = true := by obtain ⟨q1, q2, rfl, _⟩ := hv.form; rfl
      have hu1 : u'.oneCell' = true := by obtain ⟨q1, q2, rfl, _⟩ := hu.form; rfl
      refine hst (i := 7) (o := ops_rp11[7]'(show 7 < ops_rp11.size by rw [size_rp11]; decide)) hF 75 true (.tuple #[.agg #[.int .u64 (T.next : Int), v'], .agg #[.int .u64 (T.next : Int), u'], .bool true]) (Array.getElem?_eq_getElem (show 7 < ops_rp11.size by rw [size_rp11]; decide)) (by kernel_rfl) (by decide) (by kernel_rfl) (by kernel_rfl) (by kernel_rfl) (hQ _ _) (want_n (by kernel_rfl)) (fun hW w hS => rrun_move (x := .tmp 82) (.inl (by kernel_rfl)) (hF.ev 82 _ rfl)) hS (fun a hF => ?_)
      rw [show cond true (.tuple #[.agg #[.int .u64 (T.next : Int), v'], .agg #[.int .u64 (T.next : Int), u'], .bool true]) undef = .tuple #[.agg #[.int .u64 (T.next : Int), v'], .agg #[.int .u64 (T.next : Int), u'], .bool true] from rfl] at hF
      refine hst (i := 8) (o := ops_rp11[8]'(show 8 < ops_rp11.size by rw [size_rp11]; decide)) hF 83 true (.agg #[.int .u64 (T.next : Int), v']) (Array.getElem?_eq_getElem (show 8 < ops_rp11.size by rw [size_rp11]; decide)) (by kernel_rfl) (by decide) (by kernel_rfl) (by kernel_rfl) (by kernel_rfl) (hQ _ _) (want_n (by kernel_rfl)) (fun hW w hS => rrun_ext (x := .tmp 75) (n := 0) (by kernel_rfl) (hF.ev 75 _ rfl) rfl) hS (fun a hF => ?_)
      rw [show cond true (.agg #[.int .u64 (T.next : Int), v']) undef = .agg #[.int .u64 (T.next : Int), v'] from rfl] at hF
      refine hst (i := 9) (o := ops_rp11[9]'(show 9 < ops_rp11.size by rw [size_rp11]; decide)) hF 84 true (.agg #[.int .u64 (T.next : Int), u']) (Array.getElem?_eq_getElem (show 9 < ops_rp11.size by rw [size_rp11]; decide)) (by kernel_rfl) (by decide) (by kernel_rfl) (by kernel_rfl) (by kernel_rfl) (hQ _ _) (want_n (by kernel_rfl)) (fun hW w hS => rrun_ext (x := .tmp 75) (n := 1) (by kernel_rfl) (hF.ev 75 _ rfl) rfl) hS (fun a hF => ?_)
      rw [show cond true (.agg #[.int .u64 (T.next : Int), u']) undef = .agg #[.int .u64 (T.next : Int), u'] from rfl] at hF
      refine hst (i := 10) (o := ops_rp11[10]'(show 10 < ops_rp11.size by rw [size_rp11]; decide)) hF 85 true (.bool true) (Array.getElem?_eq_getElem (show 10 < ops_rp11.size by rw [size_rp11]; decide)) (by kernel_rfl) (by decide) (by kernel_rfl) (by kernel_rfl) (by kernel_rfl) (hQ _ _) (want_n (by kernel_rfl)) (fun hW w hS => rrun_ext (x := .tmp 75) (n := 2) (by kernel_rfl) (hF.ev 75 _ rfl) rfl) hS (fun a hF => ?_)
      rw [show cond true (.bool true) undef = .bool true from rfl] at hF
      exact rp11_fin (T := T) hF rfl rfl rfl rfl rfl fA fB hne gA gB hv hu hTn hv1 hu1 hS (by kernel_rfl) (by kernel_rfl) (by kernel_rfl) (by kernel_rfl) (by kernel_rfl) hQ (fun a w' hF hS f1 f2 n1 n2 => hE a w' kA kB v' u' (hF.sub ((9, .bool true) :: (8, ptr kB 0) :: (7, ptr kA 0) :: [(1, .slice (some ⟨bA, oA, none⟩) al.length cA), (2, ptr g2 0), (5, ptr g5 0), (6, .int .i64 ((i : Nat) : Int)), (0, v0), (3, v3), (4, v4), (10, v10), (11, v11), (12, v12), (13, v13), (14, v14), (15, v15), (16, v16), (17, v17), (18, v18), (19, v19), (20, v20), (21, v21), (104, v104), (105, v105), (106, v106)]) ⟨rfl, rfl, rfl, rfl, rfl, rfl, rfl, rfl, rfl, rfl, rfl, rfl, rfl, rfl, rfl, rfl, rfl, rfl, rfl, rfl, rfl, rfl, rfl, rfl, rfl, trivial⟩) hS f1 f2 n1 n2 gA gB hne)
noncomputable def ops_rp12 : Array Oper := match Try.f3.body with | some c => (allOps' c).getD 11 #[] | none => #[]
theorem size_rp12 : ops_rp12.size = 16 := by kernel_rfl
set_option maxHeartbeats 4000000 in
theorem rp12_all {w0 w1 : World} {B g2 g5 bA oA cA x kA kB : Nat} {l : List Nod} {tv uv : Value} {al : List ActV} {T : Tr} {v' u' : Value} (hl1 : l.length ≤ 1000) (hl2 : T.n.length ≤ 1000) (hP : PlS B g2 g5 (.slice (some ⟨bA, oA, none⟩) al.length cA) x l tv uv al w0 w1) (hA : w1.heap[kA]? = some (.cells #[.int .u64 (T.next : Int), v'] 25 (0, 0))) (hB : w1.heap[kB]? = some (.cells #[.int .u64 (T.next : Int), u'] 32 (0, 0))) (hv : NodsAt w1 v' T.n) (hu : NodsAt w1 u' T.n)  {v0 v1 v3 v4 v6 v10 v11 v12 v13 v14 v15 v16 v17 v18 v19 v20 v21 v104 v105 v106 : Value} {Q : Exit → Act → World → Prop} {a : Act} {w : World} (hQ : ∀ d u c a w, Q (.panic c) (a.put d u) w → Q (.panic c) a w) (hF : FrL 107 [(2, ptr g2 0), (5, ptr g5 0), (7, ptr kA 0), (8, ptr kB 0), (9, .bool true), (0, v0), (1, v1), (3, v3), (4, v4), (6, v6), (10, v10), (11, v11), (12, v12), (13, v13), (14, v14), (15, v15), (16, v16), (17, v17), (18, v18), (19, v19), (20, v20), (21, v21), (104, v104), (105, v105), (106, v106)] a) (hS : (Below w1.heap.size w1) w) (hE : ∀ a w', FrL 107 ((101, .bool (((!true) || (!true)) || (!true))) :: [(2, ptr g2 0), (5, ptr g5 0), (7, ptr kA 0), (8, ptr kB 0), (9, .bool true), (0, v0), (1, v1), (3, v3), (4, v4), (6, v6), (10, v10), (11, v11), (12, v12), (13, v13), (14, v14), (15, v15), (16, v16), (17, v17), (18, v18), (19, v19), (20, v20), (21, v21), (104, v104), (105, v105), (106, v106)]) a → (Below w1.heap.size w1) w' → Q .normal a w') : wpAnyH Try.prog .any ops_rp12 Q ((Below w1.heap.size w1)) 16 (Array.replicate 16 false) a w := by
  refine hst (i := 0) (o := ops_rp12[0]'(show 0 < ops_rp12.size by rw [size_rp12]; decide)) hF 86 true (.bool true) (Array.getElem?_eq_getElem (show 0 < ops_rp12.size by rw [size_rp12]; decide)) (by kernel_rfl) (by decide) (by kernel_rfl) (by kernel_rfl) (by kernel_rfl) (hQ _ _) (want_n (by kernel_rfl)) (fun hW w hS => rrun_move (x := .tmp 9) (.inl (by kernel_rfl)) (hF.ev 9 (.bool true) rfl)) hS (fun a hF => ?_)
  rw [show cond true (.bool true) undef = .bool true from rfl] at hF
  refine hst (i := 1) (o := ops_rp12[1]'(show 1 < ops_rp12.size by rw [size_rp12]; decide)) hF 87 true (.bool (!true)) (Array.getElem?_eq_getElem (show 1 < ops_rp12.size by rw [size_rp12]; decide)) (by kernel_rfl) (by decide) (by kernel_rfl) (by kernel_rfl) (by kernel_rfl) (hQ _ _) (want_n (by kernel_rfl)) (fun hW w hS => rrun_not (ty := 4) (x := .tmp 86) (by kernel_rfl) (hF.ev 86 (.bool true) rfl)) hS (fun a hF => ?_)
  rw [show cond true (.bool (!true)) undef = .bool (!true) from rfl] at hF
  refine hst (i := 2) (o := ops_rp12[2]'(show 2 < ops_rp12.size by rw [size_rp12]; decide)) hF 88 true (.bool (!true)) (Array.getElem?_eq_getElem (show 2 < ops_rp12.size by rw [size_rp12]; decide)) (by kernel_rfl) (by decide) (by kernel_rfl) (by kernel_rfl) (by kernel_rfl) (hQ _ _) (want_n (by kernel_rfl)) (fun hW w hS => rrun_move (x := .tmp 87) (.inl (by kernel_rfl)) (hF.ev 87 (.bool (!true)) rfl)) hS (fun a hF => ?_)
  rw [show cond true (.bool (!true)) undef = .bool (!true) from rfl] at hF
  refine hst (i := 3) (o := ops_rp12[3]'(show 3 < ops_rp12.size by rw [size_rp12]; decide)) hF 89 true (.agg #[.int .u64 (T.next : Int), v']) (Array.getElem?_eq_getElem (show 3 < ops_rp12.size by rw [size_rp12]; decide)) (by kernel_rfl) (by decide) (by kernel_rfl) (by kernel_rfl) (by kernel_rfl) (hQ _ _) (Eq.trans (b := ((!true) == false)) (want_b (gi := 2) (g := 88) (c := (!true)) hF (by kernel_rfl) (by kernel_rfl) rfl) rfl) (fun hW w hS => rrun_load (ty := 25) (x := .tmp 7) (by kernel_rfl) (hF.ev 7 (ptr kA 0) rfl) (rld_ntree (block_cell ((hS.block _ (lt_of_block hA)).trans hA) 0) (block_cell ((hS.block _ (lt_of_block hA)).trans hA) 1))) hS (fun a hF => ?_)
  rw [show cond true (.agg #[.int .u64 (T.next : Int), v']) undef = .agg #[.int .u64 (T.next : Int), v'] from rfl] at hF
  refine hst (i := 5) (o := ops_rp12[5]'(show 5 < ops_rp12.size by rw [size_rp12]; decide)) hF 91 true (.agg #[.int .u64 (T.next : Int), u']) (Array.getElem?_eq_getElem (show 5 < ops_rp12.size by rw [size_rp12]; decide)) (by kernel_rfl) (by decide) (by kernel_rfl) (by kernel_rfl) (by kernel_rfl) (hQ _ _) (Eq.trans (b := ((!true) == false)) (want_b (gi := 2) (g := 88) (c := (!true)) hF (by kernel_rfl) (by kernel_rfl) rfl) rfl) (fun hW w hS => rrun_load (ty := 32) (x := .tmp 8) (by kernel_rfl) (hF.ev 8 (ptr kB 0) rfl) (rld_tree (block_cell ((hS.block _ (lt_of_block hB)).trans hB) 0) (block_cell ((hS.block _ (lt_of_block hB)).trans hB) 1))) hS (fun a hF => ?_)
  rw [show cond true (.agg #[.int .u64 (T.next : Int), u']) undef = .agg #[.int .u64 (T.next : Int), u'] from rfl] at hF
  refine hcallx (i := 4) (o := ops_rp12[4]'(show 4 < ops_rp12.size by rw [size_rp12]; decide)) (R := fun v w' => ∃ vo, v = .agg #[.int .u64 (T.next : Int), vo] ∧ NodsAt w' vo T.n) hF 90 (Array.getElem?_eq_getElem (show 4 < ops_rp12.size by rw [size_rp12]; decide)) (by kernel_rfl) (by decide) (by kernel_rfl) (Eq.trans (b := ((!true) == false)) (want_b (gi := 2) (g := 88) (c := (!true)) hF (by kernel_rfl) (by kernel_rfl) rfl) rfl) ⟨11, #[.agg #[.int .u64 (T.next : Int), v']], rrun_call1 (fn := 11) (t := 25) rfl (by kernel_rfl) (by kernel_rfl) (hF.ev 89 (.agg #[.int .u64 (T.next : Int), v']) rfl), (of14_any _ _ _ w (hv.below hS) hl2).mono (by rintro e w' ⟨q, rfl, h1, _, h2⟩; exact ⟨_, rfl, ⟨q, rfl, h1⟩, hS.trans (h2.mono hS.size)⟩)⟩ ?_
  rintro _ a w ⟨vo, rfl, hvo⟩ hF hS
  refine hcall (i := 6) (o := ops_rp12[6]'(show 6 < ops_rp12.size by rw [size_rp12]; decide)) hF 92 true (.bool true) (Array.getElem?_eq_getElem (show 6 < ops_rp12.size by rw [size_rp12]; decide)) (by kernel_rfl) (by decide) (by kernel_rfl) (Eq.trans (b := ((!true) == false)) (want_b (gi := 2) (g := 88) (c := (!true)) hF (by kernel_rfl) (by kernel_rfl) rfl) rfl) (fun hW => ⟨15, #[.agg #[.int .u64 (T.next : Int), vo], .agg #[.int .u64 (T.next : Int), u']], rrun_call2 (fn := 15) (t := 32) (u := 32) rfl (by kernel_rfl) (by kernel_rfl) (hF.ev 90 (.agg #[.int .u64 (T.next : Int), vo]) rfl) (hF.ev 91 (.agg #[.int .u64 (T.next : Int), u']) rfl), (rsame_any _ _ _ _ _ _ w hvo (hu.below hS) hl2 hl2).mono (by rintro e w' ⟨rfl, hb⟩; exact ⟨by rw [eqL_iff.2 rfl]; simp, hS.trans (hb.mono hS.size)⟩)⟩) hS (fun a w hF hS => ?_)
  rw [show cond true (.bool true) undef = .bool true from rfl] at hF
  refine hst (i := 7) (o := ops_rp12[7]'(show 7 < ops_rp12.size by rw [size_rp12]; decide)) hF 93 true (.bool (!true)) (Array.getElem?_eq_getElem (show 7 < ops_rp12.size by rw [size_rp12]; decide)) (by kernel_rfl) (by decide) (by kernel_rfl) (by kernel_rfl) (by kernel_rfl) (hQ _ _) (Eq.trans (b := ((!true) == false)) (want_b (gi := 2) (g := 88) (c := (!true)) hF (by kernel_rfl) (by kernel_rfl) rfl) rfl) (fun hW w hS => rrun_not (ty := 4) (x := .tmp 92) (by kernel_rfl) (hF.ev 92 (.bool true) rfl)) hS (fun a hF => ?_)
  rw [show cond true (.bool (!true)) undef = .bool (!true) from rfl] at hF
  refine hst (i := 8) (o := ops_rp12[8]'(show 8 < ops_rp12.size by rw [size_rp12]; decide)) hF 94 true (.bool ((!true) || (!true))) (Array.getElem?_eq_getElem (show 8 < ops_rp12.size by rw [size_rp12]; decide)) (by kernel_rfl) (by decide) (by kernel_rfl) (by kernel_rfl) (by kernel_rfl) (hQ _ _) (want_n (by kernel_rfl)) (fun hW w hS => rrun_or (y := .const (.bool true)) (x := .tmp 88) (b := (!true)) (b' := (!true)) (by kernel_rfl) (hF.ev 88 _ rfl) rfl (hF.ev 93 (.bool (!true)) rfl)) hS (fun a hF => ?_)
  rw [show cond true (.bool ((!true) || (!true))) undef = .bool ((!true) || (!true)) from rfl] at hF
  refine hst (i := 9) (o := ops_rp12[9]'(show 9 < ops_rp12.size by rw [size_rp12]; decide)) hF 95 true (.bool ((!true) || (!true))) (Array.getElem?_eq_getElem (show 9 < ops_rp12.size by rw [size_rp12]; decide)) (by kernel_rfl) (by decide) (by kernel_rfl) (by kernel_rfl) (by kernel_rfl) (hQ _ _) (want_n (by kernel_rfl)) (fun hW w hS => rrun_move (x := .tmp 94) (.inl (by kernel_rfl)) (hF.ev 94 (.bool ((!true) || (!true))) rfl)) hS (fun a hF => ?_)
  rw [show cond true (.bool ((!true) || (!true))) undef = .bool ((!true) || (!true)) from rfl] at hF
  refine hst (i := 10) (o := ops_rp12[10]'(show 10 < ops_rp12.size by rw [size_rp12]; decide)) hF 96 true (.agg #[.int .u64 (x : Int), tv]) (Array.getElem?_eq_getElem (show 10 < ops_rp12.size by rw [size_rp12]; decide)) (by kernel_rfl) (by decide) (by kernel_rfl) (by kernel_rfl) (by kernel_rfl) (hQ _ _) (Eq.trans (b := (((!true) || (!true)) == false)) (want_b (gi := 9) (g := 95) (c := ((!true) || (!true))) hF (by kernel_rfl) (by kernel_rfl) rfl) rfl) (fun hW w hS => rrun_load (ty := 25) (x := .tmp 2) (by kernel_rfl) (hF.ev 2 (ptr g2 0) rfl) (rld_ntree (block_cell (hP.next hS).tb 0) (block_cell (hP.next hS).tb 1))) hS (fun a hF => ?_)
  rw [show cond true (.agg #[.int .u64 (x : Int), tv]) undef = .agg #[.int .u64 (x : Int), tv] from rfl] at hF
  refine hst (i := 12) (o := ops_rp12[12]'(show 12 < ops_rp12.size by rw [size_rp12]; decide)) hF 98 true (.agg #[.int .u64 (x : Int), uv]) (Array.getElem?_eq_getElem (show 12 < ops_rp12.size by rw [size_rp12]; decide)) (by kernel_rfl) (by decide) (by kernel_rfl) (by kernel_rfl) (by kernel_rfl) (hQ _ _) (Eq.trans (b := (((!true) || (!true)) == false)) (want_b (gi := 9) (g := 95) (c := ((!true) || (!true))) hF (by kernel_rfl) (by kernel_rfl) rfl) rfl) (fun hW w hS => rrun_load (ty := 32) (x := .tmp 5) (by kernel_rfl) (hF.ev 5 (ptr g5 0) rfl) (rld_tree (block_cell (hP.next hS).ub 0) (block_cell (hP.next hS).ub 1))) hS (fun a hF => ?_)
  rw [show cond true (.agg #[.int .u64 (x : Int), uv]) undef = .agg #[.int .u64 (x : Int), uv] from rfl] at hF
  refine hcallx (i := 11) (o := ops_rp12[11]'(show 11 < ops_rp12.size by rw [size_rp12]; decide)) (R := fun v w' => ∃ vp, v = .agg #[.int .u64 (x : Int), vp] ∧ NodsAt w' vp l) hF 97 (Array.getElem?_eq_getElem (show 11 < ops_rp12.size by rw [size_rp12]; decide)) (by kernel_rfl) (by decide) (by kernel_rfl) (Eq.trans (b := (((!true) || (!true)) == false)) (want_b (gi := 9) (g := 95) (c := ((!true) || (!true))) hF (by kernel_rfl) (by kernel_rfl) rfl) rfl) ⟨11, #[.agg #[.int .u64 (x : Int), tv]], rrun_call1 (fn := 11) (t := 25) rfl (by kernel_rfl) (by kernel_rfl) (hF.ev 96 (.agg #[.int .u64 (x : Int), tv]) rfl), (of14_any _ _ _ w (hP.next hS).tr hl1).mono (by rintro e w' ⟨q, rfl, h1, _, h2⟩; exact ⟨_, rfl, ⟨q, rfl, h1⟩, hS.trans (h2.mono hS.size)⟩)⟩ ?_
  rintro _ a w ⟨vp, rfl, hvp⟩ hF hS
  refine hcall (i := 13) (o := ops_rp12[13]'(show 13 < ops_rp12.size by rw [size_rp12]; decide)) hF 99 true (.bool true) (Array.getElem?_eq_getElem (show 13 < ops_rp12.size by rw [size_rp12]; decide)) (by kernel_rfl) (by decide) (by kernel_rfl) (Eq.trans (b := (((!true) || (!true)) == false)) (want_b (gi := 9) (g := 95) (c := ((!true) || (!true))) hF (by kernel_rfl) (by kernel_rfl) rfl) rfl) (fun hW => ⟨15, #[.agg #[.int .u64 (x : Int), vp], .agg #[.int .u64 (x : Int), uv]], rrun_call2 (fn := 15) (t := 32) (u := 32) rfl (by kernel_rfl) (by kernel_rfl) (hF.ev 97 (.agg #[.int .u64 (x : Int), vp]) rfl) (hF.ev 98 (.agg #[.int .u64 (x : Int), uv]) rfl), (rsame_any _ _ _ _ _ _ w hvp (hP.next hS).ur hl1 hl1).mono (by rintro e w' ⟨rfl, hb⟩; exact ⟨by rw [eqL_iff.2 rfl]; simp, hS.trans (hb.mono hS.size)⟩)⟩) hS (fun a w hF hS => ?_)
  rw [show cond true (.bool true) undef = .bool true from rfl] at hF
  refine hst (i := 14) (o := ops_rp12[14]'(show 14 < ops_rp12.size by rw [size_rp12]; decide)) hF 100 true (.bool (!true)) (Array.getElem?_eq_getElem (show 14 < ops_rp12.size by rw [size_rp12]; decide)) (by kernel_rfl) (by decide) (by kernel_rfl) (by kernel_rfl) (by kernel_rfl) (hQ _ _) (Eq.trans (b := (((!true) || (!true)) == false)) (want_b (gi := 9) (g := 95) (c := ((!true) || (!true))) hF (by kernel_rfl) (by kernel_rfl) rfl) rfl) (fun hW w hS => rrun_not (ty := 4) (x := .tmp 99) (by kernel_rfl) (hF.ev 99 (.bool true) rfl)) hS (fun a hF => ?_)
  rw [show cond true (.bool (!true)) undef = .bool (!true) from rfl] at hF
  refine hst (i := 15) (o := ops_rp12[15]'(show 15 < ops_rp12.size by rw [size_rp12]; decide)) hF 101 true (.bool (((!true) || (!true)) || (!true))) (Array.getElem?_eq_getElem (show 15 < ops_rp12.size by rw [size_rp12]; decide)) (by kernel_rfl) (by decide) (by kernel_rfl) (by kernel_rfl) (by kernel_rfl) (hQ _ _) (want_n (by kernel_rfl)) (fun hW w hS => rrun_or (y := .const (.bool true)) (x := .tmp 95) (b := ((!true) || (!true))) (b' := (!true)) (by kernel_rfl) (hF.ev 95 _ rfl) rfl (hF.ev 100 (.bool (!true)) rfl)) hS (fun a hF => ?_)
  rw [show cond true (.bool (((!true) || (!true)) || (!true))) undef = .bool (((!true) || (!true)) || (!true)) from rfl] at hF
  exact wpAnyH_done (by kernel_rfl) (hE _ _ (hF.sub ((101, .bool (((!true) || (!true)) || (!true))) :: [(2, ptr g2 0), (5, ptr g5 0), (7, ptr kA 0), (8, ptr kB 0), (9, .bool true), (0, v0), (1, v1), (3, v3), (4, v4), (6, v6), (10, v10), (11, v11), (12, v12), (13, v13), (14, v14), (15, v15), (16, v16), (17, v17), (18, v18), (19, v19), (20, v20), (21, v21), (104, v104), (105, v105), (106, v106)]) ⟨rfl, rfl, rfl, rfl, rfl, rfl, rfl, rfl, rfl, rfl, rfl, rfl, rfl, rfl, rfl, rfl, rfl, rfl, rfl, rfl, rfl, rfl, rfl, rfl, rfl, rfl, trivial⟩) hS) _
end Go.Proofs.Ytpmlhmficmillaa
