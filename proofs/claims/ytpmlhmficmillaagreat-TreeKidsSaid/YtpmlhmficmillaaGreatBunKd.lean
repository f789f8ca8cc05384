/- A kid looked at, in law TreeKids. Conditions: in the statement.
Law TreeKids. Conditions: the tree as it comes in.
A law of layer 14 as its frame needs it. Conditions: the arguments as they come in. -/
import Derived.Test.YtpmlhmficmillaaGreatBunBk
import Derived.Test.YtpmlhmficmillaaGreatBunWP
import Derived.Test.YtpmlhmficmillaaGreatBunNCl
import Derived.Test.YtpmlhmficmillaaGreatBunTI
namespace Go.Proofs.YtpmlhmficmillaaGreat
section
open Go.RowKit
set_option maxRecDepth 100000
set_option linter.unusedVariables false

theorem kdidx (b f n c j : Nat) (hj : j < n) (hn : n ≤ 9223372036854775807) (w : World) : (Instr.indexAt 23 (.slice (some ⟨b, f, none⟩) n c) (.int .i64 (j : Int))).run Tryz.prog w = .ok (ptr b (f + j * 12)) w := by
  have h1 : (0 : Int) ≤ (j : Int) := by omega
  have h2 : (j : Int) < (n : Int) := by omega
  simp [go_sem, h1, h2, ptr]
theorem kdge_str (s t : ByteArray) (w : World) : (binOp .geq 9 (.string s) (.string t)).run Tryz.prog w = .ok (.bool (!Op.bytesLess s.toList t.toList)) w := by simp [go_sem]
theorem kdld_nn {p : Addr} {v : Value} {w : World} (h : w.cell? p = some v) : (loadVar 23 p).run Tryz.prog w = .ok v w := by simp [go_sem, h]
theorem pos_of {A : Bool} {j : Nat} (h : (A && (decide (0 < j) == true)) = true) : 0 < j := by
  simp at h; exact h.2
theorem kcell {w1 w : World} {p : Addr} {v : Value} (h : w1.cell? p = some v) (hS : Below w1.heap.size w1 w) : w.cell? p = some v := (hS.cell (p := p) (World.block_lt_of_cell? _ _ h)).trans h

noncomputable def ops_kd15 : Array Oper := match Tryz.f7.body with | some c => (allOps' c).getD 13 #[] | none => #[]
theorem size_kd15 : ops_kd15.size = 37 := by kernel_rfl
set_option maxHeartbeats 4000000 in
theorem kd15_all {w1 : World} {g b f L lc i d h m mc j np up : Nat} {gn : Bool} {ps qs : ByteArray} (hi : i < L) (hL : L ≤ 1000) (hj : j < m) (hm : m ≤ 1000) (hg : w1.cell? ⟨g, 1, none⟩ = some (.slice (some ⟨b, f, none⟩) L lc)) (hn : w1.cell? ⟨b, f + i * 12, none⟩ = some (.int .u64 (np : Int))) (h9 : w1.cell? ⟨d, h + j * 12 + 9, none⟩ = some (.int .u64 (up : Int))) (h10 : w1.cell? ⟨d, h + j * 12 + 10, none⟩ = some (.bool gn)) (h5 : w1.cell? ⟨d, h + j * 12 + 5, none⟩ = some (.string qs)) (hp : 0 < j → w1.cell? ⟨d, h + (j - 1) * 12 + 5, none⟩ = some (.string ps)) {v0 v2 v3 v7 v8 v9 v10 v11 v12 v13 v14 v15 v16 v17 v18 v19 v20 v21 v22 v23 v24 v25 v26 v27 v28 v29 v30 v31 v32 v33 v34 v35 v36 v37 v38 v39 v40 v41 v42 v43 v44 v45 v83 v84 v85 v86 v87 v88 v89 v90 v91 v92 v93 v94 v95 v96 v97 : Value} {Q : Exit → Act → World → Prop} {a : Act} {w : World} (hQ : ∀ d u c a w, Q (.panic c) (a.put d u) w → Q (.panic c) a w) (hF : FrL 98 [(1, ptr g 0), (4, .int .i64 ((i : Nat) : Int)), (5, .slice (some ⟨d, h, none⟩) m mc), (6, .int .i64 ((j : Nat) : Int)), (0, v0), (2, v2), (3, v3), (7, v7), (8, v8), (9, v9), (10, v10), (11, v11), (12, v12), (13, v13), (14, v14), (15, v15), (16, v16), (17, v17), (18, v18), (19, v19), (20, v20), (21, v21), (22, v22), (23, v23), (24, v24), (25, v25), (26, v26), (27, v27), (28, v28), (29, v29), (30, v30), (31, v31), (32, v32), (33, v33), (34, v34), (35, v35), (36, v36), (37, v37), (38, v38), (39, v39), (40, v40), (41, v41), (42, v42), (43, v43), (44, v44), (45, v45), (83, v83), (84, v84), (85, v85), (86, v86), (87, v87), (88, v88), (89, v89), (90, v90), (91, v91), (92, v92), (93, v93), (94, v94), (95, v95), (96, v96), (97, v97)] a) (hS : (Below w1.heap.size w1) w) (hE : ∀ a w', FrL 98 ((82, .bool (((!decide (up = np)) || gn) || ((decide (0 < j)) && (!Op.bytesLess ps.toList qs.toList)))) :: [(1, ptr g 0), (4, .int .i64 ((i : Nat) : Int)), (5, .slice (some ⟨d, h, none⟩) m mc), (6, .int .i64 ((j : Nat) : Int)), (0, v0), (2, v2), (3, v3), (7, v7), (8, v8), (9, v9), (10, v10), (11, v11), (12, v12), (13, v13), (14, v14), (15, v15), (16, v16), (17, v17), (18, v18), (19, v19), (20, v20), (21, v21), (22, v22), (23, v23), (24, v24), (25, v25), (26, v26), (27, v27), (28, v28), (29, v29), (30, v30), (31, v31), (32, v32), (33, v33), (34, v34), (35, v35), (36, v36), (37, v37), (38, v38), (39, v39), (40, v40), (41, v41), (42, v42), (43, v43), (44, v44), (45, v45), (83, v83), (84, v84), (85, v85), (86, v86), (87, v87), (88, v88), (89, v89), (90, v90), (91, v91), (92, v92), (93, v93), (94, v94), (95, v95), (96, v96), (97, v97)]) a → (Below w1.heap.size w1) w' → Q .normal a w') : wpAnyH Tryz.prog .any ops_kd15 Q ((Below w1.heap.size w1)) 37 (Array.replicate 37 false) a w := by
  refine hst (i := 0) (o := ops_kd15[0]'(show 0 < ops_kd15.size by rw [size_kd15]; decide)) hF 46 true (.slice (some ⟨d, h, none⟩) m mc) (Array.getElem?_eq_getElem (show 0 < ops_kd15.size by rw [size_kd15]; decide)) (by kernel_rfl) (by decide) (by kernel_rfl) (by kernel_rfl) (by kernel_rfl) (hQ _ _) (want_n (by kernel_rfl)) (fun hW w hS => rrun_move (x := .tmp 5) (.inl (by kernel_rfl)) (hF.ev 5 (.slice (some ⟨d, h, none⟩) m mc) rfl)) hS (fun a hF => ?_)
  rw [show cond true (.slice (some ⟨d, h, none⟩) m mc) undef = .slice (some ⟨d, h, none⟩) m mc from rfl] at hF
  refine hst (i := 1) (o := ops_kd15[1]'(show 1 < ops_kd15.size by rw [size_kd15]; decide)) hF 47 true (.int .i64 ((j : Nat) : Int)) (Array.getElem?_eq_getElem (show 1 < ops_kd15.size by rw [size_kd15]; decide)) (by kernel_rfl) (by decide) (by kernel_rfl) (by kernel_rfl) (by kernel_rfl) (hQ _ _) (want_n (by kernel_rfl)) (fun hW w hS => rrun_move (x := .tmp 6) (.inl (by kernel_rfl)) (hF.ev 6 (.int .i64 ((j : Nat) : Int)) rfl)) hS (fun a hF => ?_)
  rw [show cond true (.int .i64 ((j : Nat) : Int)) undef = .int .i64 ((j : Nat) : Int) from rfl] at hF
  refine hst (i := 2) (o := ops_kd15[2]'(show 2 < ops_kd15.size by rw [size_kd15]; decide)) hF 48 true (ptr d (h + j * 12)) (Array.getElem?_eq_getElem (show 2 < ops_kd15.size by rw [size_kd15]; decide)) (by kernel_rfl) (by decide) (by kernel_rfl) (by kernel_rfl) (by kernel_rfl) (hQ _ _) (want_n (by kernel_rfl)) (fun hW w hS => rrun_idx 12 (ty := 23) (x := .tmp 46) (y := .tmp 47) (by kernel_rfl) (hF.ev 46 (.slice (some ⟨d, h, none⟩) m mc) rfl) (hF.ev 47 (.int .i64 ((j : Nat) : Int)) rfl) hj (kdidx _ _ _ _ _ hj (by omega) w)) hS (fun a hF => ?_)
  rw [show cond true (ptr d (h + j * 12)) undef = ptr d (h + j * 12) from rfl] at hF
  refine hst (i := 3) (o := ops_kd15[3]'(show 3 < ops_kd15.size by rw [size_kd15]; decide)) hF 49 true (ptr d (h + j * 12 + 9)) (Array.getElem?_eq_getElem (show 3 < ops_kd15.size by rw [size_kd15]; decide)) (by kernel_rfl) (by decide) (by kernel_rfl) (by kernel_rfl) (by kernel_rfl) (hQ _ _) (want_n (by kernel_rfl)) (fun hW w hS => rrun_fld (T := 28) (x := .tmp 48) (f := 9) (by kernel_rfl) (hF.ev 48 (ptr d (h + j * 12)) rfl) (by kernel_rfl)) hS (fun a hF => ?_)
  rw [show cond true (ptr d (h + j * 12 + 9)) undef = ptr d (h + j * 12 + 9) from rfl] at hF
  refine hst (i := 4) (o := ops_kd15[4]'(show 4 < ops_kd15.size by rw [size_kd15]; decide)) hF 50 true (.int .u64 (up : Int)) (Array.getElem?_eq_getElem (show 4 < ops_kd15.size by rw [size_kd15]; decide)) (by kernel_rfl) (by decide) (by kernel_rfl) (by kernel_rfl) (by kernel_rfl) (hQ _ _) (want_n (by kernel_rfl)) (fun hW w hS => rrun_load (ty := 22) (x := .tmp 49) (by kernel_rfl) (hF.ev 49 (ptr d (h + j * 12 + 9)) rfl) (rld_u64 (kcell h9 hS))) hS (fun a hF => ?_)
  rw [show cond true (.int .u64 (up : Int)) undef = .int .u64 (up : Int) from rfl] at hF
  refine hst (i := 5) (o := ops_kd15[5]'(show 5 < ops_kd15.size by rw [size_kd15]; decide)) hF 51 true (ptr g 1) (Array.getElem?_eq_getElem (show 5 < ops_kd15.size by rw [size_kd15]; decide)) (by kernel_rfl) (by decide) (by kernel_rfl) (by kernel_rfl) (by kernel_rfl) (hQ _ _) (want_n (by kernel_rfl)) (fun hW w hS => rrun_fld (T := 25) (x := .tmp 1) (f := 1) (by kernel_rfl) (hF.ev 1 (ptr g 0) rfl) (by kernel_rfl)) hS (fun a hF => ?_)
  rw [show cond true (ptr g 1) undef = ptr g 1 from rfl] at hF
  refine hst (i := 6) (o := ops_kd15[6]'(show 6 < ops_kd15.size by rw [size_kd15]; decide)) hF 52 true (.slice (some ⟨b, f, none⟩) L lc) (Array.getElem?_eq_getElem (show 6 < ops_kd15.size by rw [size_kd15]; decide)) (by kernel_rfl) (by decide) (by kernel_rfl) (by kernel_rfl) (by kernel_rfl) (hQ _ _) (want_n (by kernel_rfl)) (fun hW w hS => rrun_load (ty := 23) (x := .tmp 51) (by kernel_rfl) (hF.ev 51 (ptr g 1) rfl) (kdld_nn (kcell hg hS))) hS (fun a hF => ?_)
  rw [show cond true (.slice (some ⟨b, f, none⟩) L lc) undef = .slice (some ⟨b, f, none⟩) L lc from rfl] at hF
  refine hst (i := 7) (o := ops_kd15[7]'(show 7 < ops_kd15.size by rw [size_kd15]; decide)) hF 53 true (.int .i64 ((i : Nat) : Int)) (Array.getElem?_eq_getElem (show 7 < ops_kd15.size by rw [size_kd15]; decide)) (by kernel_rfl) (by decide) (by kernel_rfl) (by kernel_rfl) (by kernel_rfl) (hQ _ _) (want_n (by kernel_rfl)) (fun hW w hS => rrun_move (x := .tmp 4) (.inl (by kernel_rfl)) (hF.ev 4 (.int .i64 ((i : Nat) : Int)) rfl)) hS (fun a hF => ?_)
  rw [show cond true (.int .i64 ((i : Nat) : Int)) undef = .int .i64 ((i : Nat) : Int) from rfl] at hF
  refine hst (i := 8) (o := ops_kd15[8]'(show 8 < ops_kd15.size by rw [size_kd15]; decide)) hF 54 true (ptr b (f + i * 12)) (Array.getElem?_eq_getElem (show 8 < ops_kd15.size by rw [size_kd15]; decide)) (by kernel_rfl) (by decide) (by kernel_rfl) (by kernel_rfl) (by kernel_rfl) (hQ _ _) (want_n (by kernel_rfl)) (fun hW w hS => rrun_idx 12 (ty := 23) (x := .tmp 52) (y := .tmp 53) (by kernel_rfl) (hF.ev 52 (.slice (some ⟨b, f, none⟩) L lc) rfl) (hF.ev 53 (.int .i64 ((i : Nat) : Int)) rfl) hi (kdidx _ _ _ _ _ hi (by omega) w)) hS (fun a hF => ?_)
  rw [show cond true (ptr b (f + i * 12)) undef = ptr b (f + i * 12) from rfl] at hF
  refine hst (i := 9) (o := ops_kd15[9]'(show 9 < ops_kd15.size by rw [size_kd15]; decide)) hF 55 true (ptr b (f + i * 12)) (Array.getElem?_eq_getElem (show 9 < ops_kd15.size by rw [size_kd15]; decide)) (by kernel_rfl) (by decide) (by kernel_rfl) (by kernel_rfl) (by kernel_rfl) (hQ _ _) (want_n (by kernel_rfl)) (fun hW w hS => rrun_fld (T := 28) (x := .tmp 54) (f := 0) (by kernel_rfl) (hF.ev 54 (ptr b (f + i * 12)) rfl) (by kernel_rfl)) hS (fun a hF => ?_)
  rw [show cond true (ptr b (f + i * 12)) undef = ptr b (f + i * 12) from rfl] at hF
  refine hst (i := 10) (o := ops_kd15[10]'(show 10 < ops_kd15.size by rw [size_kd15]; decide)) hF 56 true (.int .u64 (np : Int)) (Array.getElem?_eq_getElem (show 10 < ops_kd15.size by rw [size_kd15]; decide)) (by kernel_rfl) (by decide) (by kernel_rfl) (by kernel_rfl) (by kernel_rfl) (hQ _ _) (want_n (by kernel_rfl)) (fun hW w hS => rrun_load (ty := 22) (x := .tmp 55) (by kernel_rfl) (hF.ev 55 (ptr b (f + i * 12)) rfl) (rld_u64 (kcell hn hS))) hS (fun a hF => ?_)
  rw [show cond true (.int .u64 (np : Int)) undef = .int .u64 (np : Int) from rfl] at hF
  refine hst (i := 11) (o := ops_kd15[11]'(show 11 < ops_kd15.size by rw [size_kd15]; decide)) hF 57 true (.bool (!decide (up = np))) (Array.getElem?_eq_getElem (show 11 < ops_kd15.size by rw [size_kd15]; decide)) (by kernel_rfl) (by decide) (by kernel_rfl) (by kernel_rfl) (by kernel_rfl) (hQ _ _) (want_n (by kernel_rfl)) (fun hW w hS => rrun_bin (op := .neq) (ty := 22) (ty2 := 22) (x := .tmp 50) (y := .tmp 56) (u := .int .u64 (up : Int)) (v := .int .u64 (np : Int)) (by kernel_rfl) (hF.ev 50 (.int .u64 (up : Int)) rfl) (hF.ev 56 (.int .u64 (np : Int)) rfl) (by kernel_rfl) (rne_u64 _ _ w)) hS (fun a hF => ?_)
  rw [show cond true (.bool (!decide (up = np))) undef = .bool (!decide (up = np)) from rfl] at hF
  refine hst (i := 12) (o := ops_kd15[12]'(show 12 < ops_kd15.size by rw [size_kd15]; decide)) hF 58 true (.bool (!decide (up = np))) (Array.getElem?_eq_getElem (show 12 < ops_kd15.size by rw [size_kd15]; decide)) (by kernel_rfl) (by decide) (by kernel_rfl) (by kernel_rfl) (by kernel_rfl) (hQ _ _) (want_n (by kernel_rfl)) (fun hW w hS => rrun_move (x := .tmp 57) (.inl (by kernel_rfl)) (hF.ev 57 (.bool (!decide (up = np))) rfl)) hS (fun a hF => ?_)
  rw [show cond true (.bool (!decide (up = np))) undef = .bool (!decide (up = np)) from rfl] at hF
  refine hst (i := 13) (o := ops_kd15[13]'(show 13 < ops_kd15.size by rw [size_kd15]; decide)) hF 59 ((!decide (up = np)) == false) (.slice (some ⟨d, h, none⟩) m mc) (Array.getElem?_eq_getElem (show 13 < ops_kd15.size by rw [size_kd15]; decide)) (by kernel_rfl) (by decide) (by kernel_rfl) (by kernel_rfl) (by kernel_rfl) (hQ _ _) (want_b (gi := 12) (g := 58) (c := (!decide (up = np))) hF (by kernel_rfl) (by kernel_rfl) rfl) (fun hW w hS => rrun_move (x := .tmp 5) (.inl (by kernel_rfl)) (hF.ev 5 (.slice (some ⟨d, h, none⟩) m mc) rfl)) hS (fun a hF => ?_)
  refine hst (i := 14) (o := ops_kd15[14]'(show 14 < ops_kd15.size by rw [size_kd15]; decide)) hF 60 ((!decide (up = np)) == false) (.int .i64 ((j : Nat) : Int)) (Array.getElem?_eq_getElem (show 14 < ops_kd15.size by rw [size_kd15]; decide)) (by kernel_rfl) (by decide) (by kernel_rfl) (by kernel_rfl) (by kernel_rfl) (hQ _ _) (want_b (gi := 12) (g := 58) (c := (!decide (up = np))) hF (by kernel_rfl) (by kernel_rfl) rfl) (fun hW w hS => rrun_move (x := .tmp 6) (.inl (by kernel_rfl)) (hF.ev 6 (.int .i64 ((j : Nat) : Int)) rfl)) hS (fun a hF => ?_)
  refine hst (i := 15) (o := ops_kd15[15]'(show 15 < ops_kd15.size by rw [size_kd15]; decide)) hF 61 ((!decide (up = np)) == false) (ptr d (h + j * 12)) (Array.getElem?_eq_getElem (show 15 < ops_kd15.size by rw [size_kd15]; decide)) (by kernel_rfl) (by decide) (by kernel_rfl) (by kernel_rfl) (by kernel_rfl) (hQ _ _) (want_b (gi := 12) (g := 58) (c := (!decide (up = np))) hF (by kernel_rfl) (by kernel_rfl) rfl) (fun hW w hS => rrun_idx 12 (ty := 23) (x := .tmp 59) (y := .tmp 60) (by kernel_rfl) ((hF.ev 59 (cond ((!decide (up = np)) == false) (.slice (some ⟨d, h, none⟩) m mc) undef) rfl).trans (cond_t hW)) ((hF.ev 60 (cond ((!decide (up = np)) == false) (.int .i64 ((j : Nat) : Int)) undef) rfl).trans (cond_t hW)) hj (kdidx _ _ _ _ _ hj (by omega) w)) hS (fun a hF => ?_)
  refine hst (i := 16) (o := ops_kd15[16]'(show 16 < ops_kd15.size by rw [size_kd15]; decide)) hF 62 ((!decide (up = np)) == false) (ptr d (h + j * 12 + 10)) (Array.getElem?_eq_getElem (show 16 < ops_kd15.size by rw [size_kd15]; decide)) (by kernel_rfl) (by decide) (by kernel_rfl) (by kernel_rfl) (by kernel_rfl) (hQ _ _) (want_b (gi := 12) (g := 58) (c := (!decide (up = np))) hF (by kernel_rfl) (by kernel_rfl) rfl) (fun hW w hS => rrun_fld (T := 28) (x := .tmp 61) (f := 10) (by kernel_rfl) ((hF.ev 61 (cond ((!decide (up = np)) == false) (ptr d (h + j * 12)) undef) rfl).trans (cond_t hW)) (by kernel_rfl)) hS (fun a hF => ?_)
  refine hst (i := 17) (o := ops_kd15[17]'(show 17 < ops_kd15.size by rw [size_kd15]; decide)) hF 63 ((!decide (up = np)) == false) (.bool gn) (Array.getElem?_eq_getElem (show 17 < ops_kd15.size by rw [size_kd15]; decide)) (by kernel_rfl) (by decide) (by kernel_rfl) (by kernel_rfl) (by kernel_rfl) (hQ _ _) (want_b (gi := 12) (g := 58) (c := (!decide (up = np))) hF (by kernel_rfl) (by kernel_rfl) rfl) (fun hW w hS => rrun_load (ty := 4) (x := .tmp 62) (by kernel_rfl) ((hF.ev 62 (cond ((!decide (up = np)) == false) (ptr d (h + j * 12 + 10)) undef) rfl).trans (cond_t hW)) (rld_bool (kcell h10 hS))) hS (fun a hF => ?_)
  refine hst (i := 18) (o := ops_kd15[18]'(show 18 < ops_kd15.size by rw [size_kd15]; decide)) hF 64 true (.bool ((!decide (up = np)) || gn)) (Array.getElem?_eq_getElem (show 18 < ops_kd15.size by rw [size_kd15]; decide)) (by kernel_rfl) (by decide) (by kernel_rfl) (by kernel_rfl) (by kernel_rfl) (hQ _ _) (want_n (by kernel_rfl)) (fun hW w hS => rrun_or (y := .const (.bool true)) (x := .tmp 58) (b := (!decide (up = np))) (b' := gn) (by kernel_rfl) (hF.ev 58 _ rfl) rfl (hF.ev 63 (cond ((!decide (up = np)) == false) (.bool gn) undef) rfl)) hS (fun a hF => ?_)
  rw [show cond true (.bool ((!decide (up = np)) || gn)) undef = .bool ((!decide (up = np)) || gn) from rfl] at hF
  refine hst (i := 19) (o := ops_kd15[19]'(show 19 < ops_kd15.size by rw [size_kd15]; decide)) hF 65 true (.bool ((!decide (up = np)) || gn)) (Array.getElem?_eq_getElem (show 19 < ops_kd15.size by rw [size_kd15]; decide)) (by kernel_rfl) (by decide) (by kernel_rfl) (by kernel_rfl) (by kernel_rfl) (hQ _ _) (want_n (by kernel_rfl)) (fun hW w hS => rrun_move (x := .tmp 64) (.inl (by kernel_rfl)) (hF.ev 64 (.bool ((!decide (up = np)) || gn)) rfl)) hS (fun a hF => ?_)
  rw [show cond true (.bool ((!decide (up = np)) || gn)) undef = .bool ((!decide (up = np)) || gn) from rfl] at hF
  refine hst (i := 20) (o := ops_kd15[20]'(show 20 < ops_kd15.size by rw [size_kd15]; decide)) hF 66 (((!decide (up = np)) || gn) == false) (.int .i64 ((j : Nat) : Int)) (Array.getElem?_eq_getElem (show 20 < ops_kd15.size by rw [size_kd15]; decide)) (by kernel_rfl) (by decide) (by kernel_rfl) (by kernel_rfl) (by kernel_rfl) (hQ _ _) (want_b (gi := 19) (g := 65) (c := ((!decide (up = np)) || gn)) hF (by kernel_rfl) (by kernel_rfl) rfl) (fun hW w hS => rrun_move (x := .tmp 6) (.inl (by kernel_rfl)) (hF.ev 6 (.int .i64 ((j : Nat) : Int)) rfl)) hS (fun a hF => ?_)
  refine hst (i := 21) (o := ops_kd15[21]'(show 21 < ops_kd15.size by rw [size_kd15]; decide)) hF 67 (((!decide (up = np)) || gn) == false) (.bool (decide (0 < j))) (Array.getElem?_eq_getElem (show 21 < ops_kd15.size by rw [size_kd15]; decide)) (by kernel_rfl) (by decide) (by kernel_rfl) (by kernel_rfl) (by kernel_rfl) (hQ _ _) (want_b (gi := 19) (g := 65) (c := ((!decide (up = np)) || gn)) hF (by kernel_rfl) (by kernel_rfl) rfl) (fun hW w hS => rrun_bin (op := .gtr) (ty := 3) (ty2 := 3) (x := .tmp 66) (y := .const (.int .i64 0)) (u := .int .i64 ((j : Nat) : Int)) (v := .int .i64 ((0 : Nat) : Int)) (by kernel_rfl) ((hF.ev 66 (cond (((!decide (up = np)) || gn) == false) (.int .i64 ((j : Nat) : Int)) undef) rfl).trans (cond_t hW)) (rfl) (by kernel_rfl) (rgt_i64 _ _ w)) hS (fun a hF => ?_)
  refine hst (i := 22) (o := ops_kd15[22]'(show 22 < ops_kd15.size by rw [size_kd15]; decide)) hF 68 (((!decide (up = np)) || gn) == false) (.bool (decide (0 < j))) (Array.getElem?_eq_getElem (show 22 < ops_kd15.size by rw [size_kd15]; decide)) (by kernel_rfl) (by decide) (by kernel_rfl) (by kernel_rfl) (by kernel_rfl) (hQ _ _) (want_b (gi := 19) (g := 65) (c := ((!decide (up = np)) || gn)) hF (by kernel_rfl) (by kernel_rfl) rfl) (fun hW w hS => rrun_move (x := .tmp 67) (.inl (by kernel_rfl)) ((hF.ev 67 (cond (((!decide (up = np)) || gn) == false) (.bool (decide (0 < j))) undef) rfl).trans (cond_t hW))) hS (fun a hF => ?_)
  refine hst (i := 23) (o := ops_kd15[23]'(show 23 < ops_kd15.size by rw [size_kd15]; decide)) hF 69 ((((!decide (up = np)) || gn) == false) && ((decide (0 < j)) == true)) (.slice (some ⟨d, h, none⟩) m mc) (Array.getElem?_eq_getElem (show 23 < ops_kd15.size by rw [size_kd15]; decide)) (by kernel_rfl) (by decide) (by kernel_rfl) (by kernel_rfl) (by kernel_rfl) (hQ _ _) (want_c (gi := 22) (g := 68) (c := (((!decide (up = np)) || gn) == false)) (b := (decide (0 < j))) hF (by kernel_rfl) (by kernel_rfl) rfl) (fun hW w hS => rrun_move (x := .tmp 5) (.inl (by kernel_rfl)) (hF.ev 5 (.slice (some ⟨d, h, none⟩) m mc) rfl)) hS (fun a hF => ?_)
  refine hst (i := 24) (o := ops_kd15[24]'(show 24 < ops_kd15.size by rw [size_kd15]; decide)) hF 70 ((((!decide (up = np)) || gn) == false) && ((decide (0 < j)) == true)) (.int .i64 ((j : Nat) : Int)) (Array.getElem?_eq_getElem (show 24 < ops_kd15.size by rw [size_kd15]; decide)) (by kernel_rfl) (by decide) (by kernel_rfl) (by kernel_rfl) (by kernel_rfl) (hQ _ _) (want_c (gi := 22) (g := 68) (c := (((!decide (up = np)) || gn) == false)) (b := (decide (0 < j))) hF (by kernel_rfl) (by kernel_rfl) rfl) (fun hW w hS => rrun_move (x := .tmp 6) (.inl (by kernel_rfl)) (hF.ev 6 (.int .i64 ((j : Nat) : Int)) rfl)) hS (fun a hF => ?_)
  refine hst (i := 25) (o := ops_kd15[25]'(show 25 < ops_kd15.size by rw [size_kd15]; decide)) hF 71 ((((!decide (up = np)) || gn) == false) && ((decide (0 < j)) == true)) (.int .i64 ((j - 1 : Nat) : Int)) (Array.getElem?_eq_getElem (show 25 < ops_kd15.size by rw [size_kd15]; decide)) (by kernel_rfl) (by decide) (by kernel_rfl) (by kernel_rfl) (by kernel_rfl) (hQ _ _) (want_c (gi := 22) (g := 68) (c := (((!decide (up = np)) || gn) == false)) (b := (decide (0 < j))) hF (by kernel_rfl) (by kernel_rfl) rfl) (fun hW w hS => rrun_bin (op := .sub) (ty := 3) (ty2 := 3) (x := .tmp 70) (y := .const (.int .i64 1)) (u := .int .i64 ((j : Nat) : Int)) (v := .int .i64 ((1 : Nat) : Int)) (by kernel_rfl) ((hF.ev 70 (cond ((((!decide (up = np)) || gn) == false) && ((decide (0 < j)) == true)) (.int .i64 ((j : Nat) : Int)) undef) rfl).trans (cond_t hW)) (rfl) (by kernel_rfl) (rsub_one j (pos_of hW) (by omega) w)) hS (fun a hF => ?_)
  refine hst (i := 26) (o := ops_kd15[26]'(show 26 < ops_kd15.size by rw [size_kd15]; decide)) hF 72 ((((!decide (up = np)) || gn) == false) && ((decide (0 < j)) == true)) (ptr d (h + (j - 1) * 12)) (Array.getElem?_eq_getElem (show 26 < ops_kd15.size by rw [size_kd15]; decide)) (by kernel_rfl) (by decide) (by kernel_rfl) (by kernel_rfl) (by kernel_rfl) (hQ _ _) (want_c (gi := 22) (g := 68) (c := (((!decide (up = np)) || gn) == false)) (b := (decide (0 < j))) hF (by kernel_rfl) (by kernel_rfl) rfl) (fun hW w hS => rrun_idx 12 (ty := 23) (x := .tmp 69) (y := .tmp 71) (by kernel_rfl) ((hF.ev 69 (cond ((((!decide (up = np)) || gn) == false) && ((decide (0 < j)) == true)) (.slice (some ⟨d, h, none⟩) m mc) undef) rfl).trans (cond_t hW)) ((hF.ev 71 (cond ((((!decide (up = np)) || gn) == false) && ((decide (0 < j)) == true)) (.int .i64 ((j - 1 : Nat) : Int)) undef) rfl).trans (cond_t hW)) (by omega) (kdidx _ _ _ _ _ (by omega) (by omega) w)) hS (fun a hF => ?_)
  refine hst (i := 27) (o := ops_kd15[27]'(show 27 < ops_kd15.size by rw [size_kd15]; decide)) hF 73 ((((!decide (up = np)) || gn) == false) && ((decide (0 < j)) == true)) (ptr d (h + (j - 1) * 12 + 5)) (Array.getElem?_eq_getElem (show 27 < ops_kd15.size by rw [size_kd15]; decide)) (by kernel_rfl) (by decide) (by kernel_rfl) (by kernel_rfl) (by kernel_rfl) (hQ _ _) (want_c (gi := 22) (g := 68) (c := (((!decide (up = np)) || gn) == false)) (b := (decide (0 < j))) hF (by kernel_rfl) (by kernel_rfl) rfl) (fun hW w hS => rrun_fld (T := 28) (x := .tmp 72) (f := 5) (by kernel_rfl) ((hF.ev 72 (cond ((((!decide (up = np)) || gn) == false) && ((decide (0 < j)) == true)) (ptr d (h + (j - 1) * 12)) undef) rfl).trans (cond_t hW)) (by kernel_rfl)) hS (fun a hF => ?_)
  refine hst (i := 28) (o := ops_kd15[28]'(show 28 < ops_kd15.size by rw [size_kd15]; decide)) hF 74 ((((!decide (up = np)) || gn) == false) && ((decide (0 < j)) == true)) (.string ps) (Array.getElem?_eq_getElem (show 28 < ops_kd15.size by rw [size_kd15]; decide)) (by kernel_rfl) (by decide) (by kernel_rfl) (by kernel_rfl) (by kernel_rfl) (hQ _ _) (want_c (gi := 22) (g := 68) (c := (((!decide (up = np)) || gn) == false)) (b := (decide (0 < j))) hF (by kernel_rfl) (by kernel_rfl) rfl) (fun hW w hS => rrun_load (ty := 9) (x := .tmp 73) (by kernel_rfl) ((hF.ev 73 (cond ((((!decide (up = np)) || gn) == false) && ((decide (0 < j)) == true)) (ptr d (h + (j - 1) * 12 + 5)) undef) rfl).trans (cond_t hW)) (rld_str (kcell (hp (pos_of hW)) hS))) hS (fun a hF => ?_)
  refine hst (i := 29) (o := ops_kd15[29]'(show 29 < ops_kd15.size by rw [size_kd15]; decide)) hF 75 ((((!decide (up = np)) || gn) == false) && ((decide (0 < j)) == true)) (.slice (some ⟨d, h, none⟩) m mc) (Array.getElem?_eq_getElem (show 29 < ops_kd15.size by rw [size_kd15]; decide)) (by kernel_rfl) (by decide) (by kernel_rfl) (by kernel_rfl) (by kernel_rfl) (hQ _ _) (want_c (gi := 22) (g := 68) (c := (((!decide (up = np)) || gn) == false)) (b := (decide (0 < j))) hF (by kernel_rfl) (by kernel_rfl) rfl) (fun hW w hS => rrun_move (x := .tmp 5) (.inl (by kernel_rfl)) (hF.ev 5 (.slice (some ⟨d, h, none⟩) m mc) rfl)) hS (fun a hF => ?_)
  refine hst (i := 30) (o := ops_kd15[30]'(show 30 < ops_kd15.size by rw [size_kd15]; decide)) hF 76 ((((!decide (up = np)) || gn) == false) && ((decide (0 < j)) == true)) (.int .i64 ((j : Nat) : Int)) (Array.getElem?_eq_getElem (show 30 < ops_kd15.size by rw [size_kd15]; decide)) (by kernel_rfl) (by decide) (by kernel_rfl) (by kernel_rfl) (by kernel_rfl) (hQ _ _) (want_c (gi := 22) (g := 68) (c := (((!decide (up = np)) || gn) == false)) (b := (decide (0 < j))) hF (by kernel_rfl) (by kernel_rfl) rfl) (fun hW w hS => rrun_move (x := .tmp 6) (.inl (by kernel_rfl)) (hF.ev 6 (.int .i64 ((j : Nat) : Int)) rfl)) hS (fun a hF => ?_)
  refine hst (i := 31) (o := ops_kd15[31]'(show 31 < ops_kd15.size by rw [size_kd15]; decide)) hF 77 ((((!decide (up = np)) || gn) == false) && ((decide (0 < j)) == true)) (ptr d (h + j * 12)) (Array.getElem?_eq_getElem (show 31 < ops_kd15.size by rw [size_kd15]; decide)) (by kernel_rfl) (by decide) (by kernel_rfl) (by kernel_rfl) (by kernel_rfl) (hQ _ _) (want_c (gi := 22) (g := 68) (c := (((!decide (up = np)) || gn) == false)) (b := (decide (0 < j))) hF (by kernel_rfl) (by kernel_rfl) rfl) (fun hW w hS => rrun_idx 12 (ty := 23) (x := .tmp 75) (y := .tmp 76) (by kernel_rfl) ((hF.ev 75 (cond ((((!decide (up = np)) || gn) == false) && ((decide (0 < j)) == true)) (.slice (some ⟨d, h, none⟩) m mc) undef) rfl).trans (cond_t hW)) ((hF.ev 76 (cond ((((!decide (up = np)) || gn) == false) && ((decide (0 < j)) == true)) (.int .i64 ((j : Nat) : Int)) undef) rfl).trans (cond_t hW)) hj (kdidx _ _ _ _ _ hj (by omega) w)) hS (fun a hF => ?_)
  refine hst (i := 32) (o := ops_kd15[32]'(show 32 < ops_kd15.size by rw [size_kd15]; decide)) hF 78 ((((!decide (up = np)) || gn) == false) && ((decide (0 < j)) == true)) (ptr d (h + j * 12 + 5)) (Array.getElem?_eq_getElem (show 32 < ops_kd15.size by rw [size_kd15]; decide)) (by kernel_rfl) (by decide) (by kernel_rfl) (by kernel_rfl) (by kernel_rfl) (hQ _ _) (want_c (gi := 22) (g := 68) (c := (((!decide (up = np)) || gn) == false)) (b := (decide (0 < j))) hF (by kernel_rfl) (by kernel_rfl) rfl) (fun hW w hS => rrun_fld (T := 28) (x := .tmp 77) (f := 5) (by kernel_rfl) ((hF.ev 77 (cond ((((!decide (up = np)) || gn) == false) && ((decide (0 < j)) == true)) (ptr d (h + j * 12)) undef) rfl).trans (cond_t hW)) (by kernel_rfl)) hS (fun a hF => ?_)
  refine hst (i := 33) (o := ops_kd15[33]'(show 33 < ops_kd15.size by rw [size_kd15]; decide)) hF 79 ((((!decide (up = np)) || gn) == false) && ((decide (0 < j)) == true)) (.string qs) (Array.getElem?_eq_getElem (show 33 < ops_kd15.size by rw [size_kd15]; decide)) (by kernel_rfl) (by decide) (by kernel_rfl) (by kernel_rfl) (by kernel_rfl) (hQ _ _) (want_c (gi := 22) (g := 68) (c := (((!decide (up = np)) || gn) == false)) (b := (decide (0 < j))) hF (by kernel_rfl) (by kernel_rfl) rfl) (fun hW w hS => rrun_load (ty := 9) (x := .tmp 78) (by kernel_rfl) ((hF.ev 78 (cond ((((!decide (up = np)) || gn) == false) && ((decide (0 < j)) == true)) (ptr d (h + j * 12 + 5)) undef) rfl).trans (cond_t hW)) (rld_str (kcell h5 hS))) hS (fun a hF => ?_)
  refine hst (i := 34) (o := ops_kd15[34]'(show 34 < ops_kd15.size by rw [size_kd15]; decide)) hF 80 ((((!decide (up = np)) || gn) == false) && ((decide (0 < j)) == true)) (.bool (!Op.bytesLess ps.toList qs.toList)) (Array.getElem?_eq_getElem (show 34 < ops_kd15.size by rw [size_kd15]; decide)) (by kernel_rfl) (by decide) (by kernel_rfl) (by kernel_rfl) (by kernel_rfl) (hQ _ _) (want_c (gi := 22) (g := 68) (c := (((!decide (up = np)) || gn) == false)) (b := (decide (0 < j))) hF (by kernel_rfl) (by kernel_rfl) rfl) (fun hW w hS => rrun_bin (op := .geq) (ty := 9) (ty2 := 9) (x := .tmp 74) (y := .tmp 79) (u := .string ps) (v := .string qs) (by kernel_rfl) ((hF.ev 74 (cond ((((!decide (up = np)) || gn) == false) && ((decide (0 < j)) == true)) (.string ps) undef) rfl).trans (cond_t hW)) ((hF.ev 79 (cond ((((!decide (up = np)) || gn) == false) && ((decide (0 < j)) == true)) (.string qs) undef) rfl).trans (cond_t hW)) (by kernel_rfl) (kdge_str _ _ w)) hS (fun a hF => ?_)
  refine hst (i := 35) (o := ops_kd15[35]'(show 35 < ops_kd15.size by rw [size_kd15]; decide)) hF 81 (((!decide (up = np)) || gn) == false) (.bool ((decide (0 < j)) && (!Op.bytesLess ps.toList qs.toList))) (Array.getElem?_eq_getElem (show 35 < ops_kd15.size by rw [size_kd15]; decide)) (by kernel_rfl) (by decide) (by kernel_rfl) (by kernel_rfl) (by kernel_rfl) (hQ _ _) (want_b (gi := 19) (g := 65) (c := ((!decide (up = np)) || gn)) hF (by kernel_rfl) (by kernel_rfl) rfl) (fun hW w hS => rrun_andc (z := .const (.bool false)) (x := .tmp 68) (W := (((!decide (up = np)) || gn) == false)) (c := (decide (0 < j))) (b := (!Op.bytesLess ps.toList qs.toList)) hW (by kernel_rfl) (hF.ev 68 _ rfl) (hF.ev 80 (cond ((((!decide (up = np)) || gn) == false) && ((decide (0 < j)) == true)) (.bool (!Op.bytesLess ps.toList qs.toList)) undef) rfl) rfl) hS (fun a hF => ?_)
  refine hst (i := 36) (o := ops_kd15[36]'(show 36 < ops_kd15.size by rw [size_kd15]; decide)) hF 82 true (.bool (((!decide (up = np)) || gn) || ((decide (0 < j)) && (!Op.bytesLess ps.toList qs.toList)))) (Array.getElem?_eq_getElem (show 36 < ops_kd15.size by rw [size_kd15]; decide)) (by kernel_rfl) (by decide) (by kernel_rfl) (by kernel_rfl) (by kernel_rfl) (hQ _ _) (want_n (by kernel_rfl)) (fun hW w hS => rrun_or (y := .const (.bool true)) (x := .tmp 65) (b := ((!decide (up = np)) || gn)) (b' := ((decide (0 < j)) && (!Op.bytesLess ps.toList qs.toList))) (by kernel_rfl) (hF.ev 65 _ rfl) rfl (hF.ev 81 (cond (((!decide (up = np)) || gn) == false) (.bool ((decide (0 < j)) && (!Op.bytesLess ps.toList qs.toList))) undef) rfl)) hS (fun a hF => ?_)
  rw [show cond true (.bool (((!decide (up = np)) || gn) || ((decide (0 < j)) && (!Op.bytesLess ps.toList qs.toList)))) undef = .bool (((!decide (up = np)) || gn) || ((decide (0 < j)) && (!Op.bytesLess ps.toList qs.toList))) from rfl] at hF
  exact wpAnyH_done (by kernel_rfl) (hE _ _ (hF.sub ((82, .bool (((!decide (up = np)) || gn) || ((decide (0 < j)) && (!Op.bytesLess ps.toList qs.toList)))) :: [(1, ptr g 0), (4, .int .i64 ((i : Nat) : Int)), (5, .slice (some ⟨d, h, none⟩) m mc), (6, .int .i64 ((j : Nat) : Int)), (0, v0), (2, v2), (3, v3), (7, v7), (8, v8), (9, v9), (10, v10), (11, v11), (12, v12), (13, v13), (14, v14), (15, v15), (16, v16), (17, v17), (18, v18), (19, v19), (20, v20), (21, v21), (22, v22), (23, v23), (24, v24), (25, v25), (26, v26), (27, v27), (28, v28), (29, v29), (30, v30), (31, v31), (32, v32), (33, v33), (34, v34), (35, v35), (36, v36), (37, v37), (38, v38), (39, v39), (40, v40), (41, v41), (42, v42), (43, v43), (44, v44), (45, v45), (83, v83), (84, v84), (85, v85), (86, v86), (87, v87), (88, v88), (89, v89), (90, v90), (91, v91), (92, v92), (93, v93), (94, v94), (95, v95), (96, v96), (97, v97)]) ⟨rfl, rfl, rfl, rfl, rfl, rfl, rfl, rfl, rfl, rfl, rfl, rfl, rfl, rfl, rfl, rfl, rfl, rfl, rfl, rfl, rfl, rfl, rfl, rfl, rfl, rfl, rfl, rfl, rfl, rfl, rfl, rfl, rfl, rfl, rfl, rfl, rfl, rfl, rfl, rfl, rfl, rfl, rfl, rfl, rfl, rfl, rfl, rfl, rfl, rfl, rfl, rfl, rfl, rfl, rfl, rfl, rfl, rfl, rfl, rfl, rfl, rfl, trivial⟩) hS) _
end
end Go.Proofs.YtpmlhmficmillaaGreat

namespace Go.Proofs.YtpmlhmficmillaaGreat
section
open Go.RowKit
set_option maxRecDepth 100000
set_option linter.unusedVariables false

theorem cntK_bound (l : List Nod) : ∀ m : List Nod, -(m.length : Int) ≤ cntK l m ∧ cntK l m ≤ (m.length * l.length : Nat)
  | [] => by unfold cntK; simp
  | n :: m => by
    obtain ⟨h1, h2⟩ := cntK_bound l m
    have h3 : (kidsOf l n.path).length ≤ l.length := List.length_filter_le _ _
    have e : cntK l (n :: m) = ((kidsOf l n.path).length : Int) - (if n.gone then 0 else 1) + cntK l m := by unfold cntK; rw [List.map_cons, List.sum_cons]
    rw [e, List.length_cons, Nat.succ_mul]
    constructor <;> (split <;> omega)
set_option maxHeartbeats 6400000 in
theorem law_TreeKids (v : Value) (x : Nat) (l : List Nod) (w : World) (hv : NodsAt w v l) (hok : ∀ n ∈ l, NodOk n) : Calls Tryz.prog 7 #[.agg #[.int .u64 (x : Int), v]] w fun e w' => e = .returned (.bool true) ∧ Below w.heap.size w w' := by
  have mixed : Tryz.prog.follows Departure.mixedOrders = true := by first | kernel_rfl | decide
  obtain ⟨a, c, rfl, g1, g2⟩ := hv.form
  unfold maxLen at g2
  obtain ⟨W, hW⟩ : ∃ W, W = w.alloc (.cells #[.int .u64 (x : Int), .slice a l.length c] 25) := ⟨_, rfl⟩
  have hb0 : Below w.heap.size w W := by rw [hW]; exact (Below.refl _ _).alloc (Nat.le_refl _) _
  have hx0 := hid (show W.heap[w.heap.size]? = some (.cells #[.int .u64 (x : Int), .slice a l.length c] 25 (0, 0)) by rw [hW]; exact heap_alloc_new _ _)
  have hc := hid (known14_any W)
  have hv0 := hid (hv.below hb0)
  replace hb0 := hid hb0
  replace hok := hid hok
  clear hv
  go_enter Tryz.func7, Tryz.ntmps7
  go_wp2_with (rw [← hW]; replace hW := hid hW)
  refine hc.out.mono ?_
  rintro e w1 ⟨rfl, hb1⟩
  have hB := hid (sn hb0.out hb1)
  have tree := hid ((hb1.block _ (lt_of_block hx0.out)).trans hx0.out)
  have row := hid (hv0.out.below hb1)
  clear hc hb1 hx0 hb0 hv0
  have hm := hid (may14_any (.slice a l.length c) x l w1 row.out hok.out)
  have q0 := block_cell tree.out 0
  have q1 := block_cell tree.out 1
  go_wp2_with fail
  refine hm.out.mono ?_
  rintro e w2 ⟨b, rfl, hmay, hb2⟩
  replace hB := hid (sn hB.out hb2)
  replace tree := hid ((hb2.block _ (lt_of_block tree.out)).trans tree.out)
  replace row := hid (row.out.below hb2)
  clear hm hb2 q0 q1
  cases b with
  | false =>
    clear hmay
    go_wp2_with fail
    go_ret
    exact ⟨rfl, hB.out⟩
  | true =>
    obtain ⟨hOk0, _⟩ := hmay rfl
    have hl64 : l.length ≤ 64 := hOk0.few
    have hOk := hid hOk0
    clear hmay hOk0
    go_wp2_with fail
    go_loopw [3, 4] (fun nv iv wr => ∃ (i : Nat) (C : Int), i ≤ l.length ∧ nv = .int .i64 C ∧ Hid (C = cntK l (l.take i)) ∧ iv = .int .i64 (i : Int) ∧ Hid (wr.heap[w.heap.size]? = some (.cells #[.int .u64 (x : Int), .slice a l.length c] 25 (0, 0))) ∧ Hid (NodsAt wr (.slice a l.length c) l) ∧ Hid (Below w.heap.size w wr)) (fun _ iv _ => l.length - (intOf iv).toNat)
    case atStart => exact ⟨0, 0, by omega, rfl, hid rfl, rfl, tree, row, hB⟩
    case round =>
      clear tree row hB
      obtain ⟨i, C, hi, rfl, hC, rfl, tree, row, hB⟩ := hrel
      have q0 := block_cell tree.out 0
      have q1 := block_cell tree.out 1
      by_cases hil : i < l.length
      case neg =>
        have i2 : ¬ (i : Int) < (l.length : Int) := by omega
        have hCe : C = -1 := by rw [hC.out, List.take_of_length_le (by omega)]; exact cntK_all hOk.out
        subst hCe
        go_wp2_with fail
        go_ret
        exact ⟨rfl, hB.out⟩
      obtain ⟨b, o, ha, hr⟩ := row.out.range i hil
      subst ha
      have hCn := hid (cntK_take hil (l := l))
      have hCb := cntK_bound l (l.take i)
      rw [← hC.out, List.length_take, Nat.min_eq_left hi] at hCb
      have hCb1 : -64 ≤ C := by omega
      have hCb2 : C ≤ 4096 := by have := Nat.mul_le_mul (show i ≤ 64 by omega) hl64; omega
      obtain ⟨n, hn⟩ : ∃ n, n = l[i] := ⟨_, rfl⟩
      rw [← hn] at hr hCn
      have hmem := hid (show n ∈ l by rw [hn]; exact List.getElem_mem hil)
      replace hn := hid hn
      clear hCb
      have i1 : (0 : Int) ≤ (i : Int) := by omega
      have i2 : (i : Int) < (l.length : Int) := by omega
      have i3 : IntKind.i64.wrap ((i : Int) + 1) = ((i + 1 : Nat) : Int) := by rw [IntWalk.i64_in _ (by omega)]; omega
      have r0 : wr.cell? ⟨b, o + i * 12, none⟩ = some (.int .u64 (n.path : Int)) := hr 0 _ (by rw [nod_cells]; rfl)
      have hdr : Below wr.heap.size wr wr.drew := (Below.refl _ _).drew
      have hkc := hid (kids_any (.slice (some ⟨b, o, none⟩) l.length c) x l n.path wr.drew (row.out.below hdr) hOk.out.sort (by omega))
      replace hr := hid hr
      replace i3 := hid i3
      replace hdr := hid hdr
      go_upto_region 9 with fail
      go_cut [5] (fun sv wx => ∃ (ka : Option Addr) (kc : Nat) (ks : List Nod), sv = .slice ka ks.length kc ∧ ks.length ≤ kc ∧ kc ≤ maxLen ∧ Hid (NodsAt wx (.slice ka ks.length kc) ks) ∧ Hid (Below wr.drew.heap.size wr.drew wx) ∧ Hid (Srt leNP ks ∧ ks.Perm (kidsOf l n.path)))
      case first =>
        go_region_with (go_at_call 23; refine hkc.out.mono ?_; rintro e w4 ⟨rk, ks, rfl, hks, hb4, hsr, hpm⟩; obtain ⟨ka, kc, rfl, kc1, kc2⟩ := hks.form)
        all_goals
          replace hks := hid hks
          replace hb4 := hid hb4
          have hsp := hid (And.intro hsr hpm)
          clear hsr hpm
          go_wp2_with fail
          go_meet
          exact ⟨ka, kc, ks, rfl, kc1, kc2, hks, hb4, hsp⟩
      case rest =>
      obtain ⟨ka, kc, ks, rfl, kc1, kc2, hks, hb4, hsp⟩ := hcut
      unfold maxLen at kc2
      have hbx := hdr.out.trans hb4.out
      have hlenk : ks.length = (kidsOf l n.path).length := hsp.out.2.length_eq
      have hm64 : ks.length ≤ 64 := by rw [hlenk]; exact Nat.le_trans (List.length_filter_le _ _) hl64
      rw [← hlenk] at hCn
      replace hlenk := hid hlenk
      replace hB := hid (sn hB.out hbx)
      replace tree := hid ((hbx.block _ (lt_of_block tree.out)).trans tree.out)
      replace row := hid (row.out.below hbx)
      clear q0 q1 r0 hr hb4 hdr hkc hbx
      obtain ⟨b', o', ha', hr⟩ := row.out.range i hil
      cases ha'
      rw [← hn.out] at hr
      replace hr := hid hr
      have q0 := block_cell tree.out 0
      have q1 := block_cell tree.out 1
      go_upto_region 10 with fail
      go_cut [39] (fun tv wx => tv = .bool false ∧ Hid (Below wc.heap.size wc wx))
      case first =>
        by_cases hk0 : ks.length = 0
        · have k1 : ¬ (0 : Int) < (ks.length : Int) := by omega
          clear hk0
          go_wp2_with fail
          go_meet
          exact ⟨rfl, hid (Below.refl _ _)⟩
        · have k1 : (0 : Int) < (ks.length : Int) := by omega
          obtain ⟨m0, hm0⟩ : ∃ m0, m0 ∈ ks := ⟨ks[0]'(by omega), List.getElem_mem _⟩
          obtain ⟨hm1, hm2⟩ := (kids_mem hsp.out.2).1 hm0
          have hdir := kids_dir hOk.out hmem.out hm1 hm2
          have hof := hid (ofnode_any n wc)
          have hno := hid (hok.out n hmem.out)
          rw [nod_cells] at hof
          have p0 : wc.cell? ⟨b, o + i * 12, none⟩ = some (.int .u64 (n.path : Int)) := hr.out 0 _ (by rw [nod_cells]; rfl)
          have p1 : wc.cell? ⟨b, o + i * 12 + 1, none⟩ = some (.int .u32 (n.vers : Int)) := hr.out 1 _ (by rw [nod_cells]; rfl)
          have p2 : wc.cell? ⟨b, o + i * 12 + 2, none⟩ = some (.int .u32 (n.mode : Int)) := hr.out 2 _ (by rw [nod_cells]; rfl)
          have p3 : wc.cell? ⟨b, o + i * 12 + 3, none⟩ = some (.int .u32 (n.atm : Int)) := hr.out 3 _ (by rw [nod_cells]; rfl)
          have p4 : wc.cell? ⟨b, o + i * 12 + 4, none⟩ = some (.int .u32 (n.mtm : Int)) := hr.out 4 _ (by rw [nod_cells]; rfl)
          have p5 : wc.cell? ⟨b, o + i * 12 + 5, none⟩ = some (.string n.name) := hr.out 5 _ (by rw [nod_cells]; rfl)
          have p6 : wc.cell? ⟨b, o + i * 12 + 6, none⟩ = some (.string n.uid) := hr.out 6 _ (by rw [nod_cells]; rfl)
          have p7 : wc.cell? ⟨b, o + i * 12 + 7, none⟩ = some (.string n.gid) := hr.out 7 _ (by rw [nod_cells]; rfl)
          have p8 : wc.cell? ⟨b, o + i * 12 + 8, none⟩ = some (.string n.muid) := hr.out 8 _ (by rw [nod_cells]; rfl)
          have p9 : wc.cell? ⟨b, o + i * 12 + 9, none⟩ = some (.int .u64 (n.up : Int)) := hr.out 9 _ (by rw [nod_cells]; rfl)
          have p10 : wc.cell? ⟨b, o + i * 12 + 10, none⟩ = some (.bool n.gone) := hr.out 10 _ (by rw [nod_cells]; rfl)
          have p11 : wc.cell? ⟨b, o + i * 12 + 11, none⟩ = some (.string n.data) := hr.out 11 _ (by rw [nod_cells]; rfl)
          clear hk0 hm0 hm1 hm2
          go_wp2_with fail
          refine hof.out.mono ?_
          rintro e w5 ⟨rfl, hb5⟩
          have hrd := hid (rdir_any n w5 hno.out)
          rw [hdir] at hrd
          replace hb5 := hid hb5
          go_wp2_with fail
          refine hrd.out.mono ?_
          rintro e w6 ⟨rfl, hb6⟩
          have hb7 := hid (sn hb5.out hb6)
          clear hb6
          go_wp2_with fail
          go_meet
          exact ⟨rfl, hb7⟩
      case rest =>
      obtain ⟨rfl, hb5⟩ := hcut
      replace hB := hid (sn hB.out hb5.out)
      replace tree := hid ((hb5.out.block _ (lt_of_block tree.out)).trans tree.out)
      replace row := hid (row.out.below hb5.out)
      replace hks := hid (hks.out.below hb5.out)
      clear q0 q1 hr hb5
      go_wp2_with fail
      go_loopw [6] (fun jv wr => ∃ j : Nat, j ≤ ks.length ∧ jv = .int .i64 (j : Int) ∧ Hid (wr.heap[w.heap.size]? = some (.cells #[.int .u64 (x : Int), .slice (some ⟨b, o, none⟩) l.length c] 25 (0, 0))) ∧ Hid (NodsAt wr (.slice (some ⟨b, o, none⟩) l.length c) l) ∧ Hid (Below w.heap.size w wr) ∧ Hid (NodsAt wr (.slice ka ks.length kc) ks)) (fun jv _ => ks.length - (intOf jv).toNat)
      case atStart => exact ⟨0, by omega, rfl, tree, row, hB, hks⟩
      case round =>
        clear tree row hB hks
        obtain ⟨j, hj, rfl, tree, row, hB, hks⟩ := hrel
        obtain ⟨b', o', ha', hr⟩ := row.out.range i hil
        cases ha'
        rw [← hn.out] at hr
        have q0 := block_cell tree.out 0
        have q1 := block_cell tree.out 1
        by_cases hjl : j < ks.length
        · obtain ⟨b5, o5, hka, hrk⟩ := hks.out.range j hjl
          subst hka
          have n0 : wr.cell? ⟨b, o + i * 12, none⟩ = some (.int .u64 (n.path : Int)) := hr 0 _ (by rw [nod_cells]; rfl)
          have hkm := (kids_mem hsp.out.2).1 (List.getElem_mem hjl)
          have hup : ks[j].up = n.path ∧ ks[j].gone = false := by
            have := hkm.2
            unfold kidB at this
            simp only [Bool.and_eq_true, Bool.not_eq_true', decide_eq_true_eq] at this
            exact ⟨this.2, this.1.1⟩
          have n9 : wr.cell? ⟨b5, o5 + j * 12 + 9, none⟩ = some (.int .u64 (n.path : Int)) := by rw [← hup.1]; exact hrk 9 _ (by rw [nod_cells]; rfl)
          have n10 : wr.cell? ⟨b5, o5 + j * 12 + 10, none⟩ = some (.bool false) := by rw [← hup.2]; exact hrk 10 _ (by rw [nod_cells]; rfl)
          have n5 : wr.cell? ⟨b5, o5 + j * 12 + 5, none⟩ = some (.string ks[j].name) := hrk 5 _ (by rw [nod_cells]; rfl)
          have j1 : (0 : Int) ≤ (j : Int) := by omega
          have j2 : (j : Int) < (ks.length : Int) := by omega
          have j3 : IntKind.i64.wrap ((j : Int) + 1) = ((j + 1 : Nat) : Int) := by rw [IntWalk.i64_in _ (by omega)]; omega
          have hne : ((n.path : Int) != (n.path : Int)) = false := by simp
          clear hkm hup hr hrk
          have n5p : 0 < j → wr.cell? ⟨b5, o5 + (j - 1) * 12 + 5, none⟩ = some (.string (ks[j - 1]'(by omega)).name) := fun h0 => by
            obtain ⟨b6, o6, hkb, hrp⟩ := hks.out.range (j - 1) (by omega)
            cases hkb
            exact hrp 5 _ (by rw [nod_cells]; rfl)
          have hE : 0 < j → Op.bytesLess (ks[j - 1]'(by omega)).name.toList ks[j].name.toList = true := fun h0 => by
            have h1 := kids_rise hOk.out hsp.out.1 hsp.out.2 (j := j - 1) (by omega)
            simp only [show j - 1 + 1 = j by omega] at h1
            unfold leS at h1
            simpa using h1
          generalize (ks[j - 1]'(by omega)).name = ps at n5p hE
          generalize ks[j].name = qs at n5 hE
          replace hE := hid hE
          replace n5p := hid n5p
          replace j3 := hid j3
          have hqg : wr.cell? ⟨w.heap.size, 1, none⟩ = some (.slice (some ⟨b, o, none⟩) l.length c) := q1
          clear q1
          have q1 := hqg
          clear hqg
          go_wp2_with fail
          have hdr : Below wr.heap.size wr wr.drew := (Below.refl _ _).drew
          refine wp_region_held (S := Below wr.drew.heap.size wr.drew) mixed ?_
          refine (show wpAnyH Tryz.prog .any ops_kd15 _ _ _ _ _ _ → _ from fun h => h) ?_
          refine kd15_all (w1 := wr.drew) (g := w.heap.size) (b := b) (f := o) (L := l.length) (lc := c) (i := i) (d := b5) (h := o5) (m := ks.length) (mc := kc) (j := j) (np := n.path) (up := n.path) (gn := false) (ps := ps) (qs := qs) hil (by omega) hjl (by omega) q1 n0 n9 n10 n5 n5p.out (fun d u c a w h => by cases d <;> exact h) (FrL.of_all (by rfl) rfl ⟨rfl, rfl, rfl, rfl, rfl, rfl, rfl, rfl, rfl, rfl, rfl, rfl, rfl, rfl, rfl, rfl, rfl, rfl, rfl, rfl, rfl, rfl, rfl, rfl, rfl, rfl, rfl, rfl, rfl, rfl, rfl, rfl, rfl, rfl, rfl, rfl, rfl, rfl, rfl, rfl, rfl, rfl, rfl, rfl, rfl, rfl, rfl, rfl, rfl, rfl, rfl, rfl, rfl, rfl, rfl, rfl, rfl, rfl, rfl, rfl, rfl,  trivial⟩) (Below.refl _ _) (fun a w5 hF hS => ?_)
          have hE2 : (((!decide (n.path = n.path)) || false) || ((decide (0 < j)) && (!Op.bytesLess ps.toList qs.toList))) = false := by
            by_cases h0 : 0 < j
            · rw [hE.out h0]; simp
            · simp [h0]
          rw [hE2] at hF
          clear hE2
          have hbx := hdr.trans hS
          replace hB := hid (hB.out.trans (hbx.mono hB.out.size))
          replace tree := hid ((hbx.block _ (lt_of_block tree.out)).trans tree.out)
          replace row := hid (row.out.below hbx)
          replace hks := hid (hks.out.below hbx)
          clear hbx hdr hS q0 q1 n0 n9 n10 n5 n5p hne
          have he := frame_eq hF [_, .pointer (some ⟨w.heap.size, 0, none⟩), _, _, _, _, _, _, _, _, _, _, _, _, _, _, _, _, _, _, _, _, _, _, _, _, _, _, _, _, _, _, _, _, _, _, _, _, _, _, _, _, _, _, _, _, a.tmps.getD 46 undef, a.tmps.getD 47 undef, a.tmps.getD 48 undef, a.tmps.getD 49 undef, a.tmps.getD 50 undef, a.tmps.getD 51 undef, a.tmps.getD 52 undef, a.tmps.getD 53 undef, a.tmps.getD 54 undef, a.tmps.getD 55 undef, a.tmps.getD 56 undef, a.tmps.getD 57 undef, a.tmps.getD 58 undef, a.tmps.getD 59 undef, a.tmps.getD 60 undef, a.tmps.getD 61 undef, a.tmps.getD 62 undef, a.tmps.getD 63 undef, a.tmps.getD 64 undef, a.tmps.getD 65 undef, a.tmps.getD 66 undef, a.tmps.getD 67 undef, a.tmps.getD 68 undef, a.tmps.getD 69 undef, a.tmps.getD 70 undef, a.tmps.getD 71 undef, a.tmps.getD 72 undef, a.tmps.getD 73 undef, a.tmps.getD 74 undef, a.tmps.getD 75 undef, a.tmps.getD 76 undef, a.tmps.getD 77 undef, a.tmps.getD 78 undef, a.tmps.getD 79 undef, a.tmps.getD 80 undef, a.tmps.getD 81 undef, _, _, _, _, _, _, _, _, _, _, _, _, _, _, _, _] (by rfl) ⟨hF.get 0 _ rfl, hF.get 1 _ rfl, hF.get 2 _ rfl, hF.get 3 _ rfl, hF.get 4 _ rfl, hF.get 5 _ rfl, hF.get 6 _ rfl, hF.get 7 _ rfl, hF.get 8 _ rfl, hF.get 9 _ rfl, hF.get 10 _ rfl, hF.get 11 _ rfl, hF.get 12 _ rfl, hF.get 13 _ rfl, hF.get 14 _ rfl, hF.get 15 _ rfl, hF.get 16 _ rfl, hF.get 17 _ rfl, hF.get 18 _ rfl, hF.get 19 _ rfl, hF.get 20 _ rfl, hF.get 21 _ rfl, hF.get 22 _ rfl, hF.get 23 _ rfl, hF.get 24 _ rfl, hF.get 25 _ rfl, hF.get 26 _ rfl, hF.get 27 _ rfl, hF.get 28 _ rfl, hF.get 29 _ rfl, hF.get 30 _ rfl, hF.get 31 _ rfl, hF.get 32 _ rfl, hF.get 33 _ rfl, hF.get 34 _ rfl, hF.get 35 _ rfl, hF.get 36 _ rfl, hF.get 37 _ rfl, hF.get 38 _ rfl, hF.get 39 _ rfl, hF.get 40 _ rfl, hF.get 41 _ rfl, hF.get 42 _ rfl, hF.get 43 _ rfl, hF.get 44 _ rfl, hF.get 45 _ rfl, hF.any 46 (by decide), hF.any 47 (by decide), hF.any 48 (by decide), hF.any 49 (by decide), hF.any 50 (by decide), hF.any 51 (by decide), hF.any 52 (by decide), hF.any 53 (by decide), hF.any 54 (by decide), hF.any 55 (by decide), hF.any 56 (by decide), hF.any 57 (by decide), hF.any 58 (by decide), hF.any 59 (by decide), hF.any 60 (by decide), hF.any 61 (by decide), hF.any 62 (by decide), hF.any 63 (by decide), hF.any 64 (by decide), hF.any 65 (by decide), hF.any 66 (by decide), hF.any 67 (by decide), hF.any 68 (by decide), hF.any 69 (by decide), hF.any 70 (by decide), hF.any 71 (by decide), hF.any 72 (by decide), hF.any 73 (by decide), hF.any 74 (by decide), hF.any 75 (by decide), hF.any 76 (by decide), hF.any 77 (by decide), hF.any 78 (by decide), hF.any 79 (by decide), hF.any 80 (by decide), hF.any 81 (by decide), hF.get 82 _ rfl, hF.get 83 _ rfl, hF.get 84 _ rfl, hF.get 85 _ rfl, hF.get 86 _ rfl, hF.get 87 _ rfl, hF.get 88 _ rfl, hF.get 89 _ rfl, hF.get 90 _ rfl, hF.get 91 _ rfl, hF.get 92 _ rfl, hF.get 93 _ rfl, hF.get 94 _ rfl, hF.get 95 _ rfl, hF.get 96 _ rfl, hF.get 97 _ rfl, trivial⟩
          rw [he]
          clear he hF
          generalize a.tmps.getD 46 undef = y46
          generalize a.tmps.getD 47 undef = y47
          generalize a.tmps.getD 48 undef = y48
          generalize a.tmps.getD 49 undef = y49
          generalize a.tmps.getD 50 undef = y50
          generalize a.tmps.getD 51 undef = y51
          generalize a.tmps.getD 52 undef = y52
          generalize a.tmps.getD 53 undef = y53
          generalize a.tmps.getD 54 undef = y54
          generalize a.tmps.getD 55 undef = y55
          generalize a.tmps.getD 56 undef = y56
          generalize a.tmps.getD 57 undef = y57
          generalize a.tmps.getD 58 undef = y58
          generalize a.tmps.getD 59 undef = y59
          generalize a.tmps.getD 60 undef = y60
          generalize a.tmps.getD 61 undef = y61
          generalize a.tmps.getD 62 undef = y62
          generalize a.tmps.getD 63 undef = y63
          generalize a.tmps.getD 64 undef = y64
          generalize a.tmps.getD 65 undef = y65
          generalize a.tmps.getD 66 undef = y66
          generalize a.tmps.getD 67 undef = y67
          generalize a.tmps.getD 68 undef = y68
          generalize a.tmps.getD 69 undef = y69
          generalize a.tmps.getD 70 undef = y70
          generalize a.tmps.getD 71 undef = y71
          generalize a.tmps.getD 72 undef = y72
          generalize a.tmps.getD 73 undef = y73
          generalize a.tmps.getD 74 undef = y74
          generalize a.tmps.getD 75 undef = y75
          generalize a.tmps.getD 76 undef = y76
          generalize a.tmps.getD 77 undef = y77
          generalize a.tmps.getD 78 undef = y78
          generalize a.tmps.getD 79 undef = y79
          generalize a.tmps.getD 80 undef = y80
          generalize a.tmps.getD 81 undef = y81
          clear a
          go_wp2_with (rw [j3.out])
          go_roundw
          case rel => exact ⟨_, _, _, _, _, _, _, _, _, _, _, _, _, _, _, _, _, _, _, _, _, _, _, _, _, _, _, _, _, _, _, _, _, _, _, _, _, _, _, _, _, _, _, _, _, ⟨j + 1, by omega, by go_num, tree, row, hB, hks⟩, rfl⟩
          case measure => simp [intOf]; omega
        · have j2 : ¬ (j : Int) < (ks.length : Int) := by omega
          have hadd : IntKind.i64.wrap (C + (ks.length : Int)) = C + (ks.length : Int) := IntWalk.i64_in _ (by omega)
          have hsub : IntKind.i64.wrap (C + (ks.length : Int) - 1) = C + (ks.length : Int) - 1 := IntWalk.i64_in _ (by omega)
          have n10 : wr.cell? ⟨b, o + i * 12 + 10, none⟩ = some (.bool n.gone) := hr 10 _ (by rw [nod_cells]; rfl)
          clear hr
          cases hgo : n.gone with
          | true =>
            rw [hgo] at n10 hCn
            clear hgo
            go_wp2_with (first | rw [hadd] | rw [i3.out])
            go_roundw
            case rel => exact ⟨i + 1, C + (ks.length : Int), by omega, rfl, hid (by rw [hCn.out, ← hC.out]; simp), by go_num, tree, row, hB⟩
            case measure => simp [intOf]; omega
          | false =>
            rw [hgo] at n10 hCn
            clear hgo
            go_wp2_with (first | rw [hadd] | rw [hsub] | rw [i3.out])
            go_roundw
            case rel => exact ⟨i + 1, C + (ks.length : Int) - 1, by omega, rfl, hid (by rw [hCn.out, ← hC.out]; simp; omega), by go_num, tree, row, hB⟩
            case measure => simp [intOf]; omega
end
end Go.Proofs.YtpmlhmficmillaaGreat

namespace Go.Proofs.YtpmlhmficmillaaGreat
section
end
end Go.Proofs.YtpmlhmficmillaaGreat
