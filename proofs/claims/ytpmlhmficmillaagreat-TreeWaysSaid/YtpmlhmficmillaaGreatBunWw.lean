/- A step down of law TreeWays. Conditions: in the statement.
Law TreeWays. Conditions: the tree as it comes in.
A law of layer 14 as its frame needs it. Conditions: the arguments as they come in. -/
import Derived.Test.YtpmlhmficmillaaGreatBunBk
import Derived.Test.YtpmlhmficmillaaGreatBunWP
import Derived.Test.YtpmlhmficmillaaGreatBunNod
import Derived.Test.YtpmlhmficmillaaGreatBunTI
namespace Go.Proofs.YtpmlhmficmillaaGreat
section
open Go.RowKit
set_option maxRecDepth 100000
set_option linter.unusedVariables false

section
theorem wyidx_str (b f n c j : Nat) (hj : j < n) (hn : n ≤ 9223372036854775807) (w : World) : (Instr.indexAt 50 (.slice (some ⟨b, f, none⟩) n c) (.int .i64 (j : Int))).run Tryz.prog w = .ok (ptr b (f + j * 1)) w := by
  have h1 : (0 : Int) ≤ (j : Int) := by omega
  have h2 : (j : Int) < (n : Int) := by omega
  simp [go_sem, h1, h2, ptr]
end
theorem nfind_is (v : Value) (x : Nat) (l : List Nod) (d : Nat) (s : ByteArray) (n : Nod) (w : World) (hv : NodsAt w v l) (hl : l.length ≤ 1000) (hf : findL l d s = some n) :
    Calls Tryz.prog 22 #[.agg #[.int .u64 (x : Int), v], .int .u64 (d : Int), .string s] w fun e w' => e = .returned (.tuple #[.agg n.cells, .bool true]) ∧ Below w.heap.size w w' :=
  (nfind_any v x l d s w hv hl).mono (by rintro e w' ⟨h, hb⟩; rw [hf] at h; exact ⟨h, hb⟩)

noncomputable def ops_wy17 : Array Oper := match Tryz.f6.body with | some c => (allOps' c).getD 15 #[] | none => #[]
theorem size_wy17 : ops_wy17.size = 13 := by kernel_rfl
set_option maxHeartbeats 4000000 in
theorem wy17_d {w1 : World} {g z x a0 b f m c k : Nat} {tv : Value} {l : List Nod} {s : ByteArray} {n : Nod} {v0 v2 v3 v4 v10 v11 v12 v13 v14 v15 v16 v17 v18 v19 v20 v21 v22 v23 v24 v25 v26 v27 v28 v29 v30 v31 v32 v33 v34 v35 v36 v37 v38 v39 v40 v41 v52 v53 v54 v55 v56 v57 v58 v59 : Value} {Q : Exit → Act → World → Prop} {a : Act} {w : World} (hl : l.length ≤ 1000) (hk : k < m) (hm : m ≤ 1000) (hg : w1.heap[g]? = some (.cells #[.int .u64 (x : Int), tv] 25 (0, 0))) (ht : NodsAt w1 tv l) (hs : w1.cell? ⟨b, f + k * 1, none⟩ = some (.string s)) (hf : findL l a0 s = some n)
    (hQ : ∀ d u c a w, Q (.panic c) (a.put d u) w → Q (.panic c) a w) (hF : FrL 60 [(8, ptr z 0), (50, .agg n.cells), (51, .bool true), (1, ptr g 0), (5, .slice (some ⟨b, f, none⟩) m c), (6, .int .u64 ((a0 : Nat) : Int)), (7, .int .i64 ((k : Nat) : Int)), (0, v0), (2, v2), (3, v3), (4, v4), (10, v10), (11, v11), (12, v12), (13, v13), (14, v14), (15, v15), (16, v16), (17, v17), (18, v18), (19, v19), (20, v20), (21, v21), (22, v22), (23, v23), (24, v24), (25, v25), (26, v26), (27, v27), (28, v28), (29, v29), (30, v30), (31, v31), (32, v32), (33, v33), (34, v34), (35, v35), (36, v36), (37, v37), (38, v38), (39, v39), (40, v40), (41, v41), (52, v52), (53, v53), (54, v54), (55, v55), (56, v56), (57, v57), (58, v58), (59, v59)] a) (hS : Below w1.heap.size w1 w) (hz : w1.heap.size ≤ z) (hZ : w.heap[z]? = some (.cells zeroNod.cells 28 (0, 0)))
    (hE : ∀ z a w', FrL 60 [(8, ptr z 0), (9, .bool true), (1, ptr g 0), (5, .slice (some ⟨b, f, none⟩) m c), (6, .int .u64 ((a0 : Nat) : Int)), (7, .int .i64 ((k : Nat) : Int)), (0, v0), (2, v2), (3, v3), (4, v4), (10, v10), (11, v11), (12, v12), (13, v13), (14, v14), (15, v15), (16, v16), (17, v17), (18, v18), (19, v19), (20, v20), (21, v21), (22, v22), (23, v23), (24, v24), (25, v25), (26, v26), (27, v27), (28, v28), (29, v29), (30, v30), (31, v31), (32, v32), (33, v33), (34, v34), (35, v35), (36, v36), (37, v37), (38, v38), (39, v39), (40, v40), (41, v41), (52, v52), (53, v53), (54, v54), (55, v55), (56, v56), (57, v57), (58, v58), (59, v59)] a → Below w1.heap.size w1 w' → w'.heap[z]? = some (.cells n.cells 28 (0, 0)) → w1.heap.size ≤ z → Q .normal a w') :
    wpAnyH Tryz.prog .any ops_wy17 Q (Below w1.heap.size w1) 2 #[true, true, true, true, true, true, true, true, true, true, true, false, false] a w := by
  refine wpAnyH_all (rs := [11]) (by kernel_rfl) (by simp) fun j hj => ?_
  obtain rfl : j = 11 := by simpa using hj
  refine hdo0 (o := ops_wy17[11]'(show 11 < ops_wy17.size by rw [size_wy17]; decide)) (w.setRow z n.cells) (Array.getElem?_eq_getElem (show 11 < ops_wy17.size by rw [size_wy17]; decide)) (by kernel_rfl) (want_n (by kernel_rfl)) (rrun_store (t := 28) (x := .tmp 8) (y := .tmp 50) (by kernel_rfl) (hF.ev 8 _ rfl) (hF.ev 50 _ rfl) hZ (by kernel_rfl) (by rw [zeroNod_cells]; rfl) (nod_one n)) ?_
  have hS' : Below w1.heap.size w1 (w.setRow z n.cells) := below_setRow hS hz _
  have hZ' := setRow_heap w z _ n.cells _ _ hZ
  refine ⟨hS', ?_⟩
  generalize w.setRow z n.cells = w9 at hS' hZ' ⊢
  refine hst (i := 12) (o := ops_wy17[12]'(show 12 < ops_wy17.size by rw [size_wy17]; decide)) hF 9 true (.bool true) (Array.getElem?_eq_getElem (show 12 < ops_wy17.size by rw [size_wy17]; decide)) (by kernel_rfl) (by decide) (by kernel_rfl) (by kernel_rfl) (by kernel_rfl) (hQ _ _) (want_n (by kernel_rfl)) (fun hW w hS => rrun_move (x := .tmp 51) (.inr (by kernel_rfl)) (hF.ev 51 _ rfl)) hS' (fun a hF => ?_)
  rw [show cond true (.bool true) undef = .bool true from rfl] at hF
  exact wpAnyH_done (by kernel_rfl) (hE z _ _ (hF.sub [(8, ptr z 0), (9, .bool true), (1, ptr g 0), (5, .slice (some ⟨b, f, none⟩) m c), (6, .int .u64 ((a0 : Nat) : Int)), (7, .int .i64 ((k : Nat) : Int)), (0, v0), (2, v2), (3, v3), (4, v4), (10, v10), (11, v11), (12, v12), (13, v13), (14, v14), (15, v15), (16, v16), (17, v17), (18, v18), (19, v19), (20, v20), (21, v21), (22, v22), (23, v23), (24, v24), (25, v25), (26, v26), (27, v27), (28, v28), (29, v29), (30, v30), (31, v31), (32, v32), (33, v33), (34, v34), (35, v35), (36, v36), (37, v37), (38, v38), (39, v39), (40, v40), (41, v41), (52, v52), (53, v53), (54, v54), (55, v55), (56, v56), (57, v57), (58, v58), (59, v59)] ⟨rfl, rfl, rfl, rfl, rfl, rfl, rfl, rfl, rfl, rfl, rfl, rfl, rfl, rfl, rfl, rfl, rfl, rfl, rfl, rfl, rfl, rfl, rfl, rfl, rfl, rfl, rfl, rfl, rfl, rfl, rfl, rfl, rfl, rfl, rfl, rfl, rfl, rfl, rfl, rfl, rfl, rfl, rfl, rfl, rfl, rfl, rfl, rfl, rfl, rfl,  trivial⟩) hS' hZ' hz) _
set_option maxHeartbeats 4000000 in
theorem wy17_all {w1 : World} {g x a0 b f m c k : Nat} {tv : Value} {l : List Nod} {s : ByteArray} {n : Nod} {v0 v2 v3 v4 v10 v11 v12 v13 v14 v15 v16 v17 v18 v19 v20 v21 v22 v23 v24 v25 v26 v27 v28 v29 v30 v31 v32 v33 v34 v35 v36 v37 v38 v39 v40 v41 v52 v53 v54 v55 v56 v57 v58 v59 : Value} {Q : Exit → Act → World → Prop} {a : Act} {w : World} (hl : l.length ≤ 1000) (hk : k < m) (hm : m ≤ 1000) (hg : w1.heap[g]? = some (.cells #[.int .u64 (x : Int), tv] 25 (0, 0))) (ht : NodsAt w1 tv l) (hs : w1.cell? ⟨b, f + k * 1, none⟩ = some (.string s)) (hf : findL l a0 s = some n)
    (hQ : ∀ d u c a w, Q (.panic c) (a.put d u) w → Q (.panic c) a w) (hF : FrL 60 [(1, ptr g 0), (5, .slice (some ⟨b, f, none⟩) m c), (6, .int .u64 ((a0 : Nat) : Int)), (7, .int .i64 ((k : Nat) : Int)), (0, v0), (2, v2), (3, v3), (4, v4), (10, v10), (11, v11), (12, v12), (13, v13), (14, v14), (15, v15), (16, v16), (17, v17), (18, v18), (19, v19), (20, v20), (21, v21), (22, v22), (23, v23), (24, v24), (25, v25), (26, v26), (27, v27), (28, v28), (29, v29), (30, v30), (31, v31), (32, v32), (33, v33), (34, v34), (35, v35), (36, v36), (37, v37), (38, v38), (39, v39), (40, v40), (41, v41), (52, v52), (53, v53), (54, v54), (55, v55), (56, v56), (57, v57), (58, v58), (59, v59)] a) (hS : Below w1.heap.size w1 w)
    (hE : ∀ z a w', FrL 60 [(8, ptr z 0), (9, .bool true), (1, ptr g 0), (5, .slice (some ⟨b, f, none⟩) m c), (6, .int .u64 ((a0 : Nat) : Int)), (7, .int .i64 ((k : Nat) : Int)), (0, v0), (2, v2), (3, v3), (4, v4), (10, v10), (11, v11), (12, v12), (13, v13), (14, v14), (15, v15), (16, v16), (17, v17), (18, v18), (19, v19), (20, v20), (21, v21), (22, v22), (23, v23), (24, v24), (25, v25), (26, v26), (27, v27), (28, v28), (29, v29), (30, v30), (31, v31), (32, v32), (33, v33), (34, v34), (35, v35), (36, v36), (37, v37), (38, v38), (39, v39), (40, v40), (41, v41), (52, v52), (53, v53), (54, v54), (55, v55), (56, v56), (57, v57), (58, v58), (59, v59)] a → Below w1.heap.size w1 w' → w'.heap[z]? = some (.cells n.cells 28 (0, 0)) → w1.heap.size ≤ z → Q .normal a w') :
    wpAnyH Tryz.prog .any ops_wy17 Q (Below w1.heap.size w1) 13 (Array.replicate 13 false) a w := by
  refine hst (i := 0) (o := ops_wy17[0]'(show 0 < ops_wy17.size by rw [size_wy17]; decide)) hF 43 true (.agg #[.int .u64 (x : Int), tv]) (Array.getElem?_eq_getElem (show 0 < ops_wy17.size by rw [size_wy17]; decide)) (by kernel_rfl) (by decide) (by kernel_rfl) (by kernel_rfl) (by kernel_rfl) (hQ _ _) (want_n (by kernel_rfl)) (fun hW w hS => rrun_load (ty := 25) (x := .tmp 1) (by kernel_rfl) (hF.ev 1 (ptr g 0) rfl) (rld_ntree ((hS.block _ (lt_of_block hg)).trans hg))) hS (fun a hF => ?_)
  rw [show cond true (.agg #[.int .u64 (x : Int), tv]) undef = .agg #[.int .u64 (x : Int), tv] from rfl] at hF
  refine hst (i := 1) (o := ops_wy17[1]'(show 1 < ops_wy17.size by rw [size_wy17]; decide)) hF 44 true (.int .u64 ((a0 : Nat) : Int)) (Array.getElem?_eq_getElem (show 1 < ops_wy17.size by rw [size_wy17]; decide)) (by kernel_rfl) (by decide) (by kernel_rfl) (by kernel_rfl) (by kernel_rfl) (hQ _ _) (want_n (by kernel_rfl)) (fun hW w hS => rrun_move (x := .tmp 6) (.inl (by kernel_rfl)) (hF.ev 6 (.int .u64 ((a0 : Nat) : Int)) rfl)) hS (fun a hF => ?_)
  rw [show cond true (.int .u64 ((a0 : Nat) : Int)) undef = .int .u64 ((a0 : Nat) : Int) from rfl] at hF
  refine hst (i := 2) (o := ops_wy17[2]'(show 2 < ops_wy17.size by rw [size_wy17]; decide)) hF 45 true (.slice (some ⟨b, f, none⟩) m c) (Array.getElem?_eq_getElem (show 2 < ops_wy17.size by rw [size_wy17]; decide)) (by kernel_rfl) (by decide) (by kernel_rfl) (by kernel_rfl) (by kernel_rfl) (hQ _ _) (want_n (by kernel_rfl)) (fun hW w hS => rrun_move (x := .tmp 5) (.inl (by kernel_rfl)) (hF.ev 5 (.slice (some ⟨b, f, none⟩) m c) rfl)) hS (fun a hF => ?_)
  rw [show cond true (.slice (some ⟨b, f, none⟩) m c) undef = .slice (some ⟨b, f, none⟩) m c from rfl] at hF
  refine hst (i := 3) (o := ops_wy17[3]'(show 3 < ops_wy17.size by rw [size_wy17]; decide)) hF 46 true (.int .i64 ((k : Nat) : Int)) (Array.getElem?_eq_getElem (show 3 < ops_wy17.size by rw [size_wy17]; decide)) (by kernel_rfl) (by decide) (by kernel_rfl) (by kernel_rfl) (by kernel_rfl) (hQ _ _) (want_n (by kernel_rfl)) (fun hW w hS => rrun_move (x := .tmp 7) (.inl (by kernel_rfl)) (hF.ev 7 (.int .i64 ((k : Nat) : Int)) rfl)) hS (fun a hF => ?_)
  rw [show cond true (.int .i64 ((k : Nat) : Int)) undef = .int .i64 ((k : Nat) : Int) from rfl] at hF
  refine hst (i := 4) (o := ops_wy17[4]'(show 4 < ops_wy17.size by rw [size_wy17]; decide)) hF 47 true (ptr b (f + k * 1)) (Array.getElem?_eq_getElem (show 4 < ops_wy17.size by rw [size_wy17]; decide)) (by kernel_rfl) (by decide) (by kernel_rfl) (by kernel_rfl) (by kernel_rfl) (hQ _ _) (want_n (by kernel_rfl)) (fun hW w hS => rrun_idx 1 (ty := 50) (x := .tmp 45) (y := .tmp 46) (by kernel_rfl) (hF.ev 45 (.slice (some ⟨b, f, none⟩) m c) rfl) (hF.ev 46 (.int .i64 ((k : Nat) : Int)) rfl) hk (wyidx_str _ _ _ _ _ hk (by omega) w)) hS (fun a hF => ?_)
  rw [show cond true (ptr b (f + k * 1)) undef = ptr b (f + k * 1) from rfl] at hF
  refine hst (i := 5) (o := ops_wy17[5]'(show 5 < ops_wy17.size by rw [size_wy17]; decide)) hF 48 true (.string s) (Array.getElem?_eq_getElem (show 5 < ops_wy17.size by rw [size_wy17]; decide)) (by kernel_rfl) (by decide) (by kernel_rfl) (by kernel_rfl) (by kernel_rfl) (hQ _ _) (want_n (by kernel_rfl)) (fun hW w hS => rrun_load (ty := 9) (x := .tmp 47) (by kernel_rfl) (hF.ev 47 (ptr b (f + k * 1)) rfl) (rld_str ((hS.cell (p := ⟨b, f + k * 1, none⟩) (World.block_lt_of_cell? _ _ hs)).trans hs))) hS (fun a hF => ?_)
  rw [show cond true (.string s) undef = .string s from rfl] at hF
  rw [show (((((((Array.replicate 13 false).setIfInBounds 0 true).setIfInBounds 1 true).setIfInBounds 2 true).setIfInBounds 3 true).setIfInBounds 4 true).setIfInBounds 5 true) = #[true, true, true, true, true, true, false, false, false, false, false, false, false] from by kernel_rfl]
  refine wpAnyH_all (rs := [6, 10]) (by kernel_rfl) (by simp) fun j hj => ?_
  have hj2 : j = 6 ∨ j = 10 := by simpa using hj
  rcases hj2 with rfl | rfl
  · refine hdoc (i := 6) (o := ops_wy17[6]'(show 6 < ops_wy17.size by rw [size_wy17]; decide)) (R := fun v w' => v = Value.tuple #[.agg n.cells, .bool true] ∧ Below w1.heap.size w1 w') hF 49 (Array.getElem?_eq_getElem (show 6 < ops_wy17.size by rw [size_wy17]; decide)) (by kernel_rfl) (by decide) (want_n (by kernel_rfl)) ⟨22, #[.agg #[.int .u64 (x : Int), tv], .int .u64 ((a0 : Nat) : Int), .string s], rrun_call3 (fn := 22) (x := .tmp 43) (y := .tmp 44) (z := .tmp 48) (t := 25) (u := 22) (s := 9) rfl (by kernel_rfl) (by kernel_rfl) (hF.ev 43 _ rfl) (hF.ev 44 _ rfl) (hF.ev 48 _ rfl), (nfind_is tv x l a0 s n w (ht.below hS) hl hf).mono (by rintro e w' ⟨rfl, hb⟩; exact ⟨_, rfl, rfl, hS.trans (hb.mono hS.size)⟩)⟩ ?_
    rintro _ a w ⟨rfl, hS⟩ hF
    refine ⟨hS, ?_⟩
    refine hst (i := 7) (o := ops_wy17[7]'(show 7 < ops_wy17.size by rw [size_wy17]; decide)) hF 42 true (Value.tuple #[.agg n.cells, .bool true]) (Array.getElem?_eq_getElem (show 7 < ops_wy17.size by rw [size_wy17]; decide)) (by kernel_rfl) (by decide) (by kernel_rfl) (by kernel_rfl) (by kernel_rfl) (hQ _ _) (want_n (by kernel_rfl)) (fun hW w hS => rrun_move (x := .tmp 49) (.inl (by kernel_rfl)) (hF.ev 49 _ rfl)) hS (fun a hF => ?_)
    rw [show cond true (Value.tuple #[.agg n.cells, .bool true]) undef = Value.tuple #[.agg n.cells, .bool true] from rfl] at hF
    refine hst (i := 8) (o := ops_wy17[8]'(show 8 < ops_wy17.size by rw [size_wy17]; decide)) hF 50 true (.agg n.cells) (Array.getElem?_eq_getElem (show 8 < ops_wy17.size by rw [size_wy17]; decide)) (by kernel_rfl) (by decide) (by kernel_rfl) (by kernel_rfl) (by kernel_rfl) (hQ _ _) (want_n (by kernel_rfl)) (fun hW w hS => rrun_ext (x := .tmp 42) (n := 0) (by kernel_rfl) (hF.ev 42 _ rfl) rfl) hS (fun a hF => ?_)
    rw [show cond true (.agg n.cells) undef = .agg n.cells from rfl] at hF
    refine hst (i := 9) (o := ops_wy17[9]'(show 9 < ops_wy17.size by rw [size_wy17]; decide)) hF 51 true (.bool true) (Array.getElem?_eq_getElem (show 9 < ops_wy17.size by rw [size_wy17]; decide)) (by kernel_rfl) (by decide) (by kernel_rfl) (by kernel_rfl) (by kernel_rfl) (hQ _ _) (want_n (by kernel_rfl)) (fun hW w hS => rrun_ext (x := .tmp 42) (n := 1) (by kernel_rfl) (hF.ev 42 _ rfl) rfl) hS (fun a hF => ?_)
    rw [show cond true (.bool true) undef = .bool true from rfl] at hF
    refine wpAnyH_all (rs := [10]) (by kernel_rfl) (by simp) fun j hj => ?_
    obtain rfl : j = 10 := by simpa using hj
    refine hdo (i := 10) (o := ops_wy17[10]'(show 10 < ops_wy17.size by rw [size_wy17]; decide)) hF 8 (ptr w.heap.size 0) (w.alloc (.cells zeroNod.cells 28)) (Array.getElem?_eq_getElem (show 10 < ops_wy17.size by rw [size_wy17]; decide)) (by kernel_rfl) (by decide) (want_n (by kernel_rfl)) (rrun_alloc (t := 28) (z := .agg zeroNod.cells) (by kernel_rfl) (by kernel_rfl)) (fun a hF => ?_)
    have hz := hS.size
    have hS2 := hS.alloc hS.size (.cells zeroNod.cells 28)
    have hZ := heap_alloc_new w (.cells zeroNod.cells 28)
    refine ⟨hS2, ?_⟩
    rw [show (((((#[true, true, true, true, true, true, false, false, false, false, false, false, false]).setIfInBounds 6 true).setIfInBounds 7 true).setIfInBounds 8 true).setIfInBounds 9 true).setIfInBounds 10 true = #[true, true, true, true, true, true, true, true, true, true, true, false, false] from by kernel_rfl]
    exact wy17_d hl hk hm hg ht hs hf hQ (hF.sub [(8, ptr w.heap.size 0), (50, .agg n.cells), (51, .bool true), (1, ptr g 0), (5, .slice (some ⟨b, f, none⟩) m c), (6, .int .u64 ((a0 : Nat) : Int)), (7, .int .i64 ((k : Nat) : Int)), (0, v0), (2, v2), (3, v3), (4, v4), (10, v10), (11, v11), (12, v12), (13, v13), (14, v14), (15, v15), (16, v16), (17, v17), (18, v18), (19, v19), (20, v20), (21, v21), (22, v22), (23, v23), (24, v24), (25, v25), (26, v26), (27, v27), (28, v28), (29, v29), (30, v30), (31, v31), (32, v32), (33, v33), (34, v34), (35, v35), (36, v36), (37, v37), (38, v38), (39, v39), (40, v40), (41, v41), (52, v52), (53, v53), (54, v54), (55, v55), (56, v56), (57, v57), (58, v58), (59, v59)] ⟨rfl, rfl, rfl, rfl, rfl, rfl, rfl, rfl, rfl, rfl, rfl, rfl, rfl, rfl, rfl, rfl, rfl, rfl, rfl, rfl, rfl, rfl, rfl, rfl, rfl, rfl, rfl, rfl, rfl, rfl, rfl, rfl, rfl, rfl, rfl, rfl, rfl, rfl, rfl, rfl, rfl, rfl, rfl, rfl, rfl, rfl, rfl, rfl, rfl, rfl, rfl,  trivial⟩) hS2 hz hZ hE
  · refine hdo (i := 10) (o := ops_wy17[10]'(show 10 < ops_wy17.size by rw [size_wy17]; decide)) hF 8 (ptr w.heap.size 0) (w.alloc (.cells zeroNod.cells 28)) (Array.getElem?_eq_getElem (show 10 < ops_wy17.size by rw [size_wy17]; decide)) (by kernel_rfl) (by decide) (want_n (by kernel_rfl)) (rrun_alloc (t := 28) (z := .agg zeroNod.cells) (by kernel_rfl) (by kernel_rfl)) (fun a hF => ?_)
    have hz := hS.size
    have hS2 := hS.alloc hS.size (.cells zeroNod.cells 28)
    have hZ := heap_alloc_new w (.cells zeroNod.cells 28)
    refine ⟨hS2, ?_⟩
    rw [show (#[true, true, true, true, true, true, false, false, false, false, false, false, false]).setIfInBounds 10 true = #[true, true, true, true, true, true, false, false, false, false, true, false, false] from by kernel_rfl]
    refine hcallx (i := 6) (o := ops_wy17[6]'(show 6 < ops_wy17.size by rw [size_wy17]; decide)) (R := fun v w' => v = Value.tuple #[.agg n.cells, .bool true] ∧ w'.heap[w.heap.size]? = some (.cells zeroNod.cells 28 (0, 0))) hF 49 (Array.getElem?_eq_getElem (show 6 < ops_wy17.size by rw [size_wy17]; decide)) (by kernel_rfl) (by decide) (by kernel_rfl) (want_n (by kernel_rfl)) ⟨22, #[.agg #[.int .u64 (x : Int), tv], .int .u64 ((a0 : Nat) : Int), .string s], rrun_call3 (fn := 22) (x := .tmp 43) (y := .tmp 44) (z := .tmp 48) (t := 25) (u := 22) (s := 9) rfl (by kernel_rfl) (by kernel_rfl) (hF.ev 43 _ rfl) (hF.ev 44 _ rfl) (hF.ev 48 _ rfl), (nfind_is tv x l a0 s n _ (ht.below hS2) hl hf).mono (by rintro e w' ⟨rfl, hb⟩; exact ⟨_, rfl, ⟨rfl, (hb.block _ (lt_of_block hZ)).trans hZ⟩, hS2.trans (hb.mono hS2.size)⟩)⟩ ?_
    generalize w.heap.size = z at hF hz hZ ⊢
    rintro _ a w ⟨rfl, hZ⟩ hF hS
    refine hst (i := 7) (o := ops_wy17[7]'(show 7 < ops_wy17.size by rw [size_wy17]; decide)) hF 42 true (Value.tuple #[.agg n.cells, .bool true]) (Array.getElem?_eq_getElem (show 7 < ops_wy17.size by rw [size_wy17]; decide)) (by kernel_rfl) (by decide) (by kernel_rfl) (by kernel_rfl) (by kernel_rfl) (hQ _ _) (want_n (by kernel_rfl)) (fun hW w hS => rrun_move (x := .tmp 49) (.inl (by kernel_rfl)) (hF.ev 49 _ rfl)) hS (fun a hF => ?_)
    rw [show cond true (Value.tuple #[.agg n.cells, .bool true]) undef = Value.tuple #[.agg n.cells, .bool true] from rfl] at hF
    refine hst (i := 8) (o := ops_wy17[8]'(show 8 < ops_wy17.size by rw [size_wy17]; decide)) hF 50 true (.agg n.cells) (Array.getElem?_eq_getElem (show 8 < ops_wy17.size by rw [size_wy17]; decide)) (by kernel_rfl) (by decide) (by kernel_rfl) (by kernel_rfl) (by kernel_rfl) (hQ _ _) (want_n (by kernel_rfl)) (fun hW w hS => rrun_ext (x := .tmp 42) (n := 0) (by kernel_rfl) (hF.ev 42 _ rfl) rfl) hS (fun a hF => ?_)
    rw [show cond true (.agg n.cells) undef = .agg n.cells from rfl] at hF
    refine hst (i := 9) (o := ops_wy17[9]'(show 9 < ops_wy17.size by rw [size_wy17]; decide)) hF 51 true (.bool true) (Array.getElem?_eq_getElem (show 9 < ops_wy17.size by rw [size_wy17]; decide)) (by kernel_rfl) (by decide) (by kernel_rfl) (by kernel_rfl) (by kernel_rfl) (hQ _ _) (want_n (by kernel_rfl)) (fun hW w hS => rrun_ext (x := .tmp 42) (n := 1) (by kernel_rfl) (hF.ev 42 _ rfl) rfl) hS (fun a hF => ?_)
    rw [show cond true (.bool true) undef = .bool true from rfl] at hF
    rw [show ((((#[true, true, true, true, true, true, false, false, false, false, true, false, false]).setIfInBounds 6 true).setIfInBounds 7 true).setIfInBounds 8 true).setIfInBounds 9 true = #[true, true, true, true, true, true, true, true, true, true, true, false, false] from by kernel_rfl]
    exact wy17_d hl hk hm hg ht hs hf hQ (hF.sub [(8, ptr z 0), (50, .agg n.cells), (51, .bool true), (1, ptr g 0), (5, .slice (some ⟨b, f, none⟩) m c), (6, .int .u64 ((a0 : Nat) : Int)), (7, .int .i64 ((k : Nat) : Int)), (0, v0), (2, v2), (3, v3), (4, v4), (10, v10), (11, v11), (12, v12), (13, v13), (14, v14), (15, v15), (16, v16), (17, v17), (18, v18), (19, v19), (20, v20), (21, v21), (22, v22), (23, v23), (24, v24), (25, v25), (26, v26), (27, v27), (28, v28), (29, v29), (30, v30), (31, v31), (32, v32), (33, v33), (34, v34), (35, v35), (36, v36), (37, v37), (38, v38), (39, v39), (40, v40), (41, v41), (52, v52), (53, v53), (54, v54), (55, v55), (56, v56), (57, v57), (58, v58), (59, v59)] ⟨rfl, rfl, rfl, rfl, rfl, rfl, rfl, rfl, rfl, rfl, rfl, rfl, rfl, rfl, rfl, rfl, rfl, rfl, rfl, rfl, rfl, rfl, rfl, rfl, rfl, rfl, rfl, rfl, rfl, rfl, rfl, rfl, rfl, rfl, rfl, rfl, rfl, rfl, rfl, rfl, rfl, rfl, rfl, rfl, rfl, rfl, rfl, rfl, rfl, rfl, rfl,  trivial⟩) hS hz hZ hE
end
end Go.Proofs.YtpmlhmficmillaaGreat

namespace Go.Proofs.YtpmlhmficmillaaGreat
section
open Go.RowKit
set_option maxRecDepth 100000
set_option linter.unusedVariables false

theorem way_row {w w' : World} {l : List Nod} {p : Nat} {e : Ending} (h : WayOPost w l p e w') : ∃ rv, e = .returned rv ∧ RowW w' 1 rv (namesW l p).length ((namesW l p).map Value.string) ∧ Below w.heap.size w w' := by
  obtain ⟨rv, h1, h2, h3⟩ := h
  refine ⟨rv, h1, ?_, h3⟩
  unfold namesW
  rw [List.length_reverse]
  exact h2
set_option maxHeartbeats 6400000 in
theorem law_TreeWays (v : Value) (x : Nat) (l : List Nod) (w : World) (hv : NodsAt w v l) (hok : ∀ n ∈ l, NodOk n) : Calls Tryz.prog 6 #[.agg #[.int .u64 (x : Int), v]] w fun e w' => e = .returned (.bool true) ∧ Below w.heap.size w w' := by
  have mixed : Tryz.prog.follows Departure.mixedOrders = true := by first | kernel_rfl | decide
  obtain ⟨a, c, rfl, g1, g2⟩ := hv.form
  unfold maxLen at g2
  obtain ⟨W, hW⟩ : ∃ W, W = w.alloc (.cells #[.int .u64 (x : Int), .slice a l.length c] 25) := ⟨_, rfl⟩
  have hb0 : Below w.heap.size w W := by rw [hW]; exact (Below.refl _ _).alloc (Nat.le_refl _) _
  have hx0 := hid (show W.heap[w.heap.size]? = some (.cells #[.int .u64 (x : Int), .slice a l.length c] 25 (0, 0)) by rw [hW]; exact heap_alloc_new _ _)
  have hc := hid (known14_any W)
  have hv0 := hid (hv.below hb0)
  replace hb0 := hid hb0
  replace hok := hid hok
  clear hv
  go_enter Tryz.func6, Tryz.ntmps6
  go_wp2_with (rw [← hW]; replace hW := hid hW)
  refine hc.out.mono ?_
  rintro e w1 ⟨rfl, hb1⟩
  have hB := hid (sn hb0.out hb1)
  have tree := hid ((hb1.block _ (lt_of_block hx0.out)).trans hx0.out)
  have row := hid (hv0.out.below hb1)
  clear hc hb1 hx0 hb0 hv0
  have hm := hid (may14_any (.slice a l.length c) x l w1 row.out hok.out)
  have q0 := block_cell tree.out 0
  have q1 := block_cell tree.out 1
  go_wp2_with fail
  refine hm.out.mono ?_
  rintro e w2 ⟨b, rfl, hmay, hb2⟩
  replace hB := hid (sn hB.out hb2)
  replace tree := hid ((hb2.block _ (lt_of_block tree.out)).trans tree.out)
  replace row := hid (row.out.below hb2)
  clear hm hb2 q0 q1
  cases b with
  | false =>
    clear hmay
    go_wp2_with fail
    go_ret
    exact ⟨rfl, hB.out⟩
  | true =>
    obtain ⟨hOk0, _⟩ := hmay rfl
    have hl64 : l.length ≤ 64 := hOk0.few
    have hOk := hid hOk0
    clear hmay hOk0
    go_wp2_with fail
    go_loopw [3] (fun iv wr => ∃ i : Nat, i ≤ l.length ∧ iv = .int .i64 (i : Int) ∧ Hid (wr.heap[w.heap.size]? = some (.cells #[.int .u64 (x : Int), .slice a l.length c] 25 (0, 0))) ∧ Hid (NodsAt wr (.slice a l.length c) l) ∧ Hid (Below w.heap.size w wr)) (fun iv _ => l.length - (intOf iv).toNat)
    case atStart => exact ⟨0, by omega, rfl, tree, row, hB⟩
    case round =>
      clear tree row hB
      obtain ⟨i, hi, rfl, tree, row, hB⟩ := hrel
      have q0 := block_cell tree.out 0
      have q1 := block_cell tree.out 1
      by_cases hil : i < l.length
      case neg =>
        have i2 : ¬ (i : Int) < (l.length : Int) := by omega
        go_wp2_with fail
        go_ret
        exact ⟨rfl, hB.out⟩
      obtain ⟨b, o, ha, hr⟩ := row.out.range i hil
      subst ha
      obtain ⟨n, hn⟩ : ∃ n, n = l[i] := ⟨_, rfl⟩
      rw [← hn] at hr
      have hmem := hid (show n ∈ l by rw [hn]; exact List.getElem_mem hil)
      replace hn := hid hn
      replace hr := hid hr
      have i1 : (0 : Int) ≤ (i : Int) := by omega
      have i2 : (i : Int) < (l.length : Int) := by omega
      have i3 : IntKind.i64.wrap ((i : Int) + 1) = ((i + 1 : Nat) : Int) := by rw [IntWalk.i64_in _ (by omega)]; omega
      have hnew := hid (heap_alloc_new wr (.cells zeroNod.cells 28))
      obtain ⟨z, hz⟩ : ∃ z, z = wr.heap.size := ⟨_, rfl⟩
      obtain ⟨V, hV⟩ : ∃ V, V = boxN wr n := ⟨_, rfl⟩
      have hbV : Below wr.heap.size wr V := by rw [hV]; exact boxN_below _ _
      have node := hid (show V.heap[z]? = some (.cells n.cells 28 (0, 0)) by rw [hV, hz]; exact boxN_heap _ _)
      unfold boxN at hV
      rw [zeroNod_cells] at hV hnew
      rw [← hz] at hV hnew
      replace hz := hid hz
      replace hB := hid (sn hB.out hbV)
      replace tree := hid ((hbV.block _ (lt_of_block tree.out)).trans tree.out)
      replace row := hid (row.out.below hbV)
      clear hbV
      obtain ⟨r0, hr0⟩ := hOk.out.root1
      have hway := hid (nwayO_any (.slice (some ⟨b, o, none⟩) l.length c) x l n.path V row.out hOk.out.sort (by omega) ⟨r0, hr0⟩)
      clear hr0
      replace i3 := hid i3
      go_upto_region 9 with (first
        | (rw [← hz.out])
        | (rw [← hV]; replace hV := hid hV)
        | (refine wpList_load_cells (by rfl) 28 (.tmp 25) (by rfl) b (o + i * 12) (by rfl) n.cells _ hr.out Tryz.underlying28 (by rfl) (by kernel_rfl) ?_)
        | (refine wpList_store_row (by rfl) 28 (.tmp 4) (.tmp 26) (by rfl) z n.cells (by rfl) (by rfl) 28 _ hnew.out (by kernel_rfl) (by kernel_rfl) (nod_one n) ?_))
      clear hnew q0 q1 i1 i2 hr
      have q0 := block_cell tree.out 0
      have q1 := block_cell tree.out 1
      have p0 : V.cell? ⟨z, 0, none⟩ = some (.int .u64 (n.path : Int)) := block_cell node.out 0
      go_wp2_with fail
      refine hway.out.mono ?_
      rintro e w4 hpost
      obtain ⟨rv, rfl, hway', hb4⟩ := way_row hpost
      obtain ⟨names, hnames⟩ : ∃ names, names = namesW l n.path := ⟨_, rfl⟩
      rw [← hnames] at hway'
      have hnl : names.length ≤ 64 := by have := names_len hOk.out n.path; rw [hnames]; simp only at this; omega
      have wrow := hid hway'
      obtain ⟨_, wa, wc, rfl, wc1, wc2, _, _⟩ := hway'
      unfold maxLen at wc2
      have nodec := hid ((hb4.block _ (lt_of_block node.out)).trans node.out)
      replace hB := hid (sn hB.out hb4)
      replace tree := hid ((hb4.block _ (lt_of_block tree.out)).trans tree.out)
      replace row := hid (row.out.below hb4)
      clear hway hpost hb4 q0 q1 p0 node
      have p10 : w4.cell? ⟨z, 10, none⟩ = some (.bool n.gone) := block_cell nodec.out 10
      cases hgone : n.gone with
      | true =>
        have hn0 : names.length = 0 := by rw [hnames, names_gone hOk.out hmem.out hgone]; rfl
        have k0 : ((names.length : Int) != 0) = false := by rw [hn0]; rfl
        rw [hgone] at p10
        replace hn0 := hid hn0
        replace hnames := hid hnames
        clear hgone
        go_wp2_with (rw [i3.out])
        go_roundw
        case rel => exact ⟨i + 1, by omega, by go_num, tree, row, hB⟩
        case measure => simp [intOf]; omega
      | false =>
        have hwk := hid (show walkD l (names.drop 0) 1 = some n.path by rw [hnames]; exact names_walk hOk.out hmem.out hgone)
        rw [hgone] at p10
        replace hnames := hid hnames
        clear hgone
        go_wp2_with fail
        go_loopw [6, 7] (fun av kv wr => ∃ k at_ : Nat, k ≤ names.length ∧ av = .int .u64 (at_ : Int) ∧ kv = .int .i64 (k : Int) ∧ Hid (walkD l (names.drop k) at_ = some n.path) ∧ Hid (wr.heap[w.heap.size]? = some (.cells #[.int .u64 (x : Int), .slice (some ⟨b, o, none⟩) l.length c] 25 (0, 0))) ∧ Hid (NodsAt wr (.slice (some ⟨b, o, none⟩) l.length c) l) ∧ Hid (Below w.heap.size w wr) ∧ Hid (wr.heap[z]? = some (.cells n.cells 28 (0, 0))) ∧ Hid (RowW wr 1 (.slice wa names.length wc) names.length (names.map Value.string))) (fun _ kv _ => names.length - (intOf kv).toNat)
        case atStart => exact ⟨0, 1, by omega, rfl, rfl, hwk, tree, row, hB, nodec, wrow⟩
        case round =>
          clear tree row hB nodec wrow hwk p10
          obtain ⟨k, at_, hk, rfl, rfl, hwk, tree, row, hB, nodec, wrow⟩ := hrel
          by_cases hkl : k < names.length
          · obtain ⟨y, hy, hwk2⟩ := walk_step hkl hwk.out
            obtain ⟨_, wa', wc', hwv, _, _, _, hcell⟩ := wrow.out
            simp only [Value.slice.injEq] at hwv
            obtain ⟨b6, o6, hab, hcl⟩ := hcell k (.string names[k]) (by rw [List.getElem?_map, List.getElem?_eq_getElem hkl]; rfl)
            have hwa : wa = some ⟨b6, o6, none⟩ := hwv.1.trans hab
            subst hwa
            clear hcell hwv hab
            have k2 : (k : Int) < (names.length : Int) := by omega
            have k3 : IntKind.i64.wrap ((k : Int) + 1) = ((k + 1 : Nat) : Int) := by rw [IntWalk.i64_in _ (by omega)]; omega
            replace k3 := hid k3
            replace hy := hid hy
            replace hwk2 := hid hwk2
            replace hcl := hid hcl
            go_wp2_with fail
            have tg : wr.drew.heap[w.heap.size]? = some (.cells #[.int .u64 (x : Int), .slice (some ⟨b, o, none⟩) l.length c] 25 (0, 0)) := tree.out
            have hdr : Below wr.heap.size wr wr.drew := (Below.refl _ _).drew
            have hcd : wr.drew.cell? ⟨b6, o6 + k * 1, none⟩ = some (.string names[k]) := by rw [Nat.mul_one]; exact hcl.out
            refine wp_region_held (S := Below wr.drew.heap.size wr.drew) mixed ?_
            refine (show wpAnyH Tryz.prog .any ops_wy17 _ _ _ _ _ _ → _ from fun h => h) ?_
            refine wy17_all (w1 := wr.drew) (g := w.heap.size) (x := x) (l := l) (s := names[k]) (n := y) (m := names.length) (by omega) hkl (by omega) tg (row.out.below hdr) hcd hy.out (fun d u c a w h => by cases d <;> exact h) (FrL.of_all (by rfl) rfl ⟨rfl, rfl, rfl, rfl, rfl, rfl, rfl, rfl, rfl, rfl, rfl, rfl, rfl, rfl, rfl, rfl, rfl, rfl, rfl, rfl, rfl, rfl, rfl, rfl, rfl, rfl, rfl, rfl, rfl, rfl, rfl, rfl, rfl, rfl, rfl, rfl, rfl, rfl, rfl, rfl, rfl, rfl, rfl, rfl, rfl, rfl, rfl, rfl,  trivial⟩) (Below.refl _ _) (fun zy a w5 hF hS hzy hlo => ?_)
            have hbx := hdr.trans hS
            replace hB := hid (hB.out.trans (hbx.mono hB.out.size))
            replace tree := hid ((hbx.block _ (lt_of_block tree.out)).trans tree.out)
            replace row := hid (row.out.below hbx)
            replace nodec := hid ((hbx.block _ (lt_of_block nodec.out)).trans nodec.out)
            replace wrow := hid (RowW.below wrow.out hbx)
            clear hbx hdr tg hcd hcl hS
            have he := frame_eq hF [_, .pointer (some ⟨w.heap.size, 0, none⟩), _, _, _, _, _, _, .pointer (some ⟨zy, 0, none⟩), _, _, _, _, _, _, _, _, _, _, _, _, _, _, _, _, _, _, _, _, _, _, _, _, _, _, _, _, _, _, _, _, _, a.tmps.getD 42 undef, a.tmps.getD 43 undef, a.tmps.getD 44 undef, a.tmps.getD 45 undef, a.tmps.getD 46 undef, a.tmps.getD 47 undef, a.tmps.getD 48 undef, a.tmps.getD 49 undef, a.tmps.getD 50 undef, a.tmps.getD 51 undef, _, _, _, _, _, _, _, _] (by rfl) ⟨hF.get 0 _ rfl, hF.get 1 _ rfl, hF.get 2 _ rfl, hF.get 3 _ rfl, hF.get 4 _ rfl, hF.get 5 _ rfl, hF.get 6 _ rfl, hF.get 7 _ rfl, hF.get 8 _ rfl, hF.get 9 _ rfl, hF.get 10 _ rfl, hF.get 11 _ rfl, hF.get 12 _ rfl, hF.get 13 _ rfl, hF.get 14 _ rfl, hF.get 15 _ rfl, hF.get 16 _ rfl, hF.get 17 _ rfl, hF.get 18 _ rfl, hF.get 19 _ rfl, hF.get 20 _ rfl, hF.get 21 _ rfl, hF.get 22 _ rfl, hF.get 23 _ rfl, hF.get 24 _ rfl, hF.get 25 _ rfl, hF.get 26 _ rfl, hF.get 27 _ rfl, hF.get 28 _ rfl, hF.get 29 _ rfl, hF.get 30 _ rfl, hF.get 31 _ rfl, hF.get 32 _ rfl, hF.get 33 _ rfl, hF.get 34 _ rfl, hF.get 35 _ rfl, hF.get 36 _ rfl, hF.get 37 _ rfl, hF.get 38 _ rfl, hF.get 39 _ rfl, hF.get 40 _ rfl, hF.get 41 _ rfl, hF.any 42 (by decide), hF.any 43 (by decide), hF.any 44 (by decide), hF.any 45 (by decide), hF.any 46 (by decide), hF.any 47 (by decide), hF.any 48 (by decide), hF.any 49 (by decide), hF.any 50 (by decide), hF.any 51 (by decide), hF.get 52 _ rfl, hF.get 53 _ rfl, hF.get 54 _ rfl, hF.get 55 _ rfl, hF.get 56 _ rfl, hF.get 57 _ rfl, hF.get 58 _ rfl, hF.get 59 _ rfl, trivial⟩
            rw [he]
            clear he hF
            generalize a.tmps.getD 42 undef = y42
            generalize a.tmps.getD 43 undef = y43
            generalize a.tmps.getD 44 undef = y44
            generalize a.tmps.getD 45 undef = y45
            generalize a.tmps.getD 46 undef = y46
            generalize a.tmps.getD 47 undef = y47
            generalize a.tmps.getD 48 undef = y48
            generalize a.tmps.getD 49 undef = y49
            generalize a.tmps.getD 50 undef = y50
            generalize a.tmps.getD 51 undef = y51
            clear a
            have y0 : w5.cell? ⟨zy, 0, none⟩ = some (.int .u64 (y.path : Int)) := block_cell hzy 0
            go_wp2_with (rw [k3.out])
            go_roundw
            case rel => exact ⟨k + 1, y.path, by omega, rfl, by go_num, hwk2, tree, row, hB, nodec, wrow⟩
            case measure => simp [intOf]; omega
          · have hat : at_ = n.path := walk_done (by omega) hwk.out
            subst hat
            have k2 : ¬ (k : Int) < (names.length : Int) := by omega
            have p0 : wr.cell? ⟨z, 0, none⟩ = some (.int .u64 (n.path : Int)) := block_cell nodec.out 0
            have hne : ((n.path : Int) != (n.path : Int)) = false := by simp
            go_wp2_with (rw [i3.out])
            go_roundw
            case rel => exact ⟨i + 1, by omega, by go_num, tree, row, hB⟩
            case measure => simp [intOf]; omega
end
end Go.Proofs.YtpmlhmficmillaaGreat

namespace Go.Proofs.YtpmlhmficmillaaGreat
section
end
end Go.Proofs.YtpmlhmficmillaaGreat
