/- The state of the loop that reads nodes (in.tree of Decode), and the region that reads one and puts it behind. Conditions: in the statements.
The program's Check: what it finds right is a valid tree. Conditions: numbers in their types; at most 900 nodes. -/
import Derived.Test.YtcmajcljafmphaaGreatKtA28
import Derived.Test.YtcmajcljafmphaaGreatKtA06
import Derived.Test.YtcmajcljafmphaaGreatKtA26
import Derived.Test.YtcmajcljafmphaaGreatKtA25
namespace Go.Proofs.YtcmajcljafmphaaGreat
section
open Go.RowKit
set_option maxRecDepth 100000
set_option linter.unusedVariables false

theorem foot_old {w0 w : World} {b : Nat} {l0 : List UInt8} {e : Nat} (h0 : InIs w0 b l0 e) (hs : OStep b w0 w) {k : Nat} (hk : Foot w b k) : k < w0.heap.size := h0.foot_lt ((hs.two h0.two).2 k hk)
theorem in_grown {w w8 : World} {b : Nat} {l : List UInt8} {e : Nat} {ow : Option Nat} (h : InIs w b l e) (hg : w.grownBy w8 ow) (hn : ∀ j, ow = some j → ¬ Foot w b j) : InIs w8 b l e := by
  obtain ⟨v, hb, hl, hne⟩ := h
  refine ⟨v, (hg.block b (lt_of_block hb) (fun e => hn b e.symm (.inl rfl))).trans hb, RowAt.other hl hg.size (fun j hj => hg.block j (hl.lt hj) (fun e => hn j e.symm (.inr ⟨v, block_cell hb 0, hj⟩))), hne⟩
theorem foot_grown {w w8 : World} {b k : Nat} {l : List UInt8} {e : Nat} {ow : Option Nat} (h : InIs w b l e) (hg : w.grownBy w8 ow) (hn : ∀ j, ow = some j → ¬ Foot w b j) (hk : Foot w8 b k) : Foot w b k := by
  have hc0 : w8.cell? ⟨b, 0, none⟩ = w.cell? ⟨b, 0, none⟩ := World.cell?_of_block (w := w) (hg.block b h.lt (fun e => hn b e.symm (.inl rfl)))
  rcases hk with hk | ⟨v, hv, hk⟩
  · exact .inl hk
  · rw [hc0] at hv; exact .inr ⟨v, hv, hk⟩
theorem ostep_grown {w0 w w8 : World} {b : Nat} {l0 l : List UInt8} {e0 e : Nat} {ow : Option Nat} (h0 : InIs w0 b l0 e0) (h : InIs w b l e) (hs : OStep b w0 w) (hg : w.grownBy w8 ow) (hlo : ∀ j, ow = some j → w0.heap.size ≤ j) : OStep b w0 w8 := by
  have hn : ∀ j, ow = some j → ¬ Foot w b j := fun j hj hf => by have := foot_old h0 hs hf; have := hlo j hj; omega
  have hb0 := h0.lt
  refine ⟨hs.below.grown hg (by have := hs.below.size; omega) (fun j hj => by have := hlo j hj; omega), fun k hk hf => ?_, fun ht => ?_⟩
  · obtain ⟨e1, n1⟩ := hs.block k hk hf
    exact ⟨(hg.block k (Nat.lt_of_lt_of_le hk hs.below.size) (fun e => by have := hlo k e.symm; omega)).trans e1, fun hf8 => n1 (foot_grown h hg hn hf8)⟩
  · obtain ⟨⟨cs', t, fr, hc, hs2⟩, f1⟩ := hs.two ht
    exact ⟨⟨cs', t, fr, (hg.block b h.lt (fun e => hn b e.symm (.inl rfl))).trans hc, hs2⟩, fun k hk => f1 k (foot_grown h hg hn hk)⟩
structure NTs (w0 : World) (b g r z x : Nat) (rv : Value) (acc : List Nod) (rest : List UInt8) (w : World) : Prop where
  inn : InIs w b rest 0
  stp : OStep b w0 w
  hg : w.heap[g]? = some (.cells #[ptr b 0] 111 (0, 0))
  hr : w.heap[r]? = some (.cells #[.int .u64 0, .slice none 0 0] 33 (0, 0))
  hz : w.heap[z]? = some (.cells #[.int .u64 (x : Int), rv] 33 (0, 0))
  own : w.ownsRow (z + 1) 68 12 rv acc.length (nodsL acc)
  lo : w0.heap.size ≤ g ∧ g < r ∧ r < z
theorem NTs.step {w0 w w' : World} {b g r z x : Nat} {rv : Value} {acc : List Nod} {rest rest' l0 : List UInt8} (h0 : InIs w0 b l0 0) (h : NTs w0 b g r z x rv acc rest w) (hs : OStep b w w') (hi : InIs w' b rest' 0) : NTs w0 b g r z x rv acc rest' w' := by
  have hk : ∀ k, w0.heap.size ≤ k → k < w.heap.size → w'.heap[k]? = w.heap[k]? := fun k h1 h2 => (hs.block k h2 (fun hf => by have := foot_old h0 h.stp hf; omega)).1
  have l1 := lt_of_block h.hg
  have l2 := lt_of_block h.hr
  have l3 := lt_of_block h.hz
  have hlo := h.lo
  exact ⟨hi, h.stp.trans hs, (hk g hlo.1 l1).trans h.hg, (hk r (by omega) l2).trans h.hr, (hk z (by omega) l3).trans h.hz, own_keep h.own (fun j hj => by
    have := h.own.lt j hj
    exact hk j (by omega) this.2), hlo⟩
theorem NTs.below {w0 w w' : World} {b g r z x : Nat} {rv : Value} {acc : List Nod} {rest l0 : List UInt8} (h0 : InIs w0 b l0 0) (h : NTs w0 b g r z x rv acc rest w) (hb : Below w.heap.size w w') : NTs w0 b g r z x rv acc rest w' :=
  h.step h0 (OStep.pure h.inn.lt hb) (h.inn.below hb)
theorem NTs.put {w0 w w8 : World} {b g r z x n' : Nat} {rv rv' : Value} {acc acc' : List Nod} {rest l0 : List UInt8} (h0 : InIs w0 b l0 0) (h : NTs w0 b g r z x rv acc rest w) (hg : w.grownBy w8 rv.ownBlock) (ho : w8.ownsRow (z + 1) 68 12 rv' n' (nodsL acc')) (hn : n' = acc'.length) : NTs w0 b g r z x rv' acc' rest (w8.setCell ⟨z, 1, none⟩ rv') := by
  subst hn
  have hlo := h.lo
  have hj : ∀ j, rv.ownBlock = some j → z + 1 ≤ j := fun j hj => (h.own.lt j hj).1
  have hn : ∀ j, rv.ownBlock = some j → ¬ Foot w b j := fun j h1 hf => by have := foot_old h0 h.stp hf; have := hj j h1; omega
  have hI8 := in_grown h.inn hg hn
  have hs8 := ostep_grown h0 h.inn h.stp hg (fun j h1 => by have := hj j h1; omega)
  have hzf : ¬ Foot w8 b z := fun hf => by have := foot_old h0 hs8 hf; omega
  have hk : ∀ k, k ≤ z → k < w.heap.size → w8.heap[k]? = w.heap[k]? := fun k h1 h2 => hg.block k h2 (fun e => by have := hj k e.symm; omega)
  have l1 := lt_of_block h.hg
  have l2 := lt_of_block h.hr
  have l3 := lt_of_block h.hz
  have hz8 := (hk z (Nat.le_refl _) l3).trans h.hz
  refine ⟨hI8.store (p := ⟨z, 1, none⟩) _ hzf, hs8.store (p := ⟨z, 1, none⟩) (by show _ ≤ z; omega) hzf h0.lt _, (block_set_other (by show g ≠ z; omega)).trans ((hk g (by omega) l1).trans h.hg), (block_set_other (by show r ≠ z; omega)).trans ((hk r (by omega) l2).trans h.hr), block_set hz8 1 _, own_keep ho (fun j hj2 => block_set_other (by show j ≠ z; have := (ho.lt j hj2).1; omega)), hlo⟩
section
variable {o : Oper} {ev : Operand → Value} {w : World} {x y : Operand}
theorem rrun_nbuild1 {n : Nod} (ho : o.op = .buildSlice 31 1 #[(0, x)]) (hx : ev x = .agg n.cells) : (execOp ev o).run Tryz.prog w = .ok (.value (.slice (some ⟨w.heap.size, 0, none⟩) 1 1)) (w.alloc (.cells n.cells 68)) := by
  rw [nod_cells] at *
  simp [execOp, ho, hx, go_sem]
theorem rld_nn {p : Addr} {v : Value} {w : World} (h : w.cell? p = some v) : (loadVar 31 p).run Tryz.prog w = .ok v w := by simp [go_sem, h]
theorem rrun_storer {g i : Nat} {u : Value} {a : Option Addr} {n c : Nat} (ho : o.op = .store 31 x y) (hx : ev x = ptr g i) (hy : ev y = .slice a n c) (hc : w.cell? ⟨g, i, none⟩ = some u) (hf : w.frozen? ⟨g, i, none⟩ = false) : (execOp ev o).run Tryz.prog w = .ok .skip (w.setCell ⟨g, i, none⟩ (.slice a n c)) := by
  have hx' : ev x = .pointer (some ⟨g, i, none⟩) := hx
  simp [execOp, ho, hx', hy, hc, hf, go_sem]
end

noncomputable def ops_ntr4 : Array Oper := match Tryz.f67.body with | some c => (allOps' c).getD 4 #[] | none => #[]
theorem size_ntr4 : ops_ntr4.size = 8 := by kernel_rfl
set_option maxHeartbeats 4000000 in
theorem ntr4_d {w0 : World} {b g r z x : Nat} {rv : Value} {acc : List Nod} {rest l0 : List UInt8} {n : Nod} {rest' : List UInt8} {e : Nat} {v0 v2 v4 v5 v6 v7 v8 v9 v10 v19 v20 v21 v22 v23 v24 v25 v26 v27 v28 v29 v30 v31 v32 v33 v34 v35 : Value} {Q : Exit → Act → World → Prop} {a : Act} {w : World} (h0 : InIs w0 b l0 0) (hl : rest.length ≤ 1000000000) (hacc : acc.length ≤ 20000000) (hT : NTs w0 b g r z x rv acc rest' w) (hp : nodP rest = some (n, rest')) (hn : w.heap[e]? = some (.cells n.cells 68 (0, 0)))
    (hQ : ∀ d u c a w, Q (.panic c) (a.put d u) w → Q (.panic c) a w) (hF : FrL 36 [(13, rv), (16, .slice (some ⟨e, 0, none⟩) 1 1), (1, ptr g 0), (3, ptr z 0), (0, v0), (2, v2), (4, v4), (5, v5), (6, v6), (7, v7), (8, v8), (9, v9), (10, v10), (19, v19), (20, v20), (21, v21), (22, v22), (23, v23), (24, v24), (25, v25), (26, v26), (27, v27), (28, v28), (29, v29), (30, v30), (31, v31), (32, v32), (33, v33), (34, v34), (35, v35)] a)
    (hE : ∀ n rest' rv' a w', nodP rest = some (n, rest') → FrL 36 [(1, ptr g 0), (3, ptr z 0), (0, v0), (2, v2), (4, v4), (5, v5), (6, v6), (7, v7), (8, v8), (9, v9), (10, v10), (19, v19), (20, v20), (21, v21), (22, v22), (23, v23), (24, v24), (25, v25), (26, v26), (27, v27), (28, v28), (29, v29), (30, v30), (31, v31), (32, v32), (33, v33), (34, v34), (35, v35)] a → NTs w0 b g r z x rv' (acc ++ [n]) rest' w' → Q .normal a w')
    (hP : ∀ a w', nodP rest = none → a.defers = [] → OStep b w0 w' → Q (.panic (errChain 2)) a w') :
    wpAnyH Tryz.prog .any ops_ntr4 Q (fun w' : World => w'.heap[g]? = some (.cells #[ptr b 0] 111 (0, 0))) 3 #[true, true, true, true, true, false, false, false] a w := by
  refine wpAnyH_all (rs := [5]) (by kernel_rfl) (by simp) fun j hj => ?_
  obtain rfl : j = 5 := by simpa using hj
  have hnn : NodsAt w (.slice (some ⟨e, 0, none⟩) 1 1) [n] := NodsAt.block (l := [n]) (t := 68) (fr := (0, 0)) (by rw [show (nodsL [n]).toArray = n.cells by simp [nodsL]]; exact hn) (by unfold maxLen; simp)
  obtain ⟨i, zv, hi, hz, hsize, hby, hzs⟩ := elemN.hi
  obtain ⟨a8, c8, w8, hr8, ho8, hg8⟩ := run_append_weak (P := Tryz.prog) w (z + 1) 31 31 68 i zv 12 120 elemN.ht hi hz hsize hby hzs (by omega) rv acc.length _ hT.own _ 1 _ hnn (nodsL_one _) (by unfold maxLen; omega) (by omega) (lt_of_block hT.hz)
  rw [← nodsL_append] at ho8
  refine hdo (i := 5) (o := ops_ntr4[5]'(show 5 < ops_ntr4.size by rw [size_ntr4]; decide)) hF 17 (.slice a8 (acc.length + 1) c8) w8 (Array.getElem?_eq_getElem (show 5 < ops_ntr4.size by rw [size_ntr4]; decide)) (by kernel_rfl) (by decide) (want_n (by kernel_rfl)) (rrun_append (t := 31) (x := .tmp 13) (y := .tmp 16) (by kernel_rfl) (hF.ev 13 _ rfl) (hF.ev 16 _ rfl) hr8) (fun a hF => ?_)
  have hlo := hT.lo
  have hz8 : w8.heap[z]? = some (.cells #[.int .u64 (x : Int), rv] 33 (0, 0)) := (hg8.block z (lt_of_block hT.hz) (fun e => by have := (hT.own.lt z e.symm).1; omega)).trans hT.hz
  have hg9 : w8.heap[g]? = some (.cells #[ptr b 0] 111 (0, 0)) := (hg8.block g (lt_of_block hT.hg) (fun e => by have := (hT.own.lt g e.symm).1; omega)).trans hT.hg
  refine ⟨hg9, ?_⟩
  have hT9 := hT.put h0 hg8 ho8 (by simp)
  refine hst (i := 6) (o := ops_ntr4[6]'(show 6 < ops_ntr4.size by rw [size_ntr4]; decide)) hF 18 true (ptr z 1) (Array.getElem?_eq_getElem (show 6 < ops_ntr4.size by rw [size_ntr4]; decide)) (by kernel_rfl) (by decide) (by kernel_rfl) (by kernel_rfl) (by kernel_rfl) (hQ _ _) (want_n (by kernel_rfl)) (fun hW w hS => rrun_fld (T := 33) (x := .tmp 3) (f := 1) (by kernel_rfl) (hF.ev 3 (ptr z 0) rfl) (by kernel_rfl)) hg9 (fun a hF => ?_)
  rw [show cond true (ptr z 1) undef = ptr z 1 from rfl] at hF
  refine wpAnyH_all (rs := [7]) (by kernel_rfl) (by simp) fun j hj => ?_
  obtain rfl : j = 7 := by simpa using hj
  refine hdo0 (o := ops_ntr4[7]'(show 7 < ops_ntr4.size by rw [size_ntr4]; decide)) (w8.setCell ⟨z, 1, none⟩ (.slice a8 (acc.length + 1) c8)) (Array.getElem?_eq_getElem (show 7 < ops_ntr4.size by rw [size_ntr4]; decide)) (by kernel_rfl) (want_n (by kernel_rfl)) (rrun_storer (x := .tmp 18) (y := .tmp 17) (by kernel_rfl) (hF.ev 18 _ rfl) (hF.ev 17 _ rfl) (block_cell hz8 1) (block_free hz8 1)) ?_
  refine ⟨hT9.hg, ?_⟩
  exact wpAnyH_done (by kernel_rfl) (hE n rest' _ _ _ hp (hF.sub [(1, ptr g 0), (3, ptr z 0), (0, v0), (2, v2), (4, v4), (5, v5), (6, v6), (7, v7), (8, v8), (9, v9), (10, v10), (19, v19), (20, v20), (21, v21), (22, v22), (23, v23), (24, v24), (25, v25), (26, v26), (27, v27), (28, v28), (29, v29), (30, v30), (31, v31), (32, v32), (33, v33), (34, v34), (35, v35)] ⟨rfl, rfl, rfl, rfl, rfl, rfl, rfl, rfl, rfl, rfl, rfl, rfl, rfl, rfl, rfl, rfl, rfl, rfl, rfl, rfl, rfl, rfl, rfl, rfl, rfl, rfl, rfl, rfl,  trivial⟩) hT9) _

set_option maxHeartbeats 4000000 in
theorem ntr4_c {w0 : World} {b g r z x : Nat} {rv : Value} {acc : List Nod} {rest l0 : List UInt8} {n : Nod} {rest' : List UInt8} {v0 v2 v4 v5 v6 v7 v8 v9 v10 v19 v20 v21 v22 v23 v24 v25 v26 v27 v28 v29 v30 v31 v32 v33 v34 v35 : Value} {Q : Exit → Act → World → Prop} {a : Act} {w : World} (h0 : InIs w0 b l0 0) (hl : rest.length ≤ 1000000000) (hacc : acc.length ≤ 20000000) (hT : NTs w0 b g r z x rv acc rest' w) (hp : nodP rest = some (n, rest'))
    (hQ : ∀ d u c a w, Q (.panic c) (a.put d u) w → Q (.panic c) a w) (hF : FrL 36 [(13, rv), (15, .agg n.cells), (1, ptr g 0), (3, ptr z 0), (0, v0), (2, v2), (4, v4), (5, v5), (6, v6), (7, v7), (8, v8), (9, v9), (10, v10), (19, v19), (20, v20), (21, v21), (22, v22), (23, v23), (24, v24), (25, v25), (26, v26), (27, v27), (28, v28), (29, v29), (30, v30), (31, v31), (32, v32), (33, v33), (34, v34), (35, v35)] a)
    (hE : ∀ n rest' rv' a w', nodP rest = some (n, rest') → FrL 36 [(1, ptr g 0), (3, ptr z 0), (0, v0), (2, v2), (4, v4), (5, v5), (6, v6), (7, v7), (8, v8), (9, v9), (10, v10), (19, v19), (20, v20), (21, v21), (22, v22), (23, v23), (24, v24), (25, v25), (26, v26), (27, v27), (28, v28), (29, v29), (30, v30), (31, v31), (32, v32), (33, v33), (34, v34), (35, v35)] a → NTs w0 b g r z x rv' (acc ++ [n]) rest' w' → Q .normal a w')
    (hP : ∀ a w', nodP rest = none → a.defers = [] → OStep b w0 w' → Q (.panic (errChain 2)) a w') :
    wpAnyH Tryz.prog .any ops_ntr4 Q (fun w' : World => w'.heap[g]? = some (.cells #[ptr b 0] 111 (0, 0))) 4 #[true, true, true, true, false, false, false, false] a w := by
  refine wpAnyH_all (rs := [4]) (by kernel_rfl) (by simp) fun j hj => ?_
  obtain rfl : j = 4 := by simpa using hj
  refine hdo (i := 4) (o := ops_ntr4[4]'(show 4 < ops_ntr4.size by rw [size_ntr4]; decide)) hF 16 (.slice (some ⟨w.heap.size, 0, none⟩) 1 1) (w.alloc (.cells n.cells 68)) (Array.getElem?_eq_getElem (show 4 < ops_ntr4.size by rw [size_ntr4]; decide)) (by kernel_rfl) (by decide) (want_n (by kernel_rfl)) (rrun_nbuild1 (x := .tmp 15) (by kernel_rfl) (hF.ev 15 _ rfl)) (fun a hF => ?_)
  have hT2 := hT.below h0 ((Below.refl _ _).alloc (Nat.le_refl _) (.cells n.cells 68))
  have hn2 := heap_alloc_new w (.cells n.cells 68)
  refine ⟨hT2.hg, ?_⟩
  rw [show (#[true, true, true, true, false, false, false, false]).setIfInBounds 4 true = #[true, true, true, true, true, false, false, false] from by kernel_rfl]
  exact ntr4_d h0 hl hacc hT2 hp hn2 hQ (hF.sub [(13, rv), (16, .slice (some ⟨w.heap.size, 0, none⟩) 1 1), (1, ptr g 0), (3, ptr z 0), (0, v0), (2, v2), (4, v4), (5, v5), (6, v6), (7, v7), (8, v8), (9, v9), (10, v10), (19, v19), (20, v20), (21, v21), (22, v22), (23, v23), (24, v24), (25, v25), (26, v26), (27, v27), (28, v28), (29, v29), (30, v30), (31, v31), (32, v32), (33, v33), (34, v34), (35, v35)] ⟨rfl, rfl, rfl, rfl, rfl, rfl, rfl, rfl, rfl, rfl, rfl, rfl, rfl, rfl, rfl, rfl, rfl, rfl, rfl, rfl, rfl, rfl, rfl, rfl, rfl, rfl, rfl, rfl, rfl, rfl, trivial⟩) hE hP

set_option maxHeartbeats 4000000 in
theorem ntr4_b {w0 : World} {b g r z x : Nat} {rv : Value} {acc : List Nod} {rest l0 : List UInt8} {n : Nod} {rest' : List UInt8} {e : Nat} {v0 v2 v4 v5 v6 v7 v8 v9 v10 v19 v20 v21 v22 v23 v24 v25 v26 v27 v28 v29 v30 v31 v32 v33 v34 v35 : Value} {Q : Exit → Act → World → Prop} {a : Act} {w : World} (h0 : InIs w0 b l0 0) (hl : rest.length ≤ 1000000000) (hacc : acc.length ≤ 20000000) (hT : NTs w0 b g r z x rv acc rest' w) (hp : nodP rest = some (n, rest')) (hn : w.heap[e]? = some (.cells n.cells 68 (0, 0)))
    (hQ : ∀ d u c a w, Q (.panic c) (a.put d u) w → Q (.panic c) a w) (hF : FrL 36 [(12, ptr z 1), (16, .slice (some ⟨e, 0, none⟩) 1 1), (1, ptr g 0), (3, ptr z 0), (0, v0), (2, v2), (4, v4), (5, v5), (6, v6), (7, v7), (8, v8), (9, v9), (10, v10), (19, v19), (20, v20), (21, v21), (22, v22), (23, v23), (24, v24), (25, v25), (26, v26), (27, v27), (28, v28), (29, v29), (30, v30), (31, v31), (32, v32), (33, v33), (34, v34), (35, v35)] a)
    (hE : ∀ n rest' rv' a w', nodP rest = some (n, rest') → FrL 36 [(1, ptr g 0), (3, ptr z 0), (0, v0), (2, v2), (4, v4), (5, v5), (6, v6), (7, v7), (8, v8), (9, v9), (10, v10), (19, v19), (20, v20), (21, v21), (22, v22), (23, v23), (24, v24), (25, v25), (26, v26), (27, v27), (28, v28), (29, v29), (30, v30), (31, v31), (32, v32), (33, v33), (34, v34), (35, v35)] a → NTs w0 b g r z x rv' (acc ++ [n]) rest' w' → Q .normal a w')
    (hP : ∀ a w', nodP rest = none → a.defers = [] → OStep b w0 w' → Q (.panic (errChain 2)) a w') :
    wpAnyH Tryz.prog .any ops_ntr4 Q (fun w' : World => w'.heap[g]? = some (.cells #[ptr b 0] 111 (0, 0))) 4 #[true, false, true, true, true, false, false, false] a w := by
  refine wpAnyH_all (rs := [1]) (by kernel_rfl) (by simp) fun j hj => ?_
  obtain rfl : j = 1 := by simpa using hj
  refine hdo (i := 1) (o := ops_ntr4[1]'(show 1 < ops_ntr4.size by rw [size_ntr4]; decide)) hF 13 rv w (Array.getElem?_eq_getElem (show 1 < ops_ntr4.size by rw [size_ntr4]; decide)) (by kernel_rfl) (by decide) (want_n (by kernel_rfl)) (rrun_load (ty := 31) (x := .tmp 12) (by kernel_rfl) (hF.ev 12 _ rfl) (rld_nn (block_cell hT.hz 1))) (fun a hF => ?_)
  refine ⟨hT.hg, ?_⟩
  rw [show (#[true, false, true, true, true, false, false, false]).setIfInBounds 1 true = #[true, true, true, true, true, false, false, false] from by kernel_rfl]
  exact ntr4_d h0 hl hacc hT hp hn hQ (hF.sub [(13, rv), (16, .slice (some ⟨e, 0, none⟩) 1 1), (1, ptr g 0), (3, ptr z 0), (0, v0), (2, v2), (4, v4), (5, v5), (6, v6), (7, v7), (8, v8), (9, v9), (10, v10), (19, v19), (20, v20), (21, v21), (22, v22), (23, v23), (24, v24), (25, v25), (26, v26), (27, v27), (28, v28), (29, v29), (30, v30), (31, v31), (32, v32), (33, v33), (34, v34), (35, v35)] ⟨rfl, rfl, rfl, rfl, rfl, rfl, rfl, rfl, rfl, rfl, rfl, rfl, rfl, rfl, rfl, rfl, rfl, rfl, rfl, rfl, rfl, rfl, rfl, rfl, rfl, rfl, rfl, rfl, rfl, rfl, trivial⟩) hE hP

set_option maxHeartbeats 4000000 in
theorem ntr4_a {w0 : World} {b g r z x : Nat} {rv : Value} {acc : List Nod} {rest l0 : List UInt8} {n : Nod} {rest' : List UInt8} {v0 v2 v4 v5 v6 v7 v8 v9 v10 v19 v20 v21 v22 v23 v24 v25 v26 v27 v28 v29 v30 v31 v32 v33 v34 v35 : Value} {Q : Exit → Act → World → Prop} {a : Act} {w : World} (h0 : InIs w0 b l0 0) (hl : rest.length ≤ 1000000000) (hacc : acc.length ≤ 20000000) (hT : NTs w0 b g r z x rv acc rest' w) (hp : nodP rest = some (n, rest'))
    (hQ : ∀ d u c a w, Q (.panic c) (a.put d u) w → Q (.panic c) a w) (hF : FrL 36 [(12, ptr z 1), (15, .agg n.cells), (1, ptr g 0), (3, ptr z 0), (0, v0), (2, v2), (4, v4), (5, v5), (6, v6), (7, v7), (8, v8), (9, v9), (10, v10), (19, v19), (20, v20), (21, v21), (22, v22), (23, v23), (24, v24), (25, v25), (26, v26), (27, v27), (28, v28), (29, v29), (30, v30), (31, v31), (32, v32), (33, v33), (34, v34), (35, v35)] a)
    (hE : ∀ n rest' rv' a w', nodP rest = some (n, rest') → FrL 36 [(1, ptr g 0), (3, ptr z 0), (0, v0), (2, v2), (4, v4), (5, v5), (6, v6), (7, v7), (8, v8), (9, v9), (10, v10), (19, v19), (20, v20), (21, v21), (22, v22), (23, v23), (24, v24), (25, v25), (26, v26), (27, v27), (28, v28), (29, v29), (30, v30), (31, v31), (32, v32), (33, v33), (34, v34), (35, v35)] a → NTs w0 b g r z x rv' (acc ++ [n]) rest' w' → Q .normal a w')
    (hP : ∀ a w', nodP rest = none → a.defers = [] → OStep b w0 w' → Q (.panic (errChain 2)) a w') :
    wpAnyH Tryz.prog .any ops_ntr4 Q (fun w' : World => w'.heap[g]? = some (.cells #[ptr b 0] 111 (0, 0))) 5 #[true, false, true, true, false, false, false, false] a w := by
  refine wpAnyH_all (rs := [1, 4]) (by kernel_rfl) (by simp) fun j hj => ?_
  have hj2 : j = 1 ∨ j = 4 := by simpa using hj
  rcases hj2 with rfl | rfl
  · refine hdo (i := 1) (o := ops_ntr4[1]'(show 1 < ops_ntr4.size by rw [size_ntr4]; decide)) hF 13 rv w (Array.getElem?_eq_getElem (show 1 < ops_ntr4.size by rw [size_ntr4]; decide)) (by kernel_rfl) (by decide) (want_n (by kernel_rfl)) (rrun_load (ty := 31) (x := .tmp 12) (by kernel_rfl) (hF.ev 12 _ rfl) (rld_nn (block_cell hT.hz 1))) (fun a hF => ?_)
    refine ⟨hT.hg, ?_⟩
    rw [show (#[true, false, true, true, false, false, false, false]).setIfInBounds 1 true = #[true, true, true, true, false, false, false, false] from by kernel_rfl]
    exact ntr4_c h0 hl hacc hT hp hQ (hF.sub [(13, rv), (15, .agg n.cells), (1, ptr g 0), (3, ptr z 0), (0, v0), (2, v2), (4, v4), (5, v5), (6, v6), (7, v7), (8, v8), (9, v9), (10, v10), (19, v19), (20, v20), (21, v21), (22, v22), (23, v23), (24, v24), (25, v25), (26, v26), (27, v27), (28, v28), (29, v29), (30, v30), (31, v31), (32, v32), (33, v33), (34, v34), (35, v35)] ⟨rfl, rfl, rfl, rfl, rfl, rfl, rfl, rfl, rfl, rfl, rfl, rfl, rfl, rfl, rfl, rfl, rfl, rfl, rfl, rfl, rfl, rfl, rfl, rfl, rfl, rfl, rfl, rfl, rfl, rfl, trivial⟩) hE hP
  · refine hdo (i := 4) (o := ops_ntr4[4]'(show 4 < ops_ntr4.size by rw [size_ntr4]; decide)) hF 16 (.slice (some ⟨w.heap.size, 0, none⟩) 1 1) (w.alloc (.cells n.cells 68)) (Array.getElem?_eq_getElem (show 4 < ops_ntr4.size by rw [size_ntr4]; decide)) (by kernel_rfl) (by decide) (want_n (by kernel_rfl)) (rrun_nbuild1 (x := .tmp 15) (by kernel_rfl) (hF.ev 15 _ rfl)) (fun a hF => ?_)
    have hT2 := hT.below h0 ((Below.refl _ _).alloc (Nat.le_refl _) (.cells n.cells 68))
    have hn2 := heap_alloc_new w (.cells n.cells 68)
    refine ⟨hT2.hg, ?_⟩
    rw [show (#[true, false, true, true, false, false, false, false]).setIfInBounds 4 true = #[true, false, true, true, true, false, false, false] from by kernel_rfl]
    exact ntr4_b h0 hl hacc hT2 hp hn2 hQ (hF.sub [(12, ptr z 1), (16, .slice (some ⟨w.heap.size, 0, none⟩) 1 1), (1, ptr g 0), (3, ptr z 0), (0, v0), (2, v2), (4, v4), (5, v5), (6, v6), (7, v7), (8, v8), (9, v9), (10, v10), (19, v19), (20, v20), (21, v21), (22, v22), (23, v23), (24, v24), (25, v25), (26, v26), (27, v27), (28, v28), (29, v29), (30, v30), (31, v31), (32, v32), (33, v33), (34, v34), (35, v35)] ⟨rfl, rfl, rfl, rfl, rfl, rfl, rfl, rfl, rfl, rfl, rfl, rfl, rfl, rfl, rfl, rfl, rfl, rfl, rfl, rfl, rfl, rfl, rfl, rfl, rfl, rfl, rfl, rfl, rfl, rfl, trivial⟩) hE hP

set_option maxHeartbeats 4000000 in
theorem ntr4_1 {w0 : World} {b g r z x : Nat} {rv : Value} {acc : List Nod} {rest l0 : List UInt8} {v0 v2 v4 v5 v6 v7 v8 v9 v10 v19 v20 v21 v22 v23 v24 v25 v26 v27 v28 v29 v30 v31 v32 v33 v34 v35 : Value} {Q : Exit → Act → World → Prop} {a : Act} {w : World} (h0 : InIs w0 b l0 0) (hl : rest.length ≤ 1000000000) (hacc : acc.length ≤ 20000000) (hT : NTs w0 b g r z x rv acc rest w)
    (hQ : ∀ d u c a w, Q (.panic c) (a.put d u) w → Q (.panic c) a w) (hF : FrL 36 [(13, rv), (14, .agg #[ptr b 0]), (1, ptr g 0), (3, ptr z 0), (0, v0), (2, v2), (4, v4), (5, v5), (6, v6), (7, v7), (8, v8), (9, v9), (10, v10), (19, v19), (20, v20), (21, v21), (22, v22), (23, v23), (24, v24), (25, v25), (26, v26), (27, v27), (28, v28), (29, v29), (30, v30), (31, v31), (32, v32), (33, v33), (34, v34), (35, v35)] a)
    (hE : ∀ n rest' rv' a w', nodP rest = some (n, rest') → FrL 36 [(1, ptr g 0), (3, ptr z 0), (0, v0), (2, v2), (4, v4), (5, v5), (6, v6), (7, v7), (8, v8), (9, v9), (10, v10), (19, v19), (20, v20), (21, v21), (22, v22), (23, v23), (24, v24), (25, v25), (26, v26), (27, v27), (28, v28), (29, v29), (30, v30), (31, v31), (32, v32), (33, v33), (34, v34), (35, v35)] a → NTs w0 b g r z x rv' (acc ++ [n]) rest' w' → Q .normal a w')
    (hP : ∀ a w', nodP rest = none → a.defers = [] → OStep b w0 w' → Q (.panic (errChain 2)) a w') :
    wpAnyH Tryz.prog .any ops_ntr4 Q (fun w' : World => w'.heap[g]? = some (.cells #[ptr b 0] 111 (0, 0))) 5 #[true, true, true, false, false, false, false, false] a w := by
  refine wpAnyH_all (rs := [3]) (by kernel_rfl) (by simp) fun j hj => ?_
  obtain rfl : j = 3 := by simpa using hj
  refine hdocp (i := 3) (o := ops_ntr4[3]'(show 3 < ops_ntr4.size by rw [size_ntr4]; decide)) (R := fun v w' => ∃ p, nodP rest = some p ∧ v = .agg p.1.cells ∧ InIs w' b p.2 0 ∧ OStep b w w') hF 15 (Array.getElem?_eq_getElem (show 3 < ops_ntr4.size by rw [size_ntr4]; decide)) (by kernel_rfl) (by decide) (want_n (by kernel_rfl)) ⟨89, #[.agg #[ptr b 0]], rrun_call1 (fn := 89) (x := .tmp 14) (t := 111) rfl (by kernel_rfl) (by kernel_rfl) (hF.ev 14 _ rfl), (nnode_any b rest w hl hT.inn).mono (by
    rintro e w' (⟨p, hp, rfl, h1, h2⟩ | ⟨hp, rfl, h2⟩)
    · exact .inl ⟨_, rfl, p, hp, rfl, h1, h2⟩
    · exact .inr ⟨_, rfl, hP _ _ hp hF.df (hT.stp.trans h2)⟩)⟩ ?_
  rintro _ a w1 ⟨⟨n, rest'⟩, hp, rfl, hI1, hs1⟩ hF
  have hT1 := hT.step h0 hs1 hI1
  refine ⟨hT1.hg, ?_⟩
  rw [show (#[true, true, true, false, false, false, false, false]).setIfInBounds 3 true = #[true, true, true, true, false, false, false, false] from by kernel_rfl]
  exact ntr4_c h0 hl hacc hT1 hp hQ (hF.sub [(13, rv), (15, .agg n.cells), (1, ptr g 0), (3, ptr z 0), (0, v0), (2, v2), (4, v4), (5, v5), (6, v6), (7, v7), (8, v8), (9, v9), (10, v10), (19, v19), (20, v20), (21, v21), (22, v22), (23, v23), (24, v24), (25, v25), (26, v26), (27, v27), (28, v28), (29, v29), (30, v30), (31, v31), (32, v32), (33, v33), (34, v34), (35, v35)] ⟨rfl, rfl, rfl, rfl, rfl, rfl, rfl, rfl, rfl, rfl, rfl, rfl, rfl, rfl, rfl, rfl, rfl, rfl, rfl, rfl, rfl, rfl, rfl, rfl, rfl, rfl, rfl, rfl, rfl, rfl, trivial⟩) hE hP

set_option maxHeartbeats 4000000 in
theorem ntr4_0 {w0 : World} {b g r z x : Nat} {rv : Value} {acc : List Nod} {rest l0 : List UInt8} {v0 v2 v4 v5 v6 v7 v8 v9 v10 v19 v20 v21 v22 v23 v24 v25 v26 v27 v28 v29 v30 v31 v32 v33 v34 v35 : Value} {Q : Exit → Act → World → Prop} {a : Act} {w : World} (h0 : InIs w0 b l0 0) (hl : rest.length ≤ 1000000000) (hacc : acc.length ≤ 20000000) (hT : NTs w0 b g r z x rv acc rest w)
    (hQ : ∀ d u c a w, Q (.panic c) (a.put d u) w → Q (.panic c) a w) (hF : FrL 36 [(12, ptr z 1), (14, .agg #[ptr b 0]), (1, ptr g 0), (3, ptr z 0), (0, v0), (2, v2), (4, v4), (5, v5), (6, v6), (7, v7), (8, v8), (9, v9), (10, v10), (19, v19), (20, v20), (21, v21), (22, v22), (23, v23), (24, v24), (25, v25), (26, v26), (27, v27), (28, v28), (29, v29), (30, v30), (31, v31), (32, v32), (33, v33), (34, v34), (35, v35)] a)
    (hE : ∀ n rest' rv' a w', nodP rest = some (n, rest') → FrL 36 [(1, ptr g 0), (3, ptr z 0), (0, v0), (2, v2), (4, v4), (5, v5), (6, v6), (7, v7), (8, v8), (9, v9), (10, v10), (19, v19), (20, v20), (21, v21), (22, v22), (23, v23), (24, v24), (25, v25), (26, v26), (27, v27), (28, v28), (29, v29), (30, v30), (31, v31), (32, v32), (33, v33), (34, v34), (35, v35)] a → NTs w0 b g r z x rv' (acc ++ [n]) rest' w' → Q .normal a w')
    (hP : ∀ a w', nodP rest = none → a.defers = [] → OStep b w0 w' → Q (.panic (errChain 2)) a w') :
    wpAnyH Tryz.prog .any ops_ntr4 Q (fun w' : World => w'.heap[g]? = some (.cells #[ptr b 0] 111 (0, 0))) 6 #[true, false, true, false, false, false, false, false] a w := by
  refine wpAnyH_all (rs := [1, 3]) (by kernel_rfl) (by simp) fun j hj => ?_
  have hj2 : j = 1 ∨ j = 3 := by simpa using hj
  rcases hj2 with rfl | rfl
  · refine hdo (i := 1) (o := ops_ntr4[1]'(show 1 < ops_ntr4.size by rw [size_ntr4]; decide)) hF 13 rv w (Array.getElem?_eq_getElem (show 1 < ops_ntr4.size by rw [size_ntr4]; decide)) (by kernel_rfl) (by decide) (want_n (by kernel_rfl)) (rrun_load (ty := 31) (x := .tmp 12) (by kernel_rfl) (hF.ev 12 _ rfl) (rld_nn (block_cell hT.hz 1))) (fun a hF => ?_)
    refine ⟨hT.hg, ?_⟩
    rw [show (#[true, false, true, false, false, false, false, false]).setIfInBounds 1 true = #[true, true, true, false, false, false, false, false] from by kernel_rfl]
    exact ntr4_1 h0 hl hacc hT hQ (hF.sub [(13, rv), (14, .agg #[ptr b 0]), (1, ptr g 0), (3, ptr z 0), (0, v0), (2, v2), (4, v4), (5, v5), (6, v6), (7, v7), (8, v8), (9, v9), (10, v10), (19, v19), (20, v20), (21, v21), (22, v22), (23, v23), (24, v24), (25, v25), (26, v26), (27, v27), (28, v28), (29, v29), (30, v30), (31, v31), (32, v32), (33, v33), (34, v34), (35, v35)] ⟨rfl, rfl, rfl, rfl, rfl, rfl, rfl, rfl, rfl, rfl, rfl, rfl, rfl, rfl, rfl, rfl, rfl, rfl, rfl, rfl, rfl, rfl, rfl, rfl, rfl, rfl, rfl, rfl, rfl, rfl, trivial⟩) hE hP
  · refine hdocp (i := 3) (o := ops_ntr4[3]'(show 3 < ops_ntr4.size by rw [size_ntr4]; decide)) (R := fun v w' => ∃ p, nodP rest = some p ∧ v = .agg p.1.cells ∧ InIs w' b p.2 0 ∧ OStep b w w') hF 15 (Array.getElem?_eq_getElem (show 3 < ops_ntr4.size by rw [size_ntr4]; decide)) (by kernel_rfl) (by decide) (want_n (by kernel_rfl)) ⟨89, #[.agg #[ptr b 0]], rrun_call1 (fn := 89) (x := .tmp 14) (t := 111) rfl (by kernel_rfl) (by kernel_rfl) (hF.ev 14 _ rfl), (nnode_any b rest w hl hT.inn).mono (by
      rintro e w' (⟨p, hp, rfl, h1, h2⟩ | ⟨hp, rfl, h2⟩)
      · exact .inl ⟨_, rfl, p, hp, rfl, h1, h2⟩
      · exact .inr ⟨_, rfl, hP _ _ hp hF.df (hT.stp.trans h2)⟩)⟩ ?_
    rintro _ a w1 ⟨⟨n, rest'⟩, hp, rfl, hI1, hs1⟩ hF
    have hT1 := hT.step h0 hs1 hI1
    refine ⟨hT1.hg, ?_⟩
    rw [show (#[true, false, true, false, false, false, false, false]).setIfInBounds 3 true = #[true, false, true, true, false, false, false, false] from by kernel_rfl]
    exact ntr4_a h0 hl hacc hT1 hp hQ (hF.sub [(12, ptr z 1), (15, .agg n.cells), (1, ptr g 0), (3, ptr z 0), (0, v0), (2, v2), (4, v4), (5, v5), (6, v6), (7, v7), (8, v8), (9, v9), (10, v10), (19, v19), (20, v20), (21, v21), (22, v22), (23, v23), (24, v24), (25, v25), (26, v26), (27, v27), (28, v28), (29, v29), (30, v30), (31, v31), (32, v32), (33, v33), (34, v34), (35, v35)] ⟨rfl, rfl, rfl, rfl, rfl, rfl, rfl, rfl, rfl, rfl, rfl, rfl, rfl, rfl, rfl, rfl, rfl, rfl, rfl, rfl, rfl, rfl, rfl, rfl, rfl, rfl, rfl, rfl, rfl, rfl, trivial⟩) hE hP

set_option maxHeartbeats 4000000 in
theorem ntr4_all {w0 : World} {b g r z x : Nat} {rv : Value} {acc : List Nod} {rest l0 : List UInt8} {v0 v2 v4 v5 v6 v7 v8 v9 v10 v19 v20 v21 v22 v23 v24 v25 v26 v27 v28 v29 v30 v31 v32 v33 v34 v35 : Value} {Q : Exit → Act → World → Prop} {a : Act} {w : World} (h0 : InIs w0 b l0 0) (hl : rest.length ≤ 1000000000) (hacc : acc.length ≤ 20000000) (hT : NTs w0 b g r z x rv acc rest w)
    (hQ : ∀ d u c a w, Q (.panic c) (a.put d u) w → Q (.panic c) a w) (hF : FrL 36 [(1, ptr g 0), (3, ptr z 0), (0, v0), (2, v2), (4, v4), (5, v5), (6, v6), (7, v7), (8, v8), (9, v9), (10, v10), (19, v19), (20, v20), (21, v21), (22, v22), (23, v23), (24, v24), (25, v25), (26, v26), (27, v27), (28, v28), (29, v29), (30, v30), (31, v31), (32, v32), (33, v33), (34, v34), (35, v35)] a)
    (hE : ∀ n rest' rv' a w', nodP rest = some (n, rest') → FrL 36 [(1, ptr g 0), (3, ptr z 0), (0, v0), (2, v2), (4, v4), (5, v5), (6, v6), (7, v7), (8, v8), (9, v9), (10, v10), (19, v19), (20, v20), (21, v21), (22, v22), (23, v23), (24, v24), (25, v25), (26, v26), (27, v27), (28, v28), (29, v29), (30, v30), (31, v31), (32, v32), (33, v33), (34, v34), (35, v35)] a → NTs w0 b g r z x rv' (acc ++ [n]) rest' w' → Q .normal a w')
    (hP : ∀ a w', nodP rest = none → a.defers = [] → OStep b w0 w' → Q (.panic (errChain 2)) a w') :
    wpAnyH Tryz.prog .any ops_ntr4 Q (fun w' : World => w'.heap[g]? = some (.cells #[ptr b 0] 111 (0, 0))) 8 (Array.replicate 8 false) a w := by
  have hS : (fun w' : World => w'.heap[g]? = some (.cells #[ptr b 0] 111 (0, 0))) w := hT.hg
  refine hst (i := 0) (o := ops_ntr4[0]'(show 0 < ops_ntr4.size by rw [size_ntr4]; decide)) hF 12 true (ptr z 1) (Array.getElem?_eq_getElem (show 0 < ops_ntr4.size by rw [size_ntr4]; decide)) (by kernel_rfl) (by decide) (by kernel_rfl) (by kernel_rfl) (by kernel_rfl) (hQ _ _) (want_n (by kernel_rfl)) (fun hW w hS => rrun_fld (T := 33) (x := .tmp 3) (f := 1) (by kernel_rfl) (hF.ev 3 (ptr z 0) rfl) (by kernel_rfl)) hS (fun a hF => ?_)
  rw [show cond true (ptr z 1) undef = ptr z 1 from rfl] at hF
  refine hst (i := 2) (o := ops_ntr4[2]'(show 2 < ops_ntr4.size by rw [size_ntr4]; decide)) hF 14 true (.agg #[ptr b 0]) (Array.getElem?_eq_getElem (show 2 < ops_ntr4.size by rw [size_ntr4]; decide)) (by kernel_rfl) (by decide) (by kernel_rfl) (by kernel_rfl) (by kernel_rfl) (hQ _ _) (want_n (by kernel_rfl)) (fun hW w hS => rrun_load (ty := 111) (x := .tmp 1) (by kernel_rfl) (hF.ev 1 (ptr g 0) rfl) (rld_in (block_cell (show w.heap[g]? = _ from hS) 0))) hS (fun a hF => ?_)
  rw [show cond true (.agg #[ptr b 0]) undef = .agg #[ptr b 0] from rfl] at hF
  rw [show ((Array.replicate 8 false).setIfInBounds 0 true).setIfInBounds 2 true = #[true, false, true, false, false, false, false, false] from by kernel_rfl]
  exact ntr4_0 h0 hl hacc hT hQ (hF.sub [(12, ptr z 1), (14, .agg #[ptr b 0]), (1, ptr g 0), (3, ptr z 0), (0, v0), (2, v2), (4, v4), (5, v5), (6, v6), (7, v7), (8, v8), (9, v9), (10, v10), (19, v19), (20, v20), (21, v21), (22, v22), (23, v23), (24, v24), (25, v25), (26, v26), (27, v27), (28, v28), (29, v29), (30, v30), (31, v31), (32, v32), (33, v33), (34, v34), (35, v35)] ⟨rfl, rfl, rfl, rfl, rfl, rfl, rfl, rfl, rfl, rfl, rfl, rfl, rfl, rfl, rfl, rfl, rfl, rfl, rfl, rfl, rfl, rfl, rfl, rfl, rfl, rfl, rfl, rfl, rfl, rfl, trivial⟩) hE hP
end
end Go.Proofs.YtcmajcljafmphaaGreat

namespace Go.Proofs.YtcmajcljafmphaaGreat
section
open Go.RowKit
set_option maxRecDepth 100000
set_option linter.unusedVariables false

def badQ (n : Nod) : Bool := (((((!decide (n.path = 1)) || (!(dirB n))) || (!decide (n.up = 1))) || n.gone) || (!decide (n.name = ⟨#[47]⟩)))
theorem badQ_iff {n : Nod} : badQ n = false ↔ n.path = 1 ∧ dirB n = true ∧ n.up = 1 ∧ n.gone = false ∧ n.name = slashS := by
  unfold badQ slashS
  simp [and_assoc]
structure PChkOk (t : Tr) : Prop where
  root : ∃ r, t.n[0]? = some r ∧ r.path = 1 ∧ dirB r = true ∧ r.up = 1 ∧ r.gone = false ∧ r.name = slashS
  each : ∀ i n, t.n[i]? = some n → PWrOk t.next t.n i n
  few : t.n.length ≤ 64
  byt : bytesL t.n ≤ 16384
  way : ∀ n ∈ t.n, n.gone = false → dirB n = true → (wayL t.n t.n.length n.path).isSome = true
theorem slash_bad : nameN slashS ≠ 0 := by decide
theorem PChkOk.sort {t : Tr} (h : PChkOk t) : SortL t.n := sortL_of fun i p q hp hq => (h.each _ _ hq).prev (by omega) p (by simpa using hp)
theorem namedE_iff {n : Nod} : namedE n = 0 ↔ (n.path ≠ 1 → nameN n.name = 0) ∧ validB n.uid = true ∧ validB n.gid = true ∧ validB n.muid = true := by
  unfold namedE
  by_cases h1 : n.path = 1
  · simp [h1, and_assoc]
  · by_cases h2 : nameN n.name = 0 <;> simp [h1, h2, and_assoc]
theorem pchk_ok {t : Tr} : PChkOk t ↔ OkC t := by
  rw [← chk_ok]
  constructor
  · intro h
    have hs := h.sort
    obtain ⟨r, r0, r1, r2, r3, r4, r5⟩ := h.root
    have hr1 : getL t.n 1 = some r := (getL_iff hs).2 ⟨List.mem_of_getElem? r0, r1⟩
    have low : ∀ i n, t.n[i]? = some n → 1 ≤ n.path ∧ (0 < i → n.path ≠ 1) := fun i n hn => by
      rcases Nat.eq_zero_or_pos i with rfl | h0
      · rw [r0] at hn; cases hn; exact ⟨by omega, fun h => absurd h (by omega)⟩
      · have := sort_at hs r0 hn h0
        exact ⟨by omega, fun _ => by omega⟩
    exact
      { root := ⟨r, r0, r1, r2, r3, r4, r5⟩
        each := fun i n hn =>
          have hw := h.each i n hn
          have hnm := namedE_iff.1 hw.nam
          { prev := hw.prev
            next := hw.next
            zero := by have := (low i n hn).1; omega
            bits := hw.bits
            empt := hw.empt
            nam := fun h0 => hnm.1 ((low i n hn).2 h0)
            ids := hnm.2
            len := hw.len
            gon := hw.up.gon
            par := hw.up.par
            uniq := fun hg k q h1 hk hq hb he => by
              have := List.any_eq_false.1 (hw.up.twin hg) q (List.mem_of_getElem? (i := k) (by rw [List.getElem?_take_of_lt hk]; exact hq))
              unfold twinB at this
              unfold kidB at hb
              simp only [Bool.and_eq_true, decide_eq_true_eq] at hb
              simp [hb.1.1, hb.2, he] at this }
        few := h.few
        byt := h.byt
        way := fun n hn hg => by
          by_cases hd : dirB n = true
          · rw [way_enough hr1]; exact h.way n hn hg hd
          · obtain ⟨i, hi⟩ := List.getElem?_of_mem hn
            obtain ⟨u, hu, u1, u2⟩ := (h.each i n hi).up.par hg
            have hum := (getL_some hu).1
            have hl : Leads t.n u.path := way_leads _ _ (h.way u hum u2 u1)
            rw [(getL_some hu).2] at hl
            exact leads_iff.1 (.up ((getL_iff hs).2 ⟨hn, rfl⟩) hg hl) }
  · intro h
    have hs := h.sort
    obtain ⟨r, r0, r1, r2, r3, r4, r5⟩ := h.root
    have hr1 : getL t.n 1 = some r := (getL_iff hs).2 ⟨List.mem_of_getElem? r0, r1⟩
    exact
      { root := ⟨r, r0, r1, r2, r3, r4, r5⟩
        each := fun i n hn =>
          have hw := h.each i n hn
          { prev := hw.prev
            next := hw.next
            bits := hw.bits
            empt := hw.empt
            nam := namedE_iff.2 ⟨fun h1 => hw.nam (by
              rcases Nat.eq_zero_or_pos i with rfl | h0
              · rw [r0] at hn; cases hn; exact absurd r1 h1
              · exact h0), hw.ids⟩
            len := hw.len
            up := ⟨hw.gon, hw.par, fun hg => by
              rw [List.any_eq_false]
              intro q hq
              obtain ⟨k, hk, rfl⟩ := List.mem_iff_getElem.1 hq
              rw [List.length_take] at hk
              rw [List.getElem_take]
              have hkq : t.n[k]? = some t.n[k] := List.getElem?_eq_getElem (by omega)
              intro ht
              unfold twinB at ht
              simp only [Bool.and_eq_true, Bool.not_eq_true', decide_eq_true_eq] at ht
              rcases Nat.eq_zero_or_pos k with h0 | h0
              · have e0 : t.n[k] = r := by
                  subst h0
                  rw [r0] at hkq; exact (Option.some.inj hkq).symm
                have := hw.nam (by omega)
                rw [← ht.2, e0, r5] at this
                exact slash_bad this
              · refine hw.uniq hg k _ h0 (by omega) hkq ?_ ht.2
                have := sort_at hs r0 hkq h0
                unfold kidB
                simp [ht.1.1, ht.1.2]
                omega⟩ }
        few := h.few
        byt := h.byt
        way := fun n hn hg _ => by rw [← way_enough hr1]; exact h.way n hn hg }
end
end Go.Proofs.YtcmajcljafmphaaGreat
