/- The state of the loop that reads nodes (in.tree of Decode), and the region that reads one and puts it behind. Conditions: in the statements.
in.tree of Decode, walked: a tree is read and checked, or an error is told by a panic. Conditions: at most 47000 bytes.
Decode of package node, walked: any bytes give a tree that may be, or an error. Conditions: at most 47000 bytes. -/
import Derived.Test.YtpmlhmficmillaaGreatBunNod
import Derived.Test.YtpmlhmficmillaaGreatBunND
import Derived.Test.YtpmlhmficmillaaGreatBunNCl
namespace Go.Proofs.YtpmlhmficmillaaGreat
section
open Go.RowKit
set_option maxRecDepth 100000
set_option linter.unusedVariables false

theorem foot_old {w0 w : World} {b : Nat} {l0 : List UInt8} {e : Nat} (h0 : InIs w0 b l0 e) (hs : OStep b w0 w) {k : Nat} (hk : Foot w b k) : k < w0.heap.size := h0.foot_lt ((hs.two h0.two).2 k hk)
theorem in_grown {w w8 : World} {b : Nat} {l : List UInt8} {e : Nat} {ow : Option Nat} (h : InIs w b l e) (hg : w.grownBy w8 ow) (hn : ∀ j, ow = some j → ¬ Foot w b j) : InIs w8 b l e := by
  obtain ⟨v, hb, hl, hne⟩ := h
  refine ⟨v, (hg.block b (lt_of_block hb) (fun e => hn b e.symm (.inl rfl))).trans hb, RowAt.other hl hg.size (fun j hj => hg.block j (hl.lt hj) (fun e => hn j e.symm (.inr ⟨v, block_cell hb 0, hj⟩))), hne⟩
theorem foot_grown {w w8 : World} {b k : Nat} {l : List UInt8} {e : Nat} {ow : Option Nat} (h : InIs w b l e) (hg : w.grownBy w8 ow) (hn : ∀ j, ow = some j → ¬ Foot w b j) (hk : Foot w8 b k) : Foot w b k := by
  have hc0 : w8.cell? ⟨b, 0, none⟩ = w.cell? ⟨b, 0, none⟩ := World.cell?_of_block (w := w) (hg.block b h.lt (fun e => hn b e.symm (.inl rfl)))
  rcases hk with hk | ⟨v, hv, hk⟩
  · exact .inl hk
  · rw [hc0] at hv; exact .inr ⟨v, hv, hk⟩
theorem ostep_grown {w0 w w8 : World} {b : Nat} {l0 l : List UInt8} {e0 e : Nat} {ow : Option Nat} (h0 : InIs w0 b l0 e0) (h : InIs w b l e) (hs : OStep b w0 w) (hg : w.grownBy w8 ow) (hlo : ∀ j, ow = some j → w0.heap.size ≤ j) : OStep b w0 w8 := by
  have hn : ∀ j, ow = some j → ¬ Foot w b j := fun j hj hf => by have := foot_old h0 hs hf; have := hlo j hj; omega
  have hb0 := h0.lt
  refine ⟨hs.below.grown hg (by have := hs.below.size; omega) (fun j hj => by have := hlo j hj; omega), fun k hk hf => ?_, fun ht => ?_⟩
  · obtain ⟨e1, n1⟩ := hs.block k hk hf
    exact ⟨(hg.block k (Nat.lt_of_lt_of_le hk hs.below.size) (fun e => by have := hlo k e.symm; omega)).trans e1, fun hf8 => n1 (foot_grown h hg hn hf8)⟩
  · obtain ⟨⟨cs', t, fr, hc, hs2⟩, f1⟩ := hs.two ht
    exact ⟨⟨cs', t, fr, (hg.block b h.lt (fun e => hn b e.symm (.inl rfl))).trans hc, hs2⟩, fun k hk => f1 k (foot_grown h hg hn hk)⟩
structure NTs (w0 : World) (b g r z x : Nat) (rv : Value) (acc : List Nod) (rest : List UInt8) (w : World) : Prop where
  inn : InIs w b rest 0
  stp : OStep b w0 w
  hg : w.heap[g]? = some (.cells #[ptr b 0] 75 (0, 0))
  hr : w.heap[r]? = some (.cells #[.int .u64 0, .slice none 0 0] 25 (0, 0))
  hz : w.heap[z]? = some (.cells #[.int .u64 (x : Int), rv] 25 (0, 0))
  own : w.ownsRow (z + 1) 28 12 rv acc.length (nodsL acc)
  lo : w0.heap.size ≤ g ∧ g < r ∧ r < z
theorem NTs.step {w0 w w' : World} {b g r z x : Nat} {rv : Value} {acc : List Nod} {rest rest' l0 : List UInt8} (h0 : InIs w0 b l0 0) (h : NTs w0 b g r z x rv acc rest w) (hs : OStep b w w') (hi : InIs w' b rest' 0) : NTs w0 b g r z x rv acc rest' w' := by
  have hk : ∀ k, w0.heap.size ≤ k → k < w.heap.size → w'.heap[k]? = w.heap[k]? := fun k h1 h2 => (hs.block k h2 (fun hf => by have := foot_old h0 h.stp hf; omega)).1
  have l1 := lt_of_block h.hg
  have l2 := lt_of_block h.hr
  have l3 := lt_of_block h.hz
  have hlo := h.lo
  exact ⟨hi, h.stp.trans hs, (hk g hlo.1 l1).trans h.hg, (hk r (by omega) l2).trans h.hr, (hk z (by omega) l3).trans h.hz, own_keep h.own (fun j hj => by
    have := h.own.lt j hj
    exact hk j (by omega) this.2), hlo⟩
theorem NTs.below {w0 w w' : World} {b g r z x : Nat} {rv : Value} {acc : List Nod} {rest l0 : List UInt8} (h0 : InIs w0 b l0 0) (h : NTs w0 b g r z x rv acc rest w) (hb : Below w.heap.size w w') : NTs w0 b g r z x rv acc rest w' :=
  h.step h0 (OStep.pure h.inn.lt hb) (h.inn.below hb)
theorem NTs.put {w0 w w8 : World} {b g r z x n' : Nat} {rv rv' : Value} {acc acc' : List Nod} {rest l0 : List UInt8} (h0 : InIs w0 b l0 0) (h : NTs w0 b g r z x rv acc rest w) (hg : w.grownBy w8 rv.ownBlock) (ho : w8.ownsRow (z + 1) 28 12 rv' n' (nodsL acc')) (hn : n' = acc'.length) : NTs w0 b g r z x rv' acc' rest (w8.setCell ⟨z, 1, none⟩ rv') := by
  subst hn
  have hlo := h.lo
  have hj : ∀ j, rv.ownBlock = some j → z + 1 ≤ j := fun j hj => (h.own.lt j hj).1
  have hn : ∀ j, rv.ownBlock = some j → ¬ Foot w b j := fun j h1 hf => by have := foot_old h0 h.stp hf; have := hj j h1; omega
  have hI8 := in_grown h.inn hg hn
  have hs8 := ostep_grown h0 h.inn h.stp hg (fun j h1 => by have := hj j h1; omega)
  have hzf : ¬ Foot w8 b z := fun hf => by have := foot_old h0 hs8 hf; omega
  have hk : ∀ k, k ≤ z → k < w.heap.size → w8.heap[k]? = w.heap[k]? := fun k h1 h2 => hg.block k h2 (fun e => by have := hj k e.symm; omega)
  have l1 := lt_of_block h.hg
  have l2 := lt_of_block h.hr
  have l3 := lt_of_block h.hz
  have hz8 := (hk z (Nat.le_refl _) l3).trans h.hz
  refine ⟨hI8.store (p := ⟨z, 1, none⟩) _ hzf, hs8.store (p := ⟨z, 1, none⟩) (by show _ ≤ z; omega) hzf h0.lt _, (block_set_other (by show g ≠ z; omega)).trans ((hk g (by omega) l1).trans h.hg), (block_set_other (by show r ≠ z; omega)).trans ((hk r (by omega) l2).trans h.hr), block_set hz8 1 _, own_keep ho (fun j hj2 => block_set_other (by show j ≠ z; have := (ho.lt j hj2).1; omega)), hlo⟩
section
variable {o : Oper} {ev : Operand → Value} {w : World} {x y : Operand}
theorem rrun_nbuild1 {n : Nod} (ho : o.op = .buildSlice 23 1 #[(0, x)]) (hx : ev x = .agg n.cells) : (execOp ev o).run Tryz.prog w = .ok (.value (.slice (some ⟨w.heap.size, 0, none⟩) 1 1)) (w.alloc (.cells n.cells 28)) := by
  rw [nod_cells] at *
  simp [execOp, ho, hx, go_sem]
theorem rld_nn {p : Addr} {v : Value} {w : World} (h : w.cell? p = some v) : (loadVar 23 p).run Tryz.prog w = .ok v w := by simp [go_sem, h]
theorem rrun_storer {g i : Nat} {u : Value} {a : Option Addr} {n c : Nat} (ho : o.op = .store 23 x y) (hx : ev x = ptr g i) (hy : ev y = .slice a n c) (hc : w.cell? ⟨g, i, none⟩ = some u) (hf : w.frozen? ⟨g, i, none⟩ = false) : (execOp ev o).run Tryz.prog w = .ok .skip (w.setCell ⟨g, i, none⟩ (.slice a n c)) := by
  have hx' : ev x = .pointer (some ⟨g, i, none⟩) := hx
  simp [execOp, ho, hx', hy, hc, hf, go_sem]
end

noncomputable def ops_ntr4 : Array Oper := match Tryz.f40.body with | some c => (allOps' c).getD 4 #[] | none => #[]
theorem size_ntr4 : ops_ntr4.size = 8 := by kernel_rfl
set_option maxHeartbeats 4000000 in
theorem ntr4_d {w0 : World} {b g r z x : Nat} {rv : Value} {acc : List Nod} {rest l0 : List UInt8} {n : Nod} {rest' : List UInt8} {e : Nat} {v0 v2 v4 v5 v6 v7 v8 v9 v10 v19 v20 v21 v22 v23 v24 v25 v26 v27 v28 v29 v30 v31 v32 v33 v34 v35 : Value} {Q : Exit → Act → World → Prop} {a : Act} {w : World} (h0 : InIs w0 b l0 0) (hl : rest.length ≤ 1000000000) (hacc : acc.length ≤ 20000000) (hT : NTs w0 b g r z x rv acc rest' w) (hp : nodP rest = some (n, rest')) (hn : w.heap[e]? = some (.cells n.cells 28 (0, 0)))
    (hQ : ∀ d u c a w, Q (.panic c) (a.put d u) w → Q (.panic c) a w) (hF : FrL 36 [(13, rv), (16, .slice (some ⟨e, 0, none⟩) 1 1), (1, ptr g 0), (3, ptr z 0), (0, v0), (2, v2), (4, v4), (5, v5), (6, v6), (7, v7), (8, v8), (9, v9), (10, v10), (19, v19), (20, v20), (21, v21), (22, v22), (23, v23), (24, v24), (25, v25), (26, v26), (27, v27), (28, v28), (29, v29), (30, v30), (31, v31), (32, v32), (33, v33), (34, v34), (35, v35)] a)
    (hE : ∀ n rest' rv' a w', nodP rest = some (n, rest') → FrL 36 [(1, ptr g 0), (3, ptr z 0), (0, v0), (2, v2), (4, v4), (5, v5), (6, v6), (7, v7), (8, v8), (9, v9), (10, v10), (19, v19), (20, v20), (21, v21), (22, v22), (23, v23), (24, v24), (25, v25), (26, v26), (27, v27), (28, v28), (29, v29), (30, v30), (31, v31), (32, v32), (33, v33), (34, v34), (35, v35)] a → NTs w0 b g r z x rv' (acc ++ [n]) rest' w' → Q .normal a w')
    (hP : ∀ a w', nodP rest = none → a.defers = [] → OStep b w0 w' → Q (.panic (errChain 2)) a w') :
    wpAnyH Tryz.prog .any ops_ntr4 Q (fun w' : World => w'.heap[g]? = some (.cells #[ptr b 0] 75 (0, 0))) 3 #[true, true, true, true, true, false, false, false] a w := by
  refine wpAnyH_all (rs := [5]) (by kernel_rfl) (by simp) fun j hj => ?_
  obtain rfl : j = 5 := by simpa using hj
  have hnn : NodsAt w (.slice (some ⟨e, 0, none⟩) 1 1) [n] := NodsAt.block (l := [n]) (t := 28) (fr := (0, 0)) (by rw [show (nodsL [n]).toArray = n.cells by simp [nodsL]]; exact hn) (by unfold maxLen; simp)
  obtain ⟨i, zv, hi, hz, hsize, hby, hzs⟩ := elemN.hi
  obtain ⟨a8, c8, w8, hr8, ho8, hg8⟩ := run_append_weak (P := Tryz.prog) w (z + 1) 23 23 28 i zv 12 120 elemN.ht hi hz hsize hby hzs (by omega) rv acc.length _ hT.own _ 1 _ hnn (nodsL_one _) (by unfold maxLen; omega) (by omega) (lt_of_block hT.hz)
  rw [← nodsL_append] at ho8
  refine hdo (i := 5) (o := ops_ntr4[5]'(show 5 < ops_ntr4.size by rw [size_ntr4]; decide)) hF 17 (.slice a8 (acc.length + 1) c8) w8 (Array.getElem?_eq_getElem (show 5 < ops_ntr4.size by rw [size_ntr4]; decide)) (by kernel_rfl) (by decide) (want_n (by kernel_rfl)) (rrun_append (t := 23) (x := .tmp 13) (y := .tmp 16) (by kernel_rfl) (hF.ev 13 _ rfl) (hF.ev 16 _ rfl) hr8) (fun a hF => ?_)
  have hlo := hT.lo
  have hz8 : w8.heap[z]? = some (.cells #[.int .u64 (x : Int), rv] 25 (0, 0)) := (hg8.block z (lt_of_block hT.hz) (fun e => by have := (hT.own.lt z e.symm).1; omega)).trans hT.hz
  have hg9 : w8.heap[g]? = some (.cells #[ptr b 0] 75 (0, 0)) := (hg8.block g (lt_of_block hT.hg) (fun e => by have := (hT.own.lt g e.symm).1; omega)).trans hT.hg
  refine ⟨hg9, ?_⟩
  have hT9 := hT.put h0 hg8 ho8 (by simp)
  refine hst (i := 6) (o := ops_ntr4[6]'(show 6 < ops_ntr4.size by rw [size_ntr4]; decide)) hF 18 true (ptr z 1) (Array.getElem?_eq_getElem (show 6 < ops_ntr4.size by rw [size_ntr4]; decide)) (by kernel_rfl) (by decide) (by kernel_rfl) (by kernel_rfl) (by kernel_rfl) (hQ _ _) (want_n (by kernel_rfl)) (fun hW w hS => rrun_fld (T := 25) (x := .tmp 3) (f := 1) (by kernel_rfl) (hF.ev 3 (ptr z 0) rfl) (by kernel_rfl)) hg9 (fun a hF => ?_)
  rw [show cond true (ptr z 1) undef = ptr z 1 from rfl] at hF
  refine wpAnyH_all (rs := [7]) (by kernel_rfl) (by simp) fun j hj => ?_
  obtain rfl : j = 7 := by simpa using hj
  refine hdo0 (o := ops_ntr4[7]'(show 7 < ops_ntr4.size by rw [size_ntr4]; decide)) (w8.setCell ⟨z, 1, none⟩ (.slice a8 (acc.length + 1) c8)) (Array.getElem?_eq_getElem (show 7 < ops_ntr4.size by rw [size_ntr4]; decide)) (by kernel_rfl) (want_n (by kernel_rfl)) (rrun_storer (x := .tmp 18) (y := .tmp 17) (by kernel_rfl) (hF.ev 18 _ rfl) (hF.ev 17 _ rfl) (block_cell hz8 1) (block_free hz8 1)) ?_
  refine ⟨hT9.hg, ?_⟩
  exact wpAnyH_done (by kernel_rfl) (hE n rest' _ _ _ hp (hF.sub [(1, ptr g 0), (3, ptr z 0), (0, v0), (2, v2), (4, v4), (5, v5), (6, v6), (7, v7), (8, v8), (9, v9), (10, v10), (19, v19), (20, v20), (21, v21), (22, v22), (23, v23), (24, v24), (25, v25), (26, v26), (27, v27), (28, v28), (29, v29), (30, v30), (31, v31), (32, v32), (33, v33), (34, v34), (35, v35)] ⟨rfl, rfl, rfl, rfl, rfl, rfl, rfl, rfl, rfl, rfl, rfl, rfl, rfl, rfl, rfl, rfl, rfl, rfl, rfl, rfl, rfl, rfl, rfl, rfl, rfl, rfl, rfl, rfl,  trivial⟩) hT9) _

set_option maxHeartbeats 4000000 in
theorem ntr4_c {w0 : World} {b g r z x : Nat} {rv : Value} {acc : List Nod} {rest l0 : List UInt8} {n : Nod} {rest' : List UInt8} {v0 v2 v4 v5 v6 v7 v8 v9 v10 v19 v20 v21 v22 v23 v24 v25 v26 v27 v28 v29 v30 v31 v32 v33 v34 v35 : Value} {Q : Exit → Act → World → Prop} {a : Act} {w : World} (h0 : InIs w0 b l0 0) (hl : rest.length ≤ 1000000000) (hacc : acc.length ≤ 20000000) (hT : NTs w0 b g r z x rv acc rest' w) (hp : nodP rest = some (n, rest'))
    (hQ : ∀ d u c a w, Q (.panic c) (a.put d u) w → Q (.panic c) a w) (hF : FrL 36 [(13, rv), (15, .agg n.cells), (1, ptr g 0), (3, ptr z 0), (0, v0), (2, v2), (4, v4), (5, v5), (6, v6), (7, v7), (8, v8), (9, v9), (10, v10), (19, v19), (20, v20), (21, v21), (22, v22), (23, v23), (24, v24), (25, v25), (26, v26), (27, v27), (28, v28), (29, v29), (30, v30), (31, v31), (32, v32), (33, v33), (34, v34), (35, v35)] a)
    (hE : ∀ n rest' rv' a w', nodP rest = some (n, rest') → FrL 36 [(1, ptr g 0), (3, ptr z 0), (0, v0), (2, v2), (4, v4), (5, v5), (6, v6), (7, v7), (8, v8), (9, v9), (10, v10), (19, v19), (20, v20), (21, v21), (22, v22), (23, v23), (24, v24), (25, v25), (26, v26), (27, v27), (28, v28), (29, v29), (30, v30), (31, v31), (32, v32), (33, v33), (34, v34), (35, v35)] a → NTs w0 b g r z x rv' (acc ++ [n]) rest' w' → Q .normal a w')
    (hP : ∀ a w', nodP rest = none → a.defers = [] → OStep b w0 w' → Q (.panic (errChain 2)) a w') :
    wpAnyH Tryz.prog .any ops_ntr4 Q (fun w' : World => w'.heap[g]? = some (.cells #[ptr b 0] 75 (0, 0))) 4 #[true, true, true, true, false, false, false, false] a w := by
  refine wpAnyH_all (rs := [4]) (by kernel_rfl) (by simp) fun j hj => ?_
  obtain rfl : j = 4 := by simpa using hj
  refine hdo (i := 4) (o := ops_ntr4[4]'(show 4 < ops_ntr4.size by rw [size_ntr4]; decide)) hF 16 (.slice (some ⟨w.heap.size, 0, none⟩) 1 1) (w.alloc (.cells n.cells 28)) (Array.getElem?_eq_getElem (show 4 < ops_ntr4.size by rw [size_ntr4]; decide)) (by kernel_rfl) (by decide) (want_n (by kernel_rfl)) (rrun_nbuild1 (x := .tmp 15) (by kernel_rfl) (hF.ev 15 _ rfl)) (fun a hF => ?_)
  have hT2 := hT.below h0 ((Below.refl _ _).alloc (Nat.le_refl _) (.cells n.cells 28))
  have hn2 := heap_alloc_new w (.cells n.cells 28)
  refine ⟨hT2.hg, ?_⟩
  rw [show (#[true, true, true, true, false, false, false, false]).setIfInBounds 4 true = #[true, true, true, true, true, false, false, false] from by kernel_rfl]
  exact ntr4_d h0 hl hacc hT2 hp hn2 hQ (hF.sub [(13, rv), (16, .slice (some ⟨w.heap.size, 0, none⟩) 1 1), (1, ptr g 0), (3, ptr z 0), (0, v0), (2, v2), (4, v4), (5, v5), (6, v6), (7, v7), (8, v8), (9, v9), (10, v10), (19, v19), (20, v20), (21, v21), (22, v22), (23, v23), (24, v24), (25, v25), (26, v26), (27, v27), (28, v28), (29, v29), (30, v30), (31, v31), (32, v32), (33, v33), (34, v34), (35, v35)] ⟨rfl, rfl, rfl, rfl, rfl, rfl, rfl, rfl, rfl, rfl, rfl, rfl, rfl, rfl, rfl, rfl, rfl, rfl, rfl, rfl, rfl, rfl, rfl, rfl, rfl, rfl, rfl, rfl, rfl, rfl, trivial⟩) hE hP

set_option maxHeartbeats 4000000 in
theorem ntr4_b {w0 : World} {b g r z x : Nat} {rv : Value} {acc : List Nod} {rest l0 : List UInt8} {n : Nod} {rest' : List UInt8} {e : Nat} {v0 v2 v4 v5 v6 v7 v8 v9 v10 v19 v20 v21 v22 v23 v24 v25 v26 v27 v28 v29 v30 v31 v32 v33 v34 v35 : Value} {Q : Exit → Act → World → Prop} {a : Act} {w : World} (h0 : InIs w0 b l0 0) (hl : rest.length ≤ 1000000000) (hacc : acc.length ≤ 20000000) (hT : NTs w0 b g r z x rv acc rest' w) (hp : nodP rest = some (n, rest')) (hn : w.heap[e]? = some (.cells n.cells 28 (0, 0)))
    (hQ : ∀ d u c a w, Q (.panic c) (a.put d u) w → Q (.panic c) a w) (hF : FrL 36 [(12, ptr z 1), (16, .slice (some ⟨e, 0, none⟩) 1 1), (1, ptr g 0), (3, ptr z 0), (0, v0), (2, v2), (4, v4), (5, v5), (6, v6), (7, v7), (8, v8), (9, v9), (10, v10), (19, v19), (20, v20), (21, v21), (22, v22), (23, v23), (24, v24), (25, v25), (26, v26), (27, v27), (28, v28), (29, v29), (30, v30), (31, v31), (32, v32), (33, v33), (34, v34), (35, v35)] a)
    (hE : ∀ n rest' rv' a w', nodP rest = some (n, rest') → FrL 36 [(1, ptr g 0), (3, ptr z 0), (0, v0), (2, v2), (4, v4), (5, v5), (6, v6), (7, v7), (8, v8), (9, v9), (10, v10), (19, v19), (20, v20), (21, v21), (22, v22), (23, v23), (24, v24), (25, v25), (26, v26), (27, v27), (28, v28), (29, v29), (30, v30), (31, v31), (32, v32), (33, v33), (34, v34), (35, v35)] a → NTs w0 b g r z x rv' (acc ++ [n]) rest' w' → Q .normal a w')
    (hP : ∀ a w', nodP rest = none → a.defers = [] → OStep b w0 w' → Q (.panic (errChain 2)) a w') :
    wpAnyH Tryz.prog .any ops_ntr4 Q (fun w' : World => w'.heap[g]? = some (.cells #[ptr b 0] 75 (0, 0))) 4 #[true, false, true, true, true, false, false, false] a w := by
  refine wpAnyH_all (rs := [1]) (by kernel_rfl) (by simp) fun j hj => ?_
  obtain rfl : j = 1 := by simpa using hj
  refine hdo (i := 1) (o := ops_ntr4[1]'(show 1 < ops_ntr4.size by rw [size_ntr4]; decide)) hF 13 rv w (Array.getElem?_eq_getElem (show 1 < ops_ntr4.size by rw [size_ntr4]; decide)) (by kernel_rfl) (by decide) (want_n (by kernel_rfl)) (rrun_load (ty := 23) (x := .tmp 12) (by kernel_rfl) (hF.ev 12 _ rfl) (rld_nn (block_cell hT.hz 1))) (fun a hF => ?_)
  refine ⟨hT.hg, ?_⟩
  rw [show (#[true, false, true, true, true, false, false, false]).setIfInBounds 1 true = #[true, true, true, true, true, false, false, false] from by kernel_rfl]
  exact ntr4_d h0 hl hacc hT hp hn hQ (hF.sub [(13, rv), (16, .slice (some ⟨e, 0, none⟩) 1 1), (1, ptr g 0), (3, ptr z 0), (0, v0), (2, v2), (4, v4), (5, v5), (6, v6), (7, v7), (8, v8), (9, v9), (10, v10), (19, v19), (20, v20), (21, v21), (22, v22), (23, v23), (24, v24), (25, v25), (26, v26), (27, v27), (28, v28), (29, v29), (30, v30), (31, v31), (32, v32), (33, v33), (34, v34), (35, v35)] ⟨rfl, rfl, rfl, rfl, rfl, rfl, rfl, rfl, rfl, rfl, rfl, rfl, rfl, rfl, rfl, rfl, rfl, rfl, rfl, rfl, rfl, rfl, rfl, rfl, rfl, rfl, rfl, rfl, rfl, rfl, trivial⟩) hE hP

set_option maxHeartbeats 4000000 in
theorem ntr4_a {w0 : World} {b g r z x : Nat} {rv : Value} {acc : List Nod} {rest l0 : List UInt8} {n : Nod} {rest' : List UInt8} {v0 v2 v4 v5 v6 v7 v8 v9 v10 v19 v20 v21 v22 v23 v24 v25 v26 v27 v28 v29 v30 v31 v32 v33 v34 v35 : Value} {Q : Exit → Act → World → Prop} {a : Act} {w : World} (h0 : InIs w0 b l0 0) (hl : rest.length ≤ 1000000000) (hacc : acc.length ≤ 20000000) (hT : NTs w0 b g r z x rv acc rest' w) (hp : nodP rest = some (n, rest'))
    (hQ : ∀ d u c a w, Q (.panic c) (a.put d u) w → Q (.panic c) a w) (hF : FrL 36 [(12, ptr z 1), (15, .agg n.cells), (1, ptr g 0), (3, ptr z 0), (0, v0), (2, v2), (4, v4), (5, v5), (6, v6), (7, v7), (8, v8), (9, v9), (10, v10), (19, v19), (20, v20), (21, v21), (22, v22), (23, v23), (24, v24), (25, v25), (26, v26), (27, v27), (28, v28), (29, v29), (30, v30), (31, v31), (32, v32), (33, v33), (34, v34), (35, v35)] a)
    (hE : ∀ n rest' rv' a w', nodP rest = some (n, rest') → FrL 36 [(1, ptr g 0), (3, ptr z 0), (0, v0), (2, v2), (4, v4), (5, v5), (6, v6), (7, v7), (8, v8), (9, v9), (10, v10), (19, v19), (20, v20), (21, v21), (22, v22), (23, v23), (24, v24), (25, v25), (26, v26), (27, v27), (28, v28), (29, v29), (30, v30), (31, v31), (32, v32), (33, v33), (34, v34), (35, v35)] a → NTs w0 b g r z x rv' (acc ++ [n]) rest' w' → Q .normal a w')
    (hP : ∀ a w', nodP rest = none → a.defers = [] → OStep b w0 w' → Q (.panic (errChain 2)) a w') :
    wpAnyH Tryz.prog .any ops_ntr4 Q (fun w' : World => w'.heap[g]? = some (.cells #[ptr b 0] 75 (0, 0))) 5 #[true, false, true, true, false, false, false, false] a w := by
  refine wpAnyH_all (rs := [1, 4]) (by kernel_rfl) (by simp) fun j hj => ?_
  have hj2 : j = 1 ∨ j = 4 := by simpa using hj
  rcases hj2 with rfl | rfl
  · refine hdo (i := 1) (o := ops_ntr4[1]'(show 1 < ops_ntr4.size by rw [size_ntr4]; decide)) hF 13 rv w (Array.getElem?_eq_getElem (show 1 < ops_ntr4.size by rw [size_ntr4]; decide)) (by kernel_rfl) (by decide) (want_n (by kernel_rfl)) (rrun_load (ty := 23) (x := .tmp 12) (by kernel_rfl) (hF.ev 12 _ rfl) (rld_nn (block_cell hT.hz 1))) (fun a hF => ?_)
    refine ⟨hT.hg, ?_⟩
    rw [show (#[true, false, true, true, false, false, false, false]).setIfInBounds 1 true = #[true, true, true, true, false, false, false, false] from by kernel_rfl]
    exact ntr4_c h0 hl hacc hT hp hQ (hF.sub [(13, rv), (15, .agg n.cells), (1, ptr g 0), (3, ptr z 0), (0, v0), (2, v2), (4, v4), (5, v5), (6, v6), (7, v7), (8, v8), (9, v9), (10, v10), (19, v19), (20, v20), (21, v21), (22, v22), (23, v23), (24, v24), (25, v25), (26, v26), (27, v27), (28, v28), (29, v29), (30, v30), (31, v31), (32, v32), (33, v33), (34, v34), (35, v35)] ⟨rfl, rfl, rfl, rfl, rfl, rfl, rfl, rfl, rfl, rfl, rfl, rfl, rfl, rfl, rfl, rfl, rfl, rfl, rfl, rfl, rfl, rfl, rfl, rfl, rfl, rfl, rfl, rfl, rfl, rfl, trivial⟩) hE hP
  · refine hdo (i := 4) (o := ops_ntr4[4]'(show 4 < ops_ntr4.size by rw [size_ntr4]; decide)) hF 16 (.slice (some ⟨w.heap.size, 0, none⟩) 1 1) (w.alloc (.cells n.cells 28)) (Array.getElem?_eq_getElem (show 4 < ops_ntr4.size by rw [size_ntr4]; decide)) (by kernel_rfl) (by decide) (want_n (by kernel_rfl)) (rrun_nbuild1 (x := .tmp 15) (by kernel_rfl) (hF.ev 15 _ rfl)) (fun a hF => ?_)
    have hT2 := hT.below h0 ((Below.refl _ _).alloc (Nat.le_refl _) (.cells n.cells 28))
    have hn2 := heap_alloc_new w (.cells n.cells 28)
    refine ⟨hT2.hg, ?_⟩
    rw [show (#[true, false, true, true, false, false, false, false]).setIfInBounds 4 true = #[true, false, true, true, true, false, false, false] from by kernel_rfl]
    exact ntr4_b h0 hl hacc hT2 hp hn2 hQ (hF.sub [(12, ptr z 1), (16, .slice (some ⟨w.heap.size, 0, none⟩) 1 1), (1, ptr g 0), (3, ptr z 0), (0, v0), (2, v2), (4, v4), (5, v5), (6, v6), (7, v7), (8, v8), (9, v9), (10, v10), (19, v19), (20, v20), (21, v21), (22, v22), (23, v23), (24, v24), (25, v25), (26, v26), (27, v27), (28, v28), (29, v29), (30, v30), (31, v31), (32, v32), (33, v33), (34, v34), (35, v35)] ⟨rfl, rfl, rfl, rfl, rfl, rfl, rfl, rfl, rfl, rfl, rfl, rfl, rfl, rfl, rfl, rfl, rfl, rfl, rfl, rfl, rfl, rfl, rfl, rfl, rfl, rfl, rfl, rfl, rfl, rfl, trivial⟩) hE hP

set_option maxHeartbeats 4000000 in
theorem ntr4_1 {w0 : World} {b g r z x : Nat} {rv : Value} {acc : List Nod} {rest l0 : List UInt8} {v0 v2 v4 v5 v6 v7 v8 v9 v10 v19 v20 v21 v22 v23 v24 v25 v26 v27 v28 v29 v30 v31 v32 v33 v34 v35 : Value} {Q : Exit → Act → World → Prop} {a : Act} {w : World} (h0 : InIs w0 b l0 0) (hl : rest.length ≤ 1000000000) (hacc : acc.length ≤ 20000000) (hT : NTs w0 b g r z x rv acc rest w)
    (hQ : ∀ d u c a w, Q (.panic c) (a.put d u) w → Q (.panic c) a w) (hF : FrL 36 [(13, rv), (14, .agg #[ptr b 0]), (1, ptr g 0), (3, ptr z 0), (0, v0), (2, v2), (4, v4), (5, v5), (6, v6), (7, v7), (8, v8), (9, v9), (10, v10), (19, v19), (20, v20), (21, v21), (22, v22), (23, v23), (24, v24), (25, v25), (26, v26), (27, v27), (28, v28), (29, v29), (30, v30), (31, v31), (32, v32), (33, v33), (34, v34), (35, v35)] a)
    (hE : ∀ n rest' rv' a w', nodP rest = some (n, rest') → FrL 36 [(1, ptr g 0), (3, ptr z 0), (0, v0), (2, v2), (4, v4), (5, v5), (6, v6), (7, v7), (8, v8), (9, v9), (10, v10), (19, v19), (20, v20), (21, v21), (22, v22), (23, v23), (24, v24), (25, v25), (26, v26), (27, v27), (28, v28), (29, v29), (30, v30), (31, v31), (32, v32), (33, v33), (34, v34), (35, v35)] a → NTs w0 b g r z x rv' (acc ++ [n]) rest' w' → Q .normal a w')
    (hP : ∀ a w', nodP rest = none → a.defers = [] → OStep b w0 w' → Q (.panic (errChain 2)) a w') :
    wpAnyH Tryz.prog .any ops_ntr4 Q (fun w' : World => w'.heap[g]? = some (.cells #[ptr b 0] 75 (0, 0))) 5 #[true, true, true, false, false, false, false, false] a w := by
  refine wpAnyH_all (rs := [3]) (by kernel_rfl) (by simp) fun j hj => ?_
  obtain rfl : j = 3 := by simpa using hj
  refine hdocp (i := 3) (o := ops_ntr4[3]'(show 3 < ops_ntr4.size by rw [size_ntr4]; decide)) (R := fun v w' => ∃ p, nodP rest = some p ∧ v = .agg p.1.cells ∧ InIs w' b p.2 0 ∧ OStep b w w') hF 15 (Array.getElem?_eq_getElem (show 3 < ops_ntr4.size by rw [size_ntr4]; decide)) (by kernel_rfl) (by decide) (want_n (by kernel_rfl)) ⟨63, #[.agg #[ptr b 0]], rrun_call1 (fn := 63) (x := .tmp 14) (t := 75) rfl (by kernel_rfl) (by kernel_rfl) (hF.ev 14 _ rfl), (nnode_any b rest w hl hT.inn).mono (by
    rintro e w' (⟨p, hp, rfl, h1, h2⟩ | ⟨hp, rfl, h2⟩)
    · exact .inl ⟨_, rfl, p, hp, rfl, h1, h2⟩
    · exact .inr ⟨_, rfl, hP _ _ hp hF.df (hT.stp.trans h2)⟩)⟩ ?_
  rintro _ a w1 ⟨⟨n, rest'⟩, hp, rfl, hI1, hs1⟩ hF
  have hT1 := hT.step h0 hs1 hI1
  refine ⟨hT1.hg, ?_⟩
  rw [show (#[true, true, true, false, false, false, false, false]).setIfInBounds 3 true = #[true, true, true, true, false, false, false, false] from by kernel_rfl]
  exact ntr4_c h0 hl hacc hT1 hp hQ (hF.sub [(13, rv), (15, .agg n.cells), (1, ptr g 0), (3, ptr z 0), (0, v0), (2, v2), (4, v4), (5, v5), (6, v6), (7, v7), (8, v8), (9, v9), (10, v10), (19, v19), (20, v20), (21, v21), (22, v22), (23, v23), (24, v24), (25, v25), (26, v26), (27, v27), (28, v28), (29, v29), (30, v30), (31, v31), (32, v32), (33, v33), (34, v34), (35, v35)] ⟨rfl, rfl, rfl, rfl, rfl, rfl, rfl, rfl, rfl, rfl, rfl, rfl, rfl, rfl, rfl, rfl, rfl, rfl, rfl, rfl, rfl, rfl, rfl, rfl, rfl, rfl, rfl, rfl, rfl, rfl, trivial⟩) hE hP

set_option maxHeartbeats 4000000 in
theorem ntr4_0 {w0 : World} {b g r z x : Nat} {rv : Value} {acc : List Nod} {rest l0 : List UInt8} {v0 v2 v4 v5 v6 v7 v8 v9 v10 v19 v20 v21 v22 v23 v24 v25 v26 v27 v28 v29 v30 v31 v32 v33 v34 v35 : Value} {Q : Exit → Act → World → Prop} {a : Act} {w : World} (h0 : InIs w0 b l0 0) (hl : rest.length ≤ 1000000000) (hacc : acc.length ≤ 20000000) (hT : NTs w0 b g r z x rv acc rest w)
    (hQ : ∀ d u c a w, Q (.panic c) (a.put d u) w → Q (.panic c) a w) (hF : FrL 36 [(12, ptr z 1), (14, .agg #[ptr b 0]), (1, ptr g 0), (3, ptr z 0), (0, v0), (2, v2), (4, v4), (5, v5), (6, v6), (7, v7), (8, v8), (9, v9), (10, v10), (19, v19), (20, v20), (21, v21), (22, v22), (23, v23), (24, v24), (25, v25), (26, v26), (27, v27), (28, v28), (29, v29), (30, v30), (31, v31), (32, v32), (33, v33), (34, v34), (35, v35)] a)
    (hE : ∀ n rest' rv' a w', nodP rest = some (n, rest') → FrL 36 [(1, ptr g 0), (3, ptr z 0), (0, v0), (2, v2), (4, v4), (5, v5), (6, v6), (7, v7), (8, v8), (9, v9), (10, v10), (19, v19), (20, v20), (21, v21), (22, v22), (23, v23), (24, v24), (25, v25), (26, v26), (27, v27), (28, v28), (29, v29), (30, v30), (31, v31), (32, v32), (33, v33), (34, v34), (35, v35)] a → NTs w0 b g r z x rv' (acc ++ [n]) rest' w' → Q .normal a w')
    (hP : ∀ a w', nodP rest = none → a.defers = [] → OStep b w0 w' → Q (.panic (errChain 2)) a w') :
    wpAnyH Tryz.prog .any ops_ntr4 Q (fun w' : World => w'.heap[g]? = some (.cells #[ptr b 0] 75 (0, 0))) 6 #[true, false, true, false, false, false, false, false] a w := by
  refine wpAnyH_all (rs := [1, 3]) (by kernel_rfl) (by simp) fun j hj => ?_
  have hj2 : j = 1 ∨ j = 3 := by simpa using hj
  rcases hj2 with rfl | rfl
  · refine hdo (i := 1) (o := ops_ntr4[1]'(show 1 < ops_ntr4.size by rw [size_ntr4]; decide)) hF 13 rv w (Array.getElem?_eq_getElem (show 1 < ops_ntr4.size by rw [size_ntr4]; decide)) (by kernel_rfl) (by decide) (want_n (by kernel_rfl)) (rrun_load (ty := 23) (x := .tmp 12) (by kernel_rfl) (hF.ev 12 _ rfl) (rld_nn (block_cell hT.hz 1))) (fun a hF => ?_)
    refine ⟨hT.hg, ?_⟩
    rw [show (#[true, false, true, false, false, false, false, false]).setIfInBounds 1 true = #[true, true, true, false, false, false, false, false] from by kernel_rfl]
    exact ntr4_1 h0 hl hacc hT hQ (hF.sub [(13, rv), (14, .agg #[ptr b 0]), (1, ptr g 0), (3, ptr z 0), (0, v0), (2, v2), (4, v4), (5, v5), (6, v6), (7, v7), (8, v8), (9, v9), (10, v10), (19, v19), (20, v20), (21, v21), (22, v22), (23, v23), (24, v24), (25, v25), (26, v26), (27, v27), (28, v28), (29, v29), (30, v30), (31, v31), (32, v32), (33, v33), (34, v34), (35, v35)] ⟨rfl, rfl, rfl, rfl, rfl, rfl, rfl, rfl, rfl, rfl, rfl, rfl, rfl, rfl, rfl, rfl, rfl, rfl, rfl, rfl, rfl, rfl, rfl, rfl, rfl, rfl, rfl, rfl, rfl, rfl, trivial⟩) hE hP
  · refine hdocp (i := 3) (o := ops_ntr4[3]'(show 3 < ops_ntr4.size by rw [size_ntr4]; decide)) (R := fun v w' => ∃ p, nodP rest = some p ∧ v = .agg p.1.cells ∧ InIs w' b p.2 0 ∧ OStep b w w') hF 15 (Array.getElem?_eq_getElem (show 3 < ops_ntr4.size by rw [size_ntr4]; decide)) (by kernel_rfl) (by decide) (want_n (by kernel_rfl)) ⟨63, #[.agg #[ptr b 0]], rrun_call1 (fn := 63) (x := .tmp 14) (t := 75) rfl (by kernel_rfl) (by kernel_rfl) (hF.ev 14 _ rfl), (nnode_any b rest w hl hT.inn).mono (by
      rintro e w' (⟨p, hp, rfl, h1, h2⟩ | ⟨hp, rfl, h2⟩)
      · exact .inl ⟨_, rfl, p, hp, rfl, h1, h2⟩
      · exact .inr ⟨_, rfl, hP _ _ hp hF.df (hT.stp.trans h2)⟩)⟩ ?_
    rintro _ a w1 ⟨⟨n, rest'⟩, hp, rfl, hI1, hs1⟩ hF
    have hT1 := hT.step h0 hs1 hI1
    refine ⟨hT1.hg, ?_⟩
    rw [show (#[true, false, true, false, false, false, false, false]).setIfInBounds 3 true = #[true, false, true, true, false, false, false, false] from by kernel_rfl]
    exact ntr4_a h0 hl hacc hT1 hp hQ (hF.sub [(12, ptr z 1), (15, .agg n.cells), (1, ptr g 0), (3, ptr z 0), (0, v0), (2, v2), (4, v4), (5, v5), (6, v6), (7, v7), (8, v8), (9, v9), (10, v10), (19, v19), (20, v20), (21, v21), (22, v22), (23, v23), (24, v24), (25, v25), (26, v26), (27, v27), (28, v28), (29, v29), (30, v30), (31, v31), (32, v32), (33, v33), (34, v34), (35, v35)] ⟨rfl, rfl, rfl, rfl, rfl, rfl, rfl, rfl, rfl, rfl, rfl, rfl, rfl, rfl, rfl, rfl, rfl, rfl, rfl, rfl, rfl, rfl, rfl, rfl, rfl, rfl, rfl, rfl, rfl, rfl, trivial⟩) hE hP

set_option maxHeartbeats 4000000 in
theorem ntr4_all {w0 : World} {b g r z x : Nat} {rv : Value} {acc : List Nod} {rest l0 : List UInt8} {v0 v2 v4 v5 v6 v7 v8 v9 v10 v19 v20 v21 v22 v23 v24 v25 v26 v27 v28 v29 v30 v31 v32 v33 v34 v35 : Value} {Q : Exit → Act → World → Prop} {a : Act} {w : World} (h0 : InIs w0 b l0 0) (hl : rest.length ≤ 1000000000) (hacc : acc.length ≤ 20000000) (hT : NTs w0 b g r z x rv acc rest w)
    (hQ : ∀ d u c a w, Q (.panic c) (a.put d u) w → Q (.panic c) a w) (hF : FrL 36 [(1, ptr g 0), (3, ptr z 0), (0, v0), (2, v2), (4, v4), (5, v5), (6, v6), (7, v7), (8, v8), (9, v9), (10, v10), (19, v19), (20, v20), (21, v21), (22, v22), (23, v23), (24, v24), (25, v25), (26, v26), (27, v27), (28, v28), (29, v29), (30, v30), (31, v31), (32, v32), (33, v33), (34, v34), (35, v35)] a)
    (hE : ∀ n rest' rv' a w', nodP rest = some (n, rest') → FrL 36 [(1, ptr g 0), (3, ptr z 0), (0, v0), (2, v2), (4, v4), (5, v5), (6, v6), (7, v7), (8, v8), (9, v9), (10, v10), (19, v19), (20, v20), (21, v21), (22, v22), (23, v23), (24, v24), (25, v25), (26, v26), (27, v27), (28, v28), (29, v29), (30, v30), (31, v31), (32, v32), (33, v33), (34, v34), (35, v35)] a → NTs w0 b g r z x rv' (acc ++ [n]) rest' w' → Q .normal a w')
    (hP : ∀ a w', nodP rest = none → a.defers = [] → OStep b w0 w' → Q (.panic (errChain 2)) a w') :
    wpAnyH Tryz.prog .any ops_ntr4 Q (fun w' : World => w'.heap[g]? = some (.cells #[ptr b 0] 75 (0, 0))) 8 (Array.replicate 8 false) a w := by
  have hS : (fun w' : World => w'.heap[g]? = some (.cells #[ptr b 0] 75 (0, 0))) w := hT.hg
  refine hst (i := 0) (o := ops_ntr4[0]'(show 0 < ops_ntr4.size by rw [size_ntr4]; decide)) hF 12 true (ptr z 1) (Array.getElem?_eq_getElem (show 0 < ops_ntr4.size by rw [size_ntr4]; decide)) (by kernel_rfl) (by decide) (by kernel_rfl) (by kernel_rfl) (by kernel_rfl) (hQ _ _) (want_n (by kernel_rfl)) (fun hW w hS => rrun_fld (T := 25) (x := .tmp 3) (f := 1) (by kernel_rfl) (hF.ev 3 (ptr z 0) rfl) (by kernel_rfl)) hS (fun a hF => ?_)
  rw [show cond true (ptr z 1) undef = ptr z 1 from rfl] at hF
  refine hst (i := 2) (o := ops_ntr4[2]'(show 2 < ops_ntr4.size by rw [size_ntr4]; decide)) hF 14 true (.agg #[ptr b 0]) (Array.getElem?_eq_getElem (show 2 < ops_ntr4.size by rw [size_ntr4]; decide)) (by kernel_rfl) (by decide) (by kernel_rfl) (by kernel_rfl) (by kernel_rfl) (hQ _ _) (want_n (by kernel_rfl)) (fun hW w hS => rrun_load (ty := 75) (x := .tmp 1) (by kernel_rfl) (hF.ev 1 (ptr g 0) rfl) (rld_in (block_cell (show w.heap[g]? = _ from hS) 0))) hS (fun a hF => ?_)
  rw [show cond true (.agg #[ptr b 0]) undef = .agg #[ptr b 0] from rfl] at hF
  rw [show ((Array.replicate 8 false).setIfInBounds 0 true).setIfInBounds 2 true = #[true, false, true, false, false, false, false, false] from by kernel_rfl]
  exact ntr4_0 h0 hl hacc hT hQ (hF.sub [(12, ptr z 1), (14, .agg #[ptr b 0]), (1, ptr g 0), (3, ptr z 0), (0, v0), (2, v2), (4, v4), (5, v5), (6, v6), (7, v7), (8, v8), (9, v9), (10, v10), (19, v19), (20, v20), (21, v21), (22, v22), (23, v23), (24, v24), (25, v25), (26, v26), (27, v27), (28, v28), (29, v29), (30, v30), (31, v31), (32, v32), (33, v33), (34, v34), (35, v35)] ⟨rfl, rfl, rfl, rfl, rfl, rfl, rfl, rfl, rfl, rfl, rfl, rfl, rfl, rfl, rfl, rfl, rfl, rfl, rfl, rfl, rfl, rfl, rfl, rfl, rfl, rfl, rfl, rfl, rfl, rfl, trivial⟩) hE hP
end
end Go.Proofs.YtpmlhmficmillaaGreat

namespace Go.Proofs.YtpmlhmficmillaaGreat
section
open Go.RowKit
set_option maxRecDepth 100000
set_option linter.unusedVariables false

def errChainZ (e : Int) : List PanicEntry := [{ v := .iface 43 (.int .i64 e), recovered := false }]
structure TreeOf (l : List UInt8) (t : Tr) : Prop where
  is : treeP l = some t
  ok : OkC t
def NTreePost (b : Nat) (l : List UInt8) (w : World) (e : Ending) (w' : World) : Prop := OStep b w w' ∧ ((∃ t v, TreeOf l t ∧ e = .returned (.agg #[.int .u64 (t.next : Int), v]) ∧ NodsAt w' v t.n ∧ ∀ k, v.ownBlock = some k → w.heap.size ≤ k) ∨ ((∀ t, ¬ TreeOf l t) ∧ ∃ er : Int, er ≠ 0 ∧ e = .panicked (errChainZ er)))
theorem ntree_none {b : Nat} {l : List UInt8} {w w' : World} (h : treeP l = none) (hs : OStep b w w') : NTreePost b l w (.panicked (errChain 2)) w' :=
  ⟨hs, .inr ⟨fun t ht => (by have := ht.is; rw [h] at this; cases this), 2, (by decide), rfl⟩⟩

theorem ntclip_any (a : Option Addr) (c : Nat) (l : List Nod) (w : World) (hv : NodsAt w (.slice a l.length c) l) :
    Calls Tryz.prog 34 #[.slice a l.length c] w fun e w' => e = .returned (.slice a l.length l.length) ∧ w' = w := by
  obtain ⟨a', c', hv0, g1, g2⟩ := hv.form
  simp only [Value.slice.injEq] at hv0
  rw [← hv0.2.2] at g1 g2
  unfold maxLen at g2
  clear hv hv0
  go_enter Tryz.func34, Tryz.ntmps34
  go_wp2_with fail
  go_ret
  exact ⟨rfl, rfl⟩

set_option maxHeartbeats 6400000 in
theorem ntree_any (b : Nat) (l : List UInt8) (w : World) (hl : l.length ≤ 47000) (h : InIs w b l 0) :
    Calls Tryz.prog 40 #[.agg #[.pointer (some ⟨b, 0, none⟩)]] w (NTreePost b l w) := by
  have mixed : Tryz.prog.follows Departure.mixedOrders = true := by first | kernel_rfl | decide
  obtain ⟨W, hW⟩ : ∃ W, W = (w.alloc (.cells #[.pointer (some ⟨b, 0, none⟩)] 75)).alloc (.cells #[.int .u64 0, .slice none 0 0] 25) := ⟨_, rfl⟩
  have hb0 : Below w.heap.size w W := by rw [hW]; exact ((Below.refl _ _).alloc (Nat.le_refl _) _).alloc (by simp) _
  have hg0 : W.heap[w.heap.size]? = some (.cells #[ptr b 0] 75 (0, 0)) := by
    rw [hW, heap_alloc_old _ _ (by simp)]; exact heap_alloc_new _ _
  have hr0 : W.heap[w.heap.size + 1]? = some (.cells #[.int .u64 0, .slice none 0 0] 25 (0, 0)) := by rw [hW]; exact heap2 _ _ _
  have hs0 := OStep.pure h.lt hb0
  have hI0 := h.below hb0
  have c0 : W.cell? ⟨w.heap.size, 0, none⟩ = some (.pointer (some ⟨b, 0, none⟩)) := block_cell hg0 0
  have h0 := hid h
  replace hg0 := hid hg0
  replace hr0 := hid hr0
  by_cases h8 : 8 ≤ l.length
  case neg =>
    have hbad := hid (nnumber_bad b 8 l W (by omega) (by omega) (by omega) hI0 (by omega))
    have hN : Hid (treeP l = none) := hid (by unfold treeP; rw [numP_short (by omega)]; rfl)
    replace hs0 := hid hs0
    clear h hb0 hI0
    go_enter Tryz.func40, Tryz.ntmps40
    go_wp2_with (rw [← hW]; replace hW := hid hW)
    refine hbad.out.mono ?_
    rintro e w' ⟨rfl, hs1⟩
    exact ⟨rfl, ntree_none hN.out (hs0.out.trans hs1)⟩
  have hn1 := numP_long h8
  obtain ⟨x, l1, hx1⟩ : ∃ x l1, (leN (l.take 8), l.drop 8) = (x, l1) := ⟨_, _, rfl⟩
  have hgood := nnumber_ok b 8 l W (by omega) (by omega) (by omega) hI0 h8
  cases hx1
  obtain ⟨x, hx⟩ : ∃ x, x = leN (l.take 8) := ⟨_, rfl⟩
  obtain ⟨l1, hl1⟩ : ∃ l1, l1 = l.drop 8 := ⟨_, rfl⟩
  rw [← hx, ← hl1] at hgood hn1
  have hl1n : l1.length ≤ 47000 := by rw [hl1, List.length_drop]; omega
  replace hx := hid hx
  replace hl1 := hid hl1
  replace hgood := hid hgood
  replace hn1 := hid hn1
  replace hs0 := hid hs0
  clear h hb0 hI0 h8
  go_enter Tryz.func40, Tryz.ntmps40
  go_wp2_with (rw [← hW]; replace hW := hid hW)
  refine hgood.out.mono ?_
  rintro e w1 ⟨rfl, hI1, hs1⟩
  have hkeep : ∀ k, w.heap.size ≤ k → k < W.heap.size → w1.heap[k]? = W.heap[k]? := fun k a1 a2 => (hs1.block k a2 (fun hf => by have := foot_old h0.out hs0.out hf; omega)).1
  have hg1 := (hkeep _ (Nat.le_refl _) (lt_of_block hg0.out)).trans hg0.out
  have hr1 := (hkeep _ (by omega) (lt_of_block hr0.out)).trans hr0.out
  have hz0 : w.heap.size + 1 < w1.heap.size := lt_of_block hr1
  have hnew := hid (heap_alloc_new w1 (.cells #[.int .u64 0, .slice none 0 0] 25))
  obtain ⟨V, hV⟩ : ∃ V, V = (w1.alloc (.cells #[.int .u64 0, .slice none 0 0] 25)).setRow w1.heap.size #[.int .u64 (x : Int), .slice none 0 0] := ⟨_, rfl⟩
  have hbV : Below w1.heap.size w1 V := by rw [hV]; exact below_setRow ((Below.refl _ _).alloc (Nat.le_refl _) _) (Nat.le_refl _) _
  have hT := hid (show NTs w b w.heap.size (w.heap.size + 1) w1.heap.size x (.slice none 0 0) [] l1 V from
    ⟨hI1.below hbV, (hs0.out.trans hs1).trans (OStep.pure hI1.lt hbV), (hbV.block _ (by omega)).trans hg1, (hbV.block _ (by omega)).trans hr1, by rw [hV]; exact setRow_heap _ _ _ _ _ _ hnew.out, World.ownsRow_nil _ _ _ _, ⟨Nat.le_refl _, by omega, by omega⟩⟩)
  have c1 : V.cell? ⟨w.heap.size, 0, none⟩ = some (.pointer (some ⟨b, 0, none⟩)) := block_cell hT.out.hg 0
  clear hgood hI1 hs1 hkeep hg1 hr1 hbV c0
  by_cases h4 : 4 ≤ l1.length
  case neg =>
    have hbad := hid (nnumber_bad b 4 l1 V (by omega) (by omega) (by omega) hT.out.inn (by omega))
    have hN : Hid (treeP l = none) := hid (by unfold treeP; rw [hn1.out, Option.bind_some, numP_short (by show l1.length < 4; omega)]; rfl)
    go_wp2_with (first
      | (rw [← hV]; replace hV := hid hV)
      | (refine wpList_store_row (by rfl) 25 (.tmp 3) (.tmp 7) (by rfl) w1.heap.size #[.int .u64 (x : Int), .slice none 0 0] (by rfl) (by rfl) 25 _ hnew.out (by kernel_rfl) (by kernel_rfl) (by kernel_rfl) ?_))
    refine hbad.out.mono ?_
    rintro e w' ⟨rfl, hs1⟩
    exact ⟨rfl, ntree_none hN.out (hT.out.stp.trans hs1)⟩
  obtain ⟨C, hC⟩ : ∃ C, C = leN (l1.take 4) := ⟨_, rfl⟩
  obtain ⟨l2, hl2⟩ : ∃ l2, l2 = l1.drop 4 := ⟨_, rfl⟩
  have hn2 := numP_long h4
  have hgood := hid (nnumber_ok b 4 l1 V (by omega) (by omega) (by omega) hT.out.inn h4)
  rw [← hC, ← hl2] at hgood hn2
  have hC4 : C < 4294967296 := (numP_some hn2).2.2.1
  have hl2n : l2.length ≤ 47000 := by rw [hl2, List.length_drop]; omega
  replace hC := hid hC
  replace hl2 := hid hl2
  have hTP : Hid (treeP l = (nodsP C l2).bind fun r => if r.2 = [] then some ⟨x, r.1⟩ else none) := hid (by unfold treeP; rw [hn1.out, Option.bind_some]; show (numP 4 l1).bind _ = _; rw [hn2]; rfl)
  replace hn2 := hid hn2
  clear h4
  generalize hzz : w1.heap.size = z at *
  go_wp2_with (first
    | (rw [← hV]; replace hV := hid hV)
    | (refine wpList_store_row (by rfl) 25 (.tmp 3) (.tmp 7) (by rfl) z #[.int .u64 (x : Int), .slice none 0 0] (by rfl) (by rfl) 25 _ hnew.out (by kernel_rfl) (by kernel_rfl) (by kernel_rfl) ?_))
  refine hgood.out.mono ?_
  rintro e w2 ⟨rfl, hI2, hs2⟩
  have hT2 := hid (hT.out.step h0.out hs2 hI2)
  clear hgood hI2 hs2 hT c1 hnew hzz hV
  go_wp2_with fail
  go_loopw [10] (fun kv wr => ∃ (k : Nat) (rv : Value) (acc : List Nod) (rest : List UInt8), k ≤ C ∧ kv = .int .u64 (k : Int) ∧ Hid (nodsP k l2 = some (acc, rest)) ∧ Hid (NTs w b w.heap.size (w.heap.size + 1) z x rv acc rest wr)) (fun kv _ => C - (intOf kv).toNat)
  case atStart => exact ⟨0, _, [], l2, by omega, rfl, hid rfl, hT2⟩
  case round =>
    clear hT2
    obtain ⟨k, rv, acc, rest, hk, rfl, hp, hT⟩ := hrel
    obtain ⟨q1, q2, q3, q4⟩ := nodsP_some hp.out (by omega)
    simp only at q1 q4
    by_cases hkc : k < C
    · have hk63 : (k : Int) < (C : Int) := by omega
      have hwr : IntKind.u64.wrap ((k : Int) + 1) = ((k + 1 : Nat) : Int) := by rw [IntWalk.u64_in _ (by omega)]; omega
      have hbd : Below wr.heap.size wr wr.drew := (Below.refl _ _).drew
      have hTd := hid (hT.out.below h0.out hbd)
      replace hwr := hid hwr
      clear hbd hT
      replace q2 := hid q2
      replace q3 := hid q3
      go_wp2_with fail
      refine wp_region_held (S := fun w' : World => w'.heap[w.heap.size]? = some (.cells #[ptr b 0] 75 (0, 0))) mixed ?_
      refine (show wpAnyH Tryz.prog .any ops_ntr4 _ _ _ _ _ _ → _ from fun h => h) ?_
      refine ntr4_all (w0 := w) (l0 := l) (w := wr.drew) (rest := rest) h0.out (by omega) (by omega) hTd.out (fun d u c a w h => by cases d <;> exact h) (FrL.of_all (by rfl) rfl ⟨rfl, rfl, rfl, rfl, rfl, rfl, rfl, rfl, rfl, rfl, rfl, rfl, rfl, rfl, rfl, rfl, rfl, rfl, rfl, rfl, rfl, rfl, rfl, rfl, rfl, rfl, rfl, rfl, trivial⟩) (fun n rest' rv' a w3 hn hF hT3 => ?_) (fun a w3 hn hd hs3 => ?_)
      case refine_2 => exact ⟨hd, ntree_none (by rw [hTP.out, nodsP_stop hp.out hn hkc]; rfl) hs3⟩
      have he := frame_eq hF [.agg #[.pointer (some ⟨b, 0, none⟩)], .pointer (some ⟨w.heap.size, 0, none⟩), .pointer (some ⟨(w.heap.size + 1), 0, none⟩), .pointer (some ⟨z, 0, none⟩), undef, .agg #[.pointer (some ⟨b, 0, none⟩)], .int .u64 (x : Int), .agg #[.int .u64 (x : Int), .slice none 0 0], .agg #[.pointer (some ⟨b, 0, none⟩)], .int .u64 (C : Int), .int .u64 (k : Int), a.tmps.getD 11 undef, a.tmps.getD 12 undef, a.tmps.getD 13 undef, a.tmps.getD 14 undef, a.tmps.getD 15 undef, a.tmps.getD 16 undef, a.tmps.getD 17 undef, a.tmps.getD 18 undef, u19, undef, undef, undef, undef, undef, undef, undef, undef, undef, undef, undef, undef, undef, undef, undef, undef] (by rfl) ⟨hF.get 0 _ rfl, hF.get 1 _ rfl, hF.get 2 _ rfl, hF.get 3 _ rfl, hF.get 4 _ rfl, hF.get 5 _ rfl, hF.get 6 _ rfl, hF.get 7 _ rfl, hF.get 8 _ rfl, hF.get 9 _ rfl, hF.get 10 _ rfl, hF.any 11 (by decide), hF.any 12 (by decide), hF.any 13 (by decide), hF.any 14 (by decide), hF.any 15 (by decide), hF.any 16 (by decide), hF.any 17 (by decide), hF.any 18 (by decide), hF.get 19 _ rfl, hF.get 20 _ rfl, hF.get 21 _ rfl, hF.get 22 _ rfl, hF.get 23 _ rfl, hF.get 24 _ rfl, hF.get 25 _ rfl, hF.get 26 _ rfl, hF.get 27 _ rfl, hF.get 28 _ rfl, hF.get 29 _ rfl, hF.get 30 _ rfl, hF.get 31 _ rfl, hF.get 32 _ rfl, hF.get 33 _ rfl, hF.get 34 _ rfl, hF.get 35 _ rfl, trivial⟩
      rw [he]
      clear he hF
      generalize a.tmps.getD 11 undef = y11
      generalize a.tmps.getD 12 undef = y12
      generalize a.tmps.getD 13 undef = y13
      generalize a.tmps.getD 14 undef = y14
      generalize a.tmps.getD 15 undef = y15
      generalize a.tmps.getD 16 undef = y16
      generalize a.tmps.getD 17 undef = y17
      generalize a.tmps.getD 18 undef = y18
      clear a
      have hp3 := hid (nodsP_next hp.out hn)
      replace hT3 := hid hT3
      replace hn := hid hn
      have hwr2 := hwr.out
      go_wp2_with fail
      go_roundw
      case rel => exact ⟨k + 1, rv', acc ++ [n], rest', by omega, by go_num, hp3, hT3⟩
      case measure => simp [intOf]; omega
    · have hkC : k = C := by omega
      subst hkC
      subst q1
      have hlt : ¬ ((acc.length : Nat) : Int) < ((acc.length : Nat) : Int) := by omega
      have hnx := hT.out.own
      have hNA := hid (NodsAt.of_own hT.out.own)
      obtain ⟨va, vc, rfl, g1, g2⟩ := hNA.out.form
      unfold maxLen at g2
      have hclip := hid (ntclip_any va vc acc wr hNA.out)
      obtain ⟨X, hX⟩ : ∃ X, X = wr.setCell ⟨z, 1, none⟩ (.slice va acc.length acc.length) := ⟨_, rfl⟩
      have hlo := hT.out.lo
      have hzf : ¬ Foot wr b z := fun hf => by have := foot_old h0.out hT.out.stp hf; omega
      have hIX := hid (show InIs X b rest 0 by rw [hX]; exact hT.out.inn.store (p := ⟨z, 1, none⟩) _ hzf)
      have hSX := hid (show OStep b w X by rw [hX]; exact hT.out.stp.store (p := ⟨z, 1, none⟩) (by show _ ≤ z; omega) hzf h0.out.lt _)
      have hgX := hid (show X.heap[w.heap.size]? = some (.cells #[ptr b 0] 75 (0, 0)) by rw [hX]; exact (block_set_other (by show w.heap.size ≠ z; omega)).trans hT.out.hg)
      have hrX := hid (show X.heap[w.heap.size + 1]? = some (.cells #[.int .u64 0, .slice none 0 0] 25 (0, 0)) by rw [hX]; exact (block_set_other (by show w.heap.size + 1 ≠ z; omega)).trans hT.out.hr)
      have hzX := hid (show X.heap[z]? = some (.cells #[.int .u64 (x : Int), .slice va acc.length acc.length] 25 (0, 0)) by rw [hX]; exact block_set hT.out.hz 1 _)
      have hvX := hid (show NodsAt X (.slice va acc.length acc.length) acc by
        have ho := own_keep (w' := X) hT.out.own (fun j hj => by rw [hX]; exact block_set_other (by show j ≠ z; have := (hT.out.own.lt j hj).1; omega))
        exact (NodsAt.of_own ho).clip)
      have hvo := hid (fun (k : Nat) (hk : (Value.slice va acc.length acc.length).ownBlock = some k) => show z + 1 ≤ k from (hT.out.own.lt k (by rw [ownBlock_cap va acc.length vc acc.length acc.length]; exact hk)).1)
      have e0 : X.cell? ⟨w.heap.size, 0, none⟩ = some (.pointer (some ⟨b, 0, none⟩)) := block_cell hgX.out 0
      have d1 : wr.cell? ⟨z, 1, none⟩ = some (.slice va acc.length vc) := block_cell hT.out.hz 1
      have d1f : wr.frozen? ⟨z, 1, none⟩ = false := block_free hT.out.hz 1
      clear hnx hzf hlo
      go_wp2_with fail
      refine hclip.out.mono ?_
      rintro e w3 ⟨rfl, hw3⟩
      subst hw3
      have hleft := hid (in_left_any b rest 0 X hIX.out)
      have hL0 : leftN rest 0 = rest.length := rfl
      rw [hL0] at hleft
      clear hclip hT hNA hL0
      by_cases hne : rest = []
      case neg =>
        have hN : Hid (treeP l = none) := hid (by rw [hTP.out, hp.out]; show (if rest = [] then _ else none) = none; rw [if_neg hne])
        have hpos : (0 : Int) < (rest.length : Int) := by have := List.length_pos_iff.2 hne; omega
        clear hne
        go_wp2_with (rw [← hX]; replace hX := hid hX)
        refine hleft.out.mono ?_
        rintro e w4 ⟨rfl, hw4⟩
        subst hw4
        go_wp2_with fail
        exact ⟨rfl, ntree_none hN.out hSX.out⟩
      have hN : Hid (treeP l = some ⟨x, acc⟩) := hid (by rw [hTP.out, hp.out]; show (if rest = [] then _ else none) = _; rw [if_pos hne])
      have hpos : ¬ (0 : Int) < (rest.length : Int) := by rw [hne]; simp
      replace hne := hid hne
      have hck := hid (ncheck_any (.slice va acc.length acc.length) x acc X hvX.out (by omega) q2 (fun n hn => by have := q3 n hn; omega))
      replace q2 := hid q2
      replace q3 := hid q3
      go_wp2_with (rw [← hX]; replace hX := hid hX)
      refine hleft.out.mono ?_
      rintro e w4 ⟨rfl, hw4⟩
      subst hw4
      go_wp2_with (first
        | (refine wpList_load_row (by rfl) 25 (.tmp 3) (by rfl) z (by rfl) 25 #[.int .u64 (x : Int), .slice va acc.length acc.length] (0, 0) _ hzX.out Tryz.underlying25 (by rfl) (by kernel_rfl) ?_))
      refine hck.out.mono ?_
      rintro e w5 ⟨E, rfl, hE, hb5⟩
      have hS5 := hid (hSX.out.trans (OStep.pure hIX.out.lt hb5))
      have hz5 := hid ((hb5.block _ (lt_of_block hzX.out)).trans hzX.out)
      have hr5 := hid ((hb5.block _ (lt_of_block hrX.out)).trans hrX.out)
      have hv5 := hid (hvX.out.below hb5)
      replace hE := hid hE
      clear hck hleft hb5 hvX hzX hrX hgX e0
      by_cases hE0 : E = 0
      case neg =>
        have k0 : (E != 0) = true := by simpa using hE0
        replace hE0 := hid hE0
        go_wp2_with fail
        exact ⟨rfl, hS5.out, .inr ⟨fun t ht => by
          have h1 := ht.is
          rw [hN.out] at h1
          cases h1
          exact hE0.out (hE.out.2 ht.ok), E, hE0.out, rfl⟩⟩
      subst hE0
      have hok := hid (hE.out.1 rfl)
      clear hE
      have hFin := hid (setRow_heap w5 (w.heap.size + 1) _ #[.int .u64 (x : Int), .slice va acc.length acc.length] _ _ hr5.out)
      have hfr := hid (show ¬ Foot w5 b (w.heap.size + 1) from fun hf => by have := foot_old h0.out hS5.out hf; omega)
      go_wp2_with (first
        | (refine wpList_load_row (by rfl) 25 (.tmp 3) (by rfl) z (by rfl) 25 #[.int .u64 (x : Int), .slice va acc.length acc.length] (0, 0) _ hz5.out Tryz.underlying25 (by rfl) (by kernel_rfl) ?_)
        | (refine wpList_store_row (by rfl) 25 (.tmp 2) (.tmp 35) (by rfl) (w.heap.size + 1) #[.int .u64 (x : Int), .slice va acc.length acc.length] (by rfl) (by rfl) 25 _ hr5.out (by kernel_rfl) (by kernel_rfl) (by kernel_rfl) ?_))
      refine bodyPost_ret (results_cell_row rfl _ _ (w.heap.size + 1) _ _ _ _ rfl hFin.out Tryz.underlying25 rfl (by kernel_rfl)) rfl ?_
      exact ⟨ostep_row hS5.out (by omega) h0.out.lt hfr.out _, .inl ⟨⟨x, acc⟩, _, ⟨hN.out, hok.out⟩, rfl, NodsAt.other hv5.out (w.heap.size + 1) (fun e => by have := hvo.out _ e; omega) (by simp [World.setRow]) (fun k hk => setRow_other _ _ _ _ hk), fun k hk => by have := hvo.out k hk; omega⟩⟩
end
end Go.Proofs.YtpmlhmficmillaaGreat

namespace Go.Proofs.YtpmlhmficmillaaGreat
section
open Go.RowKit
set_option maxRecDepth 100000
set_option linter.unusedVariables false

theorem nassert_errno (e : Int) (w : World) : (Instr.typeAssert (.iface 43 (.int .i64 e)) 20 43 true).run Tryz.prog w = .ok (.tuple #[.int .i64 e, .bool true]) w := by kernel_rfl
def errChainZR (e : Int) : List PanicEntry := [{ v := .iface 43 (.int .i64 e), recovered := true }]
theorem ndec1_panicking (p q : Nat) (cs : Array Value) (x : Int) (e : Int) (w : World) (hpq : p ≠ q) (hp : w.heap[p]? = some (.cells cs 25 (0, 0))) (hcs : cs.size = 2) (hq : w.heap[q]? = some (.cells #[.int .i64 x] 43 (0, 0))) :
    CallsD Tryz.prog 38 #[.pointer (some ⟨p, 0, none⟩), .pointer (some ⟨q, 0, none⟩)] (.panicking (errChainZ e)) w fun en u' w' =>
      en = .returned (.tuple #[]) ∧ u' = .panicking (errChainZR e) ∧ w' = (w.setRow p #[.int .u64 0, .slice none 0 0]).setCell ⟨q, 0, none⟩ (.int .i64 e) := by
  have hta := nassert_errno e
  have hq2 : (w.setRow p #[.int .u64 0, .slice none 0 0]).heap[q]? = some (.cells #[.int .i64 x] 43 (0, 0)) := (setRow_other _ _ _ _ (Ne.symm hpq)).trans hq
  have hc1 : (w.setRow p #[.int .u64 0, .slice none 0 0]).cell? ⟨q, 0, none⟩ = some (.int .i64 x) := block_cell hq2 0
  have hf1 : (w.setRow p #[.int .u64 0, .slice none 0 0]).frozen? ⟨q, 0, none⟩ = false := block_free hq2 0
  replace hp := hid hp
  replace hcs := hid hcs
  clear hq hq2
  refine callsD_of_wpS Tryz.func38 rfl fun c₀ cs hu => ?_
  apply wpS_seq
  apply wpS_region
  simp [wpOpsS, go_sem, recoverD, hu, errChainZ, Tryz.ntmps38, Exit.thenS, Array.replicate_succ]
  apply wpS_body
  go_wp2_with (refine wpList_store_row (by rfl) 25 (.tmp 0) (.tmp 11) (by rfl) p #[.int .u64 0, .slice none 0 0] (by rfl) (by rfl) 25 _ hp.out (by kernel_rfl) hcs.out (by kernel_rfl) ?_)
  go_end0
  exact ⟨rfl, rfl, rfl⟩
theorem ndec1_idle (p q : Addr) (w : World) :
    CallsD Tryz.prog 38 #[.pointer (some p), .pointer (some q)] .returning w fun e u' w' => e = .returned (.tuple #[]) ∧ u' = .returning ∧ w' = w := by
  refine callsD_of_wpS Tryz.func38 rfl fun c₀ cs hu => ?_
  apply wpS_seq
  apply wpS_region
  simp [wpOpsS, go_sem, recoverD, hu, Tryz.ntmps38, Exit.thenS, Array.replicate_succ]
  rw [show c₀ = { c₀ with mode := .returning } from by cases c₀; simp_all]
  apply wpS_body
  go_wp2
  go_end0
  exact ⟨rfl, rfl⟩
theorem nin_of_new (v : Value) (l : List UInt8) (w : World) (h : BytesAt w v l) (hl : l.length ≤ 1000000008) :
    Calls Tryz.prog 39 #[v] w fun e w' => ∃ b, e = .returned (.pointer (some ⟨b, 0, none⟩)) ∧ w.heap.size ≤ b ∧ InIs w' b l 0 ∧ Below w.heap.size w w' ∧ ∀ k, Foot w' b k → w.heap.size ≤ k := by
  go_enter Tryz.func39, Tryz.ntmps39
  go_wp2_with fail
  refine (clone_new v l w h hl).mono ?_
  rintro e w1 ⟨v1, rfl, ⟨h1, hnew⟩, hb1⟩
  obtain ⟨a, c, rfl, hc1, hc2, hc3⟩ := h1.form
  replace hnew := hid hnew
  go_wp2
  go_ret
  have h1' := h1.below ((Below.refl w1.heap.size w1).alloc (Nat.le_refl _) (.cells #[.slice a l.length c, .int .i64 0] 99))
  refine ⟨w1.heap.size, rfl, hb1.size, ⟨_, heap_alloc_new _ _, h1', ?_⟩, hb1.alloc hb1.size _, ?_⟩
  · intro he
    exact absurd (h1.lt he) (Nat.lt_irrefl _)
  · rintro k (rfl | ⟨u, hu, hk⟩)
    · exact hb1.size
    · rw [block_cell (heap_alloc_new _ _) 0] at hu
      cases hu
      exact hnew.out k hk

theorem rld_errno {p : Addr} {v : Value} {w : World} (h : w.cell? p = some v) : (loadVar 43 p).run Tryz.prog w = .ok v w := by simp [go_sem, h]
def NDecPost (w : World) (l : List UInt8) (e : Ending) (w' : World) : Prop :=
  ∃ (t : Tr) (v : Value) (E : Int), e = .returned (.tuple #[.agg #[.int .u64 (t.next : Int), v], .int .i64 E]) ∧ NodsAt w' v t.n ∧ Below w.heap.size w w' ∧ ((TreeOf l t ∧ E = 0) ∨ ((∀ t, ¬ TreeOf l t) ∧ E ≠ 0))
theorem results_cc {P : Program} {fn : Func} {p q : Tmp} {ty ty2 : TypeId} (h : fn.results = #[.cell p ty, .cell q ty2]) (tmps : Array Value) (w : World) (g g2 : Nat) (t : TypeId) (cs : Array Value) (fr : Nat × Nat) (d : TypeDesc) (x : Value)
    (hp : tmps.getD p undef = .pointer (some ⟨g, 0, none⟩)) (hq : tmps.getD q undef = .pointer (some ⟨g2, 0, none⟩)) (hg : w.heap[g]? = some (.cells cs t fr))
    (hu : P.underlying ty = some d) (hd : (match d with | .struct _ | .array _ _ => true | _ => false) = true) (hi : (P.info? ty).map (·.size) = some cs.size) (hx : (loadVar ty2 ⟨g2, 0, none⟩).run P w = .ok x w) :
    (results fn tmps).run P w = .ok (.tuple #[.agg cs, x]) w := by
  have hp' : tmps[p]?.getD undef = .pointer (some ⟨g, 0, none⟩) := by simpa using hp
  have hq' : tmps[q]?.getD undef = .pointer (some ⟨g2, 0, none⟩) := by simpa using hq
  simp [results, h, hp', hq', asAddr, run_loadVar_row w g t ty cs fr d hg hu hd hi, hx]

set_option maxHeartbeats 3200000 in
theorem ndecode_any (v : Value) (l : List UInt8) (w : World) (hv : BytesAt w v l) (hl : l.length ≤ 47000) : Calls Tryz.prog 18 #[v] w (NDecPost w l) := by
  obtain ⟨va, vc, rfl, _, _, _⟩ := hv.form
  have hmf : ∀ (fn : Fn) (first cap : Array Value) (w : World), (Instr.makeFunc fn first cap).run Tryz.prog w = .ok (.func fn first cap) w := fun _ _ _ _ => rfl
  obtain ⟨W, hW⟩ : ∃ W, W = (w.alloc (.cells #[.int .u64 0, .slice none 0 0] 25)).alloc (.cells #[.int .i64 0] 43) := ⟨_, rfl⟩
  have hb0 : Below w.heap.size w W := by rw [hW]; exact ((Below.refl _ _).alloc (Nat.le_refl _) _).alloc (by simp) _
  have hp0 := hid (show W.heap[w.heap.size]? = some (.cells #[.int .u64 0, .slice none 0 0] 25 (0, 0)) by rw [hW, heap_alloc_old _ _ (by simp)]; exact heap_alloc_new _ _)
  have hq0 := hid (show W.heap[w.heap.size + 1]? = some (.cells #[.int .i64 0] 43 (0, 0)) by rw [hW]; exact heap2 _ _ _)
  have hWs : W.heap.size = w.heap.size + 2 := by rw [hW]; simp
  have hof := hid (nin_of_new _ l W (hv.below hb0) (by omega))
  replace hb0 := hid hb0
  replace hWs := hid hWs
  go_enter_defers Tryz.func18, Tryz.ntmps18
  go_wp2_with (rw [← hW]; replace hW := hid hW)
  refine hof.out.mono ?_
  rintro e w1 ⟨b, rfl, hge, hi1, hb1, hnew⟩
  have htr := hid (ntree_any b l w1 hl hi1)
  have hp1 := hid ((hb1.block _ (by have := hWs.out; omega)).trans hp0.out)
  have hq1 := hid ((hb1.block _ (by have := hWs.out; omega)).trans hq0.out)
  have hB1 := hid (hb0.out.trans (hb1.mono (by have := hWs.out; omega)))
  have hlt := hid (show w.heap.size + 1 < w1.heap.size by have := hb1.size; have := hWs.out; omega)
  replace hge := hid hge
  replace hnew := hid hnew
  clear hof hb1 hi1 hv
  go_wp2_with fail
  refine htr.out.mono ?_
  rintro e w2 ⟨hs, hpost⟩
  have hk : ∀ k, w.heap.size ≤ k → k < w.heap.size + 2 → w2.heap[k]? = w1.heap[k]? := fun k h1 h2 => (hs.block k (by have := hlt.out; omega) (fun hf => by have := hnew.out k hf; have := hWs.out; omega)).1
  have hp2 := hid ((hk _ (Nat.le_refl _) (by omega)).trans hp1.out)
  have hq2 := hid ((hk _ (by omega) (by omega)).trans hq1.out)
  have hB2 := hid (hB1.out.trans (hs.below.mono (by have := hge.out; have := hWs.out; omega)))
  clear hs hk hp1 hq1 hB1 hp0 hq0 htr
  rcases hpost with ⟨t, v', ht, rfl, hv', hvk⟩ | ⟨hno, er, her, rfl⟩
  · obtain ⟨na, nc, rfl, n1, n2⟩ := hv'.form
    replace ht := hid ht
    have hp3 := hid (setRow_heap w2 w.heap.size _ #[.int .u64 (t.next : Int), .slice na t.n.length nc] _ _ hp2.out)
    have hq3 := hid ((setRow_other w2 w.heap.size (w.heap.size + 1) #[.int .u64 (t.next : Int), .slice na t.n.length nc] (by omega)).trans hq2.out)
    have hv3 := hid (NodsAt.other (w' := w2.setRow w.heap.size #[.int .u64 (t.next : Int), .slice na t.n.length nc]) hv' w.heap.size (fun e => by have := hvk _ e; have := hlt.out; omega) (by simp [World.setRow]) (fun k hk => setRow_other _ _ _ _ hk))
    have hB3 := hid (below_setRow (g := w.heap.size) hB2.out (Nat.le_refl _) #[.int .u64 (t.next : Int), .slice na t.n.length nc])
    replace hvk := hid hvk
    clear hv'
    have c3 : (w2.setRow w.heap.size #[.int .u64 (t.next : Int), .slice na t.n.length nc]).cell? ⟨w.heap.size + 1, 0, none⟩ = some (.int .i64 0) := block_cell hq3.out 0
    have f3 : (w2.setRow w.heap.size #[.int .u64 (t.next : Int), .slice na t.n.length nc]).frozen? ⟨w.heap.size + 1, 0, none⟩ = false := block_free hq3.out 0
    go_wp2_with (first
      | (refine wpList_store_row (by rfl) 25 (.tmp 2) (.tmp 8) (by rfl) w.heap.size #[.int .u64 (t.next : Int), .slice na t.n.length nc] (by rfl) (by rfl) 25 _ hp2.out (by kernel_rfl) (by kernel_rfl) (by kernel_rfl) ?_))
    refine leaves_cons (f := 38) (args := #[.pointer (some ⟨w.heap.size, 0, none⟩), .pointer (some ⟨w.heap.size + 1, 0, none⟩)]) (by simp) (by simp [go_sem]) ?_
    refine (ndec1_idle ⟨w.heap.size, 0, none⟩ ⟨w.heap.size + 1, 0, none⟩ _).mono ?_
    rintro e u' w'' ⟨rfl, rfl, rfl⟩
    simp only [settle]
    refine ⟨_, results_cc rfl _ _ w.heap.size (w.heap.size + 1) _ _ (0, 0) _ (.int .i64 0) rfl rfl ((block_set_other (by show w.heap.size ≠ w.heap.size + 1; omega)).trans hp3.out) Tryz.underlying25 rfl (by kernel_rfl) (rld_errno (block_cell (block_set hq3.out 0 _) 0)), ?_⟩
    exact ⟨t, _, 0, rfl, NodsAt.other hv3.out (w.heap.size + 1) (fun e => by have := hvk.out _ e; have := hlt.out; omega) (by simp [World.setCell]) (fun k hk => block_set_other hk), hB3.out.setCell (p := ⟨w.heap.size + 1, 0, none⟩) (by show _ ≤ w.heap.size + 1; omega) _, .inl ⟨ht.out, rfl⟩⟩
  · replace hno := hid hno
    replace her := hid her
    have hp3 := hid (setRow_heap w2 w.heap.size _ #[.int .u64 0, .slice none 0 0] _ _ hp2.out)
    have hq3 := hid ((setRow_other w2 w.heap.size (w.heap.size + 1) #[.int .u64 0, .slice none 0 0] (by omega)).trans hq2.out)
    go_wp2_with fail
    refine leaves_cons (f := 38) (args := #[.pointer (some ⟨w.heap.size, 0, none⟩), .pointer (some ⟨w.heap.size + 1, 0, none⟩)]) (by simp) (by simp [go_sem]) ?_
    refine (ndec1_panicking w.heap.size (w.heap.size + 1) _ 0 er w2 (by omega) hp2.out rfl hq2.out).mono ?_
    rintro e u' w'' ⟨rfl, rfl, rfl⟩
    simp only [settle, errChainZR]
    refine ⟨_, results_cc rfl _ _ w.heap.size (w.heap.size + 1) _ _ (0, 0) _ (.int .i64 er) rfl rfl ((block_set_other (by show w.heap.size ≠ w.heap.size + 1; omega)).trans hp3.out) Tryz.underlying25 rfl (by kernel_rfl) (rld_errno (block_cell (block_set hq3.out 0 _) 0)), ?_⟩
    exact ⟨⟨0, []⟩, _, er, rfl, NodsAt.nil, (below_setRow (g := w.heap.size) hB2.out (Nat.le_refl _) _).setCell (p := ⟨w.heap.size + 1, 0, none⟩) (by show _ ≤ w.heap.size + 1; omega) _, .inr ⟨hno.out, her.out⟩⟩
end
end Go.Proofs.YtpmlhmficmillaaGreat
