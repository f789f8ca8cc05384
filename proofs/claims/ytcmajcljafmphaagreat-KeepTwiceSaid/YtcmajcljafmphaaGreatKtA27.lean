/- The numbers of a node that is read (in.node of Decode), whatever the order that is drawn. Conditions: in the statements. -/
import Derived.Test.YtcmajcljafmphaaGreatKtA23
import Derived.Test.YtcmajcljafmphaaGreatKtA26
import Derived.Laws.CopyOwn
namespace Go.Proofs.YtcmajcljafmphaaGreat
open Go.RowKit
set_option maxRecDepth 100000
set_option linter.unusedVariables false

section
variable {P : Program} {ops : Array Oper} {Q : Exit → Act → World → Prop} {o : Oper} {a : Act} {w : World} {N : Nat} {fx : List (Nat × Value)}
theorem hdocp {i : Nat} {K : Act → World → Prop} {R : Value → World → Prop} (hF : FrL N fx a) (d : Nat) (hi : ops[i]? = some o) (hd : o.dst = some d) (hN : d < N) (hw : Region.wanted o (yielded ops a.tmps) = true)
    (hrun : ∃ f args, (execOp a.eval o).run P w = .ok (.enter f args) w ∧ Calls P f args w fun e w' => (∃ v, e = .returned v ∧ R v w') ∨ ∃ ch, e = .panicked ch ∧ Q (.panic ch) a w')
    (hk : ∀ v b w', R v w' → FrL N ((d, v) :: fx) b → K b w') : wpOp P ops Q i K a w := by
  unfold wpOp
  simp only [hi]
  rw [if_pos hw]
  refine .inl ?_
  obtain ⟨f, args, h1, h2⟩ := hrun
  unfold Oper.wp
  rw [h1]
  refine h2.mono ?_
  rintro e w' (⟨v, rfl, h3⟩ | ⟨ch, rfl, h3⟩)
  · show K (a.put o.dst v) w'
    rw [hd]
    exact hk v _ _ h3 (hF.put d v hN)
  · exact h3
end
theorem nnumber_any (b n : Nat) (l : List UInt8) (w : World) (hn1 : 1 ≤ n) (hn8 : n ≤ 8) (hl : l.length ≤ 1000000008) (h : InIs w b l 0) :
    Calls Tryz.prog 88 #[.agg #[ptr b 0], .int .i64 ((n : Nat) : Int)] w fun e w' => (∃ p, numP n l = some p ∧ e = .returned (.int .u64 (p.1 : Int)) ∧ InIs w' b p.2 0 ∧ OStep b w w') ∨ (numP n l = none ∧ e = .panicked (errChain 2) ∧ OStep b w w') := by
  by_cases hn : n ≤ l.length
  · refine (nnumber_ok b n l w hn1 hn8 hl h hn).mono ?_
    rintro e w' ⟨rfl, h1, h2⟩
    exact .inl ⟨_, numP_long hn, rfl, h1, h2⟩
  · refine (nnumber_bad b n l w hn1 hn8 hl h (by omega)).mono ?_
    rintro e w' ⟨rfl, h2⟩
    exact .inr ⟨numP_short (by omega), rfl, h2⟩
section
variable {o : Oper} {ev : Operand → Value} {w : World} {x : Operand}
theorem rrun_cv32 {n : Nat} (ho : o.op = .convert 30 35 x) (hx : ev x = .int .u64 (n : Int)) (hn : n < 4294967296) : (execOp ev o).run Tryz.prog w = .ok (.value (.int .u32 (n : Int))) w := by
  have cv : IntKind.u32.wrap (n : Int) = (n : Int) := IntWalk.u32_in _ (by omega)
  simp [execOp, ho, hx, cv, go_sem]
end
def numN (x1 x2 x3 x4 x5 x6 x7 : Nat) : Nod := ⟨x1, x2, x3, x4, x5, ⟨#[]⟩, ⟨#[]⟩, ⟨#[]⟩, ⟨#[]⟩, x6, !decide (x7 = 0), ⟨#[]⟩⟩

def numsP8 (x1 x2 x3 x4 x5 x6 x7 : Nat) (l : List UInt8) : Option (Nod × List UInt8) := some (numN x1 x2 x3 x4 x5 x6 x7, l)
def numsP7 (x1 x2 x3 x4 x5 x6 : Nat) (l : List UInt8) : Option (Nod × List UInt8) := (numP 1 l).bind fun p => numsP8 x1 x2 x3 x4 x5 x6 p.1 p.2
def numsP6 (x1 x2 x3 x4 x5 : Nat) (l : List UInt8) : Option (Nod × List UInt8) := (numP 8 l).bind fun p => numsP7 x1 x2 x3 x4 x5 p.1 p.2
def numsP5 (x1 x2 x3 x4 : Nat) (l : List UInt8) : Option (Nod × List UInt8) := (numP 4 l).bind fun p => numsP6 x1 x2 x3 x4 p.1 p.2
def numsP4 (x1 x2 x3 : Nat) (l : List UInt8) : Option (Nod × List UInt8) := (numP 4 l).bind fun p => numsP5 x1 x2 x3 p.1 p.2
def numsP3 (x1 x2 : Nat) (l : List UInt8) : Option (Nod × List UInt8) := (numP 4 l).bind fun p => numsP4 x1 x2 p.1 p.2
def numsP2 (x1 : Nat) (l : List UInt8) : Option (Nod × List UInt8) := (numP 4 l).bind fun p => numsP3 x1 p.1 p.2
def numsP1 (l : List UInt8) : Option (Nod × List UInt8) := (numP 8 l).bind fun p => numsP2 p.1 p.2
theorem num_built (x1 x2 x3 x4 x5 x6 x7 : Nat) : Tryz.prog.built 68 [(0, .int .u64 (x1 : Int)), (1, .int .u32 (x2 : Int)), (2, .int .u32 (x3 : Int)), (3, .int .u32 (x4 : Int)), (4, .int .u32 (x5 : Int)), (9, .int .u64 (x6 : Int)), (10, .bool (!decide (x7 = 0)))] = some (numN x1 x2 x3 x4 x5 x6 x7).cells := by kernel_rfl
theorem num_one (x1 x2 x3 x4 x5 x6 x7 : Nat) : (numN x1 x2 x3 x4 x5 x6 x7).cells.all (·.oneCell') = true := nod_one _
section
variable {o : Oper} {ev : Operand → Value} {w : World}
theorem rrun_numbuild {x1 x2 x3 x4 x5 x6 x7 : Nat} (ho : o.op = .build 68 #[(0, .tmp 5), (1, .tmp 8), (2, .tmp 11), (3, .tmp 14), (4, .tmp 17), (9, .tmp 19), (10, .tmp 22)]) (h5 : ev (.tmp 5) = .int .u64 (x1 : Int)) (h8 : ev (.tmp 8) = .int .u32 (x2 : Int)) (h11 : ev (.tmp 11) = .int .u32 (x3 : Int)) (h14 : ev (.tmp 14) = .int .u32 (x4 : Int)) (h17 : ev (.tmp 17) = .int .u32 (x5 : Int)) (h19 : ev (.tmp 19) = .int .u64 (x6 : Int)) (h22 : ev (.tmp 22) = .bool (!decide (x7 = 0))) : (execOp ev o).run Tryz.prog w = .ok (.value (.agg (numN x1 x2 x3 x4 x5 x6 x7).cells)) w := by
  refine rrun_build ho ?_
  simp only [List.map_toArray, List.map_cons, List.map_nil, h5, h8, h11, h14, h17, h19, h22]
  exact num_built x1 x2 x3 x4 x5 x6 x7
end
noncomputable def ops_nn1 : Array Oper := match Tryz.f89.body with | some c => (allOps' c).getD 1 #[] | none => #[]
theorem size_nn1 : ops_nn1.size = 22 := by kernel_rfl
theorem nfoot_row {w : World} {b z k : Nat} (hz : ¬ Foot w b z) (cs : Array Value) (h : Foot (w.setRow z cs) b k) : Foot w b k := by
  have hne : b ≠ z := fun e => hz (.inl e.symm)
  have hc0 : (w.setRow z cs).cell? ⟨b, 0, none⟩ = w.cell? ⟨b, 0, none⟩ := World.cell?_of_block (w := w) (setRow_other _ _ _ _ hne)
  rcases h with h | ⟨v, hv, hk⟩
  · exact .inl h
  · rw [hc0] at hv; exact .inr ⟨v, hv, hk⟩
theorem kept_row {w : World} {b g z : Nat} {o : Obj} (h : KeptB w b g o) (hgz : g ≠ z) (hz : ¬ Foot w b z) (cs : Array Value) : KeptB (w.setRow z cs) b g o :=
  ⟨(setRow_other _ _ _ _ hgz).trans h.1, fun hf => h.2 (nfoot_row hz cs hf)⟩
theorem kept_self {w : World} {b z : Nat} {old : Array Value} {t : TypeId} {fr : Nat × Nat} (h : KeptB w b z (.cells old t fr)) (cs : Array Value) : KeptB (w.setRow z cs) b z (.cells cs t fr) :=
  ⟨setRow_heap _ _ _ _ _ _ h.1, fun hf => h.2 (nfoot_row h.2 cs hf)⟩
theorem in_row {w : World} {b z : Nat} {l : List UInt8} {e : Nat} (h : InIs w b l e) (hz : ¬ Foot w b z) (cs : Array Value) : InIs (w.setRow z cs) b l e := by
  obtain ⟨v, hb, hl, hne⟩ := h
  have hbz : b ≠ z := fun e => hz (.inl e.symm)
  refine ⟨v, (setRow_other _ _ _ _ hbz).trans hb, RowAt.other hl (by simp [World.setRow]) (fun j hj => setRow_other _ _ _ _ (fun e => ?_)), hne⟩
  exact hz (.inr ⟨v, block_cell hb 0, by rw [hj, e]⟩)
theorem ostep_row {b : Nat} {w w1 : World} {q : Nat} (h : OStep b w w1) (hp : w.heap.size ≤ q) (hb : b < w.heap.size) (hf : ¬ Foot w1 b q) (cs : Array Value) : OStep b w (w1.setRow q cs) :=
  have hne : q ≠ b := by omega
  ⟨below_setRow h.below (by omega) _, fun k hk hn => by
    obtain ⟨e1, n1⟩ := h.block k hk hn
    exact ⟨(setRow_other _ _ _ _ (by omega)).trans e1, fun hf2 => n1 (nfoot_row hf cs hf2)⟩, fun ht => by
    obtain ⟨⟨cs', t, fr, hc, hs⟩, f1⟩ := h.two ht
    exact ⟨⟨cs', t, fr, (setRow_other _ _ _ _ (Ne.symm hne)).trans hc, hs⟩, fun k hk => f1 k (nfoot_row hf cs hk)⟩⟩
theorem kept_alloc {w : World} {b : Nat} {l : List UInt8} {e : Nat} (h : InIs w b l e) (o : Obj) : KeptB (w.alloc o) b w.heap.size o := ⟨heap_alloc_new _ _, h.new o⟩
theorem OStep.grow {b : Nat} {w w' : World} (h : OStep b w w') : w.heap.size ≤ w'.heap.size := h.below.size
set_option maxHeartbeats 4000000 in
theorem nn8 {w0 : World} {g b z : Nat} {x1 x2 x3 x4 x5 x6 x7 : Nat} {l : List UInt8} {v0 v2 : Value} {Q : Exit → Act → World → Prop} {a : Act} {w : World} (hb0 : b < w0.heap.size) (hg0 : g < w0.heap.size) (hz : w0.heap.size ≤ z)
    (hI : InIs w b l 0) (hs : OStep b w0 w) (hg : KeptB w b g (.cells #[ptr b 0] 111 (0, 0))) (hZ : KeptB w b z (.cells zeroNod.cells 68 (0, 0)))
    (hQ : ∀ d u c a w, Q (.panic c) (a.put d u) w → Q (.panic c) a w) (hF : FrL 40 [(3, ptr z 0), (23, .agg (numN x1 x2 x3 x4 x5 x6 x7).cells), (1, ptr g 0), (0, v0), (2, v2)] a)
    (hE : ∀ z n r a w', numsP8 x1 x2 x3 x4 x5 x6 x7 l = some (n, r) → w0.heap.size ≤ z → FrL 40 [(3, ptr z 0), (1, ptr g 0), (0, v0), (2, v2)] a → InIs w' b r 0 → OStep b w0 w' → KeptB w' b g (.cells #[ptr b 0] 111 (0, 0)) → KeptB w' b z (.cells n.cells 68 (0, 0)) → Q .normal a w') :
    wpAnyH Tryz.prog .any ops_nn1 Q (fun w' : World => w'.heap[g]? = some (.cells #[ptr b 0] 111 (0, 0))) 1 #[true, true, true, true, true, true, true, true, true, true, true, true, true, true, true, true, true, true, true, true, true, false] a w := by
  refine wpAnyH_all (rs := [21]) (by kernel_rfl) (by simp) fun j hj => ?_
  obtain rfl : j = 21 := by simpa using hj
  refine hdo0 (o := ops_nn1[21]'(show 21 < ops_nn1.size by rw [size_nn1]; decide)) (w.setRow z (numN x1 x2 x3 x4 x5 x6 x7).cells) (Array.getElem?_eq_getElem (show 21 < ops_nn1.size by rw [size_nn1]; decide)) (by kernel_rfl) (want_n (by kernel_rfl)) (rrun_store (t := 68) (x := .tmp 3) (y := .tmp 23) (by kernel_rfl) (hF.ev 3 _ rfl) (hF.ev 23 _ rfl) hZ.1 (by kernel_rfl) (by rw [zeroNod_cells]; rfl) (num_one _ _ _ _ _ _ _)) ?_
  have hs' : OStep b w0 (w.setRow z (numN x1 x2 x3 x4 x5 x6 x7).cells) := ostep_row hs hz hb0 hZ.2 _
  have hgz : g ≠ z := by omega
  have hg' : KeptB (w.setRow z (numN x1 x2 x3 x4 x5 x6 x7).cells) b g (.cells #[ptr b 0] 111 (0, 0)) := kept_row hg hgz hZ.2 _
  have hZ' : KeptB (w.setRow z (numN x1 x2 x3 x4 x5 x6 x7).cells) b z (.cells (numN x1 x2 x3 x4 x5 x6 x7).cells 68 (0, 0)) := kept_self hZ _
  refine ⟨hg'.1, ?_⟩
  exact wpAnyH_done (by kernel_rfl) (hE z _ _ _ _ rfl hz (hF.sub [(3, ptr z 0), (1, ptr g 0), (0, v0), (2, v2)] ⟨rfl, rfl, rfl, rfl, trivial⟩) (in_row hI hZ.2 _) hs' hg' hZ') _
set_option maxHeartbeats 4000000 in
theorem nn7a {w0 : World} {g b z : Nat} {x1 x2 x3 x4 x5 x6 x7 : Nat} {l : List UInt8} {v0 v2 : Value} {Q : Exit → Act → World → Prop} {a : Act} {w : World} (hl : l.length ≤ 1000000000) (hb0 : b < w0.heap.size) (hg0 : g < w0.heap.size) (hz : w0.heap.size ≤ z)
    (hI : InIs w b l 0) (hs : OStep b w0 w) (hg : KeptB w b g (.cells #[ptr b 0] 111 (0, 0))) (hZ : KeptB w b z (.cells zeroNod.cells 68 (0, 0)))
    (hQ : ∀ d u c a w, Q (.panic c) (a.put d u) w → Q (.panic c) a w) (hF : FrL 40 [(3, ptr z 0), (5, .int .u64 (x1 : Int)), (8, .int .u32 (x2 : Int)), (11, .int .u32 (x3 : Int)), (14, .int .u32 (x4 : Int)), (17, .int .u32 (x5 : Int)), (19, .int .u64 (x6 : Int)), (21, .int .u64 (x7 : Int)), (4, .agg #[ptr b 0]), (6, .agg #[ptr b 0]), (9, .agg #[ptr b 0]), (12, .agg #[ptr b 0]), (15, .agg #[ptr b 0]), (18, .agg #[ptr b 0]), (20, .agg #[ptr b 0]), (1, ptr g 0), (0, v0), (2, v2)] a)
    (hE : ∀ z n r a w', numsP8 x1 x2 x3 x4 x5 x6 x7 l = some (n, r) → w0.heap.size ≤ z → FrL 40 [(3, ptr z 0), (1, ptr g 0), (0, v0), (2, v2)] a → InIs w' b r 0 → OStep b w0 w' → KeptB w' b g (.cells #[ptr b 0] 111 (0, 0)) → KeptB w' b z (.cells n.cells 68 (0, 0)) → Q .normal a w')
    (hP : ∀ a w', numsP8 x1 x2 x3 x4 x5 x6 x7 l = none → a.defers = [] → OStep b w0 w' → Q (.panic (errChain 2)) a w') :
    wpAnyH Tryz.prog .any ops_nn1 Q (fun w' : World => w'.heap[g]? = some (.cells #[ptr b 0] 111 (0, 0))) 3 #[true, true, true, true, true, true, true, true, true, true, true, true, true, true, true, true, true, true, false, false, true, false] a w := by
  have hS : (fun w' : World => w'.heap[g]? = some (.cells #[ptr b 0] 111 (0, 0))) w := hg.1
  refine hst (i := 18) (o := ops_nn1[18]'(show 18 < ops_nn1.size by rw [size_nn1]; decide)) hF 22 true (.bool (!decide (x7 = 0))) (Array.getElem?_eq_getElem (show 18 < ops_nn1.size by rw [size_nn1]; decide)) (by kernel_rfl) (by decide) (by kernel_rfl) (by kernel_rfl) (by kernel_rfl) (hQ _ _) (want_n (by kernel_rfl)) (fun hW w hS => rrun_bin (op := .neq) (ty := 30) (ty2 := 30) (x := .tmp 21) (y := .const (.int .u64 0)) (u := .int .u64 (x7 : Int)) (v := .int .u64 ((0 : Nat) : Int)) (by kernel_rfl) (hF.ev 21 _ rfl) rfl (by kernel_rfl) (rne_u64 _ _ w)) hS (fun a hF => ?_)
  rw [show cond true (.bool (!decide (x7 = 0))) undef = .bool (!decide (x7 = 0)) from rfl] at hF
  refine hst (i := 19) (o := ops_nn1[19]'(show 19 < ops_nn1.size by rw [size_nn1]; decide)) hF 23 true (.agg (numN x1 x2 x3 x4 x5 x6 x7).cells) (Array.getElem?_eq_getElem (show 19 < ops_nn1.size by rw [size_nn1]; decide)) (by kernel_rfl) (by decide) (by kernel_rfl) (by kernel_rfl) (by kernel_rfl) (hQ _ _) (want_n (by kernel_rfl)) (fun hW w hS => rrun_numbuild (by kernel_rfl) (hF.ev 5 _ rfl) (hF.ev 8 _ rfl) (hF.ev 11 _ rfl) (hF.ev 14 _ rfl) (hF.ev 17 _ rfl) (hF.ev 19 _ rfl) (hF.ev 22 _ rfl)) hS (fun a hF => ?_)
  rw [show cond true (.agg (numN x1 x2 x3 x4 x5 x6 x7).cells) undef = .agg (numN x1 x2 x3 x4 x5 x6 x7).cells from rfl] at hF
  rw [show ((#[true, true, true, true, true, true, true, true, true, true, true, true, true, true, true, true, true, true, false, false, true, false]).setIfInBounds 18 true).setIfInBounds 19 true = #[true, true, true, true, true, true, true, true, true, true, true, true, true, true, true, true, true, true, true, true, true, false] from by kernel_rfl]
  exact nn8 hb0 hg0 hz hI hs hg hZ hQ (hF.sub [(3, ptr z 0), (23, .agg (numN x1 x2 x3 x4 x5 x6 x7).cells), (1, ptr g 0), (0, v0), (2, v2)] ⟨rfl, rfl, rfl, rfl, rfl, trivial⟩) hE
set_option maxHeartbeats 4000000 in
theorem nn7n {w0 : World} {g b : Nat} {x1 x2 x3 x4 x5 x6 x7 : Nat} {l : List UInt8} {v0 v2 : Value} {Q : Exit → Act → World → Prop} {a : Act} {w : World} (hl : l.length ≤ 1000000000) (hb0 : b < w0.heap.size) (hg0 : g < w0.heap.size)
    (hI : InIs w b l 0) (hs : OStep b w0 w) (hg : KeptB w b g (.cells #[ptr b 0] 111 (0, 0)))
    (hQ : ∀ d u c a w, Q (.panic c) (a.put d u) w → Q (.panic c) a w) (hF : FrL 40 [(5, .int .u64 (x1 : Int)), (8, .int .u32 (x2 : Int)), (11, .int .u32 (x3 : Int)), (14, .int .u32 (x4 : Int)), (17, .int .u32 (x5 : Int)), (19, .int .u64 (x6 : Int)), (21, .int .u64 (x7 : Int)), (4, .agg #[ptr b 0]), (6, .agg #[ptr b 0]), (9, .agg #[ptr b 0]), (12, .agg #[ptr b 0]), (15, .agg #[ptr b 0]), (18, .agg #[ptr b 0]), (20, .agg #[ptr b 0]), (1, ptr g 0), (0, v0), (2, v2)] a)
    (hE : ∀ z n r a w', numsP8 x1 x2 x3 x4 x5 x6 x7 l = some (n, r) → w0.heap.size ≤ z → FrL 40 [(3, ptr z 0), (1, ptr g 0), (0, v0), (2, v2)] a → InIs w' b r 0 → OStep b w0 w' → KeptB w' b g (.cells #[ptr b 0] 111 (0, 0)) → KeptB w' b z (.cells n.cells 68 (0, 0)) → Q .normal a w')
    (hP : ∀ a w', numsP8 x1 x2 x3 x4 x5 x6 x7 l = none → a.defers = [] → OStep b w0 w' → Q (.panic (errChain 2)) a w') :
    wpAnyH Tryz.prog .any ops_nn1 Q (fun w' : World => w'.heap[g]? = some (.cells #[ptr b 0] 111 (0, 0))) 4 #[true, true, true, true, true, true, true, true, true, true, true, true, true, true, true, true, true, true, false, false, false, false] a w := by
  have hS : (fun w' : World => w'.heap[g]? = some (.cells #[ptr b 0] 111 (0, 0))) w := hg.1
  refine hst (i := 18) (o := ops_nn1[18]'(show 18 < ops_nn1.size by rw [size_nn1]; decide)) hF 22 true (.bool (!decide (x7 = 0))) (Array.getElem?_eq_getElem (show 18 < ops_nn1.size by rw [size_nn1]; decide)) (by kernel_rfl) (by decide) (by kernel_rfl) (by kernel_rfl) (by kernel_rfl) (hQ _ _) (want_n (by kernel_rfl)) (fun hW w hS => rrun_bin (op := .neq) (ty := 30) (ty2 := 30) (x := .tmp 21) (y := .const (.int .u64 0)) (u := .int .u64 (x7 : Int)) (v := .int .u64 ((0 : Nat) : Int)) (by kernel_rfl) (hF.ev 21 _ rfl) rfl (by kernel_rfl) (rne_u64 _ _ w)) hS (fun a hF => ?_)
  rw [show cond true (.bool (!decide (x7 = 0))) undef = .bool (!decide (x7 = 0)) from rfl] at hF
  refine hst (i := 19) (o := ops_nn1[19]'(show 19 < ops_nn1.size by rw [size_nn1]; decide)) hF 23 true (.agg (numN x1 x2 x3 x4 x5 x6 x7).cells) (Array.getElem?_eq_getElem (show 19 < ops_nn1.size by rw [size_nn1]; decide)) (by kernel_rfl) (by decide) (by kernel_rfl) (by kernel_rfl) (by kernel_rfl) (hQ _ _) (want_n (by kernel_rfl)) (fun hW w hS => rrun_numbuild (by kernel_rfl) (hF.ev 5 _ rfl) (hF.ev 8 _ rfl) (hF.ev 11 _ rfl) (hF.ev 14 _ rfl) (hF.ev 17 _ rfl) (hF.ev 19 _ rfl) (hF.ev 22 _ rfl)) hS (fun a hF => ?_)
  rw [show cond true (.agg (numN x1 x2 x3 x4 x5 x6 x7).cells) undef = .agg (numN x1 x2 x3 x4 x5 x6 x7).cells from rfl] at hF
  refine wpAnyH_all (rs := [20]) (by kernel_rfl) (by simp) fun j hj => ?_
  obtain rfl : j = 20 := by simpa using hj
  have hZ := kept_alloc hI (.cells zeroNod.cells 68)
  have hz : w0.heap.size ≤ w.heap.size := hs.grow
  have hI2 := hI.below ((Below.refl _ _).alloc (Nat.le_refl _) (.cells zeroNod.cells 68))
  have hs2 := hs.trans (OStep.pure hI.lt ((Below.refl _ _).alloc (Nat.le_refl _) (.cells zeroNod.cells 68)))
  have hg2 := hg.step (OStep.pure hI.lt ((Below.refl _ _).alloc (Nat.le_refl _) (.cells zeroNod.cells 68)))
  refine hdo (i := 20) (o := ops_nn1[20]'(show 20 < ops_nn1.size by rw [size_nn1]; decide)) hF 3 (ptr w.heap.size 0) (w.alloc (.cells zeroNod.cells 68)) (Array.getElem?_eq_getElem (show 20 < ops_nn1.size by rw [size_nn1]; decide)) (by kernel_rfl) (by decide) (want_n (by kernel_rfl)) (rrun_alloc (t := 68) (z := .agg zeroNod.cells) (by kernel_rfl) (by kernel_rfl)) (fun a hF => ?_)
  refine ⟨hg2.1, ?_⟩
  rw [show (((#[true, true, true, true, true, true, true, true, true, true, true, true, true, true, true, true, true, true, false, false, false, false]).setIfInBounds 18 true).setIfInBounds 19 true).setIfInBounds 20 true = #[true, true, true, true, true, true, true, true, true, true, true, true, true, true, true, true, true, true, true, true, true, false] from by kernel_rfl]
  exact nn8 hb0 hg0 hz hI2 hs2 hg2 hZ hQ (hF.sub [(3, ptr w.heap.size 0), (23, .agg (numN x1 x2 x3 x4 x5 x6 x7).cells), (1, ptr g 0), (0, v0), (2, v2)] ⟨rfl, rfl, rfl, rfl, rfl, trivial⟩) hE
set_option maxHeartbeats 4000000 in
theorem nn6a {w0 : World} {g b z : Nat} {x1 x2 x3 x4 x5 x6 : Nat} {l : List UInt8} {v0 v2 : Value} {Q : Exit → Act → World → Prop} {a : Act} {w : World} (hl : l.length ≤ 1000000000) (hb0 : b < w0.heap.size) (hg0 : g < w0.heap.size) (hz : w0.heap.size ≤ z)
    (hI : InIs w b l 0) (hs : OStep b w0 w) (hg : KeptB w b g (.cells #[ptr b 0] 111 (0, 0))) (hZ : KeptB w b z (.cells zeroNod.cells 68 (0, 0)))
    (hQ : ∀ d u c a w, Q (.panic c) (a.put d u) w → Q (.panic c) a w) (hF : FrL 40 [(3, ptr z 0), (5, .int .u64 (x1 : Int)), (8, .int .u32 (x2 : Int)), (11, .int .u32 (x3 : Int)), (14, .int .u32 (x4 : Int)), (17, .int .u32 (x5 : Int)), (19, .int .u64 (x6 : Int)), (4, .agg #[ptr b 0]), (6, .agg #[ptr b 0]), (9, .agg #[ptr b 0]), (12, .agg #[ptr b 0]), (15, .agg #[ptr b 0]), (18, .agg #[ptr b 0]), (20, .agg #[ptr b 0]), (1, ptr g 0), (0, v0), (2, v2)] a)
    (hE : ∀ z n r a w', numsP7 x1 x2 x3 x4 x5 x6 l = some (n, r) → w0.heap.size ≤ z → FrL 40 [(3, ptr z 0), (1, ptr g 0), (0, v0), (2, v2)] a → InIs w' b r 0 → OStep b w0 w' → KeptB w' b g (.cells #[ptr b 0] 111 (0, 0)) → KeptB w' b z (.cells n.cells 68 (0, 0)) → Q .normal a w')
    (hP : ∀ a w', numsP7 x1 x2 x3 x4 x5 x6 l = none → a.defers = [] → OStep b w0 w' → Q (.panic (errChain 2)) a w') :
    wpAnyH Tryz.prog .any ops_nn1 Q (fun w' : World => w'.heap[g]? = some (.cells #[ptr b 0] 111 (0, 0))) 4 #[true, true, true, true, true, true, true, true, true, true, true, true, true, true, true, true, true, false, false, false, true, false] a w := by
  have hS : (fun w' : World => w'.heap[g]? = some (.cells #[ptr b 0] 111 (0, 0))) w := hg.1
  refine wpAnyH_all (rs := [17]) (by kernel_rfl) (by simp) fun j hj => ?_
  obtain rfl : j = 17 := by simpa using hj
  refine hdocp (i := 17) (o := ops_nn1[17]'(show 17 < ops_nn1.size by rw [size_nn1]; decide)) (R := fun v w' => ∃ p, numP 1 l = some p ∧ v = .int .u64 (p.1 : Int) ∧ InIs w' b p.2 0 ∧ OStep b w w') hF 21 (Array.getElem?_eq_getElem (show 17 < ops_nn1.size by rw [size_nn1]; decide)) (by kernel_rfl) (by decide) (want_n (by kernel_rfl)) ⟨88, #[.agg #[ptr b 0], .int .i64 ((1 : Nat) : Int)], rrun_call2 (fn := 88) (x := .tmp 20) (y := .const (.int .i64 1)) (t := 111) (u := 3) rfl (by kernel_rfl) (by kernel_rfl) (hF.ev 20 _ rfl) rfl, (nnumber_any b 1 l w (by omega) (by omega) (by omega) hI).mono (by
    rintro e w' (⟨p, hp, rfl, h1, h2⟩ | ⟨hp, rfl, h2⟩)
    · exact .inl ⟨_, rfl, p, hp, rfl, h1, h2⟩
    · exact .inr ⟨_, rfl, hP _ _ (by unfold numsP7; rw [hp]; rfl) hF.df (hs.trans h2)⟩)⟩ ?_
  rintro _ a w2 ⟨p, hp, rfl, hI2, hs2⟩ hF
  have hg2 := hg.step hs2
  refine ⟨hg2.1, ?_⟩
  obtain ⟨_, _, hp3, hp4⟩ := numP_some hp
  rw [show (#[true, true, true, true, true, true, true, true, true, true, true, true, true, true, true, true, true, false, false, false, true, false]).setIfInBounds 17 true = #[true, true, true, true, true, true, true, true, true, true, true, true, true, true, true, true, true, true, false, false, true, false] from by kernel_rfl]
  exact nn7a (by omega) hb0 hg0 hz hI2 (hs.trans hs2) hg2 (hZ.step hs2) hQ (hF.sub [(3, ptr z 0), (5, .int .u64 (x1 : Int)), (8, .int .u32 (x2 : Int)), (11, .int .u32 (x3 : Int)), (14, .int .u32 (x4 : Int)), (17, .int .u32 (x5 : Int)), (19, .int .u64 (x6 : Int)), (21, .int .u64 (p.1 : Int)), (4, .agg #[ptr b 0]), (6, .agg #[ptr b 0]), (9, .agg #[ptr b 0]), (12, .agg #[ptr b 0]), (15, .agg #[ptr b 0]), (18, .agg #[ptr b 0]), (20, .agg #[ptr b 0]), (1, ptr g 0), (0, v0), (2, v2)] ⟨rfl, rfl, rfl, rfl, rfl, rfl, rfl, rfl, rfl, rfl, rfl, rfl, rfl, rfl, rfl, rfl, rfl, rfl, trivial⟩) (fun z n r a w' h => hE z n r a w' (by unfold numsP7; rw [hp]; exact h)) (fun a w' h => hP a w' (by unfold numsP7; rw [hp]; exact h))
set_option maxHeartbeats 4000000 in
theorem nn6n {w0 : World} {g b : Nat} {x1 x2 x3 x4 x5 x6 : Nat} {l : List UInt8} {v0 v2 : Value} {Q : Exit → Act → World → Prop} {a : Act} {w : World} (hl : l.length ≤ 1000000000) (hb0 : b < w0.heap.size) (hg0 : g < w0.heap.size)
    (hI : InIs w b l 0) (hs : OStep b w0 w) (hg : KeptB w b g (.cells #[ptr b 0] 111 (0, 0)))
    (hQ : ∀ d u c a w, Q (.panic c) (a.put d u) w → Q (.panic c) a w) (hF : FrL 40 [(5, .int .u64 (x1 : Int)), (8, .int .u32 (x2 : Int)), (11, .int .u32 (x3 : Int)), (14, .int .u32 (x4 : Int)), (17, .int .u32 (x5 : Int)), (19, .int .u64 (x6 : Int)), (4, .agg #[ptr b 0]), (6, .agg #[ptr b 0]), (9, .agg #[ptr b 0]), (12, .agg #[ptr b 0]), (15, .agg #[ptr b 0]), (18, .agg #[ptr b 0]), (20, .agg #[ptr b 0]), (1, ptr g 0), (0, v0), (2, v2)] a)
    (hE : ∀ z n r a w', numsP7 x1 x2 x3 x4 x5 x6 l = some (n, r) → w0.heap.size ≤ z → FrL 40 [(3, ptr z 0), (1, ptr g 0), (0, v0), (2, v2)] a → InIs w' b r 0 → OStep b w0 w' → KeptB w' b g (.cells #[ptr b 0] 111 (0, 0)) → KeptB w' b z (.cells n.cells 68 (0, 0)) → Q .normal a w')
    (hP : ∀ a w', numsP7 x1 x2 x3 x4 x5 x6 l = none → a.defers = [] → OStep b w0 w' → Q (.panic (errChain 2)) a w') :
    wpAnyH Tryz.prog .any ops_nn1 Q (fun w' : World => w'.heap[g]? = some (.cells #[ptr b 0] 111 (0, 0))) 5 #[true, true, true, true, true, true, true, true, true, true, true, true, true, true, true, true, true, false, false, false, false, false] a w := by
  have hS : (fun w' : World => w'.heap[g]? = some (.cells #[ptr b 0] 111 (0, 0))) w := hg.1
  refine wpAnyH_all (rs := [17, 20]) (by kernel_rfl) (by simp) fun j hj => ?_
  have hj2 : j = 17 ∨ j = 20 := by simpa using hj
  rcases hj2 with rfl | rfl
  · refine hdocp (i := 17) (o := ops_nn1[17]'(show 17 < ops_nn1.size by rw [size_nn1]; decide)) (R := fun v w' => ∃ p, numP 1 l = some p ∧ v = .int .u64 (p.1 : Int) ∧ InIs w' b p.2 0 ∧ OStep b w w') hF 21 (Array.getElem?_eq_getElem (show 17 < ops_nn1.size by rw [size_nn1]; decide)) (by kernel_rfl) (by decide) (want_n (by kernel_rfl)) ⟨88, #[.agg #[ptr b 0], .int .i64 ((1 : Nat) : Int)], rrun_call2 (fn := 88) (x := .tmp 20) (y := .const (.int .i64 1)) (t := 111) (u := 3) rfl (by kernel_rfl) (by kernel_rfl) (hF.ev 20 _ rfl) rfl, (nnumber_any b 1 l w (by omega) (by omega) (by omega) hI).mono (by
      rintro e w' (⟨p, hp, rfl, h1, h2⟩ | ⟨hp, rfl, h2⟩)
      · exact .inl ⟨_, rfl, p, hp, rfl, h1, h2⟩
      · exact .inr ⟨_, rfl, hP _ _ (by unfold numsP7; rw [hp]; rfl) hF.df (hs.trans h2)⟩)⟩ ?_
    rintro _ a w2 ⟨p, hp, rfl, hI2, hs2⟩ hF
    have hg2 := hg.step hs2
    refine ⟨hg2.1, ?_⟩
    obtain ⟨_, _, hp3, hp4⟩ := numP_some hp
    rw [show (#[true, true, true, true, true, true, true, true, true, true, true, true, true, true, true, true, true, false, false, false, false, false]).setIfInBounds 17 true = #[true, true, true, true, true, true, true, true, true, true, true, true, true, true, true, true, true, true, false, false, false, false] from by kernel_rfl]
    exact nn7n (by omega) hb0 hg0 hI2 (hs.trans hs2) hg2 hQ (hF.sub [(5, .int .u64 (x1 : Int)), (8, .int .u32 (x2 : Int)), (11, .int .u32 (x3 : Int)), (14, .int .u32 (x4 : Int)), (17, .int .u32 (x5 : Int)), (19, .int .u64 (x6 : Int)), (21, .int .u64 (p.1 : Int)), (4, .agg #[ptr b 0]), (6, .agg #[ptr b 0]), (9, .agg #[ptr b 0]), (12, .agg #[ptr b 0]), (15, .agg #[ptr b 0]), (18, .agg #[ptr b 0]), (20, .agg #[ptr b 0]), (1, ptr g 0), (0, v0), (2, v2)] ⟨rfl, rfl, rfl, rfl, rfl, rfl, rfl, rfl, rfl, rfl, rfl, rfl, rfl, rfl, rfl, rfl, rfl, trivial⟩) (fun z n r a w' h => hE z n r a w' (by unfold numsP7; rw [hp]; exact h)) (fun a w' h => hP a w' (by unfold numsP7; rw [hp]; exact h))
  · have hZ := kept_alloc hI (.cells zeroNod.cells 68)
    have hz : w0.heap.size ≤ w.heap.size := hs.grow
    have hI2 := hI.below ((Below.refl _ _).alloc (Nat.le_refl _) (.cells zeroNod.cells 68))
    have hs2 := hs.trans (OStep.pure hI.lt ((Below.refl _ _).alloc (Nat.le_refl _) (.cells zeroNod.cells 68)))
    have hg2 := hg.step (OStep.pure hI.lt ((Below.refl _ _).alloc (Nat.le_refl _) (.cells zeroNod.cells 68)))
    refine hdo (i := 20) (o := ops_nn1[20]'(show 20 < ops_nn1.size by rw [size_nn1]; decide)) hF 3 (ptr w.heap.size 0) (w.alloc (.cells zeroNod.cells 68)) (Array.getElem?_eq_getElem (show 20 < ops_nn1.size by rw [size_nn1]; decide)) (by kernel_rfl) (by decide) (want_n (by kernel_rfl)) (rrun_alloc (t := 68) (z := .agg zeroNod.cells) (by kernel_rfl) (by kernel_rfl)) (fun a hF => ?_)
    refine ⟨hg2.1, ?_⟩
    rw [show (#[true, true, true, true, true, true, true, true, true, true, true, true, true, true, true, true, true, false, false, false, false, false]).setIfInBounds 20 true = #[true, true, true, true, true, true, true, true, true, true, true, true, true, true, true, true, true, false, false, false, true, false] from by kernel_rfl]
    exact nn6a hl hb0 hg0 hz hI2 hs2 hg2 hZ hQ (hF.sub [(3, ptr w.heap.size 0), (5, .int .u64 (x1 : Int)), (8, .int .u32 (x2 : Int)), (11, .int .u32 (x3 : Int)), (14, .int .u32 (x4 : Int)), (17, .int .u32 (x5 : Int)), (19, .int .u64 (x6 : Int)), (4, .agg #[ptr b 0]), (6, .agg #[ptr b 0]), (9, .agg #[ptr b 0]), (12, .agg #[ptr b 0]), (15, .agg #[ptr b 0]), (18, .agg #[ptr b 0]), (20, .agg #[ptr b 0]), (1, ptr g 0), (0, v0), (2, v2)] ⟨rfl, rfl, rfl, rfl, rfl, rfl, rfl, rfl, rfl, rfl, rfl, rfl, rfl, rfl, rfl, rfl, rfl, trivial⟩) hE hP
set_option maxHeartbeats 4000000 in
theorem nn5a {w0 : World} {g b z : Nat} {x1 x2 x3 x4 x5 : Nat} {l : List UInt8} {v0 v2 : Value} {Q : Exit → Act → World → Prop} {a : Act} {w : World} (hl : l.length ≤ 1000000000) (hb0 : b < w0.heap.size) (hg0 : g < w0.heap.size) (hz : w0.heap.size ≤ z)
    (hI : InIs w b l 0) (hs : OStep b w0 w) (hg : KeptB w b g (.cells #[ptr b 0] 111 (0, 0))) (hZ : KeptB w b z (.cells zeroNod.cells 68 (0, 0)))
    (hQ : ∀ d u c a w, Q (.panic c) (a.put d u) w → Q (.panic c) a w) (hF : FrL 40 [(3, ptr z 0), (5, .int .u64 (x1 : Int)), (8, .int .u32 (x2 : Int)), (11, .int .u32 (x3 : Int)), (14, .int .u32 (x4 : Int)), (17, .int .u32 (x5 : Int)), (4, .agg #[ptr b 0]), (6, .agg #[ptr b 0]), (9, .agg #[ptr b 0]), (12, .agg #[ptr b 0]), (15, .agg #[ptr b 0]), (18, .agg #[ptr b 0]), (20, .agg #[ptr b 0]), (1, ptr g 0), (0, v0), (2, v2)] a)
    (hE : ∀ z n r a w', numsP6 x1 x2 x3 x4 x5 l = some (n, r) → w0.heap.size ≤ z → FrL 40 [(3, ptr z 0), (1, ptr g 0), (0, v0), (2, v2)] a → InIs w' b r 0 → OStep b w0 w' → KeptB w' b g (.cells #[ptr b 0] 111 (0, 0)) → KeptB w' b z (.cells n.cells 68 (0, 0)) → Q .normal a w')
    (hP : ∀ a w', numsP6 x1 x2 x3 x4 x5 l = none → a.defers = [] → OStep b w0 w' → Q (.panic (errChain 2)) a w') :
    wpAnyH Tryz.prog .any ops_nn1 Q (fun w' : World => w'.heap[g]? = some (.cells #[ptr b 0] 111 (0, 0))) 5 #[true, true, true, true, true, true, true, true, true, true, true, true, true, true, true, false, true, false, false, false, true, false] a w := by
  have hS : (fun w' : World => w'.heap[g]? = some (.cells #[ptr b 0] 111 (0, 0))) w := hg.1
  refine wpAnyH_all (rs := [15]) (by kernel_rfl) (by simp) fun j hj => ?_
  obtain rfl : j = 15 := by simpa using hj
  refine hdocp (i := 15) (o := ops_nn1[15]'(show 15 < ops_nn1.size by rw [size_nn1]; decide)) (R := fun v w' => ∃ p, numP 8 l = some p ∧ v = .int .u64 (p.1 : Int) ∧ InIs w' b p.2 0 ∧ OStep b w w') hF 19 (Array.getElem?_eq_getElem (show 15 < ops_nn1.size by rw [size_nn1]; decide)) (by kernel_rfl) (by decide) (want_n (by kernel_rfl)) ⟨88, #[.agg #[ptr b 0], .int .i64 ((8 : Nat) : Int)], rrun_call2 (fn := 88) (x := .tmp 18) (y := .const (.int .i64 8)) (t := 111) (u := 3) rfl (by kernel_rfl) (by kernel_rfl) (hF.ev 18 _ rfl) rfl, (nnumber_any b 8 l w (by omega) (by omega) (by omega) hI).mono (by
    rintro e w' (⟨p, hp, rfl, h1, h2⟩ | ⟨hp, rfl, h2⟩)
    · exact .inl ⟨_, rfl, p, hp, rfl, h1, h2⟩
    · exact .inr ⟨_, rfl, hP _ _ (by unfold numsP6; rw [hp]; rfl) hF.df (hs.trans h2)⟩)⟩ ?_
  rintro _ a w2 ⟨p, hp, rfl, hI2, hs2⟩ hF
  have hg2 := hg.step hs2
  refine ⟨hg2.1, ?_⟩
  obtain ⟨_, _, hp3, hp4⟩ := numP_some hp
  rw [show (#[true, true, true, true, true, true, true, true, true, true, true, true, true, true, true, false, true, false, false, false, true, false]).setIfInBounds 15 true = #[true, true, true, true, true, true, true, true, true, true, true, true, true, true, true, true, true, false, false, false, true, false] from by kernel_rfl]
  exact nn6a (by omega) hb0 hg0 hz hI2 (hs.trans hs2) hg2 (hZ.step hs2) hQ (hF.sub [(3, ptr z 0), (5, .int .u64 (x1 : Int)), (8, .int .u32 (x2 : Int)), (11, .int .u32 (x3 : Int)), (14, .int .u32 (x4 : Int)), (17, .int .u32 (x5 : Int)), (19, .int .u64 (p.1 : Int)), (4, .agg #[ptr b 0]), (6, .agg #[ptr b 0]), (9, .agg #[ptr b 0]), (12, .agg #[ptr b 0]), (15, .agg #[ptr b 0]), (18, .agg #[ptr b 0]), (20, .agg #[ptr b 0]), (1, ptr g 0), (0, v0), (2, v2)] ⟨rfl, rfl, rfl, rfl, rfl, rfl, rfl, rfl, rfl, rfl, rfl, rfl, rfl, rfl, rfl, rfl, rfl, trivial⟩) (fun z n r a w' h => hE z n r a w' (by unfold numsP6; rw [hp]; exact h)) (fun a w' h => hP a w' (by unfold numsP6; rw [hp]; exact h))
set_option maxHeartbeats 4000000 in
theorem nn5n {w0 : World} {g b : Nat} {x1 x2 x3 x4 x5 : Nat} {l : List UInt8} {v0 v2 : Value} {Q : Exit → Act → World → Prop} {a : Act} {w : World} (hl : l.length ≤ 1000000000) (hb0 : b < w0.heap.size) (hg0 : g < w0.heap.size)
    (hI : InIs w b l 0) (hs : OStep b w0 w) (hg : KeptB w b g (.cells #[ptr b 0] 111 (0, 0)))
    (hQ : ∀ d u c a w, Q (.panic c) (a.put d u) w → Q (.panic c) a w) (hF : FrL 40 [(5, .int .u64 (x1 : Int)), (8, .int .u32 (x2 : Int)), (11, .int .u32 (x3 : Int)), (14, .int .u32 (x4 : Int)), (17, .int .u32 (x5 : Int)), (4, .agg #[ptr b 0]), (6, .agg #[ptr b 0]), (9, .agg #[ptr b 0]), (12, .agg #[ptr b 0]), (15, .agg #[ptr b 0]), (18, .agg #[ptr b 0]), (20, .agg #[ptr b 0]), (1, ptr g 0), (0, v0), (2, v2)] a)
    (hE : ∀ z n r a w', numsP6 x1 x2 x3 x4 x5 l = some (n, r) → w0.heap.size ≤ z → FrL 40 [(3, ptr z 0), (1, ptr g 0), (0, v0), (2, v2)] a → InIs w' b r 0 → OStep b w0 w' → KeptB w' b g (.cells #[ptr b 0] 111 (0, 0)) → KeptB w' b z (.cells n.cells 68 (0, 0)) → Q .normal a w')
    (hP : ∀ a w', numsP6 x1 x2 x3 x4 x5 l = none → a.defers = [] → OStep b w0 w' → Q (.panic (errChain 2)) a w') :
    wpAnyH Tryz.prog .any ops_nn1 Q (fun w' : World => w'.heap[g]? = some (.cells #[ptr b 0] 111 (0, 0))) 6 #[true, true, true, true, true, true, true, true, true, true, true, true, true, true, true, false, true, false, false, false, false, false] a w := by
  have hS : (fun w' : World => w'.heap[g]? = some (.cells #[ptr b 0] 111 (0, 0))) w := hg.1
  refine wpAnyH_all (rs := [15, 20]) (by kernel_rfl) (by simp) fun j hj => ?_
  have hj2 : j = 15 ∨ j = 20 := by simpa using hj
  rcases hj2 with rfl | rfl
  · refine hdocp (i := 15) (o := ops_nn1[15]'(show 15 < ops_nn1.size by rw [size_nn1]; decide)) (R := fun v w' => ∃ p, numP 8 l = some p ∧ v = .int .u64 (p.1 : Int) ∧ InIs w' b p.2 0 ∧ OStep b w w') hF 19 (Array.getElem?_eq_getElem (show 15 < ops_nn1.size by rw [size_nn1]; decide)) (by kernel_rfl) (by decide) (want_n (by kernel_rfl)) ⟨88, #[.agg #[ptr b 0], .int .i64 ((8 : Nat) : Int)], rrun_call2 (fn := 88) (x := .tmp 18) (y := .const (.int .i64 8)) (t := 111) (u := 3) rfl (by kernel_rfl) (by kernel_rfl) (hF.ev 18 _ rfl) rfl, (nnumber_any b 8 l w (by omega) (by omega) (by omega) hI).mono (by
      rintro e w' (⟨p, hp, rfl, h1, h2⟩ | ⟨hp, rfl, h2⟩)
      · exact .inl ⟨_, rfl, p, hp, rfl, h1, h2⟩
      · exact .inr ⟨_, rfl, hP _ _ (by unfold numsP6; rw [hp]; rfl) hF.df (hs.trans h2)⟩)⟩ ?_
    rintro _ a w2 ⟨p, hp, rfl, hI2, hs2⟩ hF
    have hg2 := hg.step hs2
    refine ⟨hg2.1, ?_⟩
    obtain ⟨_, _, hp3, hp4⟩ := numP_some hp
    rw [show (#[true, true, true, true, true, true, true, true, true, true, true, true, true, true, true, false, true, false, false, false, false, false]).setIfInBounds 15 true = #[true, true, true, true, true, true, true, true, true, true, true, true, true, true, true, true, true, false, false, false, false, false] from by kernel_rfl]
    exact nn6n (by omega) hb0 hg0 hI2 (hs.trans hs2) hg2 hQ (hF.sub [(5, .int .u64 (x1 : Int)), (8, .int .u32 (x2 : Int)), (11, .int .u32 (x3 : Int)), (14, .int .u32 (x4 : Int)), (17, .int .u32 (x5 : Int)), (19, .int .u64 (p.1 : Int)), (4, .agg #[ptr b 0]), (6, .agg #[ptr b 0]), (9, .agg #[ptr b 0]), (12, .agg #[ptr b 0]), (15, .agg #[ptr b 0]), (18, .agg #[ptr b 0]), (20, .agg #[ptr b 0]), (1, ptr g 0), (0, v0), (2, v2)] ⟨rfl, rfl, rfl, rfl, rfl, rfl, rfl, rfl, rfl, rfl, rfl, rfl, rfl, rfl, rfl, rfl, trivial⟩) (fun z n r a w' h => hE z n r a w' (by unfold numsP6; rw [hp]; exact h)) (fun a w' h => hP a w' (by unfold numsP6; rw [hp]; exact h))
  · have hZ := kept_alloc hI (.cells zeroNod.cells 68)
    have hz : w0.heap.size ≤ w.heap.size := hs.grow
    have hI2 := hI.below ((Below.refl _ _).alloc (Nat.le_refl _) (.cells zeroNod.cells 68))
    have hs2 := hs.trans (OStep.pure hI.lt ((Below.refl _ _).alloc (Nat.le_refl _) (.cells zeroNod.cells 68)))
    have hg2 := hg.step (OStep.pure hI.lt ((Below.refl _ _).alloc (Nat.le_refl _) (.cells zeroNod.cells 68)))
    refine hdo (i := 20) (o := ops_nn1[20]'(show 20 < ops_nn1.size by rw [size_nn1]; decide)) hF 3 (ptr w.heap.size 0) (w.alloc (.cells zeroNod.cells 68)) (Array.getElem?_eq_getElem (show 20 < ops_nn1.size by rw [size_nn1]; decide)) (by kernel_rfl) (by decide) (want_n (by kernel_rfl)) (rrun_alloc (t := 68) (z := .agg zeroNod.cells) (by kernel_rfl) (by kernel_rfl)) (fun a hF => ?_)
    refine ⟨hg2.1, ?_⟩
    rw [show (#[true, true, true, true, true, true, true, true, true, true, true, true, true, true, true, false, true, false, false, false, false, false]).setIfInBounds 20 true = #[true, true, true, true, true, true, true, true, true, true, true, true, true, true, true, false, true, false, false, false, true, false] from by kernel_rfl]
    exact nn5a hl hb0 hg0 hz hI2 hs2 hg2 hZ hQ (hF.sub [(3, ptr w.heap.size 0), (5, .int .u64 (x1 : Int)), (8, .int .u32 (x2 : Int)), (11, .int .u32 (x3 : Int)), (14, .int .u32 (x4 : Int)), (17, .int .u32 (x5 : Int)), (4, .agg #[ptr b 0]), (6, .agg #[ptr b 0]), (9, .agg #[ptr b 0]), (12, .agg #[ptr b 0]), (15, .agg #[ptr b 0]), (18, .agg #[ptr b 0]), (20, .agg #[ptr b 0]), (1, ptr g 0), (0, v0), (2, v2)] ⟨rfl, rfl, rfl, rfl, rfl, rfl, rfl, rfl, rfl, rfl, rfl, rfl, rfl, rfl, rfl, rfl, trivial⟩) hE hP
set_option maxHeartbeats 4000000 in
theorem nn4a {w0 : World} {g b z : Nat} {x1 x2 x3 x4 : Nat} {l : List UInt8} {v0 v2 : Value} {Q : Exit → Act → World → Prop} {a : Act} {w : World} (hl : l.length ≤ 1000000000) (hb0 : b < w0.heap.size) (hg0 : g < w0.heap.size) (hz : w0.heap.size ≤ z)
    (hI : InIs w b l 0) (hs : OStep b w0 w) (hg : KeptB w b g (.cells #[ptr b 0] 111 (0, 0))) (hZ : KeptB w b z (.cells zeroNod.cells 68 (0, 0)))
    (hQ : ∀ d u c a w, Q (.panic c) (a.put d u) w → Q (.panic c) a w) (hF : FrL 40 [(3, ptr z 0), (5, .int .u64 (x1 : Int)), (8, .int .u32 (x2 : Int)), (11, .int .u32 (x3 : Int)), (14, .int .u32 (x4 : Int)), (4, .agg #[ptr b 0]), (6, .agg #[ptr b 0]), (9, .agg #[ptr b 0]), (12, .agg #[ptr b 0]), (15, .agg #[ptr b 0]), (18, .agg #[ptr b 0]), (20, .agg #[ptr b 0]), (1, ptr g 0), (0, v0), (2, v2)] a)
    (hE : ∀ z n r a w', numsP5 x1 x2 x3 x4 l = some (n, r) → w0.heap.size ≤ z → FrL 40 [(3, ptr z 0), (1, ptr g 0), (0, v0), (2, v2)] a → InIs w' b r 0 → OStep b w0 w' → KeptB w' b g (.cells #[ptr b 0] 111 (0, 0)) → KeptB w' b z (.cells n.cells 68 (0, 0)) → Q .normal a w')
    (hP : ∀ a w', numsP5 x1 x2 x3 x4 l = none → a.defers = [] → OStep b w0 w' → Q (.panic (errChain 2)) a w') :
    wpAnyH Tryz.prog .any ops_nn1 Q (fun w' : World => w'.heap[g]? = some (.cells #[ptr b 0] 111 (0, 0))) 7 #[true, true, true, true, true, true, true, true, true, true, true, true, false, false, true, false, true, false, false, false, true, false] a w := by
  have hS : (fun w' : World => w'.heap[g]? = some (.cells #[ptr b 0] 111 (0, 0))) w := hg.1
  refine wpAnyH_all (rs := [12]) (by kernel_rfl) (by simp) fun j hj => ?_
  obtain rfl : j = 12 := by simpa using hj
  refine hdocp (i := 12) (o := ops_nn1[12]'(show 12 < ops_nn1.size by rw [size_nn1]; decide)) (R := fun v w' => ∃ p, numP 4 l = some p ∧ v = .int .u64 (p.1 : Int) ∧ InIs w' b p.2 0 ∧ OStep b w w') hF 16 (Array.getElem?_eq_getElem (show 12 < ops_nn1.size by rw [size_nn1]; decide)) (by kernel_rfl) (by decide) (want_n (by kernel_rfl)) ⟨88, #[.agg #[ptr b 0], .int .i64 ((4 : Nat) : Int)], rrun_call2 (fn := 88) (x := .tmp 15) (y := .const (.int .i64 4)) (t := 111) (u := 3) rfl (by kernel_rfl) (by kernel_rfl) (hF.ev 15 _ rfl) rfl, (nnumber_any b 4 l w (by omega) (by omega) (by omega) hI).mono (by
    rintro e w' (⟨p, hp, rfl, h1, h2⟩ | ⟨hp, rfl, h2⟩)
    · exact .inl ⟨_, rfl, p, hp, rfl, h1, h2⟩
    · exact .inr ⟨_, rfl, hP _ _ (by unfold numsP5; rw [hp]; rfl) hF.df (hs.trans h2)⟩)⟩ ?_
  rintro _ a w2 ⟨p, hp, rfl, hI2, hs2⟩ hF
  have hg2 := hg.step hs2
  refine ⟨hg2.1, ?_⟩
  obtain ⟨_, _, hp3, hp4⟩ := numP_some hp
  refine hst (i := 13) (o := ops_nn1[13]'(show 13 < ops_nn1.size by rw [size_nn1]; decide)) hF 17 true (.int .u32 (p.1 : Int)) (Array.getElem?_eq_getElem (show 13 < ops_nn1.size by rw [size_nn1]; decide)) (by kernel_rfl) (by decide) (by kernel_rfl) (by kernel_rfl) (by kernel_rfl) (hQ _ _) (want_n (by kernel_rfl)) (fun hW w hS => rrun_cv32 (x := .tmp 16) (by kernel_rfl) (hF.ev 16 _ rfl) (by omega)) hg2.1 (fun a hF => ?_)
  rw [show cond true (.int .u32 (p.1 : Int)) undef = .int .u32 (p.1 : Int) from rfl] at hF
  rw [show ((#[true, true, true, true, true, true, true, true, true, true, true, true, false, false, true, false, true, false, false, false, true, false]).setIfInBounds 12 true).setIfInBounds 13 true = #[true, true, true, true, true, true, true, true, true, true, true, true, true, true, true, false, true, false, false, false, true, false] from by kernel_rfl]
  exact nn5a (by omega) hb0 hg0 hz hI2 (hs.trans hs2) hg2 (hZ.step hs2) hQ (hF.sub [(3, ptr z 0), (5, .int .u64 (x1 : Int)), (8, .int .u32 (x2 : Int)), (11, .int .u32 (x3 : Int)), (14, .int .u32 (x4 : Int)), (17, .int .u32 (p.1 : Int)), (4, .agg #[ptr b 0]), (6, .agg #[ptr b 0]), (9, .agg #[ptr b 0]), (12, .agg #[ptr b 0]), (15, .agg #[ptr b 0]), (18, .agg #[ptr b 0]), (20, .agg #[ptr b 0]), (1, ptr g 0), (0, v0), (2, v2)] ⟨rfl, rfl, rfl, rfl, rfl, rfl, rfl, rfl, rfl, rfl, rfl, rfl, rfl, rfl, rfl, rfl, trivial⟩) (fun z n r a w' h => hE z n r a w' (by unfold numsP5; rw [hp]; exact h)) (fun a w' h => hP a w' (by unfold numsP5; rw [hp]; exact h))
set_option maxHeartbeats 4000000 in
theorem nn4n {w0 : World} {g b : Nat} {x1 x2 x3 x4 : Nat} {l : List UInt8} {v0 v2 : Value} {Q : Exit → Act → World → Prop} {a : Act} {w : World} (hl : l.length ≤ 1000000000) (hb0 : b < w0.heap.size) (hg0 : g < w0.heap.size)
    (hI : InIs w b l 0) (hs : OStep b w0 w) (hg : KeptB w b g (.cells #[ptr b 0] 111 (0, 0)))
    (hQ : ∀ d u c a w, Q (.panic c) (a.put d u) w → Q (.panic c) a w) (hF : FrL 40 [(5, .int .u64 (x1 : Int)), (8, .int .u32 (x2 : Int)), (11, .int .u32 (x3 : Int)), (14, .int .u32 (x4 : Int)), (4, .agg #[ptr b 0]), (6, .agg #[ptr b 0]), (9, .agg #[ptr b 0]), (12, .agg #[ptr b 0]), (15, .agg #[ptr b 0]), (18, .agg #[ptr b 0]), (20, .agg #[ptr b 0]), (1, ptr g 0), (0, v0), (2, v2)] a)
    (hE : ∀ z n r a w', numsP5 x1 x2 x3 x4 l = some (n, r) → w0.heap.size ≤ z → FrL 40 [(3, ptr z 0), (1, ptr g 0), (0, v0), (2, v2)] a → InIs w' b r 0 → OStep b w0 w' → KeptB w' b g (.cells #[ptr b 0] 111 (0, 0)) → KeptB w' b z (.cells n.cells 68 (0, 0)) → Q .normal a w')
    (hP : ∀ a w', numsP5 x1 x2 x3 x4 l = none → a.defers = [] → OStep b w0 w' → Q (.panic (errChain 2)) a w') :
    wpAnyH Tryz.prog .any ops_nn1 Q (fun w' : World => w'.heap[g]? = some (.cells #[ptr b 0] 111 (0, 0))) 8 #[true, true, true, true, true, true, true, true, true, true, true, true, false, false, true, false, true, false, false, false, false, false] a w := by
  have hS : (fun w' : World => w'.heap[g]? = some (.cells #[ptr b 0] 111 (0, 0))) w := hg.1
  refine wpAnyH_all (rs := [12, 20]) (by kernel_rfl) (by simp) fun j hj => ?_
  have hj2 : j = 12 ∨ j = 20 := by simpa using hj
  rcases hj2 with rfl | rfl
  · refine hdocp (i := 12) (o := ops_nn1[12]'(show 12 < ops_nn1.size by rw [size_nn1]; decide)) (R := fun v w' => ∃ p, numP 4 l = some p ∧ v = .int .u64 (p.1 : Int) ∧ InIs w' b p.2 0 ∧ OStep b w w') hF 16 (Array.getElem?_eq_getElem (show 12 < ops_nn1.size by rw [size_nn1]; decide)) (by kernel_rfl) (by decide) (want_n (by kernel_rfl)) ⟨88, #[.agg #[ptr b 0], .int .i64 ((4 : Nat) : Int)], rrun_call2 (fn := 88) (x := .tmp 15) (y := .const (.int .i64 4)) (t := 111) (u := 3) rfl (by kernel_rfl) (by kernel_rfl) (hF.ev 15 _ rfl) rfl, (nnumber_any b 4 l w (by omega) (by omega) (by omega) hI).mono (by
      rintro e w' (⟨p, hp, rfl, h1, h2⟩ | ⟨hp, rfl, h2⟩)
      · exact .inl ⟨_, rfl, p, hp, rfl, h1, h2⟩
      · exact .inr ⟨_, rfl, hP _ _ (by unfold numsP5; rw [hp]; rfl) hF.df (hs.trans h2)⟩)⟩ ?_
    rintro _ a w2 ⟨p, hp, rfl, hI2, hs2⟩ hF
    have hg2 := hg.step hs2
    refine ⟨hg2.1, ?_⟩
    obtain ⟨_, _, hp3, hp4⟩ := numP_some hp
    refine hst (i := 13) (o := ops_nn1[13]'(show 13 < ops_nn1.size by rw [size_nn1]; decide)) hF 17 true (.int .u32 (p.1 : Int)) (Array.getElem?_eq_getElem (show 13 < ops_nn1.size by rw [size_nn1]; decide)) (by kernel_rfl) (by decide) (by kernel_rfl) (by kernel_rfl) (by kernel_rfl) (hQ _ _) (want_n (by kernel_rfl)) (fun hW w hS => rrun_cv32 (x := .tmp 16) (by kernel_rfl) (hF.ev 16 _ rfl) (by omega)) hg2.1 (fun a hF => ?_)
    rw [show cond true (.int .u32 (p.1 : Int)) undef = .int .u32 (p.1 : Int) from rfl] at hF
    rw [show ((#[true, true, true, true, true, true, true, true, true, true, true, true, false, false, true, false, true, false, false, false, false, false]).setIfInBounds 12 true).setIfInBounds 13 true = #[true, true, true, true, true, true, true, true, true, true, true, true, true, true, true, false, true, false, false, false, false, false] from by kernel_rfl]
    exact nn5n (by omega) hb0 hg0 hI2 (hs.trans hs2) hg2 hQ (hF.sub [(5, .int .u64 (x1 : Int)), (8, .int .u32 (x2 : Int)), (11, .int .u32 (x3 : Int)), (14, .int .u32 (x4 : Int)), (17, .int .u32 (p.1 : Int)), (4, .agg #[ptr b 0]), (6, .agg #[ptr b 0]), (9, .agg #[ptr b 0]), (12, .agg #[ptr b 0]), (15, .agg #[ptr b 0]), (18, .agg #[ptr b 0]), (20, .agg #[ptr b 0]), (1, ptr g 0), (0, v0), (2, v2)] ⟨rfl, rfl, rfl, rfl, rfl, rfl, rfl, rfl, rfl, rfl, rfl, rfl, rfl, rfl, rfl, trivial⟩) (fun z n r a w' h => hE z n r a w' (by unfold numsP5; rw [hp]; exact h)) (fun a w' h => hP a w' (by unfold numsP5; rw [hp]; exact h))
  · have hZ := kept_alloc hI (.cells zeroNod.cells 68)
    have hz : w0.heap.size ≤ w.heap.size := hs.grow
    have hI2 := hI.below ((Below.refl _ _).alloc (Nat.le_refl _) (.cells zeroNod.cells 68))
    have hs2 := hs.trans (OStep.pure hI.lt ((Below.refl _ _).alloc (Nat.le_refl _) (.cells zeroNod.cells 68)))
    have hg2 := hg.step (OStep.pure hI.lt ((Below.refl _ _).alloc (Nat.le_refl _) (.cells zeroNod.cells 68)))
    refine hdo (i := 20) (o := ops_nn1[20]'(show 20 < ops_nn1.size by rw [size_nn1]; decide)) hF 3 (ptr w.heap.size 0) (w.alloc (.cells zeroNod.cells 68)) (Array.getElem?_eq_getElem (show 20 < ops_nn1.size by rw [size_nn1]; decide)) (by kernel_rfl) (by decide) (want_n (by kernel_rfl)) (rrun_alloc (t := 68) (z := .agg zeroNod.cells) (by kernel_rfl) (by kernel_rfl)) (fun a hF => ?_)
    refine ⟨hg2.1, ?_⟩
    rw [show (#[true, true, true, true, true, true, true, true, true, true, true, true, false, false, true, false, true, false, false, false, false, false]).setIfInBounds 20 true = #[true, true, true, true, true, true, true, true, true, true, true, true, false, false, true, false, true, false, false, false, true, false] from by kernel_rfl]
    exact nn4a hl hb0 hg0 hz hI2 hs2 hg2 hZ hQ (hF.sub [(3, ptr w.heap.size 0), (5, .int .u64 (x1 : Int)), (8, .int .u32 (x2 : Int)), (11, .int .u32 (x3 : Int)), (14, .int .u32 (x4 : Int)), (4, .agg #[ptr b 0]), (6, .agg #[ptr b 0]), (9, .agg #[ptr b 0]), (12, .agg #[ptr b 0]), (15, .agg #[ptr b 0]), (18, .agg #[ptr b 0]), (20, .agg #[ptr b 0]), (1, ptr g 0), (0, v0), (2, v2)] ⟨rfl, rfl, rfl, rfl, rfl, rfl, rfl, rfl, rfl, rfl, rfl, rfl, rfl, rfl, rfl, trivial⟩) hE hP
set_option maxHeartbeats 4000000 in
theorem nn3a {w0 : World} {g b z : Nat} {x1 x2 x3 : Nat} {l : List UInt8} {v0 v2 : Value} {Q : Exit → Act → World → Prop} {a : Act} {w : World} (hl : l.length ≤ 1000000000) (hb0 : b < w0.heap.size) (hg0 : g < w0.heap.size) (hz : w0.heap.size ≤ z)
    (hI : InIs w b l 0) (hs : OStep b w0 w) (hg : KeptB w b g (.cells #[ptr b 0] 111 (0, 0))) (hZ : KeptB w b z (.cells zeroNod.cells 68 (0, 0)))
    (hQ : ∀ d u c a w, Q (.panic c) (a.put d u) w → Q (.panic c) a w) (hF : FrL 40 [(3, ptr z 0), (5, .int .u64 (x1 : Int)), (8, .int .u32 (x2 : Int)), (11, .int .u32 (x3 : Int)), (4, .agg #[ptr b 0]), (6, .agg #[ptr b 0]), (9, .agg #[ptr b 0]), (12, .agg #[ptr b 0]), (15, .agg #[ptr b 0]), (18, .agg #[ptr b 0]), (20, .agg #[ptr b 0]), (1, ptr g 0), (0, v0), (2, v2)] a)
    (hE : ∀ z n r a w', numsP4 x1 x2 x3 l = some (n, r) → w0.heap.size ≤ z → FrL 40 [(3, ptr z 0), (1, ptr g 0), (0, v0), (2, v2)] a → InIs w' b r 0 → OStep b w0 w' → KeptB w' b g (.cells #[ptr b 0] 111 (0, 0)) → KeptB w' b z (.cells n.cells 68 (0, 0)) → Q .normal a w')
    (hP : ∀ a w', numsP4 x1 x2 x3 l = none → a.defers = [] → OStep b w0 w' → Q (.panic (errChain 2)) a w') :
    wpAnyH Tryz.prog .any ops_nn1 Q (fun w' : World => w'.heap[g]? = some (.cells #[ptr b 0] 111 (0, 0))) 9 #[true, true, true, true, true, true, true, true, true, false, false, true, false, false, true, false, true, false, false, false, true, false] a w := by
  have hS : (fun w' : World => w'.heap[g]? = some (.cells #[ptr b 0] 111 (0, 0))) w := hg.1
  refine wpAnyH_all (rs := [9]) (by kernel_rfl) (by simp) fun j hj => ?_
  obtain rfl : j = 9 := by simpa using hj
  refine hdocp (i := 9) (o := ops_nn1[9]'(show 9 < ops_nn1.size by rw [size_nn1]; decide)) (R := fun v w' => ∃ p, numP 4 l = some p ∧ v = .int .u64 (p.1 : Int) ∧ InIs w' b p.2 0 ∧ OStep b w w') hF 13 (Array.getElem?_eq_getElem (show 9 < ops_nn1.size by rw [size_nn1]; decide)) (by kernel_rfl) (by decide) (want_n (by kernel_rfl)) ⟨88, #[.agg #[ptr b 0], .int .i64 ((4 : Nat) : Int)], rrun_call2 (fn := 88) (x := .tmp 12) (y := .const (.int .i64 4)) (t := 111) (u := 3) rfl (by kernel_rfl) (by kernel_rfl) (hF.ev 12 _ rfl) rfl, (nnumber_any b 4 l w (by omega) (by omega) (by omega) hI).mono (by
    rintro e w' (⟨p, hp, rfl, h1, h2⟩ | ⟨hp, rfl, h2⟩)
    · exact .inl ⟨_, rfl, p, hp, rfl, h1, h2⟩
    · exact .inr ⟨_, rfl, hP _ _ (by unfold numsP4; rw [hp]; rfl) hF.df (hs.trans h2)⟩)⟩ ?_
  rintro _ a w2 ⟨p, hp, rfl, hI2, hs2⟩ hF
  have hg2 := hg.step hs2
  refine ⟨hg2.1, ?_⟩
  obtain ⟨_, _, hp3, hp4⟩ := numP_some hp
  refine hst (i := 10) (o := ops_nn1[10]'(show 10 < ops_nn1.size by rw [size_nn1]; decide)) hF 14 true (.int .u32 (p.1 : Int)) (Array.getElem?_eq_getElem (show 10 < ops_nn1.size by rw [size_nn1]; decide)) (by kernel_rfl) (by decide) (by kernel_rfl) (by kernel_rfl) (by kernel_rfl) (hQ _ _) (want_n (by kernel_rfl)) (fun hW w hS => rrun_cv32 (x := .tmp 13) (by kernel_rfl) (hF.ev 13 _ rfl) (by omega)) hg2.1 (fun a hF => ?_)
  rw [show cond true (.int .u32 (p.1 : Int)) undef = .int .u32 (p.1 : Int) from rfl] at hF
  rw [show ((#[true, true, true, true, true, true, true, true, true, false, false, true, false, false, true, false, true, false, false, false, true, false]).setIfInBounds 9 true).setIfInBounds 10 true = #[true, true, true, true, true, true, true, true, true, true, true, true, false, false, true, false, true, false, false, false, true, false] from by kernel_rfl]
  exact nn4a (by omega) hb0 hg0 hz hI2 (hs.trans hs2) hg2 (hZ.step hs2) hQ (hF.sub [(3, ptr z 0), (5, .int .u64 (x1 : Int)), (8, .int .u32 (x2 : Int)), (11, .int .u32 (x3 : Int)), (14, .int .u32 (p.1 : Int)), (4, .agg #[ptr b 0]), (6, .agg #[ptr b 0]), (9, .agg #[ptr b 0]), (12, .agg #[ptr b 0]), (15, .agg #[ptr b 0]), (18, .agg #[ptr b 0]), (20, .agg #[ptr b 0]), (1, ptr g 0), (0, v0), (2, v2)] ⟨rfl, rfl, rfl, rfl, rfl, rfl, rfl, rfl, rfl, rfl, rfl, rfl, rfl, rfl, rfl, trivial⟩) (fun z n r a w' h => hE z n r a w' (by unfold numsP4; rw [hp]; exact h)) (fun a w' h => hP a w' (by unfold numsP4; rw [hp]; exact h))
set_option maxHeartbeats 4000000 in
theorem nn3n {w0 : World} {g b : Nat} {x1 x2 x3 : Nat} {l : List UInt8} {v0 v2 : Value} {Q : Exit → Act → World → Prop} {a : Act} {w : World} (hl : l.length ≤ 1000000000) (hb0 : b < w0.heap.size) (hg0 : g < w0.heap.size)
    (hI : InIs w b l 0) (hs : OStep b w0 w) (hg : KeptB w b g (.cells #[ptr b 0] 111 (0, 0)))
    (hQ : ∀ d u c a w, Q (.panic c) (a.put d u) w → Q (.panic c) a w) (hF : FrL 40 [(5, .int .u64 (x1 : Int)), (8, .int .u32 (x2 : Int)), (11, .int .u32 (x3 : Int)), (4, .agg #[ptr b 0]), (6, .agg #[ptr b 0]), (9, .agg #[ptr b 0]), (12, .agg #[ptr b 0]), (15, .agg #[ptr b 0]), (18, .agg #[ptr b 0]), (20, .agg #[ptr b 0]), (1, ptr g 0), (0, v0), (2, v2)] a)
    (hE : ∀ z n r a w', numsP4 x1 x2 x3 l = some (n, r) → w0.heap.size ≤ z → FrL 40 [(3, ptr z 0), (1, ptr g 0), (0, v0), (2, v2)] a → InIs w' b r 0 → OStep b w0 w' → KeptB w' b g (.cells #[ptr b 0] 111 (0, 0)) → KeptB w' b z (.cells n.cells 68 (0, 0)) → Q .normal a w')
    (hP : ∀ a w', numsP4 x1 x2 x3 l = none → a.defers = [] → OStep b w0 w' → Q (.panic (errChain 2)) a w') :
    wpAnyH Tryz.prog .any ops_nn1 Q (fun w' : World => w'.heap[g]? = some (.cells #[ptr b 0] 111 (0, 0))) 10 #[true, true, true, true, true, true, true, true, true, false, false, true, false, false, true, false, true, false, false, false, false, false] a w := by
  have hS : (fun w' : World => w'.heap[g]? = some (.cells #[ptr b 0] 111 (0, 0))) w := hg.1
  refine wpAnyH_all (rs := [9, 20]) (by kernel_rfl) (by simp) fun j hj => ?_
  have hj2 : j = 9 ∨ j = 20 := by simpa using hj
  rcases hj2 with rfl | rfl
  · refine hdocp (i := 9) (o := ops_nn1[9]'(show 9 < ops_nn1.size by rw [size_nn1]; decide)) (R := fun v w' => ∃ p, numP 4 l = some p ∧ v = .int .u64 (p.1 : Int) ∧ InIs w' b p.2 0 ∧ OStep b w w') hF 13 (Array.getElem?_eq_getElem (show 9 < ops_nn1.size by rw [size_nn1]; decide)) (by kernel_rfl) (by decide) (want_n (by kernel_rfl)) ⟨88, #[.agg #[ptr b 0], .int .i64 ((4 : Nat) : Int)], rrun_call2 (fn := 88) (x := .tmp 12) (y := .const (.int .i64 4)) (t := 111) (u := 3) rfl (by kernel_rfl) (by kernel_rfl) (hF.ev 12 _ rfl) rfl, (nnumber_any b 4 l w (by omega) (by omega) (by omega) hI).mono (by
      rintro e w' (⟨p, hp, rfl, h1, h2⟩ | ⟨hp, rfl, h2⟩)
      · exact .inl ⟨_, rfl, p, hp, rfl, h1, h2⟩
      · exact .inr ⟨_, rfl, hP _ _ (by unfold numsP4; rw [hp]; rfl) hF.df (hs.trans h2)⟩)⟩ ?_
    rintro _ a w2 ⟨p, hp, rfl, hI2, hs2⟩ hF
    have hg2 := hg.step hs2
    refine ⟨hg2.1, ?_⟩
    obtain ⟨_, _, hp3, hp4⟩ := numP_some hp
    refine hst (i := 10) (o := ops_nn1[10]'(show 10 < ops_nn1.size by rw [size_nn1]; decide)) hF 14 true (.int .u32 (p.1 : Int)) (Array.getElem?_eq_getElem (show 10 < ops_nn1.size by rw [size_nn1]; decide)) (by kernel_rfl) (by decide) (by kernel_rfl) (by kernel_rfl) (by kernel_rfl) (hQ _ _) (want_n (by kernel_rfl)) (fun hW w hS => rrun_cv32 (x := .tmp 13) (by kernel_rfl) (hF.ev 13 _ rfl) (by omega)) hg2.1 (fun a hF => ?_)
    rw [show cond true (.int .u32 (p.1 : Int)) undef = .int .u32 (p.1 : Int) from rfl] at hF
    rw [show ((#[true, true, true, true, true, true, true, true, true, false, false, true, false, false, true, false, true, false, false, false, false, false]).setIfInBounds 9 true).setIfInBounds 10 true = #[true, true, true, true, true, true, true, true, true, true, true, true, false, false, true, false, true, false, false, false, false, false] from by kernel_rfl]
    exact nn4n (by omega) hb0 hg0 hI2 (hs.trans hs2) hg2 hQ (hF.sub [(5, .int .u64 (x1 : Int)), (8, .int .u32 (x2 : Int)), (11, .int .u32 (x3 : Int)), (14, .int .u32 (p.1 : Int)), (4, .agg #[ptr b 0]), (6, .agg #[ptr b 0]), (9, .agg #[ptr b 0]), (12, .agg #[ptr b 0]), (15, .agg #[ptr b 0]), (18, .agg #[ptr b 0]), (20, .agg #[ptr b 0]), (1, ptr g 0), (0, v0), (2, v2)] ⟨rfl, rfl, rfl, rfl, rfl, rfl, rfl, rfl, rfl, rfl, rfl, rfl, rfl, rfl, trivial⟩) (fun z n r a w' h => hE z n r a w' (by unfold numsP4; rw [hp]; exact h)) (fun a w' h => hP a w' (by unfold numsP4; rw [hp]; exact h))
  · have hZ := kept_alloc hI (.cells zeroNod.cells 68)
    have hz : w0.heap.size ≤ w.heap.size := hs.grow
    have hI2 := hI.below ((Below.refl _ _).alloc (Nat.le_refl _) (.cells zeroNod.cells 68))
    have hs2 := hs.trans (OStep.pure hI.lt ((Below.refl _ _).alloc (Nat.le_refl _) (.cells zeroNod.cells 68)))
    have hg2 := hg.step (OStep.pure hI.lt ((Below.refl _ _).alloc (Nat.le_refl _) (.cells zeroNod.cells 68)))
    refine hdo (i := 20) (o := ops_nn1[20]'(show 20 < ops_nn1.size by rw [size_nn1]; decide)) hF 3 (ptr w.heap.size 0) (w.alloc (.cells zeroNod.cells 68)) (Array.getElem?_eq_getElem (show 20 < ops_nn1.size by rw [size_nn1]; decide)) (by kernel_rfl) (by decide) (want_n (by kernel_rfl)) (rrun_alloc (t := 68) (z := .agg zeroNod.cells) (by kernel_rfl) (by kernel_rfl)) (fun a hF => ?_)
    refine ⟨hg2.1, ?_⟩
    rw [show (#[true, true, true, true, true, true, true, true, true, false, false, true, false, false, true, false, true, false, false, false, false, false]).setIfInBounds 20 true = #[true, true, true, true, true, true, true, true, true, false, false, true, false, false, true, false, true, false, false, false, true, false] from by kernel_rfl]
    exact nn3a hl hb0 hg0 hz hI2 hs2 hg2 hZ hQ (hF.sub [(3, ptr w.heap.size 0), (5, .int .u64 (x1 : Int)), (8, .int .u32 (x2 : Int)), (11, .int .u32 (x3 : Int)), (4, .agg #[ptr b 0]), (6, .agg #[ptr b 0]), (9, .agg #[ptr b 0]), (12, .agg #[ptr b 0]), (15, .agg #[ptr b 0]), (18, .agg #[ptr b 0]), (20, .agg #[ptr b 0]), (1, ptr g 0), (0, v0), (2, v2)] ⟨rfl, rfl, rfl, rfl, rfl, rfl, rfl, rfl, rfl, rfl, rfl, rfl, rfl, rfl, trivial⟩) hE hP
set_option maxHeartbeats 4000000 in
theorem nn2a {w0 : World} {g b z : Nat} {x1 x2 : Nat} {l : List UInt8} {v0 v2 : Value} {Q : Exit → Act → World → Prop} {a : Act} {w : World} (hl : l.length ≤ 1000000000) (hb0 : b < w0.heap.size) (hg0 : g < w0.heap.size) (hz : w0.heap.size ≤ z)
    (hI : InIs w b l 0) (hs : OStep b w0 w) (hg : KeptB w b g (.cells #[ptr b 0] 111 (0, 0))) (hZ : KeptB w b z (.cells zeroNod.cells 68 (0, 0)))
    (hQ : ∀ d u c a w, Q (.panic c) (a.put d u) w → Q (.panic c) a w) (hF : FrL 40 [(3, ptr z 0), (5, .int .u64 (x1 : Int)), (8, .int .u32 (x2 : Int)), (4, .agg #[ptr b 0]), (6, .agg #[ptr b 0]), (9, .agg #[ptr b 0]), (12, .agg #[ptr b 0]), (15, .agg #[ptr b 0]), (18, .agg #[ptr b 0]), (20, .agg #[ptr b 0]), (1, ptr g 0), (0, v0), (2, v2)] a)
    (hE : ∀ z n r a w', numsP3 x1 x2 l = some (n, r) → w0.heap.size ≤ z → FrL 40 [(3, ptr z 0), (1, ptr g 0), (0, v0), (2, v2)] a → InIs w' b r 0 → OStep b w0 w' → KeptB w' b g (.cells #[ptr b 0] 111 (0, 0)) → KeptB w' b z (.cells n.cells 68 (0, 0)) → Q .normal a w')
    (hP : ∀ a w', numsP3 x1 x2 l = none → a.defers = [] → OStep b w0 w' → Q (.panic (errChain 2)) a w') :
    wpAnyH Tryz.prog .any ops_nn1 Q (fun w' : World => w'.heap[g]? = some (.cells #[ptr b 0] 111 (0, 0))) 11 #[true, true, true, true, true, true, false, false, true, false, false, true, false, false, true, false, true, false, false, false, true, false] a w := by
  have hS : (fun w' : World => w'.heap[g]? = some (.cells #[ptr b 0] 111 (0, 0))) w := hg.1
  refine wpAnyH_all (rs := [6]) (by kernel_rfl) (by simp) fun j hj => ?_
  obtain rfl : j = 6 := by simpa using hj
  refine hdocp (i := 6) (o := ops_nn1[6]'(show 6 < ops_nn1.size by rw [size_nn1]; decide)) (R := fun v w' => ∃ p, numP 4 l = some p ∧ v = .int .u64 (p.1 : Int) ∧ InIs w' b p.2 0 ∧ OStep b w w') hF 10 (Array.getElem?_eq_getElem (show 6 < ops_nn1.size by rw [size_nn1]; decide)) (by kernel_rfl) (by decide) (want_n (by kernel_rfl)) ⟨88, #[.agg #[ptr b 0], .int .i64 ((4 : Nat) : Int)], rrun_call2 (fn := 88) (x := .tmp 9) (y := .const (.int .i64 4)) (t := 111) (u := 3) rfl (by kernel_rfl) (by kernel_rfl) (hF.ev 9 _ rfl) rfl, (nnumber_any b 4 l w (by omega) (by omega) (by omega) hI).mono (by
    rintro e w' (⟨p, hp, rfl, h1, h2⟩ | ⟨hp, rfl, h2⟩)
    · exact .inl ⟨_, rfl, p, hp, rfl, h1, h2⟩
    · exact .inr ⟨_, rfl, hP _ _ (by unfold numsP3; rw [hp]; rfl) hF.df (hs.trans h2)⟩)⟩ ?_
  rintro _ a w2 ⟨p, hp, rfl, hI2, hs2⟩ hF
  have hg2 := hg.step hs2
  refine ⟨hg2.1, ?_⟩
  obtain ⟨_, _, hp3, hp4⟩ := numP_some hp
  refine hst (i := 7) (o := ops_nn1[7]'(show 7 < ops_nn1.size by rw [size_nn1]; decide)) hF 11 true (.int .u32 (p.1 : Int)) (Array.getElem?_eq_getElem (show 7 < ops_nn1.size by rw [size_nn1]; decide)) (by kernel_rfl) (by decide) (by kernel_rfl) (by kernel_rfl) (by kernel_rfl) (hQ _ _) (want_n (by kernel_rfl)) (fun hW w hS => rrun_cv32 (x := .tmp 10) (by kernel_rfl) (hF.ev 10 _ rfl) (by omega)) hg2.1 (fun a hF => ?_)
  rw [show cond true (.int .u32 (p.1 : Int)) undef = .int .u32 (p.1 : Int) from rfl] at hF
  rw [show ((#[true, true, true, true, true, true, false, false, true, false, false, true, false, false, true, false, true, false, false, false, true, false]).setIfInBounds 6 true).setIfInBounds 7 true = #[true, true, true, true, true, true, true, true, true, false, false, true, false, false, true, false, true, false, false, false, true, false] from by kernel_rfl]
  exact nn3a (by omega) hb0 hg0 hz hI2 (hs.trans hs2) hg2 (hZ.step hs2) hQ (hF.sub [(3, ptr z 0), (5, .int .u64 (x1 : Int)), (8, .int .u32 (x2 : Int)), (11, .int .u32 (p.1 : Int)), (4, .agg #[ptr b 0]), (6, .agg #[ptr b 0]), (9, .agg #[ptr b 0]), (12, .agg #[ptr b 0]), (15, .agg #[ptr b 0]), (18, .agg #[ptr b 0]), (20, .agg #[ptr b 0]), (1, ptr g 0), (0, v0), (2, v2)] ⟨rfl, rfl, rfl, rfl, rfl, rfl, rfl, rfl, rfl, rfl, rfl, rfl, rfl, rfl, trivial⟩) (fun z n r a w' h => hE z n r a w' (by unfold numsP3; rw [hp]; exact h)) (fun a w' h => hP a w' (by unfold numsP3; rw [hp]; exact h))
set_option maxHeartbeats 4000000 in
theorem nn2n {w0 : World} {g b : Nat} {x1 x2 : Nat} {l : List UInt8} {v0 v2 : Value} {Q : Exit → Act → World → Prop} {a : Act} {w : World} (hl : l.length ≤ 1000000000) (hb0 : b < w0.heap.size) (hg0 : g < w0.heap.size)
    (hI : InIs w b l 0) (hs : OStep b w0 w) (hg : KeptB w b g (.cells #[ptr b 0] 111 (0, 0)))
    (hQ : ∀ d u c a w, Q (.panic c) (a.put d u) w → Q (.panic c) a w) (hF : FrL 40 [(5, .int .u64 (x1 : Int)), (8, .int .u32 (x2 : Int)), (4, .agg #[ptr b 0]), (6, .agg #[ptr b 0]), (9, .agg #[ptr b 0]), (12, .agg #[ptr b 0]), (15, .agg #[ptr b 0]), (18, .agg #[ptr b 0]), (20, .agg #[ptr b 0]), (1, ptr g 0), (0, v0), (2, v2)] a)
    (hE : ∀ z n r a w', numsP3 x1 x2 l = some (n, r) → w0.heap.size ≤ z → FrL 40 [(3, ptr z 0), (1, ptr g 0), (0, v0), (2, v2)] a → InIs w' b r 0 → OStep b w0 w' → KeptB w' b g (.cells #[ptr b 0] 111 (0, 0)) → KeptB w' b z (.cells n.cells 68 (0, 0)) → Q .normal a w')
    (hP : ∀ a w', numsP3 x1 x2 l = none → a.defers = [] → OStep b w0 w' → Q (.panic (errChain 2)) a w') :
    wpAnyH Tryz.prog .any ops_nn1 Q (fun w' : World => w'.heap[g]? = some (.cells #[ptr b 0] 111 (0, 0))) 12 #[true, true, true, true, true, true, false, false, true, false, false, true, false, false, true, false, true, false, false, false, false, false] a w := by
  have hS : (fun w' : World => w'.heap[g]? = some (.cells #[ptr b 0] 111 (0, 0))) w := hg.1
  refine wpAnyH_all (rs := [6, 20]) (by kernel_rfl) (by simp) fun j hj => ?_
  have hj2 : j = 6 ∨ j = 20 := by simpa using hj
  rcases hj2 with rfl | rfl
  · refine hdocp (i := 6) (o := ops_nn1[6]'(show 6 < ops_nn1.size by rw [size_nn1]; decide)) (R := fun v w' => ∃ p, numP 4 l = some p ∧ v = .int .u64 (p.1 : Int) ∧ InIs w' b p.2 0 ∧ OStep b w w') hF 10 (Array.getElem?_eq_getElem (show 6 < ops_nn1.size by rw [size_nn1]; decide)) (by kernel_rfl) (by decide) (want_n (by kernel_rfl)) ⟨88, #[.agg #[ptr b 0], .int .i64 ((4 : Nat) : Int)], rrun_call2 (fn := 88) (x := .tmp 9) (y := .const (.int .i64 4)) (t := 111) (u := 3) rfl (by kernel_rfl) (by kernel_rfl) (hF.ev 9 _ rfl) rfl, (nnumber_any b 4 l w (by omega) (by omega) (by omega) hI).mono (by
      rintro e w' (⟨p, hp, rfl, h1, h2⟩ | ⟨hp, rfl, h2⟩)
      · exact .inl ⟨_, rfl, p, hp, rfl, h1, h2⟩
      · exact .inr ⟨_, rfl, hP _ _ (by unfold numsP3; rw [hp]; rfl) hF.df (hs.trans h2)⟩)⟩ ?_
    rintro _ a w2 ⟨p, hp, rfl, hI2, hs2⟩ hF
    have hg2 := hg.step hs2
    refine ⟨hg2.1, ?_⟩
    obtain ⟨_, _, hp3, hp4⟩ := numP_some hp
    refine hst (i := 7) (o := ops_nn1[7]'(show 7 < ops_nn1.size by rw [size_nn1]; decide)) hF 11 true (.int .u32 (p.1 : Int)) (Array.getElem?_eq_getElem (show 7 < ops_nn1.size by rw [size_nn1]; decide)) (by kernel_rfl) (by decide) (by kernel_rfl) (by kernel_rfl) (by kernel_rfl) (hQ _ _) (want_n (by kernel_rfl)) (fun hW w hS => rrun_cv32 (x := .tmp 10) (by kernel_rfl) (hF.ev 10 _ rfl) (by omega)) hg2.1 (fun a hF => ?_)
    rw [show cond true (.int .u32 (p.1 : Int)) undef = .int .u32 (p.1 : Int) from rfl] at hF
    rw [show ((#[true, true, true, true, true, true, false, false, true, false, false, true, false, false, true, false, true, false, false, false, false, false]).setIfInBounds 6 true).setIfInBounds 7 true = #[true, true, true, true, true, true, true, true, true, false, false, true, false, false, true, false, true, false, false, false, false, false] from by kernel_rfl]
    exact nn3n (by omega) hb0 hg0 hI2 (hs.trans hs2) hg2 hQ (hF.sub [(5, .int .u64 (x1 : Int)), (8, .int .u32 (x2 : Int)), (11, .int .u32 (p.1 : Int)), (4, .agg #[ptr b 0]), (6, .agg #[ptr b 0]), (9, .agg #[ptr b 0]), (12, .agg #[ptr b 0]), (15, .agg #[ptr b 0]), (18, .agg #[ptr b 0]), (20, .agg #[ptr b 0]), (1, ptr g 0), (0, v0), (2, v2)] ⟨rfl, rfl, rfl, rfl, rfl, rfl, rfl, rfl, rfl, rfl, rfl, rfl, rfl, trivial⟩) (fun z n r a w' h => hE z n r a w' (by unfold numsP3; rw [hp]; exact h)) (fun a w' h => hP a w' (by unfold numsP3; rw [hp]; exact h))
  · have hZ := kept_alloc hI (.cells zeroNod.cells 68)
    have hz : w0.heap.size ≤ w.heap.size := hs.grow
    have hI2 := hI.below ((Below.refl _ _).alloc (Nat.le_refl _) (.cells zeroNod.cells 68))
    have hs2 := hs.trans (OStep.pure hI.lt ((Below.refl _ _).alloc (Nat.le_refl _) (.cells zeroNod.cells 68)))
    have hg2 := hg.step (OStep.pure hI.lt ((Below.refl _ _).alloc (Nat.le_refl _) (.cells zeroNod.cells 68)))
    refine hdo (i := 20) (o := ops_nn1[20]'(show 20 < ops_nn1.size by rw [size_nn1]; decide)) hF 3 (ptr w.heap.size 0) (w.alloc (.cells zeroNod.cells 68)) (Array.getElem?_eq_getElem (show 20 < ops_nn1.size by rw [size_nn1]; decide)) (by kernel_rfl) (by decide) (want_n (by kernel_rfl)) (rrun_alloc (t := 68) (z := .agg zeroNod.cells) (by kernel_rfl) (by kernel_rfl)) (fun a hF => ?_)
    refine ⟨hg2.1, ?_⟩
    rw [show (#[true, true, true, true, true, true, false, false, true, false, false, true, false, false, true, false, true, false, false, false, false, false]).setIfInBounds 20 true = #[true, true, true, true, true, true, false, false, true, false, false, true, false, false, true, false, true, false, false, false, true, false] from by kernel_rfl]
    exact nn2a hl hb0 hg0 hz hI2 hs2 hg2 hZ hQ (hF.sub [(3, ptr w.heap.size 0), (5, .int .u64 (x1 : Int)), (8, .int .u32 (x2 : Int)), (4, .agg #[ptr b 0]), (6, .agg #[ptr b 0]), (9, .agg #[ptr b 0]), (12, .agg #[ptr b 0]), (15, .agg #[ptr b 0]), (18, .agg #[ptr b 0]), (20, .agg #[ptr b 0]), (1, ptr g 0), (0, v0), (2, v2)] ⟨rfl, rfl, rfl, rfl, rfl, rfl, rfl, rfl, rfl, rfl, rfl, rfl, rfl, trivial⟩) hE hP
set_option maxHeartbeats 4000000 in
theorem nn1a {w0 : World} {g b z : Nat} {x1 : Nat} {l : List UInt8} {v0 v2 : Value} {Q : Exit → Act → World → Prop} {a : Act} {w : World} (hl : l.length ≤ 1000000000) (hb0 : b < w0.heap.size) (hg0 : g < w0.heap.size) (hz : w0.heap.size ≤ z)
    (hI : InIs w b l 0) (hs : OStep b w0 w) (hg : KeptB w b g (.cells #[ptr b 0] 111 (0, 0))) (hZ : KeptB w b z (.cells zeroNod.cells 68 (0, 0)))
    (hQ : ∀ d u c a w, Q (.panic c) (a.put d u) w → Q (.panic c) a w) (hF : FrL 40 [(3, ptr z 0), (5, .int .u64 (x1 : Int)), (4, .agg #[ptr b 0]), (6, .agg #[ptr b 0]), (9, .agg #[ptr b 0]), (12, .agg #[ptr b 0]), (15, .agg #[ptr b 0]), (18, .agg #[ptr b 0]), (20, .agg #[ptr b 0]), (1, ptr g 0), (0, v0), (2, v2)] a)
    (hE : ∀ z n r a w', numsP2 x1 l = some (n, r) → w0.heap.size ≤ z → FrL 40 [(3, ptr z 0), (1, ptr g 0), (0, v0), (2, v2)] a → InIs w' b r 0 → OStep b w0 w' → KeptB w' b g (.cells #[ptr b 0] 111 (0, 0)) → KeptB w' b z (.cells n.cells 68 (0, 0)) → Q .normal a w')
    (hP : ∀ a w', numsP2 x1 l = none → a.defers = [] → OStep b w0 w' → Q (.panic (errChain 2)) a w') :
    wpAnyH Tryz.prog .any ops_nn1 Q (fun w' : World => w'.heap[g]? = some (.cells #[ptr b 0] 111 (0, 0))) 13 #[true, true, true, false, false, true, false, false, true, false, false, true, false, false, true, false, true, false, false, false, true, false] a w := by
  have hS : (fun w' : World => w'.heap[g]? = some (.cells #[ptr b 0] 111 (0, 0))) w := hg.1
  refine wpAnyH_all (rs := [3]) (by kernel_rfl) (by simp) fun j hj => ?_
  obtain rfl : j = 3 := by simpa using hj
  refine hdocp (i := 3) (o := ops_nn1[3]'(show 3 < ops_nn1.size by rw [size_nn1]; decide)) (R := fun v w' => ∃ p, numP 4 l = some p ∧ v = .int .u64 (p.1 : Int) ∧ InIs w' b p.2 0 ∧ OStep b w w') hF 7 (Array.getElem?_eq_getElem (show 3 < ops_nn1.size by rw [size_nn1]; decide)) (by kernel_rfl) (by decide) (want_n (by kernel_rfl)) ⟨88, #[.agg #[ptr b 0], .int .i64 ((4 : Nat) : Int)], rrun_call2 (fn := 88) (x := .tmp 6) (y := .const (.int .i64 4)) (t := 111) (u := 3) rfl (by kernel_rfl) (by kernel_rfl) (hF.ev 6 _ rfl) rfl, (nnumber_any b 4 l w (by omega) (by omega) (by omega) hI).mono (by
    rintro e w' (⟨p, hp, rfl, h1, h2⟩ | ⟨hp, rfl, h2⟩)
    · exact .inl ⟨_, rfl, p, hp, rfl, h1, h2⟩
    · exact .inr ⟨_, rfl, hP _ _ (by unfold numsP2; rw [hp]; rfl) hF.df (hs.trans h2)⟩)⟩ ?_
  rintro _ a w2 ⟨p, hp, rfl, hI2, hs2⟩ hF
  have hg2 := hg.step hs2
  refine ⟨hg2.1, ?_⟩
  obtain ⟨_, _, hp3, hp4⟩ := numP_some hp
  refine hst (i := 4) (o := ops_nn1[4]'(show 4 < ops_nn1.size by rw [size_nn1]; decide)) hF 8 true (.int .u32 (p.1 : Int)) (Array.getElem?_eq_getElem (show 4 < ops_nn1.size by rw [size_nn1]; decide)) (by kernel_rfl) (by decide) (by kernel_rfl) (by kernel_rfl) (by kernel_rfl) (hQ _ _) (want_n (by kernel_rfl)) (fun hW w hS => rrun_cv32 (x := .tmp 7) (by kernel_rfl) (hF.ev 7 _ rfl) (by omega)) hg2.1 (fun a hF => ?_)
  rw [show cond true (.int .u32 (p.1 : Int)) undef = .int .u32 (p.1 : Int) from rfl] at hF
  rw [show ((#[true, true, true, false, false, true, false, false, true, false, false, true, false, false, true, false, true, false, false, false, true, false]).setIfInBounds 3 true).setIfInBounds 4 true = #[true, true, true, true, true, true, false, false, true, false, false, true, false, false, true, false, true, false, false, false, true, false] from by kernel_rfl]
  exact nn2a (by omega) hb0 hg0 hz hI2 (hs.trans hs2) hg2 (hZ.step hs2) hQ (hF.sub [(3, ptr z 0), (5, .int .u64 (x1 : Int)), (8, .int .u32 (p.1 : Int)), (4, .agg #[ptr b 0]), (6, .agg #[ptr b 0]), (9, .agg #[ptr b 0]), (12, .agg #[ptr b 0]), (15, .agg #[ptr b 0]), (18, .agg #[ptr b 0]), (20, .agg #[ptr b 0]), (1, ptr g 0), (0, v0), (2, v2)] ⟨rfl, rfl, rfl, rfl, rfl, rfl, rfl, rfl, rfl, rfl, rfl, rfl, rfl, trivial⟩) (fun z n r a w' h => hE z n r a w' (by unfold numsP2; rw [hp]; exact h)) (fun a w' h => hP a w' (by unfold numsP2; rw [hp]; exact h))
set_option maxHeartbeats 4000000 in
theorem nn1n {w0 : World} {g b : Nat} {x1 : Nat} {l : List UInt8} {v0 v2 : Value} {Q : Exit → Act → World → Prop} {a : Act} {w : World} (hl : l.length ≤ 1000000000) (hb0 : b < w0.heap.size) (hg0 : g < w0.heap.size)
    (hI : InIs w b l 0) (hs : OStep b w0 w) (hg : KeptB w b g (.cells #[ptr b 0] 111 (0, 0)))
    (hQ : ∀ d u c a w, Q (.panic c) (a.put d u) w → Q (.panic c) a w) (hF : FrL 40 [(5, .int .u64 (x1 : Int)), (4, .agg #[ptr b 0]), (6, .agg #[ptr b 0]), (9, .agg #[ptr b 0]), (12, .agg #[ptr b 0]), (15, .agg #[ptr b 0]), (18, .agg #[ptr b 0]), (20, .agg #[ptr b 0]), (1, ptr g 0), (0, v0), (2, v2)] a)
    (hE : ∀ z n r a w', numsP2 x1 l = some (n, r) → w0.heap.size ≤ z → FrL 40 [(3, ptr z 0), (1, ptr g 0), (0, v0), (2, v2)] a → InIs w' b r 0 → OStep b w0 w' → KeptB w' b g (.cells #[ptr b 0] 111 (0, 0)) → KeptB w' b z (.cells n.cells 68 (0, 0)) → Q .normal a w')
    (hP : ∀ a w', numsP2 x1 l = none → a.defers = [] → OStep b w0 w' → Q (.panic (errChain 2)) a w') :
    wpAnyH Tryz.prog .any ops_nn1 Q (fun w' : World => w'.heap[g]? = some (.cells #[ptr b 0] 111 (0, 0))) 14 #[true, true, true, false, false, true, false, false, true, false, false, true, false, false, true, false, true, false, false, false, false, false] a w := by
  have hS : (fun w' : World => w'.heap[g]? = some (.cells #[ptr b 0] 111 (0, 0))) w := hg.1
  refine wpAnyH_all (rs := [3, 20]) (by kernel_rfl) (by simp) fun j hj => ?_
  have hj2 : j = 3 ∨ j = 20 := by simpa using hj
  rcases hj2 with rfl | rfl
  · refine hdocp (i := 3) (o := ops_nn1[3]'(show 3 < ops_nn1.size by rw [size_nn1]; decide)) (R := fun v w' => ∃ p, numP 4 l = some p ∧ v = .int .u64 (p.1 : Int) ∧ InIs w' b p.2 0 ∧ OStep b w w') hF 7 (Array.getElem?_eq_getElem (show 3 < ops_nn1.size by rw [size_nn1]; decide)) (by kernel_rfl) (by decide) (want_n (by kernel_rfl)) ⟨88, #[.agg #[ptr b 0], .int .i64 ((4 : Nat) : Int)], rrun_call2 (fn := 88) (x := .tmp 6) (y := .const (.int .i64 4)) (t := 111) (u := 3) rfl (by kernel_rfl) (by kernel_rfl) (hF.ev 6 _ rfl) rfl, (nnumber_any b 4 l w (by omega) (by omega) (by omega) hI).mono (by
      rintro e w' (⟨p, hp, rfl, h1, h2⟩ | ⟨hp, rfl, h2⟩)
      · exact .inl ⟨_, rfl, p, hp, rfl, h1, h2⟩
      · exact .inr ⟨_, rfl, hP _ _ (by unfold numsP2; rw [hp]; rfl) hF.df (hs.trans h2)⟩)⟩ ?_
    rintro _ a w2 ⟨p, hp, rfl, hI2, hs2⟩ hF
    have hg2 := hg.step hs2
    refine ⟨hg2.1, ?_⟩
    obtain ⟨_, _, hp3, hp4⟩ := numP_some hp
    refine hst (i := 4) (o := ops_nn1[4]'(show 4 < ops_nn1.size by rw [size_nn1]; decide)) hF 8 true (.int .u32 (p.1 : Int)) (Array.getElem?_eq_getElem (show 4 < ops_nn1.size by rw [size_nn1]; decide)) (by kernel_rfl) (by decide) (by kernel_rfl) (by kernel_rfl) (by kernel_rfl) (hQ _ _) (want_n (by kernel_rfl)) (fun hW w hS => rrun_cv32 (x := .tmp 7) (by kernel_rfl) (hF.ev 7 _ rfl) (by omega)) hg2.1 (fun a hF => ?_)
    rw [show cond true (.int .u32 (p.1 : Int)) undef = .int .u32 (p.1 : Int) from rfl] at hF
    rw [show ((#[true, true, true, false, false, true, false, false, true, false, false, true, false, false, true, false, true, false, false, false, false, false]).setIfInBounds 3 true).setIfInBounds 4 true = #[true, true, true, true, true, true, false, false, true, false, false, true, false, false, true, false, true, false, false, false, false, false] from by kernel_rfl]
    exact nn2n (by omega) hb0 hg0 hI2 (hs.trans hs2) hg2 hQ (hF.sub [(5, .int .u64 (x1 : Int)), (8, .int .u32 (p.1 : Int)), (4, .agg #[ptr b 0]), (6, .agg #[ptr b 0]), (9, .agg #[ptr b 0]), (12, .agg #[ptr b 0]), (15, .agg #[ptr b 0]), (18, .agg #[ptr b 0]), (20, .agg #[ptr b 0]), (1, ptr g 0), (0, v0), (2, v2)] ⟨rfl, rfl, rfl, rfl, rfl, rfl, rfl, rfl, rfl, rfl, rfl, rfl, trivial⟩) (fun z n r a w' h => hE z n r a w' (by unfold numsP2; rw [hp]; exact h)) (fun a w' h => hP a w' (by unfold numsP2; rw [hp]; exact h))
  · have hZ := kept_alloc hI (.cells zeroNod.cells 68)
    have hz : w0.heap.size ≤ w.heap.size := hs.grow
    have hI2 := hI.below ((Below.refl _ _).alloc (Nat.le_refl _) (.cells zeroNod.cells 68))
    have hs2 := hs.trans (OStep.pure hI.lt ((Below.refl _ _).alloc (Nat.le_refl _) (.cells zeroNod.cells 68)))
    have hg2 := hg.step (OStep.pure hI.lt ((Below.refl _ _).alloc (Nat.le_refl _) (.cells zeroNod.cells 68)))
    refine hdo (i := 20) (o := ops_nn1[20]'(show 20 < ops_nn1.size by rw [size_nn1]; decide)) hF 3 (ptr w.heap.size 0) (w.alloc (.cells zeroNod.cells 68)) (Array.getElem?_eq_getElem (show 20 < ops_nn1.size by rw [size_nn1]; decide)) (by kernel_rfl) (by decide) (want_n (by kernel_rfl)) (rrun_alloc (t := 68) (z := .agg zeroNod.cells) (by kernel_rfl) (by kernel_rfl)) (fun a hF => ?_)
    refine ⟨hg2.1, ?_⟩
    rw [show (#[true, true, true, false, false, true, false, false, true, false, false, true, false, false, true, false, true, false, false, false, false, false]).setIfInBounds 20 true = #[true, true, true, false, false, true, false, false, true, false, false, true, false, false, true, false, true, false, false, false, true, false] from by kernel_rfl]
    exact nn1a hl hb0 hg0 hz hI2 hs2 hg2 hZ hQ (hF.sub [(3, ptr w.heap.size 0), (5, .int .u64 (x1 : Int)), (4, .agg #[ptr b 0]), (6, .agg #[ptr b 0]), (9, .agg #[ptr b 0]), (12, .agg #[ptr b 0]), (15, .agg #[ptr b 0]), (18, .agg #[ptr b 0]), (20, .agg #[ptr b 0]), (1, ptr g 0), (0, v0), (2, v2)] ⟨rfl, rfl, rfl, rfl, rfl, rfl, rfl, rfl, rfl, rfl, rfl, rfl, trivial⟩) hE hP
set_option maxHeartbeats 4000000 in
theorem nn0a {w0 : World} {g b z : Nat} {l : List UInt8} {v0 v2 : Value} {Q : Exit → Act → World → Prop} {a : Act} {w : World} (hl : l.length ≤ 1000000000) (hb0 : b < w0.heap.size) (hg0 : g < w0.heap.size) (hz : w0.heap.size ≤ z)
    (hI : InIs w b l 0) (hs : OStep b w0 w) (hg : KeptB w b g (.cells #[ptr b 0] 111 (0, 0))) (hZ : KeptB w b z (.cells zeroNod.cells 68 (0, 0)))
    (hQ : ∀ d u c a w, Q (.panic c) (a.put d u) w → Q (.panic c) a w) (hF : FrL 40 [(3, ptr z 0), (4, .agg #[ptr b 0]), (6, .agg #[ptr b 0]), (9, .agg #[ptr b 0]), (12, .agg #[ptr b 0]), (15, .agg #[ptr b 0]), (18, .agg #[ptr b 0]), (20, .agg #[ptr b 0]), (1, ptr g 0), (0, v0), (2, v2)] a)
    (hE : ∀ z n r a w', numsP1 l = some (n, r) → w0.heap.size ≤ z → FrL 40 [(3, ptr z 0), (1, ptr g 0), (0, v0), (2, v2)] a → InIs w' b r 0 → OStep b w0 w' → KeptB w' b g (.cells #[ptr b 0] 111 (0, 0)) → KeptB w' b z (.cells n.cells 68 (0, 0)) → Q .normal a w')
    (hP : ∀ a w', numsP1 l = none → a.defers = [] → OStep b w0 w' → Q (.panic (errChain 2)) a w') :
    wpAnyH Tryz.prog .any ops_nn1 Q (fun w' : World => w'.heap[g]? = some (.cells #[ptr b 0] 111 (0, 0))) 14 #[true, false, true, false, false, true, false, false, true, false, false, true, false, false, true, false, true, false, false, false, true, false] a w := by
  have hS : (fun w' : World => w'.heap[g]? = some (.cells #[ptr b 0] 111 (0, 0))) w := hg.1
  refine wpAnyH_all (rs := [1]) (by kernel_rfl) (by simp) fun j hj => ?_
  obtain rfl : j = 1 := by simpa using hj
  refine hdocp (i := 1) (o := ops_nn1[1]'(show 1 < ops_nn1.size by rw [size_nn1]; decide)) (R := fun v w' => ∃ p, numP 8 l = some p ∧ v = .int .u64 (p.1 : Int) ∧ InIs w' b p.2 0 ∧ OStep b w w') hF 5 (Array.getElem?_eq_getElem (show 1 < ops_nn1.size by rw [size_nn1]; decide)) (by kernel_rfl) (by decide) (want_n (by kernel_rfl)) ⟨88, #[.agg #[ptr b 0], .int .i64 ((8 : Nat) : Int)], rrun_call2 (fn := 88) (x := .tmp 4) (y := .const (.int .i64 8)) (t := 111) (u := 3) rfl (by kernel_rfl) (by kernel_rfl) (hF.ev 4 _ rfl) rfl, (nnumber_any b 8 l w (by omega) (by omega) (by omega) hI).mono (by
    rintro e w' (⟨p, hp, rfl, h1, h2⟩ | ⟨hp, rfl, h2⟩)
    · exact .inl ⟨_, rfl, p, hp, rfl, h1, h2⟩
    · exact .inr ⟨_, rfl, hP _ _ (by unfold numsP1; rw [hp]; rfl) hF.df (hs.trans h2)⟩)⟩ ?_
  rintro _ a w2 ⟨p, hp, rfl, hI2, hs2⟩ hF
  have hg2 := hg.step hs2
  refine ⟨hg2.1, ?_⟩
  obtain ⟨_, _, hp3, hp4⟩ := numP_some hp
  rw [show (#[true, false, true, false, false, true, false, false, true, false, false, true, false, false, true, false, true, false, false, false, true, false]).setIfInBounds 1 true = #[true, true, true, false, false, true, false, false, true, false, false, true, false, false, true, false, true, false, false, false, true, false] from by kernel_rfl]
  exact nn1a (by omega) hb0 hg0 hz hI2 (hs.trans hs2) hg2 (hZ.step hs2) hQ (hF.sub [(3, ptr z 0), (5, .int .u64 (p.1 : Int)), (4, .agg #[ptr b 0]), (6, .agg #[ptr b 0]), (9, .agg #[ptr b 0]), (12, .agg #[ptr b 0]), (15, .agg #[ptr b 0]), (18, .agg #[ptr b 0]), (20, .agg #[ptr b 0]), (1, ptr g 0), (0, v0), (2, v2)] ⟨rfl, rfl, rfl, rfl, rfl, rfl, rfl, rfl, rfl, rfl, rfl, rfl, trivial⟩) (fun z n r a w' h => hE z n r a w' (by unfold numsP1; rw [hp]; exact h)) (fun a w' h => hP a w' (by unfold numsP1; rw [hp]; exact h))
set_option maxHeartbeats 4000000 in
theorem nn0n {w0 : World} {g b : Nat} {l : List UInt8} {v0 v2 : Value} {Q : Exit → Act → World → Prop} {a : Act} {w : World} (hl : l.length ≤ 1000000000) (hb0 : b < w0.heap.size) (hg0 : g < w0.heap.size)
    (hI : InIs w b l 0) (hs : OStep b w0 w) (hg : KeptB w b g (.cells #[ptr b 0] 111 (0, 0)))
    (hQ : ∀ d u c a w, Q (.panic c) (a.put d u) w → Q (.panic c) a w) (hF : FrL 40 [(4, .agg #[ptr b 0]), (6, .agg #[ptr b 0]), (9, .agg #[ptr b 0]), (12, .agg #[ptr b 0]), (15, .agg #[ptr b 0]), (18, .agg #[ptr b 0]), (20, .agg #[ptr b 0]), (1, ptr g 0), (0, v0), (2, v2)] a)
    (hE : ∀ z n r a w', numsP1 l = some (n, r) → w0.heap.size ≤ z → FrL 40 [(3, ptr z 0), (1, ptr g 0), (0, v0), (2, v2)] a → InIs w' b r 0 → OStep b w0 w' → KeptB w' b g (.cells #[ptr b 0] 111 (0, 0)) → KeptB w' b z (.cells n.cells 68 (0, 0)) → Q .normal a w')
    (hP : ∀ a w', numsP1 l = none → a.defers = [] → OStep b w0 w' → Q (.panic (errChain 2)) a w') :
    wpAnyH Tryz.prog .any ops_nn1 Q (fun w' : World => w'.heap[g]? = some (.cells #[ptr b 0] 111 (0, 0))) 15 #[true, false, true, false, false, true, false, false, true, false, false, true, false, false, true, false, true, false, false, false, false, false] a w := by
  have hS : (fun w' : World => w'.heap[g]? = some (.cells #[ptr b 0] 111 (0, 0))) w := hg.1
  refine wpAnyH_all (rs := [1, 20]) (by kernel_rfl) (by simp) fun j hj => ?_
  have hj2 : j = 1 ∨ j = 20 := by simpa using hj
  rcases hj2 with rfl | rfl
  · refine hdocp (i := 1) (o := ops_nn1[1]'(show 1 < ops_nn1.size by rw [size_nn1]; decide)) (R := fun v w' => ∃ p, numP 8 l = some p ∧ v = .int .u64 (p.1 : Int) ∧ InIs w' b p.2 0 ∧ OStep b w w') hF 5 (Array.getElem?_eq_getElem (show 1 < ops_nn1.size by rw [size_nn1]; decide)) (by kernel_rfl) (by decide) (want_n (by kernel_rfl)) ⟨88, #[.agg #[ptr b 0], .int .i64 ((8 : Nat) : Int)], rrun_call2 (fn := 88) (x := .tmp 4) (y := .const (.int .i64 8)) (t := 111) (u := 3) rfl (by kernel_rfl) (by kernel_rfl) (hF.ev 4 _ rfl) rfl, (nnumber_any b 8 l w (by omega) (by omega) (by omega) hI).mono (by
      rintro e w' (⟨p, hp, rfl, h1, h2⟩ | ⟨hp, rfl, h2⟩)
      · exact .inl ⟨_, rfl, p, hp, rfl, h1, h2⟩
      · exact .inr ⟨_, rfl, hP _ _ (by unfold numsP1; rw [hp]; rfl) hF.df (hs.trans h2)⟩)⟩ ?_
    rintro _ a w2 ⟨p, hp, rfl, hI2, hs2⟩ hF
    have hg2 := hg.step hs2
    refine ⟨hg2.1, ?_⟩
    obtain ⟨_, _, hp3, hp4⟩ := numP_some hp
    rw [show (#[true, false, true, false, false, true, false, false, true, false, false, true, false, false, true, false, true, false, false, false, false, false]).setIfInBounds 1 true = #[true, true, true, false, false, true, false, false, true, false, false, true, false, false, true, false, true, false, false, false, false, false] from by kernel_rfl]
    exact nn1n (by omega) hb0 hg0 hI2 (hs.trans hs2) hg2 hQ (hF.sub [(5, .int .u64 (p.1 : Int)), (4, .agg #[ptr b 0]), (6, .agg #[ptr b 0]), (9, .agg #[ptr b 0]), (12, .agg #[ptr b 0]), (15, .agg #[ptr b 0]), (18, .agg #[ptr b 0]), (20, .agg #[ptr b 0]), (1, ptr g 0), (0, v0), (2, v2)] ⟨rfl, rfl, rfl, rfl, rfl, rfl, rfl, rfl, rfl, rfl, rfl, trivial⟩) (fun z n r a w' h => hE z n r a w' (by unfold numsP1; rw [hp]; exact h)) (fun a w' h => hP a w' (by unfold numsP1; rw [hp]; exact h))
  · have hZ := kept_alloc hI (.cells zeroNod.cells 68)
    have hz : w0.heap.size ≤ w.heap.size := hs.grow
    have hI2 := hI.below ((Below.refl _ _).alloc (Nat.le_refl _) (.cells zeroNod.cells 68))
    have hs2 := hs.trans (OStep.pure hI.lt ((Below.refl _ _).alloc (Nat.le_refl _) (.cells zeroNod.cells 68)))
    have hg2 := hg.step (OStep.pure hI.lt ((Below.refl _ _).alloc (Nat.le_refl _) (.cells zeroNod.cells 68)))
    refine hdo (i := 20) (o := ops_nn1[20]'(show 20 < ops_nn1.size by rw [size_nn1]; decide)) hF 3 (ptr w.heap.size 0) (w.alloc (.cells zeroNod.cells 68)) (Array.getElem?_eq_getElem (show 20 < ops_nn1.size by rw [size_nn1]; decide)) (by kernel_rfl) (by decide) (want_n (by kernel_rfl)) (rrun_alloc (t := 68) (z := .agg zeroNod.cells) (by kernel_rfl) (by kernel_rfl)) (fun a hF => ?_)
    refine ⟨hg2.1, ?_⟩
    rw [show (#[true, false, true, false, false, true, false, false, true, false, false, true, false, false, true, false, true, false, false, false, false, false]).setIfInBounds 20 true = #[true, false, true, false, false, true, false, false, true, false, false, true, false, false, true, false, true, false, false, false, true, false] from by kernel_rfl]
    exact nn0a hl hb0 hg0 hz hI2 hs2 hg2 hZ hQ (hF.sub [(3, ptr w.heap.size 0), (4, .agg #[ptr b 0]), (6, .agg #[ptr b 0]), (9, .agg #[ptr b 0]), (12, .agg #[ptr b 0]), (15, .agg #[ptr b 0]), (18, .agg #[ptr b 0]), (20, .agg #[ptr b 0]), (1, ptr g 0), (0, v0), (2, v2)] ⟨rfl, rfl, rfl, rfl, rfl, rfl, rfl, rfl, rfl, rfl, rfl, trivial⟩) hE hP
set_option maxHeartbeats 4000000 in
theorem nn1_all {g b : Nat} {l : List UInt8} {v0 v2 : Value} {Q : Exit → Act → World → Prop} {a : Act} {w : World} (hl : l.length ≤ 1000000000) (hI : InIs w b l 0) (hg : KeptB w b g (.cells #[ptr b 0] 111 (0, 0)))
    (hQ : ∀ d u c a w, Q (.panic c) (a.put d u) w → Q (.panic c) a w) (hF : FrL 40 [(1, ptr g 0), (0, v0), (2, v2)] a)
    (hE : ∀ z n r a w', numsP l = some (n, r) → w.heap.size ≤ z → FrL 40 [(3, ptr z 0), (1, ptr g 0), (0, v0), (2, v2)] a → InIs w' b r 0 → OStep b w w' → KeptB w' b g (.cells #[ptr b 0] 111 (0, 0)) → KeptB w' b z (.cells n.cells 68 (0, 0)) → Q .normal a w')
    (hP : ∀ a w', numsP l = none → a.defers = [] → OStep b w w' → Q (.panic (errChain 2)) a w') :
    wpAnyH Tryz.prog .any ops_nn1 Q (fun w' : World => w'.heap[g]? = some (.cells #[ptr b 0] 111 (0, 0))) 22 (Array.replicate 22 false) a w := by
  have hS : (fun w' : World => w'.heap[g]? = some (.cells #[ptr b 0] 111 (0, 0))) w := hg.1
  refine hst (i := 0) (o := ops_nn1[0]'(show 0 < ops_nn1.size by rw [size_nn1]; decide)) hF 4 true (.agg #[ptr b 0]) (Array.getElem?_eq_getElem (show 0 < ops_nn1.size by rw [size_nn1]; decide)) (by kernel_rfl) (by decide) (by kernel_rfl) (by kernel_rfl) (by kernel_rfl) (hQ _ _) (want_n (by kernel_rfl)) (fun hW w hS => rrun_load (ty := 111) (x := .tmp 1) (by kernel_rfl) (hF.ev 1 (ptr g 0) rfl) (rld_in (block_cell (show w.heap[g]? = _ from hS) 0))) hS (fun a hF => ?_)
  rw [show cond true (.agg #[ptr b 0]) undef = .agg #[ptr b 0] from rfl] at hF
  refine hst (i := 2) (o := ops_nn1[2]'(show 2 < ops_nn1.size by rw [size_nn1]; decide)) hF 6 true (.agg #[ptr b 0]) (Array.getElem?_eq_getElem (show 2 < ops_nn1.size by rw [size_nn1]; decide)) (by kernel_rfl) (by decide) (by kernel_rfl) (by kernel_rfl) (by kernel_rfl) (hQ _ _) (want_n (by kernel_rfl)) (fun hW w hS => rrun_load (ty := 111) (x := .tmp 1) (by kernel_rfl) (hF.ev 1 (ptr g 0) rfl) (rld_in (block_cell (show w.heap[g]? = _ from hS) 0))) hS (fun a hF => ?_)
  rw [show cond true (.agg #[ptr b 0]) undef = .agg #[ptr b 0] from rfl] at hF
  refine hst (i := 5) (o := ops_nn1[5]'(show 5 < ops_nn1.size by rw [size_nn1]; decide)) hF 9 true (.agg #[ptr b 0]) (Array.getElem?_eq_getElem (show 5 < ops_nn1.size by rw [size_nn1]; decide)) (by kernel_rfl) (by decide) (by kernel_rfl) (by kernel_rfl) (by kernel_rfl) (hQ _ _) (want_n (by kernel_rfl)) (fun hW w hS => rrun_load (ty := 111) (x := .tmp 1) (by kernel_rfl) (hF.ev 1 (ptr g 0) rfl) (rld_in (block_cell (show w.heap[g]? = _ from hS) 0))) hS (fun a hF => ?_)
  rw [show cond true (.agg #[ptr b 0]) undef = .agg #[ptr b 0] from rfl] at hF
  refine hst (i := 8) (o := ops_nn1[8]'(show 8 < ops_nn1.size by rw [size_nn1]; decide)) hF 12 true (.agg #[ptr b 0]) (Array.getElem?_eq_getElem (show 8 < ops_nn1.size by rw [size_nn1]; decide)) (by kernel_rfl) (by decide) (by kernel_rfl) (by kernel_rfl) (by kernel_rfl) (hQ _ _) (want_n (by kernel_rfl)) (fun hW w hS => rrun_load (ty := 111) (x := .tmp 1) (by kernel_rfl) (hF.ev 1 (ptr g 0) rfl) (rld_in (block_cell (show w.heap[g]? = _ from hS) 0))) hS (fun a hF => ?_)
  rw [show cond true (.agg #[ptr b 0]) undef = .agg #[ptr b 0] from rfl] at hF
  refine hst (i := 11) (o := ops_nn1[11]'(show 11 < ops_nn1.size by rw [size_nn1]; decide)) hF 15 true (.agg #[ptr b 0]) (Array.getElem?_eq_getElem (show 11 < ops_nn1.size by rw [size_nn1]; decide)) (by kernel_rfl) (by decide) (by kernel_rfl) (by kernel_rfl) (by kernel_rfl) (hQ _ _) (want_n (by kernel_rfl)) (fun hW w hS => rrun_load (ty := 111) (x := .tmp 1) (by kernel_rfl) (hF.ev 1 (ptr g 0) rfl) (rld_in (block_cell (show w.heap[g]? = _ from hS) 0))) hS (fun a hF => ?_)
  rw [show cond true (.agg #[ptr b 0]) undef = .agg #[ptr b 0] from rfl] at hF
  refine hst (i := 14) (o := ops_nn1[14]'(show 14 < ops_nn1.size by rw [size_nn1]; decide)) hF 18 true (.agg #[ptr b 0]) (Array.getElem?_eq_getElem (show 14 < ops_nn1.size by rw [size_nn1]; decide)) (by kernel_rfl) (by decide) (by kernel_rfl) (by kernel_rfl) (by kernel_rfl) (hQ _ _) (want_n (by kernel_rfl)) (fun hW w hS => rrun_load (ty := 111) (x := .tmp 1) (by kernel_rfl) (hF.ev 1 (ptr g 0) rfl) (rld_in (block_cell (show w.heap[g]? = _ from hS) 0))) hS (fun a hF => ?_)
  rw [show cond true (.agg #[ptr b 0]) undef = .agg #[ptr b 0] from rfl] at hF
  refine hst (i := 16) (o := ops_nn1[16]'(show 16 < ops_nn1.size by rw [size_nn1]; decide)) hF 20 true (.agg #[ptr b 0]) (Array.getElem?_eq_getElem (show 16 < ops_nn1.size by rw [size_nn1]; decide)) (by kernel_rfl) (by decide) (by kernel_rfl) (by kernel_rfl) (by kernel_rfl) (hQ _ _) (want_n (by kernel_rfl)) (fun hW w hS => rrun_load (ty := 111) (x := .tmp 1) (by kernel_rfl) (hF.ev 1 (ptr g 0) rfl) (rld_in (block_cell (show w.heap[g]? = _ from hS) 0))) hS (fun a hF => ?_)
  rw [show cond true (.agg #[ptr b 0]) undef = .agg #[ptr b 0] from rfl] at hF
  rw [show ((((((((Array.replicate 22 false).setIfInBounds 0 true).setIfInBounds 2 true).setIfInBounds 5 true).setIfInBounds 8 true).setIfInBounds 11 true).setIfInBounds 14 true).setIfInBounds 16 true) = #[true, false, true, false, false, true, false, false, true, false, false, true, false, false, true, false, true, false, false, false, false, false] from by kernel_rfl]
  exact nn0n hl hI.lt (lt_of_block hg.1) hI (OStep.refl _ _) hg hQ (hF.sub [(4, .agg #[ptr b 0]), (6, .agg #[ptr b 0]), (9, .agg #[ptr b 0]), (12, .agg #[ptr b 0]), (15, .agg #[ptr b 0]), (18, .agg #[ptr b 0]), (20, .agg #[ptr b 0]), (1, ptr g 0), (0, v0), (2, v2)] ⟨rfl, rfl, rfl, rfl, rfl, rfl, rfl, rfl, rfl, rfl, trivial⟩) hE hP
end Go.Proofs.YtcmajcljafmphaaGreat
