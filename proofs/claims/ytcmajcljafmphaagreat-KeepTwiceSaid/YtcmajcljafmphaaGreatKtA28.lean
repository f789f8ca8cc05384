/- The texts of a node that is read (in.node of Decode). Conditions: in the statements.
in.node of Decode, walked: a node is read, or it is told by a panic that the bytes are none. Conditions: at most a thousand million bytes. -/
import Derived.Test.YtcmajcljafmphaaGreatKtA27
namespace Go.Proofs.YtcmajcljafmphaaGreat
section
open Go.RowKit
set_option maxRecDepth 100000
set_option linter.unusedVariables false

theorem ntext_any (b : Nat) (l : List UInt8) (w : World) (hl : l.length ≤ 1000000000) (h : InIs w b l 0) :
    Calls Tryz.prog 107 #[.agg #[ptr b 0]] w fun e w' => (∃ p, txtP l = some p ∧ e = .returned (.string p.1) ∧ InIs w' b p.2 0 ∧ OStep b w w') ∨ (txtP l = none ∧ e = .panicked (errChain 2) ∧ OStep b w w') := by
  by_cases h4 : 4 ≤ l.length
  · have hK : leN (l.take 4) < 256 ^ 4 := by
      have := leN_lt (l.take 4)
      rwa [List.length_take, Nat.min_eq_left h4] at this
    by_cases hKl : leN (l.take 4) ≤ (l.drop 4).length
    · refine (ntext_ok b _ l w hl h4 rfl hKl h).mono ?_
      rintro e w' ⟨rfl, h1, h2⟩
      refine .inl ⟨(strL ((l.drop 4).take (leN (l.take 4))), (l.drop 4).drop (leN (l.take 4))), ?_, rfl, h1, h2⟩
      unfold txtP
      rw [numP_long h4]
      show (if (l.drop 4).length < leN (l.take 4) then none else some _) = _
      rw [if_neg (by omega)]
    · refine (ntext_cut b _ l w hl h4 rfl (by omega) (by omega) h).mono ?_
      rintro e w' ⟨rfl, h2⟩
      refine .inr ⟨?_, rfl, h2⟩
      unfold txtP
      rw [numP_long h4]
      show (if (l.drop 4).length < leN (l.take 4) then none else some _) = _
      rw [if_pos (by omega)]
  · refine (ntext_short b l w hl (by omega) h).mono ?_
    rintro e w' ⟨rfl, h2⟩
    refine .inr ⟨?_, rfl, h2⟩
    unfold txtP
    rw [numP_short (by omega)]
    rfl
def txtsP (n : Nod) (l : List UInt8) : Option (Nod × List UInt8) :=
  (txtP l).bind fun a => (txtP a.2).bind fun b => (txtP b.2).bind fun c => (txtP c.2).bind fun d => (txtP d.2).bind fun e =>
    some ({ n with name := a.1, uid := b.1, gid := c.1, muid := d.1, data := e.1 }, e.2)
theorem nodP_1 (l : List UInt8) : nodP l = (numsP l).bind fun n => txtsP n.1 n.2 := rfl
section
variable {o : Oper} {ev : Operand → Value} {w : World} {x y : Operand}
theorem rrun_storet {g i : Nat} {u : Value} {s : ByteArray} (ho : o.op = .store 9 x y) (hx : ev x = ptr g i) (hy : ev y = .string s) (hc : w.cell? ⟨g, i, none⟩ = some u) (hf : w.frozen? ⟨g, i, none⟩ = false) : (execOp ev o).run Tryz.prog w = .ok .skip (w.setCell ⟨g, i, none⟩ (.string s)) := by
  have hx' : ev x = .pointer (some ⟨g, i, none⟩) := hx
  simp [execOp, ho, hx', hy, hc, hf, go_sem]
end
theorem kept_set {w : World} {b z : Nat} {cs : Array Value} {t : TypeId} (h : KeptB w b z (.cells cs t (0, 0))) (i : Nat) (u : Value) : KeptB (w.setCell ⟨z, i, none⟩ u) b z (.cells (cs.setIfInBounds i u) t (0, 0)) :=
  ⟨block_set h.1 i u, Foot.store (p := ⟨z, i, none⟩) (fun e => h.2 (.inl e)) h.2⟩
theorem kept_oth {w : World} {b g z : Nat} {o : Obj} (h : KeptB w b g o) (hgz : g ≠ z) (hz : ¬ Foot w b z) (i : Nat) (u : Value) : KeptB (w.setCell ⟨z, i, none⟩ u) b g o :=
  ⟨(block_set_other hgz).trans h.1, Foot.store (p := ⟨z, i, none⟩) (fun e => hz (.inl e)) h.2⟩

noncomputable def ops_nn2 : Array Oper := match Tryz.f89.body with | some c => (allOps' c).getD 2 #[] | none => #[]
theorem size_nn2 : ops_nn2.size = 20 := by kernel_rfl
set_option maxHeartbeats 4000000 in
theorem nn2_all {w0 : World} {g b z : Nat} {n : Nod} {l : List UInt8} {v0 v2 : Value} {Q : Exit → Act → World → Prop} {a : Act} {w : World} (hl : l.length ≤ 1000000000) (hb0 : b < w0.heap.size) (hg0 : g < w0.heap.size) (hz : w0.heap.size ≤ z)
    (hI : InIs w b l 0) (hs : OStep b w0 w) (hg : KeptB w b g (.cells #[ptr b 0] 111 (0, 0))) (hZ : KeptB w b z (.cells n.cells 68 (0, 0)))
    (hQ : ∀ d u c a w, Q (.panic c) (a.put d u) w → Q (.panic c) a w) (hF : FrL 40 [(1, ptr g 0), (0, v0), (2, v2), (3, ptr z 0)] a)
    (hE : ∀ m r a w', txtsP n l = some (m, r) → FrL 40 [(1, ptr g 0), (0, v0), (2, v2), (3, ptr z 0)] a → InIs w' b r 0 → OStep b w0 w' → KeptB w' b g (.cells #[ptr b 0] 111 (0, 0)) → KeptB w' b z (.cells m.cells 68 (0, 0)) → Q .normal a w')
    (hP : ∀ a w', txtsP n l = none → a.defers = [] → OStep b w0 w' → Q (.panic (errChain 2)) a w') :
    wpAnyH Tryz.prog .any ops_nn2 Q (fun w' : World => w'.heap[g]? = some (.cells #[ptr b 0] 111 (0, 0))) 20 (Array.replicate 20 false) a w := by
  have hS : (fun w' : World => w'.heap[g]? = some (.cells #[ptr b 0] 111 (0, 0))) w := hg.1
  refine hst (i := 0) (o := ops_nn2[0]'(show 0 < ops_nn2.size by rw [size_nn2]; decide)) hF 24 true (.agg #[ptr b 0]) (Array.getElem?_eq_getElem (show 0 < ops_nn2.size by rw [size_nn2]; decide)) (by kernel_rfl) (by decide) (by kernel_rfl) (by kernel_rfl) (by kernel_rfl) (hQ _ _) (want_n (by kernel_rfl)) (fun hW w hS => rrun_load (ty := 111) (x := .tmp 1) (by kernel_rfl) (hF.ev 1 (ptr g 0) rfl) (rld_in (block_cell (show w.heap[g]? = _ from hS) 0))) hS (fun a hF => ?_)
  rw [show cond true (.agg #[ptr b 0]) undef = .agg #[ptr b 0] from rfl] at hF
  refine hst (i := 2) (o := ops_nn2[2]'(show 2 < ops_nn2.size by rw [size_nn2]; decide)) hF 26 true (.agg #[ptr b 0]) (Array.getElem?_eq_getElem (show 2 < ops_nn2.size by rw [size_nn2]; decide)) (by kernel_rfl) (by decide) (by kernel_rfl) (by kernel_rfl) (by kernel_rfl) (hQ _ _) (want_n (by kernel_rfl)) (fun hW w hS => rrun_load (ty := 111) (x := .tmp 1) (by kernel_rfl) (hF.ev 1 (ptr g 0) rfl) (rld_in (block_cell (show w.heap[g]? = _ from hS) 0))) hS (fun a hF => ?_)
  rw [show cond true (.agg #[ptr b 0]) undef = .agg #[ptr b 0] from rfl] at hF
  refine hst (i := 4) (o := ops_nn2[4]'(show 4 < ops_nn2.size by rw [size_nn2]; decide)) hF 28 true (.agg #[ptr b 0]) (Array.getElem?_eq_getElem (show 4 < ops_nn2.size by rw [size_nn2]; decide)) (by kernel_rfl) (by decide) (by kernel_rfl) (by kernel_rfl) (by kernel_rfl) (hQ _ _) (want_n (by kernel_rfl)) (fun hW w hS => rrun_load (ty := 111) (x := .tmp 1) (by kernel_rfl) (hF.ev 1 (ptr g 0) rfl) (rld_in (block_cell (show w.heap[g]? = _ from hS) 0))) hS (fun a hF => ?_)
  rw [show cond true (.agg #[ptr b 0]) undef = .agg #[ptr b 0] from rfl] at hF
  refine hst (i := 6) (o := ops_nn2[6]'(show 6 < ops_nn2.size by rw [size_nn2]; decide)) hF 30 true (.agg #[ptr b 0]) (Array.getElem?_eq_getElem (show 6 < ops_nn2.size by rw [size_nn2]; decide)) (by kernel_rfl) (by decide) (by kernel_rfl) (by kernel_rfl) (by kernel_rfl) (hQ _ _) (want_n (by kernel_rfl)) (fun hW w hS => rrun_load (ty := 111) (x := .tmp 1) (by kernel_rfl) (hF.ev 1 (ptr g 0) rfl) (rld_in (block_cell (show w.heap[g]? = _ from hS) 0))) hS (fun a hF => ?_)
  rw [show cond true (.agg #[ptr b 0]) undef = .agg #[ptr b 0] from rfl] at hF
  refine hst (i := 8) (o := ops_nn2[8]'(show 8 < ops_nn2.size by rw [size_nn2]; decide)) hF 32 true (.agg #[ptr b 0]) (Array.getElem?_eq_getElem (show 8 < ops_nn2.size by rw [size_nn2]; decide)) (by kernel_rfl) (by decide) (by kernel_rfl) (by kernel_rfl) (by kernel_rfl) (hQ _ _) (want_n (by kernel_rfl)) (fun hW w hS => rrun_load (ty := 111) (x := .tmp 1) (by kernel_rfl) (hF.ev 1 (ptr g 0) rfl) (rld_in (block_cell (show w.heap[g]? = _ from hS) 0))) hS (fun a hF => ?_)
  rw [show cond true (.agg #[ptr b 0]) undef = .agg #[ptr b 0] from rfl] at hF
  refine wpAnyH_all (rs := [1]) (by kernel_rfl) (by simp) fun j hj => ?_
  obtain rfl : j = 1 := by simpa using hj
  refine hdocp (i := 1) (o := ops_nn2[1]'(show 1 < ops_nn2.size by rw [size_nn2]; decide)) (R := fun v w' => ∃ p, txtP l = some p ∧ v = .string p.1 ∧ InIs w' b p.2 0 ∧ OStep b w w') hF 25 (Array.getElem?_eq_getElem (show 1 < ops_nn2.size by rw [size_nn2]; decide)) (by kernel_rfl) (by decide) (want_n (by kernel_rfl)) ⟨107, #[.agg #[ptr b 0]], rrun_call1 (fn := 107) (x := .tmp 24) (t := 111) rfl (by kernel_rfl) (by kernel_rfl) (hF.ev 24 _ rfl), (ntext_any b l w (by omega) hI).mono (by
    rintro e w' (⟨p, hp, rfl, h1, h2⟩ | ⟨hp, rfl, h2⟩)
    · exact .inl ⟨_, rfl, p, hp, rfl, h1, h2⟩
    · exact .inr ⟨_, rfl, hP _ _ (by simp only [txtsP, hp, Option.bind_none]) hF.df (hs.trans h2)⟩)⟩ ?_
  rintro _ a w1 ⟨p1, hp1, rfl, hI1, hs1⟩ hF
  replace hg := hg.step hs1
  replace hZ := hZ.step hs1
  replace hs := hs.trans hs1
  have q1 := txtP_some hp1
  clear hI
  have hI := hI1
  clear hI1 hs1 hS
  have hS := hg.1
  refine ⟨hS, ?_⟩
  refine hst (i := 10) (o := ops_nn2[10]'(show 10 < ops_nn2.size by rw [size_nn2]; decide)) hF 34 true (ptr z 5) (Array.getElem?_eq_getElem (show 10 < ops_nn2.size by rw [size_nn2]; decide)) (by kernel_rfl) (by decide) (by kernel_rfl) (by kernel_rfl) (by kernel_rfl) (hQ _ _) (want_n (by kernel_rfl)) (fun hW w hS => rrun_fld (T := 68) (x := .tmp 3) (f := 5) (by kernel_rfl) (hF.ev 3 (ptr z 0) rfl) (by kernel_rfl)) hS (fun a hF => ?_)
  rw [show cond true (ptr z 5) undef = ptr z 5 from rfl] at hF
  refine wpAnyH_all (rs := [3]) (by kernel_rfl) (by simp) fun j hj => ?_
  obtain rfl : j = 3 := by simpa using hj
  refine hdocp (i := 3) (o := ops_nn2[3]'(show 3 < ops_nn2.size by rw [size_nn2]; decide)) (R := fun v w' => ∃ p, txtP p1.2 = some p ∧ v = .string p.1 ∧ InIs w' b p.2 0 ∧ OStep b w1 w') hF 27 (Array.getElem?_eq_getElem (show 3 < ops_nn2.size by rw [size_nn2]; decide)) (by kernel_rfl) (by decide) (want_n (by kernel_rfl)) ⟨107, #[.agg #[ptr b 0]], rrun_call1 (fn := 107) (x := .tmp 26) (t := 111) rfl (by kernel_rfl) (by kernel_rfl) (hF.ev 26 _ rfl), (ntext_any b p1.2 w1 (by omega) hI).mono (by
    rintro e w' (⟨p, hp, rfl, h1, h2⟩ | ⟨hp, rfl, h2⟩)
    · exact .inl ⟨_, rfl, p, hp, rfl, h1, h2⟩
    · exact .inr ⟨_, rfl, hP _ _ (by simp only [txtsP, hp1, Option.bind_some, hp, Option.bind_none]) hF.df (hs.trans h2)⟩)⟩ ?_
  rintro _ a w2 ⟨p2, hp2, rfl, hI2, hs2⟩ hF
  replace hg := hg.step hs2
  replace hZ := hZ.step hs2
  replace hs := hs.trans hs2
  have q2 := txtP_some hp2
  clear hI
  have hI := hI2
  clear hI2 hs2 hS
  have hS := hg.1
  refine ⟨hS, ?_⟩
  refine wpAnyH_all (rs := [5]) (by kernel_rfl) (by simp) fun j hj => ?_
  obtain rfl : j = 5 := by simpa using hj
  refine hdocp (i := 5) (o := ops_nn2[5]'(show 5 < ops_nn2.size by rw [size_nn2]; decide)) (R := fun v w' => ∃ p, txtP p2.2 = some p ∧ v = .string p.1 ∧ InIs w' b p.2 0 ∧ OStep b w2 w') hF 29 (Array.getElem?_eq_getElem (show 5 < ops_nn2.size by rw [size_nn2]; decide)) (by kernel_rfl) (by decide) (want_n (by kernel_rfl)) ⟨107, #[.agg #[ptr b 0]], rrun_call1 (fn := 107) (x := .tmp 28) (t := 111) rfl (by kernel_rfl) (by kernel_rfl) (hF.ev 28 _ rfl), (ntext_any b p2.2 w2 (by omega) hI).mono (by
    rintro e w' (⟨p, hp, rfl, h1, h2⟩ | ⟨hp, rfl, h2⟩)
    · exact .inl ⟨_, rfl, p, hp, rfl, h1, h2⟩
    · exact .inr ⟨_, rfl, hP _ _ (by simp only [txtsP, hp1, hp2, Option.bind_some, hp, Option.bind_none]) hF.df (hs.trans h2)⟩)⟩ ?_
  rintro _ a w3 ⟨p3, hp3, rfl, hI3, hs3⟩ hF
  replace hg := hg.step hs3
  replace hZ := hZ.step hs3
  replace hs := hs.trans hs3
  have q3 := txtP_some hp3
  clear hI
  have hI := hI3
  clear hI3 hs3 hS
  have hS := hg.1
  refine ⟨hS, ?_⟩
  refine wpAnyH_all (rs := [7]) (by kernel_rfl) (by simp) fun j hj => ?_
  obtain rfl : j = 7 := by simpa using hj
  refine hdocp (i := 7) (o := ops_nn2[7]'(show 7 < ops_nn2.size by rw [size_nn2]; decide)) (R := fun v w' => ∃ p, txtP p3.2 = some p ∧ v = .string p.1 ∧ InIs w' b p.2 0 ∧ OStep b w3 w') hF 31 (Array.getElem?_eq_getElem (show 7 < ops_nn2.size by rw [size_nn2]; decide)) (by kernel_rfl) (by decide) (want_n (by kernel_rfl)) ⟨107, #[.agg #[ptr b 0]], rrun_call1 (fn := 107) (x := .tmp 30) (t := 111) rfl (by kernel_rfl) (by kernel_rfl) (hF.ev 30 _ rfl), (ntext_any b p3.2 w3 (by omega) hI).mono (by
    rintro e w' (⟨p, hp, rfl, h1, h2⟩ | ⟨hp, rfl, h2⟩)
    · exact .inl ⟨_, rfl, p, hp, rfl, h1, h2⟩
    · exact .inr ⟨_, rfl, hP _ _ (by simp only [txtsP, hp1, hp2, hp3, Option.bind_some, hp, Option.bind_none]) hF.df (hs.trans h2)⟩)⟩ ?_
  rintro _ a w4 ⟨p4, hp4, rfl, hI4, hs4⟩ hF
  replace hg := hg.step hs4
  replace hZ := hZ.step hs4
  replace hs := hs.trans hs4
  have q4 := txtP_some hp4
  clear hI
  have hI := hI4
  clear hI4 hs4 hS
  have hS := hg.1
  refine ⟨hS, ?_⟩
  refine wpAnyH_all (rs := [9]) (by kernel_rfl) (by simp) fun j hj => ?_
  obtain rfl : j = 9 := by simpa using hj
  refine hdocp (i := 9) (o := ops_nn2[9]'(show 9 < ops_nn2.size by rw [size_nn2]; decide)) (R := fun v w' => ∃ p, txtP p4.2 = some p ∧ v = .string p.1 ∧ InIs w' b p.2 0 ∧ OStep b w4 w') hF 33 (Array.getElem?_eq_getElem (show 9 < ops_nn2.size by rw [size_nn2]; decide)) (by kernel_rfl) (by decide) (want_n (by kernel_rfl)) ⟨107, #[.agg #[ptr b 0]], rrun_call1 (fn := 107) (x := .tmp 32) (t := 111) rfl (by kernel_rfl) (by kernel_rfl) (hF.ev 32 _ rfl), (ntext_any b p4.2 w4 (by omega) hI).mono (by
    rintro e w' (⟨p, hp, rfl, h1, h2⟩ | ⟨hp, rfl, h2⟩)
    · exact .inl ⟨_, rfl, p, hp, rfl, h1, h2⟩
    · exact .inr ⟨_, rfl, hP _ _ (by simp only [txtsP, hp1, hp2, hp3, hp4, Option.bind_some, hp, Option.bind_none]) hF.df (hs.trans h2)⟩)⟩ ?_
  rintro _ a w5 ⟨p5, hp5, rfl, hI5, hs5⟩ hF
  replace hg := hg.step hs5
  replace hZ := hZ.step hs5
  replace hs := hs.trans hs5
  have q5 := txtP_some hp5
  clear hI
  have hI := hI5
  clear hI5 hs5 hS
  have hS := hg.1
  refine ⟨hS, ?_⟩
  have hgz : g ≠ z := by omega
  refine wpAnyH_all (rs := [11]) (by kernel_rfl) (by simp) fun j hj => ?_
  obtain rfl : j = 11 := by simpa using hj
  refine hdo0 (o := ops_nn2[11]'(show 11 < ops_nn2.size by rw [size_nn2]; decide)) (w5.setCell ⟨z, 5, none⟩ (.string p1.1)) (Array.getElem?_eq_getElem (show 11 < ops_nn2.size by rw [size_nn2]; decide)) (by kernel_rfl) (want_n (by kernel_rfl)) (rrun_storet (x := .tmp 34) (y := .tmp 25) (by kernel_rfl) (hF.ev 34 _ rfl) (hF.ev 25 _ rfl) (block_cell hZ.1 5) (block_free hZ.1 5)) ?_
  have hs1 : OStep b w0 (w5.setCell ⟨z, 5, none⟩ (.string p1.1)) := hs.store hz hZ.2 hb0 _
  have hg1 := kept_oth hg hgz hZ.2 5 (.string p1.1)
  have hZ1 : KeptB (w5.setCell ⟨z, 5, none⟩ (.string p1.1)) b z (.cells (show Nod from { n with name := p1.1 }).cells 68 (0, 0)) := kept_set hZ 5 (.string p1.1)
  have hI1 := hI.store (p := ⟨z, 5, none⟩) (.string p1.1) hZ.2
  generalize w5.setCell ⟨z, 5, none⟩ (.string p1.1) = V1 at *
  clear hs hg hZ hI
  have hs := hs1
  have hg := hg1
  have hZ := hZ1
  have hI := hI1
  clear hs1 hg1 hZ1 hI1 hS
  have hS := hg.1
  refine ⟨hS, ?_⟩
  refine hst (i := 12) (o := ops_nn2[12]'(show 12 < ops_nn2.size by rw [size_nn2]; decide)) hF 35 true (ptr z 6) (Array.getElem?_eq_getElem (show 12 < ops_nn2.size by rw [size_nn2]; decide)) (by kernel_rfl) (by decide) (by kernel_rfl) (by kernel_rfl) (by kernel_rfl) (hQ _ _) (want_n (by kernel_rfl)) (fun hW w hS => rrun_fld (T := 68) (x := .tmp 3) (f := 6) (by kernel_rfl) (hF.ev 3 (ptr z 0) rfl) (by kernel_rfl)) hS (fun a hF => ?_)
  rw [show cond true (ptr z 6) undef = ptr z 6 from rfl] at hF
  refine wpAnyH_all (rs := [13]) (by kernel_rfl) (by simp) fun j hj => ?_
  obtain rfl : j = 13 := by simpa using hj
  refine hdo0 (o := ops_nn2[13]'(show 13 < ops_nn2.size by rw [size_nn2]; decide)) (V1.setCell ⟨z, 6, none⟩ (.string p2.1)) (Array.getElem?_eq_getElem (show 13 < ops_nn2.size by rw [size_nn2]; decide)) (by kernel_rfl) (want_n (by kernel_rfl)) (rrun_storet (x := .tmp 35) (y := .tmp 27) (by kernel_rfl) (hF.ev 35 _ rfl) (hF.ev 27 _ rfl) (block_cell hZ.1 6) (block_free hZ.1 6)) ?_
  have hs2 : OStep b w0 (V1.setCell ⟨z, 6, none⟩ (.string p2.1)) := hs.store hz hZ.2 hb0 _
  have hg2 := kept_oth hg hgz hZ.2 6 (.string p2.1)
  have hZ2 : KeptB (V1.setCell ⟨z, 6, none⟩ (.string p2.1)) b z (.cells (show Nod from { n with name := p1.1, uid := p2.1 }).cells 68 (0, 0)) := kept_set hZ 6 (.string p2.1)
  have hI2 := hI.store (p := ⟨z, 6, none⟩) (.string p2.1) hZ.2
  generalize V1.setCell ⟨z, 6, none⟩ (.string p2.1) = V2 at *
  clear hs hg hZ hI
  have hs := hs2
  have hg := hg2
  have hZ := hZ2
  have hI := hI2
  clear hs2 hg2 hZ2 hI2 hS
  have hS := hg.1
  refine ⟨hS, ?_⟩
  refine hst (i := 14) (o := ops_nn2[14]'(show 14 < ops_nn2.size by rw [size_nn2]; decide)) hF 36 true (ptr z 7) (Array.getElem?_eq_getElem (show 14 < ops_nn2.size by rw [size_nn2]; decide)) (by kernel_rfl) (by decide) (by kernel_rfl) (by kernel_rfl) (by kernel_rfl) (hQ _ _) (want_n (by kernel_rfl)) (fun hW w hS => rrun_fld (T := 68) (x := .tmp 3) (f := 7) (by kernel_rfl) (hF.ev 3 (ptr z 0) rfl) (by kernel_rfl)) hS (fun a hF => ?_)
  rw [show cond true (ptr z 7) undef = ptr z 7 from rfl] at hF
  refine wpAnyH_all (rs := [15]) (by kernel_rfl) (by simp) fun j hj => ?_
  obtain rfl : j = 15 := by simpa using hj
  refine hdo0 (o := ops_nn2[15]'(show 15 < ops_nn2.size by rw [size_nn2]; decide)) (V2.setCell ⟨z, 7, none⟩ (.string p3.1)) (Array.getElem?_eq_getElem (show 15 < ops_nn2.size by rw [size_nn2]; decide)) (by kernel_rfl) (want_n (by kernel_rfl)) (rrun_storet (x := .tmp 36) (y := .tmp 29) (by kernel_rfl) (hF.ev 36 _ rfl) (hF.ev 29 _ rfl) (block_cell hZ.1 7) (block_free hZ.1 7)) ?_
  have hs3 : OStep b w0 (V2.setCell ⟨z, 7, none⟩ (.string p3.1)) := hs.store hz hZ.2 hb0 _
  have hg3 := kept_oth hg hgz hZ.2 7 (.string p3.1)
  have hZ3 : KeptB (V2.setCell ⟨z, 7, none⟩ (.string p3.1)) b z (.cells (show Nod from { n with name := p1.1, uid := p2.1, gid := p3.1 }).cells 68 (0, 0)) := kept_set hZ 7 (.string p3.1)
  have hI3 := hI.store (p := ⟨z, 7, none⟩) (.string p3.1) hZ.2
  generalize V2.setCell ⟨z, 7, none⟩ (.string p3.1) = V3 at *
  clear hs hg hZ hI
  have hs := hs3
  have hg := hg3
  have hZ := hZ3
  have hI := hI3
  clear hs3 hg3 hZ3 hI3 hS
  have hS := hg.1
  refine ⟨hS, ?_⟩
  refine hst (i := 16) (o := ops_nn2[16]'(show 16 < ops_nn2.size by rw [size_nn2]; decide)) hF 37 true (ptr z 8) (Array.getElem?_eq_getElem (show 16 < ops_nn2.size by rw [size_nn2]; decide)) (by kernel_rfl) (by decide) (by kernel_rfl) (by kernel_rfl) (by kernel_rfl) (hQ _ _) (want_n (by kernel_rfl)) (fun hW w hS => rrun_fld (T := 68) (x := .tmp 3) (f := 8) (by kernel_rfl) (hF.ev 3 (ptr z 0) rfl) (by kernel_rfl)) hS (fun a hF => ?_)
  rw [show cond true (ptr z 8) undef = ptr z 8 from rfl] at hF
  refine wpAnyH_all (rs := [17]) (by kernel_rfl) (by simp) fun j hj => ?_
  obtain rfl : j = 17 := by simpa using hj
  refine hdo0 (o := ops_nn2[17]'(show 17 < ops_nn2.size by rw [size_nn2]; decide)) (V3.setCell ⟨z, 8, none⟩ (.string p4.1)) (Array.getElem?_eq_getElem (show 17 < ops_nn2.size by rw [size_nn2]; decide)) (by kernel_rfl) (want_n (by kernel_rfl)) (rrun_storet (x := .tmp 37) (y := .tmp 31) (by kernel_rfl) (hF.ev 37 _ rfl) (hF.ev 31 _ rfl) (block_cell hZ.1 8) (block_free hZ.1 8)) ?_
  have hs4 : OStep b w0 (V3.setCell ⟨z, 8, none⟩ (.string p4.1)) := hs.store hz hZ.2 hb0 _
  have hg4 := kept_oth hg hgz hZ.2 8 (.string p4.1)
  have hZ4 : KeptB (V3.setCell ⟨z, 8, none⟩ (.string p4.1)) b z (.cells (show Nod from { n with name := p1.1, uid := p2.1, gid := p3.1, muid := p4.1 }).cells 68 (0, 0)) := kept_set hZ 8 (.string p4.1)
  have hI4 := hI.store (p := ⟨z, 8, none⟩) (.string p4.1) hZ.2
  generalize V3.setCell ⟨z, 8, none⟩ (.string p4.1) = V4 at *
  clear hs hg hZ hI
  have hs := hs4
  have hg := hg4
  have hZ := hZ4
  have hI := hI4
  clear hs4 hg4 hZ4 hI4 hS
  have hS := hg.1
  refine ⟨hS, ?_⟩
  refine hst (i := 18) (o := ops_nn2[18]'(show 18 < ops_nn2.size by rw [size_nn2]; decide)) hF 38 true (ptr z 11) (Array.getElem?_eq_getElem (show 18 < ops_nn2.size by rw [size_nn2]; decide)) (by kernel_rfl) (by decide) (by kernel_rfl) (by kernel_rfl) (by kernel_rfl) (hQ _ _) (want_n (by kernel_rfl)) (fun hW w hS => rrun_fld (T := 68) (x := .tmp 3) (f := 11) (by kernel_rfl) (hF.ev 3 (ptr z 0) rfl) (by kernel_rfl)) hS (fun a hF => ?_)
  rw [show cond true (ptr z 11) undef = ptr z 11 from rfl] at hF
  refine wpAnyH_all (rs := [19]) (by kernel_rfl) (by simp) fun j hj => ?_
  obtain rfl : j = 19 := by simpa using hj
  refine hdo0 (o := ops_nn2[19]'(show 19 < ops_nn2.size by rw [size_nn2]; decide)) (V4.setCell ⟨z, 11, none⟩ (.string p5.1)) (Array.getElem?_eq_getElem (show 19 < ops_nn2.size by rw [size_nn2]; decide)) (by kernel_rfl) (want_n (by kernel_rfl)) (rrun_storet (x := .tmp 38) (y := .tmp 33) (by kernel_rfl) (hF.ev 38 _ rfl) (hF.ev 33 _ rfl) (block_cell hZ.1 11) (block_free hZ.1 11)) ?_
  have hs5 : OStep b w0 (V4.setCell ⟨z, 11, none⟩ (.string p5.1)) := hs.store hz hZ.2 hb0 _
  have hg5 := kept_oth hg hgz hZ.2 11 (.string p5.1)
  have hZ5 : KeptB (V4.setCell ⟨z, 11, none⟩ (.string p5.1)) b z (.cells (show Nod from { n with name := p1.1, uid := p2.1, gid := p3.1, muid := p4.1, data := p5.1 }).cells 68 (0, 0)) := kept_set hZ 11 (.string p5.1)
  have hI5 := hI.store (p := ⟨z, 11, none⟩) (.string p5.1) hZ.2
  generalize V4.setCell ⟨z, 11, none⟩ (.string p5.1) = V5 at *
  clear hs hg hZ hI
  have hs := hs5
  have hg := hg5
  have hZ := hZ5
  have hI := hI5
  clear hs5 hg5 hZ5 hI5 hS
  have hS := hg.1
  refine ⟨hS, ?_⟩
  refine wpAnyH_done (by kernel_rfl) (hE { n with name := p1.1, uid := p2.1, gid := p3.1, muid := p4.1, data := p5.1 } p5.2 _ _ (by simp only [txtsP, hp1, hp2, hp3, hp4, hp5, Option.bind_some]) (hF.sub [(1, ptr g 0), (0, v0), (2, v2), (3, ptr z 0)] ⟨rfl, rfl, rfl, rfl, trivial⟩) hI hs hg hZ) _
end
end Go.Proofs.YtcmajcljafmphaaGreat

namespace Go.Proofs.YtcmajcljafmphaaGreat
section
open Go.RowKit
set_option maxRecDepth 100000
set_option linter.unusedVariables false

set_option maxHeartbeats 3200000 in
theorem nnode_any (b : Nat) (l : List UInt8) (w : World) (hl : l.length ≤ 1000000000) (h : InIs w b l 0) :
    Calls Tryz.prog 89 #[.agg #[.pointer (some ⟨b, 0, none⟩)]] w fun e w' => (∃ p, nodP l = some p ∧ e = .returned (.agg p.1.cells) ∧ InIs w' b p.2 0 ∧ OStep b w w') ∨ (nodP l = none ∧ e = .panicked (errChain 2) ∧ OStep b w w') := by
  have mixed : Tryz.prog.follows Departure.mixedOrders = true := by first | kernel_rfl | decide
  obtain ⟨W, hW⟩ : ∃ W, W = (w.alloc (.cells #[.pointer (some ⟨b, 0, none⟩)] 111)).alloc (.cells zeroNod.cells 68) := ⟨_, rfl⟩
  have hb0 : Below w.heap.size w W := by rw [hW]; exact ((Below.refl _ _).alloc (Nat.le_refl _) _).alloc (by simp) _
  have hbd : Below W.heap.size W W.drew := (Below.refl _ _).drew
  have hnf : ∀ k, w.heap.size ≤ k → ¬ Foot W b k := fun k hk hf => by
    have h2 := h.foot_lt (k := k) (by
      rcases hf with e | ⟨v, hv, hk2⟩
      · exact .inl e
      · rw [hb0.cell (p := ⟨b, 0, none⟩) h.lt] at hv; exact .inr ⟨v, hv, hk2⟩)
    omega
  have hI := hid (show InIs W.drew b l 0 from (h.below hb0).below hbd)
  have hG := hid (show KeptB W.drew b w.heap.size (.cells #[ptr b 0] 111 (0, 0)) from ⟨by
    show W.heap[w.heap.size]? = _
    rw [hW, heap_alloc_old _ _ (by simp)]; exact heap_alloc_new _ _, by
    show ¬ Foot W b w.heap.size
    exact hnf _ (Nat.le_refl _)⟩)
  have hR := hid (show KeptB W.drew b (w.heap.size + 1) (.cells zeroNod.cells 68 (0, 0)) from ⟨by
    show W.heap[w.heap.size + 1]? = _
    rw [hW]; exact heap2 _ _ _, by
    show ¬ Foot W b (w.heap.size + 1)
    exact hnf _ (by omega)⟩)
  have hWs : Hid (W.drew.heap.size = w.heap.size + 2) := hid (by show W.heap.size = _; rw [hW]; simp)
  have hs0 := hid ((OStep.pure (h.foot_lt (.inl rfl)) hb0).trans (OStep.pure ((h.below hb0).foot_lt (.inl rfl)) hbd))
  have h0 := hid h
  clear hb0 hbd hnf h
  rw [zeroNod_cells] at hW
  go_enter Tryz.func89, Tryz.ntmps89
  go_wp2_with (rw [← hW]; replace hW := hid hW)
  try (rw [← hW]; replace hW := hid hW)
  refine wp_region_held (S := fun w' : World => w'.heap[w.heap.size]? = some (.cells #[ptr b 0] 111 (0, 0))) mixed ?_
  refine (show wpAnyH Tryz.prog .any ops_nn1 _ _ _ _ _ _ → _ from fun h => h) ?_
  refine nn1_all (w := W.drew) (g := w.heap.size) (b := b) (l := l) hl hI.out hG.out (fun d u c a w h => by cases d <;> exact h) (FrL.of_all (by rfl) rfl ⟨rfl, rfl, rfl, trivial⟩) (fun z n r a w1 hn hz hF hI1 hs1 hg1 hZ1 => ?_) (fun a w1 hn hd hs1 => ?_)
  case refine_2 => exact ⟨hd, .inr ⟨by rw [nodP_1, hn]; rfl, rfl, hs0.out.trans hs1⟩⟩
  have he := frame_eq hF [.agg #[.pointer (some ⟨b, 0, none⟩)], .pointer (some ⟨w.heap.size, 0, none⟩), .pointer (some ⟨(w.heap.size + 1), 0, none⟩), .pointer (some ⟨z, 0, none⟩), a.tmps.getD 4 undef, a.tmps.getD 5 undef, a.tmps.getD 6 undef, a.tmps.getD 7 undef, a.tmps.getD 8 undef, a.tmps.getD 9 undef, a.tmps.getD 10 undef, a.tmps.getD 11 undef, a.tmps.getD 12 undef, a.tmps.getD 13 undef, a.tmps.getD 14 undef, a.tmps.getD 15 undef, a.tmps.getD 16 undef, a.tmps.getD 17 undef, a.tmps.getD 18 undef, a.tmps.getD 19 undef, a.tmps.getD 20 undef, a.tmps.getD 21 undef, a.tmps.getD 22 undef, a.tmps.getD 23 undef, a.tmps.getD 24 undef, a.tmps.getD 25 undef, a.tmps.getD 26 undef, a.tmps.getD 27 undef, a.tmps.getD 28 undef, a.tmps.getD 29 undef, a.tmps.getD 30 undef, a.tmps.getD 31 undef, a.tmps.getD 32 undef, a.tmps.getD 33 undef, a.tmps.getD 34 undef, a.tmps.getD 35 undef, a.tmps.getD 36 undef, a.tmps.getD 37 undef, a.tmps.getD 38 undef, a.tmps.getD 39 undef] (by rfl) ⟨hF.get 0 _ rfl, hF.get 1 _ rfl, hF.get 2 _ rfl, hF.get 3 _ rfl, hF.any 4 (by decide), hF.any 5 (by decide), hF.any 6 (by decide), hF.any 7 (by decide), hF.any 8 (by decide), hF.any 9 (by decide), hF.any 10 (by decide), hF.any 11 (by decide), hF.any 12 (by decide), hF.any 13 (by decide), hF.any 14 (by decide), hF.any 15 (by decide), hF.any 16 (by decide), hF.any 17 (by decide), hF.any 18 (by decide), hF.any 19 (by decide), hF.any 20 (by decide), hF.any 21 (by decide), hF.any 22 (by decide), hF.any 23 (by decide), hF.any 24 (by decide), hF.any 25 (by decide), hF.any 26 (by decide), hF.any 27 (by decide), hF.any 28 (by decide), hF.any 29 (by decide), hF.any 30 (by decide), hF.any 31 (by decide), hF.any 32 (by decide), hF.any 33 (by decide), hF.any 34 (by decide), hF.any 35 (by decide), hF.any 36 (by decide), hF.any 37 (by decide), hF.any 38 (by decide), hF.any 39 (by decide), trivial⟩
  rw [he]
  clear he hF
  generalize a.tmps.getD 4 undef = u4
  generalize a.tmps.getD 5 undef = u5
  generalize a.tmps.getD 6 undef = u6
  generalize a.tmps.getD 7 undef = u7
  generalize a.tmps.getD 8 undef = u8
  generalize a.tmps.getD 9 undef = u9
  generalize a.tmps.getD 10 undef = u10
  generalize a.tmps.getD 11 undef = u11
  generalize a.tmps.getD 12 undef = u12
  generalize a.tmps.getD 13 undef = u13
  generalize a.tmps.getD 14 undef = u14
  generalize a.tmps.getD 15 undef = u15
  generalize a.tmps.getD 16 undef = u16
  generalize a.tmps.getD 17 undef = u17
  generalize a.tmps.getD 18 undef = u18
  generalize a.tmps.getD 19 undef = u19
  generalize a.tmps.getD 20 undef = u20
  generalize a.tmps.getD 21 undef = u21
  generalize a.tmps.getD 22 undef = u22
  generalize a.tmps.getD 23 undef = u23
  generalize a.tmps.getD 24 undef = u24
  generalize a.tmps.getD 25 undef = u25
  generalize a.tmps.getD 26 undef = u26
  generalize a.tmps.getD 27 undef = u27
  generalize a.tmps.getD 28 undef = u28
  generalize a.tmps.getD 29 undef = u29
  generalize a.tmps.getD 30 undef = u30
  generalize a.tmps.getD 31 undef = u31
  generalize a.tmps.getD 32 undef = u32
  generalize a.tmps.getD 33 undef = u33
  generalize a.tmps.getD 34 undef = u34
  generalize a.tmps.getD 35 undef = u35
  generalize a.tmps.getD 36 undef = u36
  generalize a.tmps.getD 37 undef = u37
  generalize a.tmps.getD 38 undef = u38
  generalize a.tmps.getD 39 undef = u39
  clear a
  have hbd : Below w1.heap.size w1 w1.drew := (Below.refl _ _).drew
  have hz0 := hz
  rw [hWs.out] at hz
  have hr1 := (numsP_some hn).2.2.2.2.2.2
  have hI2 := hid (hI1.below hbd)
  have hstp := OStep.pure hI1.lt hbd
  have hg2 := hid (hg1.step hstp)
  have hZ2 := hid (hZ1.step hstp)
  have hs2 := hid (hs1.trans hstp)
  have hbw := hid (show b < W.drew.heap.size from hI.out.lt)
  replace hn := hid hn
  replace hz0 := hid hz0
  clear hI1 hg1 hZ1 hs1 hbd hstp
  go_wp2_with fail
  refine wp_region_held (S := fun w' : World => w'.heap[w.heap.size]? = some (.cells #[ptr b 0] 111 (0, 0))) mixed ?_
  refine (show wpAnyH Tryz.prog .any ops_nn2 _ _ _ _ _ _ → _ from fun h => h) ?_

  refine nn2_all (w0 := W.drew) (w := w1.drew) (g := w.heap.size) (b := b) (z := z) (n := n) (l := r) (by omega) hbw.out (by have := hWs.out; omega) hz0.out hI2.out hs2.out hg2.out hZ2.out (fun d u c a w h => by cases d <;> exact h) (FrL.of_all (by rfl) rfl ⟨rfl, rfl, rfl, rfl, trivial⟩) (fun m r2 a w2 hm hF hI3 hs3 hg3 hZ3 => ?_) (fun a w2 hm hd hs3 => ?_)
  case refine_2 => exact ⟨hd, .inr ⟨by rw [nodP_1, hn.out]; exact hm, rfl, hs0.out.trans hs3⟩⟩
  have he := frame_eq hF [.agg #[.pointer (some ⟨b, 0, none⟩)], .pointer (some ⟨w.heap.size, 0, none⟩), .pointer (some ⟨(w.heap.size + 1), 0, none⟩), .pointer (some ⟨z, 0, none⟩), a.tmps.getD 4 undef, a.tmps.getD 5 undef, a.tmps.getD 6 undef, a.tmps.getD 7 undef, a.tmps.getD 8 undef, a.tmps.getD 9 undef, a.tmps.getD 10 undef, a.tmps.getD 11 undef, a.tmps.getD 12 undef, a.tmps.getD 13 undef, a.tmps.getD 14 undef, a.tmps.getD 15 undef, a.tmps.getD 16 undef, a.tmps.getD 17 undef, a.tmps.getD 18 undef, a.tmps.getD 19 undef, a.tmps.getD 20 undef, a.tmps.getD 21 undef, a.tmps.getD 22 undef, a.tmps.getD 23 undef, a.tmps.getD 24 undef, a.tmps.getD 25 undef, a.tmps.getD 26 undef, a.tmps.getD 27 undef, a.tmps.getD 28 undef, a.tmps.getD 29 undef, a.tmps.getD 30 undef, a.tmps.getD 31 undef, a.tmps.getD 32 undef, a.tmps.getD 33 undef, a.tmps.getD 34 undef, a.tmps.getD 35 undef, a.tmps.getD 36 undef, a.tmps.getD 37 undef, a.tmps.getD 38 undef, a.tmps.getD 39 undef] (by rfl) ⟨hF.get 0 _ rfl, hF.get 1 _ rfl, hF.get 2 _ rfl, hF.get 3 _ rfl, hF.any 4 (by decide), hF.any 5 (by decide), hF.any 6 (by decide), hF.any 7 (by decide), hF.any 8 (by decide), hF.any 9 (by decide), hF.any 10 (by decide), hF.any 11 (by decide), hF.any 12 (by decide), hF.any 13 (by decide), hF.any 14 (by decide), hF.any 15 (by decide), hF.any 16 (by decide), hF.any 17 (by decide), hF.any 18 (by decide), hF.any 19 (by decide), hF.any 20 (by decide), hF.any 21 (by decide), hF.any 22 (by decide), hF.any 23 (by decide), hF.any 24 (by decide), hF.any 25 (by decide), hF.any 26 (by decide), hF.any 27 (by decide), hF.any 28 (by decide), hF.any 29 (by decide), hF.any 30 (by decide), hF.any 31 (by decide), hF.any 32 (by decide), hF.any 33 (by decide), hF.any 34 (by decide), hF.any 35 (by decide), hF.any 36 (by decide), hF.any 37 (by decide), hF.any 38 (by decide), hF.any 39 (by decide), trivial⟩
  rw [he]
  clear he hF
  generalize a.tmps.getD 4 undef = u4
  generalize a.tmps.getD 5 undef = u5
  generalize a.tmps.getD 6 undef = u6
  generalize a.tmps.getD 7 undef = u7
  generalize a.tmps.getD 8 undef = u8
  generalize a.tmps.getD 9 undef = u9
  generalize a.tmps.getD 10 undef = u10
  generalize a.tmps.getD 11 undef = u11
  generalize a.tmps.getD 12 undef = u12
  generalize a.tmps.getD 13 undef = u13
  generalize a.tmps.getD 14 undef = u14
  generalize a.tmps.getD 15 undef = u15
  generalize a.tmps.getD 16 undef = u16
  generalize a.tmps.getD 17 undef = u17
  generalize a.tmps.getD 18 undef = u18
  generalize a.tmps.getD 19 undef = u19
  generalize a.tmps.getD 20 undef = u20
  generalize a.tmps.getD 21 undef = u21
  generalize a.tmps.getD 22 undef = u22
  generalize a.tmps.getD 23 undef = u23
  generalize a.tmps.getD 24 undef = u24
  generalize a.tmps.getD 25 undef = u25
  generalize a.tmps.getD 26 undef = u26
  generalize a.tmps.getD 27 undef = u27
  generalize a.tmps.getD 28 undef = u28
  generalize a.tmps.getD 29 undef = u29
  generalize a.tmps.getD 30 undef = u30
  generalize a.tmps.getD 31 undef = u31
  generalize a.tmps.getD 32 undef = u32
  generalize a.tmps.getD 33 undef = u33
  generalize a.tmps.getD 34 undef = u34
  generalize a.tmps.getD 35 undef = u35
  generalize a.tmps.getD 36 undef = u36
  generalize a.tmps.getD 37 undef = u37
  generalize a.tmps.getD 38 undef = u38
  generalize a.tmps.getD 39 undef = u39
  clear a
  have hst := hid (hs0.out.trans hs3)
  have hR3 := hid (hR.out.step hs3)
  have hFin := hid (setRow_heap w2 (w.heap.size + 1) _ m.cells _ _ hR3.out.1)
  have hZ3' := hid hZ3
  have hI3' := hid hI3
  have hmm : Hid (nodP l = some (m, r2)) := hid (by rw [nodP_1, hn.out]; exact hm)
  clear hR hI2 hg2 hZ2 hs2 hm hI3 hs3 hg3 hZ3 hG hI hs0
  go_wp2_with (first
    | (refine wpList_load_row (by rfl) 68 (.tmp 3) (by rfl) z (by rfl) 68 m.cells (0, 0) _ hZ3'.out.1 Tryz.underlying68 (by rfl) (by kernel_rfl) ?_)
    | (refine wpList_store_row (by rfl) 68 (.tmp 2) (.tmp 39) (by rfl) (w.heap.size + 1) m.cells (by rfl) (by rfl) 68 _ hR3.out.1 (by kernel_rfl) (by kernel_rfl) (nod_one m) ?_))
  refine bodyPost_ret (results_cell_row rfl _ _ (w.heap.size + 1) _ _ _ _ rfl hFin.out Tryz.underlying68 rfl (by kernel_rfl)) rfl ?_
  exact .inl ⟨(m, r2), hmm.out, rfl, in_row hI3'.out hR3.out.2 _, ostep_row hst.out (by omega) h0.out.lt hR3.out.2 _⟩
end
end Go.Proofs.YtcmajcljafmphaaGreat
