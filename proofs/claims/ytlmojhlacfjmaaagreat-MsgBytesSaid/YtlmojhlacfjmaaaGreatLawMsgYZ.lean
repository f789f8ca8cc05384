/- For any bytes law MsgBytes returns true. No condition. -/
import Derived.Test.YtlmojhlacfjmaaaGreatRDecodeZ
import Derived.Test.YtlmojhlacfjmaaaGreatRDecMZ
namespace Go.Proofs.YtlmojhlacfjmaaaGreat
open Go.RowKit
set_option maxRecDepth 100000
set_option linter.unusedVariables false

def ByS (p q : Nat) (x : MV) (cs : Array Value) (w : World) : Prop := w.heap[p]? = some (.cells x.cells 33 (0, 0)) ∧ w.heap[q]? = some (.cells cs 46 (0, 0))
theorem ByS.below {p q : Nat} {x : MV} {cs : Array Value} {w w' : World} (h : ByS p q x cs w) (hb : Below w.heap.size w w') : ByS p q x cs w' :=
 ⟨(hb.block p (lt_of_block h.1)).trans h.1, (hb.block q (lt_of_block h.2)).trans h.2⟩
theorem rsameB_self {m : M} (ho : MOk m) (hf : RFew m) (hk : 100 ≤ m.ty ∧ m.ty ≤ 127 ∧ m.ty ≠ 106) : rsameB m m = true := (rsame_iff ho ho hf hf hk).2 rfl
theorem rcells_ok {w : World} {m : M} {vN vQ : Value} (hN : StrsAt w vN m.names) (hQ : QidsAt w vQ m.qids) : (m.rcells vN vQ (strL m.data)).size = 36 ∧ (m.rcells vN vQ (strL m.data)).all (·.oneCell') = true := ⟨rfl, by
 obtain ⟨aN, cN, eN⟩ : ∃ a c, vN = .slice a m.names.length c := by obtain ⟨_, a, c, h, _⟩ := hN; exact ⟨a, c, h⟩
 obtain ⟨aQ, cQ, eQ⟩ : ∃ a c, vQ = .slice a m.qids.length c := by obtain ⟨_, a, c, h, _⟩ := hQ; exact ⟨a, c, h⟩
 rw [eN, eQ]; kernel_rfl⟩

theorem run_row_loadR (w : World) (o : Oper) (ev : Operand → Value) (x : Operand) (g : Nat) (cs : Array Value) (ho : o.op = .load 46 x) (hx : ev x = pt g 0) (hg : w.heap[g]? = some (.cells cs 46 (0, 0))) (hs : cs.size = 36) : (execOp ev o).run Tryz.prog w = .ok (.value (.agg cs)) w := by
 have hi : (Tryz.prog.info? 46).map (·.size) = some cs.size := by rw [hs]; kernel_rfl
 have hx' : ev x = .pointer (some ⟨g, 0, none⟩) := hx
 simp only [execOp, ho, hx', Instr.loadAt, Instr.sureAddr, Sem.run_bind, Sem.run_pure, Result.andThen_ok, run_loadVar_row w g 46 46 cs (0, 0) _ hg Tryz.underlying46 rfl hi]

set_option maxHeartbeats 6400000 in
theorem law_MsgBytes (v : Value) (l : List UInt8) (w : World) (hv : BytesAt w v l) : Calls Tryz.prog 4 #[v] w (Holds w) := by
 obtain ⟨a, c, rfl, g1, g2, _⟩ := hv.form
 unfold maxLen at g2
 have hk5 := hid (known5 w)
 replace hv := hid hv
 by_cases hl : 2000 < l.length
 ·have k0 : decide ((2000 : Int) < (l.length : Int)) = true := by simp; omega
  go_enter Tryz.func4, Tryz.ntmps4
  go_wp2_with fail
  refine hk5.out.mono ?_
  rintro e w1 ⟨rfl, hb1⟩
  replace hb1 := hid hb1
  go_wp2_with fail
  go_ret
  exact ⟨rfl, hb1.out⟩
 have hdec : Hid (∀ W, BytesAt W (.slice a l.length c) l → Calls Tryz.prog 11 #[.slice a l.length c] W fun e w' => ∃ x : MV, e = .returned (.tuple #[.agg x.cells, .int .i64 (if isM l then 0 else 2)]) ∧ x.m = (if isM l then decM l else zeroM) ∧ x.At w' ∧ Below W.heap.size W w') := hid (fun W hW => (mdecode_any _ l W hW (by omega)).mono (by
  rintro e w' ⟨hb, v, rfl, hv⟩
  obtain ⟨x, rfl, h1, h2⟩ := hv.mv
  exact ⟨x, rfl, h1, h2, hb⟩))
 have hrd : Hid (∀ W, BytesAt W (.slice a l.length c) l → Calls Tryz.prog 14 #[.slice a l.length c] W (RDecode W l)) := hid (fun W hW => rdecode_any _ l W hW (by omega))
 go_enter Tryz.func4, Tryz.ntmps4
 go_wp2_with fail
 refine hk5.out.mono ?_
 rintro e w1 ⟨rfl, hb1⟩
 have hv1 := hid (hv.out.below hb1)
 have hB1 := hid hb1
 clear hb1 hk5
 go_wp2_with fail
 refine (hdec.out _ hv1.out).mono ?_
 rintro e w2 ⟨x, rfl, hxm, hx2, hb2⟩
 have hv2 := hid (hv1.out.below hb2)
 have hB2 := hid (sn hB1.out hb2)
 have hcx := hid hx2.cells
 have hnew := hid (heap_alloc_new w2 (.cells (zeroM.cells (.slice none 0 0) (.slice none 0 0) (.slice none 0 0)) 33))
 obtain ⟨W3, hW3⟩ : ∃ W, W = (w2.alloc (.cells (zeroM.cells (.slice none 0 0) (.slice none 0 0) (.slice none 0 0)) 33)).setRow w2.heap.size x.cells := ⟨_, rfl⟩
 have hb3 : Below w2.heap.size w2 W3 := by rw [hW3]; exact below_setRow ((Below.refl _ _).alloc (Nat.le_refl _) _) (Nat.le_refl _) _
 have hx3 : W3.heap[w2.heap.size]? = some (.cells x.cells 33 (0, 0)) := by rw [hW3]; exact setRow_heap _ _ _ _ _ _ hnew.out
 have hB3 := hid (sn hB2.out hb3)
 have hv3 := hid (hv2.out.below hb3)
 have hxa3 := hid (hx2.below hb3)
 rw [nil_cells] at hnew hW3
 replace hxm := hid hxm
 replace hx2 := hid hx2
 replace hx3 := hid hx3
 clear hb2 hb3 hdec hv1 hB1 hv2 hB2
 generalize hEr : (if isM l = true then (0 : Int) else 2) = er at *
 replace hEr := hid hEr
 go_upto_region 6 with (first
  | (refine wpList_store_row (by rfl) 33 (.tmp 3) (.tmp 17) (by rfl) w2.heap.size x.cells (by rfl) (by rfl) 33 _ hnew.out (by rw [hcx.out.1]; kernel_rfl) (by rw [hcx.out.1]; rfl) hcx.out.2 ?_)
  | (rw [← hW3]; replace hW3 := hid hW3))
 try (rw [← hW3]; replace hW3 := hid hW3)
 generalize w2.heap.size = p at *
 clear hnew
 go_wp2_with fail
 refine (hrd.out _ hv3.out).mono ?_
 rintro e w4 ⟨m, vN, vQ, hm, rfl, hN4, hQ4, hb4⟩
 rw [hEr.out]
 have hv4 := hid (hv3.out.below hb4)
 have hB4 := hid (sn hB3.out hb4)
 have hxa4 := hid (hxa3.out.below hb4)
 have hx4 := hid ((hb4.block _ (lt_of_block hx3.out)).trans hx3.out)
 have hcm := hid (rcells_ok hN4 hQ4)
 have hnew := hid (heap_alloc_new w4 (.cells zeroR 46))
 obtain ⟨W5, hW5⟩ : ∃ W, W = (w4.alloc (.cells zeroR 46)).setRow w4.heap.size (m.rcells vN vQ (strL m.data)) := ⟨_, rfl⟩
 have hb5 : Below w4.heap.size w4 W5 := by rw [hW5]; exact below_setRow ((Below.refl _ _).alloc (Nat.le_refl _) _) (Nat.le_refl _) _
 have hm5 : W5.heap[w4.heap.size]? = some (.cells (m.rcells vN vQ (strL m.data)) 46 (0, 0)) := by rw [hW5]; exact setRow_heap _ _ _ _ _ _ hnew.out
 have hB5 := hid (sn hB4.out hb5)
 have hv5 := hid (hv4.out.below hb5)
 have hxa5 := hid (hxa4.out.below hb5)
 have hN5 := hid (RowAt.below hN4 hb5)
 have hQ5 := hid (RowAt.below hQ4 hb5)
 have hS5 := hid (show ByS p w4.heap.size x (m.rcells vN vQ (strL m.data)) W5 from ⟨(hb5.block _ (lt_of_block hx4.out)).trans hx4.out, hm5⟩)
 rw [zeroR_lit] at hnew hW5
 replace hm := hid hm
 clear hb4 hb5 hN4 hQ4 hm5 hv3 hB3 hxa3 hv4 hB4 hxa4 hx4 hx3 hrd
 go_upto_region 7 with (first
  | (refine wpList_store_row (by rfl) 46 (.tmp 5) (.tmp 22) (by rfl) w4.heap.size (m.rcells vN vQ (strL m.data)) (by rfl) (by rfl) 46 _ hnew.out (by rw [hcm.out.1]; kernel_rfl) (by rw [hcm.out.1]; kernel_rfl) hcm.out.2 ?_)
  | (rw [← hW5]; replace hW5 := hid hW5))
 try (rw [← hW5]; replace hW5 := hid hW5)
 generalize w4.heap.size = q at *
 clear hnew
 rcases hM : isM l with _ | _
 ·rw [hM, if_neg (by simp)] at hEr hxm
  have he := hEr.out
  subst he
  have hc0 : W5.cell? ⟨p, 0, none⟩ = some (.int .u8 0) := by rw [block_cell hS5.out.1 0]; show some (Value.int .u8 (x.m.ty : Int)) = _; rw [hxm.out]; rfl
  clear hM hm
  go_quiet (fail)
  go_wp2_with fail
  go_ret
  exact ⟨rfl, bdrewN hB5.out nq⟩
 rw [hM, if_pos rfl] at hEr hxm
 rw [if_pos hM] at hm
 have he := hEr.out
 subst he
 have hxm2 := hxm.out
 have hm2 := hm.out
 obtain ⟨hde, hdb, hfin⟩ := decM_back hM
 have hka := err_known2 hde
 have hEm : Hid ((decM l).err = 0 ∧ (decM l).bytes = l) := hid ⟨hde, hdb⟩
 subst hm2
 have hok := hid hfin.ok
 have hfw := hid hfin.few
 have hkk := hid (known_is hka hfin.ok.ty)
 generalize hml : decM l = m at *
 clear hml hM hfin hka hde hdb hm
 replace hxm := hid hxm2
 clear hxm2
 have hox : Hid (∀ X, x.At X → Calls Tryz.prog 10 #[.agg x.cells] X (Of5Post X x)) := hid (fun X hA => of5_any x X hA (by have := hfw.out.qids; rw [hxm.out]; omega))
 have hsr : Hid (∀ X vQ1, StrsAt X x.n x.m.names → StrsAt X vN m.names → QidsAt X vQ1 x.m.qids → QidsAt X vQ m.qids → Calls Tryz.prog 13 #[.agg (x.m.rcells x.n vQ1 (strL x.m.data)), .agg (m.rcells vN vQ (strL m.data))] X (RSamePost X true)) := hid (fun X vQ1 hN1 hN2 hQ1 hQ2 => by
  have hxx := hxm.out
  rw [hxx] at hN1 hQ1 ⊢
  have h := rsame_any m m x.n vQ1 vN vQ (strL m.data) (strL m.data) X hN1 hN2 hQ1 hQ2 (strL_data _) (strL_data _) hok.out hok.out hfw.out hfw.out hkk.out hkk.out
  rw [rsameB_self hok.out hfw.out hkk.out] at h
  exact h)
 have henc : Hid (∀ X, x.At X → Calls Tryz.prog 8 #[.agg x.cells] X fun e w' => ∃ v', e = .returned (.tuple #[v', .int .i64 0]) ∧ BytesAt w' v' l ∧ Below X.heap.size X w') := hid (fun X hA => by
  have h := mencode_any x.m x.n x.q x.d X (by rw [hxm.out]; exact hok.out) (by rw [hxm.out]; exact hfw.out.few) hA.1 hA.2.1 hA.2.2
  exact h.mono (by rintro e w' ⟨v', rfl, ⟨h1, _⟩, h2⟩; exact ⟨v', by rw [hxm.out, hEm.out.1]; rfl, by rw [hxm.out, hEm.out.2] at h1; exact h1, h2⟩))
 refine wp_region_held_drew (S := ByS p q x (m.rcells vN vQ (strL m.data))) (by kernel_rfl) ?hS (fun hHeld => ?_)
 case hS => exact hS5.out.below (Below.refl _ _).drew
 have hSX0 := hid (hS5.out.below (Below.refl W5.heap.size W5).drew)
 have hAX0 := hid (hxa5.out.below (Below.refl W5.heap.size W5).drew)
 have hNX0 := hid (RowAt.below hN5.out (Below.refl W5.heap.size W5).drew)
 have hQX0 := hid (RowAt.below hQ5.out (Below.refl W5.heap.size W5).drew)
 have hVX0 := hid (hv5.out.below (Below.refl W5.heap.size W5).drew)
 have hDX0 := hid (sn hB5.out (Below.refl W5.heap.size W5).drew)
 generalize hX : W5.drew = X0 at hSX0 hAX0 hNX0 hQX0 hVX0 hDX0 hHeld ⊢
 replace hX := hid hX
 refine wpAnyH_take (i := 0) (v := ?dv1) rfl (by kernel_rfl) (by kernel_rfl) (by kernel_rfl) (fun _ _ _ h => h) (Or.inl ⟨by kernel_rfl, ?dy1⟩) (by assumption) ?_
 case dy1 => (intro w hSw; (try dsimp only at hSw); go_simp; try with_reducible rfl)
 try simp only [Act.put, List.getElem_toArray, List.getElem_cons_zero, List.setIfInBounds_toArray, List.set_cons_zero, List.set_cons_succ]
 refine wpAnyH_take (i := 1) (v := ?dv2) rfl (by kernel_rfl) (by kernel_rfl) (by kernel_rfl) (fun _ _ _ h => h) (Or.inl ⟨by kernel_rfl, ?dy2⟩) (by assumption) ?_
 case dy2 => (intro w hSw; (try dsimp only at hSw); go_simp; try with_reducible rfl)
 try simp only [Act.put, List.getElem_toArray, List.getElem_cons_succ, List.getElem_cons_zero, List.setIfInBounds_toArray, List.set_cons_zero, List.set_cons_succ]
 refine wpAnyH_take (i := 2) (v := ?dv3) rfl (by kernel_rfl) (by kernel_rfl) (by kernel_rfl) (fun _ _ _ h => h) (Or.inl ⟨by kernel_rfl, ?dy3⟩) (by assumption) ?_
 case dy3 => (intro w hSw; (try dsimp only at hSw); go_simp; try with_reducible rfl)
 try simp only [Act.put, List.getElem_toArray, List.getElem_cons_succ, List.getElem_cons_zero, List.setIfInBounds_toArray, List.set_cons_zero, List.set_cons_succ]
 refine wpAnyH_take (i := 3) (v := ?dv4) rfl (by kernel_rfl) (by kernel_rfl) (by kernel_rfl) (fun _ _ _ h => h) (Or.inl ⟨by kernel_rfl, ?dy4⟩) (by assumption) ?_
 case dy4 => (intro w hSw; (try dsimp only at hSw); go_simp; try with_reducible rfl)
 try simp only [Act.put, List.getElem_toArray, List.getElem_cons_succ, List.getElem_cons_zero, List.setIfInBounds_toArray, List.set_cons_zero, List.set_cons_succ]
 refine wpAnyH_take (i := 4) (v := ?dv5) rfl (by kernel_rfl) (by kernel_rfl) (by kernel_rfl) (fun _ _ _ h => h) (Or.inl ⟨by kernel_rfl, ?dy5⟩) (by assumption) ?_
 case dy5 => (intro w hSw; (try dsimp only at hSw); go_simp; try with_reducible rfl)
 try simp only [Act.put, List.getElem_toArray, List.getElem_cons_succ, List.getElem_cons_zero, List.setIfInBounds_toArray, List.set_cons_zero, List.set_cons_succ]
 refine wpAnyH_take (i := 5) (v := ?dv6) rfl (by kernel_rfl) (by kernel_rfl) (by kernel_rfl) (fun _ _ _ h => h) (Or.inl ⟨by kernel_rfl, ?dy6⟩) (by assumption) ?_
 case dy6 => (intro w hSw; (try dsimp only at hSw); go_simp; try with_reducible rfl)
 try simp only [Act.put, List.getElem_toArray, List.getElem_cons_succ, List.getElem_cons_zero, List.setIfInBounds_toArray, List.set_cons_zero, List.set_cons_succ]
 refine wpAnyH_take (i := 6) (v := ?dv7) rfl (by kernel_rfl) (by kernel_rfl) (by kernel_rfl) (fun _ _ _ h => h) (Or.inl ⟨by kernel_rfl, ?dy7⟩) (by assumption) ?_
 case dy7 => (intro w hSw; (try dsimp only at hSw); go_simp; try with_reducible rfl)
 try simp only [Act.put, List.getElem_toArray, List.getElem_cons_succ, List.getElem_cons_zero, List.setIfInBounds_toArray, List.set_cons_zero, List.set_cons_succ]
 refine wpAnyH_take (i := 7) (v := .agg x.cells) rfl (by kernel_rfl) (by kernel_rfl) (by kernel_rfl) (fun _ _ _ h => h) (Or.inl ⟨by kernel_rfl, fun X hS => run_row_load X _ _ (.tmp 3) p _ (by kernel_rfl) (by kernel_rfl) hS.1 hcx.out.1⟩) (by assumption) ?_
 try simp only [Act.put, List.getElem_toArray, List.getElem_cons_succ, List.getElem_cons_zero, List.setIfInBounds_toArray, List.set_cons_zero, List.set_cons_succ]
 refine wpAnyH_take (i := 9) (v := .agg (m.rcells vN vQ (strL m.data))) rfl (by kernel_rfl) (by kernel_rfl) (by kernel_rfl) (fun _ _ _ h => h) (Or.inl ⟨by kernel_rfl, fun X hS => run_row_loadR X _ _ (.tmp 5) q _ (by kernel_rfl) (by kernel_rfl) hS.2 hcm.out.1⟩) (by assumption) ?_
 try simp only [Act.put, List.getElem_toArray, List.getElem_cons_succ, List.getElem_cons_zero, List.setIfInBounds_toArray, List.set_cons_zero, List.set_cons_succ]
 refine wpAnyH_ready (rs := [8]) (by kernel_rfl) (by simp) ?_
 refine AllReadyH.cons rfl (fun K hK => ?_) ?_
 ·rw [if_pos (by kernel_rfl)]
  go_simp
  go_at_call 10
  refine (hox.out _ hAX0.out).mono ?_
  rintro e X1 ⟨vQ1, rfl, hq1, hbn⟩
  have hSX1 := hid (hSX0.out.below hbn)
  have hAX1 := hid (hAX0.out.below hbn)
  have hNX1 := hid (RowAt.below hNX0.out hbn)
  have hQX1 := hid (RowAt.below hQX0.out hbn)
  have hVX1 := hid (hVX0.out.below hbn)
  have hDX1 := hid (sn hDX0.out hbn)
  replace hq1 := hid hq1
  replace hbn := hid hbn
  refine hK.out _ _ (hSX1.out) (fun hHeld => ?_)
  clear hK K
  try simp only [Act.put, List.getElem_toArray, List.getElem_cons_succ, List.getElem_cons_zero, List.setIfInBounds_toArray, List.set_cons_zero, List.set_cons_succ]
  refine wpAnyH_ready (rs := [10]) (by kernel_rfl) (by simp) ?_
  refine AllReadyH.cons rfl (fun K hK => ?_) ?_
  ·rw [if_pos (by kernel_rfl)]
   go_simp
   go_at_call 13
   refine (hsr.out _ _ hAX1.out.1 hNX1.out hq1.out hQX1.out).mono ?_
   rintro e X2 ⟨rfl, hbn⟩
   have hSX2 := hid (hSX1.out.below hbn)
   have hAX2 := hid (hAX1.out.below hbn)
   have hNX2 := hid (RowAt.below hNX1.out hbn)
   have hQX2 := hid (RowAt.below hQX1.out hbn)
   have hVX2 := hid (hVX1.out.below hbn)
   have hDX2 := hid (sn hDX1.out hbn)
   replace hbn := hid hbn
   refine hK.out _ _ (hSX2.out) (fun hHeld => ?_)
   clear hK K
   try simp only [Act.put, List.getElem_toArray, List.getElem_cons_succ, List.getElem_cons_zero, List.setIfInBounds_toArray, List.set_cons_zero, List.set_cons_succ]
   refine wpAnyH_take (i := 11) (v := ?dv8) rfl (by kernel_rfl) (by kernel_rfl) (by kernel_rfl) (fun _ _ _ h => h) (Or.inl ⟨by kernel_rfl, ?dy8⟩) (by assumption) ?_
   case dy8 => (intro w hSw; (try dsimp only at hSw); go_simp; try with_reducible rfl)
   try simp only [Act.put, List.getElem_toArray, List.getElem_cons_succ, List.getElem_cons_zero, List.setIfInBounds_toArray, List.set_cons_zero, List.set_cons_succ]
   refine wpAnyH_take (i := 12) (v := ?dv9) rfl (by kernel_rfl) (by kernel_rfl) (by kernel_rfl) (fun _ _ _ h => h) (Or.inl ⟨by kernel_rfl, ?dy9⟩) (by assumption) ?_
   case dy9 => (intro w hSw; (try dsimp only at hSw); go_simp; try with_reducible rfl)
   try simp only [Act.put, List.getElem_toArray, List.getElem_cons_succ, List.getElem_cons_zero, List.setIfInBounds_toArray, List.set_cons_zero, List.set_cons_succ]
   refine wpAnyH_take (i := 13) (v := ?dv10) rfl (by kernel_rfl) (by kernel_rfl) (by kernel_rfl) (fun _ _ _ h => h) (Or.inl ⟨by kernel_rfl, ?dy10⟩) (by assumption) ?_
   case dy10 => (intro w hSw; (try dsimp only at hSw); go_simp; try with_reducible rfl)
   try simp only [Act.put, List.getElem_toArray, List.getElem_cons_succ, List.getElem_cons_zero, List.setIfInBounds_toArray, List.set_cons_zero, List.set_cons_succ]
   refine wpAnyH_take (i := 14) (v := ?dv11) rfl (by kernel_rfl) (by kernel_rfl) (by kernel_rfl) (fun _ _ _ h => h) (Or.inl ⟨by kernel_rfl, ?dy11⟩) (by assumption) ?_
   case dy11 => (intro w hSw; (try dsimp only at hSw); go_simp; try with_reducible rfl)
   try simp only [Act.put, List.getElem_toArray, List.getElem_cons_succ, List.getElem_cons_zero, List.setIfInBounds_toArray, List.set_cons_zero, List.set_cons_succ]
   refine wpAnyH_take (i := 15) (v := ?dv12) rfl (by kernel_rfl) (by kernel_rfl) (by kernel_rfl) (fun _ _ _ h => h) (Or.inl ⟨by kernel_rfl, ?dy12⟩) (by assumption) ?_
   case dy12 => (intro w hSw; (try dsimp only at hSw); go_simp; try with_reducible rfl)
   try simp only [Act.put, List.getElem_toArray, List.getElem_cons_succ, List.getElem_cons_zero, List.setIfInBounds_toArray, List.set_cons_zero, List.set_cons_succ]
   refine wpAnyH_take (i := 16) (v := ?dv13) rfl (by kernel_rfl) (by kernel_rfl) (by kernel_rfl) (fun _ _ _ h => h) (Or.inl ⟨by kernel_rfl, ?dy13⟩) (by assumption) ?_
   case dy13 => (intro w hSw; (try dsimp only at hSw); go_simp; try with_reducible rfl)
   try simp only [Act.put, List.getElem_toArray, List.getElem_cons_succ, List.getElem_cons_zero, List.setIfInBounds_toArray, List.set_cons_zero, List.set_cons_succ]
   refine wpAnyH_take (i := 17) (v := ?dv14) rfl (by kernel_rfl) (by kernel_rfl) (by kernel_rfl) (fun _ _ _ h => h) (Or.inl ⟨by kernel_rfl, ?dy14⟩) (by assumption) ?_
   case dy14 => (intro w hSw; (try dsimp only at hSw); go_simp; try with_reducible rfl)
   try simp only [Act.put, List.getElem_toArray, List.getElem_cons_succ, List.getElem_cons_zero, List.setIfInBounds_toArray, List.set_cons_zero, List.set_cons_succ]
   refine wpAnyH_take (i := 18) (v := undef) rfl (by kernel_rfl) (by kernel_rfl) (by kernel_rfl) (fun _ _ _ h => h) (Or.inr ⟨by kernel_rfl, rfl⟩) (by assumption) ?_
   try simp only [Act.put, List.getElem_toArray, List.getElem_cons_succ, List.getElem_cons_zero, List.setIfInBounds_toArray, List.set_cons_zero, List.set_cons_succ]
   refine wpAnyH_take (i := 19) (v := undef) rfl (by kernel_rfl) (by kernel_rfl) (by kernel_rfl) (fun _ _ _ h => h) (Or.inr ⟨by kernel_rfl, rfl⟩) (by assumption) ?_
   try simp only [Act.put, List.getElem_toArray, List.getElem_cons_succ, List.getElem_cons_zero, List.setIfInBounds_toArray, List.set_cons_zero, List.set_cons_succ]
   refine wpAnyH_take (i := 20) (v := undef) rfl (by kernel_rfl) (by kernel_rfl) (by kernel_rfl) (fun _ _ _ h => h) (Or.inr ⟨by kernel_rfl, rfl⟩) (by assumption) ?_
   try simp only [Act.put, List.getElem_toArray, List.getElem_cons_succ, List.getElem_cons_zero, List.setIfInBounds_toArray, List.set_cons_zero, List.set_cons_succ]
   refine wpAnyH_take (i := 21) (v := ?dv15) rfl (by kernel_rfl) (by kernel_rfl) (by kernel_rfl) (fun _ _ _ h => h) (Or.inl ⟨by kernel_rfl, ?dy15⟩) (by assumption) ?_
   case dy15 => (intro w hSw; (try dsimp only at hSw); go_simp; try with_reducible rfl)
   try simp only [Act.put, List.getElem_toArray, List.getElem_cons_succ, List.getElem_cons_zero, List.setIfInBounds_toArray, List.set_cons_zero, List.set_cons_succ]
   refine wpAnyH_take (i := 22) (v := ?dv16) rfl (by kernel_rfl) (by kernel_rfl) (by kernel_rfl) (fun _ _ _ h => h) (Or.inl ⟨by kernel_rfl, ?dy16⟩) (by assumption) ?_
   case dy16 => (intro w hSw; (try dsimp only at hSw); go_simp; try with_reducible rfl)
   try simp only [Act.put, List.getElem_toArray, List.getElem_cons_succ, List.getElem_cons_zero, List.setIfInBounds_toArray, List.set_cons_zero, List.set_cons_succ]
   refine wpAnyH_done (by kernel_rfl) ?_ _
   clear hHeld
   have hxX2 := hid hSX2.out.1
   go_wp2_with (refine wpList_load_row (by rfl) 33 (.tmp 3) (by rfl) p (by rfl) 33 x.cells (0, 0) _ hxX2.out Tryz.underlying33 (by rfl) (by rw [hcx.out.1]; kernel_rfl) ?_)
   refine (henc.out _ hAX2.out).mono ?_
   rintro e Z ⟨v9, rfl, hv9, hbn⟩
   obtain ⟨a9, c9, rfl, _, _, _⟩ := hv9.form
   have hVZ := hid (hVX2.out.below hbn)
   have hDZ := hid (sn hDX2.out hbn)
   obtain ⟨st, hst⟩ : ∃ s, s = strL l := ⟨_, rfl⟩
   have k1 : (convert 29 9 (.slice a9 l.length c9)).run Tryz.prog Z = .ok (.string st) Z := by rw [hst]; exact conv_string _ _ _ hv9
   have k2 : (convert 29 9 (.slice a l.length c)).run Tryz.prog Z = .ok (.string st) Z := by rw [hst]; exact conv_string _ _ _ hVZ.out
   have k3 : (st.toList == st.toList) = true := by simp
   replace hv9 := hid hv9
   replace hst := hid hst
   replace hbn := hid hbn
   go_wp2_with fail
   go_ret
   exact ⟨rfl, hDZ.out⟩
  exact AllReadyH.nil
 exact AllReadyH.nil
end Go.Proofs.YtlmojhlacfjmaaaGreat
