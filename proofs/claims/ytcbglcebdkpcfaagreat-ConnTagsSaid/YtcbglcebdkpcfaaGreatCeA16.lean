/- A select of two receives: one of them ready, or both; a select of one receive with a default. No condition. And the texts behind it. -/
import Derived.Test.YtcbglcebdkpcfaaGreatCeA15
import Derived.Test.YtcbglcebdkpcfaaGreatCeA06
import Derived.Test.YtcbglcebdkpcfaaGreatCeA11
import Derived.BigRegion
import Derived.Deep.RegionWith
import Derived.Deep.RegionHeld3
import Derived.Test.YtcbglcebdkpcfaaGreatCeA01
namespace Go.Proofs.YtcbglcebdkpcfaaGreat
section
open Go.Conc Go.RowKit
set_option maxRecDepth 100000
set_option linter.unusedVariables false

theorem res_rr0 (a b : Nat) (z z' v : Value) (ok : Bool) : commResult #[rcase a z, rcase b z'] .select ((0 : Nat) : Int) v ok = .tuple #[goInt 0, .bool ok, v, z'] := by
  simp [commResult, rcase, List.zipIdx_cons]
theorem res_rr1 (a b : Nat) (z z' v : Value) (ok : Bool) : commResult #[rcase a z, rcase b z'] .select ((1 : Nat) : Int) v ok = .tuple #[goInt 1, .bool ok, z, v] := by
  simp [commResult, rcase, List.zipIdx_cons]
theorem srun_choose {P : Program} {α : Type} (q : Question) (k : Nat → Sem α) (w : World) : Sem.run P (.choose q k) w = if q.forced = true then Sem.run P (k 0) w else Sem.run P (k (q.cut (w.tape w.drawn q))) { w with drawn := w.drawn + 1 } := rfl
theorem srun_pure {P : Program} {α : Type} (a : α) (w : World) : Sem.run P (.pure a) w = .ok a w := rfl
section
variable {P : Program} {ops : Array Oper} {Q : Exit → Act → World → Prop} {fr : Frame} {cs : List Frame} {w : World} {es : Array Event} {c1 c2 cap1 cap2 s1 s2 r1 r2 : Nat} {buf1 buf2 : Array Value} {z1 z2 : Value}
theorem step_sel_two (h : stepG P true (G fr cs) w = .comm (G fr cs) #[rcase c1 z1, rcase c2 z2] true .select w es) (h1 : w.heap[c1]? = some (.chan cap1 buf1 false s1 r1 false)) (h2 : w.heap[c2]? = some (.chan cap2 buf2 false s2 r2 false)) (p1 : 0 < buf1.size) (p2 : 0 < buf2.size) :
    step P (solo (G fr cs) w) = .next (solo (G (fr.finish (.tuple #[goInt 0, .bool true, buf1.getD 0 undef, z2])) cs) (w.drew.setChan c1 cap1 (buf1.extract 1 buf1.size) false s1 (r1 + 1) false)) ∨
    step P (solo (G fr cs) w) = .next (solo (G (fr.finish (.tuple #[goInt 1, .bool true, z1, buf2.getD 0 undef])) cs) (w.drew.setChan c2 cap2 (buf2.extract 1 buf2.size) false s2 (r2 + 1) false)) := by
  have q1 : partners #[ph] c1 true = [] := partners_lone c1 true
  have q2 : partners #[ph] c2 true = [] := partners_lone c2 true
  have w1 : ways w #[ph] (rcase c1 z1) = [.buffer] := by simp [ways, rcase, h1, p1]
  have w2 : ways w #[ph] (rcase c2 z2) = [.buffer] := by simp [ways, rcase, h2, p2]
  have hr : ((#[rcase c1 z1, rcase c2 z2].zipIdx.toList.map fun (c, k) => (k, c, ways w #[ph] c)).filter fun (_, _, ws) => !ws.isEmpty) = [(0, rcase c1 z1, [.buffer]), (1, rcase c2 z2, [.buffer])] := by
    simp [List.zipIdx_cons, w1, w2]
  rw [← res_rr0 c1 c2 z1 z2, ← res_rr1 c1 c2 z1 z2]
  rw [step, stepT_solo rfl, solo_eq_crowd, runT_crowd_comm (gs := #[G fr cs]) (i := 0) (g := G fr cs) rfl h]
  rw [show #[G fr cs].setIfInBounds 0 ph = #[ph] from rfl]
  have hill : (#[rcase c1 z1, rcase c2 z2].any fun c => match c.chan with | .chan none => false | .chan (some r) => !(w.heap[r]? matches some (.chan ..)) | _ => true) = false := by simp [rcase, h1, h2]
  generalize hC : (#[rcase c1 z1, rcase c2 z2] : Array CommCase) = C at *
  rcases Nat.mod_two_eq_zero_or_one (w.tape w.drawn (.select 2)) with ht | ht
  · refine .inl ?_
    unfold communicate
    simp only [hr]
    rw [if_neg]
    rotate_left
    · intro e; exact Bool.noConfusion (hill.symm.trans e)
    simp only [choose, bind, Sem.bind, pure, List.length_cons, List.length_nil, List.isEmpty_cons, Bool.false_eq_true, if_false]
    rw [srun_choose, if_neg (by simp [Question.forced])]
    simp only [show (Question.select (0 + 1 + 1)).cut (w.tape w.drawn (.select (0 + 1 + 1))) = 0 from ht, List.getD_cons_zero]
    rw [srun_choose, if_pos (show (Question.extern _ [Way.buffer].length).forced = true from rfl), srun_pure]
    simp only [rcase, h1, q1, List.getD_cons_zero]
    rfl
  · refine .inr ?_
    unfold communicate
    simp only [hr]
    rw [if_neg]
    rotate_left
    · intro e; exact Bool.noConfusion (hill.symm.trans e)
    simp only [choose, bind, Sem.bind, pure, List.length_cons, List.length_nil, List.isEmpty_cons, Bool.false_eq_true, if_false]
    rw [srun_choose, if_neg (by simp [Question.forced])]
    simp only [show (Question.select (0 + 1 + 1)).cut (w.tape w.drawn (.select (0 + 1 + 1))) = 1 from ht, List.getD_cons_zero, List.getD_cons_succ]
    rw [srun_choose, if_pos (show (Question.extern _ [Way.buffer].length).forced = true from rfl), srun_pure]
    simp only [rcase, h2, q2, List.getD_cons_zero]
    rfl
variable {i : Nat} {rest : List Nat} {o : Oper} {a : Act}
theorem opsS_two (ho : ops[i]? = some o) (hw : Region.wanted o (yielded ops a.tmps) = true) (hr : (execOp a.eval o).run P w = .ok (.comm #[rcase c1 z1, rcase c2 z2] true .select) w) (h1 : w.heap[c1]? = some (.chan cap1 buf1 false s1 r1 false)) (h2 : w.heap[c2]? = some (.chan cap2 buf2 false s2 r2 false)) (p1 : 0 < buf1.size) (p2 : 0 < buf2.size)
    (k1 : OpsS P ops Q rest (a.put o.dst (.tuple #[goInt 0, .bool true, buf1.getD 0 undef, z2])) (w.drew.setChan c1 cap1 (buf1.extract 1 buf1.size) false s1 (r1 + 1) false))
    (k2 : OpsS P ops Q rest (a.put o.dst (.tuple #[goInt 1, .bool true, z1, buf2.getD 0 undef])) (w.drew.setChan c2 cap2 (buf2.extract 1 buf2.size) false s2 (r2 + 1) false)) : OpsS P ops Q (i :: rest) a w := by
  intro b k cs
  obtain ⟨es, he⟩ := stepG_commop (rest := rest) ho hw hr b k cs
  have hfin : ∀ v, (b.at a (.inRegion ops (i :: rest) :: k)).finish v = b.at (a.put o.dst v) (.inRegion ops rest :: k) := by
    intro v; rw [Frame.finish_at, ho]; rfl
  rcases step_sel_two he h1 h2 p1 p2 with hs | hs
  · obtain ⟨e, a', w'', hq, harr⟩ := k1 b k cs
    rw [hfin] at hs
    exact ⟨e, a', w'', hq, .of_steps (.one hs) harr⟩
  · obtain ⟨e, a', w'', hq, harr⟩ := k2 b k cs
    rw [hfin] at hs
    exact ⟨e, a', w'', hq, .of_steps (.one hs) harr⟩
theorem opsS_first (ho : ops[i]? = some o) (hw : Region.wanted o (yielded ops a.tmps) = true) (hr : (execOp a.eval o).run P w = .ok (.comm #[rcase c1 z1, rcase c2 z2] true .select) w) (h1 : w.heap[c1]? = some (.chan cap1 buf1 false s1 r1 false)) (h2 : w.heap[c2]? = some (.chan cap2 #[] false s2 r2 false)) (p1 : 0 < buf1.size)
    (k1 : OpsS P ops Q rest (a.put o.dst (.tuple #[goInt 0, .bool true, buf1.getD 0 undef, z2])) (w.setChan c1 cap1 (buf1.extract 1 buf1.size) false s1 (r1 + 1) false)) : OpsS P ops Q (i :: rest) a w := by
  refine opsS_comm ho (fun b k cs => ?_) k1
  obtain ⟨es, he⟩ := stepG_commop (rest := rest) ho hw hr b k cs
  rw [← res_rr0 c1 c2 z1 z2]
  refine step_lone_sel_recv_buf (k := 0) he rfl (fun m c' hm hc' => ?_) h1 p1
  rcases m with _ | _ | m
  · exact absurd rfl hm
  · simp only [List.getElem?_toArray, List.getElem?_cons_succ, List.getElem?_cons_zero, Option.some.injEq] at hc'
    subst hc'
    exact noWay_recv h2
  · simp at hc'
theorem opsS_second (ho : ops[i]? = some o) (hw : Region.wanted o (yielded ops a.tmps) = true) (hr : (execOp a.eval o).run P w = .ok (.comm #[rcase c1 z1, rcase c2 z2] true .select) w) (h1 : w.heap[c1]? = some (.chan cap1 #[] false s1 r1 false)) (h2 : w.heap[c2]? = some (.chan cap2 buf2 false s2 r2 false)) (p2 : 0 < buf2.size)
    (k1 : OpsS P ops Q rest (a.put o.dst (.tuple #[goInt 1, .bool true, z1, buf2.getD 0 undef])) (w.setChan c2 cap2 (buf2.extract 1 buf2.size) false s2 (r2 + 1) false)) : OpsS P ops Q (i :: rest) a w := by
  refine opsS_comm ho (fun b k cs => ?_) k1
  obtain ⟨es, he⟩ := stepG_commop (rest := rest) ho hw hr b k cs
  rw [← res_rr1 c1 c2 z1 z2]
  refine step_lone_sel_recv_buf (k := 1) he rfl (fun m c' hm hc' => ?_) h2 p2
  rcases m with _ | _ | m
  · simp only [List.getElem?_toArray, List.getElem?_cons_zero, Option.some.injEq] at hc'
    subst hc'
    exact noWay_recv h1
  · exact absurd rfl hm
  · simp at hc'
end
end
end Go.Proofs.YtcbglcebdkpcfaaGreat

namespace Go.Proofs.YtcbglcebdkpcfaaGreat
section
open Go.RowKit
set_option maxRecDepth 100000
set_option linter.unusedVariables false

def frmB (l : List UInt8) : List UInt8 := numBytes (l.length + 4) 4 ++ l
set_option maxHeartbeats 1600000 in
theorem framed_ok (m : M) (vN vQ vD : Value) (w : World) (hm : MOk m) (hf : MFew m) (hN : StrsAt w vN m.names) (hQ : QidsAt w vQ m.qids) (hD : BytesAt w vD m.data) (he : m.err = 0) (hl : m.bytes.length ≤ 8188) :
    Calls Tryz.prog 25 #[.agg (m.cells vN vQ vD)] w (RetNew w (frmB m.bytes)) := by
  obtain ⟨cs, hcs⟩ : ∃ cs, cs = m.cells vN vQ vD := ⟨_, rfl⟩
  obtain ⟨W, hW⟩ : ∃ W, W = w.alloc (.cells cs 41) := ⟨_, rfl⟩
  have hB : Below w.heap.size w W := by rw [hW]; exact (Below.refl _ _).alloc (Nat.le_refl _) _
  have hq : W.heap[w.heap.size]? = some (.cells cs 41 (0, 0)) := by rw [hW]; exact heap_alloc_new _ _
  have hs : cs.size = 36 := by rw [hcs]; rfl
  have he := hid (mencode_any m vN vQ vD W hm hf (RowAt.below hN hB) (RowAt.below hQ hB) (hD.below hB) |>.mono fun e w' h => (show ∃ v', e = .returned (.tuple #[v', .int .i64 0]) ∧ (BytesAt w' v' m.bytes ∧ ∀ k, v'.ownBlock = some k → W.heap.size ≤ k) ∧ Below W.heap.size W w' by obtain ⟨v', h1, h2⟩ := h; rw [he] at h1; exact ⟨v', h1, h2⟩))
  rw [← hcs] at he
  rw [← hcs]
  generalize m.bytes = b at *
  replace hcs := hid hcs
  replace hB := hid hB
  replace hq := hid hq
  replace hs := hid hs
  clear hN hQ hD hm hf
  go_enter Tryz.func25, Tryz.ntmps25
  go_wp2_with (first | (rw [← hW]; replace hW := hid hW) | (refine wpList_load_row (by rfl) 41 (.tmp 1) (by rfl) w.heap.size (by rfl) 41 cs (0, 0) _ hq.out Tryz.underlying41 (by rfl) (by rw [hs.out]; kernel_rfl) ?_))
  refine he.out.mono ?_
  rintro e w1 ⟨v1, rfl, ⟨hv1, hf1⟩, hb1⟩
  have hw := hid (fwrap_any v1 b w1 hv1 hl)
  have hz := hid hB.out.size
  have hz1 := hid hb1.size
  have hB1 := hid (hB.out.trans (hb1.mono hz.out))
  clear he hv1 hf1 hb1 hq
  go_wp2_with fail
  refine hw.out.mono ?_
  rintro e w2 ⟨v2, rfl, ⟨hv2, hf2⟩, hb2⟩
  have hB2 := hid (sn hB1.out hb2)
  replace hv2 := hid hv2
  replace hf2 := hid hf2
  clear hw hb2
  go_wp2_with fail
  go_ret
  exact ⟨v2, rfl, ⟨hv2.out, fun k hk => by have := hf2.out k hk; have := hz.out; have := hz1.out; omega⟩, hB2.out⟩
def tagB (l : List UInt8) : Nat := if l.length < 3 then 65535 else leN ((l.drop 1).take 2)
end
end Go.Proofs.YtcbglcebdkpcfaaGreat

namespace Go.Proofs.YtcbglcebdkpcfaaGreat
section
open Go.RowKit
set_option maxRecDepth 100000
set_option linter.unusedVariables false

theorem tag_bits (x y : UInt8) : bits .or .u16 (IntKind.u16.wrap (x.toNat : Int)) (IntKind.u16.wrap (IntKind.u16.wrap (y.toNat : Int) * 256)) = ((x.toNat + y.toNat * 256 : Nat) : Int) := by
  have hx := x.toNat_lt
  have hy := y.toNat_lt
  have hw : ∀ n : Int, IntKind.u16.wrap n = n % 65536 := fun n => by simp [IntKind.wrap, IntKind.bits, IntKind.signed]
  rw [hw, hw, hw, Int.emod_eq_of_lt (by omega) (by omega), Int.emod_eq_of_lt (show (0 : Int) ≤ (y.toNat : Int) by omega) (by omega), Int.emod_eq_of_lt (by omega) (by omega)]
  rw [show ((y.toNat : Int) * 256) = ((y.toNat * 256 : Nat) : Int) by omega, u16_or_nat _ _ (by omega) (by omega)]
  have := Nat.shiftLeft_add_eq_or_of_lt (i := 8) (b := x.toNat) (by omega) y.toNat
  rw [Nat.shiftLeft_eq] at this
  rw [Nat.or_comm, ← this, Nat.add_comm]
theorem tagB_two {l : List UInt8} (h : 3 ≤ l.length) : tagB l = (l[1]'(by omega)).toNat + (l[2]'(by omega)).toNat * 256 := by
  unfold tagB
  rw [if_neg (by omega)]
  match l, h with
  | a :: b :: c :: t, _ => simp [leN]; omega
theorem tagB_lt (l : List UInt8) : tagB l < 65536 := by
  unfold tagB
  split
  · omega
  · have h := leN_lt ((l.drop 1).take 2)
    have h2 : ((l.drop 1).take 2).length ≤ 2 := by simp; omega
    have h3 : 256 ^ ((l.drop 1).take 2).length ≤ 256 ^ 2 := Nat.pow_le_pow_right (by omega) h2
    have : (256 : Nat) ^ 2 = 65536 := by decide
    omega
theorem tagof_any (v : Value) (l : List UInt8) (w : World) (hv : BytesAt w v l) (hl : l.length ≤ 1000000000) :
    Calls Tryz.prog 37 #[v] w fun e w' => e = .returned (.int .u16 (tagB l : Int)) ∧ Below w.heap.size w w' := by
  obtain ⟨a, c, rfl, g1, g2, _⟩ := hv.form
  unfold maxLen at g2
  by_cases h3 : l.length < 3
  · have i3 : (l.length : Int) < 3 := by omega
    have hT : Hid (tagB l = 65535) := hid (if_pos h3)
    clear hv
    go_enter Tryz.func37, Tryz.ntmps37
    go_wp2_with fail
    go_ret
    exact ⟨by rw [hT.out]; rfl, Below.refl _ _⟩
  · obtain ⟨bb, oo, rfl, c1⟩ := hv.cell 1 (by omega)
    obtain ⟨_, _, hb2, c2⟩ := hv.cell 2 (by omega)
    cases hb2
    have i3 : ¬ ((l.length : Int) < 3) := by omega
    have hT := hid (tagB_two (show 3 ≤ l.length by omega))
    generalize l[1]'(by omega) = x at *
    generalize l[2]'(by omega) = y at *
    have hc1 : ¬ l.length = 1 := by omega
    have hbt := hid (tag_bits x y)
    clear hv
    go_enter Tryz.func37, Tryz.ntmps37
    go_wp2_with fail
    go_region
    go_wp2_with fail
    go_ret
    refine ⟨?_, (Below.refl _ _).drew⟩
    show Ending.returned (Value.int .u16 _) = _
    rw [hT.out, ← hbt.out]
end
end Go.Proofs.YtcbglcebdkpcfaaGreat

namespace Go.Proofs.YtcbglcebdkpcfaaGreat
section
open Go.RowKit
set_option maxRecDepth 100000
set_option linter.unusedVariables false

def ErrN (e : Nat) : Prop := e = 2 ∨ e = 14 ∨ e = 16
theorem zeroM_ok : MOk zeroM := by
  constructor <;> first | decide | exact ⟨by decide, by decide, by decide⟩ | (constructor <;> first | decide | (show (0 : Nat) ≤ maxLen; unfold maxLen; omega)) | (intro q hq; cases hq)
theorem zeroM_few : MFew zeroM := by
  constructor <;> first | decide | exact ⟨by decide, by decide, by decide, by decide⟩ | (intro s hs; cases hs)
theorem errM_ok {tag e : Nat} (ht : tag < 65536) : MOk (errM tag e) :=
  have z := zeroM_ok
  { z with ty := (show 107 < 256 by decide), tag := ht }
theorem errM_few {tag e : Nat} (he : ErrN e) : MFew (errM tag e) :=
  have z := zeroM_few
  { z with ename := (show (wordS e).size ≤ 1000 by rcases he with rfl | rfl | rfl <;> decide) }
theorem errM_err {tag e : Nat} (he : ErrN e) : (errM tag e).err = 0 := by
  rcases he with rfl | rfl | rfl <;> kernel_rfl
theorem errM_len {tag e : Nat} (he : ErrN e) : (errM tag e).bytes.length ≤ 8188 := by
  have h := errM_err (tag := tag) he
  unfold M.bytes
  rw [if_pos h]
  have h2 : (outs (errM tag e) (slots (errM tag e).ty)).2.length ≤ 1000 := by
    rcases he with rfl | rfl | rfl
    · rw [show (outs (errM tag 2) (slots (errM tag 2).ty)).2 = putText (wordS 2) from by kernel_rfl]; decide
    · rw [show (outs (errM tag 14) (slots (errM tag 14).ty)).2 = putText (wordS 14) from by kernel_rfl]; decide
    · rw [show (outs (errM tag 16) (slots (errM tag 16).ty)).2 = putText (wordS 16) from by kernel_rfl]; decide
  simp [numBytes_length]
  omega
theorem framed_err (tag e : Nat) (w : World) (ht : tag < 65536) (he : ErrN e) : Calls Tryz.prog 25 #[.agg ((errM tag e).cells (.slice none 0 0) (.slice none 0 0) (.slice none 0 0))] w (RetNew w (frmB (errM tag e).bytes)) :=
  framed_ok _ _ _ _ w (errM_ok ht) (errM_few he) RowAt.nil RowAt.nil RowAt.nil (errM_err he) (errM_len he)
def bodyE (xs : List Nat) (b : List UInt8) : Nat := if isM b = true then (if askT (decM b).ty = true then (askF xs (decM b).tag).1 else 2) else 2
def bodyT (xs : List Nat) (b : List UInt8) : List Nat := if isM b = true then (if askT (decM b).ty = true then (askF xs (decM b).tag).2 else xs) else xs
theorem bodyE_of (xs : List Nat) (b : List UInt8) : bodyE xs b = 0 ∨ ErrN (bodyE xs b) := by
  unfold bodyE askF ErrN
  repeat' split
  all_goals first | exact .inl rfl | simp
end
end Go.Proofs.YtcbglcebdkpcfaaGreat

namespace Go.Proofs.YtcbglcebdkpcfaaGreat
section
open Go.Conc Go.RowKit
set_option maxRecDepth 100000
set_option linter.unusedVariables false

def lastOk (ops : Array Oper) (n : Nat) : Nat → Array Bool → Bool
  | 0, _ => true
  | fuel + 1, l => (Region.ready .any ops l).all fun i => if i = n then (List.range ops.size).all (fun j => decide (j = n) || l.getD j true) else lastOk ops n fuel (l.setIfInBounds i true)
def standIn (o : Oper) : Oper := { o with dst := none, op := .move (.const undef), guard := none }
section
variable {P : Program} {ops : Array Oper} {Q : Exit → Act → World → Prop} {n : Nat} {on : Oper}
theorem stand_at (i : Nat) (h : i ≠ n) : (ops.setIfInBounds n (standIn on))[i]? = ops[i]? := Array.getElem?_setIfInBounds_ne (Ne.symm h)
theorem stand_after (ho : ops[n]? = some on) (i : Nat) : ((ops.setIfInBounds n (standIn on))[i]?).map (·.after) = (ops[i]?).map (·.after) := by
  by_cases h : i = n
  · subst h
    have hlt : i < ops.size := (Array.getElem?_eq_some_iff.1 ho).1
    rw [Array.getElem?_setIfInBounds_self_of_lt hlt, ho]
    rfl
  · rw [stand_at i h]
theorem stand_ready (ho : ops[n]? = some on) (l : Array Bool) : Region.ready .any (ops.setIfInBounds n (standIn on)) l = Region.ready .any ops l := by
  unfold Region.ready
  rw [Array.size_setIfInBounds]
  congr 1
  funext i
  congr 1
  have h := stand_after ho i
  cases h1 : (ops.setIfInBounds n (standIn on))[i]? with
  | none =>
    rw [h1] at h
    cases h2 : ops[i]? with
    | none => rfl
    | some o => rw [h2] at h; cases h
  | some o =>
    rw [h1] at h
    cases h2 : ops[i]? with
    | none => rw [h2] at h; cases h
    | some o2 =>
      rw [h2] at h
      simp only [Option.map_some, Option.some.injEq] at h
      simp [h]
theorem stand_yielded (ho : ops[n]? = some on) (hd : on.dst = none) (t : Array Value) : yielded (ops.setIfInBounds n (standIn on)) t = yielded ops t := by
  funext j
  unfold yielded
  by_cases h : j = n
  · subst h
    have hlt : j < ops.size := (Array.getElem?_eq_some_iff.1 ho).1
    rw [Array.getElem?_setIfInBounds_self_of_lt hlt, ho]
    simp [standIn, hd]
  · rw [stand_at j h]
theorem opsS_step {i : Nat} {rest : List Nat} {a : Act} {w : World} (h : wpOp P ops (Exit.then (fun a w => OpsS P ops Q rest a w) Q) i (fun a w => OpsS P ops Q rest a w) a w) : OpsS P ops Q (i :: rest) a w := by
  have := wp_ops_app (P := P) (ops := ops) (Q := Q) rest [i] a w (by
    rw [wpOps_cons]
    exact h)
  exact this
theorem wpOp_exit {i : Nat} {K : Act → World → Prop} {K2 : Act → World → Prop} {a : Act} {w : World} (h : wpOp P ops (Exit.then K2 Q) i K a w) (K3 : Act → World → Prop) : wpOp P ops (Exit.then K3 Q) i K a w := by
  unfold wpOp at h ⊢
  cases ho : ops[i]? with
  | none => rw [ho] at h; exact h
  | some o =>
    rw [ho] at h
    simp only at h ⊢
    split at h
    · rename_i hw
      rw [if_pos hw]
      refine h.imp (fun h2 => ?_) (fun h2 => ⟨h2.1, ?_⟩)
      · unfold Oper.wp at h2 ⊢
        cases hr : (execOp a.eval o).run P w with
        | ok nx w' =>
          rw [hr] at h2
          cases nx <;> first
            | exact h2
            | exact Calls.mono h2 (fun e w'' he => by cases e <;> exact he)
        | halt x w' => rw [hr] at h2; cases x <;> exact h2
      · obtain ⟨a, w, ha⟩ := h2.2
        exact ⟨a, w, ha⟩
    · rename_i hw
      rw [if_neg hw]
      exact h
theorem lin_none {l : Array Bool} (h : Region.ready .any ops l = []) (fuel t : Nat) (acc : List Nat) : Region.linearise.go .any ops fuel t l acc = acc.reverse := by
  cases fuel with
  | zero => rfl
  | succ fuel =>
    simp only [Region.linearise.go]
    change (match (Region.ready .any ops l)[t % (Region.ready .any ops l).length]? with | some i => _ | none => acc.reverse) = _
    rw [h]
    rfl
theorem all_ready {l : Array Bool} (h : (List.range ops.size).all (fun j => decide (j = n) || l.getD j true) = true) (hs : l.size = ops.size) : Region.ready .any ops (l.setIfInBounds n true) = [] := by
  unfold Region.ready
  refine List.filter_eq_nil_iff.2 fun i hi => ?_
  have h1 := List.all_eq_true.1 h i hi
  have hi2 : i < l.size := by rw [hs]; exact List.mem_range.1 hi
  have h2 : (l.setIfInBounds n true).getD i true = true := by
    by_cases e : i = n
    · subst e; simp
    · have h3 : l.getD i true = true := by simpa [e] using h1
      rw [Array.getD_eq_getD_getElem?, Array.getElem?_setIfInBounds_ne (Ne.symm e), ← Array.getD_eq_getD_getElem?]
      exact h3
  rw [h2]
  simp
theorem last_sound (ho : ops[n]? = some on) (hd : on.dst = none) : ∀ (fuel t : Nat) (l : Array Bool) (a : Act) (w : World), l.size = ops.size → lastOk ops n fuel l = true → l.getD n true = false → (∀ l', Region.ready .any ops l' = [] → l'.size = ops.size → l'.getD n true = true) →
    wpAny P .any (ops.setIfInBounds n (standIn on)) (Exit.then (fun a w => OpsS P ops Q [n] a w) Q) fuel l a w → OpsS P ops Q (Region.linearise.go .any ops fuel t l []) a w := by
  intro fuel
  induction fuel with
  | zero =>
    intro t l a w hs hc hn hall h
    have h1 := h.1
    rw [stand_ready ho] at h1
    rw [hall l h1 hs] at hn
    cases hn
  | succ fuel ih =>
    intro t l a w hs hc hn hall h
    obtain ⟨h0, h1⟩ := h
    simp only [Region.linearise.go]
    change OpsS P ops Q (match (Region.ready .any ops l)[t % (Region.ready .any ops l).length]? with
      | some i => Region.linearise.go .any ops fuel (t / (Region.ready .any ops l).length) (l.setIfInBounds i true) [i]
      | none => [].reverse) a w
    cases hi : (Region.ready .any ops l)[t % (Region.ready .any ops l).length]? with
    | none =>
      have hnil : Region.ready .any ops l = [] := by
        cases hr : Region.ready .any ops l with
        | nil => rfl
        | cons x xs =>
          rw [hr] at hi
          have hlt : t % (x :: xs).length < (x :: xs).length := Nat.mod_lt _ (by simp)
          simp at hi
          simp at hlt
          omega
      rw [hall l hnil hs] at hn
      cases hn
    | some i =>
      simp only []
      rw [linearise_go_acc, List.reverse_singleton, List.singleton_append]
      have hmem := List.mem_of_getElem? hi
      have hc1 := List.all_eq_true.1 hc i hmem
      have hst := h1 i (by rw [stand_ready ho]; exact hmem)
      by_cases e : i = n
      · subst e
        rw [if_pos rfl] at hc1
        have hrd := all_ready hc1 hs
        rw [lin_none hrd]
        unfold wpOp at hst
        have hlt : i < ops.size := (Array.getElem?_eq_some_iff.1 ho).1
        rw [Array.getElem?_setIfInBounds_self_of_lt hlt] at hst
        simp only [standIn, Region.wanted, if_true] at hst
        rcases hst with hst | ⟨hst, _⟩
        · have h2 : wpAny P .any (ops.setIfInBounds i (standIn on)) (Exit.then (fun a w => OpsS P ops Q [i] a w) Q) fuel (l.setIfInBounds i true) a w := hst
          have h3 : Exit.then (fun a w => OpsS P ops Q [i] a w) Q .normal a w := by
            cases fuel with
            | zero => exact h2.2
            | succ k => exact h2.1 (by rw [stand_ready ho]; exact hrd)
          exact h3
        · exfalso
          unfold Oper.asks at hst
          have := hst.1
          simp [execOp, pure] at this
      · rw [if_neg e] at hc1
        refine opsS_step ?_
        have h2 : wpOp P ops (Exit.then (fun a w => OpsS P ops Q [n] a w) Q) i (wpAny P .any (ops.setIfInBounds n (standIn on)) (Exit.then (fun a w => OpsS P ops Q [n] a w) Q) fuel (l.setIfInBounds i true)) a w := by
          unfold wpOp at hst ⊢
          rw [stand_at i e, stand_yielded ho hd] at hst
          exact hst
        refine wpOp_exit (wpOp_mono (fun a' w' hh => ?_) h2) _
        refine ih _ _ a' w' (by simpa using hs) hc1 ?_ hall hh
        rw [Array.getD_eq_getD_getElem?, Array.getElem?_setIfInBounds_ne e, ← Array.getD_eq_getD_getElem?]
        exact hn
def topoOk (ops : Array Oper) : Bool := (List.range ops.size).all fun i => ((ops[i]?).map fun o => o.after.all fun e => decide (e.on < i)).getD true
theorem all_listed (ht : topoOk ops = true) {l : Array Bool} (hr : Region.ready .any ops l = []) (hs : l.size = ops.size) : ∀ i, i < ops.size → l.getD i true = true := by
  intro i
  induction i using Nat.strongRecOn with
  | ind i ih =>
    intro hi
    cases hl : l.getD i true with
    | true => rfl
    | false =>
      exfalso
      have hmem : i ∈ Region.ready .any ops l := by
        unfold Region.ready
        refine List.mem_filter.2 ⟨List.mem_range.2 hi, ?_⟩
        rw [hl]
        have h1 := List.all_eq_true.1 ht i (List.mem_range.2 hi)
        rw [Array.getElem?_eq_getElem hi] at h1 ⊢
        simp only [Option.map_some, Option.getD_some, Bool.not_false, Bool.true_and] at h1 ⊢
        rw [Array.all_eq_true_iff_forall_mem] at h1 ⊢
        intro e he
        have h2 : e.on < i := by simpa using h1 e he
        have h3 := ih e.on h2 (by omega)
        have h4 : l.getD e.on false = true := by
          have hlt : e.on < l.size := by omega
          rw [Array.getD_eq_getD_getElem?, Array.getElem?_eq_getElem hlt] at h3 ⊢
          exact h3
        rw [h4]
        simp
      rw [hr] at hmem
      cases hmem
theorem wp_region_commD {id : Nat} {a : Act} {w : World} (n : Nat) (ho : ops[n]? = some on) (hd : on.dst = none) (hm : P.follows .mixedOrders = true) (hc : lastOk ops n ops.size (Array.replicate ops.size false) = true)
    (ht : topoOk ops = true)
    (h : wpAny P .any (ops.setIfInBounds n (standIn on)) (Exit.then (fun a w => OpsS P ops Q [n] a w) Q) ops.size (Array.replicate ops.size false) a w.drew) : (Code.region id ops true).wp P Q a w := by
  intro b k cs
  have hlt : n < ops.size := (Array.getElem?_eq_some_iff.1 ho).1
  have h1 := fun t => last_sound (P := P) (Q := Q) ho hd ops.size t (Array.replicate ops.size false) a w.drew (by simp) hc (by simp [hlt]) (fun l' h1 h2 => all_listed ht h1 h2 n hlt) h
  obtain ⟨e, a', w', q, r⟩ := h1 (w.tape w.drawn (.order b.fn id)) b k cs
  refine ⟨e, a', w', q, .of_steps (.one step_region_draw) ?_⟩
  have e2 : Region.schedule (P.follows .mixedOrders) ops (w.tape w.drawn (.order b.fn id)) = Region.linearise.go .any ops ops.size (w.tape w.drawn (.order b.fn id)) (Array.replicate ops.size false) [] := by
    simp only [Region.schedule, hm, Bool.true_or, if_true]
    rfl
  rw [e2]
  exact r
end
end
end Go.Proofs.YtcbglcebdkpcfaaGreat

namespace Go.Proofs.YtcbglcebdkpcfaaGreat
section
set_option maxRecDepth 100000
set_option linter.unusedVariables false

def SlotsAt : List (Nat × Value) → Array Value → Prop
  | [], _ => True
  | x :: xs, t => t.getD x.1 undef = x.2 ∧ SlotsAt xs t
theorem SlotsAt.all {X : List (Nat × Value)} {t : Array Value} (h : SlotsAt X t) : ∀ x ∈ X, t.getD x.1 undef = x.2 := by
  induction X with
  | nil => intro x hx; cases hx
  | cons y ys ih =>
    intro x hx
    rcases List.mem_cons.1 hx with rfl | hx
    · exact h.1
    · exact ih h.2 x hx
end
end Go.Proofs.YtcbglcebdkpcfaaGreat
