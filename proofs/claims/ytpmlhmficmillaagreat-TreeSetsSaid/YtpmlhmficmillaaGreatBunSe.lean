/- slices.Insert of nodes, in the middle: one node put into a row of one's own. Conditions: at most a thousand nodes.
Set of a tree, whatever the node. Conditions: numbers in their types, the list sorted. -/
import Derived.Test.YtpmlhmficmillaaGreatBunNE
import Derived.Lib.AppendZerosOnto
import Derived.Lib.Overlaps
import Derived.Laws.Externs
import Derived.Laws.CopyRow
import Derived.Laws.CopyOwn
import Derived.Deep.DeepCutAuto
namespace Go.Proofs.YtpmlhmficmillaaGreat
section
open Go.RowKit
set_option maxRecDepth 100000
set_option linter.unusedVariables false

theorem run_copy_rowk {P : Program} (w : World) (dT sT ty elem : TypeId) (k g o dLen dCap : Nat) (a : Addr) (sLen sCap : Nat) (cur : Array Value) (t : TypeId) (cs : List Value)
    (hu : P.underlying dT = some (.slice elem)) (hs : (P.info? elem).map (·.size) = some k)
    (hg : w.heap[g]? = some (.cells cur t (0, 0))) (hn : cs.length = Nat.min sLen dLen * k)
    (hsrc : ∀ j v, cs[j]? = some v → w.cell? (a.add j) = some v) (hfit : o + cs.length ≤ cur.size) (h1 : ∀ v ∈ cs, v.oneCell' = true) :
    (Builtin.copy_ #[dT, sT] ty #[.slice (some ⟨g, o, none⟩) dLen dCap, .slice (some a) sLen sCap]).run P w =
      .ok (goInt (Nat.min sLen dLen)) (w.setRow g (cur.toList.take o ++ cs ++ cur.toList.drop (o + cs.length)).toArray) := by
  have hl := run_loadCells_list (P := P) w a cs hsrc
  have hst := run_storeCells_at P g o t cs 0 cur w hg (by simpa using hfit) h1
  cases hq : P.info? elem with
  | none => simp [hq] at hs
  | some i =>
    have hi : i.size = k := by simpa [hq] using hs
    simp [Builtin.copy_, run_underlying hu, Builtin.lenOf, Builtin.firstCells, sizeOf, typeInfo, hq, hi, ← hn, hl, hst]
theorem nwp_copy_run (w : World) {ops : Array Oper} {rest : List Oper} {o : Oper} {a : Act} {Q : Exit → Act → World → Prop} {P : Program} (hgd : o.guard = none) (d s : Operand) (t t' : TypeId)
    (ho : o.op = .call { callee := .builtin .copy, args := #[d, s], argTypes := #[t, t'] }) (v u : Value) (hd : a.eval d = v) (hs : a.eval s = u) {v' : Value} {w' : World}
    (hr : (Builtin.copy_ #[t, t'] o.type #[v, u]).run P w = .ok v' w') (h : wpList P ops Q rest (a.put o.dst v') w') : wpList P ops Q (o :: rest) a w :=
  wpList_plain hgd fun _ hK => by
    unfold Oper.wp execOp
    simp only [ho, resolve, invoke, builtin, Sem.run_bind, Sem.run_pure, Result.andThen_ok, List.map_toArray, List.map_cons, List.map_nil, hd, hs, hr]
    exact hK _ _ h
theorem nstep_copy_run {ops : Array Oper} {o : Oper} {a : Act} {w : World} {K : Act → World → Prop} {Q : Exit → Act → World → Prop} {E : Prop} {P : Program}
    (hg : o.guard = none) (d x : Operand) (dT sT : TypeId) (hop : o.op = Op.call { callee := Callee.builtin Builtin.copy, args := #[d, x], argTypes := #[dT, sT] })
    (v u : Value) (hd : a.eval d = v) (hx : a.eval x = u) {v' : Value} {w' : World} (hr : (Builtin.copy_ #[dT, sT] o.type #[v, u]).run P w = .ok v' w') (hK : K (a.put o.dst v') w') :
    if Region.wanted o (yielded ops a.tmps) = true then Oper.wp P o a w K Q else E := by
  have hw : Region.wanted o (yielded ops a.tmps) = true := by simp [Region.wanted, hg]
  rw [if_pos hw]
  unfold Oper.wp
  simp [execOp, hop, resolve, invoke, builtin, hd, hx, hr, Result.andThen]
  exact hK
theorem nwp_append_run (w : World) {ops : Array Oper} {rest : List Oper} {o : Oper} {a : Act} {Q : Exit → Act → World → Prop} {P : Program} (hgd : o.guard = none) (d s : Operand) (t t' : TypeId)
    (ho : o.op = .call { callee := .builtin .append, args := #[d, s], argTypes := #[t, t'] }) (v u : Value) (hd : a.eval d = v) (hs : a.eval s = u) {v' : Value} {w' : World}
    (hr : (Builtin.append_ #[t, t'] o.type #[v, u]).run P w = .ok v' w') (h : wpList P ops Q rest (a.put o.dst v') w') : wpList P ops Q (o :: rest) a w :=
  wpList_plain hgd fun _ hK => by
    unfold Oper.wp execOp
    simp only [ho, resolve, invoke, builtin, Sem.run_bind, Sem.run_pure, Result.andThen_ok, List.map_toArray, List.map_cons, List.map_nil, hd, hs, hr]
    exact hK _ _ h
theorem NodsAt.pre {w : World} {g c : Nat} {cur : Array Value} {t : TypeId} {fr : Nat × Nat} {l : List Nod} (hg : w.heap[g]? = some (.cells cur t fr)) (hp : cur.toList.take (l.length * 12) = nodsL l) (hc : l.length ≤ c) (hm : c ≤ maxLen) : NodsAt w (.slice (some ⟨g, 0, none⟩) l.length c) l := by
  refine ⟨by rw [nodsL_length], _, _, rfl, hc, hm, (fun h => by cases h), fun i u hu => ⟨g, 0, rfl, ?_⟩⟩
  have h1 : (cur.toList.take (l.length * 12))[i]? = some u := by rw [hp]; exact hu
  have hi : i < l.length * 12 := by
    have := (List.getElem?_eq_some_iff.1 hu).1
    rw [nodsL_length] at this; exact this
  rw [List.getElem?_take_of_lt hi] at h1
  rw [Nat.zero_add]
  simp [World.cell?, hg]
  simpa using h1
theorem insL_take (l : List Nod) (i : Nat) (hi : i ≤ l.length) : nodsL (l.take i) ++ nodsL (l.drop i) = nodsL l := by rw [← nodsL_append, List.take_append_drop]
theorem insL_cons (x : Nod) (l : List Nod) : nodsL (x :: l) = x.cells.toList ++ nodsL l := rfl
theorem ins_lt {l : List Nod} {i : Nat} (hi : i ≤ l.length) : (nodsL (l.take i)).length = i * 12 := by rw [nodsL_length, List.length_take, Nat.min_eq_left hi]
theorem ins_ld (l : List Nod) (i : Nat) : (nodsL (l.drop i)).length = (l.length - i) * 12 := by rw [nodsL_length, List.length_drop]
theorem ins_list {l : List Nod} {x : Nod} {i : Nat} {C C1 C2 : List Value} (hi : i < l.length) (hC : C.take (l.length * 12) = nodsL l) (h12 : (l.length + 1) * 12 ≤ C.length) (h1 : C1 = C.take ((i + 1) * 12) ++ nodsL (l.drop i) ++ C.drop ((i + 1) * 12 + (nodsL (l.drop i)).length))
    (h2 : C2 = C1.take (i * 12) ++ x.cells.toList ++ C1.drop (i * 12 + x.cells.toList.length)) : C1.length = C.length ∧ C2.take ((l.length + 1) * 12) = nodsL (l.take i ++ x :: l.drop i) := by
  have hx : x.cells.toList.length = 12 := by rw [nod_cells]; rfl
  have hd := ins_ld l i
  have ht := ins_lt (l := l) (i := i) (by omega)
  have hA : C.take (i * 12) = nodsL (l.take i) := by
    have : (C.take (l.length * 12)).take (i * 12) = nodsL (l.take i) := by
      rw [hC, ← insL_take l i (by omega), List.take_append_of_le_length (by omega), List.take_of_length_le (by omega)]
    rwa [List.take_take, Nat.min_eq_left (by omega)] at this
  have hl1 : (C.take ((i + 1) * 12)).length = (i + 1) * 12 := by rw [List.length_take]; omega
  have e1 : C1.take (i * 12) = nodsL (l.take i) := by
    rw [h1, List.append_assoc, List.take_append_of_le_length (by omega), List.take_take, Nat.min_eq_left (by omega), hA]
  have e2 : C1.drop (i * 12 + x.cells.toList.length) = nodsL (l.drop i) ++ C.drop ((i + 1) * 12 + (nodsL (l.drop i)).length) := by
    rw [h1, hx, List.append_assoc, show i * 12 + 12 = (C.take ((i + 1) * 12)).length by omega, List.drop_left]
  refine ⟨?_, ?_⟩
  · rw [h1]; simp only [List.length_append, hl1, hd, List.length_drop]; omega
  · rw [h2, e1, e2]
    have hlen : (nodsL (l.take i) ++ x.cells.toList ++ nodsL (l.drop i)).length = (l.length + 1) * 12 := by simp only [List.length_append]; omega
    rw [← List.append_assoc, ← hlen, List.take_left, nodsL_append, insL_cons, List.append_assoc]
theorem ins_room {g0 c i gx : Nat} {l : List Nod} {x : Nod} {cur : Array Value} {w : World} (hg0 : w.heap[g0]? = some (.cells cur 28 (0, 0))) (hpre : cur.toList.take (l.length * 12) = nodsL l) (hcs : cur.size = c * 12) (hc : l.length + 1 ≤ c) (hcm : c ≤ maxLen)
    (hgx : w.heap[gx]? = some (.cells x.cells 28 (0, 0))) (hne : gx ≠ g0) (hi : i < l.length) (hl : l.length ≤ 1000) :
    Calls Tryz.prog 33 #[.slice (some ⟨g0, 0, none⟩) l.length c, .int .i64 (i : Int), .slice (some ⟨gx, 0, none⟩) 1 1] w fun e w' =>
      e = .returned (.slice (some ⟨g0, 0, none⟩) (l.length + 1) c) ∧ ∃ cur', w' = w.drew.setRow g0 cur' ∧ cur'.toList.take ((l.length + 1) * 12) = nodsL (l.take i ++ x :: l.drop i) := by
  unfold maxLen at hcm
  have mixed : Tryz.prog.follows Departure.mixedOrders = true := by first | kernel_rfl | decide
  have hsz : (Tryz.prog.info? 28).map (·.size) = some 12 := by kernel_rfl
  have hsz2 : ∀ w, (Go.sizeOf 28).run Tryz.prog w = .ok 12 w := fun w => by kernel_rfl
  have hov : ∀ lb cb, (callFunc 58 #[.slice (some ⟨gx, 0, none⟩) 1 1, .slice (some ⟨g0, (i + 1) * 12, none⟩) lb cb]).run Tryz.prog w = .ok (.value (.bool false)) w := fun lb cb => by
    rw [run_callFunc_extern (P := Tryz.prog) (f := 58) (fn := Tryz.f58) rfl (by kernel_rfl) (by kernel_rfl) (by kernel_rfl) (e := Extern.SlicesOverlaps.overlaps #[23, 23] #[4]) (by kernel_rfl),
      Lib.run_overlaps_apart w 23 4 28 Tryz.underlying23 12 hsz2 ⟨gx, 0, none⟩ ⟨g0, (i + 1) * 12, none⟩ 1 1 lb cb hne 28 28 12 (c * 12) (by simp [World.shape?, hgx, nod_cells]) (by simp [World.shape?, hg0, hcs]) (by omega) (by simp [World.frozen?, hgx]) (by simp [World.frozen?, hgx])]
    rfl
  have hi1 : (0 : Int) ≤ (i : Int) := by omega
  have hi2 : ¬ ((i : Int) = (l.length : Int)) := by omega
  have hi3 : (i : Int) ≤ (l.length : Int) := by omega
  have hw1 : IntKind.i64.wrap ((i : Int) + 1) = (i : Int) + 1 := IntWalk.i64_in _ (by omega)
  have hw2 : IntKind.i64.wrap ((l.length : Int) + 1) = (l.length : Int) + 1 := IntWalk.i64_in _ (by omega)
  have hr1 : ¬ ((c : Int) < (l.length : Int) + 1) := by omega
  obtain ⟨cur1, hcur1⟩ : ∃ cur1 : List Value, cur1 = cur.toList.take ((i + 1) * 12) ++ nodsL (l.drop i) ++ cur.toList.drop ((i + 1) * 12 + (nodsL (l.drop i)).length) := ⟨_, rfl⟩
  obtain ⟨cur2, hcur2⟩ : ∃ cur2 : List Value, cur2 = cur1.take (i * 12) ++ x.cells.toList ++ cur1.drop (i * 12 + x.cells.toList.length) := ⟨_, rfl⟩
  obtain ⟨hl1, hfin⟩ := ins_list (x := x) hi hpre (by simp; omega) hcur1 hcur2
  have hx12 : x.cells.toList.length = 12 := by rw [nod_cells]; rfl
  have hcp1 : ∀ ty dc sc, (Builtin.copy_ #[23, 23] ty #[.slice (some ⟨g0, (i + 1) * 12, none⟩) (l.length - i) dc, .slice (some ⟨g0, i * 12, none⟩) (l.length + 1 - i) sc]).run Tryz.prog w.drew = .ok (goInt ((l.length - i : Nat) : Int)) (w.drew.setRow g0 cur1.toArray) := fun ty dc sc => by
    have hmin : Nat.min (l.length + 1 - i) (l.length - i) = l.length - i := by simp only [Nat.min_def]; split <;> omega
    have h := run_copy_rowk (P := Tryz.prog) w.drew 23 23 ty 28 12 g0 ((i + 1) * 12) (l.length - i) dc ⟨g0, i * 12, none⟩ (l.length + 1 - i) sc cur 28 (nodsL (l.drop i)) Tryz.underlying23 hsz hg0 (by rw [hmin, ins_ld]) (fun j v hj => by
      rw [Addr.add_mid]
      have h1 : (nodsL l)[i * 12 + j]? = some v := by
        rw [← insL_take l i (by omega), List.getElem?_append_right (by rw [ins_lt (by omega)]; omega), ins_lt (by omega), show i * 12 + j - i * 12 = j by omega]; exact hj
      rw [← hpre] at h1
      have hlt : i * 12 + j < l.length * 12 := by
        have := (List.getElem?_eq_some_iff.1 hj).1
        rw [ins_ld] at this; omega
      rw [List.getElem?_take_of_lt hlt] at h1
      show w.cell? ⟨g0, i * 12 + j, none⟩ = some v
      simp [World.cell?, hg0]
      simpa using h1) (by rw [ins_ld, hcs]; omega) (nodsL_one _)
    rw [hmin, ← hcur1] at h
    exact h
  have hg1 : (w.drew.setRow g0 cur1.toArray).heap[g0]? = some (.cells cur1.toArray 28 (0, 0)) := setRow_heap _ _ _ _ _ _ hg0
  have hgx1 : (w.drew.setRow g0 cur1.toArray).heap[gx]? = some (.cells x.cells 28 (0, 0)) := (setRow_other _ _ _ _ hne).trans hgx
  have hcp2 : ∀ ty dc, (Builtin.copy_ #[23, 23] ty #[.slice (some ⟨g0, i * 12, none⟩) (l.length + 1 - i) dc, .slice (some ⟨gx, 0, none⟩) 1 1]).run Tryz.prog (w.drew.setRow g0 cur1.toArray) = .ok (goInt 1) ((w.drew.setRow g0 cur1.toArray).setRow g0 cur2.toArray) := fun ty dc => by
    have hmin : Nat.min 1 (l.length + 1 - i) = 1 := by simp only [Nat.min_def]; split <;> omega
    have h := run_copy_rowk (P := Tryz.prog) (w.drew.setRow g0 cur1.toArray) 23 23 ty 28 12 g0 (i * 12) (l.length + 1 - i) dc ⟨gx, 0, none⟩ 1 1 cur1.toArray 28 x.cells.toList Tryz.underlying23 hsz hg1 (by rw [hmin, hx12]) (fun j v hj => by
      rw [Addr.add_mid, Nat.zero_add]
      rw [block_cell hgx1 j]
      simpa using hj) (by rw [hx12]; simp; rw [hl1]; simp; omega) (fun v hv => by
      have := Array.all_eq_true_iff_forall_mem.1 (nod_one x) v (by simpa using hv)
      exact this)
    rw [hmin] at h
    rw [show (cur1.toArray.toList.take (i * 12) ++ x.cells.toList ++ cur1.toArray.toList.drop (i * 12 + x.cells.toList.length)) = cur2 by rw [hcur2]] at h
    exact h
  replace hg1 := hid hg1
  replace hgx1 := hid hgx1
  replace hfin := hid hfin
  replace hcur1 := hid hcur1
  replace hcur2 := hid hcur2
  replace hpre := hid hpre
  replace hg0 := hid hg0
  replace hgx := hid hgx
  replace hcs := hid hcs
  replace hl1 := hid hl1
  replace hx12 := hid hx12
  replace hsz := hid hsz
  replace hsz2 := hid hsz2
  have hb2 : ¬ (c = i + 1) := by omega
  have hb4 : ¬ (c = i) := by omega
  have hb3 : (i : Int) ≤ (l.length : Int) + 1 := by omega
  have hb5 : (0 : Int) ≤ (i : Int) + 1 := by omega
  have htn : ((i : Int) + 1).toNat = i + 1 := by omega
  go_enter Tryz.func33, Tryz.ntmps33
  go_wp2_with (simp only [hov])
  go_region_law_o (refine nstep_copy_run rfl _ _ 23 23 rfl _ _ (by simp [Act.eval, Act.put]) (by simp [Act.eval, Act.put]) (hcp1 _ _ _) ?_)
  go_wp2_with (at_builtin; refine nwp_copy_run _ rfl _ _ 23 23 rfl _ _ rfl rfl (hcp2 _ _) ?_)
  go_ret
  refine ⟨rfl, cur2.toArray, setRow_setRow _ _ _ _, by simpa using hfin.out⟩
theorem ins_zc (cs : Array Value) (k : Nat) : (Builtin.zeroCells cs k).size = k * cs.size := by
  unfold Builtin.zeroCells
  simp
theorem ins_list2 {l : List Nod} {x : Nod} {i : Nat} {C C1 C2 : List Value} (hi : i < l.length) (hC : C.take (i * 12) = nodsL (l.take i)) (h12 : (l.length + 1) * 12 ≤ C.length) (h1 : C1 = C.take (i * 12) ++ x.cells.toList ++ C.drop (i * 12 + x.cells.toList.length))
    (h2 : C2 = C1.take ((i + 1) * 12) ++ nodsL (l.drop i) ++ C1.drop ((i + 1) * 12 + (nodsL (l.drop i)).length)) : C1.length = C.length ∧ C2.take ((l.length + 1) * 12) = nodsL (l.take i ++ x :: l.drop i) := by
  have hx : x.cells.toList.length = 12 := by rw [nod_cells]; rfl
  have hd := ins_ld l i
  have ht := ins_lt (l := l) (i := i) (by omega)
  have e1 : C1.take ((i + 1) * 12) = nodsL (l.take i) ++ x.cells.toList := by
    have hl : (nodsL (l.take i) ++ x.cells.toList).length = (i + 1) * 12 := by simp only [List.length_append]; omega
    rw [h1, hC, ← hl, List.take_left]
  refine ⟨?_, ?_⟩
  · rw [h1, hC]; simp only [List.length_append, ht, hx, List.length_drop]; omega
  · have hlen : (nodsL (l.take i) ++ x.cells.toList ++ nodsL (l.drop i)).length = (l.length + 1) * 12 := by simp only [List.length_append]; omega
    rw [h2, e1, ← hlen, List.take_left, nodsL_append, insL_cons, List.append_assoc]
set_option maxHeartbeats 1600000 in
theorem ins_grow {g0 i gx : Nat} {l : List Nod} {x : Nod} {cur : Array Value} {w : World} (hg0 : w.heap[g0]? = some (.cells cur 28 (0, 0))) (hpre : cur.toList.take (l.length * 12) = nodsL l)
    (hgx : w.heap[gx]? = some (.cells x.cells 28 (0, 0))) (hi : i < l.length) (hl : l.length ≤ 1000) :
    Calls Tryz.prog 33 #[.slice (some ⟨g0, 0, none⟩) l.length l.length, .int .i64 (i : Int), .slice (some ⟨gx, 0, none⟩) 1 1] w fun e w' =>
      ∃ G cur', e = .returned (.slice (some ⟨w.heap.size, 0, none⟩) (l.length + 1) G) ∧ l.length + 1 ≤ G ∧ G ≤ maxLen ∧ w'.heap[w.heap.size]? = some (.cells cur' 28 (0, 0)) ∧ cur'.toList.take ((l.length + 1) * 12) = nodsL (l.take i ++ x :: l.drop i) ∧ Below w.heap.size w w' := by
  have mixed : Tryz.prog.follows Departure.mixedOrders = true := by first | kernel_rfl | decide
  have hsz : (Tryz.prog.info? 28).map (·.size) = some 12 := by kernel_rfl
  obtain ⟨i0, z, hi0, hz0, hsize, hby, hzs⟩ := elemN.hi
  have hx12 : x.cells.toList.length = 12 := by rw [nod_cells]; rfl
  have hsrc0 : ∀ (W : World), W.heap[g0]? = some (.cells cur 28 (0, 0)) → ∀ (k : Nat) (v : Value), (nodsL l)[k]? = some v → W.cell? ⟨g0, k, none⟩ = some v := fun W hW k v hv => by
    have hlt : k < l.length * 12 := by
      have := (List.getElem?_eq_some_iff.1 hv).1
      rw [nodsL_length] at this; exact this
    rw [← hpre, List.getElem?_take_of_lt hlt] at hv
    simp [World.cell?, hW]
    simpa using hv
  have hold : (Builtin.firstCells i0.size i (.slice (some ⟨g0, 0, none⟩) i l.length)).run Tryz.prog w.drew = .ok (nodsL (l.take i)).toArray w.drew := by
    rw [hsize]
    exact run_firstCells_some w.drew 12 i ⟨g0, 0, none⟩ i l.length (nodsL (l.take i)) (ins_lt (by omega)) (fun j v hj => by
      rw [Addr.add_mid, Nat.zero_add]
      refine hsrc0 w.drew hg0 j v ?_
      have hlt : j < i * 12 := by
        have := (List.getElem?_eq_some_iff.1 hj).1
        rw [ins_lt (by omega)] at this; exact this
      rw [← insL_take l i (by omega), List.getElem?_append_left (by rw [ins_lt (by omega)]; exact hlt)]; exact hj)
  have hkk : (l.length : Int) + 1 - (i : Int) = ((l.length + 1 - i : Nat) : Int) := by omega
  have hik : i + (l.length + 1 - i) = l.length + 1 := by omega
  obtain ⟨G, hG⟩ : ∃ G, G = grownCap w (l.length + 1) l.length 28 := ⟨_, rfl⟩
  obtain ⟨ROW, hROW⟩ : ∃ ROW : Array Value, ROW = (nodsL (l.take i)).toArray ++ Builtin.zeroCells z.cells (l.length + 1 - i) ++ Builtin.zeroCells z.cells (G - (l.length + 1)) := ⟨_, rfl⟩
  have hrz : ∀ ty, (Builtin.append_ #[23, 3] ty #[.slice (some ⟨g0, 0, none⟩) i l.length, .int .i64 ((l.length : Int) + 1 - (i : Int))]).run Tryz.prog w = .ok (.slice (some ⟨w.heap.size, 0, none⟩) (l.length + 1) G) (w.drew.alloc (.cells ROW 28)) := fun ty => by
    have h := Lib.run_append_grow_zeros w 23 3 ty 28 i0 z .i64 .i64 Tryz.underlying23 Tryz.underlying3 hi0 hz0 (some ⟨g0, 0, none⟩) i l.length (nodsL (l.take i)) hold (l.length + 1 - i) (by omega) (by omega) (by omega) (by omega) (by rw [hby]; omega) (by rw [hby, hik]; exact growslice_fits (by omega) (by omega))
    rw [hik, ← hG, ← hROW] at h
    rw [hkk]
    exact h
  have hGn : l.length + 1 ≤ G := by rw [hG]; exact grownCap_ge w _ _ _
  have hG63 : G ≤ maxLen := by rw [hG]; exact grownCap_le_maxLen w (l.length + 1) l.length 28 (by unfold maxLen; omega)
  have hRs : ROW.toList.length = G * 12 := by
    have e1 := ins_zc z.cells (l.length + 1 - i)
    have e2 := ins_zc z.cells (G - (l.length + 1))
    rw [hzs] at e1 e2
    have e3 : (nodsL (l.take i)).length = i * 12 := ins_lt (by omega)
    have e4 : ROW.size = (nodsL (l.take i)).length + (Builtin.zeroCells z.cells (l.length + 1 - i)).size + (Builtin.zeroCells z.cells (G - (l.length + 1))).size := by rw [hROW]; simp only [Array.size_append, List.size_toArray]
    rw [Array.length_toList, e4, e1, e2, e3]; omega
  have hRp : ROW.toList.take (i * 12) = nodsL (l.take i) := by
    have e : ROW.toList = nodsL (l.take i) ++ ((Builtin.zeroCells z.cells (l.length + 1 - i)).toList ++ (Builtin.zeroCells z.cells (G - (l.length + 1))).toList) := by
      rw [hROW, Array.toList_append, Array.toList_append, List.append_assoc]
    have hlen := ins_lt (l := l) (i := i) (by omega)
    rw [e, List.take_append_of_le_length (by omega), List.take_of_length_le (by omega)]
  obtain ⟨R1, hR1⟩ : ∃ R1 : List Value, R1 = ROW.toList.take (i * 12) ++ x.cells.toList ++ ROW.toList.drop (i * 12 + x.cells.toList.length) := ⟨_, rfl⟩
  obtain ⟨R2, hR2⟩ : ∃ R2 : List Value, R2 = R1.take ((i + 1) * 12) ++ nodsL (l.drop i) ++ R1.drop ((i + 1) * 12 + (nodsL (l.drop i)).length) := ⟨_, rfl⟩
  obtain ⟨hl1, hfin⟩ := ins_list2 (x := x) hi hRp (by rw [hRs]; omega) hR1 hR2
  obtain ⟨W1, hW1⟩ : ∃ W1, W1 = w.drew.alloc (.cells ROW 28) := ⟨_, rfl⟩
  rw [← hW1] at hrz
  have hb1 : Below w.heap.size w W1 := by rw [hW1]; exact ((Below.refl _ _).drew).alloc (Nat.le_refl _) _
  have hn1 : W1.heap[w.heap.size]? = some (.cells ROW 28 (0, 0)) := by rw [hW1]; exact heap_alloc_new w.drew _
  have hx1 : W1.heap[gx]? = some (.cells x.cells 28 (0, 0)) := (hb1.block _ (lt_of_block hgx)).trans hgx
  have h01 : W1.heap[g0]? = some (.cells cur 28 (0, 0)) := (hb1.block _ (lt_of_block hg0)).trans hg0
  have hlt0 := lt_of_block hg0
  have hcpA : ∀ ty dc, (Builtin.copy_ #[23, 23] ty #[.slice (some ⟨w.heap.size, i * 12, none⟩) (l.length + 1 - i) dc, .slice (some ⟨gx, 0, none⟩) 1 1]).run Tryz.prog W1 = .ok (goInt 1) (W1.setRow w.heap.size R1.toArray) := fun ty dc => by
    have hmin : Nat.min 1 (l.length + 1 - i) = 1 := by simp only [Nat.min_def]; split <;> omega
    have h := run_copy_rowk (P := Tryz.prog) W1 23 23 ty 28 12 w.heap.size (i * 12) (l.length + 1 - i) dc ⟨gx, 0, none⟩ 1 1 ROW 28 x.cells.toList Tryz.underlying23 hsz hn1 (by rw [hmin, hx12]) (fun j v hj => by
      rw [Addr.add_mid, Nat.zero_add, block_cell hx1 j]
      simpa using hj) (by rw [hx12, ← Array.length_toList, hRs]; omega) (fun v hv => Array.all_eq_true_iff_forall_mem.1 (nod_one x) v (by simpa using hv))
    rw [hmin, ← hR1] at h
    exact h
  obtain ⟨W2, hW2⟩ : ∃ W2, W2 = W1.setRow w.heap.size R1.toArray := ⟨_, rfl⟩
  rw [← hW2] at hcpA
  have hn2 : W2.heap[w.heap.size]? = some (.cells R1.toArray 28 (0, 0)) := by rw [hW2]; exact setRow_heap _ _ _ _ _ _ hn1
  have h02 : W2.heap[g0]? = some (.cells cur 28 (0, 0)) := by rw [hW2]; exact (setRow_other _ _ _ _ (by omega)).trans h01
  have hb2 : Below w.heap.size w W2 := by rw [hW2]; exact below_setRow hb1 (Nat.le_refl _) _
  have hcpB : ∀ ty dc, (Builtin.copy_ #[23, 23] ty #[.slice (some ⟨w.heap.size, (i + 1) * 12, none⟩) (l.length - i) dc, .slice (some ⟨g0, i * 12, none⟩) (l.length - i) (l.length - i)]).run Tryz.prog W2.drew = .ok (goInt ((l.length - i : Nat) : Int)) (W2.drew.setRow w.heap.size R2.toArray) := fun ty dc => by
    have hmin : Nat.min (l.length - i) (l.length - i) = l.length - i := by simp only [Nat.min_def]; split <;> omega
    have h := run_copy_rowk (P := Tryz.prog) W2.drew 23 23 ty 28 12 w.heap.size ((i + 1) * 12) (l.length - i) dc ⟨g0, i * 12, none⟩ (l.length - i) (l.length - i) R1.toArray 28 (nodsL (l.drop i)) Tryz.underlying23 hsz hn2 (by rw [hmin, ins_ld]) (fun j v hj => by
      rw [Addr.add_mid]
      refine hsrc0 W2.drew h02 (i * 12 + j) v ?_
      rw [← insL_take l i (by omega), List.getElem?_append_right (by rw [ins_lt (by omega)]; omega), ins_lt (by omega), show i * 12 + j - i * 12 = j by omega]; exact hj) (by rw [ins_ld]; simp; rw [hl1, hRs]; omega) (nodsL_one _)
    rw [hmin] at h
    rw [show (R1.toArray.toList.take ((i + 1) * 12) ++ nodsL (l.drop i) ++ R1.toArray.toList.drop ((i + 1) * 12 + (nodsL (l.drop i)).length)) = R2 by rw [hR2]] at h
    exact h
  have hn3 : (W2.drew.setRow w.heap.size R2.toArray).heap[w.heap.size]? = some (.cells R2.toArray 28 (0, 0)) := setRow_heap _ _ _ _ _ _ hn2
  have hb3 : Below w.heap.size w (W2.drew.setRow w.heap.size R2.toArray) := below_setRow hb2.drew (Nat.le_refl _) _
  have hpost := hid (show ∃ cur' : Array Value, l.length + 1 ≤ G ∧ G ≤ maxLen ∧ (W2.drew.setRow w.heap.size R2.toArray).heap[w.heap.size]? = some (.cells cur' 28 (0, 0)) ∧ cur'.toList.take ((l.length + 1) * 12) = nodsL (l.take i ++ x :: l.drop i) ∧ Below w.heap.size w (W2.drew.setRow w.heap.size R2.toArray) from ⟨_, hGn, hG63, hn3, by simpa using hfin, hb3⟩)
  have hGi : ¬ (G = i) := by omega
  have hGi1 : ¬ (G = i + 1) := by omega
  have hli : ¬ (l.length = i) := by omega
  have hGi2 : G ≤ 9223372036854775807 := by unfold maxLen at hG63; omega
  have hi1 : (0 : Int) ≤ (i : Int) := by omega
  have hi2 : ¬ ((i : Int) = (l.length : Int)) := by omega
  have hi3 : (i : Int) ≤ (l.length : Int) := by omega
  have hw1 : IntKind.i64.wrap ((i : Int) + 1) = (i : Int) + 1 := IntWalk.i64_in _ (by omega)
  have hw2 : IntKind.i64.wrap ((l.length : Int) + 1) = (l.length : Int) + 1 := IntWalk.i64_in _ (by omega)
  have hw3 : IntKind.i64.wrap ((l.length : Int) + 1 - (i : Int)) = (l.length : Int) + 1 - (i : Int) := IntWalk.i64_in _ (by omega)
  have hr1 : ((l.length : Int) < (l.length : Int) + 1) := by omega
  have hb30 : (i : Int) ≤ (l.length : Int) + 1 := by omega
  have hb5 : (0 : Int) ≤ (i : Int) + 1 := by omega
  have htn : ((i : Int) + 1).toNat = i + 1 := by omega
  clear hn3 hb3 hfin hb2 h02 hn2 hlt0 h01 hx1 hn1 hb1 hl1 hRp hRs hold hsrc0 hkk hik hG63 hGn hg0 hgx hpre hsz hi0 hz0 hsize hby hzs hx12
  replace hW1 := hid hW1
  replace hW2 := hid hW2
  replace hR1 := hid hR1
  replace hR2 := hid hR2
  replace hG := hid hG
  replace hROW := hid hROW
  go_enter Tryz.func33, Tryz.ntmps33
  go_wp2_with (first
    | (at_builtin; refine nwp_append_run _ rfl _ _ _ _ rfl _ _ rfl rfl (hrz _) ?_)
    | (at_builtin; refine nwp_copy_run _ rfl _ _ 23 23 rfl _ _ rfl rfl (hcpA _ _) ?_))
  go_region_law_o (refine nstep_copy_run rfl _ _ 23 23 rfl _ _ (by simp [Act.eval, Act.put]) (by simp [Act.eval, Act.put]) (hcpB _ _) ?_)
  go_wp2_with fail
  go_ret
  obtain ⟨cur', p1, p2, p3, p4, p5⟩ := hpost.out
  exact ⟨G, cur', rfl, p1, p2, p3, p4, p5⟩
end
end Go.Proofs.YtpmlhmficmillaaGreat

namespace Go.Proofs.YtpmlhmficmillaaGreat
section
open Go.RowKit
set_option maxRecDepth 100000
set_option linter.unusedVariables false

theorem insert_mid (v : Value) (l : List Nod) (x : Nod) (g base i : Nat) (w : World) (hv : w.ownsRow base 28 12 v l.length (nodsL l)) (hg : w.heap[g]? = some (.cells x.cells 28 (0, 0))) (hne : v.ownBlock ≠ some g) (hi : i < l.length) (hl : l.length ≤ 1000) (hb : base ≤ w.heap.size) :
    Calls Tryz.prog 33 #[v, .int .i64 (i : Int), .slice (some ⟨g, 0, none⟩) 1 1] w fun e w' => ∃ v', e = .returned v' ∧ NodsAt w' v' (l.take i ++ x :: l.drop i) ∧ (∀ k, v'.ownBlock = some k → base ≤ k) ∧ (∀ k, k < w.heap.size → v.ownBlock ≠ some k → w'.heap[k]? = w.heap[k]?) ∧ Below base w w' := by
  obtain ⟨_, h | ⟨g0, cap, cur, rfl, h1, h2, h3, h4, h5, h6⟩⟩ := hv
  · omega
  have hlen : (l.take i ++ x :: l.drop i).length = l.length + 1 := by simp; omega
  have hgg : g ≠ g0 := fun e => hne (by rw [e]; rfl)
  by_cases hr : l.length + 1 ≤ cap
  · refine (ins_room h2 h6 h5 hr h4 hg hgg hi hl).mono ?_
    rintro e w' ⟨rfl, cur', rfl, hc⟩
    have hh := setRow_heap w.drew g0 cur cur' _ _ h2
    refine ⟨_, rfl, ?_, ?_, ?_, below_setRow (Below.refl _ _).drew h1 _⟩
    · have := NodsAt.pre (c := cap) (l := l.take i ++ x :: l.drop i) hh (by rw [hlen]; exact hc) (by omega) h4
      rwa [hlen] at this
    · intro k hk; cases hk; exact h1
    · intro k hk hk2
      exact setRow_other _ _ _ _ (fun e => hk2 (by rw [e]; rfl))
  · obtain rfl : cap = l.length := by omega
    refine (ins_grow h2 h6 hg hi hl).mono ?_
    rintro e w' ⟨G, cur', rfl, p1, p2, p3, p4, p5⟩
    refine ⟨_, rfl, ?_, ?_, fun k hk _ => p5.block k hk, p5.mono hb⟩
    · have := NodsAt.pre (c := G) (l := l.take i ++ x :: l.drop i) p3 (by rw [hlen]; exact p4) (by omega) p2
      rwa [hlen] at this
    · intro k hk; cases hk; exact hb
set_option maxHeartbeats 6400000 in
theorem nset_mid (v : Value) (x : Nat) (l : List Nod) (n : Nod) (w : World) (hv : NodsAt w v l) (hs : SortL l) (hl : l.length ≤ 900) (hgn : getL l n.path = none) (hlt : belowN l n.path < l.length) :
    Calls Tryz.prog 11 #[.agg #[.int .u64 (x : Int), v], .agg n.cells] w (SetPost w x (setL l n)) := by
  obtain ⟨a, c, rfl, g1, g2⟩ := hv.form
  unfold maxLen at g2
  obtain ⟨W, hW⟩ : ∃ W, W = ((w.alloc (.cells #[.int .u64 (x : Int), .slice a l.length c] 25)).alloc (.cells n.cells 28)).alloc (.cells #[.int .u64 0, .slice none 0 0] 25) := ⟨_, rfl⟩
  have hb0 : Below w.heap.size w W := by rw [hW]; exact (((Below.refl w.heap.size w).alloc (Nat.le_refl _) _).alloc (by simp) _).alloc (by simp; omega) _
  have hx0 : W.heap[w.heap.size]? = some (.cells #[.int .u64 (x : Int), .slice a l.length c] 25 (0, 0)) := by rw [hW, heap_alloc_old _ _ (by simp; omega), heap_alloc_old _ _ (by simp), heap_alloc_new]
  have hy0 : W.heap[w.heap.size + 1]? = some (.cells n.cells 28 (0, 0)) := by rw [hW, heap_alloc_old _ _ (by simp)]; exact heap2 _ _ _
  have hz0 : W.heap[w.heap.size + 2]? = some (.cells #[.int .u64 0, .slice none 0 0] 25 (0, 0)) := by
    rw [hW]
    have := heap_alloc_new ((w.alloc (.cells #[.int .u64 (x : Int), .slice a l.length c] 25)).alloc (.cells n.cells 28)) (.cells #[.int .u64 0, .slice none 0 0] 25)
    simpa using this
  have hv0 := hid (hv.below hb0)
  have hf := hid (fun X (h : NodsAt X (.slice a l.length c) l) => tfind_any _ x l n.path X h hs (by omega))
  have hcl0 := hid (fun X (h : NodsAt X (.slice a l.length c) l) => nclone_any _ l X h (by omega))
  have hhit := hid (set_hit hs n)
  have hmiss := hid (set_miss hs n)
  have hga := hid (get_at hs n.path)
  have e0 := block_cell hx0 0
  have e1 := block_cell hx0 1
  have e2 : W.cell? ⟨w.heap.size + 1, 0, none⟩ = some (.int .u64 (n.path : Int)) := block_cell hy0 0
  have hzz := lt_of_block hz0
  replace hb0 := hid hb0
  replace hx0 := hid hx0
  replace hy0 := hid hy0
  replace hz0 := hid hz0
  clear hv hs
  go_enter Tryz.func11, Tryz.ntmps11
  go_wp2_with (rw [← hW]; replace hW := hid hW)
  try (rw [← hW]; replace hW := hid hW)
  refine (hf.out _ hv0.out).mono ?_
  rintro e w1 ⟨rfl, hb1⟩
  have hB1 := hid (sn hb0.out hb1)
  have hx1 := hid ((hb1.block _ (lt_of_block hx0.out)).trans hx0.out)
  have hy1 := hid ((hb1.block _ (lt_of_block hy0.out)).trans hy0.out)
  have hz1 := hid ((hb1.block _ (lt_of_block hz0.out)).trans hz0.out)
  have hv1 := hid (hv0.out.below hb1)
  have hlt1 := lt_of_block hz1.out
  clear e0 e1 e2 hb1
  have e1 := block_cell hx1.out 1
  go_wp2_with fail
  refine (hcl0.out _ hv1.out).mono ?_
  rintro e w2 ⟨v2, rfl, ho2, hb2⟩
  have hB2 := hid (sn hB1.out hb2)
  have hx2 := hid ((hb2.block _ (lt_of_block hx1.out)).trans hx1.out)
  have hy2 := hid ((hb2.block _ (lt_of_block hy1.out)).trans hy1.out)
  have hz2 := hid ((hb2.block _ (lt_of_block hz1.out)).trans hz1.out)
  have hsz2 := hb2.size
  replace ho2 := hid ho2
  clear e1 hb2
  have hgs : (getL l n.path).isSome = false := by rw [hgn]; rfl
  · have hL := hid (hmiss.out hgn)

    clear hgn hmiss hhit hga hgs
    generalize belowN l n.path = q at *
    have hbx : Below w2.heap.size w2 (w2.alloc (.cells n.cells 28)) := (Below.refl _ _).alloc (Nat.le_refl _) _
    have ho3 := own_below ho2.out hbx
    have hins := hid (insert_mid v2 l n w2.heap.size w1.heap.size q (w2.alloc (.cells n.cells 28)) ho3 (heap_alloc_new _ _) (fun e => by have := (ho2.out.lt _ e).2; omega) hlt (by omega) (by simp; omega))
    have hB3 := hid (sn hB2.out hbx)
    have hx3 := hid ((hbx.block _ (lt_of_block hx2.out)).trans hx2.out)
    have hz3 := hid ((hbx.block _ (lt_of_block hz2.out)).trans hz2.out)
    have hown : ∀ k, v2.ownBlock = some k → w1.heap.size ≤ k := fun k hk => (ho2.out.lt k hk).1
    have hown := hid hown
    rw [nod_cells] at hins hx3 hz3 hB3 hy2
    clear hbx ho3
    go_wp2_with (refine wpList_load_row (by rfl) 28 (.tmp 3) (by rfl) (w.heap.size + 1) (by rfl) 28 _ (0, 0) _ hy2.out Tryz.underlying28 (by rfl) (by kernel_rfl) ?_)
    refine hins.out.mono ?_
    rintro e X ⟨vX, rfl, hoX, hfX, hgX, hbX⟩
    obtain ⟨L, hLL⟩ : ∃ L, L = l.take q ++ n :: l.drop q := ⟨_, rfl⟩
    rw [← hLL] at hoX hL
    replace hLL := hid hLL
    have hXN := hid hoX
    have hX0 := hid ((hgX _ (lt_of_block hx3.out) (fun e => by have := hown.out _ e; omega)).trans hx3.out)
    have hX2 := hid ((hgX _ (lt_of_block hz3.out) (fun e => by have := hown.out _ e; omega)).trans hz3.out)
    have hXB := hid (hB3.out.trans (hbX.mono (by omega)))
    have hXf := hid (show ∀ k, vX.ownBlock = some k → w.heap.size ≤ k from fun k hk => by have := hfX k hk; omega)
    have hXn := hid (show vX.ownBlock ≠ some (w.heap.size + 2) from fun e => by have := hfX _ e; omega)
    clear hoX hgX hins hfX hbX
    have q0 : X.cell? ⟨w.heap.size, 0, none⟩ = some (.int .u64 (x : Int)) := block_cell hX0.out 0
    have q0d : X.drew.cell? ⟨w.heap.size, 0, none⟩ = some (.int .u64 (x : Int)) := block_cell hX0.out 0
    have g0 : X.cell? ⟨w.heap.size + 1 + 1, 0, none⟩ = some (.int .u64 0) := block_cell hX2.out 0
    have g1 : X.cell? ⟨w.heap.size + 1 + 1, 1, none⟩ = some (.slice none 0 0) := block_cell hX2.out 1
    have f0 : X.frozen? ⟨w.heap.size + 1 + 1, 0, none⟩ = false := block_free hX2.out 0
    have f1 : X.frozen? ⟨w.heap.size + 1 + 1, 1, none⟩ = false := block_free hX2.out 1
    have ff0 : X.drew.frozen? ⟨w.heap.size + 1 + 1, 0, none⟩ = false := f0
    have ff1 : X.drew.frozen? ⟨w.heap.size + 1 + 1, 1, none⟩ = false := f1
    have gg0 : X.drew.cell? ⟨w.heap.size + 1 + 1, 0, none⟩ = some (.int .u64 0) := g0
    have gg1 : X.drew.cell? ⟨w.heap.size + 1 + 1, 1, none⟩ = some (.slice none 0 0) := g1
    obtain ⟨ax, cx, rfl, x1, x2⟩ := hXN.out.form
    have hzz := hid (block_set (block_set hX2.out 0 (.int .u64 (x : Int))) 1 (.slice ax L.length L.length))
    have hzB := hid (((hXB.out.setCell (p := ⟨w.heap.size + 1 + 1, 0, none⟩) (by show w.heap.size ≤ w.heap.size + 1 + 1; omega) (.int .u64 (x : Int))).setCell (p := ⟨w.heap.size + 1 + 1, 1, none⟩) (by show w.heap.size ≤ w.heap.size + 1 + 1; omega) (.slice ax L.length L.length)).drew)
    have hx9 : Hid (((X.setCell ⟨w.heap.size + 1 + 1, 0, none⟩ (.int .u64 (x : Int))).setCell ⟨w.heap.size + 1 + 1, 1, none⟩ (.slice ax L.length L.length)).drew.heap[w.heap.size]? = _) := hid ((block_set_other (by show w.heap.size ≠ w.heap.size + 1 + 1; omega)).trans ((block_set_other (by show w.heap.size ≠ w.heap.size + 1 + 1; omega)).trans hX0.out))
    have hNz := hid (NodsAt.below hXN.out.clip (show Below X.heap.size X X from Below.refl _ _))
    have hN9 : Hid (NodsAt ((X.setCell ⟨w.heap.size + 1 + 1, 0, none⟩ (.int .u64 (x : Int))).setCell ⟨w.heap.size + 1 + 1, 1, none⟩ (.slice ax L.length L.length)).drew (.slice ax L.length L.length) L) := hid (NodsAt.other hXN.out.clip (w.heap.size + 1 + 1) (by rw [ownBlock_cap ax _ _ L.length cx]; exact hXn.out) (by simp) fun k hk => (block_set_other (by show k ≠ _; exact hk)).trans (block_set_other (by show k ≠ _; exact hk)))
    have hcl := hid (fun W => nclip_eq ax L.length cx W x1 x2)
    replace hX0 := hid hX0.out
    go_wp2_with fail
    go_region_held3 (fun w' => w'.cell? ⟨w.heap.size, 0, none⟩ = some (.int .u64 (x : Int)))
      (first | exact q0d | exact block_cell hx9.out 0 | go_keep)
      ((go_at_call 34; (with_reducible refine (hcl.out _).mono ?_); rintro e wc ⟨rfl, rfl⟩))
    clear q0 q0d g0 g1 f0 f1 ff0 ff1 gg0 gg1
    all_goals
      go_wp2_with fail
      refine bodyPost_ret (results_cell_row rfl _ _ (w.heap.size + 1 + 1) _ _ _ _ rfl hzz.out Tryz.underlying25 rfl (by kernel_rfl)) rfl ?_
      exact ⟨_, rfl, by rw [hL.out]; exact hN9.out, fun k hk => hXf.out k (by rw [ownBlock_cap ax _ _ L.length L.length]; exact hk), hzB.out⟩
theorem nset_all (v : Value) (x : Nat) (l : List Nod) (n : Nod) (w : World) (hv : NodsAt w v l) (hs : SortL l) (hl : l.length ≤ 900) :
    Calls Tryz.prog 11 #[.agg #[.int .u64 (x : Int), v], .agg n.cells] w (SetPost w x (setL l n)) := by
  by_cases h1 : (getL l n.path).isSome = true
  · exact nset_any v x l n w hv hs hl (.inl h1)
  · by_cases h2 : belowN l n.path = l.length
    · exact nset_any v x l n w hv hs hl (.inr h2)
    · have h3 : belowN l n.path ≤ l.length := List.length_filter_le _ _
      exact nset_mid v x l n w hv hs hl (by simpa using h1) (by omega)
end
end Go.Proofs.YtpmlhmficmillaaGreat
