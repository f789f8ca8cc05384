/- The map of writes that may be lost: its keys are pairs (number, sector), numbered from 0 on. Conditions: sizes of the machine. And the texts behind it. -/
import Derived.Test.YtcmajcljafmphaaGreatKtA36
import Derived.Maps.Own
import Derived.Maps.OwnSet
import Derived.Maps.RangeWalk
import Derived.Sort.MapsRangeIn
import Derived.DeepKeys4
import Derived.RangeFuncNested
import Derived.RangeFuncBound
import Derived.RangeFuncCalls
import Derived.RangeFuncLeaves
import Derived.Shelf.Abstract
import Derived.Shelf.RegionOpen
import Derived.WalkKit
import Derived.OwnWalkIn
import Derived.TacticsInMore
import Derived.LoopNIn
import Derived.LoopIn
import Derived.RangeFuncBox
import Derived.Maps.AppendAt
import Derived.Maps.OwnIn
import Derived.Shelf.SlSortCmp.WholeK
import Derived.Ground.SlsfProg
import Derived.Ground.NamesProg
import Derived.Test.YtcmajcljafmphaaGreatProg
import Derived.Shelf.SlSortCmp.NoneTotal
namespace Go.Proofs.YtcmajcljafmphaaGreat
section
open Go.RowKit Go.Maps
set_option maxRecDepth 100000
set_option linter.unusedVariables false

def plc (x : Nat × Nat) : Value := .agg #[.int .i64 (x.1 : Int), .int .i64 (x.2 : Int)]
theorem plc_inj {x y : Nat × Nat} (h : plc x = plc y) : x = y := by
  unfold plc at h
  simp at h
  exact Prod.ext (by omega) (by omega)
theorem diskLaid : laidOutB Tryz.prog = true := by kernel_rfl
theorem plcLaw : Go.WideMaps.KeyLaw Tryz.prog 109 := deep_law_laid diskLaid (m := 2) (by omega) (of_decide_eq_true (by kernel_rfl)) (by kernel_rfl) (by rw [Tryz.underlying109])
theorem plcKeyed : Keyed Tryz.prog 109 := Keyed.of_law plcLaw
theorem lits_int (d : Nat) (n : Int) (h : (Lit.int .i64 n).wf = true) : Tryz.prog.keyLits (d + 1) 3 [.int .i64 n] = some [.int .i64 n] := by
  unfold Program.keyLits
  rw [Tryz.underlying3]
  exact if_pos ⟨rfl, h⟩
theorem plcCells : Tryz.prog.cellsOf 109 = 2 := by kernel_rfl
theorem intCells : Tryz.prog.cellsOf 3 = 1 := by kernel_rfl
theorem lits_plc (d : Nat) (a b : Int) (h1 : (Lit.int .i64 a).wf = true) (h2 : (Lit.int .i64 b).wf = true) : ∃ l, Tryz.prog.keyLits (d + 1 + 1) 109 [.int .i64 a, .int .i64 b] = some l := by
  unfold Program.keyLits
  rw [Tryz.underlying109]
  have hc := plcCells
  have hi := intCells
  have l1 := lits_int d a h1
  have l2 := lits_int d b h2
  generalize Tryz.prog = P at *
  simp only [List.length_cons, List.length_nil, hc]
  rw [if_pos ⟨trivial, by kernel_rfl⟩]
  simp only [List.mapM_cons, List.mapM_nil, hi, List.drop_zero, List.drop_succ_cons, List.take_succ_cons, List.take_zero, l1, l2]
  exact ⟨_, rfl⟩
theorem wf64 (x : Nat) (h : x < 1000000000) : (Lit.int .i64 (x : Int)).wf = true := by simp [Lit.wf, IntKind.min, IntKind.max, IntKind.bits, IntKind.signed]; omega
theorem plc_key (x : Nat × Nat) (h1 : x.1 < 1000000000) (h2 : x.2 < 1000000000) : ∃ kl, keyOf Tryz.prog 109 (plc x) = some kl := by
  have hk : Tryz.prog.keyType 109 = true := by kernel_rfl
  have hf : (plc x).formed Tryz.prog 109 = true := by
    unfold plc Value.formed
    simp only [Tryz.underlying109, plcCells]
    rfl
  obtain ⟨n, hn⟩ : ∃ n, Tryz.prog.types.size + 1 = n + 1 + 1 := ⟨Tryz.prog.types.size - 1, by have : 1 ≤ Tryz.prog.types.size := of_decide_eq_true (by kernel_rfl); omega⟩
  obtain ⟨l, hl⟩ := lits_plc n x.1 x.2 (wf64 _ h1) (wf64 _ h2)
  unfold keyOf
  rw [Tryz.underlying109, hn]
  simp only [hk, hf, Bool.and_self, if_true]
  rw [show (plc x).cells.toList = [.int .i64 (x.1 : Int), .int .i64 (x.2 : Int)] from rfl, hl]
  exact ⟨_, rfl⟩
noncomputable def plK (x : Nat × Nat) : Lit := (keyOf Tryz.prog 109 (plc x)).getD (.bool false)
theorem plK_ok (x : Nat × Nat) (h1 : x.1 < 1000000000) (h2 : x.2 < 1000000000) : keyOf Tryz.prog 109 (plc x) = some (plK x) := by
  obtain ⟨kl, h⟩ := plc_key x h1 h2
  unfold plK
  rw [h]; rfl
theorem plK_inj {x y : Nat × Nat} (h1 : x.1 < 1000000000) (h2 : x.2 < 1000000000) (h3 : y.1 < 1000000000) (h4 : y.2 < 1000000000) (h : plK x = plK y) : x = y :=
  plc_inj (plcKeyed.inj (plK_ok x h1 h2) (h ▸ plK_ok y h3 h4))
def slR (v : Value) : Option (DataW Value × List MemPlace) := some (.held v, [])
structure PMapAt (w : World) (m : Nat) (ps : List (Nat × Value)) : Prop where
  own : ∃ D, w.ownsMap Tryz.prog 109 slR m ps.length D ∧ Maps.size D = ps.length ∧ (∀ kl, Maps.has D kl = true → ∃ i, ∃ h : i < ps.length, kl = plK (i, ps[i].1)) ∧ ∀ i (h : i < ps.length), Maps.has D (plK (i, ps[i].1)) = true ∧ ∀ z, D.atKey (plK (i, ps[i].1)) z = .held ps[i].2
  lt : ps.length < 1000000
  sec : ∀ x ∈ ps, x.1 < 1000000
theorem PMapAt.made (w : World) : PMapAt (w.alloc (.map #[] 0)) w.heap.size [] :=
  ⟨⟨_, World.ownsMap_made w _ _ _, rfl, (fun kl h => by cases h), fun i h => absurd h (by simp)⟩, by decide, fun x h => by cases h⟩
theorem PMapAt.mem {w : World} {m : Nat} {ps : List (Nat × Value)} (h : PMapAt w m ps) : m < w.heap.size := by
  obtain ⟨D, hD, _⟩ := h.own
  exact hD.lt
theorem PMapAt.kept {w w' : World} {m : Nat} {ps : List (Nat × Value)} (h : PMapAt w m ps) (hk : w'.heap[m]? = w.heap[m]?) : PMapAt w' m ps := by
  obtain ⟨D, ⟨es, clock, hb, F', hs, hD⟩, h2⟩ := h.own
  exact ⟨⟨D, ⟨es, clock, hk.trans hb, F', hs, hD⟩, h2⟩, h.lt, h.sec⟩
theorem PMapAt.len {w : World} {m : Nat} {ps : List (Nat × Value)} (h : PMapAt w m ps) (ty : TypeId) : (Builtin.len_ #[58] ty #[.map (some m)]).run Tryz.prog w = .ok (.int .i64 (ps.length : Int)) w := by
  obtain ⟨D, hD, hs, _⟩ := h.own
  rw [hD.len Tryz.underlying58 ty, hs]
theorem zero_sl (w : World) : (zeroValue 53).run Tryz.prog w = .ok (.slice none 0 0) w := by kernel_rfl
theorem PMapAt.look {w : World} {m : Nat} {ps : List (Nat × Value)} (h : PMapAt w m ps) (i : Nat) (hi : i < ps.length) :
    (Instr.lookup 58 (.map (some m)) (.agg #[.int .i64 (i : Int), .int .i64 (ps[i].1 : Int)]) false).run Tryz.prog w = .ok ps[i].2 w := by
  obtain ⟨D, hD, hs, _, hat⟩ := h.own
  have h1 := h.lt
  have h2 := h.sec _ (List.getElem_mem hi)
  obtain ⟨v, q, hrun, hv⟩ := hD.lookup plcKeyed Tryz.underlying58 (zero_sl w) (zd := .held (.slice none 0 0)) (zp := []) rfl (plK_ok (i, ps[i].1) (by show i < _; omega) (by show ps[i].1 < _; omega))
  rw [(hat i hi).2] at hv
  cases hv
  exact hrun
theorem PMapAt.put {w : World} {m : Nat} {ps : List (Nat × Value)} (h : PMapAt w m ps) (s : Nat) (hs : s < 1000000) (v : Value) (hn : ps.length + 1 < 1000000) :
    ∃ w', (Instr.mapUpdate 58 (.map (some m)) (.agg #[.int .i64 (ps.length : Int), .int .i64 (s : Int)]) v).run Tryz.prog w = .ok () w' ∧ PMapAt w' m (ps ++ [(s, v)]) ∧ w.mapTurned w' m := by
  obtain ⟨D, hD, hsz, hhas, hat⟩ := h.own
  have hl := h.lt
  have hkey := plK_ok (ps.length, s) (by show ps.length < _; omega) (by show s < _; omega)
  obtain ⟨w', hrun, h1, h2⟩ := hD.store plcKeyed Tryz.underlying58 (by unfold maxLen; omega) hkey (show slR v = some (.held v, []) from rfl)
  have hne : ∀ i (hi : i < ps.length), plK (i, ps[i].1) ≠ plK (ps.length, s) := fun i hi e => by
    have h3 := h.sec _ (List.getElem_mem hi)
    have := plK_inj (x := (i, ps[i].1)) (y := (ps.length, s)) (by show i < _; omega) (by show ps[i].1 < _; omega) (by show ps.length < _; omega) (by show s < _; omega) e
    have := congrArg Prod.fst this
    simp at this
    omega
  have hno : Maps.has D (plK (ps.length, s)) = false := by
    cases e : Maps.has D (plK (ps.length, s)) with
    | false => rfl
    | true =>
      obtain ⟨i, hi, e2⟩ := hhas _ e
      exact absurd e2.symm (hne i hi)
  have hlit := plcKeyed.key hkey
  refine ⟨w', hrun, ⟨⟨_, by simpa using h1, ?_, fun kl hk => ?_, fun i hi => ?_⟩, by simpa using hn, fun x hx => ?_⟩, h2⟩
  · rw [Maps.size_put (hD.tidy plcKeyed), hno]
    simp [hsz]
  · by_cases e : kl = plK (ps.length, s)
    · exact ⟨ps.length, by simp, by simpa using e⟩
    · rw [Maps.has_put_other e] at hk
      obtain ⟨i, hi, e2⟩ := hhas _ hk
      exact ⟨i, by simp; omega, by rw [e2, List.getElem_append_left hi]⟩
  · by_cases e : i < ps.length
    · rw [List.getElem_append_left e]
      exact ⟨by rw [Maps.has_put_other (hne i e)]; exact (hat i e).1, fun z => by rw [Maps.atKey_put_other (hne i e)]; exact (hat i e).2 z⟩
    · obtain rfl : i = ps.length := by simp at hi; omega
      simp only [List.getElem_concat_length]
      exact ⟨Maps.has_put_same hD.isMap hlit _, fun z => Maps.atKey_put_same hD.isMap hlit _ z⟩
  · rcases List.mem_append.1 hx with hx | hx
    · exact h.sec x hx
    · obtain rfl := List.mem_singleton.1 hx
      exact hs
end
end Go.Proofs.YtcmajcljafmphaaGreat

namespace Go.Proofs.YtcmajcljafmphaaGreat
section
open Go.RowKit Go.Maps Go.Shelf
set_option maxRecDepth 100000
set_option linter.unusedVariables false
attribute [local go_sem] Oper.semAt_some

def places (ps : List (Nat × Value)) : List (Nat × Nat) := ps.zipIdx.map fun x => (x.2, x.1.1)
theorem places_len (ps : List (Nat × Value)) : (places ps).length = ps.length := by simp [places]
theorem places_get (ps : List (Nat × Value)) (i : Nat) (h : i < (places ps).length) : (places ps)[i] = (i, (ps[i]'(by simpa [places] using h)).1) := by simp [places]
theorem mem_places {ps : List (Nat × Value)} {x : Nat × Nat} : x ∈ places ps ↔ ∃ i, ∃ h : i < ps.length, x = (i, ps[i].1) := by
  constructor
  · intro h
    obtain ⟨i, hi, rfl⟩ := List.mem_iff_getElem.1 h
    exact ⟨i, by simpa [places] using hi, places_get ps i hi⟩
  · rintro ⟨i, hi, rfl⟩
    exact List.mem_iff_getElem.2 ⟨i, by simpa [places] using hi, places_get ps i _⟩
theorem places_nodup (ps : List (Nat × Value)) : (places ps).Nodup := by
  rw [List.nodup_iff_pairwise_ne, List.pairwise_iff_getElem]
  intro i j hi hj hlt e
  rw [places_get, places_get] at e
  have := congrArg Prod.fst e
  simp at this
  omega
def Come (ps : List (Nat × Value)) (left : Lit → Bool) (ss : List (Nat × Nat)) : Prop :=
  ss.Nodup ∧ (∀ x ∈ ss, x ∈ places ps) ∧ ∀ x ∈ places ps, left (plK x) = true ↔ x ∉ ss
theorem wpListIn_next_at {H : Type} {F : Fence} {n : Nat} {P : Program} (w : World) {ops : Array Oper} {rest : List Oper} {o : Oper} {a : Act} {Q : Exit → Act → World → Prop} {α : Type} (hg : o.guard = none) (it : Operand) (hop : o.op = Op.next it false) (k : TypeId) (K : Keyed P k) (R : Value → Option (DataW H × List MemPlace)) (mkK : α → Value) (b r nn : Nat) (D : DataW H) (left : Lit → Bool) (cnt : Nat)
    (invK : ∀ key kl, keyOf P k key = some kl → left kl = true → ∃ x, key = mkK x)
    (hit : a.eval it = .pointer (some ⟨r, 0, none⟩)) (h : w.ranges P k R b r nn D left cnt)
    (hDone : cnt = 0 → (∀ kl, left kl = false) → wpListIn F n P ops Q rest (a.put o.dst (.tuple #[.bool false])) w)
    (hMore : ∀ (x : α) (v : Value) (kl : Lit) (w' : World) (cnt' : Nat), keyOf P k (mkK x) = some kl → left kl = true → w'.ranges P k R b r nn D (fun z => left z && !z.sameKey kl) cnt' → cnt' < cnt →
      w.grownBy w' (some r) → w'.heap.size = w.heap.size → (Instr.entry (.pointer (some ⟨r, 0, none⟩))).run P w' = .ok (.tuple #[mkK x, v]) w' → wpListIn F n P ops Q rest (a.put o.dst (.tuple #[.bool true, mkK x, v])) w') :
    wpListIn F n P ops Q (o :: rest) a w := by
  refine wpListIn_plain hg fun K' hK' => ?_
  unfold Oper.wpIn
  refine ⟨by simp [Oper.about, hop], ?_⟩
  rw [Oper.semAt_plain F _ _ (by rw [hop]; intro c hc'; cases hc')]
  rcases h.next K o.type with ⟨h0, hl, hrun⟩ | ⟨key, v, kl, y, w', cnt', hkey, hlk, hv, hat, hrun, hrg, hlt, hgr, hsz, hen⟩
  · simp [execOp, hop, hit, hrun, Result.andThen]
    exact hK' _ _ (hDone h0 hl)
  · obtain ⟨x, rfl⟩ := invK key kl hkey hlk
    simp [execOp, hop, hit, hrun, Result.andThen]
    exact hK' _ _ (hMore x v kl w' cnt' hkey hlk hrg hlt hgr hsz hen)
theorem plc_key_inv {ps : List (Nat × Value)} {D : DataW Value} {key : Value} {kl : Lit} (hs : ∀ x ∈ ps, x.1 < 1000000) (hl : ps.length < 1000000) (hhas : ∀ kl, Maps.has D kl = true → ∃ i, ∃ h : i < ps.length, kl = plK (i, ps[i].1)) (hk : keyOf Tryz.prog 109 key = some kl) (h : Maps.has D kl = true) :
    ∃ x, x ∈ places ps ∧ key = plc x ∧ kl = plK x := by
  obtain ⟨i, hi, rfl⟩ := hhas kl h
  have h2 := hs _ (List.getElem_mem hi)
  exact ⟨(i, ps[i].1), mem_places.2 ⟨i, hi, rfl⟩, plcKeyed.inj hk (plK_ok _ (by show i < _; omega) (by show ps[i].1 < _; omega)), rfl⟩
theorem plK_places {ps : List (Nat × Value)} (hs : ∀ x ∈ ps, x.1 < 1000000) (hl : ps.length < 1000000) {x y : Nat × Nat} (hx : x ∈ places ps) (hy : y ∈ places ps) (h : plK x = plK y) : x = y := by
  obtain ⟨i, hi, rfl⟩ := mem_places.1 hx
  obtain ⟨j, hj, rfl⟩ := mem_places.1 hy
  have h1 := hs _ (List.getElem_mem hi)
  have h2 := hs _ (List.getElem_mem hj)
  exact plK_inj (by show i < _; omega) (by show ps[i].1 < _; omega) (by show j < _; omega) (by show ps[j].1 < _; omega) h
theorem Come.step {ps : List (Nat × Value)} (hs : ∀ x ∈ ps, x.1 < 1000000) (hl : ps.length < 1000000) {left : Lit → Bool} {ss : List (Nat × Nat)} (h : Come ps left ss) {x : Nat × Nat} (hx : x ∈ places ps) (hlx : left (plK x) = true) (hlit : WideAt.IsKeyLit (plK x)) : Come ps (fun z => left z && !z.sameKey (plK x)) (ss ++ [x]) := by
  obtain ⟨h1, h2, h3⟩ := h
  refine ⟨?_, fun y hy => ?_, fun y hy => ?_⟩
  · rw [List.nodup_append]
    exact ⟨h1, by simp, fun a ha b hb => by obtain rfl := List.mem_singleton.1 hb; rintro rfl; exact (h3 a hx).1 hlx ha⟩
  · rcases List.mem_append.1 hy with hy | hy
    · exact h2 y hy
    · obtain rfl := List.mem_singleton.1 hy; exact hx
  · simp only [Bool.and_eq_true, Bool.not_eq_true', List.mem_append, List.mem_singleton, not_or]
    rw [h3 y hy]
    refine and_congr_right fun _ => ?_
    constructor
    · rintro h rfl
      rw [WideAt.sameKey_self hlit] at h
      cases h
    · intro hne
      cases e : (plK y).sameKey (plK x) with
      | false => rfl
      | true => exact absurd (plK_places hs hl hy hx (WideAt.sameKey_eq e)) hne
theorem Come.all {ps : List (Nat × Value)} {left : Lit → Bool} {ss : List (Nat × Nat)} (h : Come ps left ss) (hn : ∀ kl, left kl = false) : ss.Perm (places ps) := by
  obtain ⟨h1, h2, h3⟩ := h
  refine (List.perm_ext_iff_of_nodup h1 (places_nodup ps)).2 fun x => ⟨h2 x, fun hx => ?_⟩
  by_cases e : x ∈ ss
  · exact e
  · have := (h3 x hx).2 e
    rw [hn] at this; cases this
set_option maxHeartbeats 1000000 in
theorem mapsKeys_in (F : Fence) (n : Nat) (hf : F.fn 86) (hro : F.round = none) (mb : Option Nat) (w : World) :
    CallsIn F n Tryz.prog 86 #[.map mb] w fun e w' => e = .returned (.func (.func 105) #[] #[.pointer (some ⟨w.heap.size, 0, none⟩)]) ∧ w' = w.alloc (.cells #[.map mb] 58) := by
  refine callsIn_of_wp Tryz.func86 rfl hf ?_ hro
  simp only [Tryz.ntmps86, List.size_toArray, List.length_cons, List.length_nil, Nat.reduceAdd, Nat.reduceSub, Array.replicate_succ, Array.replicate_zero, List.push_toArray, List.append_toArray, List.nil_append, List.cons_append]
  gi_wp2
  go_ret
  exact ⟨rfl, rfl⟩
set_option maxHeartbeats 2000000 in
theorem mapsKeys1_in (F : Fence) (n : Nat) (hf : F.fn 105) (hro : F.round = none) (hn : 1 ≤ n) (l Bm b : Nat) (ps : List (Nat × Value)) (J Jx : List (Nat × Nat) → World → Prop)
    (hY : ∀ pre x W, J pre W → pre.length < ps.length → YieldAt F (n - 1) Tryz.prog l #[plc x] W fun e W' =>
      (e = .returned (.bool true) ∧ J (pre ++ [x]) W' ∧ KeepsWalks W W') ∨ (e = .returned (.bool false) ∧ Jx (pre ++ [x]) W'))
    (W : World) (hJ : AbidesFrom W.heap.size J) (hm : W.cell? ⟨Bm, 0, none⟩ = some (.map (some b))) (hown : PMapAt W b ps) (h0 : J [] W) :
    CallsIn F n Tryz.prog 105 #[.func (.yield l) #[] #[], .pointer (some ⟨Bm, 0, none⟩)] W fun e W' => (∃ v, e = .returned v) ∧
      ((∃ ss : List (Nat × Nat), ss.Perm (places ps) ∧ J ss W') ∨ (∃ pre : List (Nat × Nat), True ∧ Jx pre W')) := by
  obtain ⟨D, hD, hsz, hhas, hat⟩ := hown.own
  have hl := hown.lt
  have hs := hown.sec
  refine callsIn_of_wp Tryz.func105 rfl hf ?_ hro
  simp only [Tryz.ntmps105, List.size_toArray, List.length_cons, List.length_nil, Nat.reduceAdd, Nat.reduceSub, Array.replicate_succ, Array.replicate_zero, List.push_toArray, List.append_toArray, List.nil_append, List.cons_append]
  gi_wp2_with (first
    | (gi_at_range; refine wpListIn_range_own _ rfl _ 58 rfl 109 53 plcKeyed Tryz.underlying58 slR b ps.length D rfl hD ?_; intro w0 hrg0 hg0 hs0)
    | gi_in)
  go_frame
  gi_loopw [3] (fun _ wr => ∃ (left : Lit → Bool) (cnt : Nat) (ss : List (Nat × Nat)), wr.ranges Tryz.prog 109 slR b W.heap.size ps.length D left cnt ∧ ss.length + cnt ≤ ps.length ∧ (∀ kl, left kl = true → Maps.has D kl = true) ∧ Come ps left ss ∧ W.heap.size ≤ wr.heap.size ∧ J ss wr)
    (fun _ wr => wr.rangeLeft b W.heap.size)
  case atStart =>
    refine ⟨_, _, [], hrg0, by rw [hsz]; simp, fun kl h => h, ⟨List.nodup_nil, (fun x h => by cases h), fun x hx => ?_⟩, hg0.size, hJ [] W w0 none h0 hg0 (fun r e => by cases e)⟩
    obtain ⟨i, hi, rfl⟩ := mem_places.1 hx
    simp [(hat i hi).1]
  case round =>
    obtain ⟨left, cnt, ss, hrg, hcs, hlh, hC, hz, hJs⟩ := hrel
    gi_wp2_with (first
      | (gi_at_next; refine wpListIn_next_at _ rfl _ rfl 109 plcKeyed slR (fun x : {x : Nat × Nat // x ∈ places ps} => plc x.1) b W.heap.size ps.length D left cnt (fun key kl hk hlk => by obtain ⟨x, hx, e, _⟩ := plc_key_inv hs hl hhas hk (hlh kl hlk); exact ⟨⟨x, hx⟩, e⟩) rfl hrg ?_ ?_)
      | gi_in)
    · intro hc0 hl0
      gi_wp2
      go_end0
      exact ⟨⟨_, rfl⟩, .inl ⟨ss, hC.all hl0, hJs⟩⟩
    · intro x1 x2 hx v kl w2 cnt2 hkey hlk hrg2 hlt hg2 hs2 hen
      obtain ⟨x', hx', e1, rfl⟩ := plc_key_inv hs hl hhas hkey (hlh kl hlk)
      obtain rfl := plc_inj e1
      have hJ2 : J ss w2 := hJ ss wr w2 (some W.heap.size) hJs hg2 (fun r e => by cases e; exact ⟨Nat.le_refl _, hrg.iter_walk⟩)
      have hJ3 : J ss (w2.alloc (.cells #[.int .i64 (x1 : Int), .int .i64 (x2 : Int)] 109)) := hJ ss w2 _ none hJ2 (World.grownBy_alloc w2 _ none) (fun r e => by cases e)
      have hrg3 := hrg2.alloc (.cells #[.int .i64 (x1 : Int), .int .i64 (x2 : Int)] 109)
      obtain ⟨fn, tmps, assign, body, hy, hR⟩ := hY ss (x1, x2) _ hJ3 (by omega)
      have hlit := plcKeyed.key hkey
      have hC2 := hC.step hs hl hx hlk hlit
      unfold plc at hy hen; dsimp only at hy hen
      have hz2 : W.heap.size ≤ w2.heap.size := by omega
      clear hs2
      gi_wp2
      refine hR.mono ?_
      rintro e W3 (⟨rfl, hJ3, hk3⟩ | ⟨rfl, hJx3⟩)
      · gi_wp2
        have hrg4 := hrg3.of_walks hk3
        go_roundw
        case rel => exact ⟨_, cnt2, ss ++ [(x1, x2)], hrg4, by simp; omega, fun kl h => hlh kl (by simp at h; exact h.1), hC2, by have := hk3.size; simp at this; omega, hJ3⟩
        case measure => rw [hrg4.left_eq, hrg.left_eq]; exact hlt
      · gi_wp2
        refine bodyPost_ret (results_none rfl _ _ _) rfl ?_
        exact ⟨⟨_, rfl⟩, .inr ⟨ss ++ [(x1, x2)], trivial, hJx3⟩⟩
theorem mapsKeys_stops (F : Fence) (n : Nat) (hf : F.fn 105) (hro : F.round = none) (hn : 1 ≤ n) (Bm b : Nat) (ps : List (Nat × Value)) (w : World) (hBm : Bm < w.heap.size)
    (hm : w.cell? ⟨Bm, 0, none⟩ = some (.map (some b))) (hown : PMapAt w b ps) :
    SeqStops F n Tryz.prog 105 #[.pointer (some ⟨Bm, 0, none⟩)] plc (fun ss => ss.Perm (places ps)) (fun _ => True) ps.length w := fun l J Jx W hW hJ _ hY h0 =>
  mapsKeys1_in F n hf hro hn l Bm b ps J Jx hY W hJ ((hW.cell (p := ⟨Bm, 0, none⟩) hBm).trans hm) (hown.kept (hW.block b hown.mem)) h0
end
end Go.Proofs.YtcmajcljafmphaaGreat

namespace Go.Proofs.YtcmajcljafmphaaGreat
section
open Go.RowKit Go.Maps Go.Shelf
set_option maxRecDepth 100000
set_option linter.unusedVariables false
attribute [local go_sem] Oper.semAt_some

def plcL (x : Nat × Nat) : List Value := [.int .i64 (x.1 : Int), .int .i64 (x.2 : Int)]
def plcs (ss : List (Nat × Nat)) : List Value := ss.flatMap plcL
theorem plcs_snoc (ss : List (Nat × Nat)) (x : Nat × Nat) : plcs (ss ++ [x]) = plcs ss ++ [.int .i64 (x.1 : Int), .int .i64 (x.2 : Int)] := by simp [plcs, plcL]
theorem infoP : (Tryz.prog.info? 109).map (fun i => (i.zero, i.size, i.bytes)) = some (some (.agg #[.int .i64 0, .int .i64 0]), 2, 16) := by kernel_rfl
theorem cell_two_new (w : World) (x y : Value) (t : TypeId) : ∀ j u, [x, y][j]? = some u → (w.alloc (.cells #[x, y] t)).cell? ((⟨w.heap.size, 0, none⟩ : Addr).add j) = some u := World.news_of_block (heap_alloc_new _ _)
theorem KeepsOthers.walks {W W' : World} (h : KeepsOthers W W') : KeepsWalks W W' := ⟨h.size, fun k o ho hw => h.same k o ho (by cases o <;> simp_all [Obj.isWalk, Obj.isCells])⟩
theorem row_kept2 {W W' : World} {row : Option Nat} {B : Nat} {cs : Array Value} {t : TypeId} (h : W.heap[B]? = some (.cells cs t (0, 0))) (hg : W.grownBy W' row) (hr : ∀ r, row = some r → ∃ o : Obj, W.heap[r]? = some o ∧ o.isCells = false) : W'.heap[B]? = some (.cells cs t (0, 0)) := by
  refine (hg.block B (Array.getElem?_eq_some_iff.1 h).1 (fun e => ?_)).trans h
  obtain ⟨o, h1, h2⟩ := hr B e.symm
  rw [h] at h1; cases h1; cases h2
set_option maxHeartbeats 2000000 in
theorem appendSeq_in (F : Fence) (n : Nat) (hf : F.fn 115) (hg : F.fn 105) (hro : F.round = none) (hn : 3 ≤ n) (Bm b : Nat) (ps : List (Nat × Value)) (w : World)
    (hBm : Bm < w.heap.size) (hm : w.cell? ⟨Bm, 0, none⟩ = some (.map (some b))) (hown : PMapAt w b ps) :
    CallsIn F n Tryz.prog 115 #[.slice none 0 0, .func (.func 105) #[] #[.pointer (some ⟨Bm, 0, none⟩)]] w fun e W' =>
      ∃ v ss, e = .returned v ∧ ss.Perm (places ps) ∧ W'.ownsRow w.heap.size 109 2 v ss.length (plcs ss) ∧ Below w.heap.size w W' := by
  have h1 : 1 ≤ n := by omega
  have hpl := hown.lt
  obtain ⟨i0, hi, hz0, hz1, hz2⟩ := info_parts infoP
  refine callsIn_of_wp_marks Tryz.func115 rfl hf ?_ hro
  simp only [Tryz.ntmps115, List.size_toArray, List.length_cons, List.length_nil, Nat.reduceAdd, Nat.reduceSub, Array.replicate_succ, Array.replicate_zero, List.push_toArray, List.append_toArray, List.nil_append, List.cons_append]
  gi_wp2
  have bO := Boxed.new w 106 (.slice none 0 0)
  have hB0 : Below w.heap.size w (w.alloc (.cells #[.slice none 0 0] 106)) := (Below.refl _ w).alloc (Nat.le_refl _) _
  refine wpIn_rangeFunc_ownH hro h1 (gf := 105) (lb := #[.pointer (some ⟨Bm, 0, none⟩)]) rfl hg (enters_of Tryz.func105 (by kernel_rfl) rfl) (encs := fun x => #[plc x]) (Kp := KeepsWalks)
    (mapsKeys_stops F (n - 1) hg hro (by omega) Bm b ps _ (by simp; omega) ((Below.refl _ w).alloc (Nat.le_refl _) _ |>.cell (p := ⟨Bm, 0, none⟩) hBm |>.trans hm) (hown.kept (((Below.refl _ w).alloc (Nat.le_refl _) _).block _ hown.mem))) walksK_t walksK_b (Below.refl _ _) (fun _ => rfl)
    (fun pre W => (∃ v, Boxed W w.heap.size 106 v ∧ W.ownsRow w.heap.size 109 2 v pre.length (plcs pre) ∧ True) ∧ Below w.heap.size w W)
    (fun _ _ _ => False)
    (OwnFrom.and (Own.from (holdsRow_own w.heap.size w.heap.size 106 109 2 (fun pre : List (Nat × Nat) => pre.length) (fun pre => plcs pre) (fun _ _ => True)) _) (ownFrom_below (Nat.le_refl _) (by simp)))
    (fun _ _ _ _ _ hs _ _ => hs)
    ⟨⟨_, bO, World.ownsRow_nil _ _ _ _, trivial⟩, hB0⟩
    (fun x a' W => ∃ Bx, w.heap.size < Bx ∧ W.heap[Bx]? = some (.cells #[.int .i64 (x.1 : Int), .int .i64 (x.2 : Int)] 109 (0, 0)) ∧ a' = { tmps := #[.slice none 0 0, .func (.func 105) #[] #[.pointer (some ⟨Bm, 0, none⟩)], .pointer (some ⟨w.heap.size, 0, none⟩), undef, .slice none 0 0, .pointer (some ⟨Bx, 0, none⟩), .func (.func 105) #[] #[.pointer (some ⟨Bm, 0, none⟩)], .agg #[.int .i64 (x.1 : Int), .int .i64 (x.2 : Int)], undef, undef, undef, undef, undef], defers := [] })
    (fun x a' _ X Y row hs hg hr => by obtain ⟨Bx, h1, h2, h3⟩ := hs; exact ⟨Bx, h1, row_kept2 h2 hg (fun r e => (hr r e).2), h3⟩)
    ?assign ?body ?done ?stop
  case assign =>
    rintro l pre ⟨x1, x2⟩ W K ⟨⟨v, bv, hrow, _⟩, hB⟩ hK
    unfold plc
    gi_wp2
    exact hK _ _ ((KeepsOthers.alloc _ _).from _) (KeepsOthers.alloc _ _).walks ⟨⟨v, bv.alloc _, hrow.alloc _, trivial⟩, hB.alloc hB.size _⟩ ⟨W.heap.size, bv.lt, heap_alloc_new _ _, rfl⟩
  case body =>
    rintro l pre ⟨x1, x2⟩ a' W hl ⟨r, hr⟩ ⟨⟨v, bv, hrow, _⟩, hB⟩ ⟨Bx, hBx, bX, rfl⟩ hlt
    have hc := bv.cell
    have hx1 : W.cell? ⟨Bx, 0, none⟩ = some (.int .i64 (x1 : Int)) := by simp [World.cell?, bX]
    have hx2 : W.cell? ⟨Bx, 1, none⟩ = some (.int .i64 (x2 : Int)) := by simp [World.cell?, bX]
    gi_wp2_with (gi_at_builtin; refine wpListIn_append_own _ rfl _ _ 106 rfl w.heap.size 109 i0 (.agg #[.int .i64 0, .int .i64 0]) 2 16 Tryz.underlying106 hi hz0 hz1 hz2 rfl (by decide) _ _ _ rfl (hrow.alloc _) ⟨W.heap.size, 0, none⟩ 1 1 [.int .i64 (x1 : Int), .int .i64 (x2 : Int)] rfl rfl (cell_two_new _ _ _ _) (by simp [Value.oneCell']) (by unfold maxLen; omega) (by omega) (by have := hB.size; simp; omega) ?_; intro v' w1 hown' hgrow _; obtain ⟨g', cap', rfl⟩ := ownsRow_succ hown'; obtain ⟨hv1, hv2, hr2, hk2, hb2⟩ := bv.appended (by decide) hrow hB.size (Nat.le_refl _) hown' hgrow; have hc1 := hv1.cell; have hf1 := hv1.frozen)
    exact ⟨hk2.from _, hk2.walks, ⟨_, hv2, by rw [plcs_snoc, show (pre ++ [(x1, x2)]).length = pre.length + 1 by simp]; exact hr2⟩, hB.trans hb2⟩
  case done =>
    rintro D ys W hD hperm ⟨⟨v, bv, hrow, _⟩, hB⟩ hK
    have hc := bv.cell
    replace hperm := hid hperm
    gi_wp2
    refine ⟨by simp, .inl ⟨_, _, rfl, run_takeDeferred hK, ?_⟩⟩
    exact ⟨_, results_tmp rfl _ _ _, v, ys, rfl, hperm.out, ownsRow_putObj hrow _ hK rfl, hB.trans (belowK_b (w := w) (Nat.le_refl _) W D _ _ (by simp at hD; omega) hK rfl rfl)⟩
  case stop =>
    rintro D c pre W _ _ h _
    exact h.elim
end
end Go.Proofs.YtcmajcljafmphaaGreat

namespace Go.Proofs
section
open Go.Shelf
def Tryz.sortP_ren : Go.Shelf.Ren := ⟨fun | 6 => 104 | 15 => 117 | 14 => 116 | 28 => 132 | 29 => 133 | 20 => 124 | 21 => 125 | 22 => 126 | 23 => 127 | 24 => 128 | 25 => 129 | 26 => 130 | 27 => 131 | 46 => 136 | 47 => 137 | 48 => 138 | 49 => 139 | 50 => 140 | 57 => 145 | n => n, fun | 22 => 106 | 24 => 109 | 25 => 134 | 3 => 3 | 39 => 157 | 0 => 0 | 53 => 35 | 55 => 30 | 4 => 4 | 46 => 164 | 45 => 163 | 50 => 142 | 5 => 5 | 9 => 9 | 66 => 173 | 70 => 177 | 76 => 180 | 77 => 91 | n => n, fun | n => n⟩
theorem Tryz.sortP : Go.Proofs.SlLaysF0.n6 Tryz.prog Tryz.sortP_ren := {
  mixed := by kernel_rfl
  f6 := ⟨Tryz.f104.name, by decide, Tryz.func104.trans (congrArg some (by kernel_rfl))⟩
  f14 := ⟨Tryz.f116.name, by decide, Tryz.func116.trans (congrArg some (by kernel_rfl))⟩
  f15 := Tryz.func117.trans (congrArg some (by kernel_rfl))
  f20 := ⟨Tryz.f124.name, by decide, Tryz.func124.trans (congrArg some (by kernel_rfl))⟩
  f21 := ⟨Tryz.f125.name, by decide, Tryz.func125.trans (congrArg some (by kernel_rfl))⟩
  f22 := ⟨Tryz.f126.name, by decide, Tryz.func126.trans (congrArg some (by kernel_rfl))⟩
  f23 := ⟨Tryz.f127.name, by decide, Tryz.func127.trans (congrArg some (by kernel_rfl))⟩
  f24 := ⟨Tryz.f128.name, by decide, Tryz.func128.trans (congrArg some (by kernel_rfl))⟩
  f25 := ⟨Tryz.f129.name, by decide, Tryz.func129.trans (congrArg some (by kernel_rfl))⟩
  f26 := ⟨Tryz.f130.name, by decide, Tryz.func130.trans (congrArg some (by kernel_rfl))⟩
  f27 := ⟨Tryz.f131.name, by decide, Tryz.func131.trans (congrArg some (by kernel_rfl))⟩
  f28 := Tryz.func132.trans (congrArg some (by kernel_rfl))
  f29 := Tryz.func133.trans (congrArg some (by kernel_rfl))
  f46 := ⟨Tryz.f136.name, by decide, Tryz.func136.trans (congrArg some (by kernel_rfl))⟩
  f47 := Tryz.func137.trans (congrArg some (by kernel_rfl))
  f48 := Tryz.func138.trans (congrArg some (by kernel_rfl))
  f49 := ⟨Tryz.f139.name, by decide, Tryz.func139.trans (congrArg some (by kernel_rfl))⟩
  f50 := ⟨Tryz.f140.name, by decide, Tryz.func140.trans (congrArg some (by kernel_rfl))⟩
  f57 := ⟨Tryz.f145.name, by decide, Tryz.func145.trans (congrArg some (by kernel_rfl))⟩
  t0 := Tryz.underlying0
  a0 := Tryz.isAgg0
  z0 := Tryz.sizeOf0
  v0 := Tryz.zeroValue0
  t3 := Tryz.underlying3
  a3 := Tryz.isAgg3
  z3 := Tryz.sizeOf3
  v3 := Tryz.zeroValue3
  t4 := Tryz.underlying4
  a4 := Tryz.isAgg4
  z4 := Tryz.sizeOf4
  v4 := Tryz.zeroValue4
  t5 := Tryz.underlying5
  a5 := Tryz.isAgg5
  z5 := Tryz.sizeOf5
  v5 := Tryz.zeroValue5
  t9 := Tryz.underlying9
  a9 := Tryz.isAgg9
  z9 := Tryz.sizeOf9
  v9 := Tryz.zeroValue9
  t22 := Tryz.underlying106
  a22 := Tryz.isAgg106
  z22 := Tryz.sizeOf106
  v22 := Tryz.zeroValue106
  t25 := Tryz.underlying134
  a25 := Tryz.isAgg134
  z25 := Tryz.sizeOf134
  v25 := Tryz.zeroValue134
  t39 := Tryz.underlying157
  a39 := Tryz.isAgg157
  z39 := Tryz.sizeOf157
  v39 := Tryz.zeroValue157
  t45 := Tryz.underlying163
  a45 := Tryz.isAgg163
  z45 := Tryz.sizeOf163
  v45 := Tryz.zeroValue163
  t46 := Tryz.underlying164
  a46 := Tryz.isAgg164
  z46 := Tryz.sizeOf164
  v46 := Tryz.zeroValue164
  t50 := Tryz.underlying142
  a50 := Tryz.isAgg142
  z50 := Tryz.sizeOf142
  v50 := Tryz.zeroValue142
  t53 := Tryz.underlying35
  a53 := Tryz.isAgg35
  z53 := Tryz.sizeOf35
  v53 := Tryz.zeroValue35
  t55 := Tryz.underlying30
  a55 := Tryz.isAgg30
  z55 := Tryz.sizeOf30
  v55 := Tryz.zeroValue30
  t66 := Tryz.underlying173
  a66 := Tryz.isAgg173
  z66 := Tryz.sizeOf173
  v66 := Tryz.zeroValue173
  t70 := Tryz.underlying177
  a70 := Tryz.isAgg177
  z70 := Tryz.sizeOf177
  v70 := Tryz.zeroValue177
  t76 := Tryz.underlying180
  a76 := Tryz.isAgg180
  z76 := Tryz.sizeOf180
  v76 := Tryz.zeroValue180
  t77 := Tryz.underlying91
  a77 := Tryz.isAgg91
  z77 := Tryz.sizeOf91
  v77 := Tryz.zeroValue91 }
end
end Go.Proofs

namespace Go.Proofs.YtcmajcljafmphaaGreat
section
open Go.RowKit Go.Maps Go.Shelf
set_option maxRecDepth 100000
set_option linter.unusedVariables false

abbrev PB := { x : Nat × Nat // x.1 < 1000000 }
instance : Inhabited PB := ⟨⟨(0, 0), by decide⟩⟩
def encP (x : PB) : List Value := plcL x.1
def cfP (x y : PB) : Int := (x.1.1 : Int) - (y.1.1 : Int)
theorem ltP (x y : PB) : ltOf cfP x y = decide (x.1.1 < y.1.1) := by
  unfold ltOf cfP
  by_cases h : x.1.1 < y.1.1
  · rw [decide_eq_true h, decide_eq_true (by omega)]
  · rw [decide_eq_false h, decide_eq_false (by omega)]
theorem swoP : Go.Sort.SWO (ltOf cfP) where
  irrefl x := by rw [ltP]; simp
  trans x y z h1 h2 := by rw [ltP] at *; simp at *; omega
  ntrans x y z h1 h2 := by rw [ltP] at *; simp at *; omega
theorem plcs_get : ∀ (ss : List (Nat × Nat)) (t : Nat), t < ss.length * 2 → (plcs ss)[t]? = (plcL (ss.getD (t / 2) (0, 0)))[t % 2]?
  | [], t, h => absurd h (by simp)
  | x :: ss, 0, _ => rfl
  | x :: ss, 1, _ => rfl
  | x :: ss, t + 2, h => by
    have h2 := plcs_get ss t (by simp only [List.length_cons] at h; omega)
    rw [show (t + 2) / 2 = t / 2 + 1 by omega, show (t + 2) % 2 = t % 2 by omega, List.getD_cons_succ, ← h2]
    rfl
theorem plcs_len (ss : List (Nat × Nat)) : (plcs ss).length = ss.length * 2 := by
  induction ss with
  | nil => rfl
  | cons x ss ih => show ([_, _] ++ plcs ss).length = _; simp [ih]; omega
theorem flat_plcs (d : Array PB) (t : Nat) (h : t < d.size * 2) : (plcs (d.toList.map (·.1)))[t]? = some (Go.Sort.flatK encP 2 d)[t]! := by
  rw [plcs_get _ _ (by simpa using h), Go.Sort.get_flatK _ _ _ _ h]
  have hlt : t / 2 < d.size := by omega
  rw [getElem!_pos d _ hlt]
  have e : (d.toList.map (·.1)).getD (t / 2) (0, 0) = d[t / 2].1 := by
    rw [List.getD_eq_getElem?_getD, List.getElem?_eq_getElem (by simpa using hlt)]; simp
  rw [e]
  unfold encP plcL
  rcases Nat.mod_two_eq_zero_or_one t with h2 | h2 <;> rw [h2] <;> rfl
theorem lift_PB : ∀ ss : List (Nat × Nat), (∀ x ∈ ss, x.1 < 1000000) → ∃ dl : List PB, dl.map (·.1) = ss
  | [], _ => ⟨[], rfl⟩
  | x :: ss, h => by
    obtain ⟨dl, hd⟩ := lift_PB ss (fun y hy => h y (List.mem_cons_of_mem _ hy))
    exact ⟨⟨x, h x (List.mem_cons_self ..)⟩ :: dl, by simp [hd]⟩
theorem holds_of_own {w : World} {base g n cap : Nat} {ss : List (Nat × Nat)} {T : TypeId} (h : w.ownsRow base T 2 (.slice (some ⟨g, 0, none⟩) n cap) n (plcs ss)) {d : Array PB} (hd : d.toList.map (·.1) = ss) (hn : n = d.size) : Go.Sort.HoldsK encP 2 w g 0 d := by
  rcases h.2 with ⟨h1, _⟩ | ⟨g', cap', cur, hv, hb, hg, h1, h2, h3, h4⟩
  · cases h1
  · cases hv
    intro j hj
    have hj2 : j < d.size * 2 := by simpa using hj
    have hf := flat_plcs d j hj2
    rw [hd, ← h4, List.getElem?_take, if_pos (by omega)] at hf
    rw [Nat.zero_add]
    refine ⟨?_, block_free hg _⟩
    rw [block_cell hg]
    simpa using hf
theorem sortedHeap {w : World} {g n k : Nat} {d : Array PB} {os : Array Obj} (hk : k ≠ g) (hlt : k < w.heap.size) : (sortWorldK encP 2 w g 0 n d os).heap[k]? = w.heap[k]? := by
  unfold sortWorldK Go.Sort.grow Go.Sort.putRowK Go.Sort.putRow Go.Sort.mapBlock Go.Sort.ahead
  simp only
  rw [Array.getElem?_append_left (by simpa using hlt), Array.getElem?_modify, if_neg (fun e => hk e.symm)]
theorem sortedBelow {w : World} {base g n : Nat} {d : Array PB} {os : Array Obj} (hg : base ≤ g) (hb : base ≤ w.heap.size) : Below base w (sortWorldK encP 2 w g 0 n d os) :=
  ⟨rfl, rfl, rfl, by apply size_sortWorldK_c, fun k hk => sortedHeap (by omega) (by omega)⟩
theorem perm_places {ps : List (Nat × Value)} {l : List (Nat × Nat)} (hp : l.Perm (places ps)) (hs : l.Pairwise (fun x y => x.1 ≤ y.1)) : l = places ps := by
  refine List.Perm.eq_of_pairwise (le := fun x y : Nat × Nat => x.1 ≤ y.1) (fun a b ha hb h1 h2 => ?_) hs ?_ hp
  · obtain ⟨i, hi, rfl⟩ := mem_places.1 (hp.mem_iff.1 ha)
    obtain ⟨j, hj, rfl⟩ := mem_places.1 hb
    have : i = j := Nat.le_antisymm h1 h2
    subst this; rfl
  · rw [List.pairwise_iff_getElem]
    intro i j hi hj hlt
    rw [places_get, places_get]
    exact Nat.le_of_lt hlt
theorem sorted_places {ps : List (Nat × Value)} {d d' : Array PB} (hd : (d.toList.map (·.1)).Perm (places ps)) (hp : Go.Sort.PermIn 0 d.size d d') (hs : Go.Sort.SortedIn (ltOf cfP) 0 d.size d') : d'.toList.map (·.1) = places ps := by
  obtain ⟨h1, _, h3⟩ := hp
  have e1 : d'.extract 0 d.size = d' := by rw [← h1]; simp
  have e2 : d.extract 0 d.size = d := by simp
  rw [e1, e2] at h3
  refine perm_places ((h3.map _).trans hd) ?_
  rw [List.pairwise_iff_getElem]
  intro i j hi hj hlt
  simp only [List.length_map, Array.length_toList] at hi hj
  have := hs i j (Nat.zero_le _) hlt (by omega)
  rw [getElem!_pos d' _ hj, getElem!_pos d' _ hi, ltP] at this
  simp at this ⊢
  omega
theorem rowCmp_any (x y : PB) (W : World) : Calls Tryz.prog 87 #[.agg #[.int .i64 (x.1.1 : Int), .int .i64 (x.1.2 : Int)], .agg #[.int .i64 (y.1.1 : Int), .int .i64 (y.1.2 : Int)]] W fun e w' => e = .returned (.int .i64 (cfP x y)) ∧ ∃ q os', w' = Go.Sort.grow (W.drewN q) os' := by
  have h1 := x.2
  have h2 := y.2
  unfold cfP
  generalize x.1.1 = a at *
  generalize y.1.1 = b at *
  have hw : IntKind.i64.wrap ((a : Int) - (b : Int)) = (a : Int) - (b : Int) := IntWalk.i64_in _ (by omega)
  go_enter Tryz.func87, Tryz.ntmps87
  go_wp2
  go_ret
  exact ⟨rfl, 0, _, by rw [Go.Sort.alloc_eq_grow, Go.Sort.alloc_eq_grow, Go.Sort.grow_grow]; rfl⟩
def PlacesAt (w : World) (v : Value) (ss : List (Nat × Nat)) : Prop := RowAt w 2 v ss.length (plcs ss)
set_option maxHeartbeats 1000000 in
theorem sortFunc_any (ps : List (Nat × Value)) (ss : List (Nat × Nat)) (v : Value) (base : Nat) (w : World) (hl : ps.length < 1000000) (hp : ss.Perm (places ps)) (h : w.ownsRow base 109 2 v ss.length (plcs ss)) (hb : base ≤ w.heap.size) (hne : ps ≠ []) :
    Calls Tryz.prog 104 #[v, .func (.func 87) #[] #[]] w fun e w' => e = .returned (.tuple #[]) ∧ PlacesAt w' v (places ps) ∧ Below base w w' := by
  have hlen : ss.length = ps.length := by rw [hp.length_eq, places_len]
  have hpos : 0 < ps.length := List.length_pos_iff.2 hne
  obtain ⟨dl, hd⟩ := lift_PB ss (fun x hx => by obtain ⟨i, hi, rfl⟩ := mem_places.1 (hp.mem_iff.1 hx); show i < _; omega)
  have hds : dl.length = ss.length := by rw [← hd]; simp
  have h' := h
  rcases h.2 with ⟨rfl, h0⟩ | ⟨g, cap, cur, rfl, hbg, hg, h1, h2, h3, h4⟩
  · omega
  · have hH := holds_of_own (d := dl.toArray) h' (by simpa using hd) (by simp [hds])
    have hgl : g < w.heap.size := (Array.getElem?_eq_some_iff.1 hg).1
    have eg : ∀ args w, (callFunc 87 args).run Tryz.prog w = .ok (.enter 87 args) w := enters_of Tryz.func87 (by kernel_rfl) rfl
    have hcon := AnyQ.slices_SortFunc Tryz.sortP 2 Tryz.isAgg109 Tryz.sizeOf109 encP (fun _ => rfl) (fun x v hv => by simp [encP, plcL] at hv; rcases hv with rfl | rfl <;> rfl) cfP swoP 87 #[] g 0 cap dl.toArray w eg (fun _ _ _ _ x y => rowCmp_any x y _) hH hgl (by simp; omega)
    change Calls Tryz.prog 104 _ _ _ at hcon
    rw [show dl.toArray.size = ss.length by simpa using hds] at hcon
    refine hcon.mono ?_
    rintro e w' ⟨rfl, d', n, os, hperm, hsorted, rfl⟩
    rw [← show dl.toArray.size = ss.length by simpa using hds] at hperm hsorted
    have hd' := sorted_places (ps := ps) (by simpa [hd] using hp) hperm hsorted
    have hsz : d'.size = ps.length := by have := congrArg List.length hd'; simpa [places_len] using this
    have hH2 := holdsK_sortWorldK_c (d := dl.toArray) (dk := d') (m := n) (os := os) (hH := hH) (hblk := hgl) (hs := by rw [hsz, ← hlen, ← hds]; simp)
    have hz : w.heap.size ≤ (sortWorldK encP 2 w g 0 n d' os).heap.size := by apply size_sortWorldK_c
    refine ⟨rfl, ⟨by rw [plcs_len], some ⟨g, 0, none⟩, cap, by rw [places_len, hlen], by rw [places_len]; omega, h2, (fun e => by cases e), (fun ad e => by cases e; exact ⟨rfl, Nat.lt_of_lt_of_le hgl hz⟩), fun i u hu => ⟨g, 0, rfl, ?_⟩⟩, sortedBelow hbg hb⟩
    · have hi : i < (plcs (places ps)).length := by
        rcases Nat.lt_or_ge i (plcs (places ps)).length with h | h
        · exact h
        · rw [List.getElem?_eq_none h] at hu; cases hu
      rw [plcs_len, places_len] at hi
      have hf := flat_plcs d' i (by omega)
      rw [hd', hu] at hf
      rw [(hH2 i (by simp; omega)).1]
      exact hf.symm
end
end Go.Proofs.YtcmajcljafmphaaGreat

namespace Go.Proofs.YtcmajcljafmphaaGreat
section
open Go.RowKit Go.Maps Go.Shelf
set_option maxRecDepth 100000
set_option linter.unusedVariables false

theorem keys_any (mb : Option Nat) (w : World) : Calls Tryz.prog 86 #[.map mb] w fun e w' => e = .returned (.func (.func 105) #[] #[.pointer (some ⟨w.heap.size, 0, none⟩)]) ∧ w' = w.alloc (.cells #[.map mb] 58) :=
  callsIn_wide.1 (mapsKeys_in Fence.wide 3 trivial rfl mb w)
def Gathered (ps : List (Nat × Value)) (w : World) (e : Ending) (w' : World) : Prop :=
  ∃ v ss, e = .returned v ∧ ss.Perm (places ps) ∧ w'.ownsRow w.heap.size 109 2 v ss.length (plcs ss) ∧ Below w.heap.size w w'
theorem appendSeq_any (Bm b : Nat) (ps : List (Nat × Value)) (w : World) (hBm : Bm < w.heap.size) (hm : w.cell? ⟨Bm, 0, none⟩ = some (.map (some b))) (hown : PMapAt w b ps) :
    Calls Tryz.prog 115 #[.slice none 0 0, .func (.func 105) #[] #[.pointer (some ⟨Bm, 0, none⟩)]] w (Gathered ps w) :=
  callsIn_wide.1 (appendSeq_in Fence.wide 3 trivial trivial rfl (Nat.le_refl _) Bm b ps w hBm hm hown)
theorem collect_any (Bm b : Nat) (ps : List (Nat × Value)) (w : World) (hBm : Bm < w.heap.size) (hm : w.cell? ⟨Bm, 0, none⟩ = some (.map (some b))) (hown : PMapAt w b ps) :
    Calls Tryz.prog 103 #[.func (.func 105) #[] #[.pointer (some ⟨Bm, 0, none⟩)]] w (Gathered ps w) := by
  have hc := appendSeq_any Bm b ps w hBm hm hown
  go_enter Tryz.func103, Tryz.ntmps103
  go_wp2_with (go_at_call 115; refine hc.mono ?_; rintro e w' ⟨v, ss, rfl, h1, h2, h3⟩; replace h1 := hid h1)
  go_ret
  exact ⟨v, ss, rfl, h1.out, h2, h3⟩
def Rowed (ps : List (Nat × Value)) (w : World) (e : Ending) (w' : World) : Prop := ∃ v, e = .returned v ∧ PlacesAt w' v (places ps) ∧ Below w.heap.size w w' ∧ ∀ j, v.ownBlock = some j → w.heap.size ≤ j
theorem sort_any (ps : List (Nat × Value)) (ss : List (Nat × Nat)) (v : Value) (base : Nat) (w : World) (hl : ps.length < 1000000) (hp : ss.Perm (places ps)) (h : w.ownsRow base 109 2 v ss.length (plcs ss)) (hb : base ≤ w.heap.size) :
    Calls Tryz.prog 104 #[v, .func (.func 87) #[] #[]] w fun e w' => e = .returned (.tuple #[]) ∧ PlacesAt w' v (places ps) ∧ Below base w w' := by
  by_cases hne : ps = []
  · subst hne
    obtain rfl : ss = [] := hp.eq_nil
    obtain ⟨a, c, rfl⟩ := own_form h
    have hcon := AnyF.slices_SortFunc_none Tryz.sortP a c (.func (.func 87) #[] #[]) w
    change Calls Tryz.prog 104 _ _ _ at hcon
    refine hcon.mono ?_
    rintro e w' ⟨rfl, rfl⟩
    exact ⟨rfl, RowAt.of_own h, Below.refl _ _⟩
  · exact sortFunc_any ps ss v base w hl hp h hb hne
set_option maxHeartbeats 1000000 in
theorem sortedFunc_any (Bm b : Nat) (ps : List (Nat × Value)) (w : World) (hBm : Bm < w.heap.size) (hm : w.cell? ⟨Bm, 0, none⟩ = some (.map (some b))) (hown : PMapAt w b ps) :
    Calls Tryz.prog 85 #[.func (.func 105) #[] #[.pointer (some ⟨Bm, 0, none⟩)], .func (.func 87) #[] #[]] w (Rowed ps w) := by
  have hc := collect_any Bm b ps w hBm hm hown
  have hl := hown.lt
  replace hm := hid hm
  go_enter Tryz.func85, Tryz.ntmps85
  go_wp2_with (first
    | (go_at_call 103; refine hc.mono ?_; rintro e w1 ⟨v, ss, rfl, h1, h2, h3⟩; have hs := sort_any ps ss v w.heap.size w1 hl h1 h2 h3.size; have h9 := hid (fun j (hj : v.ownBlock = some j) => (h2.lt j hj).1); replace h1 := hid h1; clear h2)
    | (go_at_call 104; refine hs.mono ?_; rintro e w2 ⟨rfl, h4, h5⟩))
  go_ret
  exact ⟨v, rfl, h4, h3.trans h5, h9.out⟩
set_option maxHeartbeats 1000000 in
theorem drow_any (d m : Nat) (ps : List (Nat × Value)) (w : World) (hd : w.cell? ⟨d, 2, none⟩ = some (.map (some m))) (hm : PMapAt w m ps) : Calls Tryz.prog 64 #[.pointer (some ⟨d, 0, none⟩)] w (Rowed ps w) := by
  have hk := keys_any (some m) w
  have hc := sortedFunc_any w.heap.size m ps (w.alloc (.cells #[.map (some m)] 58)) (by simp) (by simp) (hm.kept (((Below.refl _ w).alloc (Nat.le_refl _) _).block _ hm.mem))
  have hB : Below w.heap.size w (w.alloc (.cells #[.map (some m)] 58)) := (Below.refl _ w).alloc (Nat.le_refl _) _
  go_enter Tryz.func64, Tryz.ntmps64
  go_wp2_with (first
    | (go_at_call 86; refine hk.mono ?_; rintro e w1 ⟨rfl, rfl⟩)
    | (go_at_call 85; refine hc.mono ?_; rintro e w2 ⟨v, rfl, h4, h5, h6⟩; replace h6 := hid h6))
  go_ret
  exact ⟨v, rfl, h4, hB.trans (h5.mono hB.size), fun j hj => by have := h6.out j hj; simp at this; omega⟩
end
end Go.Proofs.YtcmajcljafmphaaGreat

namespace Go.Proofs.YtcmajcljafmphaaGreat
section
open Go.RowKit Go.Maps
set_option maxRecDepth 100000
set_option linter.unusedVariables false

theorem RowAt.lt {w : World} {k n j : Nat} {v : Value} {xs : List Value} (h : RowAt w k v n xs) (hj : v.ownBlock = some j) : j < w.heap.size := by
  obtain ⟨_, a, c, rfl, _, _, _, h5, _⟩ := h
  cases a with
  | none => cases hj
  | some ad => cases hj; exact (h5 ad rfl).2
structure DskV where
  size : Nat
  kept : List (List UInt8)
  pend : List (Nat × List UInt8)
  off : Bool
  armed : Bool
  left : Int
  keep : List Bool
  writes : Nat
def FarB (zs : List Nat) (u : Value) : Prop := ∀ j, u.ownBlock = some j → j ∉ zs
theorem FarB.sub {zs zs' : List Nat} {u : Value} (h : FarB zs u) (hs : ∀ j ∈ zs', j ∈ zs) : FarB zs' u := fun j hj hm => h j hj (hs j hm)
def dCells (s : DskV) (kv : Value) (m : Nat) (bv : Value) : Array Value := #[.int .i64 (s.size : Int), kv, .map (some m), .bool s.off, .bool s.armed, .int .i64 s.left, bv, .int .i64 (s.writes : Int)]
structure DSt (w : World) (zs : List Nat) (d g m cap : Nat) (us : List Value) (ps : List (Nat × Value)) (bv : Value) (s : DskV) : Prop where
  dg : d ≠ g
  dm : d ≠ m
  gm : g ≠ m
  far : ∀ z ∈ zs, z ≠ d ∧ z ≠ g ∧ z ≠ m ∧ z < w.heap.size
  blk : w.heap[d]? = some (.cells (dCells s (.slice (some ⟨g, 0, none⟩) s.kept.length cap) m bv) 61 (0, 0))
  own : w.ownsRow 0 53 1 (.slice (some ⟨g, 0, none⟩) s.kept.length cap) s.kept.length us
  klen : us.length = s.kept.length
  kept : ∀ i (h : i < s.kept.length), BytesAt w (us.getD i undef) s.kept[i]
  kfar : ∀ u ∈ us, FarB (d :: g :: m :: zs) u
  map : PMapAt w m ps
  plen : ps.length = s.pend.length
  pend : ∀ i (h : i < s.pend.length), (ps.getD i (0, undef)).1 = s.pend[i].1 ∧ BytesAt w (ps.getD i (0, undef)).2 s.pend[i].2
  pfar : ∀ x ∈ ps, FarB (d :: g :: m :: zs) x.2
  bools : RowAt w 1 bv s.keep.length (s.keep.map .bool)
  bfar : FarB (d :: g :: m :: zs) bv
theorem getD_mem {α : Type} {l : List α} {i : Nat} {x : α} (h : i < l.length) : l.getD i x ∈ l := by
  rw [List.getD_eq_getElem?_getD, List.getElem?_eq_getElem h]; exact List.getElem_mem h
theorem DSt.move {w w' : World} {zs : List Nat} {d g m cap : Nat} {us : List Value} {ps : List (Nat × Value)} {bv : Value} {s s' : DskV} (h : DSt w zs d g m cap us ps bv s) (hs : w.heap.size ≤ w'.heap.size)
    (hk : ∀ j, j < w.heap.size → j ∉ d :: g :: m :: zs → w'.heap[j]? = w.heap[j]?)
    (blk : w'.heap[d]? = some (.cells (dCells s' (.slice (some ⟨g, 0, none⟩) s.kept.length cap) m bv) 61 (0, 0)))
    (hg : w'.heap[g]? = w.heap[g]?) (hm : w'.heap[m]? = w.heap[m]?) (e1 : s'.kept = s.kept) (e2 : s'.pend = s.pend) (e3 : s'.keep = s.keep) : DSt w' zs d g m cap us ps bv s' := by
  obtain ⟨n, k, p, o, a, l, kp, wr⟩ := s'
  subst e1 e2 e3
  refine ⟨h.dg, h.dm, h.gm, fun z hz => ?_, blk, own_keep h.own (fun j hj => by cases hj; exact hg), h.klen, fun i hi => ?_, h.kfar, h.map.kept hm, h.plen, fun i hi => ⟨(h.pend i hi).1, ?_⟩, h.pfar, ?_, h.bfar⟩
  · have := h.far z hz; exact ⟨this.1, this.2.1, this.2.2.1, by omega⟩
  · exact RowAt.other (h.kept i hi) hs (fun j hj => hk j ((h.kept i hi).lt hj) (h.kfar _ (getD_mem (by rw [h.klen]; exact hi)) j hj))
  · exact RowAt.other (h.pend i hi).2 hs (fun j hj => hk j ((h.pend i hi).2.lt hj) (h.pfar _ (getD_mem (by rw [h.plen]; exact hi)) j hj))
  · exact RowAt.other h.bools hs (fun j hj => hk j (h.bools.lt hj) (h.bfar j hj))
theorem DSt.below {w w' : World} {zs : List Nat} {d g m cap : Nat} {us : List Value} {ps : List (Nat × Value)} {bv : Value} {s : DskV} (h : DSt w zs d g m cap us ps bv s) (hb : Below w.heap.size w w') : DSt w' zs d g m cap us ps bv s :=
  h.move hb.size (fun j hj _ => hb.block j hj) ((hb.block d (lt_of_block h.blk)).trans h.blk) (hb.block g (h.own.lt g rfl).2) (hb.block m h.map.mem) rfl rfl rfl
theorem DSt.others {w w' : World} {zs : List Nat} {d g m cap : Nat} {us : List Value} {ps : List (Nat × Value)} {bv : Value} {s : DskV} (h : DSt w zs d g m cap us ps bv s) (hs : w.heap.size ≤ w'.heap.size) (hk : ∀ j, j < w.heap.size → j ∉ zs → w'.heap[j]? = w.heap[j]?) : DSt w' zs d g m cap us ps bv s := by
  have hd : d ∉ zs := fun e => (h.far d e).1 rfl
  have hg : g ∉ zs := fun e => (h.far g e).2.1 rfl
  have hm : m ∉ zs := fun e => (h.far m e).2.2.1 rfl
  exact h.move hs (fun j hj hn => hk j hj (fun e => hn (by simp [e]))) ((hk d (lt_of_block h.blk) hd).trans h.blk) (hk g (h.own.lt g rfl).2 hg) (hk m h.map.mem hm) rfl rfl rfl
theorem DSt.new {w w' : World} {zs : List Nat} {d g m cap z : Nat} {us : List Value} {ps : List (Nat × Value)} {bv : Value} {s : DskV} (h : DSt w zs d g m cap us ps bv s) (hb : Below w.heap.size w w') (hz : w.heap.size ≤ z) (hz2 : z < w'.heap.size) : DSt w' (z :: zs) d g m cap us ps bv s := by
  have h1 := lt_of_block h.blk
  have h2 := (h.own.lt g rfl).2
  have h3 := h.map.mem
  have hf : ∀ u : Value, (∀ j, u.ownBlock = some j → j < w.heap.size) → FarB (d :: g :: m :: zs) u → FarB (d :: g :: m :: z :: zs) u := fun u hl hu j hj hm => by
    have := hl j hj
    have h4 := hu j hj
    simp only [List.mem_cons, not_or] at hm h4
    rcases hm with e | e | e | e | e
    · exact h4.1 e
    · exact h4.2.1 e
    · exact h4.2.2.1 e
    · omega
    · exact h4.2.2.2 e
  have k := h.below hb
  refine ⟨k.dg, k.dm, k.gm, fun y hy => ?_, k.blk, k.own, k.klen, k.kept, fun u hu => hf u (fun j hj => ?_) (h.kfar u hu), k.map, k.plen, k.pend, fun x hx => hf _ (fun j hj => ?_) (h.pfar x hx), k.bools, hf _ (fun j hj => h.bools.lt hj) h.bfar⟩
  · rcases List.mem_cons.1 hy with rfl | hy
    · exact ⟨by omega, by omega, by omega, hz2⟩
    · exact k.far y hy
  · obtain ⟨i, hi, rfl⟩ := List.mem_iff_getElem.1 hu
    have := h.kept i (by rw [← h.klen]; exact hi)
    rw [List.getD_eq_getElem?_getD, List.getElem?_eq_getElem hi] at this
    exact this.lt hj
  · obtain ⟨i, hi, rfl⟩ := List.mem_iff_getElem.1 hx
    have := (h.pend i (by rw [← h.plen]; exact hi)).2
    rw [List.getD_eq_getElem?_getD, List.getElem?_eq_getElem hi] at this
    exact this.lt hj
structure DStep (d g m : Nat) (w w' : World) : Prop where
  below : ∀ B, B ≤ d → B ≤ g → B ≤ m → B ≤ w.heap.size → Below B w w'
  block : ∀ k, k < w.heap.size → k ≠ d → k ≠ g → k ≠ m → w'.heap[k]? = w.heap[k]?
  size : w.heap.size ≤ w'.heap.size
theorem DStep.refl (d g m : Nat) (w : World) : DStep d g m w w := ⟨fun _ _ _ _ _ => Below.refl _ _, fun _ _ _ _ _ => rfl, Nat.le_refl _⟩
theorem DStep.pure {d g m : Nat} {w w' : World} (h : Below w.heap.size w w') : DStep d g m w w' := ⟨fun B _ _ _ h3 => h.mono h3, fun k hk _ _ _ => h.block k hk, h.size⟩
theorem DStep.cell {d g m i : Nat} {w : World} (u : Value) : DStep d g m w (w.setCell ⟨d, i, none⟩ u) :=
  ⟨fun B h1 _ _ _ => (Below.refl B w).setCell h1 u, fun k _ h1 _ _ => block_set_other h1, by simp [World.setCell]⟩
theorem DStep.cellg {d g m i : Nat} {w : World} (u : Value) : DStep d g m w (w.setCell ⟨g, i, none⟩ u) :=
  ⟨fun B _ h1 _ _ => (Below.refl B w).setCell h1 u, fun k _ _ h1 _ => block_set_other h1, by simp [World.setCell]⟩
theorem DStep.turned {d g m : Nat} {w w' : World} (h : w.mapTurned w' m) : DStep d g m w w' :=
  ⟨fun B _ _ h2 h3 => (Below.refl B w).grown h.grown h3 (fun j hj => by cases hj; exact h2), fun k hk _ _ h2 => h.grown.block k hk (fun e => h2 (by injection e)), h.grown.size⟩
theorem DStep.trans {d g m m' : Nat} {w w1 w2 : World} (h : DStep d g m w w1) (hm : m' = m ∨ w.heap.size ≤ m') (k : DStep d g m' w1 w2) : DStep d g m w w2 :=
  ⟨fun B h1 h2 h3 h4 => (h.below B h1 h2 h3 h4).trans (k.below B h1 h2 (by omega) (Nat.le_trans h4 h.size)), fun j hj h1 h2 h3 => (k.block j (Nat.lt_of_lt_of_le hj h.size) h1 h2 (by omega)).trans (h.block j hj h1 h2 h3), Nat.le_trans h.size k.size⟩
end
end Go.Proofs.YtcmajcljafmphaaGreat
