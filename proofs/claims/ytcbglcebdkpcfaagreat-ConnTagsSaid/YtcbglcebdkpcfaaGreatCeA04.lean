/- Frames: a row of byte slices; slices.Grow from nil, slices.Concat; frame.Wrap, New, Dead. Conditions: sizes of the machine. And the texts behind it. -/
import Derived.Test.YtcbglcebdkpcfaaGreatCeA03
import Derived.Test.YtcbglcebdkpcfaaGreatCeA02
import Derived.Lib.AppendZerosOnto
import Derived.Lib.SliceRun
import Derived.Deep.MidRow
import Derived.Test.YtcbglcebdkpcfaaGreatCeA01
namespace Go.Proofs.YtcbglcebdkpcfaaGreat
section
open Go.RowKit
set_option maxRecDepth 100000
set_option linter.unusedVariables false

def FramesAt (w : World) (v : Value) (ls : List (List UInt8)) : Prop := ∃ vs : List Value, vs.length = ls.length ∧ RowAt w 1 v ls.length vs ∧ ∀ i (h : i < ls.length), BytesAt w (vs.getD i undef) ls[i]
theorem FramesAt.below {w w' : World} {v : Value} {ls : List (List UInt8)} (h : FramesAt w v ls) (hb : Below w.heap.size w w') : FramesAt w' v ls := by
  obtain ⟨vs, h1, h2, h3⟩ := h
  exact ⟨vs, h1, h2.below hb, fun i hi => (h3 i hi).below hb⟩
theorem FramesAt.form {w : World} {v : Value} {ls : List (List UInt8)} (h : FramesAt w v ls) : ∃ a c, v = .slice a ls.length c ∧ ls.length ≤ c ∧ c ≤ maxLen := by
  obtain ⟨vs, _, ⟨_, a, c, hv, h1, h2, _⟩, _⟩ := h
  exact ⟨a, c, hv, h1, h2⟩
theorem FramesAt.nil {w : World} : FramesAt w (.slice none 0 0) [] := ⟨[], rfl, RowAt.nil, fun i h => absurd h (by simp)⟩
theorem FramesAt.cell {w : World} {a : Option Addr} {n c : Nat} {ls : List (List UInt8)} (h : FramesAt w (.slice a n c) ls) (i : Nat) (hi : i < ls.length) : ∃ b o u, a = some ⟨b, o, none⟩ ∧ w.cell? ⟨b, o + i, none⟩ = some u ∧ BytesAt w u ls[i] := by
  obtain ⟨vs, h1, h2, h3⟩ := h
  obtain ⟨_, a', c', hv, _, _, _, _, h4⟩ := h2
  cases hv
  have hlt : i < vs.length := by omega
  obtain ⟨b, o, ha, hc⟩ := h4 i vs[i] (List.getElem?_eq_getElem hlt)
  refine ⟨b, o, vs[i], ha, hc, ?_⟩
  have := h3 i hi
  rwa [List.getD_eq_getElem?_getD, List.getElem?_eq_getElem hlt] at this
theorem infoB : (Tryz.prog.info? 29).map (fun i => (i.zero, i.size, i.bytes)) = some (some (.slice none 0 0), 1, 24) := by kernel_rfl
theorem elemB : ElemOk Tryz.prog 26 29 1 24 := elemOk_of Tryz.underlying26 infoB rfl (by omega)
structure FrV (w : World) (base : Nat) (v : Value) (ls : List (List UInt8)) (vs : List Value) : Prop where
  len : vs.length = ls.length
  own : w.ownsRow base 29 1 v ls.length vs
  rows : ∀ i (h : i < ls.length), BytesAt w (vs.getD i undef) ls[i]
  apart : ∀ u ∈ vs, ∀ j, u.ownBlock = some j → base ≤ j ∧ v.ownBlock ≠ some j
def OwnFr (w : World) (base : Nat) (v : Value) (ls : List (List UInt8)) : Prop := ∃ vs, FrV w base v ls vs
theorem OwnFr.at {w : World} {base : Nat} {v : Value} {ls : List (List UInt8)} (h : OwnFr w base v ls) : FramesAt w v ls := by
  obtain ⟨vs, h⟩ := h
  exact ⟨vs, h.len, RowAt.of_own h.own, h.rows⟩
theorem OwnFr.form {w : World} {base : Nat} {v : Value} {ls : List (List UInt8)} (h : OwnFr w base v ls) : ∃ a c, v = .slice a ls.length c := by
  obtain ⟨vs, h⟩ := h
  exact own_form h.own
theorem OwnFr.nil (w : World) (base : Nat) : OwnFr w base (.slice none 0 0) [] := ⟨[], rfl, World.ownsRow_nil _ _ _ _, fun i h => absurd h (by simp), fun u hu => by cases hu⟩
theorem mem_getD {vs : List Value} {i : Nat} (h : i < vs.length) : vs.getD i undef ∈ vs := by
  rw [List.getD_eq_getElem?_getD, List.getElem?_eq_getElem h]; exact List.getElem_mem h
theorem FrV.kept {w w' : World} {base : Nat} {v : Value} {ls : List (List UInt8)} {vs : List Value} (h : FrV w base v ls vs) (hs : w.heap.size ≤ w'.heap.size) (hb : ∀ j, base ≤ j → j < w.heap.size → w'.heap[j]? = w.heap[j]?) : FrV w' base v ls vs :=
  ⟨h.len, own_keep h.own (fun j hj => hb j (h.own.lt j hj).1 (h.own.lt j hj).2), fun i hi => RowAt.other (h.rows i hi) hs (fun j hj => hb j (h.apart _ (mem_getD (by have := h.len; omega)) j hj).1 ((h.rows i hi).lt hj)), h.apart⟩
theorem OwnFr.kept {w w' : World} {base : Nat} {v : Value} {ls : List (List UInt8)} (h : OwnFr w base v ls) (hs : w.heap.size ≤ w'.heap.size) (hb : ∀ j, base ≤ j → j < w.heap.size → w'.heap[j]? = w.heap[j]?) : OwnFr w' base v ls :=
  h.elim fun vs h => ⟨vs, h.kept hs hb⟩
theorem OwnFr.below {w w' : World} {base : Nat} {v : Value} {ls : List (List UInt8)} (h : OwnFr w base v ls) (hb : Below w.heap.size w w') : OwnFr w' base v ls := h.kept hb.size (fun j _ hj => hb.block j hj)
theorem FrV.push {w W w' : World} {base g cap : Nat} {v u : Value} {ls : List (List UInt8)} {l : List UInt8} {vs : List Value} (h : FrV w base v ls vs) (hu : BytesAt w u l) (hf : ∀ j, u.ownBlock = some j → base ≤ j ∧ v.ownBlock ≠ some j) (hb : Below w.heap.size w W) (hg : W.grownBy w' v.ownBlock)
    (h2 : w'.ownsRow base 29 1 (.slice (some ⟨g, 0, none⟩) (ls.length + 1) cap) (ls.length + 1) (vs ++ [u])) (hl : v.ownBlock = some g ∨ g = W.heap.size) : FrV w' base (.slice (some ⟨g, 0, none⟩) (ls.length + 1) cap) (ls ++ [l]) (vs ++ [u]) := by
  have hz := hb.size
  have hz2 := hg.size
  have hkeep : ∀ j, j < w.heap.size → v.ownBlock ≠ some j → w'.heap[j]? = w.heap[j]? := fun j hj hn => (hg.block j (Nat.lt_of_lt_of_le hj hz) (fun e => hn e.symm)).trans (hb.block j hj)
  have hap : ∀ x : Value, (∀ j, x.ownBlock = some j → j < w.heap.size) → (∀ j, x.ownBlock = some j → base ≤ j ∧ v.ownBlock ≠ some j) → ∀ j, x.ownBlock = some j → base ≤ j ∧ (Value.slice (some ⟨g, 0, none⟩) (ls.length + 1) cap).ownBlock ≠ some j := fun x h1 h2 j hj => by
    refine ⟨(h2 j hj).1, fun e => ?_⟩
    have e2 : g = j := by simpa [Value.ownBlock] using e
    subst e2
    rcases hl with hl | hl
    · exact (h2 g hj).2 hl
    · have := h1 g hj; omega
  refine ⟨by simp [h.len], by simpa using h2, fun i hi => ?_, fun x hx => ?_⟩
  · by_cases e : i < ls.length
    · have e1 : (vs ++ [u]).getD i undef = vs.getD i undef := by
        rw [List.getD_eq_getElem?_getD, List.getElem?_append_left (by rw [h.len]; omega), ← List.getD_eq_getElem?_getD]
      have e2 : (ls ++ [l])[i] = ls[i] := List.getElem_append_left e
      rw [e1, e2]
      exact RowAt.other (h.rows i e) (by omega) (fun j hj => hkeep j ((h.rows i e).lt hj) (h.apart _ (mem_getD (by rw [h.len]; omega)) j hj).2)
    · have hi2 : i = ls.length := by simp at hi; omega
      subst hi2
      have e1 : (vs ++ [u]).getD ls.length undef = u := by
        rw [← h.len, List.getD_eq_getElem?_getD, List.getElem?_append_right (Nat.le_refl _)]; simp
      have e2 : (ls ++ [l])[ls.length] = l := by simp
      rw [e1, e2]
      exact RowAt.other hu (by omega) (fun j hj => hkeep j (hu.lt hj) (hf j hj).2)
  · rcases List.mem_append.1 hx with hx | hx
    · refine hap x (fun j hj => ?_) (h.apart x hx)
      obtain ⟨i, hi, rfl⟩ := List.mem_iff_getElem.1 hx
      have hr := h.rows i (by rw [← h.len]; omega)
      rw [List.getD_eq_getElem?_getD, List.getElem?_eq_getElem hi] at hr
      exact hr.lt hj
    · obtain rfl := List.mem_singleton.1 hx
      exact hap x (fun j hj => hu.lt hj) hf
structure Pushed (base : Nat) (v v' : Value) (w w' : World) : Prop where
  size : w.heap.size ≤ w'.heap.size
  keep : ∀ j, j < w.heap.size → v.ownBlock ≠ some j → w'.heap[j]? = w.heap[j]?
  apart : ∀ j, j < w.heap.size → v.ownBlock ≠ some j → v'.ownBlock ≠ some j
  below : Below base w w'
theorem wpList_push {ops : Array Oper} {rest : List Oper} {o : Oper} {a : Act} {Q : Exit → Act → World → Prop} (hgd : o.guard = none) (s x : Operand)
    (ho : o.op = .call { callee := .builtin .append, args := #[s, x], argTypes := #[26, 26] }) {w : World} {base : Nat} {v : Value} {ls : List (List UInt8)} {vs : List Value} (hs : a.eval s = v) (h : FrV w base v ls vs)
    {u : Value} {l : List UInt8} (hu : BytesAt w u l) (hf : ∀ j, u.ownBlock = some j → base ≤ j ∧ v.ownBlock ≠ some j) (h1 : u.oneCell' = true) (hx : a.eval x = .slice (some ⟨w.heap.size, 0, none⟩) 1 1) (hbase : base ≤ w.heap.size) (hn : ls.length ≤ 1000000000)
    (hk : ∀ g c w', FrV w' base (.slice (some ⟨g, 0, none⟩) (ls.length + 1) c) (ls ++ [l]) (vs ++ [u]) → Pushed base v (.slice (some ⟨g, 0, none⟩) (ls.length + 1) c) w w' → wpList Tryz.prog ops Q rest (a.put o.dst (.slice (some ⟨g, 0, none⟩) (ls.length + 1) c)) w') :
    wpList Tryz.prog ops Q (o :: rest) a (w.alloc (.cells #[u] 29)) := by
  obtain ⟨i0, z0, hi, hz, hsz, hby, hzs⟩ := elemB.hi
  have hb : Below w.heap.size w (w.alloc (.cells #[u] 29)) := (Below.refl _ _).alloc (Nat.le_refl _) _
  have hlt := fun j (hj : v.ownBlock = some j) => h.own.lt j hj
  refine wpList_append_lies (P := Tryz.prog) _ hgd s x 26 ho base 29 i0 z0 1 24 elemB.ht hi hz hsz hby hzs (by decide) v ls.length vs hs (own_keep h.own (fun j hj => heap_alloc_old _ _ (hlt j hj).2)) ⟨w.heap.size, 0, none⟩ 1 1 [u] hx rfl (World.news_of_block (heap_alloc_new _ _)) (fun y hy => by rw [List.mem_singleton] at hy; subst hy; exact h1) (by omega) (by unfold maxLen; omega) (by omega) (by simp; omega) _ rfl (fun g c w' h2 h3 h4 h5 => ?_)
  have hz := hb.size
  refine hk g c w' (h.push hu hf hb h3 h2 h4) ⟨by have := h3.size; omega, fun j hj hn => (h3.block j (Nat.lt_of_lt_of_le hj hz) (fun e => hn e.symm)).trans (hb.block j hj), fun j hj hn e => ?_, (hb.mono hbase).grown h3 (by omega) (fun j hj => (hlt j hj).1)⟩
  have e2 : g = j := by simpa [Value.ownBlock] using e
  subst e2
  rcases h4 with h4 | h4
  · exact hn h4
  · omega
theorem Pushed.bytes {w w' : World} {base : Nat} {v v' u : Value} {l : List UInt8} (p : Pushed base v v' w w') (h : BytesAt w u l) (ha : ∀ j, u.ownBlock = some j → v.ownBlock ≠ some j) : BytesAt w' u l :=
  RowAt.other h p.size (fun j hj => p.keep j (h.lt hj) (ha j hj))
theorem fwp_append_run (w : World) {ops : Array Oper} {rest : List Oper} {o : Oper} {a : Act} {Q : Exit → Act → World → Prop} {P : Program} (hgd : o.guard = none) (d s : Operand) (t t' : TypeId)
    (ho : o.op = .call { callee := .builtin .append, args := #[d, s], argTypes := #[t, t'] }) (v u : Value) (hd : a.eval d = v) (hs : a.eval s = u) {v' : Value} {w' : World}
    (hr : (Builtin.append_ #[t, t'] o.type #[v, u]).run P w = .ok v' w') (h : wpList P ops Q rest (a.put o.dst v') w') : wpList P ops Q (o :: rest) a w :=
  wpList_plain hgd fun _ hK => by
    unfold Oper.wp execOp
    simp only [ho, resolve, invoke, builtin, Sem.run_bind, Sem.run_pure, Result.andThen_ok, List.map_toArray, List.map_cons, List.map_nil, hd, hs, hr]
    exact hK _ _ h
theorem fra_zc (cs : Array Value) (k : Nat) : (Builtin.zeroCells cs k).size = k * cs.size := by
  unfold Builtin.zeroCells
  simp
set_option maxHeartbeats 800000 in
theorem grow_any (n : Nat) (w : World) (hn : n ≤ 1000000000) :
    Calls Tryz.prog 53 #[.slice none 0 0, .int .i64 (n : Int)] w fun e w' => ∃ a c, e = .returned (.slice a 0 c) ∧ w'.ownsRow w.heap.size 5 1 (.slice a 0 c) 0 [] ∧ Below w.heap.size w w' := by
  have h1 : ¬ ((n : Int) < 0) := by omega
  by_cases h0 : n = 0
  · subst h0
    go_enter Tryz.func53, Tryz.ntmps53
    go_wp2
    go_ret
    exact ⟨none, 0, rfl, World.ownsRow_nil _ _ _ _, Below.refl _ _⟩
  · obtain ⟨i0, hi, hz0, hz1, hz2⟩ := info_parts infoU8
    have hold : (Builtin.firstCells i0.size 0 (.slice none 0 0)).run Tryz.prog w.drew = .ok ([] : List Value).toArray w.drew := run_firstCells_none w.drew i0.size 0 0 0
    have hrz := fun ty => Lib.run_append_grow_zeros w 29 3 ty 5 i0 (.int .u8 0) .i64 .i64 Tryz.underlying29 Tryz.underlying3 hi hz0 none 0 0 [] hold n (by omega) (by omega) (by omega) (by omega) (by rw [hz2]; omega) (by rw [hz2]; simp only [Nat.zero_add]; exact Nat.le_trans (Nat.mul_le_mul_right 1 (show Builtin.nextslicecap n 0 ≤ 281474976710656 from by unfold Builtin.nextslicecap; simp; split <;> omega)) (by omega))
    simp only [Nat.zero_add] at hrz
    have hw1 : IntKind.i64.wrap (n : Int) = (n : Int) := IntWalk.i64_in _ (by omega)
    have hp : (0 : Int) < (n : Int) := by omega
    have hG1 : n ≤ grownCap w n 0 5 := grownCap_ge w n 0 _
    have hG2 : grownCap w n 0 5 ≤ maxLen := grownCap_le_maxLen w n 0 5 (by unfold maxLen; omega)
    generalize grownCap w n 0 5 = G at *
    have hcs : (([] : List Value).toArray ++ Builtin.zeroCells (Value.int .u8 0).cells n ++ Builtin.zeroCells (Value.int .u8 0).cells (G - n)).size = G * 1 := by
      have z1 := fra_zc #[Value.int .u8 0] n
      have z2 := fra_zc #[Value.int .u8 0] (G - n)
      have e1 : (#[Value.int .u8 0]).size = 1 := rfl
      rw [e1] at z1 z2
      rw [show (Value.int .u8 0).cells = #[Value.int .u8 0] from rfl]
      simp only [Array.size_append, List.size_toArray, List.length_nil, z1, z2]
      omega
    generalize (([] : List Value).toArray ++ Builtin.zeroCells (Value.int .u8 0).cells n ++ Builtin.zeroCells (Value.int .u8 0).cells (G - n)) = ROW at *
    have hown := World.ownsRow_made (base := w.heap.size) (e := 5) (size := 1) w.drew ROW G (Nat.le_refl _) hG2 hcs
    have hB : Below w.heap.size w (w.drew.alloc (.cells ROW 5)) := ((Below.refl _ _).drew).alloc (by exact Nat.le_refl _) _
    replace hown := hid hown
    replace hB := hid hB
    replace hcs := hid hcs
    have hG3 : (0 : Int) ≤ (G : Int) := by omega
    unfold maxLen at hG2
    go_enter Tryz.func53, Tryz.ntmps53
    go_wp2_with (at_builtin; refine fwp_append_run _ rfl _ _ _ _ rfl _ _ rfl rfl (hrz _) ?_)
    go_ret
    exact ⟨_, _, rfl, hown.out, hB.out⟩
set_option maxHeartbeats 1600000 in
theorem concat_any (v : Value) (ls : List (List UInt8)) (w : World) (hv : FramesAt w v ls) (hl : ls.flatten.length ≤ 1000000000) (hn : ls.length ≤ 1000) :
    Calls Tryz.prog 32 #[v] w (RetNew w ls.flatten) := by
  obtain ⟨a, c, rfl, h1, h2⟩ := hv.form
  have hgr := hid (fun n h => grow_any n w h)
  have hpre : ∀ k, k < ls.length → ((ls.take k).flatten).length + ((ls.getD k []).length) ≤ 1000000000 := fun k hk => by
    have e : (ls.take (k + 1)).flatten = (ls.take k).flatten ++ ls[k] := by rw [List.take_succ_eq_append_getElem hk, List.flatten_append]; simp
    have e2 : (ls.take (k + 1)).flatten ++ (ls.drop (k + 1)).flatten = ls.flatten := by rw [← List.flatten_append, List.take_append_drop]
    have e3 := congrArg List.length e
    have e4 := congrArg List.length e2
    rw [List.length_append] at e3 e4
    have e5 : ls.getD k [] = ls[k] := by rw [List.getD_eq_getElem?_getD, List.getElem?_eq_getElem hk]; rfl
    rw [e5]; omega
  replace hv := hid hv
  unfold maxLen at h2
  go_enter Tryz.func32, Tryz.ntmps32
  go_wp2_with fail
  go_loopw [3, 11] (fun s3 s11 wr => ∃ k : Nat, k ≤ ls.length ∧ s11 = .int .i64 (k : Int) ∧ s3 = .int .i64 (((ls.take k).flatten).length : Int) ∧ wr = w) (fun _ s11 _ => ls.length - (intOf s11).toNat)
  case atStart => exact ⟨0, by omega, rfl, by simp, rfl⟩
  case round =>
    obtain ⟨k, hk, rfl, rfl, hwr⟩ := hrel
    obtain rfl := hwr.symm
    by_cases hkl : k < ls.length
    · obtain ⟨b, o, u, ha, hc, hu⟩ := hv.out.cell k hkl
      obtain ⟨ua, uc, rfl, u1, u2, _⟩ := hu.form
      subst ha
      have hp := hpre k hkl
      have hg0 : ls.getD k [] = ls[k] := by rw [List.getD_eq_getElem?_getD, List.getElem?_eq_getElem hkl]; rfl
      rw [hg0] at hp
      have hs : ((ls.take (k + 1)).flatten).length = ((ls.take k).flatten).length + ls[k].length := by rw [List.take_succ_eq_append_getElem hkl, List.flatten_append]; simp
      generalize ((ls.take k).flatten).length = S at *
      generalize ls[k].length = m at *
      have hk1 : IntKind.i64.wrap ((S : Int) + (m : Int)) = (S : Int) + (m : Int) := IntWalk.i64_in _ (by omega)
      have hk2 : ¬ ((S : Int) + (m : Int) < 0) := by omega
      replace hs := hid hs
      clear hg0 hu
      go_wp2_with fail
      go_roundw
      case rel => exact ⟨k + 1, by omega, by go_num, by rw [hs.out, Int.natCast_add], trivial⟩
      case measure => simp [intOf]; omega
    · obtain rfl : k = ls.length := by omega
      have hT : ((ls.take ls.length).flatten).length = ls.flatten.length := by rw [List.take_length]
      rw [hT]
      clear hT hkl
      have hg := hid (hgr.out ls.flatten.length hl)
      have hT0 : ¬ ((ls.flatten.length : Int) < 0) := by omega
      generalize ls.flatten.length = TT at hg hT0 ⊢
      go_wp2_with fail
      refine hg.out.mono ?_
      rintro e w1 ⟨ga, gc, rfl, hown, hb1⟩
      have hv1 := hid (hv.out.below hb1)
      have hz1 := hid hb1.size
      have hB1 := hid hb1
      clear hg hb1
      replace hown := hid hown
      go_wp2_with fail
      go_loopw [6, 27] (fun s6 s27 wr => ∃ (k : Nat) (a6 : Option Addr) (c6 : Nat), k ≤ ls.length ∧ s27 = .int .i64 (k : Int) ∧ s6 = .slice a6 ((ls.take k).flatten).length c6 ∧ Hid (wr.ownsRow w.heap.size 5 1 (.slice a6 ((ls.take k).flatten).length c6) ((ls.take k).flatten).length (((ls.take k).flatten).map byteV) ∧ Below w.heap.size w wr)) (fun _ s27 _ => ls.length - (intOf s27).toNat)
      case atStart => exact ⟨0, ga, gc, by omega, rfl, by simp, hid ⟨by simpa using hown.out, hB1.out⟩⟩
      case round =>
        obtain ⟨k, a6, c6, hk, rfl, rfl, hR⟩ := hrel
        by_cases hkl : k < ls.length
        · have hvr := hv.out.below hR.out.2
          obtain ⟨b, o, u, ha, hc, hu⟩ := hvr.cell k hkl
          cases ha
          have hp := hpre k hkl
          have hg0 : ls.getD k [] = ls[k] := by rw [List.getD_eq_getElem?_getD, List.getElem?_eq_getElem hkl]; rfl
          rw [hg0] at hp
          have hs : (ls.take (k + 1)).flatten = (ls.take k).flatten ++ ls[k] := by rw [List.take_succ_eq_append_getElem hkl, List.flatten_append]; simp
          obtain ⟨ua, uc, rfl, u1, u2, _⟩ := hu.form
          replace hu := hid hu
          replace hs := hid hs
          clear hvr hg0
          generalize hX : (ls.take k).flatten = X at *
          generalize hY : ls[k] = Y at *
          replace hX := hid hX
          replace hY := hid hY
          go_wp2_with (at_builtin; refine wpList_append_row elemU8 _ rfl (.tmp 31) (.tmp 32) rfl w.heap.size _ X.length (X.map byteV) rfl hR.out.1 _ Y.length (Y.map byteV) rfl hu.out (bytes_oneCell Y) (by unfold maxLen; omega) (by omega) (hR.out.2.size) (fun a' c' w' h2 h3 => ?_))
          have hB2 := hid (hR.out.2.grown h3 hR.out.2.size (fun j hj => (hR.out.1.lt j hj).1))
          have h2' := hid (show w'.ownsRow w.heap.size 5 1 (.slice a' ((ls.take (k + 1)).flatten).length c') ((ls.take (k + 1)).flatten).length (((ls.take (k + 1)).flatten).map byteV) by rw [hs.out]; simpa using h2)
          have hLn := hid (show X.length + Y.length = ((ls.take (k + 1)).flatten).length by rw [hs.out]; simp)
          clear h2 h3 hc
          go_wp2_with fail
          go_roundw
          case rel => exact ⟨k + 1, a', c', by omega, by go_num, by rw [hLn.out], hid ⟨h2'.out, hB2.out⟩⟩
          case measure => simp [intOf]; omega
        · obtain rfl : k = ls.length := by omega
          go_wp2_with fail
          go_ret
          rw [List.take_length] at hR ⊢
          exact ⟨_, rfl, ⟨BytesAt.of_own hR.out.1 rfl, fun j hj => (hR.out.1.lt j hj).1⟩, hR.out.2⟩
set_option maxHeartbeats 800000 in
theorem fwrap_any (v : Value) (l : List UInt8) (w : World) (hv : BytesAt w v l) (hl : l.length ≤ 8188) :
    Calls Tryz.prog 49 #[v] w fun e w' => ∃ v', e = .returned (.tuple #[v', .int .i64 0]) ∧ (BytesAt w' v' (numBytes (l.length + 4) 4 ++ l) ∧ ∀ k, v'.ownBlock = some k → w.heap.size ≤ k) ∧ Below w.heap.size w w' := by
  obtain ⟨a, c, rfl, h1, h2, _⟩ := hv.form
  have hk1 : IntKind.i64.wrap ((l.length : Int) + 4) = (l.length : Int) + 4 := IntWalk.i64_in _ (by omega)
  have hk2 : IntKind.u64.wrap ((l.length : Int) + 4) = (l.length : Int) + 4 := IntWalk.u64_in _ (by omega)
  have h3 : ¬ ((8188 : Int) < (l.length : Int)) := by omega
  obtain ⟨W, hW⟩ : ∃ W, W = w.alloc (.cells #[.slice none 0 0] 133) := ⟨_, rfl⟩
  have hO := hid (show OutIs W w.heap.size [] by rw [hW]; exact outIs_new w)
  have hB : Below w.heap.size w W := by rw [hW]; exact (Below.refl _ _).alloc (Nat.le_refl _) _
  have hvW := hid (hv.below hB)
  have hp := hid (put_step w.heap.size [] 4 (l.length + 4) W (by omega) (by omega) (by omega) (by simp) hO.out)
  have e4 : ((l.length + 4 : Nat) : Int) = (l.length : Int) + 4 := by omega
  rw [e4] at hp
  replace hB := hid hB
  replace hv := hid hv
  clear hvW e4
  go_enter Tryz.func49, Tryz.ntmps49
  go_wp2_with (rw [← hW]; replace hW := hid hW)
  try (rw [← hW]; replace hW := hid hW)
  refine hp.out.mono ?_
  rintro e w1 ⟨rfl, hO1, hs1⟩
  have hB1 := hid (hB.out.trans (hs1.below.mono (Nat.le_refl _)))
  have hr := hid (raw_step w.heap.size _ l _ w1 (hv.out.below hB1.out) (by simp [numBytes_length]; omega) hO1)
  clear hp hO hs1 hO1
  go_wp2_with fail
  refine hr.out.mono ?_
  rintro e w2 ⟨rfl, hO2, hs2⟩
  have hB2 := hid (hB1.out.trans hs2.below)
  have hb := hid (out_bytes_new w.heap.size _ w2 (by simp [numBytes_length]; omega) hO2)
  clear hr hs2 hO2
  go_wp2_with fail
  refine hb.out.mono ?_
  rintro e w3 ⟨v3, rfl, ⟨hv3, hf3⟩, hb3⟩
  have hz := hB2.out.size
  go_wp2_with fail
  refine bodyPost_ret (results_tmp2 rfl _ _ _) rfl ?_
  exact ⟨v3, rfl, ⟨by simpa using hv3, fun k hk => Nat.le_trans hz (hf3 k hk)⟩, sn hB2.out hb3⟩
end
end Go.Proofs.YtcbglcebdkpcfaaGreat

namespace Go.Proofs.YtcbglcebdkpcfaaGreat
section
open Go.RowKit
theorem own_below {w w' : World} {base e k n : Nat} {v : Value} {xs : List Value} (h2 : w.ownsRow base e k v n xs) (hb : Below w.heap.size w w') : w'.ownsRow base e k v n xs := by
  refine ⟨h2.1, ?_⟩
  rcases h2.2 with h3 | ⟨g, cap, cur, hv, hg, hh, r⟩
  · exact .inl h3
  · exact .inr ⟨g, cap, cur, hv, hg, (hb.block g (lt_of_block hh)).trans hh, r⟩
end
end Go.Proofs.YtcbglcebdkpcfaaGreat

namespace Go.Proofs.YtcbglcebdkpcfaaGreat
section
open Go.RowKit
set_option maxRecDepth 100000
set_option linter.unusedVariables false

def tagV (x : Nat) : Value := .int .u16 (x : Int)
def TagsAt (w : World) (v : Value) (xs : List Nat) : Prop := RowAt w 1 v xs.length (xs.map tagV)
theorem TagsAt.form {w : World} {v : Value} {xs : List Nat} (h : TagsAt w v xs) : ∃ a c, v = .slice a xs.length c ∧ xs.length ≤ c ∧ c ≤ maxLen := by
  obtain ⟨_, a, c, hv, h1, h2, _⟩ := h
  exact ⟨a, c, hv, h1, h2⟩
theorem TagsAt.cell {w : World} {a : Option Addr} {n c : Nat} {xs : List Nat} (h : TagsAt w (.slice a n c) xs) (i : Nat) (hi : i < xs.length) : ∃ b o, a = some ⟨b, o, none⟩ ∧ w.cell? ⟨b, o + i, none⟩ = some (.int .u16 (xs[i] : Int)) := by
  obtain ⟨_, a', c', hv, _, _, _, _, h4⟩ := h
  cases hv
  exact h4 i (tagV xs[i]) (by rw [List.getElem?_map, List.getElem?_eq_getElem hi]; rfl)
set_option maxHeartbeats 800000 in
theorem tidx_any (v : Value) (xs : List Nat) (x : Nat) (w : World) (hv : TagsAt w v xs) (hl : xs.length ≤ 1000) :
    Calls Tryz.prog 81 #[v, .int .u16 (x : Int)] w fun e w' => ∃ i : Int, e = .returned (.int .i64 i) ∧ (i = -1 ∧ x ∉ xs ∨ 0 ≤ i ∧ x ∈ xs) ∧ w' = w := by
  obtain ⟨a, c, rfl, h1, h2⟩ := hv.form
  unfold maxLen at h2
  replace hv := hid hv
  go_enter Tryz.func81, Tryz.ntmps81
  go_wp2_with fail
  go_loopw [8] (fun s8 wr => ∃ k : Nat, k ≤ xs.length ∧ s8 = .int .i64 (k : Int) ∧ wr = w ∧ Hid (x ∉ xs.take k)) (fun s8 _ => xs.length - (intOf s8).toNat)
  case atStart => exact ⟨0, by omega, rfl, rfl, hid (by simp)⟩
  case round =>
    obtain ⟨k, hk, rfl, hwr, hno⟩ := hrel
    obtain rfl := hwr.symm
    by_cases hkl : k < xs.length
    · obtain ⟨b, o, ha, hc⟩ := hv.out.cell k hkl
      subst ha
      by_cases hx : x = xs[k]
      · have hx1 : ((x : Int) == (xs[k] : Int)) = true := by rw [beq_iff_eq]; omega
        have hin := hid (show x ∈ xs by rw [hx]; exact List.getElem_mem hkl)
        clear hx
        generalize xs[k] = y at *
        go_wp2_with fail
        go_ret
        exact ⟨(k : Int), rfl, .inr ⟨by omega, hin.out⟩, rfl⟩
      · have hx1 : ((x : Int) == (xs[k] : Int)) = false := by rw [beq_eq_false_iff_ne]; omega
        have hno2 : Hid (x ∉ xs.take (k + 1)) := hid (by rw [List.take_succ_eq_append_getElem hkl]; intro h; rcases List.mem_append.1 h with h | h; exact hno.out h; exact hx (List.mem_singleton.1 h))
        clear hx
        generalize xs[k] = y at *
        go_wp2_with fail
        go_roundw
        case rel => exact ⟨k + 1, by omega, by go_num, trivial, hno2⟩
        case measure => simp [intOf]; omega
    · obtain rfl : k = xs.length := by omega
      have hno2 := hid (show x ∉ xs by have := hno.out; rwa [List.take_length] at this)
      go_wp2_with fail
      go_ret
      exact ⟨-1, rfl, .inl ⟨rfl, hno2.out⟩, rfl⟩
theorem tcon_any (v : Value) (xs : List Nat) (x : Nat) (w : World) (hv : TagsAt w v xs) (hl : xs.length ≤ 1000) :
    Calls Tryz.prog 65 #[v, .int .u16 (x : Int)] w fun e w' => e = .returned (.bool (decide (x ∈ xs))) ∧ w' = w := by
  have hi := hid (tidx_any v xs x w hv hl)
  go_enter Tryz.func65, Tryz.ntmps65
  go_wp2_with fail
  refine hi.out.mono ?_
  rintro e w1 ⟨i, rfl, h, rfl⟩
  rcases h with ⟨rfl, h⟩ | ⟨h0, h⟩
  · have hd : decide (x ∈ xs) = false := decide_eq_false h
    go_wp2_with fail
    go_ret
    exact ⟨by rw [hd]; rfl, rfl⟩
  · have hd : decide (x ∈ xs) = true := decide_eq_true h
    go_wp2_with fail
    go_ret
    exact ⟨by rw [hd]; simp, rfl⟩
def TestsT (f : FuncId) (cap : Array Value) (r : Option Nat) (w : World) (p : Nat → Bool) : Prop := ∀ n w', (∀ j, r ≠ some j → w'.heap[j]? = w.heap[j]?) → Calls Tryz.prog f (#[.int .u16 ((n : Nat) : Int)] ++ cap) w' fun e w2 => e = .returned (.bool (p n)) ∧ w2 = w'
def EntersT (f : FuncId) : Prop := ∀ args W, Sem.run Tryz.prog (callFunc f args) W = .ok (.enter f args) W
set_option maxHeartbeats 1600000 in
theorem tifn_any (v : Value) (l : List Nat) (f : FuncId) (cap : Array Value) (r : Option Nat) (p : Nat → Bool) (w : World) (hv : TagsAt w v l) (hl : l.length ≤ 1000) (hT : TestsT f cap r w p) (hE : EntersT f) :
    Calls Tryz.prog 66 #[v, .func (.func f) #[] cap] w fun e w' => ∃ i : Int, e = .returned (.int .i64 i) ∧ ((i = -1 ∧ ∀ n ∈ l, p n = false) ∨ ∃ (k : Nat) (h : k < l.length), i = (k : Int) ∧ p l[k] = true ∧ ∀ j (h : j < l.length), j < k → p l[j] = false) ∧ w' = w := by
  obtain ⟨a, c, rfl, g1, g2⟩ := hv.form
  unfold maxLen at g2
  replace hv := hid hv
  have hT := hid (fun n => hT n w (fun _ _ => rfl))
  replace hE := hid hE
  go_enter Tryz.func66, Tryz.ntmps66
  go_wp2_with fail
  go_loopw [8] (fun kv wr => ∃ k : Nat, k ≤ l.length ∧ kv = .int .i64 (k : Int) ∧ wr = w ∧ Hid (∀ j (h : j < l.length), j < k → p l[j] = false)) (fun kv _ => l.length - (intOf kv).toNat)
  case atStart => exact ⟨0, by omega, rfl, rfl, hid (fun j _ h => by omega)⟩
  case round =>
    obtain ⟨k, hk, rfl, hwr, hall⟩ := hrel
    obtain rfl := hwr.symm
    by_cases hkl : k < l.length
    · obtain ⟨b, o, ha, hr⟩ := hv.out.cell k hkl
      subst ha
      obtain ⟨n, hn⟩ : ∃ n, n = l[k] := ⟨_, rfl⟩
      rw [← hn] at hr
      replace hn := hid hn
      have hcall := hid (hT.out n)
      have hE' := hE.out (#[.int .u16 (n : Int)] ++ cap) w
      go_wp2_with fail
      refine hcall.out.mono ?_
      rintro e w2 ⟨rfl, rfl⟩
      clear hcall hE' hr
      cases hp : p n with
      | true =>
        replace hp := hid hp
        go_wp2_with fail
        go_ret
        exact ⟨(k : Int), rfl, .inr ⟨k, hkl, rfl, by rw [← hn.out]; exact hp.out, hall.out⟩, rfl⟩
      | false =>
        have hall2 := hid (show ∀ j (h : j < l.length), j < k + 1 → p l[j] = false from fun j h hj => by
          by_cases e : j < k
          · exact hall.out j h e
          · obtain rfl : j = k := by omega
            rw [← hn.out]; exact hp)
        clear hp
        go_wp2_with fail
        go_roundw
        case rel => exact ⟨k + 1, by omega, by go_num, trivial, hall2⟩
        case measure => simp [intOf]; omega
    · obtain rfl : k = l.length := by omega
      go_wp2_with fail
      go_ret
      exact ⟨-1, rfl, .inl ⟨rfl, fun n hn => by obtain ⟨i, hi, rfl⟩ := List.mem_iff_getElem.1 hn; exact hall.out i hi hi⟩, rfl⟩
theorem run_clear_tags (w : World) (ty : TypeId) (b o n c : Nat) (hn : 0 < n) (ht : w.there b o n) :
    ∃ vs : List Value, vs.length = n ∧ (Builtin.clear_ #[45] ty #[.slice (some ⟨b, o, none⟩) n c]).run Tryz.prog w = .ok (.tuple #[]) (w.setCells b o vs) := by
  have hz : ∀ w, (zeroValue 31).run Tryz.prog w = .ok (.int .u16 0) w := fun w => by kernel_rfl
  have h1 : ∀ v ∈ (Builtin.zeroCells #[Value.int .u16 0] n).toList, v.oneCell' = true := by
    intro v hv
    simp only [Builtin.zeroCells, Array.toList_map, List.mem_map] at hv
    obtain ⟨i, _, rfl⟩ := hv
    simp [Nat.mod_one]
    rfl
  have hl : (Builtin.zeroCells #[Value.int .u16 0] n).toList.length = n := by simp [Builtin.zeroCells]
  have hst := run_storeCells_cells (P := Tryz.prog) b o (Builtin.zeroCells #[Value.int .u16 0] n).toList 0 w (fun j hj => by simpa using (ht j (by rw [hl] at hj; exact hj)).1) (fun j hj => by simpa using (ht j (by rw [hl] at hj; exact hj)).2) h1
  simp only [Nat.add_zero] at hst
  obtain ⟨m, rfl⟩ : ∃ m, n = m + 1 := ⟨n - 1, by omega⟩
  have hzc : (Value.int .u16 0).cells = #[Value.int .u16 0] := rfl
  refine ⟨_, hl, ?_⟩
  simp [Builtin.clear_, run_underlying Tryz.underlying45, hz, hzc, hst]
section
variable {w : World} {base e n c g i : Nat} {xs : List Value}
theorem tg_there (h : w.ownsRow base e 1 (.slice (some ⟨g, 0, none⟩) n c) n xs) {m : Nat} (hi : i + m ≤ n) : w.there g i m := by
  rcases h.2 with ⟨h1, _⟩ | ⟨g', cap, cur, hv, hb, hg, h1, h2, h3, h4⟩
  · cases h1
  · cases hv
    intro j hj
    have hlt : i + j < cur.size := by omega
    refine ⟨?_, block_free hg _⟩
    rw [block_cell hg, Array.getElem?_eq_getElem hlt]; rfl
theorem tg_cell (h : w.ownsRow base e 1 (.slice (some ⟨g, 0, none⟩) n c) n xs) (hi : i < n) : w.cell? ⟨g, i, none⟩ = xs[i]? ∧ w.frozen? ⟨g, i, none⟩ = false := by
  rcases h.2 with ⟨h1, _⟩ | ⟨g', cap, cur, hv, hb, hg, h1, h2, h3, h4⟩
  · cases h1
  · cases hv
    refine ⟨?_, block_free hg _⟩
    rw [block_cell hg, ← h4, List.getElem?_take_of_lt (by omega), Array.getElem?_toList]
theorem tg_set {u : Value} (h : w.ownsRow base e 1 (.slice (some ⟨g, 0, none⟩) n c) n xs) (hi : i < n) :
    (w.setCell ⟨g, i, none⟩ u).ownsRow base e 1 (.slice (some ⟨g, 0, none⟩) n c) n (xs.set i u) ∧ Below base w (w.setCell ⟨g, i, none⟩ u) := by
  rcases h.2 with ⟨h1, _⟩ | ⟨g', cap, cur, hv, hb, hg, h1, h2, h3, h4⟩
  · cases h1
  · cases hv
    refine ⟨⟨by rw [List.length_set]; exact h.1, .inr ⟨g, c, cur.setIfInBounds i u, rfl, hb, block_set hg i u, h1, h2, by rw [Array.size_setIfInBounds]; exact h3, ?_⟩⟩, (Below.refl _ _).setCell (by exact hb) _⟩
    rw [Array.toList_setIfInBounds, List.take_set, h4]
theorem tg_ptr {k : Nat} {v : Value} (h : w.ownsRow base e k v n xs) (h0 : 0 < n) : ∃ g c, v = .slice (some ⟨g, 0, none⟩) n c ∧ n ≤ c ∧ c ≤ maxLen ∧ base ≤ g := by
  rcases h.2 with ⟨_, h1⟩ | ⟨g', cap, cur, hv, hb, hg, h1, h2, h3, h4⟩
  · omega
  · exact ⟨g', cap, hv, h1, h2, hb⟩
theorem tg_cells {vs : List Value} : ∀ {w : World} {o : Nat} {xs : List Value}, w.ownsRow base e 1 (.slice (some ⟨g, 0, none⟩) n c) n xs → i ≤ o → i ≤ n → (w.setCells g o vs).ownsRow base e 1 (.slice (some ⟨g, 0, none⟩) i c) i (xs.take i) ∧ Below base w (w.setCells g o vs) := by
  induction vs with
  | nil =>
    intro w o xs h ho hi
    rcases h.2 with ⟨h1, _⟩ | ⟨g', cap, cur, hv, hb, hg, h1, h2, h3, h4⟩
    · cases h1
    · cases hv
      refine ⟨⟨by have := h.1; simp; omega, .inr ⟨g, c, cur, rfl, hb, hg, by omega, h2, h3, ?_⟩⟩, Below.refl _ _⟩
      rw [← h4, List.take_take]; congr 1; omega
  | cons u us ih =>
    intro w o xs h ho hi
    rcases h.2 with ⟨h1, _⟩ | ⟨g', cap, cur, hv, hb, hg, h1, h2, h3, h4⟩
    · cases h1
    · cases hv
      have h' : (w.setCell ⟨g, o, none⟩ u).ownsRow base e 1 (.slice (some ⟨g, 0, none⟩) n c) n (xs.set o u) := by
        refine ⟨by rw [List.length_set]; exact h.1, .inr ⟨g, c, cur.setIfInBounds o u, rfl, hb, block_set hg o u, h1, h2, by rw [Array.size_setIfInBounds]; exact h3, ?_⟩⟩
        rw [Array.toList_setIfInBounds, List.take_set, h4]
      have hb' : Below base w (w.setCell ⟨g, o, none⟩ u) := (Below.refl _ _).setCell (by exact hb) _
      obtain ⟨r1, r2⟩ := ih (o := o + 1) h' (by omega) hi
      rw [List.take_set_of_le ho] at r1
      exact ⟨r1, hb'.trans r2⟩
end
theorem tg_others {g : Nat} : ∀ (vs : List Value) (o : Nat) (w : World), (w.setCells g o vs).heap.size = w.heap.size ∧ ∀ j, j ≠ g → (w.setCells g o vs).heap[j]? = w.heap[j]?
  | [], _, _ => ⟨rfl, fun _ _ => rfl⟩
  | v :: vs, o, w => by
    obtain ⟨h1, h2⟩ := tg_others vs (o + 1) (w.setCell ⟨g, o, none⟩ v)
    exact ⟨h1.trans (by simp [World.setCell]), fun j hj => (h2 j hj).trans (block_set_other hj)⟩
structure DelL {α : Type} (l M : List α) (p : α → Bool) (i j : Nat) : Prop where
  len : M.length = l.length
  lt : i < j ∧ j ≤ l.length
  front : M.take i = (l.take j).filter fun n => !p n
  back : M.drop j = l.drop j
theorem DelL.start {α : Type} {l : List α} {p : α → Bool} {k : Nat} (hk : k < l.length) (hp : p l[k] = true) (ha : ∀ j (h : j < l.length), j < k → p l[j] = false) : DelL l l p k (k + 1) := by
  refine ⟨rfl, ⟨by omega, by omega⟩, ?_, rfl⟩
  rw [List.take_succ_eq_append_getElem hk, List.filter_append, List.filter_cons_of_neg (by simp [hp]), List.filter_nil, List.append_nil]
  refine (List.filter_eq_self.2 fun n hn => ?_).symm
  obtain ⟨i, hi, rfl⟩ := List.mem_iff_getElem.1 hn
  rw [List.length_take] at hi
  rw [List.getElem_take]
  simp [ha i (by omega) (by omega)]
theorem DelL.get {α : Type} {l M : List α} {p : α → Bool} {i j : Nat} (h : DelL l M p i j) (hj : j < l.length) : ∃ hh : j < M.length, M[j] = l[j] := by
  have hM : j < M.length := by rw [h.len]; exact hj
  refine ⟨hM, ?_⟩
  have e := congrArg (fun z => z[0]?) h.back
  simp only [List.getElem?_drop, Nat.add_zero] at e
  rw [List.getElem?_eq_getElem hM, List.getElem?_eq_getElem hj] at e
  exact Option.some.inj e
theorem DelL.keep {α : Type} {l M : List α} {p : α → Bool} {i j : Nat} (h : DelL l M p i j) (hj : j < l.length) (hp : p l[j] = false) : DelL l (M.set i l[j]) p (i + 1) (j + 1) := by
  have hi := h.lt
  refine ⟨by rw [List.length_set]; exact h.len, ⟨by omega, by omega⟩, ?_, ?_⟩
  · rw [List.take_succ_eq_append_getElem (by rw [List.length_set, h.len]; omega), List.getElem_set_self, List.take_set_of_le (Nat.le_refl _), h.front, List.take_succ_eq_append_getElem hj, List.filter_append, List.filter_cons_of_pos (by simp [hp]), List.filter_nil]
  · rw [List.drop_set_of_lt (by omega)]
    have e := congrArg (fun z => z.drop 1) h.back
    simpa using e
theorem DelL.skip {α : Type} {l M : List α} {p : α → Bool} {i j : Nat} (h : DelL l M p i j) (hj : j < l.length) (hp : p l[j] = true) : DelL l M p i (j + 1) := by
  have hi := h.lt
  refine ⟨h.len, ⟨by omega, by omega⟩, ?_, ?_⟩
  · rw [h.front, List.take_succ_eq_append_getElem hj, List.filter_append, List.filter_cons_of_neg (by simp [hp]), List.filter_nil, List.append_nil]
  · have e := congrArg (fun z => z.drop 1) h.back
    simpa using e


end
end Go.Proofs.YtcbglcebdkpcfaaGreat

namespace Go.Proofs.YtcbglcebdkpcfaaGreat
section
open Go.RowKit
set_option maxRecDepth 100000
set_option linter.unusedVariables false

def TagsOwn (w : World) (base : Nat) (v : Value) (xs : List Nat) : Prop := w.ownsRow base 31 1 v xs.length (xs.map tagV)
theorem TagsOwn.at {w : World} {base : Nat} {v : Value} {xs : List Nat} (h : TagsOwn w base v xs) : TagsAt w v xs := RowAt.of_own h
theorem TagsOwn.below {w w' : World} {base : Nat} {v : Value} {xs : List Nat} (h : TagsOwn w base v xs) (hb : Below w.heap.size w w') : TagsOwn w' base v xs := own_below h hb
set_option maxHeartbeats 3200000 in
theorem tdel_any (v : Value) (l : List Nat) (f : FuncId) (cap : Array Value) (base : Nat) (p : Nat → Bool) (w : World) (hv : TagsOwn w base v l) (hl : l.length ≤ 1000) (hT : TestsT f cap v.ownBlock w p) (hE : EntersT f) :
    Calls Tryz.prog 44 #[v, .func (.func f) #[] cap] w fun e w' => ∃ v', e = .returned v' ∧ TagsOwn w' base v' (l.filter fun n => !p n) ∧ Below base w w' ∧ w'.heap.size = w.heap.size ∧ (∀ j, v.ownBlock ≠ some j → w'.heap[j]? = w.heap[j]?) ∧ v'.ownBlock = v.ownBlock := by
  obtain ⟨a, c, rfl, g1, g2⟩ := hv.at.form
  unfold maxLen at g2
  have hix := hid (tifn_any _ l f cap _ p w hv.at hl hT hE)
  replace hv := hid hv
  replace hT := hid hT
  replace hE := hid hE
  go_enter Tryz.func44, Tryz.ntmps44
  go_wp2_with fail
  refine hix.out.mono ?_
  rintro e w1 ⟨i, rfl, hi, hw1⟩
  obtain rfl := hw1.symm
  clear hix
  rcases hi with ⟨rfl, hnone⟩ | ⟨k, hk, rfl, hpk, hbef⟩
  · have hfil := hid (show (l.filter fun n => !p n) = l from List.filter_eq_self.2 fun n hn => by simp [hnone n hn])
    clear hnone
    go_wp2_with fail
    go_ret
    exact ⟨_, rfl, by rw [hfil.out]; exact hv.out, Below.refl _ _, rfl, fun _ _ => rfl, rfl⟩
  · have hst := hid (DelL.start hk hpk hbef)
    have hne : ((k : Int) == -1) = false := by rw [beq_eq_false_iff_ne]; omega
    clear hpk hbef
    go_wp2_with fail
    obtain ⟨g, c2, hvv, _, _, hgb⟩ := tg_ptr hv.out (by omega)
    obtain ⟨rfl, -, rfl⟩ : a = some ⟨g, 0, none⟩ ∧ True ∧ c = c2 := by cases hvv; exact ⟨rfl, trivial, rfl⟩
    clear hvv
    go_loopw [5, 6] (fun iv jv wr => ∃ (i j : Nat) (M : List Nat), iv = .int .i64 (i : Int) ∧ jv = .int .i64 (j : Int) ∧ j ≤ l.length ∧ i < j ∧ Hid (DelL l M p i j ∧ wr.ownsRow base 31 1 (.slice (some ⟨g, 0, none⟩) l.length c) l.length (M.map tagV) ∧ Below base w wr ∧ wr.heap.size = w.heap.size ∧ ∀ j, j ≠ g → wr.heap[j]? = w.heap[j]?)) (fun _ jv _ => l.length - (intOf jv).toNat)
    case atStart => exact ⟨k, k + 1, l, rfl, by go_num, by omega, by omega, hid ⟨hst.out, hv.out, Below.refl _ _, rfl, fun _ _ => rfl⟩⟩
    case round =>
      obtain ⟨i, j, M, rfl, rfl, hj, hij, hR⟩ := hrel
      clear hst
      by_cases hjl : j < l.length
      · obtain ⟨hM, hMl⟩ := hR.out.1.get hjl
        have cj : wr.cell? ⟨g, j, none⟩ = some (.int .u16 (l[j] : Int)) := by
          have := (tg_cell hR.out.2.1 hjl).1
          rwa [List.getElem?_map, List.getElem?_eq_getElem hM, hMl] at this
        obtain ⟨ui, hui⟩ : ∃ u, wr.cell? ⟨g, i, none⟩ = some u := ⟨_, (tg_cell hR.out.2.1 (show i < l.length by omega)).1.trans (List.getElem?_eq_getElem (by have := hR.out.2.1.1; omega))⟩
        have fi : wr.frozen? ⟨g, i, none⟩ = false := (tg_cell hR.out.2.1 (show i < l.length by omega)).2
        have hkeep := hid (hR.out.1.keep hjl)
        have hskip := hid (hR.out.1.skip hjl)
        generalize l[j] = n at *
        have hcall := hid (hT.out n wr (fun j hj => hR.out.2.2.2.2 j (fun e => hj (by rw [e]; rfl))))
        have hE' := hE.out (#[.int .u16 (n : Int)] ++ cap) wr
        replace hMl := hid hMl
        go_wp2_with fail
        refine hcall.out.mono ?_
        rintro e w4 ⟨rfl, hw4⟩
        obtain rfl := hw4.symm
        clear hcall hE'
        cases hp : p n with
        | true =>
          have hR2 := hid (And.intro (hskip.out hp) hR.out.2)
          clear hp hkeep hskip
          go_wp2_with fail
          go_roundw
          case rel => exact ⟨i, j + 1, M, rfl, by go_num, by omega, by omega, hR2⟩
          case measure => simp [intOf]; omega
        | false =>
          obtain ⟨s1, s2⟩ := tg_set (u := tagV n) hR.out.2.1 (show i < l.length by omega)
          rw [← List.map_set] at s1
          have hR2 := hid (And.intro (hkeep.out hp) (And.intro s1 (And.intro (hR.out.2.2.1.trans s2) (And.intro (show (wr.setCell ⟨g, i, none⟩ (tagV n)).heap.size = w.heap.size by simpa [World.setCell] using hR.out.2.2.2.1) (show ∀ j, j ≠ g → (wr.setCell ⟨g, i, none⟩ (tagV n)).heap[j]? = w.heap[j]? from fun j hj => (block_set_other (p := ⟨g, i, none⟩) hj).trans (hR.out.2.2.2.2 j hj))))))
          unfold tagV at hR2
          clear hp hkeep hskip s1 s2
          go_wp2_with fail
          go_roundw
          case rel => exact ⟨i + 1, j + 1, _, by go_num, by go_num, by omega, by omega, hR2⟩
          case measure => simp [intOf]; omega
      · obtain rfl : j = l.length := by omega
        obtain ⟨vs, hvs, hcl⟩ := run_clear_tags wr 0 g i (l.length - i) (c - i) (by omega) (tg_there hR.out.2.1 (by omega))
        obtain ⟨s1, s2⟩ := tg_cells (vs := vs) hR.out.2.1 (Nat.le_refl i) (show i ≤ l.length by omega)
        have s3 := tg_others (g := g) vs i wr
        obtain ⟨X, hX⟩ : ∃ X, X = wr.setCells g i vs := ⟨_, rfl⟩
        rw [← hX] at s1 s2 s3 hcl
        have hfr := hid (show M.take i = l.filter fun n => !p n by rw [hR.out.1.front, List.take_length])
        rw [← List.map_take, hfr.out] at s1
        have hil : Hid (i = (l.filter fun n => !p n).length) := hid (by have := s1.1; rw [List.length_map] at this; omega)
        have hOX := hid s1
        have hBX := hid (hR.out.2.2.1.trans s2)
        have hsX := hid (s3.1.trans hR.out.2.2.2.1)
        have hoX := hid (fun j (hj : j ≠ g) => (s3.2 j hj).trans (hR.out.2.2.2.2 j hj))
        have hcl2 : ∀ ty, Sem.run Tryz.prog (Builtin.clear_ #[45] ty #[.slice (some ⟨g, i, none⟩) (l.length - i) (c - i)]) wr = .ok (.tuple #[]) X := fun ty => hcl
        replace hX := hid hX
        clear s1 s2 s3 hvs hcl
        go_wp2_with fail
        go_ret
        exact ⟨_, rfl, by unfold TagsOwn; rw [← hil.out]; exact hOX.out, hBX.out, hsX.out, fun j hj => hoX.out j (fun e => hj (by rw [e]; rfl)), rfl⟩
end
end Go.Proofs.YtcbglcebdkpcfaaGreat

namespace Go.Proofs.YtcbglcebdkpcfaaGreat
section
open Go.RowKit
set_option maxRecDepth 100000

structure Stat where
  kind : Nat
  dev : Nat
  qt : Nat
  qv : Nat
  qp : Nat
  mode : Nat
  atm : Nat
  mtm : Nat
  len : Nat
  name : ByteArray
  uid : ByteArray
  gid : ByteArray
  muid : ByteArray

def Stat.cells (s : Stat) : Array Value := #[.int .u16 (s.kind : Int), .int .u32 (s.dev : Int), .int .u8 (s.qt : Int), .int .u32 (s.qv : Int), .int .u64 (s.qp : Int), .int .u32 (s.mode : Int), .int .u32 (s.atm : Int), .int .u32 (s.mtm : Int), .int .u64 (s.len : Int), .string s.name, .string s.uid, .string s.gid, .string s.muid]

structure StatOk (s : Stat) : Prop where
  kind : s.kind < 65536
  dev : s.dev < 4294967296
  qt : s.qt < 256
  qv : s.qv < 4294967296
  qp : s.qp < 18446744073709551616
  mode : s.mode < 4294967296
  atm : s.atm < 4294967296
  mtm : s.mtm < 4294967296
  len : s.len < 18446744073709551616
  name : s.name.size ≤ maxLen
  uid : s.uid.size ≤ maxLen
  gid : s.gid.size ≤ maxLen
  muid : s.muid.size ≤ maxLen

structure Few (s : Stat) : Prop where
  name : s.name.size ≤ 200
  uid : s.uid.size ≤ 200
  gid : s.gid.size ≤ 200
  muid : s.muid.size ≤ 200
def Stat.size (s : Stat) : Nat := 49 + s.name.size + s.uid.size + s.gid.size + s.muid.size
def StatCells (w : World) (b o : Nat) (s : Stat) : Prop :=
  w.cell? ⟨b, o, none⟩ = some (.int .u16 (s.kind : Int)) ∧ w.cell? ⟨b, o + 1, none⟩ = some (.int .u32 (s.dev : Int)) ∧ w.cell? ⟨b, o + 2, none⟩ = some (.int .u8 (s.qt : Int)) ∧ w.cell? ⟨b, o + 3, none⟩ = some (.int .u32 (s.qv : Int)) ∧
  w.cell? ⟨b, o + 4, none⟩ = some (.int .u64 (s.qp : Int)) ∧ w.cell? ⟨b, o + 5, none⟩ = some (.int .u32 (s.mode : Int)) ∧ w.cell? ⟨b, o + 6, none⟩ = some (.int .u32 (s.atm : Int)) ∧ w.cell? ⟨b, o + 7, none⟩ = some (.int .u32 (s.mtm : Int)) ∧
  w.cell? ⟨b, o + 8, none⟩ = some (.int .u64 (s.len : Int)) ∧ w.cell? ⟨b, o + 9, none⟩ = some (.string s.name) ∧ w.cell? ⟨b, o + 10, none⟩ = some (.string s.uid) ∧ w.cell? ⟨b, o + 11, none⟩ = some (.string s.gid) ∧ w.cell? ⟨b, o + 12, none⟩ = some (.string s.muid)
end
end Go.Proofs.YtcbglcebdkpcfaaGreat

namespace Go.Proofs.YtcbglcebdkpcfaaGreat
section
open Go.RowKit
set_option maxRecDepth 100000

def qidBytes (t v p : Nat) : List UInt8 := numBytes t 1 ++ numBytes v 4 ++ numBytes p 8

def Stat.head (s : Stat) : List UInt8 := numBytes s.kind 2 ++ numBytes s.dev 4 ++ qidBytes s.qt s.qv s.qp ++ numBytes s.mode 4 ++ numBytes s.atm 4 ++ numBytes s.mtm 4 ++ numBytes s.len 8
def Stat.texts (s : Stat) : List ByteArray := [s.name, s.uid, s.gid, s.muid]

def textsErr : List ByteArray → Nat
  | [] => 0
  | t :: l => if mayN t = 0 then textsErr l else mayN t
def textsBytes : List ByteArray → List UInt8
  | [] => []
  | t :: l => putText t ++ textsBytes l

def Stat.err (s : Stat) : Nat := textsErr s.texts
def Stat.bytes (s : Stat) : List UInt8 := if s.err = 0 then numBytes (s.size - 2) 2 ++ s.head ++ textsBytes s.texts else []

set_option maxHeartbeats 400000 in
theorem size_any (s : Stat) (w : World) (h : Few s) : Calls Tryz.prog 132 #[.agg s.cells] w fun e w' => e = .returned (.int .i64 (s.size : Int)) ∧ Below w.heap.size w w' := by
  obtain ⟨h1, h2, h3, h4⟩ := h
  obtain ⟨kind, dev, qt, qv, qp, mode, atm, mtm, len, name, uid, gid, muid⟩ := s
  simp only [Stat.cells] at *
  go_enter Tryz.func132, Tryz.ntmps132
  go_wp2
  go_ret
  exact ⟨ret_int (by simp only [Stat.size]; omega), (Below.refl _ _).alloc (Nat.le_refl _) _⟩

theorem qidBytes_length (t v p : Nat) : (qidBytes t v p).length = 13 := by unfold qidBytes; simp [numBytes_length]

set_option maxHeartbeats 400000 in
theorem qid_put_any (b : Nat) (xs : List UInt8) (t v p : Nat) (w : World) (ht : t < 256) (hv : v < 4294967296) (hp : p < 18446744073709551616) (hx : xs.length ≤ 1000000) (ho : OutIs w b xs) :
    Calls Tryz.prog 129 #[.pointer (some ⟨b, 0, none⟩), .agg #[.int .u8 (t : Int), .int .u32 (v : Int), .int .u64 (p : Int)]] w fun e w' => e = .returned (.tuple #[]) ∧ OutIs w' b (xs ++ qidBytes t v p) ∧ OStep b w w' := by
  have hlt := ho.lt
  have hb0 := (Below.refl w.heap.size w).alloc (Nat.le_refl _) (.cells #[.int .u8 (t : Int), .int .u32 (v : Int), .int .u64 (p : Int)] 37)
  have ho1 := ho.below hb0
  have hnf := ho.new (.cells #[.int .u8 (t : Int), .int .u32 (v : Int), .int .u64 (p : Int)] 37)
  have hq := heap_alloc_new w (.cells #[.int .u8 (t : Int), .int .u32 (v : Int), .int .u64 (p : Int)] 37)
  replace hq := hid hq
  go_enter Tryz.func129, Tryz.ntmps129
  go_wp2_with fail
  refine (put_step b xs 1 t _ (by omega) (by omega) (by omega) (by omega) ho1).mono ?_
  rintro e w1 ⟨rfl, ho2, hs1⟩
  obtain ⟨e1, n1⟩ := hs1.block w.heap.size (by simp) hnf
  have hq1 := e1.trans hq.out
  have hc1 : w1.cell? ⟨w.heap.size, 0 + 1, none⟩ = some (.int .u32 (v : Int)) := block_cell hq1 1
  replace e1 := hid e1
  replace hq1 := hid hq1
  have l1 : (xs ++ numBytes t 1).length = xs.length + 1 := by rw [List.length_append, numBytes_length]
  replace l1 := hid l1
  go_wp2_with fail
  refine (put_step b (xs ++ numBytes t 1) 4 v w1 (by omega) (by omega) (by omega) (by rw [l1.out]; omega) ho2).mono ?_
  rintro e w2 ⟨rfl, ho3, hs2⟩
  obtain ⟨e2, n2⟩ := hs2.block w.heap.size (lt_of_block hq1.out) n1
  have hq2 := e2.trans hq1.out
  have hc2 : w2.cell? ⟨w.heap.size, 0 + 2, none⟩ = some (.int .u64 (p : Int)) := block_cell hq2 2
  replace e2 := hid e2
  replace hq2 := hid hq2
  clear hc1
  have l2 : (xs ++ numBytes t 1 ++ numBytes v 4).length = xs.length + 5 := by rw [List.length_append, l1.out, numBytes_length]
  replace l2 := hid l2
  go_wp2_with fail
  refine (put_step b (xs ++ numBytes t 1 ++ numBytes v 4) 8 p w2 (by omega) (by omega) (by omega) (by rw [l2.out]; omega) ho3).mono ?_
  rintro e w3 ⟨rfl, ho4, hs3⟩
  go_wp2_with fail
  go_end0
  refine ⟨rfl, by unfold qidBytes; rw [← List.append_assoc, ← List.append_assoc]; exact ho4, (((OStep.pure hlt hb0).trans hs1).trans hs2).trans hs3⟩
end
end Go.Proofs.YtcbglcebdkpcfaaGreat
