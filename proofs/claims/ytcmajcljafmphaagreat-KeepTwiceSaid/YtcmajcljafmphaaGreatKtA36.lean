/- Frames: a row of byte slices; slices.Grow from nil, slices.Concat; frame.Wrap, New, Dead. Conditions: sizes of the machine.
A row of one's own whose cells point to other rows: one more element, or those of another slice. Conditions: sizes of the machine. -/
import Derived.Test.YtcmajcljafmphaaGreatKtA04
import Derived.Test.YtcmajcljafmphaaGreatKtA02
import Derived.Test.YtcmajcljafmphaaGreatKtA03
import Derived.Lib.AppendZerosOnto
import Derived.Maps.AppendAt
import Derived.Test.YtcmajcljafmphaaGreatKtA35
namespace Go.Proofs.YtcmajcljafmphaaGreat
section
open Go.RowKit
set_option maxRecDepth 100000
set_option linter.unusedVariables false

def FramesAt (w : World) (v : Value) (ls : List (List UInt8)) : Prop := ∃ vs : List Value, vs.length = ls.length ∧ RowAt w 1 v ls.length vs ∧ ∀ i (h : i < ls.length), BytesAt w (vs.getD i undef) ls[i]
theorem FramesAt.below {w w' : World} {v : Value} {ls : List (List UInt8)} (h : FramesAt w v ls) (hb : Below w.heap.size w w') : FramesAt w' v ls := by
  obtain ⟨vs, h1, h2, h3⟩ := h
  exact ⟨vs, h1, h2.below hb, fun i hi => (h3 i hi).below hb⟩
theorem FramesAt.form {w : World} {v : Value} {ls : List (List UInt8)} (h : FramesAt w v ls) : ∃ a c, v = .slice a ls.length c ∧ ls.length ≤ c ∧ c ≤ maxLen := by
  obtain ⟨vs, _, ⟨_, a, c, hv, h1, h2, _⟩, _⟩ := h
  exact ⟨a, c, hv, h1, h2⟩
theorem FramesAt.nil {w : World} : FramesAt w (.slice none 0 0) [] := ⟨[], rfl, RowAt.nil, fun i h => absurd h (by simp)⟩
theorem FramesAt.cell {w : World} {a : Option Addr} {n c : Nat} {ls : List (List UInt8)} (h : FramesAt w (.slice a n c) ls) (i : Nat) (hi : i < ls.length) : ∃ b o u, a = some ⟨b, o, none⟩ ∧ w.cell? ⟨b, o + i, none⟩ = some u ∧ BytesAt w u ls[i] := by
  obtain ⟨vs, h1, h2, h3⟩ := h
  obtain ⟨_, a', c', hv, _, _, _, _, h4⟩ := h2
  cases hv
  have hlt : i < vs.length := by omega
  obtain ⟨b, o, ha, hc⟩ := h4 i vs[i] (List.getElem?_eq_getElem hlt)
  refine ⟨b, o, vs[i], ha, hc, ?_⟩
  have := h3 i hi
  rwa [List.getD_eq_getElem?_getD, List.getElem?_eq_getElem hlt] at this
theorem infoB : (Tryz.prog.info? 53).map (fun i => (i.zero, i.size, i.bytes)) = some (some (.slice none 0 0), 1, 24) := by kernel_rfl
theorem elemB : ElemOk Tryz.prog 59 53 1 24 := elemOk_of Tryz.underlying59 infoB rfl (by omega)
structure FrV (w : World) (base : Nat) (v : Value) (ls : List (List UInt8)) (vs : List Value) : Prop where
  len : vs.length = ls.length
  own : w.ownsRow base 53 1 v ls.length vs
  rows : ∀ i (h : i < ls.length), BytesAt w (vs.getD i undef) ls[i]
  apart : ∀ u ∈ vs, ∀ j, u.ownBlock = some j → base ≤ j ∧ v.ownBlock ≠ some j
def OwnFr (w : World) (base : Nat) (v : Value) (ls : List (List UInt8)) : Prop := ∃ vs, FrV w base v ls vs
theorem OwnFr.at {w : World} {base : Nat} {v : Value} {ls : List (List UInt8)} (h : OwnFr w base v ls) : FramesAt w v ls := by
  obtain ⟨vs, h⟩ := h
  exact ⟨vs, h.len, RowAt.of_own h.own, h.rows⟩
theorem OwnFr.form {w : World} {base : Nat} {v : Value} {ls : List (List UInt8)} (h : OwnFr w base v ls) : ∃ a c, v = .slice a ls.length c := by
  obtain ⟨vs, h⟩ := h
  exact own_form h.own
theorem OwnFr.nil (w : World) (base : Nat) : OwnFr w base (.slice none 0 0) [] := ⟨[], rfl, World.ownsRow_nil _ _ _ _, fun i h => absurd h (by simp), fun u hu => by cases hu⟩
theorem mem_getD {vs : List Value} {i : Nat} (h : i < vs.length) : vs.getD i undef ∈ vs := by
  rw [List.getD_eq_getElem?_getD, List.getElem?_eq_getElem h]; exact List.getElem_mem h
theorem FrV.kept {w w' : World} {base : Nat} {v : Value} {ls : List (List UInt8)} {vs : List Value} (h : FrV w base v ls vs) (hs : w.heap.size ≤ w'.heap.size) (hb : ∀ j, base ≤ j → j < w.heap.size → w'.heap[j]? = w.heap[j]?) : FrV w' base v ls vs :=
  ⟨h.len, own_keep h.own (fun j hj => hb j (h.own.lt j hj).1 (h.own.lt j hj).2), fun i hi => RowAt.other (h.rows i hi) hs (fun j hj => hb j (h.apart _ (mem_getD (by have := h.len; omega)) j hj).1 ((h.rows i hi).lt hj)), h.apart⟩
theorem OwnFr.kept {w w' : World} {base : Nat} {v : Value} {ls : List (List UInt8)} (h : OwnFr w base v ls) (hs : w.heap.size ≤ w'.heap.size) (hb : ∀ j, base ≤ j → j < w.heap.size → w'.heap[j]? = w.heap[j]?) : OwnFr w' base v ls :=
  h.elim fun vs h => ⟨vs, h.kept hs hb⟩
theorem OwnFr.below {w w' : World} {base : Nat} {v : Value} {ls : List (List UInt8)} (h : OwnFr w base v ls) (hb : Below w.heap.size w w') : OwnFr w' base v ls := h.kept hb.size (fun j _ hj => hb.block j hj)
theorem FrV.push {w W w' : World} {base g cap : Nat} {v u : Value} {ls : List (List UInt8)} {l : List UInt8} {vs : List Value} (h : FrV w base v ls vs) (hu : BytesAt w u l) (hf : ∀ j, u.ownBlock = some j → base ≤ j ∧ v.ownBlock ≠ some j) (hb : Below w.heap.size w W) (hg : W.grownBy w' v.ownBlock)
    (h2 : w'.ownsRow base 53 1 (.slice (some ⟨g, 0, none⟩) (ls.length + 1) cap) (ls.length + 1) (vs ++ [u])) (hl : v.ownBlock = some g ∨ g = W.heap.size) : FrV w' base (.slice (some ⟨g, 0, none⟩) (ls.length + 1) cap) (ls ++ [l]) (vs ++ [u]) := by
  have hz := hb.size
  have hz2 := hg.size
  have hkeep : ∀ j, j < w.heap.size → v.ownBlock ≠ some j → w'.heap[j]? = w.heap[j]? := fun j hj hn => (hg.block j (Nat.lt_of_lt_of_le hj hz) (fun e => hn e.symm)).trans (hb.block j hj)
  have hap : ∀ x : Value, (∀ j, x.ownBlock = some j → j < w.heap.size) → (∀ j, x.ownBlock = some j → base ≤ j ∧ v.ownBlock ≠ some j) → ∀ j, x.ownBlock = some j → base ≤ j ∧ (Value.slice (some ⟨g, 0, none⟩) (ls.length + 1) cap).ownBlock ≠ some j := fun x h1 h2 j hj => by
    refine ⟨(h2 j hj).1, fun e => ?_⟩
    have e2 : g = j := by simpa [Value.ownBlock] using e
    subst e2
    rcases hl with hl | hl
    · exact (h2 g hj).2 hl
    · have := h1 g hj; omega
  refine ⟨by simp [h.len], by simpa using h2, fun i hi => ?_, fun x hx => ?_⟩
  · by_cases e : i < ls.length
    · have e1 : (vs ++ [u]).getD i undef = vs.getD i undef := by
        rw [List.getD_eq_getElem?_getD, List.getElem?_append_left (by rw [h.len]; omega), ← List.getD_eq_getElem?_getD]
      have e2 : (ls ++ [l])[i] = ls[i] := List.getElem_append_left e
      rw [e1, e2]
      exact RowAt.other (h.rows i e) (by omega) (fun j hj => hkeep j ((h.rows i e).lt hj) (h.apart _ (mem_getD (by rw [h.len]; omega)) j hj).2)
    · have hi2 : i = ls.length := by simp at hi; omega
      subst hi2
      have e1 : (vs ++ [u]).getD ls.length undef = u := by
        rw [← h.len, List.getD_eq_getElem?_getD, List.getElem?_append_right (Nat.le_refl _)]; simp
      have e2 : (ls ++ [l])[ls.length] = l := by simp
      rw [e1, e2]
      exact RowAt.other hu (by omega) (fun j hj => hkeep j (hu.lt hj) (hf j hj).2)
  · rcases List.mem_append.1 hx with hx | hx
    · refine hap x (fun j hj => ?_) (h.apart x hx)
      obtain ⟨i, hi, rfl⟩ := List.mem_iff_getElem.1 hx
      have hr := h.rows i (by rw [← h.len]; omega)
      rw [List.getD_eq_getElem?_getD, List.getElem?_eq_getElem hi] at hr
      exact hr.lt hj
    · obtain rfl := List.mem_singleton.1 hx
      exact hap x (fun j hj => hu.lt hj) hf
structure Pushed (base : Nat) (v v' : Value) (w w' : World) : Prop where
  size : w.heap.size ≤ w'.heap.size
  keep : ∀ j, j < w.heap.size → v.ownBlock ≠ some j → w'.heap[j]? = w.heap[j]?
  apart : ∀ j, j < w.heap.size → v.ownBlock ≠ some j → v'.ownBlock ≠ some j
  below : Below base w w'
theorem Pushed.bytes {w w' : World} {base : Nat} {v v' u : Value} {l : List UInt8} (p : Pushed base v v' w w') (h : BytesAt w u l) (ha : ∀ j, u.ownBlock = some j → v.ownBlock ≠ some j) : BytesAt w' u l :=
  RowAt.other h p.size (fun j hj => p.keep j (h.lt hj) (ha j hj))
end
end Go.Proofs.YtcmajcljafmphaaGreat

namespace Go.Proofs.YtcmajcljafmphaaGreat
section
open Go.RowKit
set_option maxRecDepth 100000
set_option linter.unusedVariables false

structure RowV (w : World) (base : Nat) (e : TypeId) (k : Nat) (v : Value) (n : Nat) (us : List Value) : Prop where
  own : w.ownsRow base e k v n us
  apart : ∀ u ∈ us, ∀ j, u.ownBlock = some j → j < w.heap.size ∧ v.ownBlock ≠ some j
theorem RowV.nil (w : World) (base : Nat) (e : TypeId) (k : Nat) : RowV w base e k (.slice none 0 0) 0 [] := ⟨World.ownsRow_nil _ _ _ _, fun u hu => by cases hu⟩
theorem RowV.kept {w w' : World} {base k n : Nat} {e : TypeId} {v : Value} {us : List Value} (h : RowV w base e k v n us) (hs : w.heap.size ≤ w'.heap.size) (hb : ∀ j, v.ownBlock = some j → w'.heap[j]? = w.heap[j]?) : RowV w' base e k v n us :=
  ⟨own_keep h.own hb, fun u hu j hj => ⟨by have := (h.apart u hu j hj).1; omega, (h.apart u hu j hj).2⟩⟩
theorem RowV.at {w : World} {base k n : Nat} {e : TypeId} {v : Value} {us : List Value} (h : RowV w base e k v n us) : RowAt w k v n us := RowAt.of_own h.own
theorem RowV.form {w : World} {base k n : Nat} {e : TypeId} {v : Value} {us : List Value} (h : RowV w base e k v n us) : ∃ a c, v = .slice a n c := own_form h.own
theorem RowV.lt {w : World} {base k n j : Nat} {e : TypeId} {v : Value} {us : List Value} (h : RowV w base e k v n us) (hj : v.ownBlock = some j) : base ≤ j ∧ j < w.heap.size := h.own.lt j hj
theorem Pushed.mono {base base' : Nat} {v v' : Value} {w w' : World} (h : Pushed base v v' w w') (hb : base' ≤ base) : Pushed base' v v' w w' := ⟨h.size, h.keep, h.apart, h.below.mono hb⟩
theorem RowV.apart_push {w w' : World} {base k n' : Nat} {e : TypeId} {v v' : Value} {us' : List Value} (p : Pushed base v v' w w') (h : w'.ownsRow base e k v' n' us') (hu : ∀ u ∈ us', ∀ j, u.ownBlock = some j → j < w.heap.size ∧ v.ownBlock ≠ some j) : RowV w' base e k v' n' us' :=
  ⟨h, fun u hx j hj => ⟨Nat.lt_of_lt_of_le (hu u hx j hj).1 p.size, p.apart j (hu u hx j hj).1 (hu u hx j hj).2⟩⟩
section
variable {P : Program} {t e : TypeId} {size bytes : Nat}
theorem run_push (E : ElemOk P t e size bytes) (w : World) (ty : TypeId) {base n m : Nat} {v sv : Value} {us news : List Value} (h : RowV w base e size v n us) (hsrc : RowAt w size sv m news) (h1 : ∀ u ∈ news, u.oneCell' = true) (hap : ∀ u ∈ news, ∀ j, u.ownBlock = some j → j < w.heap.size ∧ v.ownBlock ≠ some j)
    (h63 : n + m ≤ maxLen) (hbytes : (n + m) * bytes ≤ 140737488355328) (hbase : base ≤ w.heap.size) :
    ∃ a' c' w', (Builtin.append_ #[t, t] ty #[v, sv]).run P w = .ok (.slice a' (n + m) c') w' ∧ RowV w' base e size (.slice a' (n + m) c') (n + m) (us ++ news) ∧ Pushed base v (.slice a' (n + m) c') w w' := by
  obtain ⟨i, z, hi, hz, hsize, hby, hzs⟩ := E.hi
  have hall : ∀ u ∈ us ++ news, ∀ j, u.ownBlock = some j → j < w.heap.size ∧ v.ownBlock ≠ some j := fun u hu => (List.mem_append.1 hu).elim (fun h' => h.apart u h') (fun h' => hap u h')
  have hlt := fun j (hj : v.ownBlock = some j) => h.own.lt j hj
  obtain ⟨hl, a, c, rfl, hc1, hc2, hc3, hc5, hcell⟩ := id hsrc
  cases a with
  | some ad =>
    have hnews : ∀ j u, news[j]? = some u → w.cell? (ad.add j) = some u := fun j u hu => by
      obtain ⟨b, o, hb, hcc⟩ := hcell j u hu
      cases hb
      rw [add_plain']; exact hcc
    obtain ⟨v', w', hr, h2, h3, _, h5⟩ := run_append_own_at (P := P) w base t ty e i z size bytes E.ht hi hz hsize hby hzs E.hsz v n us h.own ad m c news hl hnews h1 h63 hbytes hbase
    obtain ⟨a', c', rfl⟩ := own_form h2
    have p : Pushed base v (.slice a' (n + m) c') w w' := ⟨h3.size, fun j hj hn => h3.block j hj (fun e => hn e.symm), fun j hj hn e2 => by
      rcases h5 with h5 | h5
      · exact hn (by rw [← h5]; exact e2)
      · rw [h5] at e2; cases e2; omega, (Below.refl _ _).grown h3 hbase (fun j hj => (hlt j hj).1)⟩
    exact ⟨a', c', w', hr, RowV.apart_push p h2 hall, p⟩
  | none =>
    have hc0 := hc3 rfl
    obtain rfl : c = 0 := hc0
    obtain rfl : m = 0 := by omega
    have : news = [] := List.eq_nil_of_length_eq_zero (by simpa using hl)
    subst this
    obtain ⟨a', c', rfl⟩ := own_form h.own
    refine ⟨a', c', w, ?_, by simpa using h, ⟨Nat.le_refl _, fun _ _ _ => rfl, fun _ _ h => h, Below.refl _ _⟩⟩
    subst hsize
    rcases h.own.2 with ⟨he, _⟩ | ⟨g, cap, cur, he, _, _, hnc, _⟩
    · cases he
      simp [Builtin.append_, run_underlying E.ht, sizeOf, typeInfo, hi, Builtin.lenOf, Builtin.firstCells]
    · cases he
      simp [Builtin.append_, run_underlying E.ht, sizeOf, typeInfo, hi, Builtin.lenOf, Builtin.firstCells, loadCells, storeCells, hnc]
end
theorem RowAt.of_new {w : World} {e : TypeId} (cs : Array Value) (n k : Nat) (h : cs.size = n * k) (hn : n ≤ maxLen) : RowAt (w.alloc (.cells cs e)) k (.slice (some ⟨w.heap.size, 0, none⟩) n n) n cs.toList :=
  RowAt.of_block (n := n) (k := k) (cs := cs) (e := e) (fr := (0, 0)) (heap_alloc_new _ _) h hn
end
end Go.Proofs.YtcmajcljafmphaaGreat
