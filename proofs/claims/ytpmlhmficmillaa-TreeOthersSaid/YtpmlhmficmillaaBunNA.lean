/- What the methods of num.Out, slices.Clone and slices.Clip do, under bounds on lengths that each theorem names. No further condition.
What num.Of and the methods of num.In do, under bounds on lengths that each theorem names. No further condition. -/
import Derived.Test.YtpmlhmficmillaaBunA
import Derived.Test.YtpmlhmficmillaaProg
import Derived.Recover
namespace Go.Proofs.Ytpmlhmficmillaa
section
open Go.RowKit
set_option maxRecDepth 100000
def OutIs (w : World) (b : Nat) (xs : List UInt8) : Prop :=
  ∃ v, ∃ ot : TypeId, w.heap[b]? = some (.cells #[v] ot (0, 0)) ∧ w.ownsRow (b + 1) 5 1 v xs.length (xs.map byteV)

theorem own_empty (w : World) (e k : Nat) : (w.alloc (.cells #[] e)).ownsRow w.heap.size e k (.slice (some ⟨w.heap.size, 0, none⟩) 0 0) 0 [] :=
  World.ownsRow_made w #[] 0 (Nat.le_refl _) (by unfold maxLen; omega) (by simp)

theorem BytesAt.of_own {w : World} {base e n : Nat} {v : Value} {xs : List Value} {l : List UInt8} (h : w.ownsRow base e 1 v n xs) (hx : xs = l.map byteV) : BytesAt w v l := by
  subst hx
  have := RowAt.of_own h
  obtain rfl : n = l.length := by have := h.1; simp at this; omega
  exact this

theorem OutIs.bytes {w : World} {b : Nat} {xs : List UInt8} (h : OutIs w b xs) : ∃ v, ∃ ot : TypeId, w.heap[b]? = some (.cells #[v] ot (0, 0)) ∧ BytesAt w v xs := by
  obtain ⟨v, ot, h1, h2⟩ := h
  exact ⟨v, ot, h1, BytesAt.of_own h2 rfl⟩

end
end Go.Proofs.Ytpmlhmficmillaa

namespace Go.Proofs.Ytpmlhmficmillaa
section
open Go.RowKit
set_option maxRecDepth 100000

theorem block_cell {w : World} {b : Nat} {cs : Array Value} {t : TypeId} {fr : Nat × Nat} (h : w.heap[b]? = some (.cells cs t fr)) (i : Nat) : w.cell? ⟨b, i, none⟩ = cs[i]? := by simp [World.cell?, h]
theorem block_free {w : World} {b : Nat} {cs : Array Value} {t : TypeId} (h : w.heap[b]? = some (.cells cs t (0, 0))) (i : Nat) : w.frozen? ⟨b, i, none⟩ = false := by simp [World.frozen?, h]
theorem block_set {w : World} {b : Nat} {cs : Array Value} {t : TypeId} {fr : Nat × Nat} (h : w.heap[b]? = some (.cells cs t fr)) (i : Nat) (u : Value) : (w.setCell ⟨b, i, none⟩ u).heap[b]? = some (.cells (cs.setIfInBounds i u) t fr) := by
  have hlt := lt_of_block h
  have h' : w.heap[b] = .cells cs t fr := by simpa [Array.getElem?_eq_getElem hlt] using h
  show (w.heap.modify b _)[b]? = _
  rw [Array.getElem?_modify, if_pos rfl, h]
  rfl
theorem block_set_other {w : World} {b : Nat} {p : Addr} {u : Value} (hne : b ≠ p.block) : (w.setCell p u).heap[b]? = w.heap[b]? := Below.heap_setCell _ _ _ _ hne

theorem RowAt.other {w w' : World} {k n : Nat} {v : Value} {xs : List Value} (h : RowAt w k v n xs) (hsz : w.heap.size ≤ w'.heap.size) (hk : ∀ j, v.ownBlock = some j → w'.heap[j]? = w.heap[j]?) : RowAt w' k v n xs := by
  obtain ⟨hl, a, c, rfl, h1, h2, h3, h5, h4⟩ := h
  refine ⟨hl, a, c, rfl, h1, h2, h3, fun ad ha => ⟨(h5 ad ha).1, Nat.lt_of_lt_of_le (h5 ad ha).2 hsz⟩, fun i u hu => ?_⟩
  obtain ⟨b, o, rfl, hc⟩ := h4 i u hu
  refine ⟨b, o, rfl, ?_⟩
  rw [World.cell?_of_block (w := w) (hk b rfl)]; exact hc
theorem BytesAt.setCell {w : World} {v : Value} {l : List UInt8} (h : BytesAt w v l) {p : Addr} (u : Value) (hne : v.ownBlock ≠ some p.block) : BytesAt (w.setCell p u) v l :=
  RowAt.other h (by simp [World.setCell]) fun j hj => block_set_other fun e => hne (by rw [hj, e])

def InIs (w : World) (b : Nat) (l : List UInt8) (err : Nat) : Prop :=
  ∃ v, w.heap[b]? = some (.cells #[v, .int .i64 (err : Int)] 160 (0, 0)) ∧ BytesAt w v l ∧ v.ownBlock ≠ some b

theorem InIs.parts {w : World} {b : Nat} {l : List UInt8} {e : Nat} (h : InIs w b l e) : ∃ v, w.cell? ⟨b, 0, none⟩ = some v ∧ w.cell? ⟨b, 0 + 1, none⟩ = some (.int .i64 (e : Int)) ∧ BytesAt w v l := by
  obtain ⟨v, hb, hv, _⟩ := h
  exact ⟨v, block_cell hb 0, block_cell hb 1, hv⟩

theorem InIs.below {w w' : World} {b : Nat} {l : List UInt8} {e : Nat} (h : InIs w b l e) (hb : Below w.heap.size w w') : InIs w' b l e := by
  obtain ⟨v, h1, h2, h3⟩ := h
  exact ⟨v, (hb.block b (lt_of_block h1)).trans h1, h2.below hb, h3⟩
theorem InIs.lt {w : World} {b : Nat} {l : List UInt8} {e : Nat} (h : InIs w b l e) : b < w.heap.size := by
  obtain ⟨v, h1, _⟩ := h
  exact lt_of_block h1

end
end Go.Proofs.Ytpmlhmficmillaa
