/- What the methods of num.In and text.Take leave as it was, block by block, under bounds on lengths that each theorem names. No further condition.
A row of stores into one block: what the block then holds, and what stays. No condition. -/
import Derived.Test.YtpmlhmficmillaaBunN2
import Derived.Test.YtpmlhmficmillaaBunOW
namespace Go.Proofs.Ytpmlhmficmillaa
section
open Go.RowKit
set_option maxRecDepth 100000
theorem OStep.store {b : Nat} {w w1 : World} {p : Addr} (h : OStep b w w1) (hp : w.heap.size ≤ p.block) (_hf : ¬ Foot w1 b p.block) (hb : b < w.heap.size) (u : Value) : OStep b w (w1.setCell p u) :=
  have hc0 : (w1.setCell p u).cell? ⟨b, 0, none⟩ = w1.cell? ⟨b, 0, none⟩ := World.cell?_of_block (w := w1) (block_set_other (by show b ≠ p.block; omega))
  have hfoot : ∀ k, Foot (w1.setCell p u) b k → Foot w1 b k := by
    rintro k (he | ⟨v, hv, hk2⟩)
    · exact .inl he
    · rw [hc0] at hv; exact .inr ⟨v, hv, hk2⟩
  ⟨h.below.setCell (by omega) _, fun k hk hn => by
    obtain ⟨e1, n1⟩ := h.block k hk hn
    exact ⟨(block_set_other (by omega)).trans e1, fun hf => n1 (hfoot k hf)⟩, fun ht => by
    obtain ⟨⟨cs, t, fr, hc, hs⟩, f1⟩ := h.two ht
    exact ⟨⟨cs, t, fr, (block_set_other (by show b ≠ p.block; omega)).trans hc, hs⟩, fun k hk => f1 k (hfoot k hk)⟩⟩
theorem Foot.store {b k : Nat} {w : World} {p : Addr} {u : Value} (hp : p.block ≠ b) (hf : ¬ Foot w b k) : ¬ Foot (w.setCell p u) b k := by
  rintro (he | ⟨v, hv, hk2⟩)
  · exact hf (.inl he)
  · have : (w.setCell p u).cell? ⟨b, 0, none⟩ = w.cell? ⟨b, 0, none⟩ := World.cell?_of_block (w := w) (block_set_other (by show b ≠ p.block; omega))
    rw [this] at hv
    exact hf (.inr ⟨v, hv, hk2⟩)
theorem InIs.store {w : World} {b : Nat} {l : List UInt8} {e : Nat} (h : InIs w b l e) {p : Addr} (u : Value) (hf : ¬ Foot w b p.block) : InIs (w.setCell p u) b l e := by
  obtain ⟨v, hb, hl, hne⟩ := h
  have hpb : b ≠ p.block := fun e => hf (.inl e.symm)
  exact ⟨v, (block_set_other hpb).trans hb, hl.setCell _ (fun e => hf (.inr ⟨v, block_cell hb 0, e⟩)), hne⟩
theorem InIs.two {w : World} {b : Nat} {l : List UInt8} {e : Nat} (h : InIs w b l e) : TwoAt w b := by
  obtain ⟨v, hb, _⟩ := h
  exact ⟨_, _, _, hb, rfl⟩
theorem InIs.foot_lt {w : World} {b k : Nat} {l : List UInt8} {e : Nat} (h : InIs w b l e) (hf : Foot w b k) : k < w.heap.size := by
  obtain ⟨v, hb, hl, hne⟩ := h
  rcases hf with rfl | ⟨v', hv, hk⟩
  · exact lt_of_block hb
  · rw [block_cell hb 0] at hv
    cases hv
    exact hl.lt hk
theorem InIs.new {w : World} {b : Nat} {l : List UInt8} {e : Nat} (h : InIs w b l e) (o : Obj) : ¬ Foot (w.alloc o) b w.heap.size := by
  intro hf
  refine Nat.lt_irrefl w.heap.size (h.foot_lt ?_)
  rcases hf with he | ⟨v, hv, hk⟩
  · exact .inl he
  · right
    obtain ⟨v0, hb, hl, hne⟩ := h
    have : (w.alloc o).cell? ⟨b, 0, none⟩ = w.cell? ⟨b, 0, none⟩ := World.cell?_of_block (w := w) (heap_alloc_old w o (lt_of_block hb))
    rw [this] at hv
    exact ⟨v, hv, hk⟩

end
end Go.Proofs.Ytpmlhmficmillaa

namespace Go.Proofs.Ytpmlhmficmillaa
section
open Go.RowKit
set_option maxRecDepth 100000
end
end Go.Proofs.Ytpmlhmficmillaa
