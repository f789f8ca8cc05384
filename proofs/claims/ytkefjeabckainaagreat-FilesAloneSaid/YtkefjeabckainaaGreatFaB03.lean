/- What text.Put and text.Take do, under bounds on lengths that each theorem names. No further condition. And the texts behind it. -/
import Derived.Test.YtkefjeabckainaaGreatFaB01
import Derived.Test.YtkefjeabckainaaGreatFaB02
import Derived.Lib.AppendStr
namespace Go.Proofs.YtkefjeabckainaaGreat
section
open Go.RowKit
set_option maxRecDepth 100000

def strL (l : List UInt8) : ByteArray := ⟨l.toArray⟩
theorem strL_size (l : List UInt8) : (strL l).size = l.length := by simp [strL, ByteArray.size]
theorem conv_string (w : World) (v : Value) (l : List UInt8) (h : BytesAt w v l) : (convert 226 9 v).run Tryz.prog w = .ok (.string (strL l)) w := by
  obtain ⟨hl, a, c, rfl, h1, h2, h3, h5, h4⟩ := h
  cases a with
  | none =>
    have hc := h3 rfl
    obtain rfl : l = [] := List.eq_nil_of_length_eq_zero (by omega)
    exact run_convert_bytes_nil w _ _ Tryz.underlying226 Tryz.underlying5 _ _ _ Tryz.underlying9
  | some ad =>
    obtain ⟨b, o, sp⟩ := ad
    have := (h5 _ rfl).1
    subst this
    rw [run_convert_bytes_arg w _ _ Tryz.underlying226 Tryz.underlying5 b o l.length c (l.map fun x => (x.toNat : Int)) (by simp) (fun i hi => ?_) _ Tryz.underlying9]
    · congr 1
      have : ∀ l : List UInt8, List.map ((fun n : Int => UInt8.ofNat n.toNat) ∘ fun x : UInt8 => (x.toNat : Int)) l = l := by
        intro l
        induction l with
        | nil => rfl
        | cons c l ih => simp only [List.map_cons, ih]; simp
      simp [strOfNums, strL, this]
    · obtain ⟨b', o', he, hc⟩ := h4 i (byteV l[i]) (by simp [hi])
      cases he
      rw [hc]
      simp [byteV, List.getD, hi]

theorem OutIs.below {w w' : World} {b : Nat} {xs : List UInt8} (h : OutIs w b xs) (hb : Below w.heap.size w w') : OutIs w' b xs := by
  obtain ⟨v, ot, h1, h2⟩ := h
  refine ⟨v, ot, (hb.block b (lt_of_block h1)).trans h1, h2.1, ?_⟩
  rcases h2.2 with h3 | ⟨g, cap, cur, hv, hg, hh, r⟩
  · exact .inl h3
  · exact .inr ⟨g, cap, cur, hv, hg, (hb.block g (lt_of_block hh)).trans hh, r⟩
theorem OutIs.lt {w : World} {b : Nat} {xs : List UInt8} (h : OutIs w b xs) : b < w.heap.size := by
  obtain ⟨v, ot, h1, _⟩ := h
  exact lt_of_block h1

theorem sn {W a b : World} (h : Below W.heap.size W a) (k : Below a.heap.size a b) : Below W.heap.size W b := h.trans (k.mono h.size)

def Holds (w : World) (e : Ending) (w' : World) : Prop := e = .returned (.bool true) ∧ Below w.heap.size w w'

end
end Go.Proofs.YtkefjeabckainaaGreat

namespace Go.Proofs.YtkefjeabckainaaGreat
section
open Go.RowKit
set_option maxRecDepth 100000
def Foot (w : World) (b k : Nat) : Prop := k = b ∨ ∃ v, w.cell? ⟨b, 0, none⟩ = some v ∧ v.ownBlock = some k

def TwoAt (w : World) (b : Nat) : Prop := ∃ (cs : Array Value) (t : TypeId) (fr : Nat × Nat), w.heap[b]? = some (.cells cs t fr) ∧ cs.size = 2
structure OStep (b : Nat) (w w' : World) : Prop where
  below : Below b w w'
  block : ∀ k, k < w.heap.size → ¬ Foot w b k → w'.heap[k]? = w.heap[k]? ∧ ¬ Foot w' b k
  two : TwoAt w b → TwoAt w' b ∧ ∀ k, Foot w' b k → Foot w b k

theorem OStep.refl (b : Nat) (w : World) : OStep b w w := ⟨Below.refl _ _, fun _ _ h => ⟨rfl, h⟩, fun h => ⟨h, fun _ h => h⟩⟩
theorem OStep.trans {b : Nat} {w w1 w2 : World} (h : OStep b w w1) (k : OStep b w1 w2) : OStep b w w2 :=
  ⟨h.below.trans k.below, fun j hj hn => by
    obtain ⟨e1, n1⟩ := h.block j hj hn
    obtain ⟨e2, n2⟩ := k.block j (Nat.lt_of_lt_of_le hj h.below.size) n1
    exact ⟨e2.trans e1, n2⟩, fun ht => by
    obtain ⟨t1, f1⟩ := h.two ht
    obtain ⟨t2, f2⟩ := k.two t1
    exact ⟨t2, fun j hj => f1 j (f2 j hj)⟩⟩
theorem OStep.pure {b : Nat} {w w' : World} (hb : b < w.heap.size) (h : Below w.heap.size w w') : OStep b w w' :=
  have hf : ∀ k, Foot w' b k → Foot w b k := fun k hf => by
    rcases hf with hf | ⟨v, hv, hk⟩
    · exact .inl hf
    · exact .inr ⟨v, by rw [h.cell (p := ⟨b, 0, none⟩) hb] at hv; exact hv, hk⟩
  ⟨h.mono (Nat.le_of_lt hb), fun j hj hn => ⟨h.block j hj, fun h => hn (hf j h)⟩, fun ⟨cs, t, fr, hc, hs⟩ => ⟨⟨cs, t, fr, (h.block b hb).trans hc, hs⟩, hf⟩⟩

theorem OutIs.new {w : World} {b : Nat} {xs : List UInt8} (h : OutIs w b xs) (o : Obj) : ¬ Foot (w.alloc o) b w.heap.size := by
  obtain ⟨v, ot, h1, h2⟩ := h
  have hlt := lt_of_block h1
  rintro (he | ⟨u, hu, hk⟩)
  · omega
  · have h1' : (w.alloc o).heap[b]? = some (.cells #[v] ot (0, 0)) := (heap_alloc_old w o hlt).trans h1
    rw [cell_of_one h1'] at hu
    cases hu
    have := (h2.lt _ hk).2
    omega

end
end Go.Proofs.YtkefjeabckainaaGreat

namespace Go.Proofs.YtkefjeabckainaaGreat
section
open Go.RowKit
set_option maxRecDepth 100000
theorem OStep.store {b : Nat} {w w1 : World} {p : Addr} (h : OStep b w w1) (hp : w.heap.size ≤ p.block) (_hf : ¬ Foot w1 b p.block) (hb : b < w.heap.size) (u : Value) : OStep b w (w1.setCell p u) :=
  have hc0 : (w1.setCell p u).cell? ⟨b, 0, none⟩ = w1.cell? ⟨b, 0, none⟩ := World.cell?_of_block (w := w1) (block_set_other (by show b ≠ p.block; omega))
  have hfoot : ∀ k, Foot (w1.setCell p u) b k → Foot w1 b k := by
    rintro k (he | ⟨v, hv, hk2⟩)
    · exact .inl he
    · rw [hc0] at hv; exact .inr ⟨v, hv, hk2⟩
  ⟨h.below.setCell (by omega) _, fun k hk hn => by
    obtain ⟨e1, n1⟩ := h.block k hk hn
    exact ⟨(block_set_other (by omega)).trans e1, fun hf => n1 (hfoot k hf)⟩, fun ht => by
    obtain ⟨⟨cs, t, fr, hc, hs⟩, f1⟩ := h.two ht
    exact ⟨⟨cs, t, fr, (block_set_other (by show b ≠ p.block; omega)).trans hc, hs⟩, fun k hk => f1 k (hfoot k hk)⟩⟩
theorem Foot.store {b k : Nat} {w : World} {p : Addr} {u : Value} (hp : p.block ≠ b) (hf : ¬ Foot w b k) : ¬ Foot (w.setCell p u) b k := by
  rintro (he | ⟨v, hv, hk2⟩)
  · exact hf (.inl he)
  · have : (w.setCell p u).cell? ⟨b, 0, none⟩ = w.cell? ⟨b, 0, none⟩ := World.cell?_of_block (w := w) (block_set_other (by show b ≠ p.block; omega))
    rw [this] at hv
    exact hf (.inr ⟨v, hv, hk2⟩)
end
end Go.Proofs.YtkefjeabckainaaGreat

namespace Go.Proofs.YtkefjeabckainaaGreat
section
open Go.RowKit
set_option maxRecDepth 100000
set_option linter.unusedVariables false

theorem own_keep {w w' : World} {base e k n : Nat} {v : Value} {xs : List Value} (h2 : w.ownsRow base e k v n xs) (hb : ∀ j, v.ownBlock = some j → w'.heap[j]? = w.heap[j]?) : w'.ownsRow base e k v n xs := by
  refine ⟨h2.1, ?_⟩
  rcases h2.2 with h3 | ⟨g, cap, cur, hv, hg, hh, r⟩
  · exact .inl h3
  · exact .inr ⟨g, cap, cur, hv, hg, (hb g (by rw [hv]; rfl)).trans hh, r⟩
def put (w : World) (q : Nat) : Nat → List Value → World
  | _, [] => w
  | i, u :: us => put (w.setCell ⟨q, i, none⟩ u) q (i + 1) us

theorem heap2 (w : World) (o1 o2 : Obj) : ((w.alloc o1).alloc o2).heap[w.heap.size + 1]? = some o2 := by
  have h := heap_alloc_new (w.alloc o1) o2
  have e : (w.alloc o1).heap.size = w.heap.size + 1 := by simp
  rw [e] at h; exact h
theorem infoS : (Tryz.prog.info? 9).map (fun i => (i.zero, i.size, i.bytes)) = some (some (.string ⟨#[]⟩), 1, 16) := by kernel_rfl
end
end Go.Proofs.YtkefjeabckainaaGreat

namespace Go.Proofs.YtkefjeabckainaaGreat
section
open Go.RowKit
set_option maxRecDepth 100000
end
end Go.Proofs.YtkefjeabckainaaGreat
