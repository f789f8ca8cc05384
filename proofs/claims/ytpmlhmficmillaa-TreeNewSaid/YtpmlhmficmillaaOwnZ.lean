/- A block that is stored cell by cell, known whole; a row of the call's own that stays. No condition. -/
import Derived.Test.YtpmlhmficmillaaTextIOZ
namespace Go.Proofs.Ytpmlhmficmillaa
open Go.RowKit
set_option maxRecDepth 100000
set_option linter.unusedVariables false

theorem own_keep {w w' : World} {base e k n : Nat} {v : Value} {xs : List Value} (h2 : w.ownsRow base e k v n xs) (hb : ∀ j, v.ownBlock = some j → w'.heap[j]? = w.heap[j]?) : w'.ownsRow base e k v n xs := by
  refine ⟨h2.1, ?_⟩
  rcases h2.2 with h3 | ⟨g, cap, cur, hv, hg, hh, r⟩
  · exact .inl h3
  · exact .inr ⟨g, cap, cur, hv, hg, (hb g (by rw [hv]; rfl)).trans hh, r⟩
def put (w : World) (q : Nat) : Nat → List Value → World
  | _, [] => w
  | i, u :: us => put (w.setCell ⟨q, i, none⟩ u) q (i + 1) us

theorem set_split (cs : Array Value) (i : Nat) (u : Value) (hi : i < cs.size) : (cs.setIfInBounds i u).toList.take (i + 1) = cs.toList.take i ++ [u] := by
  rw [Array.toList_setIfInBounds, List.take_succ_eq_append_getElem (by simpa using hi)]
  simp [List.take_set_of_le]
theorem put_block {q : Nat} {t : TypeId} {fr : Nat × Nat} : ∀ (us : List Value) (i : Nat) (w : World) (cs : Array Value), w.heap[q]? = some (.cells cs t fr) → cs.size = i + us.length → (put w q i us).heap[q]? = some (.cells ⟨cs.toList.take i ++ us⟩ t fr)
  | [], i, w, cs, h, hs => by
    have e : cs.toList.take i = cs.toList := List.take_of_length_le (by simp at hs ⊢; omega)
    simp only [put]
    rw [e, List.append_nil]
    exact h
  | u :: us, i, w, cs, h, hs => by
    simp only [List.length_cons] at hs
    have ih := put_block us (i + 1) _ _ (block_set h i u) (by simp; omega)
    simp only [put]
    rw [ih, set_split cs i u (by omega)]
    simp
theorem put_other {q b : Nat} (hb : b ≠ q) : ∀ (us : List Value) (i : Nat) (w : World), (put w q i us).heap[b]? = w.heap[b]?
  | [], _, _ => rfl
  | u :: us, i, w => by simp only [put]; rw [put_other hb us]; exact block_set_other hb
theorem put_below {B q : Nat} (hB : B ≤ q) : ∀ (us : List Value) (i : Nat) (w0 w : World), Below B w0 w → Below B w0 (put w q i us)
  | [], _, _, _, h => h
  | u :: us, i, w0, w, h => by simp only [put]; exact put_below hB us _ _ _ (h.setCell (p := ⟨q, i, none⟩) hB u)
theorem put_all {q : Nat} {t : TypeId} {fr : Nat × Nat} {w : World} {cs : Array Value} (us : List Value) (h : w.heap[q]? = some (.cells cs t fr)) (hs : cs.size = us.length) : (put w q 0 us).heap[q]? = some (.cells ⟨us⟩ t fr) := by
  rw [put_block us 0 w cs h (by omega)]; simp
theorem set3 {q : Nat} {t : TypeId} {fr : Nat × Nat} {w : World} {cs : Array Value} (h : w.heap[q]? = some (.cells cs t fr)) (hs : cs.size = 3) {u0 u1 u2 : Value} :
    (((w.setCell ⟨q, 0, none⟩ u0).setCell ⟨q, 1, none⟩ u1).setCell ⟨q, 2, none⟩ u2).heap[q]? = some (.cells #[u0, u1, u2] t fr) := put_all [u0, u1, u2] h hs
theorem below3 {B q : Nat} {w0 w : World} (hB : B ≤ q) (h : Below B w0 w) {u0 u1 u2 : Value} :
    Below B w0 (((w.setCell ⟨q, 0, none⟩ u0).setCell ⟨q, 1, none⟩ u1).setCell ⟨q, 2, none⟩ u2) := put_below hB [u0, u1, u2] 0 w0 w h
theorem other3 {b q : Nat} {w : World} (hb : b ≠ q) {u0 u1 u2 : Value} :
    (((w.setCell ⟨q, 0, none⟩ u0).setCell ⟨q, 1, none⟩ u1).setCell ⟨q, 2, none⟩ u2).heap[b]? = w.heap[b]? := put_other hb [u0, u1, u2] 0 w
theorem set13 {q : Nat} {t : TypeId} {fr : Nat × Nat} {w : World} {cs : Array Value} (h : w.heap[q]? = some (.cells cs t fr)) (hs : cs.size = 13) {u0 u1 u2 u3 u4 u5 u6 u7 u8 u9 u10 u11 u12 : Value} :
    (((((((((((((w.setCell ⟨q, 0, none⟩ u0).setCell ⟨q, 1, none⟩ u1).setCell ⟨q, 2, none⟩ u2).setCell ⟨q, 3, none⟩ u3).setCell ⟨q, 4, none⟩ u4).setCell ⟨q, 5, none⟩ u5).setCell ⟨q, 6, none⟩ u6).setCell ⟨q, 7, none⟩ u7).setCell ⟨q, 8, none⟩ u8).setCell ⟨q, 9, none⟩ u9).setCell ⟨q, 10, none⟩ u10).setCell ⟨q, 11, none⟩ u11).setCell ⟨q, 12, none⟩ u12).heap[q]? = some (.cells #[u0, u1, u2, u3, u4, u5, u6, u7, u8, u9, u10, u11, u12] t fr) := put_all [u0, u1, u2, u3, u4, u5, u6, u7, u8, u9, u10, u11, u12] h hs
theorem below13 {B q : Nat} {w0 w : World} (hB : B ≤ q) (h : Below B w0 w) {u0 u1 u2 u3 u4 u5 u6 u7 u8 u9 u10 u11 u12 : Value} :
    Below B w0 (((((((((((((w.setCell ⟨q, 0, none⟩ u0).setCell ⟨q, 1, none⟩ u1).setCell ⟨q, 2, none⟩ u2).setCell ⟨q, 3, none⟩ u3).setCell ⟨q, 4, none⟩ u4).setCell ⟨q, 5, none⟩ u5).setCell ⟨q, 6, none⟩ u6).setCell ⟨q, 7, none⟩ u7).setCell ⟨q, 8, none⟩ u8).setCell ⟨q, 9, none⟩ u9).setCell ⟨q, 10, none⟩ u10).setCell ⟨q, 11, none⟩ u11).setCell ⟨q, 12, none⟩ u12) := put_below hB [u0, u1, u2, u3, u4, u5, u6, u7, u8, u9, u10, u11, u12] 0 w0 w h
theorem other13 {b q : Nat} {w : World} (hb : b ≠ q) {u0 u1 u2 u3 u4 u5 u6 u7 u8 u9 u10 u11 u12 : Value} :
    (((((((((((((w.setCell ⟨q, 0, none⟩ u0).setCell ⟨q, 1, none⟩ u1).setCell ⟨q, 2, none⟩ u2).setCell ⟨q, 3, none⟩ u3).setCell ⟨q, 4, none⟩ u4).setCell ⟨q, 5, none⟩ u5).setCell ⟨q, 6, none⟩ u6).setCell ⟨q, 7, none⟩ u7).setCell ⟨q, 8, none⟩ u8).setCell ⟨q, 9, none⟩ u9).setCell ⟨q, 10, none⟩ u10).setCell ⟨q, 11, none⟩ u11).setCell ⟨q, 12, none⟩ u12).heap[b]? = w.heap[b]? := put_other hb [u0, u1, u2, u3, u4, u5, u6, u7, u8, u9, u10, u11, u12] 0 w
theorem heap2 (w : World) (o1 o2 : Obj) : ((w.alloc o1).alloc o2).heap[w.heap.size + 1]? = some o2 := by
  have h := heap_alloc_new (w.alloc o1) o2
  have e : (w.alloc o1).heap.size = w.heap.size + 1 := by simp
  rw [e] at h; exact h
theorem heap3 (w : World) (o1 o2 o3 : Obj) : (((w.alloc o1).alloc o2).alloc o3).heap[w.heap.size + 2]? = some o3 := by
  have h := heap_alloc_new ((w.alloc o1).alloc o2) o3
  have e : ((w.alloc o1).alloc o2).heap.size = w.heap.size + 2 := by simp
  rw [e] at h; exact h
theorem infoS : (Try.prog.info? 9).map (fun i => (i.zero, i.size, i.bytes)) = some (some (.string ⟨#[]⟩), 1, 16) := by kernel_rfl
end Go.Proofs.Ytpmlhmficmillaa
