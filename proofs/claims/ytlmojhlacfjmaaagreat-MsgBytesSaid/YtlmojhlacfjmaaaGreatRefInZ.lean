/- What the methods of the reference In do, under bounds on lengths that each theorem names. No further condition. -/
import Derived.Test.YtlmojhlacfjmaaaGreatTextIOZ
import Derived.Deep.QuietTactic
import Derived.BigQuiet
import Derived.Deep.RegionHeld3
namespace Go.Proofs.YtlmojhlacfjmaaaGreat
open Go.RowKit
set_option maxRecDepth 100000

theorem bdrewN {B : Nat} {a w : World} (h : Below B a w) (n : Nat) : Below B a (w.drewN n) := h.trans ⟨rfl, rfl, rfl, Nat.le_refl _, fun _ _ => rfl⟩

def RInIs (w : World) (b : Nat) (l : List UInt8) (err : Nat) : Prop :=
 ∃ v at_ L, w.heap[b]? = some (.cells #[v, .int .i64 ((at_ : Nat) : Int), .int .i64 (err : Int)] 86 (0, 0)) ∧ BytesAt w v L ∧ v.ownBlock ≠ some b ∧ at_ ≤ L.length ∧ L.length ≤ 1000000000 ∧ l = L.drop at_

theorem RInIs.below {w w' : World} {b : Nat} {l : List UInt8} {e : Nat} (h : RInIs w b l e) (hb : Below w.heap.size w w') : RInIs w' b l e := by
 obtain ⟨v, at_, L, h1, h2, h3⟩ := h
 exact ⟨v, at_, L, (hb.block b (lt_of_block h1)).trans h1, h2.below hb, h3⟩
theorem RInIs.lt {w : World} {b : Nat} {l : List UInt8} {e : Nat} (h : RInIs w b l e) : b < w.heap.size := by
 obtain ⟨v, at_, L, h1, _⟩ := h
 exact lt_of_block h1
theorem RInIs.setBad {w : World} {b : Nat} {l : List UInt8} {e : Nat} (h : RInIs w b l e) (e2 : Nat) : RInIs (w.setCell ⟨b, 0 + 2, none⟩ (.int .i64 (e2 : Int))) b l e2 := by
 obtain ⟨v, at_, L, h1, h2, h3, h4⟩ := h
 exact ⟨v, at_, L, block_set h1 2 _, h2.setCell _ h3, h3, h4⟩

theorem RInIs.drewN {w : World} {b : Nat} {l : List UInt8} {e : Nat} (h : RInIs w b l e) (m : Nat) : RInIs (w.drewN m) b l e := h.below (bdrewN (Below.refl _ _) m)

theorem RInIs.setAt {w : World} {b n at_ e : Nat} {v : Value} {L : List UInt8} (hb : w.heap[b]? = some (.cells #[v, .int .i64 ((at_ : Nat) : Int), .int .i64 (e : Int)] 86 (0, 0))) (hv : BytesAt w v L) (hne : v.ownBlock ≠ some b) (hle : at_ + n ≤ L.length) (hLL : L.length ≤ 1000000000) :
  RInIs (w.setCell ⟨b, 0 + 1, none⟩ (.int .i64 ((at_ : Int) + (n : Int)))) b ((L.drop at_).drop n) e :=
 ⟨v, at_ + n, L, by have := block_set hb 1 (.int .i64 ((at_ : Int) + (n : Int))); simpa using this, hv.setCell _ hne, hne, hle, hLL, by rw [List.drop_drop]⟩

theorem rin_left_any (b : Nat) (l : List UInt8) (e : Nat) (w : World) (h : RInIs w b l e) :
  Calls Tryz.prog 38 #[.pointer (some ⟨b, 0, none⟩)] w fun en w' => en = .returned (.int .i64 (leftN l e : Int)) ∧ Below w.heap.size w w' := by
 obtain ⟨v, at_, L, hb, hv, hne, hat, hLL, rfl⟩ := h
 have hc0 : w.cell? ⟨b, 0, none⟩ = some v := block_cell hb 0
 have hc1 : w.cell? ⟨b, 0 + 1, none⟩ = some (.int .i64 (at_ : Int)) := block_cell hb 1
 have hc2 : w.cell? ⟨b, 0 + 2, none⟩ = some (.int .i64 (e : Int)) := block_cell hb 2
 obtain ⟨a, c, rfl, hcl, hcm, hcn⟩ := hv.form
 unfold maxLen at hcm
 clear hb
 by_cases he : e = 0
 ·subst he
  have E := hid (show leftN (L.drop at_) 0 = L.length - at_ by simp [leftN])
  have hsub : IntKind.i64.wrap ((L.length : Int) - (at_ : Int)) = (L.length : Int) - at_ := IntWalk.i64_in _ (by omega)
  go_enter Tryz.func38, Tryz.ntmps38
  go_wp2_with fail
  go_quiet (fail)
  go_wp2_with fail
  go_ret
  exact ⟨ret_int (by rw [E.out]; omega), bdrewN (Below.refl _ _) nq⟩
 ·have k0 : ((e : Int) != 0) = true := by simpa using he
  have E := hid (show leftN (L.drop at_) e = 0 by unfold leftN; rw [if_pos he])
  clear he
  go_enter Tryz.func38, Tryz.ntmps38
  go_wp2_with fail
  go_ret
  exact ⟨by rw [E.out]; rfl, Below.refl _ _⟩


theorem rin_new (w : World) (v : Value) (l : List UInt8) (h : BytesAt w v l) (hl : l.length ≤ 1000000000) : RInIs (w.alloc (.cells #[v, .int .i64 0, .int .i64 0] 86)) w.heap.size l 0 :=
 ⟨v, 0, l, heap_alloc_new _ _, h.below ((Below.refl _ _).alloc (Nat.le_refl _) _), fun he => absurd (h.lt he) (Nat.lt_irrefl _), Nat.zero_le _, hl, rfl⟩
end Go.Proofs.YtlmojhlacfjmaaaGreat
