/- A user is put into the table, where that is allowed. Conditions: as the document allows it. -/
import Derived.Test.YtonhliipbdniiaaUs4
import Derived.Deep.RegionHeld3
namespace Go.Proofs.Ytonhliipbdniiaa
open Go.RowKit
set_option maxRecDepth 100000
set_option linter.unusedVariables false

/-- The table while users are put. -/
def UAt (w : World) (p : Nat) (us : List ByteArray) : Prop :=
  ∃ uv, w.heap[p]? = some (.cells #[uv, .slice none 0 0] 114 (0, 0)) ∧ w.ownsRow (p + 1) 9 1 uv us.length (us.map fun s => Value.string s)
theorem UAt.tab {w : World} {p : Nat} {us : List ByteArray} (h : UAt w p us) : TabAt w p us [] := by
  obtain ⟨uv, h1, h2⟩ := h
  exact ⟨uv, _, h1, TxtsAt.of_own h2, RowAt.nil.weak, fun _ h => by cases h⟩
theorem UAt.below {w w' : World} {p : Nat} {us : List ByteArray} (h : UAt w p us) (hb : Below w.heap.size w w') : UAt w' p us := by
  obtain ⟨uv, h1, h2⟩ := h
  exact ⟨uv, (hb.block p (lt_of_block h1)).trans h1, own_keep h2 (fun j hj => hb.block j (h2.lt j hj).2)⟩

set_option maxHeartbeats 800000 in
theorem tuser_any (p : Nat) (us : List ByteArray) (s : ByteArray) (w : World) (h : UAt w p us) (hl : us.length ≤ 1000) (hs : s.size ≤ maxLen) (hc : calledB s = true) (hn : hasS us s = false) :
    Calls Try.prog 64 #[.pointer (some ⟨p, 0, none⟩), .string s] w fun e w' => e = .returned (.tuple #[]) ∧ UAt w' p (us ++ [s]) ∧ Below p w w' := by
  have hname := hid (uname_any s w hs)
  rw [hc] at hname
  have hpl : p < w.heap.size := by obtain ⟨_, h1, _⟩ := h; exact lt_of_block h1
  replace h := hid h
  replace hpl := hid hpl
  replace hc := hid hc
  go_enter Try.func64, Try.ntmps64
  go_wp2_with fail
  refine hname.out.mono ?_
  rintro e w1 ⟨rfl, hb1⟩
  have h1 := h.out.below hb1
  have hB1 := hid (hb1.mono (Nat.le_of_lt hpl.out))
  have hhas := hid (has_any p us [] s w1 h1.tab (by omega))
  rw [hn] at hhas
  have hm6 := hid (umust_ok 6 w1)
  have hm7 := hid (umust_ok 7 w1)
  replace h1 := hid h1
  clear hb1 hname
  go_wp2_with fail
  refine hm6.out.mono ?_
  rintro e w2 ⟨rfl, rfl⟩
  go_wp2_with fail
  refine hhas.out.mono ?_
  rintro e w3 ⟨rfl, rfl⟩
  go_wp2_with fail
  refine hm7.out.mono ?_
  rintro e w4 ⟨rfl, rfl⟩
  obtain ⟨uv, hb, hown⟩ := h1.out
  have hA := (Below.refl w4.heap.size w4).alloc (Nat.le_refl _) (.cells #[.string s] 9)
  have hownA := hid (own_keep hown (fun j hj => hA.block j (hown.lt j hj).2))
  have hsrc : Hid (RowAt (w4.alloc (.cells #[.string s] 9)) 1 (.slice (some ⟨w4.heap.size, 0, none⟩) 1 1) 1 [.string s]) := hid (RowAt.of_block (n := 1) (heap_alloc_new _ _) rfl (by unfold maxLen; omega))
  have e0 : w4.cell? ⟨p, 0, none⟩ = some uv := block_cell hb 0
  have hplt := lt_of_block hb
  have hbA := hid ((hA.block p hplt).trans hb)
  have hneq := hid (show some p ≠ uv.ownBlock from fun e => by have := (hown.lt _ e.symm).1; omega)
  have hvl := hid hown.lt
  have hBA := hid (hB1.out.trans (hA.mono (Nat.le_of_lt hplt)))
  replace hb := hid hb
  replace hown := hid hown
  replace hA := hid hA
  clear hm6 hm7 hhas h1 h hB1
  go_wp2_with (at_builtin; refine wpList_append_row uelemS _ rfl (.tmp 16) (.tmp 18) rfl (p + 1) uv us.length _ rfl hownA.out _ 1 [.string s] rfl hsrc.out (by intro u hu; simp at hu; subst hu; rfl) (by unfold maxLen; omega) (by omega) (by simp; omega) ?_)
  intro a' c' w' h2 h3
  have hb' := (h3.block p (by simp; omega) hneq.out).trans hbA.out
  have f0 : w'.frozen? ⟨p, 0, none⟩ = false := block_free hb' 0
  have e0' : w'.cell? ⟨p, 0, none⟩ = some uv := block_cell hb' 0
  have hset := hid (block_set hb' 0 (.slice a' (us.length + 1) c'))
  have hown2 := hid (ownsRow_setCell_below h2 (a := ⟨p, 0, none⟩) (by show p < p + 1; omega) (.slice a' (us.length + 1) c'))
  have hbl2 : Hid (Below p w (w'.setCell ⟨p, 0, none⟩ (.slice a' (us.length + 1) c'))) := hid ((hBA.out.grown h3 (by simp; omega) (fun j hj => by have := (hvl.out j hj).1; omega)).setCell (Nat.le_refl _) _)
  replace hb' := hid hb'
  clear h2 h3
  go_wp2_with fail
  go_end0
  refine ⟨rfl, ⟨_, hset.out, ?_⟩, hbl2.out⟩
  have h := hown2.out
  rw [show (us ++ [s]).length = us.length + 1 by simp, show (us ++ [s]).map (fun s => Value.string s) = us.map (fun s => Value.string s) ++ [.string s] by simp]
  exact h
end Go.Proofs.Ytonhliipbdniiaa
