/- A message whose texts are left out, in the reference (bare). Conditions: at most thirty names.
The reference's Same. Conditions: known types, numbers in their types, few names, qids, data. -/
import Derived.Test.YtlmojhlacfjmaaaGreatBunU
import Derived.Test.YtlmojhlacfjmaaaGreatBunK
import Derived.Deep.DeepCutAuto
import Derived.Laws.CopyOwn
import Derived.BigGuard
namespace Go.Proofs.YtlmojhlacfjmaaaGreat
section
open Go.RowKit
set_option maxRecDepth 100000
set_option linter.unusedVariables false

theorem elemRS : ElemOk Tryz.prog 24 9 1 16 := elemOk_of Tryz.underlying24 infoStr rfl (by decide)
def zeroR : Array Value := zeroM.rcells (.slice none 0 0) (.slice none 0 0) ⟨#[]⟩
theorem zeroR_lit : zeroR = #[.int .u8 0, .int .u16 0, .int .u32 0, .string ⟨#[]⟩, .int .u32 0, .int .u32 0, .int .u32 0, .string ⟨#[]⟩, .string ⟨#[]⟩, .string ⟨#[]⟩, .int .u16 0, .slice none 0 0, .slice none 0 0, .int .u8 0, .int .u32 0, .int .u64 0, .int .u32 0, .int .u8 0, .int .u32 0, .string ⟨#[]⟩, .int .u64 0, .int .u32 0, .string ⟨#[]⟩, .int .u16 0, .int .u32 0, .int .u8 0, .int .u32 0, .int .u64 0, .int .u32 0, .int .u32 0, .int .u32 0, .int .u64 0, .string ⟨#[]⟩, .string ⟨#[]⟩, .string ⟨#[]⟩, .string ⟨#[]⟩] := rfl
structure BareSt (w W : World) (cs : Array Value) : Prop where
 one : W.heap[w.heap.size]? = some (.cells cs 46 (0, 0))
 two : W.heap[w.heap.size + 1]? = some (.cells zeroR 46 (0, 0))
 bel : Below w.heap.size w W
theorem BareSt.start {w : World} {cs : Array Value} : BareSt w ((w.alloc (.cells cs 46)).alloc (.cells zeroR 46)) cs :=
 ⟨by rw [heap_alloc_old _ _ (by simp), heap_alloc_new], heap2 _ _ _, ((Below.refl w.heap.size w).alloc (Nat.le_refl _) _).alloc (by simp) _⟩
theorem BareSt.set {w W : World} {cs cs2 : Array Value} (h : BareSt w W cs) (i : Nat) (v : Value) (hc : cs.setIfInBounds i v = cs2) : BareSt w (W.setCell ⟨w.heap.size, i, none⟩ v) cs2 := by
 subst hc
 exact ⟨block_set h.one i v, (block_set_other (p := ⟨w.heap.size, i, none⟩) (u := v) (by show _ ≠ _; simp)).trans h.two, h.bel.setCell (p := ⟨w.heap.size, i, none⟩) (Nat.le_refl _) _⟩
theorem BareSt.up {w W W2 : World} {cs : Array Value} (h : BareSt w W cs) (hb : Below (w.heap.size + 2) W W2) : BareSt w W2 cs :=
 ⟨(hb.block _ (by omega)).trans h.one, (hb.block _ (by omega)).trans h.two, h.bel.trans (hb.mono (by omega))⟩

def BarePost (w : World) (m : M) (vQ : Value) (d : ByteArray) (e : Ending) (w' : World) : Prop :=
 ∃ vN, e = .returned (.agg (m.bare.rcells vN vQ d)) ∧ StrsAt w' vN m.bare.names ∧ (∀ k, vN.ownBlock = some k → w.heap.size ≤ k) ∧ Below w.heap.size w w'

set_option maxHeartbeats 6400000 in
theorem rbare_any (m : M) (vN vQ : Value) (d : ByteArray) (w : World) (hN : StrsAt w vN m.names) (hQ : ∃ a n c, vQ = .slice a n c) (hf : m.names.length ≤ 30) :
  Calls Tryz.prog 34 #[.agg (m.rcells vN vQ d)] w (BarePost w m vQ d) := by
 obtain ⟨aN, cN, rfl, hc1, hc2⟩ := hN.form
 have hone1 : Hid (∀ al n cl, (m.bare.rcells (.slice al n cl) vQ d).all (·.oneCell') = true) := hid (by obtain ⟨a2, n2, c2, rfl⟩ := hQ; intro al n cl; kernel_rfl)
 clear hQ
 have hlen : m.bare.names.length = m.names.length := by simp [M.bare]
 have hnames : Hid (m.bare.names = List.replicate m.names.length ⟨#[]⟩) := hid rfl
 clear hN
 obtain ⟨q, hq⟩ : ∃ q, q = m.names.length := ⟨_, rfl⟩
 rw [← hq] at hf hnames hc1 hlen ⊢
 replace hq := hid hq
 unfold maxLen at hc2
 obtain ⟨vN, hvN⟩ : ∃ v, v = Value.slice aN q cN := ⟨_, rfl⟩
 rw [← hvN]
 replace hvN := hid hvN
 obtain ⟨W0, hW0⟩ : ∃ W, W = (w.alloc (.cells (m.rcells vN vQ d) 46)).alloc (.cells zeroR 46) := ⟨_, rfl⟩
 have hS0 := hid (show BareSt w W0 (m.rcells vN vQ d) by rw [hW0]; exact BareSt.start)
 obtain ⟨cs0, hcs0⟩ : ∃ cs, cs = m.rcells vN vQ d := ⟨_, rfl⟩
 have hcs := hid hcs0
 rw [← hcs0] at hS0
 rw [zeroR_lit] at hW0
 clear hcs0
 simp only [M.rcells, M.cells] at hW0 ⊢
 go_enter Tryz.func34, Tryz.ntmps34
 go_upto_region 1 with (rw [← hW0]; replace hW0 := hid hW0)
 try (rw [← hW0]; replace hW0 := hid hW0)
 have c : W0.cell? ⟨w.heap.size, 3, none⟩ = cs0[3]? := block_cell hS0.out.one 3
 rw [show cs0[3]? = some (.string m.version) by rw [hcs.out]; rfl] at c
 have f : W0.frozen? ⟨w.heap.size, 3, none⟩ = false := block_free hS0.out.one 3
 obtain ⟨W1, hW1⟩ : ∃ W, W = W0.setCell ⟨w.heap.size, 3, none⟩ (.string ⟨#[]⟩) := ⟨_, rfl⟩
 obtain ⟨cs1, hcs1⟩ : ∃ cs, cs = cs0.setIfInBounds 3 (.string ⟨#[]⟩) := ⟨_, rfl⟩
 have hS1 := hid (show BareSt w W1 cs1 by rw [hW1]; exact hS0.out.set 3 _ hcs1.symm)
 go_upto_region 2 with (rw [← hW1]; replace hW1 := hid hW1)
 try (rw [← hW1]; replace hW1 := hid hW1)
 rw [hcs.out] at hcs1
 clear c f hS0 hcs
 have hcs := hid (show cs1 = M.rcells { m with version := ⟨#[]⟩ } vN vQ d from hcs1.trans rfl)
 clear hcs1
 have c : W1.cell? ⟨w.heap.size, 7, none⟩ = cs1[7]? := block_cell hS1.out.one 7
 rw [show cs1[7]? = some (.string m.uname) by rw [hcs.out]; rfl] at c
 have f : W1.frozen? ⟨w.heap.size, 7, none⟩ = false := block_free hS1.out.one 7
 obtain ⟨W2, hW2⟩ : ∃ W, W = W1.setCell ⟨w.heap.size, 7, none⟩ (.string ⟨#[]⟩) := ⟨_, rfl⟩
 obtain ⟨cs2, hcs2⟩ : ∃ cs, cs = cs1.setIfInBounds 7 (.string ⟨#[]⟩) := ⟨_, rfl⟩
 have hS2 := hid (show BareSt w W2 cs2 by rw [hW2]; exact hS1.out.set 7 _ hcs2.symm)
 go_upto_region 3 with (rw [← hW2]; replace hW2 := hid hW2)
 try (rw [← hW2]; replace hW2 := hid hW2)
 rw [hcs.out] at hcs2
 clear c f hS1 hcs
 have hcs := hid (show cs2 = M.rcells { m with version := ⟨#[]⟩, uname := ⟨#[]⟩ } vN vQ d from hcs2.trans rfl)
 clear hcs2
 have c : W2.cell? ⟨w.heap.size, 8, none⟩ = cs2[8]? := block_cell hS2.out.one 8
 rw [show cs2[8]? = some (.string m.aname) by rw [hcs.out]; rfl] at c
 have f : W2.frozen? ⟨w.heap.size, 8, none⟩ = false := block_free hS2.out.one 8
 obtain ⟨W3, hW3⟩ : ∃ W, W = W2.setCell ⟨w.heap.size, 8, none⟩ (.string ⟨#[]⟩) := ⟨_, rfl⟩
 obtain ⟨cs3, hcs3⟩ : ∃ cs, cs = cs2.setIfInBounds 8 (.string ⟨#[]⟩) := ⟨_, rfl⟩
 have hS3 := hid (show BareSt w W3 cs3 by rw [hW3]; exact hS2.out.set 8 _ hcs3.symm)
 go_upto_region 4 with (rw [← hW3]; replace hW3 := hid hW3)
 try (rw [← hW3]; replace hW3 := hid hW3)
 rw [hcs.out] at hcs3
 clear c f hS2 hcs
 have hcs := hid (show cs3 = M.rcells { m with version := ⟨#[]⟩, uname := ⟨#[]⟩, aname := ⟨#[]⟩ } vN vQ d from hcs3.trans rfl)
 clear hcs3
 have c : W3.cell? ⟨w.heap.size, 9, none⟩ = cs3[9]? := block_cell hS3.out.one 9
 rw [show cs3[9]? = some (.string m.ename) by rw [hcs.out]; rfl] at c
 have f : W3.frozen? ⟨w.heap.size, 9, none⟩ = false := block_free hS3.out.one 9
 obtain ⟨W4, hW4⟩ : ∃ W, W = W3.setCell ⟨w.heap.size, 9, none⟩ (.string ⟨#[]⟩) := ⟨_, rfl⟩
 obtain ⟨cs4, hcs4⟩ : ∃ cs, cs = cs3.setIfInBounds 9 (.string ⟨#[]⟩) := ⟨_, rfl⟩
 have hS4 := hid (show BareSt w W4 cs4 by rw [hW4]; exact hS3.out.set 9 _ hcs4.symm)
 go_upto_region 5 with (rw [← hW4]; replace hW4 := hid hW4)
 try (rw [← hW4]; replace hW4 := hid hW4)
 rw [hcs.out] at hcs4
 clear c f hS3 hcs
 have hcs := hid (show cs4 = M.rcells { m with version := ⟨#[]⟩, uname := ⟨#[]⟩, aname := ⟨#[]⟩, ename := ⟨#[]⟩ } vN vQ d from hcs4.trans rfl)
 clear hcs4
 have c : W4.cell? ⟨w.heap.size, 19, none⟩ = cs4[19]? := block_cell hS4.out.one 19
 rw [show cs4[19]? = some (.string m.name) by rw [hcs.out]; rfl] at c
 have f : W4.frozen? ⟨w.heap.size, 19, none⟩ = false := block_free hS4.out.one 19
 obtain ⟨W5, hW5⟩ : ∃ W, W = W4.setCell ⟨w.heap.size, 19, none⟩ (.string ⟨#[]⟩) := ⟨_, rfl⟩
 obtain ⟨cs5, hcs5⟩ : ∃ cs, cs = cs4.setIfInBounds 19 (.string ⟨#[]⟩) := ⟨_, rfl⟩
 have hS5 := hid (show BareSt w W5 cs5 by rw [hW5]; exact hS4.out.set 19 _ hcs5.symm)
 go_upto_region 6 with (rw [← hW5]; replace hW5 := hid hW5)
 try (rw [← hW5]; replace hW5 := hid hW5)
 rw [hcs.out] at hcs5
 clear c f hS4 hcs
 have hcs := hid (show cs5 = M.rcells { m with version := ⟨#[]⟩, uname := ⟨#[]⟩, aname := ⟨#[]⟩, ename := ⟨#[]⟩, name := ⟨#[]⟩ } vN vQ d from hcs5.trans rfl)
 clear hcs5
 have c : W5.cell? ⟨w.heap.size, 32, none⟩ = cs5[32]? := block_cell hS5.out.one 32
 rw [show cs5[32]? = some (.string m.stat.name) by rw [hcs.out]; rfl] at c
 have f : W5.frozen? ⟨w.heap.size, 32, none⟩ = false := block_free hS5.out.one 32
 obtain ⟨W6, hW6⟩ : ∃ W, W = W5.setCell ⟨w.heap.size, 32, none⟩ (.string ⟨#[]⟩) := ⟨_, rfl⟩
 obtain ⟨cs6, hcs6⟩ : ∃ cs, cs = cs5.setIfInBounds 32 (.string ⟨#[]⟩) := ⟨_, rfl⟩
 have hS6 := hid (show BareSt w W6 cs6 by rw [hW6]; exact hS5.out.set 32 _ hcs6.symm)
 go_upto_region 7 with (rw [← hW6]; replace hW6 := hid hW6)
 try (rw [← hW6]; replace hW6 := hid hW6)
 rw [hcs.out] at hcs6
 clear c f hS5 hcs
 have hcs := hid (show cs6 = M.rcells { m with version := ⟨#[]⟩, uname := ⟨#[]⟩, aname := ⟨#[]⟩, ename := ⟨#[]⟩, name := ⟨#[]⟩, stat := { m.stat with name := ⟨#[]⟩ } } vN vQ d from hcs6.trans rfl)
 clear hcs6
 have c : W6.cell? ⟨w.heap.size, 33, none⟩ = cs6[33]? := block_cell hS6.out.one 33
 rw [show cs6[33]? = some (.string m.stat.uid) by rw [hcs.out]; rfl] at c
 have f : W6.frozen? ⟨w.heap.size, 33, none⟩ = false := block_free hS6.out.one 33
 obtain ⟨W7, hW7⟩ : ∃ W, W = W6.setCell ⟨w.heap.size, 33, none⟩ (.string ⟨#[]⟩) := ⟨_, rfl⟩
 obtain ⟨cs7, hcs7⟩ : ∃ cs, cs = cs6.setIfInBounds 33 (.string ⟨#[]⟩) := ⟨_, rfl⟩
 have hS7 := hid (show BareSt w W7 cs7 by rw [hW7]; exact hS6.out.set 33 _ hcs7.symm)
 go_upto_region 8 with (rw [← hW7]; replace hW7 := hid hW7)
 try (rw [← hW7]; replace hW7 := hid hW7)
 rw [hcs.out] at hcs7
 clear c f hS6 hcs
 have hcs := hid (show cs7 = M.rcells { m with version := ⟨#[]⟩, uname := ⟨#[]⟩, aname := ⟨#[]⟩, ename := ⟨#[]⟩, name := ⟨#[]⟩, stat := { m.stat with name := ⟨#[]⟩, uid := ⟨#[]⟩ } } vN vQ d from hcs7.trans rfl)
 clear hcs7
 have c : W7.cell? ⟨w.heap.size, 34, none⟩ = cs7[34]? := block_cell hS7.out.one 34
 rw [show cs7[34]? = some (.string m.stat.gid) by rw [hcs.out]; rfl] at c
 have f : W7.frozen? ⟨w.heap.size, 34, none⟩ = false := block_free hS7.out.one 34
 obtain ⟨W8, hW8⟩ : ∃ W, W = W7.setCell ⟨w.heap.size, 34, none⟩ (.string ⟨#[]⟩) := ⟨_, rfl⟩
 obtain ⟨cs8, hcs8⟩ : ∃ cs, cs = cs7.setIfInBounds 34 (.string ⟨#[]⟩) := ⟨_, rfl⟩
 have hS8 := hid (show BareSt w W8 cs8 by rw [hW8]; exact hS7.out.set 34 _ hcs8.symm)
 go_upto_region 9 with (rw [← hW8]; replace hW8 := hid hW8)
 try (rw [← hW8]; replace hW8 := hid hW8)
 rw [hcs.out] at hcs8
 clear c f hS7 hcs
 have hcs := hid (show cs8 = M.rcells { m with version := ⟨#[]⟩, uname := ⟨#[]⟩, aname := ⟨#[]⟩, ename := ⟨#[]⟩, name := ⟨#[]⟩, stat := { m.stat with name := ⟨#[]⟩, uid := ⟨#[]⟩, gid := ⟨#[]⟩ } } vN vQ d from hcs8.trans rfl)
 clear hcs8
 have c : W8.cell? ⟨w.heap.size, 35, none⟩ = cs8[35]? := block_cell hS8.out.one 35
 rw [show cs8[35]? = some (.string m.stat.muid) by rw [hcs.out]; rfl] at c
 have f : W8.frozen? ⟨w.heap.size, 35, none⟩ = false := block_free hS8.out.one 35
 obtain ⟨W9, hW9⟩ : ∃ W, W = W8.setCell ⟨w.heap.size, 35, none⟩ (.string ⟨#[]⟩) := ⟨_, rfl⟩
 obtain ⟨cs9, hcs9⟩ : ∃ cs, cs = cs8.setIfInBounds 35 (.string ⟨#[]⟩) := ⟨_, rfl⟩
 have hS9 := hid (show BareSt w W9 cs9 by rw [hW9]; exact hS8.out.set 35 _ hcs9.symm)
 go_upto_region 10 with (rw [← hW9]; replace hW9 := hid hW9)
 try (rw [← hW9]; replace hW9 := hid hW9)
 rw [hcs.out] at hcs9
 clear c f hS8 hcs
 have hcs := hid (show cs9 = M.rcells { m with version := ⟨#[]⟩, uname := ⟨#[]⟩, aname := ⟨#[]⟩, ename := ⟨#[]⟩, name := ⟨#[]⟩, stat := { m.stat with name := ⟨#[]⟩, uid := ⟨#[]⟩, gid := ⟨#[]⟩, muid := ⟨#[]⟩ } } vN vQ d from hcs9.trans rfl)
 clear hcs9
 go_wp2_with fail
 obtain ⟨cs, hcs2⟩ : ∃ cs, cs = m.bare.rcells vN vQ d := ⟨_, rfl⟩
 have hS := hid (show BareSt w W9 cs by have h := hS9.out; rw [hcs.out] at h; rw [hcs2]; exact h)
 clear hcs hS9
 replace hcs2 := hid hcs2
 go_loopw [3, 4] (fun lv kv wr => ∃ (k : Nat), k ≤ q ∧ kv = .int .i64 (k : Int) ∧ wr.ownsRow (w.heap.size + 2) 9 1 lv k (List.replicate k (.string ⟨#[]⟩)) ∧ Hid (BareSt w wr cs)) (fun _ kv _ => q - (intOf kv).toNat)
 case atStart => exact ⟨0, by omega, rfl, World.ownsRow_nil _ _ _ _, hS⟩
 case round =>
  obtain ⟨k, hk, rfl, hown, hSr⟩ := hrel
  have e11 : wr.cell? ⟨w.heap.size, 11, none⟩ = some vN := by rw [block_cell hSr.out.one 11, hcs2.out]; rfl
  rw [hvN.out] at e11
  obtain ⟨al, cl, rfl⟩ := own_form hown
  have hlt2 : w.heap.size + 1 < wr.heap.size := lt_of_block hSr.out.two
  by_cases hkq : k < q
  ·have hA := (Below.refl wr.heap.size wr).alloc (Nat.le_refl _) (.cells #[.string ⟨#[]⟩] 9)
   have hownA := hid (own_keep hown (fun j hj => hA.block j (hown.lt j hj).2))
   have hsrc : Hid (RowAt (wr.alloc (.cells #[.string ⟨#[]⟩] 9)) 1 (.slice (some ⟨wr.heap.size, 0, none⟩) 1 1) 1 [.string ⟨#[]⟩]) := hid (RowAt.of_block (n := 1) (heap_alloc_new _ _) rfl (by unfold maxLen; omega))
   have hvl := hid hown.lt
   have hA2 := hid (hA.mono (show w.heap.size + 2 ≤ wr.heap.size by omega))
   replace hA := hid hA
   replace hown := hid hown
   go_wp2_with (at_builtin; refine wpList_append_row elemRS _ rfl (.tmp 25) (.tmp 26) rfl (w.heap.size + 2) (.slice al k cl) k _ rfl hownA.out _ 1 [.string ⟨#[]⟩] rfl hsrc.out (by intro u hu; simp at hu; subst hu; rfl) (by unfold maxLen; omega) (by omega) (by simp; omega) ?_)
   intro a' c' w' h2 h3
   have hS2 := hid (hSr.out.up (hA2.out.grown h3 (by simp; omega) (fun j hj => (hvl.out j hj).1)))
   replace h2 := hid h2
   clear h3
   go_wp2_with fail
   go_roundw
   case rel => exact ⟨k + 1, by omega, by go_num, by rw [List.replicate_succ']; exact h2.out, hS2⟩
   case measure => simp [intOf]; omega
  ·obtain rfl : k = q := by omega
   have f11 : wr.frozen? ⟨w.heap.size, 11, none⟩ = false := block_free hSr.out.one 11
   obtain ⟨W2, hW2⟩ : ∃ W, W = wr.setCell ⟨w.heap.size, 11, none⟩ (.slice al k cl) := ⟨_, rfl⟩
   have hS2 := hid (show BareSt w W2 (m.bare.rcells (.slice al k cl) vQ d) by rw [hW2]; refine hSr.out.set 11 _ ?_; rw [hcs2.out]; rfl)
   have hrow : Hid (StrsAt (W2.setRow (w.heap.size + 1) (m.bare.rcells (.slice al k cl) vQ d)) (.slice al k cl) m.bare.names) := hid (by
    have h1 := RowAt.of_own hown
    have h2 : StrsAt W2 (.slice al k cl) m.bare.names := by
     rw [hnames.out]
     show RowAt W2 1 (.slice al k cl) (List.replicate k _).length ((List.replicate k _).map _)
     rw [List.length_replicate, List.map_replicate, hW2]
     exact RowAt.of_own (ownsRow_setCell_below hown (a := ⟨w.heap.size, 11, none⟩) (by show w.heap.size < w.heap.size + 2; omega) (.slice al k cl))
    exact RowAt.other h2 (by simp) fun j hj => setRow_other _ _ _ _ (by have := (hown.lt j hj).1; omega))
   have hown2 := hid (fun j hj => (hown.lt j hj).1)
   replace hown := hid hown
   clear hSr
   go_upto_region 16 with (rw [← hW2]; replace hW2 := hid hW2)
   try (rw [← hW2]; replace hW2 := hid hW2)
   clear e11 f11
   have hone := hid hS2.out.one
   have htwo := hid hS2.out.two
   go_wp2_with (first
    | (refine wpList_load_row (by rfl) 46 (.tmp 1) (by rfl) w.heap.size (by rfl) 46 (m.bare.rcells (.slice al k cl) vQ d) (0, 0) _ hone.out Tryz.underlying46 (by rfl) (by kernel_rfl) ?_)
    | (refine wpList_store_row (by rfl) 46 (.tmp 2) (.tmp 30) (by rfl) (w.heap.size + 1) (m.bare.rcells (.slice al k cl) vQ d) (by rfl) (by rfl) 46 _ htwo.out (by kernel_rfl) (by kernel_rfl) (hone1.out _ _ _) ?_))
   refine bodyPost_ret (results_cell_row rfl _ _ (w.heap.size + 1) _ _ _ _ rfl (setRow_heap _ _ _ _ _ _ htwo.out) Tryz.underlying46 rfl (by kernel_rfl)) rfl ?_
   refine ⟨_, rfl, hrow.out, fun j hj => by have := hown2.out j hj; omega, below_setRow hS2.out.bel (by omega) _⟩
end
end Go.Proofs.YtlmojhlacfjmaaaGreat

namespace Go.Proofs.YtlmojhlacfjmaaaGreat
section
open Go.RowKit
set_option maxRecDepth 100000
set_option linter.unusedVariables false
theorem strL_inj {l m : List UInt8} : strL l = strL m ↔ l = m :=
 ⟨fun h => by have := congrArg (fun s => s.data.toList) h; simpa [strL_data] using this, fun h => by rw [h]⟩
structure SameSt (w W : World) (a b : M) (vN1 vQ1 vN2 vQ2 : Value) (d1 d2 : ByteArray) : Prop where
 two : Two w W a b vN1 vQ1 vN2 vQ2 d1 d2
 n1 : StrsAt W vN1 a.names
 n2 : StrsAt W vN2 b.names
 q1 : QidsAt W vQ1 a.qids
 q2 : QidsAt W vQ2 b.qids
theorem SameSt.up {w W X : World} {a b : M} {vN1 vQ1 vN2 vQ2 : Value} {d1 d2 : ByteArray} (h : SameSt w W a b vN1 vQ1 vN2 vQ2 d1 d2) (hb : Below W.heap.size W X) : SameSt w X a b vN1 vQ1 vN2 vQ2 d1 d2 :=
 ⟨⟨(hb.block _ (lt_of_block h.two.one)).trans h.two.one, (hb.block _ (lt_of_block h.two.two)).trans h.two.two, sn h.two.bel hb⟩, RowAt.below h.n1 hb, RowAt.below h.n2 hb, RowAt.below h.q1 hb, RowAt.below h.q2 hb⟩
theorem SameSt.rstep {w W X : World} {a b : M} {vN1 vQ1 vN2 vQ2 : Value} {d1 d2 : ByteArray} {x : Nat} {W0 : World} (h : SameSt w W a b vN1 vQ1 vN2 vQ2 d1 d2) (hs : RStep x W X) (hx : w.heap.size + 2 ≤ x) (h0 : SameSt w W0 a b vN1 vQ1 vN2 vQ2 d1 d2) (hz : W0.heap.size = w.heap.size + 2) (hb : Below W0.heap.size W0 W) : SameSt w X a b vN1 vQ1 vN2 vQ2 d1 d2 :=
 h0.up (hb.trans (hs.below.mono (by omega)))
theorem ROut.start {w : World} : ROut (w.alloc (.cells #[.slice none 0 0, .int .i64 0] 74)) w.heap.size [] 0 :=
 ⟨_, heap_alloc_new _ _, World.ownsRow_nil _ _ _ _⟩
theorem foot_new {w : World} {k : Nat} (h : Foot (w.alloc (.cells #[.slice none 0 0, .int .i64 0] 74)) w.heap.size k) : k = w.heap.size := by
 rcases h with h | ⟨v, hv, hk⟩
 ·exact h
 ·rw [block_cell (heap_alloc_new _ _) 0] at hv
  cases hv
  cases hk

theorem foot_nil {w : World} {b k : Nat} {u : Value} {t : TypeId} {fr : Nat × Nat} (h : w.heap[b]? = some (.cells #[.slice none 0 0, u] t fr)) (hf : Foot w b k) : k = b := by
 rcases hf with hf | ⟨v, hv, hk⟩
 ·exact hf
 ·rw [block_cell h 0] at hv
  cases hv
  cases hk
theorem foot_pure {w w' : World} {b k : Nat} (hb : b < w.heap.size) (h : Below w.heap.size w w') (hf : Foot w' b k) : Foot w b k := by
 rcases hf with hf | ⟨v, hv, hk⟩
 ·exact .inl hf
 ·exact .inr ⟨v, by rw [h.cell (p := ⟨b, 0, none⟩) hb] at hv; exact hv, hk⟩
theorem run_rrow (w : World) (o : Oper) (ev : Operand → Value) (x : Operand) (g : Nat) (cs : Array Value) (ho : o.op = .load 46 x) (hx : ev x = .pointer (some ⟨g, 0, none⟩)) (hg : w.heap[g]? = some (.cells cs 46 (0, 0))) (hs : cs.size = 36) : (execOp ev o).run Tryz.prog w = .ok (.value (.agg cs)) w := by
 have hi : (Tryz.prog.info? 46).map (·.size) = some cs.size := by rw [hs]; kernel_rfl
 simp only [execOp, ho, hx, Instr.loadAt, Instr.sureAddr, Sem.run_bind, Sem.run_pure, Result.andThen_ok, run_loadVar_row w g 46 46 cs (0, 0) _ hg Tryz.underlying46 rfl hi]
def RSamePost (w : World) (r : Bool) (e : Ending) (w' : World) : Prop := e = .returned (.bool r) ∧ Below w.heap.size w w'

set_option maxHeartbeats 6400000 in
theorem rsame_ty (a b : M) (vN1 vQ1 vN2 vQ2 : Value) (d1 d2 : ByteArray) (w : World) (hN1 : StrsAt w vN1 a.names) (hN2 : StrsAt w vN2 b.names) (hQ1 : QidsAt w vQ1 a.qids) (hQ2 : QidsAt w vQ2 b.qids) (hd1 : d1.data.toList = a.data) (hd2 : d2.data.toList = b.data) (ha : MOk a) (hb : MOk b) (hf1 : RFew a) (hf2 : RFew b) (hk1 : 100 ≤ a.ty ∧ a.ty ≤ 127 ∧ a.ty ≠ 106) (hk2 : 100 ≤ b.ty ∧ b.ty ≤ 127 ∧ b.ty ≠ 106) (hcond : a.ty ≠ b.ty) :
  Calls Tryz.prog 13 #[.agg (a.rcells vN1 vQ1 d1), .agg (b.rcells vN2 vQ2 d2)] w (RSamePost w (rsameB a b)) := by
 obtain ⟨W, hW⟩ : ∃ W, W = (w.alloc (.cells (a.rcells vN1 vQ1 d1) 46)).alloc (.cells (b.rcells vN2 vQ2 d2) 46) := ⟨_, rfl⟩
 have hT := show Two w W a b vN1 vQ1 vN2 vQ2 d1 d2 by rw [hW]; exact Two.start
 have hS := hid (show SameSt w W a b vN1 vQ1 vN2 vQ2 d1 d2 from ⟨hT, RowAt.below hN1 hT.bel, RowAt.below hN2 hT.bel, RowAt.below hQ1 hT.bel, RowAt.below hQ2 hT.bel⟩)
 have hzW : W.heap.size = w.heap.size + 2 := by rw [hW]; simp
 have c0 : W.cell? ⟨w.heap.size, 0, none⟩ = some (.int .u8 (a.ty : Int)) := block_cell hT.one 0
 have c1 : W.cell? ⟨w.heap.size, 1, none⟩ = some (.int .u16 (a.tag : Int)) := block_cell hT.one 1
 have e0 : W.cell? ⟨w.heap.size + 1, 0, none⟩ = some (.int .u8 (b.ty : Int)) := block_cell hT.two 0
 have e1 : W.cell? ⟨w.heap.size + 1, 1, none⟩ = some (.int .u16 (b.tag : Int)) := block_cell hT.two 1
 have ho1 := hid (show a.rcells vN1 vQ1 d1 = a.rcells vN1 vQ1 d1 from rfl)
 have hs1 : ∃ a n c, vQ1 = .slice a n c := by obtain ⟨a1, c1, e, _⟩ := hQ1.form; exact ⟨_, _, _, e⟩
 have hs2 : ∃ a n c, vQ2 = .slice a n c := by obtain ⟨a1, c1, e, _⟩ := hQ2.form; exact ⟨_, _, _, e⟩
 clear hN1 hN2 hQ1 hQ2 hT
 have q0 : ((a.ty : Int) != (b.ty : Int)) = true := by simp; omega
 have hr := hid (show rsameB a b = false by unfold rsameB; rw [decide_eq_false (by intro h; exact absurd (h.1) (by omega))]; rfl)
 replace ha := hid ha
 replace hb := hid hb
 replace hf1 := hid hf1
 replace hf2 := hid hf2
 replace hzW := hid hzW
 clear hk1 hk2 hcond
 simp only [M.rcells, M.cells] at hW ⊢
 go_enter Tryz.func13, Tryz.ntmps13
 go_wp2_with (rw [← hW]; replace hW := hid hW)
 try (rw [← hW]; replace hW := hid hW)
 go_ret
 exact ⟨by rw [hr.out] <;> rfl, hS.out.two.bel⟩
set_option maxHeartbeats 6400000 in
theorem rsame_tag (a b : M) (vN1 vQ1 vN2 vQ2 : Value) (d1 d2 : ByteArray) (w : World) (hN1 : StrsAt w vN1 a.names) (hN2 : StrsAt w vN2 b.names) (hQ1 : QidsAt w vQ1 a.qids) (hQ2 : QidsAt w vQ2 b.qids) (hd1 : d1.data.toList = a.data) (hd2 : d2.data.toList = b.data) (ha : MOk a) (hb : MOk b) (hf1 : RFew a) (hf2 : RFew b) (hk1 : 100 ≤ a.ty ∧ a.ty ≤ 127 ∧ a.ty ≠ 106) (hk2 : 100 ≤ b.ty ∧ b.ty ≤ 127 ∧ b.ty ≠ 106) (hty : a.ty = b.ty) (hcond : a.tag ≠ b.tag) :
  Calls Tryz.prog 13 #[.agg (a.rcells vN1 vQ1 d1), .agg (b.rcells vN2 vQ2 d2)] w (RSamePost w (rsameB a b)) := by
 obtain ⟨W, hW⟩ : ∃ W, W = (w.alloc (.cells (a.rcells vN1 vQ1 d1) 46)).alloc (.cells (b.rcells vN2 vQ2 d2) 46) := ⟨_, rfl⟩
 have hT := show Two w W a b vN1 vQ1 vN2 vQ2 d1 d2 by rw [hW]; exact Two.start
 have hS := hid (show SameSt w W a b vN1 vQ1 vN2 vQ2 d1 d2 from ⟨hT, RowAt.below hN1 hT.bel, RowAt.below hN2 hT.bel, RowAt.below hQ1 hT.bel, RowAt.below hQ2 hT.bel⟩)
 have hzW : W.heap.size = w.heap.size + 2 := by rw [hW]; simp
 have c0 : W.cell? ⟨w.heap.size, 0, none⟩ = some (.int .u8 (a.ty : Int)) := block_cell hT.one 0
 have c1 : W.cell? ⟨w.heap.size, 1, none⟩ = some (.int .u16 (a.tag : Int)) := block_cell hT.one 1
 have e0 : W.cell? ⟨w.heap.size + 1, 0, none⟩ = some (.int .u8 (b.ty : Int)) := block_cell hT.two 0
 have e1 : W.cell? ⟨w.heap.size + 1, 1, none⟩ = some (.int .u16 (b.tag : Int)) := block_cell hT.two 1
 have ho1 := hid (show a.rcells vN1 vQ1 d1 = a.rcells vN1 vQ1 d1 from rfl)
 have hs1 : ∃ a n c, vQ1 = .slice a n c := by obtain ⟨a1, c1, e, _⟩ := hQ1.form; exact ⟨_, _, _, e⟩
 have hs2 : ∃ a n c, vQ2 = .slice a n c := by obtain ⟨a1, c1, e, _⟩ := hQ2.form; exact ⟨_, _, _, e⟩
 clear hN1 hN2 hQ1 hQ2 hT
 have q0 : ((a.ty : Int) != (b.ty : Int)) = false := by simp; omega
 have q1 : ((a.tag : Int) != (b.tag : Int)) = true := by simp; omega
 replace hty := hid hty
 have hr := hid (show rsameB a b = false by unfold rsameB; rw [decide_eq_false (by intro h; exact absurd (h.2) (by omega))]; rfl)
 replace ha := hid ha
 replace hb := hid hb
 replace hf1 := hid hf1
 replace hf2 := hid hf2
 replace hzW := hid hzW
 clear hk1 hk2 hcond
 simp only [M.rcells, M.cells] at hW ⊢
 go_enter Tryz.func13, Tryz.ntmps13
 go_wp2_with (rw [← hW]; replace hW := hid hW)
 try (rw [← hW]; replace hW := hid hW)
 go_ret
 exact ⟨by rw [hr.out] <;> rfl, hS.out.two.bel⟩
set_option maxHeartbeats 6400000 in
theorem rsame_eq (a b : M) (vN1 vQ1 vN2 vQ2 : Value) (d1 d2 : ByteArray) (w : World) (hN1 : StrsAt w vN1 a.names) (hN2 : StrsAt w vN2 b.names) (hQ1 : QidsAt w vQ1 a.qids) (hQ2 : QidsAt w vQ2 b.qids) (hd1 : d1.data.toList = a.data) (hd2 : d2.data.toList = b.data) (ha : MOk a) (hb : MOk b) (hf1 : RFew a) (hf2 : RFew b) (hk1 : 100 ≤ a.ty ∧ a.ty ≤ 127 ∧ a.ty ≠ 106) (hk2 : 100 ≤ b.ty ∧ b.ty ≤ 127 ∧ b.ty ≠ 106) (hcond : a.ty = b.ty ∧ a.tag = b.tag) :
  Calls Tryz.prog 13 #[.agg (a.rcells vN1 vQ1 d1), .agg (b.rcells vN2 vQ2 d2)] w (RSamePost w (rsameB a b)) := by
 obtain ⟨W, hW⟩ : ∃ W, W = (w.alloc (.cells (a.rcells vN1 vQ1 d1) 46)).alloc (.cells (b.rcells vN2 vQ2 d2) 46) := ⟨_, rfl⟩
 have hT := show Two w W a b vN1 vQ1 vN2 vQ2 d1 d2 by rw [hW]; exact Two.start
 have hS := hid (show SameSt w W a b vN1 vQ1 vN2 vQ2 d1 d2 from ⟨hT, RowAt.below hN1 hT.bel, RowAt.below hN2 hT.bel, RowAt.below hQ1 hT.bel, RowAt.below hQ2 hT.bel⟩)
 have hzW : W.heap.size = w.heap.size + 2 := by rw [hW]; simp
 have c0 : W.cell? ⟨w.heap.size, 0, none⟩ = some (.int .u8 (a.ty : Int)) := block_cell hT.one 0
 have c1 : W.cell? ⟨w.heap.size, 1, none⟩ = some (.int .u16 (a.tag : Int)) := block_cell hT.one 1
 have e0 : W.cell? ⟨w.heap.size + 1, 0, none⟩ = some (.int .u8 (b.ty : Int)) := block_cell hT.two 0
 have e1 : W.cell? ⟨w.heap.size + 1, 1, none⟩ = some (.int .u16 (b.tag : Int)) := block_cell hT.two 1
 have ho1 := hid (show a.rcells vN1 vQ1 d1 = a.rcells vN1 vQ1 d1 from rfl)
 have hs1 : ∃ a n c, vQ1 = .slice a n c := by obtain ⟨a1, c1, e, _⟩ := hQ1.form; exact ⟨_, _, _, e⟩
 have hs2 : ∃ a n c, vQ2 = .slice a n c := by obtain ⟨a1, c1, e, _⟩ := hQ2.form; exact ⟨_, _, _, e⟩
 clear hN1 hN2 hQ1 hQ2 hT
 have q0 : ((a.ty : Int) != (b.ty : Int)) = false := by simp; omega
 have q1 : ((a.tag : Int) != (b.tag : Int)) = false := by simp; omega
 have hr : rsameB a b = (decide (a.bare.rbytes = b.bare.rbytes) && textsB a b) := by unfold rsameB; rw [decide_eq_true hcond]; rfl
 rw [hr]
 clear hr hcond
 -- the two outs
 obtain ⟨X1, hX1⟩ : ∃ X, X = W.alloc (.cells #[.slice none 0 0, .int .i64 0] 74) := ⟨_, rfl⟩
 obtain ⟨X2, hX2⟩ : ∃ X, X = X1.alloc (.cells #[.slice none 0 0, .int .i64 0] 74) := ⟨_, rfl⟩
 have hz1 : X1.heap.size = w.heap.size + 3 := by rw [hX1]; simp [hzW]
 have hz2 : X2.heap.size = w.heap.size + 4 := by rw [hX2]; simp [hz1]
 have bX1 : Below W.heap.size W X1 := by rw [hX1]; exact (Below.refl _ _).alloc (Nat.le_refl _) _
 have bX12 : Below X1.heap.size X1 X2 := by rw [hX2]; exact (Below.refl _ _).alloc (Nat.le_refl _) _
 have bX2 : Below W.heap.size W X2 := sn bX1 bX12
 have hS2 := hid (hS.out.up bX2)
 have hox : ROut X2 (w.heap.size + 2) [] 0 := by
  rw [← hzW]
  exact ROut.below (by rw [hX1]; exact ROut.start) bX12
 have hoy : ROut X2 (w.heap.size + 3) [] 0 := by rw [← hz1, hX2]; exact ROut.start
 have fx : ∀ k, Foot X2 (w.heap.size + 2) k → k = w.heap.size + 2 := by
  intro k hk
  have h1 : Foot X1 (w.heap.size + 2) k := by
   rcases hk with h | ⟨v, hv, hk⟩
   ·exact .inl h
   ·rw [bX12.cell (p := ⟨w.heap.size + 2, 0, none⟩) (by show w.heap.size + 2 < _; omega)] at hv; exact .inr ⟨v, hv, hk⟩
  rw [hX1, ← hzW] at h1
  rw [← hzW]
  exact foot_new h1
 have fy : ∀ k, Foot X2 (w.heap.size + 3) k → k = w.heap.size + 3 := by
  intro k hk
  rw [hX2, ← hz1] at hk
  rw [← hz1]
  exact foot_new hk
 have bbare := hid (fun W hN => rbare_any a vN1 vQ1 d1 W hN hs1 hf1.names)
 have bbare2 := hid (fun W hN => rbare_any b vN2 vQ2 d2 W hN hs2 hf2.names)
 have hk1' : 100 ≤ a.bare.ty ∧ a.bare.ty ≤ 127 ∧ a.bare.ty ≠ 106 := hk1
 have hk2' : 100 ≤ b.bare.ty ∧ b.bare.ty ≤ 127 ∧ b.bare.ty ≠ 106 := hk2
 have hbody1 := hid (fun b0 xs e vN W (h : RA0 W b0 a.bare vN vQ1 d1 xs e) (hx : xs.length ≤ 1000) => rbody_any b0 xs e a.bare vN vQ1 d1 W ha.bare hf1.bare hx h hk1')
 have hbody2 := hid (fun b0 xs e vN W (h : RA0 W b0 b.bare vN vQ2 d2 xs e) (hx : xs.length ≤ 1000) => rbody_any b0 xs e b.bare vN vQ2 d2 W hb.bare hf2.bare hx h hk2')
 have htx := hid (fun W h1 h2 h3 h4 => rtexts_any a b vN1 vQ1 vN2 vQ2 d1 d2 W h1 h2 h3 h4 hf1 hf2 hk1)
 obtain ⟨xa, hxa⟩ : ∃ l, l = a.bare.rbytes := ⟨_, rfl⟩
 obtain ⟨xb, hxb⟩ : ∃ l, l = b.bare.rbytes := ⟨_, rfl⟩
 obtain ⟨ea, hea⟩ : ∃ e, e = a.bare.rerr 0 := ⟨_, rfl⟩
 obtain ⟨eb, heb⟩ : ∃ e, e = b.bare.rerr 0 := ⟨_, rfl⟩
 obtain ⟨rt, hrt⟩ : ∃ r, r = textsB a b := ⟨_, rfl⟩
 obtain ⟨r0, hr0⟩ : ∃ r, r = decide (xa = xb) := ⟨_, rfl⟩
 obtain ⟨sa, hsa⟩ : ∃ s, s = strL xa := ⟨_, rfl⟩
 obtain ⟨sb, hsb⟩ : ∃ s, s = strL xb := ⟨_, rfl⟩
 have q2 : (sa.toList == sb.toList) = r0 := by rw [str_beq, hr0, hsa, hsb]; exact decide_eq_decide.2 strL_inj
 have hcs1 := hid (fun (X : World) (v : Value) (h : BytesAt X v xa) => hsa ▸ conv_string X v xa h)
 have hcs2 := hid (fun (X : World) (v : Value) (h : BytesAt X v xb) => hsb ▸ conv_string X v xb h)
 replace hsa := hid hsa
 replace hsb := hid hsb
 rw [← hxa, ← hxb, ← hrt, ← hr0]
 rw [← hrt] at htx
 replace hr0 := hid hr0
 replace hrt := hid hrt
 replace hxa := hid hxa
 replace hxb := hid hxb
 replace hea := hid hea
 replace heb := hid heb
 replace ha := hid ha
 replace hb := hid hb
 replace hf1 := hid hf1
 replace hf2 := hid hf2
 replace bX1 := hid bX1
 replace bX2 := hid bX2
 replace bX12 := hid bX12
 replace hox := hid hox
 replace hoy := hid hoy
 replace fx := hid fx
 replace fy := hid fy
 clear hk1 hk2 hk1' hk2' ho1
 clear fx fy
 have hxb0 := hid (show X2.heap[w.heap.size + 2]? = some (.cells #[.slice none 0 0, .int .i64 0] 74 (0, 0)) by rw [hX2, heap_alloc_old _ _ (by omega), hX1, ← hzW, heap_alloc_new])
 have hyb0 := hid (show X2.heap[w.heap.size + 3]? = some (.cells #[.slice none 0 0, .int .i64 0] 74 (0, 0)) by rw [hX2, ← hz1, heap_alloc_new])
 have hSW := hid hS.out
 simp only [M.rcells, M.cells] at hW ⊢
 go_enter Tryz.func13, Tryz.ntmps13
 go_upto_region 3 with (rw [← hW]; replace hW := hid hW)
 try (rw [← hW]; replace hW := hid hW)
 clear c0 c1 e0 e1 q0 q1 hS
 go_upto_region 4 with (rw [← hX1]; replace hX1 := hid hX1)
 try (rw [← hX1]; replace hX1 := hid hX1)
 go_upto_region 5 with (rw [← hX2]; replace hX2 := hid hX2)
 try (rw [← hX2]; replace hX2 := hid hX2)
 replace hz1 := hid hz1
 replace hzW := hid hzW
 go_wp2_with (refine wpList_load_row (by rfl) 46 (.tmp 2) (by rfl) w.heap.size (by rfl) 46 (a.rcells vN1 vQ1 d1) (0, 0) _ hS2.out.two.one Tryz.underlying46 (by rfl) (by kernel_rfl) ?_)
 refine (bbare.out X2 hS2.out.n1).mono ?_
 rintro en w1 ⟨vNa, rfl, hNa, hfa, hb1⟩
 have hS3 := hid (hS2.out.up hb1)
 have hx1 := hid ((hb1.block _ (by omega)).trans hxb0.out)
 have hy1 := hid ((hb1.block _ (by omega)).trans hyb0.out)
 have hA0 : RA0 w1 (w.heap.size + 2) a.bare vNa vQ1 d1 [] 0 := ⟨hox.out.below hb1, hNa, fun k hk => hox.out.new hb1 (hfa k hk), hS3.out.q1, fun k hk hf => by
  have e1 := foot_nil hx1.out hf
  have e2 := RowAt.blk hSW.out.q1 hk
  have e3 := hzW.out
  omega, hd1⟩
 replace hA0 := hid hA0
 have hoy1 := hid (hoy.out.below hb1)
 have hbW1 := hid (sn bX2.out hb1)
 clear hNa hfa hb1
 go_wp2_with fail
 refine (hbody1.out _ _ _ _ w1 hA0.out (by simp)).mono ?_
 rintro en w2 ⟨rfl, hox2, hs2⟩
 rw [List.nil_append, ← hxa.out, ← hea.out] at hox2
 have hS4 := hid (hSW.out.up (hbW1.out.trans (hs2.below.mono (by have := hzW.out; omega))))
 have hny : ¬ Foot w1 (w.heap.size + 2) (w.heap.size + 3) := fun hf => by have := foot_nil hx1.out hf; omega
 have hly1 : w.heap.size + 3 < w1.heap.size := lt_of_block hy1.out
 have hy2 := hid ((hs2.block _ hly1 hny).1.trans hy1.out)
 have hny2 := hid (hs2.block _ hly1 hny).2
 have hoy2 := hid (hoy1.out.other hs2 (fun k hk hf => by have e1 := foot_nil hy1.out hk; subst e1; exact hny hf))
 have hbW2 := hid (hbW1.out.trans (hs2.below.mono (by have := hzW.out; omega)))
 replace hox2 := hid hox2
 clear hs2 hA0 hny hly1 hx1 hy1 hoy1 hbW1 hS3
 go_wp2_with (refine wpList_load_row (by rfl) 46 (.tmp 3) (by rfl) (w.heap.size + 1) (by rfl) 46 (b.rcells vN2 vQ2 d2) (0, 0) _ hS4.out.two.two Tryz.underlying46 (by rfl) (by kernel_rfl) ?_)
 refine (bbare2.out w2 hS4.out.n2).mono ?_
 rintro en w3 ⟨vNb, rfl, hNb, hfb, hb3⟩
 have hS5 := hid (hS4.out.up hb3)
 have hly2 : w.heap.size + 3 < w2.heap.size := lt_of_block hy2.out
 have hy3 := hid ((hb3.block _ hly2).trans hy2.out)
 have hoy3 := hoy2.out.below hb3
 have hox3 := hid (hox2.out.below hb3)
 have hnx3 := hid (show ¬ Foot w3 (w.heap.size + 2) (w.heap.size + 3) from fun hf => hny2.out (foot_pure hox2.out.lt hb3 hf))
 have hA3 : RA0 w3 (w.heap.size + 3) b.bare vNb vQ2 d2 [] 0 := ⟨hoy3, hNb, fun k hk => hoy2.out.new hb3 (hfb k hk), hS5.out.q2, fun k hk hf => by
  have e1 := foot_nil hy3.out hf
  have e2 := RowAt.blk hSW.out.q2 hk
  have e3 := hzW.out
  omega, hd2⟩
 replace hA3 := hid hA3
 have hbW3 := hid (sn hbW2.out hb3)
 clear hNb hfb hb3 hoy3 hly2
 go_wp2_with fail
 refine (hbody2.out _ _ _ _ w3 hA3.out (by simp)).mono ?_
 rintro en w4 ⟨rfl, hoy4, hs4⟩
 rw [List.nil_append, ← hxb.out, ← heb.out] at hoy4
 have hbW4 := hbW3.out.trans (hs4.below.mono (show W.heap.size ≤ w.heap.size + 3 by have := hzW.out; omega))
 have hS6 := hid (hSW.out.up hbW4)
 have hox4 := hox3.out.other hs4 (fun k hk hf => by have e1 := foot_nil hy3.out hf; subst e1; exact hnx3.out hk)
 obtain ⟨ax, cx, hBx⟩ := hox4.box
 obtain ⟨ay, cy, hBy⟩ := hoy4.box
 have x0 : w4.drew.cell? ⟨w.heap.size + 2, 0, none⟩ = some (.slice ax xa.length cx) := block_cell hBx.blk 0
 have y0 : w4.drew.cell? ⟨w.heap.size + 3, 0, none⟩ = some (.slice ay xb.length cy) := block_cell hBy.blk 0
 have vx : Hid (BytesAt w4.drew (.slice ax xa.length cx) xa) := hid (RowAt.of_own hBx.own)
 have vy : Hid (BytesAt w4.drew (.slice ay xb.length cy) xb) := hid (RowAt.of_own hBy.own)
 have hS7 := hid (hS6.out.up (Below.refl _ _).drew)
 have hlx := hid (show w.heap.size + 2 < w4.drew.heap.size from lt_of_block hBx.blk)
 have hly := hid (show w.heap.size + 3 < w4.drew.heap.size from lt_of_block hBy.blk)
 clear hbW4 hox4 hoy4 hBx hBy hs4 hA3 hbW3 hbW2 hS5 hS4 hS6 hy3 hox3 hnx3 hny2 hy2 hox2 hoy2
 replace hd1 := hid hd1
 replace hd2 := hid hd2
 clear hxb0 hyb0 hbody1 hbody2 bbare bbare2 hox hoy hS2 hX1 hX2 hW
 have htx2 := hid (htx.out w4.drew hS7.out.n1 hS7.out.n2 hS7.out.q1 hS7.out.q2)
 clear htx
 cases r0 with
 | false =>
  have hB := hid hS7.out.two.bel
  go_wp2_with fail
  refine wp_region_held_drew (S := fun w' => w'.cell? ⟨w.heap.size + 2, 0, none⟩ = some (.slice ax xa.length cx) ∧ w'.cell? ⟨w.heap.size + 3, 0, none⟩ = some (.slice ay xb.length cy) ∧ (convert 29 9 (.slice ax xa.length cx)).run Tryz.prog w' = .ok (.string sa) w' ∧ (convert 29 9 (.slice ay xb.length cy)).run Tryz.prog w' = .ok (.string sb) w') (by kernel_rfl) ?hS (fun hHeld => ?_)
  case hS => exact ⟨x0, y0, hcs1.out _ _ vx.out, hcs2.out _ _ vy.out⟩
  refine wpAnyH_take (i := 0) (v := ?dv15) rfl (by kernel_rfl) (by kernel_rfl) (by kernel_rfl) (fun _ _ _ h => h) (Or.inl ⟨by kernel_rfl, ?dy15⟩) (by assumption) ?_
  case dy15 => (intro w hSw; (try dsimp only at hSw); go_simp; try with_reducible rfl)
  try simp only [Act.put, List.getElem_toArray, List.getElem_cons_zero, List.setIfInBounds_toArray, List.set_cons_zero, List.set_cons_succ]
  refine wpAnyH_take (i := 1) (v := ?dv16) rfl (by kernel_rfl) (by kernel_rfl) (by kernel_rfl) (fun _ _ _ h => h) (Or.inl ⟨by kernel_rfl, ?dy16⟩) (by assumption) ?_
  case dy16 => (intro w hSw; (try dsimp only at hSw); go_simp; try with_reducible rfl)
  try simp only [Act.put, List.getElem_toArray, List.getElem_cons_succ, List.getElem_cons_zero, List.setIfInBounds_toArray, List.set_cons_zero, List.set_cons_succ]
  refine wpAnyH_take (i := 2) (v := ?dv17) rfl (by kernel_rfl) (by kernel_rfl) (by kernel_rfl) (fun _ _ _ h => h) (Or.inl ⟨by kernel_rfl, ?dy17⟩) (by assumption) ?_
  case dy17 => (intro w hSw; (try dsimp only at hSw); go_simp; try with_reducible rfl)
  try simp only [Act.put, List.getElem_toArray, List.getElem_cons_succ, List.getElem_cons_zero, List.setIfInBounds_toArray, List.set_cons_zero, List.set_cons_succ]
  refine wpAnyH_take (i := 3) (v := ?dv18) rfl (by kernel_rfl) (by kernel_rfl) (by kernel_rfl) (fun _ _ _ h => h) (Or.inl ⟨by kernel_rfl, ?dy18⟩) (by assumption) ?_
  case dy18 => (intro w hSw; (try dsimp only at hSw); go_simp; try with_reducible rfl)
  try simp only [Act.put, List.getElem_toArray, List.getElem_cons_succ, List.getElem_cons_zero, List.setIfInBounds_toArray, List.set_cons_zero, List.set_cons_succ]
  refine wpAnyH_take (i := 4) (v := ?dv19) rfl (by kernel_rfl) (by kernel_rfl) (by kernel_rfl) (fun _ _ _ h => h) (Or.inl ⟨by kernel_rfl, ?dy19⟩) (by assumption) ?_
  case dy19 => (intro w hSw; (try dsimp only at hSw); go_simp; try with_reducible rfl)
  try simp only [Act.put, List.getElem_toArray, List.getElem_cons_succ, List.getElem_cons_zero, List.setIfInBounds_toArray, List.set_cons_zero, List.set_cons_succ]
  refine wpAnyH_take (i := 5) (v := ?dv20) rfl (by kernel_rfl) (by kernel_rfl) (by kernel_rfl) (fun _ _ _ h => h) (Or.inl ⟨by kernel_rfl, ?dy20⟩) (by assumption) ?_
  case dy20 => (intro w hSw; (try dsimp only at hSw); go_simp; try with_reducible rfl)
  try simp only [Act.put, List.getElem_toArray, List.getElem_cons_succ, List.getElem_cons_zero, List.setIfInBounds_toArray, List.set_cons_zero, List.set_cons_succ]
  refine wpAnyH_take (i := 6) (v := ?dv21) rfl (by kernel_rfl) (by kernel_rfl) (by kernel_rfl) (fun _ _ _ h => h) (Or.inl ⟨by kernel_rfl, ?dy21⟩) (by assumption) ?_
  case dy21 => (intro w hSw; (try dsimp only at hSw); go_simp; try with_reducible rfl)
  try simp only [Act.put, List.getElem_toArray, List.getElem_cons_succ, List.getElem_cons_zero, List.setIfInBounds_toArray, List.set_cons_zero, List.set_cons_succ]
  refine wpAnyH_take (i := 7) (v := ?dv22) rfl (by kernel_rfl) (by kernel_rfl) (by kernel_rfl) (fun _ _ _ h => h) (Or.inl ⟨by kernel_rfl, ?dy22⟩) (by assumption) ?_
  case dy22 => (intro w hSw; (try dsimp only at hSw); go_simp; try with_reducible rfl)
  try simp only [Act.put, List.getElem_toArray, List.getElem_cons_succ, List.getElem_cons_zero, List.setIfInBounds_toArray, List.set_cons_zero, List.set_cons_succ]
  refine wpAnyH_take (i := 8) (v := ?dv23) rfl (by kernel_rfl) (by kernel_rfl) (by kernel_rfl) (fun _ _ _ h => h) (Or.inl ⟨by kernel_rfl, ?dy23⟩) (by assumption) ?_
  case dy23 => (intro w hSw; (try dsimp only at hSw); go_simp; try with_reducible rfl)
  try simp only [Act.put, List.getElem_toArray, List.getElem_cons_succ, List.getElem_cons_zero, List.setIfInBounds_toArray, List.set_cons_zero, List.set_cons_succ]
  refine wpAnyH_take (i := 9) (v := ?dv24) rfl (by kernel_rfl) (by kernel_rfl) (by kernel_rfl) (fun _ _ _ h => h) (Or.inl ⟨by kernel_rfl, ?dy24⟩) (by assumption) ?_
  case dy24 => (intro w hSw; (try dsimp only at hSw); go_simp; try with_reducible rfl)
  try simp only [Act.put, List.getElem_toArray, List.getElem_cons_succ, List.getElem_cons_zero, List.setIfInBounds_toArray, List.set_cons_zero, List.set_cons_succ]
  refine wpAnyH_take (i := 10) (v := ?dv25) rfl (by kernel_rfl) (by kernel_rfl) (by kernel_rfl) (fun _ _ _ h => h) (Or.inl ⟨by kernel_rfl, ?dy25⟩) (by assumption) ?_
  case dy25 => (intro w hSw; (try dsimp only at hSw); go_simp; try with_reducible rfl)
  try simp only [Act.put, List.getElem_toArray, List.getElem_cons_succ, List.getElem_cons_zero, List.setIfInBounds_toArray, List.set_cons_zero, List.set_cons_succ]
  refine wpAnyH_take (i := 11) (v := ?dv26) rfl (by kernel_rfl) (by kernel_rfl) (by kernel_rfl) (fun _ _ _ h => h) (Or.inl ⟨by kernel_rfl, ?dy26⟩) (by assumption) ?_
  case dy26 => (intro w hSw; (try dsimp only at hSw); go_simp; try with_reducible rfl)
  try simp only [Act.put, List.getElem_toArray, List.getElem_cons_succ, List.getElem_cons_zero, List.setIfInBounds_toArray, List.set_cons_zero, List.set_cons_succ]
  refine wpAnyH_take (i := 12) (v := undef) rfl (by kernel_rfl) (by kernel_rfl) (by kernel_rfl) (fun _ _ _ h => h) (Or.inr ⟨by kernel_rfl, rfl⟩) (by assumption) ?_
  try simp only [Act.put, List.getElem_toArray, List.getElem_cons_succ, List.getElem_cons_zero, List.setIfInBounds_toArray, List.set_cons_zero, List.set_cons_succ]
  refine wpAnyH_take (i := 13) (v := undef) rfl (by kernel_rfl) (by kernel_rfl) (by kernel_rfl) (fun _ _ _ h => h) (Or.inr ⟨by kernel_rfl, rfl⟩) (by assumption) ?_
  try simp only [Act.put, List.getElem_toArray, List.getElem_cons_succ, List.getElem_cons_zero, List.setIfInBounds_toArray, List.set_cons_zero, List.set_cons_succ]
  refine wpAnyH_take (i := 14) (v := undef) rfl (by kernel_rfl) (by kernel_rfl) (by kernel_rfl) (fun _ _ _ h => h) (Or.inr ⟨by kernel_rfl, rfl⟩) (by assumption) ?_
  try simp only [Act.put, List.getElem_toArray, List.getElem_cons_succ, List.getElem_cons_zero, List.setIfInBounds_toArray, List.set_cons_zero, List.set_cons_succ]
  refine wpAnyH_take (i := 15) (v := ?dv27) rfl (by kernel_rfl) (by kernel_rfl) (by kernel_rfl) (fun _ _ _ h => h) (Or.inl ⟨by kernel_rfl, ?dy27⟩) (by assumption) ?_
  case dy27 => (intro w hSw; (try dsimp only at hSw); go_simp; try with_reducible rfl)
  try simp only [Act.put, List.getElem_toArray, List.getElem_cons_succ, List.getElem_cons_zero, List.setIfInBounds_toArray, List.set_cons_zero, List.set_cons_succ]
  refine wpAnyH_take (i := 16) (v := ?dv28) rfl (by kernel_rfl) (by kernel_rfl) (by kernel_rfl) (fun _ _ _ h => h) (Or.inl ⟨by kernel_rfl, ?dy28⟩) (by assumption) ?_
  case dy28 => (intro w hSw; (try dsimp only at hSw); go_simp; try with_reducible rfl)
  try simp only [Act.put, List.getElem_toArray, List.getElem_cons_succ, List.getElem_cons_zero, List.setIfInBounds_toArray, List.set_cons_zero, List.set_cons_succ]
  refine wpAnyH_done (by kernel_rfl) ?_ _
  all_goals
   go_wp2_with fail
   go_ret
   exact ⟨rfl, hB.out⟩
 | true =>
  have hB := hid hS7.out.two.bel
  go_wp2_with fail
  refine wp_region_held_drew (S := fun w' => w'.cell? ⟨w.heap.size + 2, 0, none⟩ = some (.slice ax xa.length cx) ∧ w'.cell? ⟨w.heap.size + 3, 0, none⟩ = some (.slice ay xb.length cy) ∧ (convert 29 9 (.slice ax xa.length cx)).run Tryz.prog w' = .ok (.string sa) w' ∧ (convert 29 9 (.slice ay xb.length cy)).run Tryz.prog w' = .ok (.string sb) w' ∧ Two w w' a b vN1 vQ1 vN2 vQ2 d1 d2) (by kernel_rfl) ?hS (fun hHeld => ?_)
  case hS => exact ⟨x0, y0, hcs1.out _ _ vx.out, hcs2.out _ _ vy.out, hS7.out.two⟩
  refine wpAnyH_take (i := 0) (v := ?dv1) rfl (by kernel_rfl) (by kernel_rfl) (by kernel_rfl) (fun _ _ _ h => h) (Or.inl ⟨by kernel_rfl, ?dy1⟩) (by assumption) ?_
  case dy1 => (intro w hSw; (try dsimp only at hSw); go_simp; try with_reducible rfl)
  try simp only [Act.put, List.getElem_toArray, List.getElem_cons_zero, List.setIfInBounds_toArray, List.set_cons_zero, List.set_cons_succ]
  refine wpAnyH_take (i := 1) (v := ?dv2) rfl (by kernel_rfl) (by kernel_rfl) (by kernel_rfl) (fun _ _ _ h => h) (Or.inl ⟨by kernel_rfl, ?dy2⟩) (by assumption) ?_
  case dy2 => (intro w hSw; (try dsimp only at hSw); go_simp; try with_reducible rfl)
  try simp only [Act.put, List.getElem_toArray, List.getElem_cons_succ, List.getElem_cons_zero, List.setIfInBounds_toArray, List.set_cons_zero, List.set_cons_succ]
  refine wpAnyH_take (i := 2) (v := ?dv3) rfl (by kernel_rfl) (by kernel_rfl) (by kernel_rfl) (fun _ _ _ h => h) (Or.inl ⟨by kernel_rfl, ?dy3⟩) (by assumption) ?_
  case dy3 => (intro w hSw; (try dsimp only at hSw); go_simp; try with_reducible rfl)
  try simp only [Act.put, List.getElem_toArray, List.getElem_cons_succ, List.getElem_cons_zero, List.setIfInBounds_toArray, List.set_cons_zero, List.set_cons_succ]
  refine wpAnyH_take (i := 3) (v := ?dv4) rfl (by kernel_rfl) (by kernel_rfl) (by kernel_rfl) (fun _ _ _ h => h) (Or.inl ⟨by kernel_rfl, ?dy4⟩) (by assumption) ?_
  case dy4 => (intro w hSw; (try dsimp only at hSw); go_simp; try with_reducible rfl)
  try simp only [Act.put, List.getElem_toArray, List.getElem_cons_succ, List.getElem_cons_zero, List.setIfInBounds_toArray, List.set_cons_zero, List.set_cons_succ]
  refine wpAnyH_take (i := 4) (v := ?dv5) rfl (by kernel_rfl) (by kernel_rfl) (by kernel_rfl) (fun _ _ _ h => h) (Or.inl ⟨by kernel_rfl, ?dy5⟩) (by assumption) ?_
  case dy5 => (intro w hSw; (try dsimp only at hSw); go_simp; try with_reducible rfl)
  try simp only [Act.put, List.getElem_toArray, List.getElem_cons_succ, List.getElem_cons_zero, List.setIfInBounds_toArray, List.set_cons_zero, List.set_cons_succ]
  refine wpAnyH_take (i := 5) (v := ?dv6) rfl (by kernel_rfl) (by kernel_rfl) (by kernel_rfl) (fun _ _ _ h => h) (Or.inl ⟨by kernel_rfl, ?dy6⟩) (by assumption) ?_
  case dy6 => (intro w hSw; (try dsimp only at hSw); go_simp; try with_reducible rfl)
  try simp only [Act.put, List.getElem_toArray, List.getElem_cons_succ, List.getElem_cons_zero, List.setIfInBounds_toArray, List.set_cons_zero, List.set_cons_succ]
  refine wpAnyH_take (i := 6) (v := ?dv7) rfl (by kernel_rfl) (by kernel_rfl) (by kernel_rfl) (fun _ _ _ h => h) (Or.inl ⟨by kernel_rfl, ?dy7⟩) (by assumption) ?_
  case dy7 => (intro w hSw; (try dsimp only at hSw); go_simp; try with_reducible rfl)
  try simp only [Act.put, List.getElem_toArray, List.getElem_cons_succ, List.getElem_cons_zero, List.setIfInBounds_toArray, List.set_cons_zero, List.set_cons_succ]
  refine wpAnyH_take (i := 7) (v := ?dv8) rfl (by kernel_rfl) (by kernel_rfl) (by kernel_rfl) (fun _ _ _ h => h) (Or.inl ⟨by kernel_rfl, ?dy8⟩) (by assumption) ?_
  case dy8 => (intro w hSw; (try dsimp only at hSw); go_simp; try with_reducible rfl)
  try simp only [Act.put, List.getElem_toArray, List.getElem_cons_succ, List.getElem_cons_zero, List.setIfInBounds_toArray, List.set_cons_zero, List.set_cons_succ]
  refine wpAnyH_take (i := 8) (v := ?dv9) rfl (by kernel_rfl) (by kernel_rfl) (by kernel_rfl) (fun _ _ _ h => h) (Or.inl ⟨by kernel_rfl, ?dy9⟩) (by assumption) ?_
  case dy9 => (intro w hSw; (try dsimp only at hSw); go_simp; try with_reducible rfl)
  try simp only [Act.put, List.getElem_toArray, List.getElem_cons_succ, List.getElem_cons_zero, List.setIfInBounds_toArray, List.set_cons_zero, List.set_cons_succ]
  refine wpAnyH_take (i := 9) (v := ?dv10) rfl (by kernel_rfl) (by kernel_rfl) (by kernel_rfl) (fun _ _ _ h => h) (Or.inl ⟨by kernel_rfl, ?dy10⟩) (by assumption) ?_
  case dy10 => (intro w hSw; (try dsimp only at hSw); go_simp; try with_reducible rfl)
  try simp only [Act.put, List.getElem_toArray, List.getElem_cons_succ, List.getElem_cons_zero, List.setIfInBounds_toArray, List.set_cons_zero, List.set_cons_succ]
  refine wpAnyH_take (i := 10) (v := ?dv11) rfl (by kernel_rfl) (by kernel_rfl) (by kernel_rfl) (fun _ _ _ h => h) (Or.inl ⟨by kernel_rfl, ?dy11⟩) (by assumption) ?_
  case dy11 => (intro w hSw; (try dsimp only at hSw); go_simp; try with_reducible rfl)
  try simp only [Act.put, List.getElem_toArray, List.getElem_cons_succ, List.getElem_cons_zero, List.setIfInBounds_toArray, List.set_cons_zero, List.set_cons_succ]
  refine wpAnyH_take (i := 11) (v := ?dv12) rfl (by kernel_rfl) (by kernel_rfl) (by kernel_rfl) (fun _ _ _ h => h) (Or.inl ⟨by kernel_rfl, ?dy12⟩) (by assumption) ?_
  case dy12 => (intro w hSw; (try dsimp only at hSw); go_simp; try with_reducible rfl)
  try simp only [Act.put, List.getElem_toArray, List.getElem_cons_succ, List.getElem_cons_zero, List.setIfInBounds_toArray, List.set_cons_zero, List.set_cons_succ]
  refine wpAnyH_take (i := 12) (v := .agg (a.rcells vN1 vQ1 d1)) rfl (by kernel_rfl) (by kernel_rfl) (by kernel_rfl) (fun _ _ _ h => h) (Or.inl ⟨by kernel_rfl, fun X hS => run_rrow X _ _ (.tmp 2) w.heap.size _ (by kernel_rfl) (by kernel_rfl) hS.2.2.2.2.one rfl⟩) (by assumption) ?_
  try simp only [Act.put, List.getElem_toArray, List.getElem_cons_succ, List.getElem_cons_zero, List.setIfInBounds_toArray, List.set_cons_zero, List.set_cons_succ]
  refine wpAnyH_take (i := 13) (v := .agg (b.rcells vN2 vQ2 d2)) rfl (by kernel_rfl) (by kernel_rfl) (by kernel_rfl) (fun _ _ _ h => h) (Or.inl ⟨by kernel_rfl, fun X hS => run_rrow X _ _ (.tmp 3) (w.heap.size + 1) _ (by kernel_rfl) (by kernel_rfl) hS.2.2.2.2.two rfl⟩) (by assumption) ?_
  try simp only [Act.put, List.getElem_toArray, List.getElem_cons_succ, List.getElem_cons_zero, List.setIfInBounds_toArray, List.set_cons_zero, List.set_cons_succ]
  refine wpAnyH_ready (rs := [14]) (by kernel_rfl) (by simp) ?_
  refine AllReadyH.cons rfl (fun K hK => ?_) ?_
  ·rw [if_pos (by kernel_rfl)]
   go_simp
   go_at_call 35
   refine htx2.out.mono ?_
   rintro e w5 ⟨rfl, hb5⟩
   refine hK.out _ _ (by have hup := hS7.out.up hb5; exact ⟨(hb5.cell (p := ⟨w.heap.size + 2, 0, none⟩) hlx.out).trans x0, (hb5.cell (p := ⟨w.heap.size + 3, 0, none⟩) hly.out).trans y0, hcs1.out _ _ (vx.out.below hb5), hcs2.out _ _ (vy.out.below hb5), hup.two⟩) (fun hHeld => ?_)
   clear hK K
   try simp only [Act.put, List.getElem_toArray, List.getElem_cons_succ, List.getElem_cons_zero, List.setIfInBounds_toArray, List.set_cons_zero, List.set_cons_succ]
   refine wpAnyH_take (i := 15) (v := ?dv13) rfl (by kernel_rfl) (by kernel_rfl) (by kernel_rfl) (fun _ _ _ h => h) (Or.inl ⟨by kernel_rfl, ?dy13⟩) (by assumption) ?_
   case dy13 => (intro w hSw; (try dsimp only at hSw); go_simp; try with_reducible rfl)
   try simp only [Act.put, List.getElem_toArray, List.getElem_cons_succ, List.getElem_cons_zero, List.setIfInBounds_toArray, List.set_cons_zero, List.set_cons_succ]
   refine wpAnyH_take (i := 16) (v := ?dv14) rfl (by kernel_rfl) (by kernel_rfl) (by kernel_rfl) (fun _ _ _ h => h) (Or.inl ⟨by kernel_rfl, ?dy14⟩) (by assumption) ?_
   case dy14 => (intro w hSw; (try dsimp only at hSw); go_simp; try with_reducible rfl)
   try simp only [Act.put, List.getElem_toArray, List.getElem_cons_succ, List.getElem_cons_zero, List.setIfInBounds_toArray, List.set_cons_zero, List.set_cons_succ]
   refine wpAnyH_done (by kernel_rfl) ?_ _
   go_wp2_with fail
   go_ret
   exact ⟨rfl, sn hB.out hb5⟩
  exact AllReadyH.nil
theorem rsame_any (a b : M) (vN1 vQ1 vN2 vQ2 : Value) (d1 d2 : ByteArray) (w : World) (hN1 : StrsAt w vN1 a.names) (hN2 : StrsAt w vN2 b.names) (hQ1 : QidsAt w vQ1 a.qids) (hQ2 : QidsAt w vQ2 b.qids) (hd1 : d1.data.toList = a.data) (hd2 : d2.data.toList = b.data) (ha : MOk a) (hb : MOk b) (hf1 : RFew a) (hf2 : RFew b) (hk1 : 100 ≤ a.ty ∧ a.ty ≤ 127 ∧ a.ty ≠ 106) (hk2 : 100 ≤ b.ty ∧ b.ty ≤ 127 ∧ b.ty ≠ 106) :
  Calls Tryz.prog 13 #[.agg (a.rcells vN1 vQ1 d1), .agg (b.rcells vN2 vQ2 d2)] w (RSamePost w (rsameB a b)) := by
 by_cases h1 : a.ty = b.ty
 ·by_cases h2 : a.tag = b.tag
  ·exact rsame_eq a b vN1 vQ1 vN2 vQ2 d1 d2 w hN1 hN2 hQ1 hQ2 hd1 hd2 ha hb hf1 hf2 hk1 hk2 ⟨h1, h2⟩
  ·exact rsame_tag a b vN1 vQ1 vN2 vQ2 d1 d2 w hN1 hN2 hQ1 hQ2 hd1 hd2 ha hb hf1 hf2 hk1 hk2 h1 h2
 ·exact rsame_ty a b vN1 vQ1 vN2 vQ2 d1 d2 w hN1 hN2 hQ1 hQ2 hd1 hd2 ha hb hf1 hf2 hk1 hk2 h1
end
end Go.Proofs.YtlmojhlacfjmaaaGreat
