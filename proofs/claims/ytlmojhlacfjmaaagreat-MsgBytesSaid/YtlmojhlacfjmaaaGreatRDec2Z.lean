/- How the reference's messages read a record behind its length (In.stat). Conditions: bounds on lengths. -/
import Derived.Test.YtlmojhlacfjmaaaGreatRDec1Z
import Derived.Laws.CopyOwn
namespace Go.Proofs.YtlmojhlacfjmaaaGreat
open Go.RowKit
set_option maxRecDepth 100000
set_option linter.unusedVariables false

theorem stat_oneCell' (s : Stat) : s.cells.size = 13 ∧ s.cells.all (·.oneCell') = true := ⟨rfl, by kernel_rfl⟩
theorem RInAt.new5 {w : World} {b : Nat} {p : List UInt8 × Nat} (h : RInAt w b p) {w' : World} (hb : Below w.heap.size w w') {k : Nat} (hk : w.heap.size ≤ k) : ¬ Foot w' b k := by
 intro hf
 have hlt := h.lt
 have h1 : Foot w b k := by
  rcases hf with he | ⟨v, hv, hk2⟩
  ·exact .inl he
  ·rw [hb.cell (p := ⟨b, 0, none⟩) hlt] at hv; exact .inr ⟨v, hv, hk2⟩
 have := RInIs.foot_lt h h1
 omega
theorem foot_row {b k : Nat} {w : World} {q : Nat} {cs : Array Value} (hq : q ≠ b) (hf : Foot (w.setRow q cs) b k) : Foot w b k := by
 have hc0 : (w.setRow q cs).cell? ⟨b, 0, none⟩ = w.cell? ⟨b, 0, none⟩ := World.cell?_of_block (w := w) (setRow_other _ _ _ _ (Ne.symm hq))
 rcases hf with he | ⟨v, hv, hk2⟩
 ·exact .inl he
 ·rw [hc0] at hv; exact .inr ⟨v, hv, hk2⟩
theorem OStep.row {b : Nat} {w w1 : World} {q : Nat} (h : OStep b w w1) (hp : w.heap.size ≤ q) (hb : b < w.heap.size) (cs : Array Value) : OStep b w (w1.setRow q cs) :=
 have hne : q ≠ b := by omega
 ⟨below_setRow h.below (by omega) _, fun k hk hn => by
  obtain ⟨e1, n1⟩ := h.block k hk hn
  exact ⟨(setRow_other _ _ _ _ (by omega)).trans e1, fun hf => n1 (foot_row hne hf)⟩, fun ht => by
  obtain ⟨⟨cs', t, fr, hc, hs⟩, f1⟩ := h.two ht
  exact ⟨⟨cs', t, fr, (setRow_other _ _ _ _ (Ne.symm hne)).trans hc, hs⟩, fun k hk => f1 k (foot_row hne hk)⟩⟩
theorem RInAt.row {w : World} {b : Nat} {p : List UInt8 × Nat} (h : RInAt w b p) {q : Nat} (cs : Array Value) (hf : ¬ Foot w b q) : RInAt (w.setRow q cs) b p := by
 obtain ⟨v, at_, L, hb, hv, hr⟩ := h
 have hne : b ≠ q := fun e => hf (.inl e.symm)
 refine ⟨v, at_, L, (setRow_other _ _ _ _ hne).trans hb, RowAt.other hv (by simp) (fun j hj => setRow_other _ _ _ _ (fun e => ?_)), hr⟩
 exact hf (.inr ⟨v, block_cell hb 0, by rw [hj, e]⟩)

set_option maxHeartbeats 3200000 in
theorem rmstat_any (b : Nat) (p : List UInt8 × Nat) (w : World) (hl : p.1.length ≤ 1000000000) (h : RInAt w b p) :
  Calls Tryz.prog 53 #[.pointer (some ⟨b, 0, none⟩)] w (RMStat w b (decS (stB p)) (msR p)) := by
 have hv := tv_lt 2 p (by omega)
 have hbl : (stB p).length ≤ 65536 := by
  unfold stB rawL
  split
  ·simp
  ·split
   ·simp
   ·rw [List.length_take]; omega
 have e1 : stR p = rd (tv 2 p) (rd 2 p) := rfl
 have e2 : stB p = rawL (tv 2 p) (rd 2 p).1 (rd 2 p).2 := rfl
 obtain ⟨W0, hW0⟩ : ∃ W, W = w.alloc (.cells zeroS.cells 44) := ⟨_, rfl⟩
 have hb0 : Below w.heap.size w W0 := by rw [hW0]; exact (Below.refl w.heap.size w).alloc (Nat.le_refl _) _
 have hr0 : W0.heap[w.heap.size]? = some (.cells zeroS.cells 44 (0, 0)) := by rw [hW0, heap_alloc_new]
 have hn0 : ¬ Foot W0 b w.heap.size := by rw [hW0]; exact h.new _
 have hz0 : W0.heap.size = w.heap.size + 1 := by rw [hW0]; simp
 have hI0 := h.below hb0
 have hc := hid (rtake_at b 2 p W0 (by omega) (by omega) hI0)
 have hlt := hid h.lt
 obtain ⟨n, hn⟩ : ∃ n, n = tv 2 p := ⟨_, rfl⟩
 obtain ⟨q, hq⟩ : ∃ q, q = rd 2 p := ⟨_, rfl⟩
 rw [← hn, ← hq] at hc e1 e2
 rw [← hn] at hv
 have cv : IntKind.i64.wrap (n : Int) = (n : Int) := IntWalk.i64_in _ (by omega)
 have hraw := hid (fun W hR => rin_raw_step b n q.1 q.2 W (by omega) hR)
 obtain ⟨l, hll⟩ : ∃ l, l = stB p := ⟨_, rfl⟩
 obtain ⟨r, hr⟩ : ∃ r, r = stR p := ⟨_, rfl⟩
 have hm : msR p = if r.2 = 0 ∧ (decE l ≠ 0 ∨ decN l ≠ l.length) then (r.1, 2) else r := by unfold msR; rw [hr, hll]
 rw [← hll]
 replace hm := hid hm
 rw [← hll] at hbl e2
 rw [← hr] at e1
 have hraw2 : Hid (∀ W, RInAt W b q → Calls Tryz.prog 62 #[.pointer (some ⟨b, 0, none⟩), .int .i64 (n : Int)] W fun en w' => ∃ a c, en = .returned (.slice a l.length c) ∧ BytesAt w' (.slice a l.length c) l ∧ RInAt w' b r ∧ OStep b W w') := hid (fun W hR => (hraw.out W hR).mono (by
  rintro en w' ⟨v', rfl, hb1, hi1, hs1⟩
  rw [← e2] at hb1
  obtain ⟨a, c, rfl, _, _, _⟩ := hb1.form
  exact ⟨a, c, rfl, hb1, by rw [e1]; exact hi1, hs1⟩))
 clear hraw e1 e2 hn hq hll hr h hl
 have hcells := hid (stat_oneCell' (decS l))
 rw [show zeroS.cells = #[.int .u16 0, .int .u32 0, .int .u8 0, .int .u32 0, .int .u64 0, .int .u32 0, .int .u32 0, .int .u32 0, .int .u64 0, .string ⟨#[]⟩, .string ⟨#[]⟩, .string ⟨#[]⟩, .string ⟨#[]⟩] from rfl] at hW0 hr0
 replace hb0 := hid hb0
 replace hr0 := hid hr0
 replace hn0 := hid hn0
 replace hI0 := hid hI0
 replace hz0 := hid hz0
 replace hv := hid hv
 go_enter Tryz.func53, Tryz.ntmps53
 go_wp2_with (rw [← hW0]; replace hW0 := hid hW0)
 try (rw [← hW0]; replace hW0 := hid hW0)
 refine hc.out.mono ?_
 rintro e w1 ⟨rfl, h1, hs1⟩
 have hS1 := hid hs1
 have hr1 := hid (hs1.block _ (lt_of_block hr0.out) hn0.out)
 replace h1 := hid h1
 clear hs1
 go_wp2_with fail
 refine (hraw2.out w1 h1.out).mono ?_
 rintro e w2 ⟨a, c, rfl, hb2, h2, hs2⟩
 have hS2 := hid (hS1.out.trans hs2)
 have hr2 := hid (hs2.block _ (Nat.lt_of_lt_of_le (lt_of_block hr0.out) hS1.out.below.size) hr1.out.2)
 have hrr2 := hid (hr2.out.1.trans (hr1.out.1.trans hr0.out))
 have hdec := hid (statof_any _ l w2 hb2 (by omega))
 replace h2 := hid h2
 clear hb2 hs2
 go_wp2_with fail
 refine hdec.out.mono ?_
 rintro e w3 ⟨rfl, hb3⟩
 have hlt2 : b < w2.heap.size := h2.out.lt
 have hS3 := hid (hS2.out.trans (OStep.pure hlt2 hb3))
 have h3 := hid (h2.out.below hb3)
 have hr3 := hid ((hb3.block _ (lt_of_block hrr2.out)).trans hrr2.out)
 have hf3 : Hid (¬ Foot w3 b w.heap.size) := hid ((OStep.pure hlt2 hb3).block _ (lt_of_block hrr2.out) hr2.out.2).2
 have hnew := hid (heap_alloc_new w3 (.cells #[.int .u16 0, .int .u32 0, .int .u8 0, .int .u32 0, .int .u64 0, .int .u32 0, .int .u32 0, .int .u32 0, .int .u64 0, .string ⟨#[]⟩, .string ⟨#[]⟩, .string ⟨#[]⟩, .string ⟨#[]⟩] 44))
 obtain ⟨W5, hW5⟩ : ∃ W, W = (w3.alloc (.cells #[.int .u16 0, .int .u32 0, .int .u8 0, .int .u32 0, .int .u64 0, .int .u32 0, .int .u32 0, .int .u32 0, .int .u64 0, .string ⟨#[]⟩, .string ⟨#[]⟩, .string ⟨#[]⟩, .string ⟨#[]⟩] 44)).setRow w3.heap.size (decS l).cells := ⟨_, rfl⟩
 have hb5 : Below w3.heap.size w3 W5 := by rw [hW5]; exact below_setRow ((Below.refl _ _).alloc (Nat.le_refl _) _) (Nat.le_refl _) _
 have hx5 := hid (show W5.heap[w3.heap.size]? = some (.cells (decS l).cells 44 (0, 0)) by rw [hW5]; exact setRow_heap _ _ _ _ _ _ hnew.out)
 have hlt3 : b < w3.heap.size := h3.out.lt
 have hS5 := hid (hS3.out.trans (OStep.pure hlt3 hb5))
 have h5 := h3.out.below hb5
 have hr5 := hid ((hb5.block _ (lt_of_block hr3.out)).trans hr3.out)
 have hf5 : Hid (¬ Foot W5 b w.heap.size) := hid ((OStep.pure hlt3 hb5).block _ (lt_of_block hr3.out) hf3.out).2
 have hne5 : w3.heap.size ≠ b := by omega
 have hf5x : Hid (¬ Foot W5 b w3.heap.size) := hid (h3.out.new5 hb5 (Nat.le_refl _))
 clear hb3 hb5 hS3 h3 hr3 hf3 hS2 hr2 hrr2 hdec hS1 hr1
 go_upto_region 3 with (first
  | (refine wpList_store_row (by rfl) 44 (.tmp 4) (.tmp 15) (by rfl) w3.heap.size (decS l).cells (by rfl) (by rfl) 44 _ hnew.out (by rw [hcells.out.1]; kernel_rfl) (by rw [hcells.out.1]; rfl) hcells.out.2 ?_)
  | (rw [← hW5]; replace hW5 := hid hW5))
 try (rw [← hW5]; replace hW5 := hid hW5)
 generalize w3.heap.size = k at *
 clear hnew
 obtain ⟨c2, f2⟩ := h5.bad2
 have hend : Hid (∀ (X : World) (r' : List UInt8 × Nat), RInAt X b r' → OStep b W5 X → X.heap[k]? = some (.cells (decS l).cells 44 (0, 0)) ∧ (∃ old : Array Value, X.heap[w.heap.size]? = some (.cells old 44 (0, 0)) ∧ old.size = 13) ∧ RInAt (X.setRow w.heap.size (decS l).cells) b r' ∧ OStep b w (X.setRow w.heap.size (decS l).cells)) := hid (fun X r' hX hs => by
  obtain ⟨x1, x2⟩ := hs.block _ (lt_of_block hr5.out) hf5.out
  obtain ⟨y1, y2⟩ := hs.block _ (lt_of_block hx5.out) hf5x.out
  have hxx := (hS5.out.trans hs)
  exact ⟨y1.trans hx5.out, ⟨_, x1.trans hr5.out, rfl⟩, hX.row _ x2, ((OStep.pure hlt.out hb0.out).trans hxx).row (Nat.le_refl _) hlt.out _⟩)
 clear hS5 hr5 hf5 hx5 hf5x
 have htail : ∀ (X : World) (r' : List UInt8 × Nat), RInAt X b r' → OStep b W5 X → True := fun _ _ _ _ => trivial
 clear htail
 by_cases g0 : r.2 = 0
 ·rw [g0] at c2
  by_cases g1 : decE l = 0
  ·by_cases g2 : decN l = l.length
   ·have hmr := hid (show msR p = r by rw [hm.out, if_neg (by rintro ⟨_, h | h⟩; exact h g1; exact h g2)])
    rw [g1, g2]
    have q2 : ((l.length : Int) != (l.length : Int)) = false := by simp
    obtain ⟨z1, ⟨old, z2, z3⟩, z4, z5⟩ := hend.out W5 r h5 (OStep.refl _ _)
    replace h5 := hid h5
    replace z1 := hid z1
    replace z2 := hid z2
    replace z4 := hid z4
    replace z5 := hid z5
    replace z3 := hid z3
    replace g0 := hid g0
    replace g1 := hid g1
    replace g2 := hid g2
    go_wp2_with (first
     | (refine wpList_load_row (by rfl) 44 (.tmp 4) (by rfl) k (by rfl) 44 _ (0, 0) _ z1.out Tryz.underlying44 (by rfl) (by rw [hcells.out.1]; kernel_rfl) ?_)
     | (refine wpList_store_row (by rfl) 44 (.tmp 2) (.tmp 36) (by rfl) w.heap.size (decS l).cells (by rfl) (by rfl) 44 _ z2.out (by rw [hcells.out.1]; kernel_rfl) (by rw [z3.out, hcells.out.1]) hcells.out.2 ?_))
    refine bodyPost_ret (results_cell_row rfl _ _ w.heap.size _ _ _ _ rfl (setRow_heap _ _ _ _ _ _ z2.out) Tryz.underlying44 rfl (by rw [hcells.out.1]; kernel_rfl)) rfl ?_
    exact ⟨rfl, by rw [hmr.out]; exact z4.out, z5.out⟩
   ·have hmr := hid (show msR p = (r.1, 2) by rw [hm.out, if_pos ⟨g0, .inr g2⟩])
    rw [g1]
    have q2 : ((decN l : Int) != (l.length : Int)) = true := by simp; omega
    obtain ⟨r1, r2⟩ := rin_bad2 h5 2
    obtain ⟨X, hX⟩ : ∃ W, W = W5.setCell ⟨b, 2, none⟩ (.int .i64 2) := ⟨_, rfl⟩
    replace r1 : RInAt X b (r.1, 2) := by rw [hX]; exact r1
    replace r2 : OStep b W5 X := by rw [hX]; exact r2
    obtain ⟨z1, ⟨old, z2, z3⟩, z4, z5⟩ := hend.out X _ r1 r2
    replace h5 := hid h5
    replace r1 := hid r1
    replace r2 := hid r2
    replace z1 := hid z1
    replace z2 := hid z2
    replace z4 := hid z4
    replace z5 := hid z5
    replace z3 := hid z3
    replace g0 := hid g0
    go_upto_region 5 with (rw [← hX]; replace hX := hid hX)
    try (rw [← hX]; replace hX := hid hX)
    clear c2 f2
    go_wp2_with (first
     | (refine wpList_load_row (by rfl) 44 (.tmp 4) (by rfl) k (by rfl) 44 _ (0, 0) _ z1.out Tryz.underlying44 (by rfl) (by rw [hcells.out.1]; kernel_rfl) ?_)
     | (refine wpList_store_row (by rfl) 44 (.tmp 2) (.tmp 36) (by rfl) w.heap.size (decS l).cells (by rfl) (by rfl) 44 _ z2.out (by rw [hcells.out.1]; kernel_rfl) (by rw [z3.out, hcells.out.1]) hcells.out.2 ?_))
    refine bodyPost_ret (results_cell_row rfl _ _ w.heap.size _ _ _ _ rfl (setRow_heap _ _ _ _ _ _ z2.out) Tryz.underlying44 rfl (by rw [hcells.out.1]; kernel_rfl)) rfl ?_
    exact ⟨rfl, by rw [hmr.out]; exact z4.out, z5.out⟩
  ·have hmr := hid (show msR p = (r.1, 2) by rw [hm.out, if_pos ⟨g0, .inl g1⟩])
   have q1 : ((decE l : Int) != 0) = true := by simp; omega
   replace g1 := hid g1
   obtain ⟨r1, r2⟩ := rin_bad2 h5 2
   obtain ⟨X, hX⟩ : ∃ W, W = W5.setCell ⟨b, 2, none⟩ (.int .i64 2) := ⟨_, rfl⟩
   replace r1 : RInAt X b (r.1, 2) := by rw [hX]; exact r1
   replace r2 : OStep b W5 X := by rw [hX]; exact r2
   obtain ⟨z1, ⟨old, z2, z3⟩, z4, z5⟩ := hend.out X _ r1 r2
   replace h5 := hid h5
   replace r1 := hid r1
   replace r2 := hid r2
   replace z1 := hid z1
   replace z2 := hid z2
   replace z4 := hid z4
   replace z5 := hid z5
   replace z3 := hid z3
   replace g0 := hid g0
   go_upto_region 5 with (rw [← hX]; replace hX := hid hX)
   try (rw [← hX]; replace hX := hid hX)
   clear c2 f2
   go_wp2_with (first
    | (refine wpList_load_row (by rfl) 44 (.tmp 4) (by rfl) k (by rfl) 44 _ (0, 0) _ z1.out Tryz.underlying44 (by rfl) (by rw [hcells.out.1]; kernel_rfl) ?_)
    | (refine wpList_store_row (by rfl) 44 (.tmp 2) (.tmp 36) (by rfl) w.heap.size (decS l).cells (by rfl) (by rfl) 44 _ z2.out (by rw [hcells.out.1]; kernel_rfl) (by rw [z3.out, hcells.out.1]) hcells.out.2 ?_))
   refine bodyPost_ret (results_cell_row rfl _ _ w.heap.size _ _ _ _ rfl (setRow_heap _ _ _ _ _ _ z2.out) Tryz.underlying44 rfl (by rw [hcells.out.1]; kernel_rfl)) rfl ?_
   exact ⟨rfl, by rw [hmr.out]; exact z4.out, z5.out⟩
 ·have hmr := hid (show msR p = r by rw [hm.out, if_neg (fun h => g0 h.1)])
  have q0 : ((r.2 : Int) == 0) = false := by simp; omega
  obtain ⟨z1, ⟨old, z2, z3⟩, z4, z5⟩ := hend.out W5 r h5 (OStep.refl _ _)
  replace h5 := hid h5
  replace z1 := hid z1
  replace z2 := hid z2
  replace z4 := hid z4
  replace z5 := hid z5
  replace z3 := hid z3
  replace g0 := hid g0
  go_wp2_with (first
   | (refine wpList_load_row (by rfl) 44 (.tmp 4) (by rfl) k (by rfl) 44 _ (0, 0) _ z1.out Tryz.underlying44 (by rfl) (by rw [hcells.out.1]; kernel_rfl) ?_)
   | (refine wpList_store_row (by rfl) 44 (.tmp 2) (.tmp 36) (by rfl) w.heap.size (decS l).cells (by rfl) (by rfl) 44 _ z2.out (by rw [hcells.out.1]; kernel_rfl) (by rw [z3.out, hcells.out.1]) hcells.out.2 ?_))
  refine bodyPost_ret (results_cell_row rfl _ _ w.heap.size _ _ _ _ rfl (setRow_heap _ _ _ _ _ _ z2.out) Tryz.underlying44 rfl (by rw [hcells.out.1]; kernel_rfl)) rfl ?_
  exact ⟨rfl, by rw [hmr.out]; exact z4.out, z5.out⟩
end Go.Proofs.YtlmojhlacfjmaaaGreat
