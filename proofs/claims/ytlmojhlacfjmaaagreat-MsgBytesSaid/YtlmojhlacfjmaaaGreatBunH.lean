/- What the methods of msg.in read and store, or which error they raise, under bounds on lengths that each theorem names. No further condition.
What data and stat of msg.in read and store, or that they raise an error. Conditions: bounds on lengths.
stat of msg.in raises an error. Conditions: bounds on lengths. -/
import Derived.Test.YtlmojhlacfjmaaaGreatBunF
import Derived.Test.YtlmojhlacfjmaaaGreatBunE
namespace Go.Proofs.YtlmojhlacfjmaaaGreat
section
open Go.RowKit
set_option maxRecDepth 100000

def InSet (w : World) (b q i : Nat) (p : List UInt8 × Nat) (u : Value) (e : Ending) (w' : World) : Prop :=
 e = .returned (.tuple #[]) ∧ ∃ w1, OStep b w w1 ∧ InAt w1 b p ∧ w' = w1.setCell ⟨q, i, none⟩ u

set_option maxHeartbeats 800000 in
theorem in_number_ok (b n : Nat) (p : List UInt8 × Nat) (w : World) (hn1 : 1 ≤ n) (hn8 : n ≤ 8) (hl : p.1.length ≤ 1000000000) (h : InAt w b p) (he : (rd n p).2 = 0) :
  Calls Tryz.prog 65 #[.agg #[.pointer (some ⟨b, 0, none⟩)], .int .i64 (n : Int)] w fun e w' => e = .returned (.int .u64 (tv n p : Int)) ∧ InAt w' b (rd n p) ∧ OStep b w w' := by
 have hb0 := (Below.refl w.heap.size w).alloc (Nat.le_refl _) (.cells #[.pointer (some ⟨b, 0, none⟩)] 127)
 have ha := h.below hb0
 have st0 := OStep.pure h.lt hb0
 have hnf := hid (h.new (.cells #[.pointer (some ⟨b, 0, none⟩)] 127))
 have hq := hid (heap_alloc_new w (.cells #[.pointer (some ⟨b, 0, none⟩)] 127))
 replace he := hid he
 go_enter Tryz.func65, Tryz.ntmps65
 go_wp2_with fail
 refine (take_at b n p _ hn1 hn8 hl ha).mono ?_
 rintro e w1 ⟨rfl, ha1, hs1⟩
 have hq1 := ((hs1.block w.heap.size (by simp) hnf.out).1).trans hq.out
 have c1 : w1.cell? ⟨w.heap.size, 0, none⟩ = some (.pointer (some ⟨b, 0, none⟩)) := block_cell hq1 0
 replace hq1 := hid hq1
 go_wp2_with fail
 refine (err_at b _ _ ha1).mono ?_
 rintro e w2 ⟨rfl, rfl⟩
 rw [he.out]
 go_wp2_with fail
 refine (mmust_ok _).mono ?_
 rintro e w2 ⟨rfl, rfl⟩
 go_wp2_with fail
 go_ret
 exact ⟨rfl, ha1, st0.trans hs1⟩

set_option maxHeartbeats 800000 in
theorem in_number_bad (b n : Nat) (p : List UInt8 × Nat) (w : World) (hn1 : 1 ≤ n) (hn8 : n ≤ 8) (hl : p.1.length ≤ 1000000000) (h : InAt w b p) (he : (rd n p).2 ≠ 0) :
  Calls Tryz.prog 65 #[.agg #[.pointer (some ⟨b, 0, none⟩)], .int .i64 (n : Int)] w fun e w' => e = .panicked (errChain (rd n p).2) ∧ OStep b w w' := by
 have hb0 := (Below.refl w.heap.size w).alloc (Nat.le_refl _) (.cells #[.pointer (some ⟨b, 0, none⟩)] 127)
 have ha := h.below hb0
 have st0 := OStep.pure h.lt hb0
 have hnf := hid (h.new (.cells #[.pointer (some ⟨b, 0, none⟩)] 127))
 have hq := hid (heap_alloc_new w (.cells #[.pointer (some ⟨b, 0, none⟩)] 127))
 have hmb := hid (fun W => mmust_bad (rd n p).2 he W)
 clear he
 go_enter Tryz.func65, Tryz.ntmps65
 go_wp2_with fail
 refine (take_at b n p _ hn1 hn8 hl ha).mono ?_
 rintro e w1 ⟨rfl, ha1, hs1⟩
 have hq1 := ((hs1.block w.heap.size (by simp) hnf.out).1).trans hq.out
 have c1 : w1.cell? ⟨w.heap.size, 0, none⟩ = some (.pointer (some ⟨b, 0, none⟩)) := block_cell hq1 0
 replace hq1 := hid hq1
 go_wp2_with fail
 refine (err_at b _ _ ha1).mono ?_
 rintro e w2 ⟨rfl, rfl⟩
 go_wp2_with fail
 refine (hmb.out _).mono ?_
 rintro e w2 ⟨rfl, rfl⟩
 go_wp2_with fail
 exact ⟨rfl, rfl, st0.trans hs1⟩

set_option maxHeartbeats 800000 in
theorem in_u8_ok (b q i : Nat) (u : Value) (p : List UInt8 × Nat) (w : World) (hl : p.1.length ≤ 1000000000) (h : InAt w b p) (he : (rd 1 p).2 = 0) (hf : ¬ Foot w b q) (hc : w.cell? ⟨q, i, none⟩ = some u) (hz : w.frozen? ⟨q, i, none⟩ = false) :
  Calls Tryz.prog 58 #[.agg #[.pointer (some ⟨b, 0, none⟩)], .pointer (some ⟨q, i, none⟩)] w (InSet w b q i (rd 1 p) (.int .u8 (tv 1 p : Int))) := by
 have hb0 := (Below.refl w.heap.size w).alloc (Nat.le_refl _) (.cells #[.pointer (some ⟨b, 0, none⟩)] 127)
 have ha := h.below hb0
 have st0 := OStep.pure h.lt hb0
 have c0 : IntKind.u8.wrap (tv 1 p : Int) = (tv 1 p : Int) := IntWalk.u8_in _ (by have := tv_lt 1 p (by omega); omega)
 have hnum := hid (fun W (h : InAt W b p) => in_number_ok b 1 p W (by omega) (by omega) hl h he)
 clear he
 have hlt := World.block_lt_of_cell? w _ hc
 have hf' := hid hf
 clear hf
 go_enter Tryz.func58, Tryz.ntmps58
 go_wp2_with fail
 refine (hnum.out _ ha).mono ?_
 rintro e w1 ⟨rfl, ha1, hs1⟩
 have hst := st0.trans hs1
 have c1 := hst.cell hf'.out hc
 have f1 : w1.frozen? ⟨q, i, none⟩ = false := (World.frozen?_of_block (w := w) ((hst.block q hlt hf'.out).1)).trans hz
 clear hc hz
 go_wp2_with fail
 go_end0
 exact ⟨rfl, _, hst, ha1, rfl⟩

set_option maxHeartbeats 800000 in
theorem in_u8_bad (b q i : Nat) (p : List UInt8 × Nat) (w : World) (hl : p.1.length ≤ 1000000000) (h : InAt w b p) (he : (rd 1 p).2 ≠ 0) :
  Calls Tryz.prog 58 #[.agg #[.pointer (some ⟨b, 0, none⟩)], .pointer (some ⟨q, i, none⟩)] w fun e w' => e = .panicked (errChain (rd 1 p).2) ∧ OStep b w w' := by
 have hb0 := (Below.refl w.heap.size w).alloc (Nat.le_refl _) (.cells #[.pointer (some ⟨b, 0, none⟩)] 127)
 have ha := h.below hb0
 have st0 := OStep.pure h.lt hb0
 have hnum := hid (fun W (h : InAt W b p) => in_number_bad b 1 p W (by omega) (by omega) hl h he)
 clear he
 go_enter Tryz.func58, Tryz.ntmps58
 go_wp2_with fail
 refine (hnum.out _ ha).mono ?_
 rintro e w1 ⟨rfl, hs1⟩
 go_wp2_with fail
 exact ⟨rfl, rfl, st0.trans hs1⟩

set_option maxHeartbeats 800000 in
theorem in_u16_ok (b q i : Nat) (u : Value) (p : List UInt8 × Nat) (w : World) (hl : p.1.length ≤ 1000000000) (h : InAt w b p) (he : (rd 2 p).2 = 0) (hf : ¬ Foot w b q) (hc : w.cell? ⟨q, i, none⟩ = some u) (hz : w.frozen? ⟨q, i, none⟩ = false) :
  Calls Tryz.prog 59 #[.agg #[.pointer (some ⟨b, 0, none⟩)], .pointer (some ⟨q, i, none⟩)] w (InSet w b q i (rd 2 p) (.int .u16 (tv 2 p : Int))) := by
 have hb0 := (Below.refl w.heap.size w).alloc (Nat.le_refl _) (.cells #[.pointer (some ⟨b, 0, none⟩)] 127)
 have ha := h.below hb0
 have st0 := OStep.pure h.lt hb0
 have c0 : IntKind.u16.wrap (tv 2 p : Int) = (tv 2 p : Int) := IntWalk.u16_in _ (by have := tv_lt 2 p (by omega); omega)
 have hnum := hid (fun W (h : InAt W b p) => in_number_ok b 2 p W (by omega) (by omega) hl h he)
 clear he
 have hlt := World.block_lt_of_cell? w _ hc
 have hf' := hid hf
 clear hf
 go_enter Tryz.func59, Tryz.ntmps59
 go_wp2_with fail
 refine (hnum.out _ ha).mono ?_
 rintro e w1 ⟨rfl, ha1, hs1⟩
 have hst := st0.trans hs1
 have c1 := hst.cell hf'.out hc
 have f1 : w1.frozen? ⟨q, i, none⟩ = false := (World.frozen?_of_block (w := w) ((hst.block q hlt hf'.out).1)).trans hz
 clear hc hz
 go_wp2_with fail
 go_end0
 exact ⟨rfl, _, hst, ha1, rfl⟩

set_option maxHeartbeats 800000 in
theorem in_u16_bad (b q i : Nat) (p : List UInt8 × Nat) (w : World) (hl : p.1.length ≤ 1000000000) (h : InAt w b p) (he : (rd 2 p).2 ≠ 0) :
  Calls Tryz.prog 59 #[.agg #[.pointer (some ⟨b, 0, none⟩)], .pointer (some ⟨q, i, none⟩)] w fun e w' => e = .panicked (errChain (rd 2 p).2) ∧ OStep b w w' := by
 have hb0 := (Below.refl w.heap.size w).alloc (Nat.le_refl _) (.cells #[.pointer (some ⟨b, 0, none⟩)] 127)
 have ha := h.below hb0
 have st0 := OStep.pure h.lt hb0
 have hnum := hid (fun W (h : InAt W b p) => in_number_bad b 2 p W (by omega) (by omega) hl h he)
 clear he
 go_enter Tryz.func59, Tryz.ntmps59
 go_wp2_with fail
 refine (hnum.out _ ha).mono ?_
 rintro e w1 ⟨rfl, hs1⟩
 go_wp2_with fail
 exact ⟨rfl, rfl, st0.trans hs1⟩

set_option maxHeartbeats 800000 in
theorem in_u32_ok (b q i : Nat) (u : Value) (p : List UInt8 × Nat) (w : World) (hl : p.1.length ≤ 1000000000) (h : InAt w b p) (he : (rd 4 p).2 = 0) (hf : ¬ Foot w b q) (hc : w.cell? ⟨q, i, none⟩ = some u) (hz : w.frozen? ⟨q, i, none⟩ = false) :
  Calls Tryz.prog 133 #[.agg #[.pointer (some ⟨b, 0, none⟩)], .pointer (some ⟨q, i, none⟩)] w (InSet w b q i (rd 4 p) (.int .u32 (tv 4 p : Int))) := by
 have hb0 := (Below.refl w.heap.size w).alloc (Nat.le_refl _) (.cells #[.pointer (some ⟨b, 0, none⟩)] 127)
 have ha := h.below hb0
 have st0 := OStep.pure h.lt hb0
 have c0 : IntKind.u32.wrap (tv 4 p : Int) = (tv 4 p : Int) := IntWalk.u32_in _ (by have := tv_lt 4 p (by omega); omega)
 have hnum := hid (fun W (h : InAt W b p) => in_number_ok b 4 p W (by omega) (by omega) hl h he)
 clear he
 have hlt := World.block_lt_of_cell? w _ hc
 have hf' := hid hf
 clear hf
 go_enter Tryz.func133, Tryz.ntmps133
 go_wp2_with fail
 refine (hnum.out _ ha).mono ?_
 rintro e w1 ⟨rfl, ha1, hs1⟩
 have hst := st0.trans hs1
 have c1 := hst.cell hf'.out hc
 have f1 : w1.frozen? ⟨q, i, none⟩ = false := (World.frozen?_of_block (w := w) ((hst.block q hlt hf'.out).1)).trans hz
 clear hc hz
 go_wp2_with fail
 go_end0
 exact ⟨rfl, _, hst, ha1, rfl⟩

set_option maxHeartbeats 800000 in
theorem in_u32_bad (b q i : Nat) (p : List UInt8 × Nat) (w : World) (hl : p.1.length ≤ 1000000000) (h : InAt w b p) (he : (rd 4 p).2 ≠ 0) :
  Calls Tryz.prog 133 #[.agg #[.pointer (some ⟨b, 0, none⟩)], .pointer (some ⟨q, i, none⟩)] w fun e w' => e = .panicked (errChain (rd 4 p).2) ∧ OStep b w w' := by
 have hb0 := (Below.refl w.heap.size w).alloc (Nat.le_refl _) (.cells #[.pointer (some ⟨b, 0, none⟩)] 127)
 have ha := h.below hb0
 have st0 := OStep.pure h.lt hb0
 have hnum := hid (fun W (h : InAt W b p) => in_number_bad b 4 p W (by omega) (by omega) hl h he)
 clear he
 go_enter Tryz.func133, Tryz.ntmps133
 go_wp2_with fail
 refine (hnum.out _ ha).mono ?_
 rintro e w1 ⟨rfl, hs1⟩
 go_wp2_with fail
 exact ⟨rfl, rfl, st0.trans hs1⟩

set_option maxHeartbeats 800000 in
theorem in_u64_ok (b q i : Nat) (u : Value) (p : List UInt8 × Nat) (w : World) (hl : p.1.length ≤ 1000000000) (h : InAt w b p) (he : (rd 8 p).2 = 0) (hf : ¬ Foot w b q) (hc : w.cell? ⟨q, i, none⟩ = some u) (hz : w.frozen? ⟨q, i, none⟩ = false) :
  Calls Tryz.prog 134 #[.agg #[.pointer (some ⟨b, 0, none⟩)], .pointer (some ⟨q, i, none⟩)] w (InSet w b q i (rd 8 p) (.int .u64 (tv 8 p : Int))) := by
 have hb0 := (Below.refl w.heap.size w).alloc (Nat.le_refl _) (.cells #[.pointer (some ⟨b, 0, none⟩)] 127)
 have ha := h.below hb0
 have st0 := OStep.pure h.lt hb0
 have hnum := hid (fun W (h : InAt W b p) => in_number_ok b 8 p W (by omega) (by omega) hl h he)
 clear he
 have hlt := World.block_lt_of_cell? w _ hc
 have hf' := hid hf
 clear hf
 go_enter Tryz.func134, Tryz.ntmps134
 go_wp2_with fail
 refine (hnum.out _ ha).mono ?_
 rintro e w1 ⟨rfl, ha1, hs1⟩
 have hst := st0.trans hs1
 have c1 := hst.cell hf'.out hc
 have f1 : w1.frozen? ⟨q, i, none⟩ = false := (World.frozen?_of_block (w := w) ((hst.block q hlt hf'.out).1)).trans hz
 clear hc hz
 go_wp2_with fail
 go_end0
 exact ⟨rfl, _, hst, ha1, rfl⟩

set_option maxHeartbeats 800000 in
theorem in_u64_bad (b q i : Nat) (p : List UInt8 × Nat) (w : World) (hl : p.1.length ≤ 1000000000) (h : InAt w b p) (he : (rd 8 p).2 ≠ 0) :
  Calls Tryz.prog 134 #[.agg #[.pointer (some ⟨b, 0, none⟩)], .pointer (some ⟨q, i, none⟩)] w fun e w' => e = .panicked (errChain (rd 8 p).2) ∧ OStep b w w' := by
 have hb0 := (Below.refl w.heap.size w).alloc (Nat.le_refl _) (.cells #[.pointer (some ⟨b, 0, none⟩)] 127)
 have ha := h.below hb0
 have st0 := OStep.pure h.lt hb0
 have hnum := hid (fun W (h : InAt W b p) => in_number_bad b 8 p W (by omega) (by omega) hl h he)
 clear he
 go_enter Tryz.func134, Tryz.ntmps134
 go_wp2_with fail
 refine (hnum.out _ ha).mono ?_
 rintro e w1 ⟨rfl, hs1⟩
 go_wp2_with fail
 exact ⟨rfl, rfl, st0.trans hs1⟩

theorem text_at (b : Nat) (p : List UInt8 × Nat) (w : World) (hl : p.1.length ≤ 1000000000) (h : InAt w b p) :
  Calls Tryz.prog 140 #[.pointer (some ⟨b, 0, none⟩)] w fun en w' => en = .returned (.tuple #[.string (ts p), .int .i64 (te p : Int)]) ∧ InAt w' b (tr p) ∧ OStep b w w' := text_take_step b p.1 p.2 w hl h

set_option maxHeartbeats 800000 in
theorem in_text_ok (b q i : Nat) (u : Value) (p : List UInt8 × Nat) (w : World) (hl : p.1.length ≤ 1000000000) (h : InAt w b p) (he : te p = 0) (hf : ¬ Foot w b q) (hc : w.cell? ⟨q, i, none⟩ = some u) (hz : w.frozen? ⟨q, i, none⟩ = false) :
  Calls Tryz.prog 131 #[.agg #[.pointer (some ⟨b, 0, none⟩)], .pointer (some ⟨q, i, none⟩)] w (InSet w b q i (tr p) (.string (ts p))) := by
 have hb0 := (Below.refl w.heap.size w).alloc (Nat.le_refl _) (.cells #[.pointer (some ⟨b, 0, none⟩)] 127)
 have ha := h.below hb0
 have st0 := OStep.pure h.lt hb0
 have hlt := World.block_lt_of_cell? w _ hc
 have hf' := hid hf
 replace he := hid he
 clear hf
 go_enter Tryz.func131, Tryz.ntmps131
 go_wp2_with fail
 refine (text_at b p _ hl ha).mono ?_
 rintro e w1 ⟨rfl, ha1, hs1⟩
 rw [he.out]
 have hst := st0.trans hs1
 have c1 := hst.cell hf'.out hc
 have f1 : w1.frozen? ⟨q, i, none⟩ = false := (World.frozen?_of_block (w := w) ((hst.block q hlt hf'.out).1)).trans hz
 clear hc hz
 go_wp2_with fail
 refine (mmust_ok _).mono ?_
 rintro e w2 ⟨rfl, rfl⟩
 go_wp2_with fail
 go_end0
 exact ⟨rfl, _, hst, ha1, rfl⟩

set_option maxHeartbeats 800000 in
theorem in_text_bad (b q i : Nat) (p : List UInt8 × Nat) (w : World) (hl : p.1.length ≤ 1000000000) (h : InAt w b p) (he : te p ≠ 0) :
  Calls Tryz.prog 131 #[.agg #[.pointer (some ⟨b, 0, none⟩)], .pointer (some ⟨q, i, none⟩)] w fun e w' => e = .panicked (errChain (te p)) ∧ OStep b w w' := by
 have hb0 := (Below.refl w.heap.size w).alloc (Nat.le_refl _) (.cells #[.pointer (some ⟨b, 0, none⟩)] 127)
 have ha := h.below hb0
 have st0 := OStep.pure h.lt hb0
 have hmb := hid (fun W => mmust_bad (te p) he W)
 clear he
 go_enter Tryz.func131, Tryz.ntmps131
 go_wp2_with fail
 refine (text_at b p _ hl ha).mono ?_
 rintro e w1 ⟨rfl, ha1, hs1⟩
 go_wp2_with fail
 refine (hmb.out _).mono ?_
 rintro e w2 ⟨rfl, rfl⟩
 go_wp2_with fail
 exact ⟨rfl, rfl, st0.trans hs1⟩

set_option maxHeartbeats 400000 in
theorem in_many_ok (b : Nat) (p : List UInt8 × Nat) (w : World) (hl : p.1.length ≤ 1000000000) (h : InAt w b p) (he : (rd 2 p).2 = 0) (hn : tv 2 p ≤ 16) :
  Calls Tryz.prog 137 #[.agg #[.pointer (some ⟨b, 0, none⟩)]] w fun e w' => e = .returned (.int .i64 (tv 2 p : Int)) ∧ InAt w' b (rd 2 p) ∧ OStep b w w' := by
 have hb0 := (Below.refl w.heap.size w).alloc (Nat.le_refl _) (.cells #[.pointer (some ⟨b, 0, none⟩)] 127)
 have ha := h.below hb0
 have st0 := OStep.pure h.lt hb0
 have hnum := hid (fun W (h : InAt W b p) => in_number_ok b 2 p W (by omega) (by omega) hl h he)
 clear he
 go_enter Tryz.func137, Tryz.ntmps137
 go_wp2_with fail
 refine (hnum.out _ ha).mono ?_
 rintro e w1 ⟨rfl, ha1, hs1⟩
 go_wp2_with fail
 go_ret
 exact ⟨rfl, ha1, st0.trans hs1⟩
set_option maxHeartbeats 400000 in
theorem in_many_long (b : Nat) (p : List UInt8 × Nat) (w : World) (hl : p.1.length ≤ 1000000000) (h : InAt w b p) (he : (rd 2 p).2 = 0) (hn : 16 < tv 2 p) :
  Calls Tryz.prog 137 #[.agg #[.pointer (some ⟨b, 0, none⟩)]] w fun e w' => e = .panicked (errChain 2) ∧ OStep b w w' := by
 have hb0 := (Below.refl w.heap.size w).alloc (Nat.le_refl _) (.cells #[.pointer (some ⟨b, 0, none⟩)] 127)
 have ha := h.below hb0
 have st0 := OStep.pure h.lt hb0
 have h16 := tv_lt 2 p (by omega)
 have hnum := hid (fun W (h : InAt W b p) => in_number_ok b 2 p W (by omega) (by omega) hl h he)
 clear he
 go_enter Tryz.func137, Tryz.ntmps137
 go_wp2_with fail
 refine (hnum.out _ ha).mono ?_
 rintro e w1 ⟨rfl, ha1, hs1⟩
 go_wp2_with fail
 exact ⟨rfl, rfl, st0.trans hs1⟩
set_option maxHeartbeats 400000 in
theorem in_many_bad (b : Nat) (p : List UInt8 × Nat) (w : World) (hl : p.1.length ≤ 1000000000) (h : InAt w b p) (he : (rd 2 p).2 ≠ 0) :
  Calls Tryz.prog 137 #[.agg #[.pointer (some ⟨b, 0, none⟩)]] w fun e w' => e = .panicked (errChain (rd 2 p).2) ∧ OStep b w w' := by
 have hb0 := (Below.refl w.heap.size w).alloc (Nat.le_refl _) (.cells #[.pointer (some ⟨b, 0, none⟩)] 127)
 have ha := h.below hb0
 have st0 := OStep.pure h.lt hb0
 have hnum := hid (fun W (h : InAt W b p) => in_number_bad b 2 p W (by omega) (by omega) hl h he)
 clear he
 go_enter Tryz.func137, Tryz.ntmps137
 go_wp2_with fail
 refine (hnum.out _ ha).mono ?_
 rintro e w1 ⟨rfl, hs1⟩
 go_wp2_with fail
 exact ⟨rfl, rfl, st0.trans hs1⟩

def InSet3 (w : World) (b q i : Nat) (p : List UInt8 × Nat) (u0 u1 u2 : Value) (e : Ending) (w' : World) : Prop :=
 e = .returned (.tuple #[]) ∧ ∃ w1, OStep b w w1 ∧ InAt w1 b p ∧ w' = ((w1.setCell ⟨q, i, none⟩ u0).setCell ⟨q, i + 1, none⟩ u1).setCell ⟨q, i + 2, none⟩ u2
def InBad (w : World) (b q err : Nat) (e : Ending) (w' : World) : Prop := e = .panicked (errChain err) ∧ ∀ m, m ≤ b → m ≤ q → Below m w w'
set_option maxHeartbeats 800000 in
theorem in_qid_ok (b q i : Nat) (u0 u1 u2 : Value) (p : List UInt8 × Nat) (w : World) (hl : p.1.length ≤ 1000000000) (h : InAt w b p) (he : (qr p).2 = 0) (hf : ¬ Foot w b q)
  (hc0 : w.cell? ⟨q, i, none⟩ = some u0) (hc1 : w.cell? ⟨q, i + 1, none⟩ = some u1) (hc2 : w.cell? ⟨q, i + 2, none⟩ = some u2) (hz0 : w.frozen? ⟨q, i, none⟩ = false) (hz1 : w.frozen? ⟨q, i + 1, none⟩ = false) (hz2 : w.frozen? ⟨q, i + 2, none⟩ = false) :
  Calls Tryz.prog 128 #[.agg #[.pointer (some ⟨b, 0, none⟩)], .pointer (some ⟨q, i, none⟩)] w (InSet3 w b q i (qr p) (.int .u8 (qvT p : Int)) (.int .u32 (qvV p : Int)) (.int .u64 (qvP p : Int))) := by
 have hb0 := (Below.refl w.heap.size w).alloc (Nat.le_refl _) (.cells #[.pointer (some ⟨b, 0, none⟩)] 127)
 have ha := h.below hb0
 have st0 := OStep.pure h.lt hb0
 have hnf := hid (h.new (.cells #[.pointer (some ⟨b, 0, none⟩)] 127))
 have hq := hid (heap_alloc_new w (.cells #[.pointer (some ⟨b, 0, none⟩)] 127))
 have hlt := World.block_lt_of_cell? w _ hc0
 have hf' := hid hf
 have he' := hid he
 clear he
 clear hf
 have hagg : Hid (qidAgg p = .agg #[.int .u8 (qvT p : Int), .int .u32 (qvV p : Int), .int .u64 (qvP p : Int)]) := hid rfl
 go_enter Tryz.func128, Tryz.ntmps128
 go_wp2_with fail
 refine (qid_take_any b p _ hl ha).mono ?_
 rintro e w1 ⟨rfl, ha1, hs1⟩
 rw [hagg.out]
 have hst := st0.trans hs1
 have hblk := hst.block q hlt hf'.out
 have c0 := hst.cell hf'.out hc0
 have c1 := hst.cell hf'.out hc1
 have c2 := hst.cell hf'.out hc2
 have f0 : w1.frozen? ⟨q, i, none⟩ = false := (World.frozen?_of_block (w := w) hblk.1).trans hz0
 have f1 : w1.frozen? ⟨q, i + 1, none⟩ = false := (World.frozen?_of_block (w := w) hblk.1).trans hz1
 have f2 : w1.frozen? ⟨q, i + 2, none⟩ = false := (World.frozen?_of_block (w := w) hblk.1).trans hz2
 have ha2 := ha1.store3 hblk.2 i (i + 1) (i + 2) (.int .u8 (qvT p : Int)) (.int .u32 (qvV p : Int)) (.int .u64 (qvP p : Int))
 have hq1 := ((hs1.block w.heap.size (by simp) hnf.out).1).trans hq.out
 have c9 : w1.cell? ⟨w.heap.size, 0, none⟩ = some (.pointer (some ⟨b, 0, none⟩)) := block_cell hq1 0
 have hne : w.heap.size ≠ q := by omega
 replace hq1 := hid hq1
 replace hblk := hid hblk
 clear hc0 hc1 hc2 hz0 hz1 hz2
 go_wp2_with fail
 refine (err_at b _ _ ha2).mono ?_
 rintro e w2 ⟨rfl, rfl⟩
 rw [he'.out]
 go_wp2_with fail
 refine (mmust_ok _).mono ?_
 rintro e w2 ⟨rfl, rfl⟩
 go_wp2_with fail
 go_end0
 exact ⟨rfl, _, hst, ha1, rfl⟩


set_option maxHeartbeats 800000 in
theorem in_qid_bad (b q i : Nat) (u0 u1 u2 : Value) (p : List UInt8 × Nat) (w : World) (hl : p.1.length ≤ 1000000000) (h : InAt w b p) (he : (qr p).2 ≠ 0) (hf : ¬ Foot w b q)
  (hc0 : w.cell? ⟨q, i, none⟩ = some u0) (hc1 : w.cell? ⟨q, i + 1, none⟩ = some u1) (hc2 : w.cell? ⟨q, i + 2, none⟩ = some u2) (hz0 : w.frozen? ⟨q, i, none⟩ = false) (hz1 : w.frozen? ⟨q, i + 1, none⟩ = false) (hz2 : w.frozen? ⟨q, i + 2, none⟩ = false) :
  Calls Tryz.prog 128 #[.agg #[.pointer (some ⟨b, 0, none⟩)], .pointer (some ⟨q, i, none⟩)] w (InBad w b q (qr p).2) := by
 have hb0 := (Below.refl w.heap.size w).alloc (Nat.le_refl _) (.cells #[.pointer (some ⟨b, 0, none⟩)] 127)
 have ha := h.below hb0
 have st0 := OStep.pure h.lt hb0
 have hnf := hid (h.new (.cells #[.pointer (some ⟨b, 0, none⟩)] 127))
 have hq := hid (heap_alloc_new w (.cells #[.pointer (some ⟨b, 0, none⟩)] 127))
 have hlt := World.block_lt_of_cell? w _ hc0
 have hf' := hid hf
 have hmb := hid (fun W => mmust_bad (qr p).2 he W)
 clear he
 clear hf
 have hagg : Hid (qidAgg p = .agg #[.int .u8 (qvT p : Int), .int .u32 (qvV p : Int), .int .u64 (qvP p : Int)]) := hid rfl
 go_enter Tryz.func128, Tryz.ntmps128
 go_wp2_with fail
 refine (qid_take_any b p _ hl ha).mono ?_
 rintro e w1 ⟨rfl, ha1, hs1⟩
 rw [hagg.out]
 have hst := st0.trans hs1
 have hblk := hst.block q hlt hf'.out
 have c0 := hst.cell hf'.out hc0
 have c1 := hst.cell hf'.out hc1
 have c2 := hst.cell hf'.out hc2
 have f0 : w1.frozen? ⟨q, i, none⟩ = false := (World.frozen?_of_block (w := w) hblk.1).trans hz0
 have f1 : w1.frozen? ⟨q, i + 1, none⟩ = false := (World.frozen?_of_block (w := w) hblk.1).trans hz1
 have f2 : w1.frozen? ⟨q, i + 2, none⟩ = false := (World.frozen?_of_block (w := w) hblk.1).trans hz2
 have ha2 := ha1.store3 hblk.2 i (i + 1) (i + 2) (.int .u8 (qvT p : Int)) (.int .u32 (qvV p : Int)) (.int .u64 (qvP p : Int))
 have hq1 := ((hs1.block w.heap.size (by simp) hnf.out).1).trans hq.out
 have c9 : w1.cell? ⟨w.heap.size, 0, none⟩ = some (.pointer (some ⟨b, 0, none⟩)) := block_cell hq1 0
 have hne : w.heap.size ≠ q := by omega
 replace hq1 := hid hq1
 replace hblk := hid hblk
 clear hc0 hc1 hc2 hz0 hz1 hz2
 go_wp2_with fail
 refine (err_at b _ _ ha2).mono ?_
 rintro e w2 ⟨rfl, rfl⟩
 go_wp2_with fail
 refine (hmb.out _).mono ?_
 rintro e w2 ⟨rfl, rfl⟩
 go_wp2_with fail
 exact ⟨rfl, rfl, fun m h1 h2 => (((hst.below.mono h1).setCell (p := ⟨q, i, none⟩) h2 _).setCell (p := ⟨q, i + 1, none⟩) h2 _).setCell (p := ⟨q, i + 2, none⟩) h2 _⟩

end
end Go.Proofs.YtlmojhlacfjmaaaGreat

namespace Go.Proofs.YtlmojhlacfjmaaaGreat
section
open Go.RowKit
set_option maxRecDepth 100000
set_option linter.unusedVariables false
def daE (p : List UInt8 × Nat) : Nat := if (rd 4 p).2 ≠ 0 then (rd 4 p).2 else if 8192 < tv 4 p then 2 else (rd (tv 4 p) (rd 4 p)).2
def daB (p : List UInt8 × Nat) : List UInt8 := rawL (tv 4 p) (rd 4 p).1 (rd 4 p).2
def daR (p : List UInt8 × Nat) : List UInt8 × Nat := rd (tv 4 p) (rd 4 p)
def InBytes (w : World) (b q i : Nat) (p : List UInt8 × Nat) (l : List UInt8) (e : Ending) (w' : World) : Prop :=
 e = .returned (.tuple #[]) ∧ ∃ v w1, OStep b w w1 ∧ InAt w1 b p ∧ BytesAt w1 v l ∧ (∀ k, v.ownBlock = some k → w.heap.size ≤ k) ∧ w' = w1.setCell ⟨q, i, none⟩ v

set_option maxHeartbeats 1200000 in
theorem in_data_ok (b q i : Nat) (u : Value) (p : List UInt8 × Nat) (w : World) (hl : p.1.length ≤ 1000000000) (h : InAt w b p) (he : daE p = 0) (hf : ¬ Foot w b q) (hc : w.cell? ⟨q, i, none⟩ = some u) (hz : w.frozen? ⟨q, i, none⟩ = false) :
  Calls Tryz.prog 127 #[.agg #[.pointer (some ⟨b, 0, none⟩)], .pointer (some ⟨q, i, none⟩)] w (InBytes w b q i (daR p) (daB p)) := by
 obtain ⟨e1, e2, e3⟩ : (rd 4 p).2 = 0 ∧ tv 4 p ≤ 8192 ∧ (rd (tv 4 p) (rd 4 p)).2 = 0 := by
  unfold daE at he
  by_cases h1 : (rd 4 p).2 = 0
  ·by_cases h2 : 8192 < tv 4 p
   ·rw [if_neg (by simp [h1]), if_pos h2] at he; omega
   ·rw [if_neg (by simp [h1]), if_neg h2] at he; exact ⟨h1, by omega, he⟩
  ·rw [if_pos h1] at he; exact absurd he h1
 have hb0 := (Below.refl w.heap.size w).alloc (Nat.le_refl _) (.cells #[.pointer (some ⟨b, 0, none⟩)] 127)
 have ha := h.below hb0
 have st0 := OStep.pure h.lt hb0
 have hnf := hid (h.new (.cells #[.pointer (some ⟨b, 0, none⟩)] 127))
 have hq := hid (heap_alloc_new w (.cells #[.pointer (some ⟨b, 0, none⟩)] 127))
 have hlt := World.block_lt_of_cell? w _ hc
 have hf' := hid hf
 have hnum := hid (fun W (h : InAt W b p) => in_number_ok b 4 p W (by omega) (by omega) hl h e1)
 have hraw := hid (fun W (h : InAt W b (rd 4 p)) => in_raw_new b (tv 4 p) (rd 4 p).1 (rd 4 p).2 W (by omega) (by have := rd_le 4 p; omega) h)
 replace e1 := hid e1
 replace e3 := hid e3
 clear he hf
 have hlw : w.heap.size ≤ (w.alloc (.cells #[.pointer (some ⟨b, 0, none⟩)] 127)).heap.size := by simp
 replace hlw := hid hlw
 go_enter Tryz.func127, Tryz.ntmps127
 go_wp2_with fail
 refine (hnum.out _ ha).mono ?_
 rintro e w1 ⟨rfl, ha1, hs1⟩
 have hq1 := hid (((hs1.block w.heap.size (by simp) hnf.out).1).trans hq.out)
 have hnf1 := hid ((hs1.block w.heap.size (by simp) hnf.out).2)
 have c1 : w1.cell? ⟨w.heap.size, 0, none⟩ = some (.pointer (some ⟨b, 0, none⟩)) := block_cell hq1.out 0
 have hz1 := lt_of_block hq1.out
 go_wp2_with fail
 refine (hraw.out _ ha1).mono ?_
 rintro e w2 ⟨v2, rfl, ⟨hv2, hnew⟩, ha2, hs2⟩
 have ha2' : InAt w2 b (daR p) := ha2
 have hq2 := hid (((hs2.block w.heap.size hz1 hnf1.out).1).trans hq1.out)
 have hst := (st0.trans hs1).trans hs2
 have c1 := hst.cell hf'.out hc
 have f1 : w2.frozen? ⟨q, i, none⟩ = false := (World.frozen?_of_block (w := w) ((hst.block q hlt hf'.out).1)).trans hz
 have c2 : w2.cell? ⟨w.heap.size, 0, none⟩ = some (.pointer (some ⟨b, 0, none⟩)) := block_cell hq2.out 0
 have hne : w.heap.size ≠ q := by omega
 have ha3 := ha2'.store (a := ⟨q, i, none⟩) v2 ((hst.block q hlt hf'.out).2)
 have hnew2 : Hid (∀ k, v2.ownBlock = some k → w.heap.size ≤ k) := hid fun k hk => Nat.le_trans (Nat.le_of_lt hz1) (hnew k hk)
 obtain ⟨a2, k2, rfl, _, _, _⟩ := hv2.form
 replace ha2 := hid ha2
 clear hc hz hnew
 go_wp2_with fail
 refine (err_at b _ _ ha3).mono ?_
 rintro e w4 ⟨rfl, rfl⟩
 rw [show (daR p).2 = 0 from e3.out]
 go_wp2_with fail
 refine (mmust_ok _).mono ?_
 rintro e w4 ⟨rfl, rfl⟩
 go_wp2_with fail
 go_end0
 exact ⟨rfl, _, _, hst, ha2.out, hv2, hnew2.out, rfl⟩
set_option maxHeartbeats 1200000 in
theorem in_data_bad (b q i : Nat) (u : Value) (p : List UInt8 × Nat) (w : World) (hl : p.1.length ≤ 1000000000) (h : InAt w b p) (he : daE p ≠ 0) (hf : ¬ Foot w b q) (hc : w.cell? ⟨q, i, none⟩ = some u) (hz : w.frozen? ⟨q, i, none⟩ = false) :
  Calls Tryz.prog 127 #[.agg #[.pointer (some ⟨b, 0, none⟩)], .pointer (some ⟨q, i, none⟩)] w fun e w' => (∃ err, err ≠ 0 ∧ e = .panicked (errChain err)) ∧ ∀ m, m ≤ b → m ≤ q → Below m w w' := by
 have hb0 := (Below.refl w.heap.size w).alloc (Nat.le_refl _) (.cells #[.pointer (some ⟨b, 0, none⟩)] 127)
 have ha := h.below hb0
 have st0 := OStep.pure h.lt hb0
 have hnf := hid (h.new (.cells #[.pointer (some ⟨b, 0, none⟩)] 127))
 have hq := hid (heap_alloc_new w (.cells #[.pointer (some ⟨b, 0, none⟩)] 127))
 have hlt := World.block_lt_of_cell? w _ hc
 have hf' := hid hf
 have hlw : w.heap.size ≤ (w.alloc (.cells #[.pointer (some ⟨b, 0, none⟩)] 127)).heap.size := by simp
 replace hlw := hid hlw
 by_cases e1 : (rd 4 p).2 = 0
 case neg =>
  have hnum := hid (fun W (h : InAt W b p) => in_number_bad b 4 p W (by omega) (by omega) hl h e1)
  replace e1 := hid e1
  clear he hf
  go_enter Tryz.func127, Tryz.ntmps127
  go_wp2_with fail
  refine (hnum.out _ ha).mono ?_
  rintro e w1 ⟨rfl, hs1⟩
  go_wp2_with fail
  exact ⟨rfl, ⟨_, e1.out, rfl⟩, fun m h1 _ => (st0.trans hs1).below.mono h1⟩
 have hnum := hid (fun W (h : InAt W b p) => in_number_ok b 4 p W (by omega) (by omega) hl h e1)
 by_cases e2 : 8192 < tv 4 p
 ·have htv := tv_lt 4 p (by omega)
  replace e1 := hid e1
  clear he hf
  go_enter Tryz.func127, Tryz.ntmps127
  go_wp2_with fail
  refine (hnum.out _ ha).mono ?_
  rintro e w1 ⟨rfl, ha1, hs1⟩
  go_wp2_with fail
  exact ⟨rfl, ⟨2, by omega, rfl⟩, fun m h1 _ => (st0.trans hs1).below.mono h1⟩
 have e3 : (rd (tv 4 p) (rd 4 p)).2 ≠ 0 := by
  unfold daE at he
  rwa [if_neg (by simp [e1]), if_neg e2] at he
 have hraw := hid (fun W (h : InAt W b (rd 4 p)) => in_raw_new b (tv 4 p) (rd 4 p).1 (rd 4 p).2 W (by omega) (by have := rd_le 4 p; omega) h)
 have hmb := hid (fun W => mmust_bad (rd (tv 4 p) (rd 4 p)).2 e3 W)
 replace e1 := hid e1
 replace e3 := hid e3
 clear he hf
 go_enter Tryz.func127, Tryz.ntmps127
 go_wp2_with fail
 refine (hnum.out _ ha).mono ?_
 rintro e w1 ⟨rfl, ha1, hs1⟩
 have hq1 := hid (((hs1.block w.heap.size (by simp) hnf.out).1).trans hq.out)
 have hnf1 := hid ((hs1.block w.heap.size (by simp) hnf.out).2)
 have c1 : w1.cell? ⟨w.heap.size, 0, none⟩ = some (.pointer (some ⟨b, 0, none⟩)) := block_cell hq1.out 0
 have hz1 := lt_of_block hq1.out
 go_wp2_with fail
 refine (hraw.out _ ha1).mono ?_
 rintro e w2 ⟨v2, rfl, ⟨hv2, hnew⟩, ha2, hs2⟩
 have ha2' : InAt w2 b (rd (tv 4 p) (rd 4 p)) := ha2
 have hq2 := hid (((hs2.block w.heap.size hz1 hnf1.out).1).trans hq1.out)
 have hst := (st0.trans hs1).trans hs2
 have c1 := hst.cell hf'.out hc
 have f1 : w2.frozen? ⟨q, i, none⟩ = false := (World.frozen?_of_block (w := w) ((hst.block q hlt hf'.out).1)).trans hz
 have c2 : w2.cell? ⟨w.heap.size, 0, none⟩ = some (.pointer (some ⟨b, 0, none⟩)) := block_cell hq2.out 0
 have hne : w.heap.size ≠ q := by omega
 have ha3 := ha2'.store (a := ⟨q, i, none⟩) v2 ((hst.block q hlt hf'.out).2)
 obtain ⟨a2, k2, rfl, _, _, _⟩ := hv2.form
 replace ha2 := hid ha2
 clear hc hz hnew
 go_wp2_with fail
 refine (err_at b _ _ ha3).mono ?_
 rintro e w4 ⟨rfl, rfl⟩
 go_wp2_with fail
 refine (hmb.out _).mono ?_
 rintro e w4 ⟨rfl, rfl⟩
 go_wp2_with fail
 exact ⟨rfl, ⟨_, e3.out, rfl⟩, fun m h1 h2 => (hst.below.mono h1).setCell (p := ⟨q, i, none⟩) h2 _⟩

def stB (p : List UInt8 × Nat) : List UInt8 := rawL (tv 2 p) (rd 2 p).1 (rd 2 p).2
def stR (p : List UInt8 × Nat) : List UInt8 × Nat := rd (tv 2 p) (rd 2 p)
def stE (p : List UInt8 × Nat) : Nat := if (rd 2 p).2 ≠ 0 then (rd 2 p).2 else if (stR p).2 ≠ 0 then (stR p).2 else if decE (stB p) ≠ 0 then decE (stB p) else if decN (stB p) ≠ (stB p).length then 2 else 0
theorem stE_ok {p : List UInt8 × Nat} (he : stE p = 0) : (rd 2 p).2 = 0 ∧ (stR p).2 = 0 ∧ decE (stB p) = 0 ∧ decN (stB p) = (stB p).length := by
 unfold stE at he
 by_cases h1 : (rd 2 p).2 = 0
 ·rw [if_neg (by simp [h1])] at he
  by_cases h2 : (stR p).2 = 0
  ·rw [if_neg (by simp [h2])] at he
   by_cases h3 : decE (stB p) = 0
   ·rw [if_neg (by simp [h3])] at he
    by_cases h4 : decN (stB p) = (stB p).length
    ·exact ⟨h1, h2, h3, h4⟩
    ·rw [if_pos h4] at he; omega
   ·rw [if_pos h3] at he; exact absurd he h3
  ·rw [if_pos h2] at he; exact absurd he h2
 ·rw [if_pos h1] at he; exact absurd he h1

def put13 (w : World) (q i : Nat) (s : Stat) : World := ((((((((((((w.setCell ⟨q, i, none⟩ (.int .u16 (s.kind : Int))).setCell ⟨q, i + 1, none⟩ (.int .u32 (s.dev : Int))).setCell ⟨q, i + 2, none⟩ (.int .u8 (s.qt : Int))).setCell ⟨q, i + 3, none⟩ (.int .u32 (s.qv : Int))).setCell ⟨q, i + 4, none⟩ (.int .u64 (s.qp : Int))).setCell ⟨q, i + 5, none⟩ (.int .u32 (s.mode : Int))).setCell ⟨q, i + 6, none⟩ (.int .u32 (s.atm : Int))).setCell ⟨q, i + 7, none⟩ (.int .u32 (s.mtm : Int))).setCell ⟨q, i + 8, none⟩ (.int .u64 (s.len : Int))).setCell ⟨q, i + 9, none⟩ (.string s.name)).setCell ⟨q, i + 10, none⟩ (.string s.uid)).setCell ⟨q, i + 11, none⟩ (.string s.gid)).setCell ⟨q, i + 12, none⟩ (.string s.muid)
def InStat (w : World) (b q i : Nat) (p : List UInt8 × Nat) (s : Stat) (e : Ending) (w' : World) : Prop :=
 e = .returned (.tuple #[]) ∧ ∃ w1 o, OStep b w w1 ∧ InAt w1 b p ∧ w' = (put13 w1 q i s).alloc o

set_option maxHeartbeats 1600000 in
theorem in_stat_ok (b q i : Nat) (p : List UInt8 × Nat) (cs : Array Value) (w : World) (hl : p.1.length ≤ 1000000000) (h : InAt w b p) (he : stE p = 0) (hf : ¬ Foot w b q) (hc : w.heap[q]? = some (.cells cs 33 (0, 0))) (hsz : i + 13 ≤ cs.size) :
  Calls Tryz.prog 130 #[.agg #[.pointer (some ⟨b, 0, none⟩)], .pointer (some ⟨q, i, none⟩)] w (InStat w b q i (stR p) (decS (stB p))) := by
 obtain ⟨e1, e2, e3, e4⟩ := stE_ok he
 have hb0 := (Below.refl w.heap.size w).alloc (Nat.le_refl _) (.cells #[.pointer (some ⟨b, 0, none⟩)] 127)
 have ha := h.below hb0
 have st0 := OStep.pure h.lt hb0
 have hnf := hid (h.new (.cells #[.pointer (some ⟨b, 0, none⟩)] 127))
 have hq := hid (heap_alloc_new w (.cells #[.pointer (some ⟨b, 0, none⟩)] 127))
 have hlt := lt_of_block hc
 have hf' := hid hf
 have htv := tv_lt 2 p (by omega)
 have hBL : (stB p).length ≤ 1000000000 := by have := rawL_le (tv 2 p) (rd 2 p).1 (rd 2 p).2; have := rd_le 2 p; unfold stB; omega
 have hnum := hid (fun W (h : InAt W b p) => in_number_ok b 2 p W (by omega) (by omega) hl h e1)
 have hraw := hid (fun W (h : InAt W b (rd 2 p)) => in_raw_new b (tv 2 p) (rd 2 p).1 (rd 2 p).2 W (by omega) (by have := rd_le 2 p; omega) h)
 have haD := hid (ha.below (Below.refl _ _).drew)
 have hnfD := hid (show ¬ Foot (w.alloc (.cells #[.pointer (some ⟨b, 0, none⟩)] 127)).drew b w.heap.size from hnf.out)
 have hqD := hid (show (w.alloc (.cells #[.pointer (some ⟨b, 0, none⟩)] 127)).drew.heap[w.heap.size]? = some (.cells #[.pointer (some ⟨b, 0, none⟩)] 127) from hq.out)
 have hszD : Hid (w.heap.size < (w.alloc (.cells #[.pointer (some ⟨b, 0, none⟩)] 127)).drew.heap.size) := hid (lt_of_block hqD.out)
 have stD : OStep b w (w.alloc (.cells #[.pointer (some ⟨b, 0, none⟩)] 127)).drew := st0.trans (OStep.pure ha.lt (Below.refl _ _).drew)
 have hcv : IntKind.i64.wrap (tv 2 p : Int) = (tv 2 p : Int) := IntWalk.i64_in _ (by omega)
 replace e1 := hid e1
 replace e2 := hid e2
 replace e3 := hid e3
 replace e4 := hid e4
 clear he hf
 go_enter Tryz.func130, Tryz.ntmps130
 go_wp2_with fail
 go_region_held3 (fun w' => w'.cell? ⟨w.heap.size, 0, none⟩ = some (.pointer (some ⟨b, 0, none⟩)))
  (first | exact k0 | exact k1 | go_keep)
  (first
   | (go_at_call 65; refine (hnum.out _ haD.out).mono ?_; rintro e w1 ⟨rfl, ha1, hs1⟩; have hq1 := hid (((hs1.block w.heap.size hszD.out hnfD.out).1).trans hqD.out); have hnf1 := hid ((hs1.block w.heap.size hszD.out hnfD.out).2); have k0 : w1.cell? ⟨w.heap.size, 0, none⟩ = some (.pointer (some ⟨b, 0, none⟩)) := block_cell hq1.out 0)
   | (go_at_call 135; refine (hraw.out _ ha1).mono ?_; rintro e w2 ⟨v2, rfl, ⟨hv2, hnew⟩, ha2, hs2⟩; have k1 : w2.cell? ⟨w.heap.size, 0, none⟩ = some (.pointer (some ⟨b, 0, none⟩)) := block_cell (((hs2.block w.heap.size (lt_of_block hq1.out) hnf1.out).1).trans hq1.out) 0))
 have hst := (stD.trans hs1).trans hs2
 have ha2' : InAt w2 b (stR p) := ha2
 have hv2' : BytesAt w2 v2 (stB p) := hv2
 have hsz2 : w.heap.size ≤ w2.heap.size := hst.below.size
 have hnew2 : Hid (∀ k, v2.ownBlock = some k → w.heap.size ≤ k) := hid fun k hk => Nat.le_trans (Nat.le_of_lt (lt_of_block hq1.out)) (hnew k hk)
 have hblk := hid (hst.block q hlt hf'.out)
 clear ha2 hv2 hs1 hs2 ha1 k0 hnew stD haD hnfD hqD hszD hq1 hnf1
 go_wp2_with fail
 refine (err_at b _ _ ha2').mono ?_
 rintro e w4 ⟨rfl, rfl⟩
 rw [e2.out]
 go_wp2_with fail
 refine (mmust_ok _).mono ?_
 rintro e w4 ⟨rfl, rfl⟩
 go_wp2_with fail
 refine (decode_any v2 (stB p) _ hv2' hBL).mono ?_
 rintro e w3 ⟨rfl, hb3⟩
 rw [e3.out, e4.out]
 obtain ⟨a2, k2, rfl, hk2, hk3, _⟩ := hv2'.form
 unfold maxLen at hk3
 have ha3 := ha2'.below hb3
 have hst3 := hst.trans (OStep.pure ha2'.lt hb3)
 have hblk3 := hst3.block q hlt hf'.out
 have hq3 := hblk3.1.trans hc
 have hql := lt_of_block hq3
 have c0 : w3.cell? ⟨q, i, none⟩ = some (cs[i]'(by omega)) := by rw [block_cell hq3]; exact Array.getElem?_eq_getElem (by omega)
 have f0 : w3.frozen? ⟨q, i, none⟩ = false := block_free hq3 _
 have c1 : w3.cell? ⟨q, i + 1, none⟩ = some (cs[i + 1]'(by omega)) := by rw [block_cell hq3]; exact Array.getElem?_eq_getElem (by omega)
 have f1 : w3.frozen? ⟨q, i + 1, none⟩ = false := block_free hq3 _
 have c2 : w3.cell? ⟨q, i + 2, none⟩ = some (cs[i + 2]'(by omega)) := by rw [block_cell hq3]; exact Array.getElem?_eq_getElem (by omega)
 have f2 : w3.frozen? ⟨q, i + 2, none⟩ = false := block_free hq3 _
 have c3 : w3.cell? ⟨q, i + 3, none⟩ = some (cs[i + 3]'(by omega)) := by rw [block_cell hq3]; exact Array.getElem?_eq_getElem (by omega)
 have f3 : w3.frozen? ⟨q, i + 3, none⟩ = false := block_free hq3 _
 have c4 : w3.cell? ⟨q, i + 4, none⟩ = some (cs[i + 4]'(by omega)) := by rw [block_cell hq3]; exact Array.getElem?_eq_getElem (by omega)
 have f4 : w3.frozen? ⟨q, i + 4, none⟩ = false := block_free hq3 _
 have c5 : w3.cell? ⟨q, i + 5, none⟩ = some (cs[i + 5]'(by omega)) := by rw [block_cell hq3]; exact Array.getElem?_eq_getElem (by omega)
 have f5 : w3.frozen? ⟨q, i + 5, none⟩ = false := block_free hq3 _
 have c6 : w3.cell? ⟨q, i + 6, none⟩ = some (cs[i + 6]'(by omega)) := by rw [block_cell hq3]; exact Array.getElem?_eq_getElem (by omega)
 have f6 : w3.frozen? ⟨q, i + 6, none⟩ = false := block_free hq3 _
 have c7 : w3.cell? ⟨q, i + 7, none⟩ = some (cs[i + 7]'(by omega)) := by rw [block_cell hq3]; exact Array.getElem?_eq_getElem (by omega)
 have f7 : w3.frozen? ⟨q, i + 7, none⟩ = false := block_free hq3 _
 have c8 : w3.cell? ⟨q, i + 8, none⟩ = some (cs[i + 8]'(by omega)) := by rw [block_cell hq3]; exact Array.getElem?_eq_getElem (by omega)
 have f8 : w3.frozen? ⟨q, i + 8, none⟩ = false := block_free hq3 _
 have c9 : w3.cell? ⟨q, i + 9, none⟩ = some (cs[i + 9]'(by omega)) := by rw [block_cell hq3]; exact Array.getElem?_eq_getElem (by omega)
 have f9 : w3.frozen? ⟨q, i + 9, none⟩ = false := block_free hq3 _
 have c10 : w3.cell? ⟨q, i + 10, none⟩ = some (cs[i + 10]'(by omega)) := by rw [block_cell hq3]; exact Array.getElem?_eq_getElem (by omega)
 have f10 : w3.frozen? ⟨q, i + 10, none⟩ = false := block_free hq3 _
 have c11 : w3.cell? ⟨q, i + 11, none⟩ = some (cs[i + 11]'(by omega)) := by rw [block_cell hq3]; exact Array.getElem?_eq_getElem (by omega)
 have f11 : w3.frozen? ⟨q, i + 11, none⟩ = false := block_free hq3 _
 have c12 : w3.cell? ⟨q, i + 12, none⟩ = some (cs[i + 12]'(by omega)) := by rw [block_cell hq3]; exact Array.getElem?_eq_getElem (by omega)
 have f12 : w3.frozen? ⟨q, i + 12, none⟩ = false := block_free hq3 _
 have hne3 : w3.heap.size ≠ q := by omega
 have hne4 : q ≠ w3.heap.size := by omega
 generalize hS : decS (stB p) = S
 replace hS := hid hS
 generalize hN : (stB p).length = N at *
 replace hN := hid hN
 replace hblk3 := hid hblk3
 replace hq3 := hid hq3
 rw [cells_eq S]
 go_wp2_with fail
 refine (mmust_ok _).mono ?_
 rintro e w4 ⟨rfl, rfl⟩
 go_wp2_with fail
 go_end0
 exact ⟨rfl, w3, _, hst3, ha3, by rw [hS.out]; rfl⟩
end
end Go.Proofs.YtlmojhlacfjmaaaGreat

namespace Go.Proofs.YtlmojhlacfjmaaaGreat
section
open Go.RowKit
set_option maxRecDepth 100000
set_option linter.unusedVariables false

theorem decN_le (l : List UInt8) : decN l ≤ 2 + l.length := by
 unfold decN
 split
 ·have := rawL_le (tv 2 (l, 0)) (rd 2 (l, 0)).1 (rd 2 (l, 0)).2; have := rd_le 2 (l, 0); unfold bodyL; simp at *; omega
 ·omega

set_option maxHeartbeats 1600000 in
theorem in_stat_bad (b q i : Nat) (p : List UInt8 × Nat) (cs : Array Value) (w : World) (hl : p.1.length ≤ 1000000000) (h : InAt w b p) (he : stE p ≠ 0) (hf : ¬ Foot w b q) (hc : w.heap[q]? = some (.cells cs 33 (0, 0))) (hsz : i + 13 ≤ cs.size) :
  Calls Tryz.prog 130 #[.agg #[.pointer (some ⟨b, 0, none⟩)], .pointer (some ⟨q, i, none⟩)] w fun e w' => (∃ err, err ≠ 0 ∧ e = .panicked (errChain err)) ∧ OStep b w w' := by
 have hb0 := (Below.refl w.heap.size w).alloc (Nat.le_refl _) (.cells #[.pointer (some ⟨b, 0, none⟩)] 127)
 have ha := h.below hb0
 have st0 := OStep.pure h.lt hb0
 have hnf := hid (h.new (.cells #[.pointer (some ⟨b, 0, none⟩)] 127))
 have hq := hid (heap_alloc_new w (.cells #[.pointer (some ⟨b, 0, none⟩)] 127))
 have hlt := lt_of_block hc
 have hf' := hid hf
 have htv := tv_lt 2 p (by omega)
 have hBL : (stB p).length ≤ 1000000000 := by have := rawL_le (tv 2 p) (rd 2 p).1 (rd 2 p).2; have := rd_le 2 p; unfold stB; omega
 have haD := hid (ha.below (Below.refl _ _).drew)
 have hnfD := hid (show ¬ Foot (w.alloc (.cells #[.pointer (some ⟨b, 0, none⟩)] 127)).drew b w.heap.size from hnf.out)
 have hqD := hid (show (w.alloc (.cells #[.pointer (some ⟨b, 0, none⟩)] 127)).drew.heap[w.heap.size]? = some (.cells #[.pointer (some ⟨b, 0, none⟩)] 127) from hq.out)
 have hszD : Hid (w.heap.size < (w.alloc (.cells #[.pointer (some ⟨b, 0, none⟩)] 127)).drew.heap.size) := hid (lt_of_block hqD.out)
 have stD : OStep b w (w.alloc (.cells #[.pointer (some ⟨b, 0, none⟩)] 127)).drew := st0.trans (OStep.pure ha.lt (Below.refl _ _).drew)
 have hcv : IntKind.i64.wrap (tv 2 p : Int) = (tv 2 p : Int) := IntWalk.i64_in _ (by omega)
 by_cases e1 : (rd 2 p).2 = 0
 case neg =>
  have hnum := hid (fun W (h : InAt W b p) => in_number_bad b 2 p W (by omega) (by omega) hl h e1)
  replace e1 := hid e1
  clear he hf
  go_enter Tryz.func130, Tryz.ntmps130
  go_wp2_with fail
  go_region_with (go_at_call 65; refine (hnum.out _ haD.out).mono ?_; rintro e w1 ⟨rfl, hs1⟩; refine fakeAny ⟨rfl, ⟨_, e1.out, rfl⟩, stD.trans hs1⟩ ?_)
  all_goals trivial
 have hnum := hid (fun W (h : InAt W b p) => in_number_ok b 2 p W (by omega) (by omega) hl h e1)
 have hraw := hid (fun W (h : InAt W b (rd 2 p)) => in_raw_new b (tv 2 p) (rd 2 p).1 (rd 2 p).2 W (by omega) (by have := rd_le 2 p; omega) h)
 by_cases e2 : (stR p).2 = 0
 case neg =>
  have hmb := hid (fun W => mmust_bad (stR p).2 e2 W)
  replace e1 := hid e1
  replace e2 := hid e2
  clear he hf
  go_enter Tryz.func130, Tryz.ntmps130
  go_wp2_with fail
  go_region_held3 (fun w' => w'.cell? ⟨w.heap.size, 0, none⟩ = some (.pointer (some ⟨b, 0, none⟩)))
   (first | exact k0 | exact k1 | go_keep)
   (first
    | (go_at_call 65; refine (hnum.out _ haD.out).mono ?_; rintro e w1 ⟨rfl, ha1, hs1⟩; have hq1 := hid (((hs1.block w.heap.size hszD.out hnfD.out).1).trans hqD.out); have hnf1 := hid ((hs1.block w.heap.size hszD.out hnfD.out).2); have k0 : w1.cell? ⟨w.heap.size, 0, none⟩ = some (.pointer (some ⟨b, 0, none⟩)) := block_cell hq1.out 0)
    | (go_at_call 135; refine (hraw.out _ ha1).mono ?_; rintro e w2 ⟨v2, rfl, ⟨hv2, hnew⟩, ha2, hs2⟩; have k1 : w2.cell? ⟨w.heap.size, 0, none⟩ = some (.pointer (some ⟨b, 0, none⟩)) := block_cell (((hs2.block w.heap.size (lt_of_block hq1.out) hnf1.out).1).trans hq1.out) 0))
  have hst := (stD.trans hs1).trans hs2
  have ha2' : InAt w2 b (stR p) := ha2
  have hv2' : BytesAt w2 v2 (stB p) := hv2
  have hsz2 : w.heap.size ≤ w2.heap.size := hst.below.size
  have hnew2 : Hid (∀ k, v2.ownBlock = some k → w.heap.size ≤ k) := hid fun k hk => Nat.le_trans (Nat.le_of_lt (lt_of_block hq1.out)) (hnew k hk)
  have hblk := hid (hst.block q hlt hf'.out)
  clear ha2 hv2 hs1 hs2 ha1 k0 hnew stD haD hnfD hqD hszD hq1 hnf1
  go_wp2_with fail
  refine (err_at b _ _ ha2').mono ?_
  rintro e w4 ⟨rfl, rfl⟩
  go_wp2_with fail
  refine (hmb.out _).mono ?_
  rintro e w4 ⟨rfl, rfl⟩
  go_wp2_with fail
  exact ⟨rfl, ⟨_, e2.out, rfl⟩, hst⟩
 by_cases e3 : decE (stB p) = 0
 case neg =>
  have hmb := hid (fun W => mmust_bad (decE (stB p)) e3 W)
  replace e1 := hid e1
  replace e2 := hid e2
  replace e3 := hid e3
  clear he hf
  go_enter Tryz.func130, Tryz.ntmps130
  go_wp2_with fail
  go_region_held3 (fun w' => w'.cell? ⟨w.heap.size, 0, none⟩ = some (.pointer (some ⟨b, 0, none⟩)))
   (first | exact k0 | exact k1 | go_keep)
   (first
    | (go_at_call 65; refine (hnum.out _ haD.out).mono ?_; rintro e w1 ⟨rfl, ha1, hs1⟩; have hq1 := hid (((hs1.block w.heap.size hszD.out hnfD.out).1).trans hqD.out); have hnf1 := hid ((hs1.block w.heap.size hszD.out hnfD.out).2); have k0 : w1.cell? ⟨w.heap.size, 0, none⟩ = some (.pointer (some ⟨b, 0, none⟩)) := block_cell hq1.out 0)
    | (go_at_call 135; refine (hraw.out _ ha1).mono ?_; rintro e w2 ⟨v2, rfl, ⟨hv2, hnew⟩, ha2, hs2⟩; have k1 : w2.cell? ⟨w.heap.size, 0, none⟩ = some (.pointer (some ⟨b, 0, none⟩)) := block_cell (((hs2.block w.heap.size (lt_of_block hq1.out) hnf1.out).1).trans hq1.out) 0))
  have hst := (stD.trans hs1).trans hs2
  have ha2' : InAt w2 b (stR p) := ha2
  have hv2' : BytesAt w2 v2 (stB p) := hv2
  have hsz2 : w.heap.size ≤ w2.heap.size := hst.below.size
  have hnew2 : Hid (∀ k, v2.ownBlock = some k → w.heap.size ≤ k) := hid fun k hk => Nat.le_trans (Nat.le_of_lt (lt_of_block hq1.out)) (hnew k hk)
  have hblk := hid (hst.block q hlt hf'.out)
  clear ha2 hv2 hs1 hs2 ha1 k0 hnew stD haD hnfD hqD hszD hq1 hnf1
  go_wp2_with fail
  refine (err_at b _ _ ha2').mono ?_
  rintro e w4 ⟨rfl, rfl⟩
  rw [e2.out]
  go_wp2_with fail
  refine (mmust_ok _).mono ?_
  rintro e w4 ⟨rfl, rfl⟩
  go_wp2_with fail
  refine (decode_any v2 (stB p) _ hv2' hBL).mono ?_
  rintro e w3 ⟨rfl, hb3⟩
  have hst3 := hst.trans (OStep.pure ha2'.lt hb3)
  generalize decS (stB p) = S
  generalize hE : decE (stB p) = E at *
  generalize decN (stB p) = N
  rw [cells_eq S]
  go_wp2_with fail
  refine (hmb.out _).mono ?_
  rintro e w4 ⟨rfl, rfl⟩
  go_wp2_with fail
  exact ⟨rfl, ⟨_, e3.out, rfl⟩, hst3.trans (OStep.pure (hst3.below.size |> fun h => Nat.lt_of_lt_of_le ha2'.lt hb3.size) ((Below.refl _ _).alloc (Nat.le_refl _) _))⟩
 have e4 : decN (stB p) ≠ (stB p).length := by
  intro e4
  unfold stE at he
  rw [if_neg (by simp [e1]), if_neg (by simp [e2]), if_neg (by simp [e3]), if_neg (by simp [e4])] at he
  exact he rfl
 have hnl : decN (stB p) ≤ 1000000010 := by have := decN_le (stB p); omega
 replace e1 := hid e1
 replace e2 := hid e2
 replace e3 := hid e3
 clear he hf
 go_enter Tryz.func130, Tryz.ntmps130
 go_wp2_with fail
 go_region_held3 (fun w' => w'.cell? ⟨w.heap.size, 0, none⟩ = some (.pointer (some ⟨b, 0, none⟩)))
  (first | exact k0 | exact k1 | go_keep)
  (first
   | (go_at_call 65; refine (hnum.out _ haD.out).mono ?_; rintro e w1 ⟨rfl, ha1, hs1⟩; have hq1 := hid (((hs1.block w.heap.size hszD.out hnfD.out).1).trans hqD.out); have hnf1 := hid ((hs1.block w.heap.size hszD.out hnfD.out).2); have k0 : w1.cell? ⟨w.heap.size, 0, none⟩ = some (.pointer (some ⟨b, 0, none⟩)) := block_cell hq1.out 0)
   | (go_at_call 135; refine (hraw.out _ ha1).mono ?_; rintro e w2 ⟨v2, rfl, ⟨hv2, hnew⟩, ha2, hs2⟩; have k1 : w2.cell? ⟨w.heap.size, 0, none⟩ = some (.pointer (some ⟨b, 0, none⟩)) := block_cell (((hs2.block w.heap.size (lt_of_block hq1.out) hnf1.out).1).trans hq1.out) 0))
 have hst := (stD.trans hs1).trans hs2
 have ha2' : InAt w2 b (stR p) := ha2
 have hv2' : BytesAt w2 v2 (stB p) := hv2
 have hsz2 : w.heap.size ≤ w2.heap.size := hst.below.size
 have hnew2 : Hid (∀ k, v2.ownBlock = some k → w.heap.size ≤ k) := hid fun k hk => Nat.le_trans (Nat.le_of_lt (lt_of_block hq1.out)) (hnew k hk)
 have hblk := hid (hst.block q hlt hf'.out)
 clear ha2 hv2 hs1 hs2 ha1 k0 hnew stD haD hnfD hqD hszD hq1 hnf1
 go_wp2_with fail
 refine (err_at b _ _ ha2').mono ?_
 rintro e w4 ⟨rfl, rfl⟩
 rw [e2.out]
 go_wp2_with fail
 refine (mmust_ok _).mono ?_
 rintro e w4 ⟨rfl, rfl⟩
 go_wp2_with fail
 refine (decode_any v2 (stB p) _ hv2' hBL).mono ?_
 rintro e w3 ⟨rfl, hb3⟩
 rw [e3.out]
 obtain ⟨a2, k2, rfl, hk2, hk3, _⟩ := hv2'.form
 unfold maxLen at hk3
 have hst3 := hst.trans (OStep.pure ha2'.lt hb3)
 generalize decS (stB p) = S
 generalize hN : decN (stB p) = N at *
 generalize hM : (stB p).length = M at *
 clear hN hM
 rw [cells_eq S]
 go_wp2_with fail
 refine (mmust_ok _).mono ?_
 rintro e w4 ⟨rfl, rfl⟩
 go_wp2_with fail
 exact ⟨rfl, ⟨2, by omega, rfl⟩, hst3.trans (OStep.pure (hst3.below.size |> fun h => Nat.lt_of_lt_of_le ha2'.lt hb3.size) ((Below.refl _ _).alloc (Nat.le_refl _) _))⟩
end
end Go.Proofs.YtlmojhlacfjmaaaGreat
