/- What qid.Take and stat.must do, under bounds on lengths that each theorem names. No further condition. -/
import Derived.Test.YtoblafeiidjaaaaStatR
import Derived.Test.YtoblafeiidjaaaaPut
namespace Go.Proofs.Ytoblafeiidjaaaa
open Go.RowKit
set_option maxRecDepth 100000

def qidAgg (p : List UInt8 × Nat) : Value := .agg #[.int .u8 (qvT p : Int), .int .u32 (qvV p : Int), .int .u64 (qvP p : Int)]

set_option maxHeartbeats 800000 in
theorem qid_take_any (b : Nat) (p : List UInt8 × Nat) (w : World) (hl : p.1.length ≤ 1000000000) (h : InAt w b p) :
    Calls Try.prog 79 #[.pointer (some ⟨b, 0, none⟩)] w fun e w' => e = .returned (qidAgg p) ∧ InAt w' b (qr p) ∧ OStep b w w' := by
  have hlt := h.lt
  have h1 := tv_lt 1 p (by omega)
  have h2 := tv_lt 4 (rd 1 p) (by omega)
  have c1 : IntKind.u8.wrap (tv 1 p : Int) = (tv 1 p : Int) := IntWalk.u8_in _ (by omega)
  have c2 : IntKind.u32.wrap (tv 4 (rd 1 p) : Int) = (tv 4 (rd 1 p) : Int) := IntWalk.u32_in _ (by omega)
  have hb0 := (Below.refl w.heap.size w).alloc (Nat.le_refl _) (.cells #[.int .u8 0, .int .u32 0, .int .u64 0] 35)
  have ha := h.below hb0
  have hnf := hid (h.new (.cells #[.int .u8 0, .int .u32 0, .int .u64 0] 35))
  go_enter Try.func79, Try.ntmps79
  go_wp2_with fail
  have st0 := OStep.pure hlt hb0
  have hc0 := heap_alloc_new w (.cells #[.int .u8 0, .int .u32 0, .int .u64 0] 35)
  replace hc0 := hid hc0
  refine (take_at b 1 p _ (by omega) (by omega) hl ha).mono ?_
  rintro e w1 ⟨rfl, ha1, hb1⟩
  go_wp2_with fail
  refine (take_at b 4 (rd 1 p) _ (by omega) (by omega) (Nat.le_trans (rd_le _ _) hl) ha1).mono ?_
  rintro e w2 ⟨rfl, ha2, hb2⟩
  go_wp2_with fail
  refine (take_at b 8 (rd 4 (rd 1 p)) _ (by omega) (by omega) (Nat.le_trans (rd_le _ _) (Nat.le_trans (rd_le _ _) hl)) ha2).mono ?_
  rintro e w3 ⟨rfl, ha3, hb3⟩
  have st3 := ((hb1.trans hb2).trans hb3)
  obtain ⟨e3, n3⟩ := st3.block w.heap.size (by simp) hnf.out
  have hc3 := e3.trans hc0.out
  clear e3
  have fst := st0.trans st3
  have hlt3 := ha3.lt
  clear hb1 hb2 hb3 st3 st0
  have hlc := lt_of_block hc3
  have hb4 := (Below.refl w3.heap.size w3).alloc (Nat.le_refl _) (.cells #[.int .u8 (tv 1 p : Int), .int .u32 (tv 4 (rd 1 p) : Int), .int .u64 (tv 8 (rd 4 (rd 1 p)) : Int)] 35)
  have ha4 := ha3.below hb4
  have fst4 := fst.trans (OStep.pure hlt3 hb4)
  have n4 := hid ((OStep.pure hlt3 hb4).block w.heap.size hlc n3).2
  clear n3
  have hc4 := (hb4.block w.heap.size hlc).trans hc3
  replace hc4 := hid hc4
  replace hc3 := hid hc3
  go_wp2_with fail
  refine (err_at b _ _ ha4).mono ?_
  rintro e w5 ⟨rfl, rfl⟩
  have hne : w.heap.size ≠ w3.heap.size := by omega
  have hn3 := heap_alloc_new w3 (.cells #[.int .u8 (tv 1 p : Int), .int .u32 (tv 4 (rd 1 p) : Int), .int .u64 (tv 8 (rd 4 (rd 1 p)) : Int)] 35)
  generalize (w3.alloc (.cells #[.int .u8 (tv 1 p : Int), .int .u32 (tv 4 (rd 1 p) : Int), .int .u64 (tv 8 (rd 4 (rd 1 p)) : Int)] 35)) = w4 at *
  have f0 : w4.frozen? ⟨w.heap.size, 0, none⟩ = false := block_free hc4.out 0
  have f1 : w4.frozen? ⟨w.heap.size, 0 + 1, none⟩ = false := block_free hc4.out 1
  have f2 : w4.frozen? ⟨w.heap.size, 0 + 2, none⟩ = false := block_free hc4.out 2
  have q0 : w4.cell? ⟨w.heap.size, 0, none⟩ = some (.int .u8 0) := block_cell hc4.out 0
  have q1 : w4.cell? ⟨w.heap.size, 0 + 1, none⟩ = some (.int .u32 0) := block_cell hc4.out 1
  have q2 : w4.cell? ⟨w.heap.size, 0 + 2, none⟩ = some (.int .u64 0) := block_cell hc4.out 2
  have g0 : w4.cell? ⟨w3.heap.size, 0, none⟩ = some (.int .u8 (tv 1 p : Int)) := block_cell hn3 0
  have g1 : w4.cell? ⟨w3.heap.size, 0 + 1, none⟩ = some (.int .u32 (tv 4 (rd 1 p) : Int)) := block_cell hn3 1
  have g2 : w4.cell? ⟨w3.heap.size, 0 + 2, none⟩ = some (.int .u64 (tv 8 (rd 4 (rd 1 p)) : Int)) := block_cell hn3 2
  replace hn3 := hid hn3
  have hq := hid (show (qr p).2 = (rd 8 (rd 4 (rd 1 p))).2 from rfl)
  by_cases he : (rd 8 (rd 4 (rd 1 p))).2 = 0
  · have k0 : (((rd 8 (rd 4 (rd 1 p))).2 : Int) != 0) = false := by simpa using he
    have hA := hid (show qidAgg p = .agg #[.int .u8 (tv 1 p : Int), .int .u32 (tv 4 (rd 1 p) : Int), .int .u64 (tv 8 (rd 4 (rd 1 p)) : Int)] by unfold qidAgg qvT qvV qvP; rw [hq.out, if_neg (by simp [he]), if_neg (by simp [he]), if_neg (by simp [he])])
    have hfin := block_set (block_set (block_set hc4.out 0 (.int .u8 (tv 1 p : Int))) 1 (.int .u32 (tv 4 (rd 1 p) : Int))) 2 (.int .u64 (tv 8 (rd 4 (rd 1 p)) : Int))
    have hafin := ha4.store3 n4.out 0 1 2 (.int .u8 (tv 1 p : Int)) (.int .u32 (tv 4 (rd 1 p) : Int)) (.int .u64 (tv 8 (rd 4 (rd 1 p)) : Int))
    have hsfin := fst4.store3 (Nat.le_refl _) n4.out hlt 0 1 2 (.int .u8 (tv 1 p : Int)) (.int .u32 (tv 4 (rd 1 p) : Int)) (.int .u64 (tv 8 (rd 4 (rd 1 p)) : Int))
    replace hfin := hid hfin
    go_wp2_with fail
    refine bodyPost_ret (results_cell_row rfl _ _ w.heap.size _ _ _ _ rfl hfin.out Try.underlying35 rfl (by kernel_rfl)) rfl ?_
    exact ⟨by rw [hA.out]; rfl, hafin, hsfin⟩
  · have k0 : (((rd 8 (rd 4 (rd 1 p))).2 : Int) != 0) = true := by simpa using he
    go_wp2_with fail
    have hA := hid (show qidAgg p = .agg #[.int .u8 0, .int .u32 0, .int .u64 0] by unfold qidAgg qvT qvV qvP; rw [hq.out, if_pos he, if_pos he, if_pos he]; rfl)
    refine bodyPost_ret (results_cell_row rfl _ _ w.heap.size _ _ _ _ rfl (set3 hc4.out rfl) Try.underlying35 rfl (by kernel_rfl)) rfl ?_
    exact ⟨by rw [hA.out], in3 n4.out ha4, step3 hlt (Nat.le_refl _) n4.out fst4⟩

def MustPost (w : World) (b : Nat) (p : List UInt8 × Nat) (e : Ending) (w' : World) : Prop := e = .returned (.string (ts p)) ∧ InAt w' b (tr p) ∧ OStep b w w'

theorem must_ok (b : Nat) (p : List UInt8 × Nat) (w : World) (hl : p.1.length ≤ 1000000000) (h : InAt w b p) (he : te p = 0) :
    Calls Try.prog 80 #[.pointer (some ⟨b, 0, none⟩)] w fun e w' => e = .returned (.string (ts p)) ∧ InAt w' b (tr p) ∧ OStep b w w' := by
  have k0 : ((tkErr p.1 p.2 : Int) != 0) = false := by simpa [te] using he
  clear he
  go_enter Try.func80, Try.ntmps80
  go_wp2_with fail
  refine (text_take_step b p.1 p.2 w hl h).mono ?_
  rintro e w1 ⟨rfl, h1, hb1⟩
  go_wp2_with fail
  go_ret
  exact ⟨rfl, h1, hb1⟩
theorem must_bad (b : Nat) (p : List UInt8 × Nat) (w : World) (hl : p.1.length ≤ 1000000000) (h : InAt w b p) (he : te p ≠ 0) :
    Calls Try.prog 80 #[.pointer (some ⟨b, 0, none⟩)] w fun e w' => e = .panicked (errChain 2) ∧ OStep b w w' := by
  have k0 : ((tkErr p.1 p.2 : Int) != 0) = true := by simpa [te] using he
  clear he
  go_enter Try.func80, Try.ntmps80
  go_wp2_with fail
  refine (text_take_step b p.1 p.2 w hl h).mono ?_
  rintro e w1 ⟨rfl, h1, hb1⟩
  go_wp2_with fail
  exact ⟨rfl, rfl, hb1⟩
end Go.Proofs.Ytoblafeiidjaaaa
