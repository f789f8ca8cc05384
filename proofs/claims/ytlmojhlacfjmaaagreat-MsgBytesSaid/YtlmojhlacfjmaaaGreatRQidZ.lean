/- What the reference's Take, Text, Left and Qid read, on the plain reading functions. Conditions: bounds on lengths that each theorem names. -/
import Derived.Test.YtlmojhlacfjmaaaGreatRefIn2Z
import Derived.Test.YtlmojhlacfjmaaaGreatBunE
namespace Go.Proofs.YtlmojhlacfjmaaaGreat
open Go.RowKit
set_option maxRecDepth 100000

def RInAt (w : World) (b : Nat) (p : List UInt8 × Nat) : Prop := RInIs w b p.1 p.2
theorem RInAt.below {w w' : World} {b : Nat} {p : List UInt8 × Nat} (h : RInAt w b p) (hb : Below w.heap.size w w') : RInAt w' b p := RInIs.below h hb
theorem RInAt.lt {w : World} {b : Nat} {p : List UInt8 × Nat} (h : RInAt w b p) : b < w.heap.size := RInIs.lt h
theorem RInAt.new {w : World} {b : Nat} {p : List UInt8 × Nat} (h : RInAt w b p) (o : Obj) : ¬ Foot (w.alloc o) b w.heap.size := RInIs.new h o
theorem RInAt.store {w : World} {b : Nat} {p : List UInt8 × Nat} (h : RInAt w b p) {a : Addr} (u : Value) (hf : ¬ Foot w b a.block) : RInAt (w.setCell a u) b p := RInIs.store h u hf
theorem rput_in {b q : Nat} {p : List UInt8 × Nat} : ∀ (us : List Value) (i : Nat) (w : World), ¬ Foot w b q → RInAt w b p → RInAt (put w q i us) b p
 | [], _, _, _, h => h
 | u :: us, i, w, hf, h => by
  have hq : q ≠ b := fun e => hf (.inl e)
  simp only [put]; exact rput_in us _ _ (Foot.store (p := ⟨q, i, none⟩) hq hf) (h.store (a := ⟨q, i, none⟩) u hf)
theorem rin3 {b q : Nat} {p : List UInt8 × Nat} {w : World} (hf : ¬ Foot w b q) (h : RInAt w b p) {u0 u1 u2 : Value} :
  RInAt (((w.setCell ⟨q, 0, none⟩ u0).setCell ⟨q, 1, none⟩ u1).setCell ⟨q, 2, none⟩ u2) b p := rput_in [u0, u1, u2] 0 w hf h

theorem rtake_at (b n : Nat) (p : List UInt8 × Nat) (w : World) (hn1 : 1 ≤ n) (hn8 : n ≤ 8) (h : RInAt w b p) :
  Calls Tryz.prog 36 #[.pointer (some ⟨b, 0, none⟩), .int .i64 (n : Int)] w fun e w' => e = .returned (.int .u64 (tv n p : Int)) ∧ RInAt w' b (rd n p) ∧ OStep b w w' :=
 rin_take_step b n p.1 p.2 w hn1 hn8 h
theorem rtext_at (b : Nat) (p : List UInt8 × Nat) (w : World) (hl : p.1.length ≤ 1000000000) (h : RInAt w b p) :
  Calls Tryz.prog 61 #[.pointer (some ⟨b, 0, none⟩)] w fun e w' => e = .returned (.tuple #[.string (ts p), .int .i64 (te p : Int)]) ∧ RInAt w' b (tr p) ∧ OStep b w w' :=
 rin_text_step b p.1 p.2 w hl h
theorem rleft_at (b : Nat) (p : List UInt8 × Nat) (w : World) (h : RInAt w b p) :
  Calls Tryz.prog 38 #[.pointer (some ⟨b, 0, none⟩)] w fun e w' => e = .returned (.int .i64 (lt p : Int)) ∧ Below w.heap.size w w' := rin_left_any b p.1 p.2 w h
theorem RInAt.bad {w : World} {b : Nat} {p : List UInt8 × Nat} (h : RInAt w b p) : w.cell? ⟨b, 0 + 2, none⟩ = some (.int .i64 (p.2 : Int)) := by
 obtain ⟨v, at_, L, hb, _⟩ := h
 exact block_cell hb 2

set_option maxHeartbeats 800000 in
theorem rqid_any (b : Nat) (p : List UInt8 × Nat) (w : World) (h : RInAt w b p) :
  Calls Tryz.prog 50 #[.pointer (some ⟨b, 0, none⟩)] w fun e w' => e = .returned (qidAgg p) ∧ RInAt w' b (qr p) ∧ OStep b w w' := by
 have hlt := h.lt
 have h1 := tv_lt 1 p (by omega)
 have h2 := tv_lt 4 (rd 1 p) (by omega)
 have c1 : IntKind.u8.wrap (tv 1 p : Int) = (tv 1 p : Int) := IntWalk.u8_in _ (by omega)
 have c2 : IntKind.u32.wrap (tv 4 (rd 1 p) : Int) = (tv 4 (rd 1 p) : Int) := IntWalk.u32_in _ (by omega)
 have hb0 := (Below.refl w.heap.size w).alloc (Nat.le_refl _) (.cells #[.int .u8 0, .int .u32 0, .int .u64 0] 42)
 have ha := h.below hb0
 have hnf := hid (h.new (.cells #[.int .u8 0, .int .u32 0, .int .u64 0] 42))
 have hc0 := heap_alloc_new w (.cells #[.int .u8 0, .int .u32 0, .int .u64 0] 42)
 replace hc0 := hid hc0
 have st0 := OStep.pure hlt hb0
 go_enter Tryz.func50, Tryz.ntmps50
 go_wp2_with fail
 refine (rtake_at b 1 p _ (by omega) (by omega) ha).mono ?_
 rintro e w1 ⟨rfl, ha1, hb1⟩
 go_wp2_with fail
 refine (rtake_at b 4 (rd 1 p) _ (by omega) (by omega) ha1).mono ?_
 rintro e w2 ⟨rfl, ha2, hb2⟩
 go_wp2_with fail
 refine (rtake_at b 8 (rd 4 (rd 1 p)) _ (by omega) (by omega) ha2).mono ?_
 rintro e w3 ⟨rfl, ha3, hb3⟩
 have st3 := ((hb1.trans hb2).trans hb3)
 obtain ⟨e3, n3⟩ := st3.block w.heap.size (by simp) hnf.out
 have hc4 := e3.trans hc0.out
 have fst4 := st0.trans st3
 have ha4 := ha3
 have hbad := ha4.bad
 clear hb1 hb2 hb3 st3 st0 e3
 have f0 : w3.frozen? ⟨w.heap.size, 0, none⟩ = false := block_free hc4 0
 have f1 : w3.frozen? ⟨w.heap.size, 0 + 1, none⟩ = false := block_free hc4 1
 have f2 : w3.frozen? ⟨w.heap.size, 0 + 2, none⟩ = false := block_free hc4 2
 have q0 : w3.cell? ⟨w.heap.size, 0, none⟩ = some (.int .u8 0) := block_cell hc4 0
 have q1 : w3.cell? ⟨w.heap.size, 0 + 1, none⟩ = some (.int .u32 0) := block_cell hc4 1
 have q2 : w3.cell? ⟨w.heap.size, 0 + 2, none⟩ = some (.int .u64 0) := block_cell hc4 2
 replace hc4 := hid hc4
 replace n3 := hid n3
 have hq := hid (show (qr p).2 = (rd 8 (rd 4 (rd 1 p))).2 from rfl)
 by_cases he : (rd 8 (rd 4 (rd 1 p))).2 = 0
 ·have k0 : (((rd 8 (rd 4 (rd 1 p))).2 : Int) != 0) = false := by simpa using he
  have hA := hid (show qidAgg p = .agg #[.int .u8 (tv 1 p : Int), .int .u32 (tv 4 (rd 1 p) : Int), .int .u64 (tv 8 (rd 4 (rd 1 p)) : Int)] by unfold qidAgg qvT qvV qvP; rw [hq.out, if_neg (by simp [he]), if_neg (by simp [he]), if_neg (by simp [he])])
  clear he
  go_wp2_with fail
  refine bodyPost_ret (results_cell_row rfl _ _ w.heap.size _ _ _ _ rfl (set3 hc4.out rfl) Tryz.underlying42 rfl (by kernel_rfl)) rfl ?_
  exact ⟨by rw [hA.out], rin3 n3.out ha4, step3 hlt (Nat.le_refl _) n3.out fst4⟩
 ·have k0 : (((rd 8 (rd 4 (rd 1 p))).2 : Int) != 0) = true := by simpa using he
  have hA := hid (show qidAgg p = .agg #[.int .u8 0, .int .u32 0, .int .u64 0] by unfold qidAgg qvT qvV qvP; rw [hq.out, if_pos he, if_pos he, if_pos he]; rfl)
  clear he
  go_wp2_with fail
  refine bodyPost_ret (results_cell_row rfl _ _ w.heap.size _ _ _ _ rfl (set3 hc4.out rfl) Tryz.underlying42 rfl (by kernel_rfl)) rfl ?_
  exact ⟨by rw [hA.out], rin3 n3.out ha4, step3 hlt (Nat.le_refl _) n3.out fst4⟩
end Go.Proofs.YtlmojhlacfjmaaaGreat
