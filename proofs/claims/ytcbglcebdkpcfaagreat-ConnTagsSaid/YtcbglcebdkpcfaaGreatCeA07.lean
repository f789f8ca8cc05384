/- What stat.read returns, or that it raises the error of form, for any bytes. Conditions: the length is at most a thousand million. And the texts behind it. -/
import Derived.Test.YtcbglcebdkpcfaaGreatCeA06
import Derived.Deep.RegionHeld3
import Derived.Deep.RegionHeld
namespace Go.Proofs.YtcbglcebdkpcfaaGreat
section
open Go.RowKit
set_option maxRecDepth 100000

structure RdAt (w w' : World) (b q : Nat) (cs : Array Value) (p : List UInt8 × Nat) : Prop where
  inn : InAt w' b p
  box : w'.heap[q]? = some (.cells cs 39 (0, 0))
  below : Below w.heap.size w w'
  nf : ¬ Foot w' b q
  ge : w.heap.size ≤ b
  geq : w.heap.size ≤ q

theorem RdAt.step {w w1 w2 : World} {b q : Nat} {cs : Array Value} {p p2 : List UInt8 × Nat} (h : RdAt w w1 b q cs p) (hi : InAt w2 b p2) (hs : OStep b w1 w2) : RdAt w w2 b q cs p2 := by
  obtain ⟨e, n⟩ := hs.block q (lt_of_block h.box) h.nf
  exact ⟨hi, e.trans h.box, h.below.trans (hs.below.mono h.ge), n, h.ge, h.geq⟩
theorem RdAt.set {w w1 : World} {b q : Nat} {cs : Array Value} {p : List UInt8 × Nat} (h : RdAt w w1 b q cs p) (i : Nat) (u : Value) : RdAt w (w1.setCell ⟨q, i, none⟩ u) b q (cs.setIfInBounds i u) p := by
  have hq : q ≠ b := fun e => h.nf (.inl e)
  exact ⟨h.inn.store (a := ⟨q, i, none⟩) u h.nf, block_set h.box i u, h.below.setCell (p := ⟨q, i, none⟩) h.geq u, Foot.store (p := ⟨q, i, none⟩) hq h.nf, h.ge, h.geq⟩

theorem RdAt.to {w w1 : World} {b q : Nat} {cs : Array Value} {p : List UInt8 × Nat} (h : RdAt w w1 b q cs p) (cs' : Array Value) (e : cs = cs') : RdAt w w1 b q cs' p := e ▸ h

def ReadPost (w : World) (l : List UInt8) (e : Ending) (w' : World) : Prop := (e = if readE l then .returned (.agg (readS l).cells) else .panicked (errChain 2)) ∧ Below w.heap.size w w'

theorem readS_cells (l : List UInt8) : (readS l).cells = #[.int .u16 (tv 2 (l, 0) : Int), .int .u32 (tv 4 (rd 2 (l, 0)) : Int), .int .u8 (qvT (r2 l) : Int), .int .u32 (qvV (r2 l) : Int), .int .u64 (qvP (r2 l) : Int), .int .u32 (tv 4 (r5 l) : Int), .int .u32 (tv 4 (rd 4 (r5 l)) : Int), .int .u32 (tv 4 (rd 4 (rd 4 (r5 l))) : Int), .int .u64 (tv 8 (r8 l) : Int), .string (ts (r9 l)), .string (ts (tr (r9 l))), .string (ts (tr (tr (r9 l)))), .string (ts (tr (tr (tr (r9 l)))))] := by
  simp only [readS, Stat.cells]

set_option maxHeartbeats 3200000 in
theorem read_any (v : Value) (l : List UInt8) (w : World) (hv : BytesAt w v l) (hl : l.length ≤ 1000000000) : Calls Tryz.prog 164 #[v] w (ReadPost w l) := by
  obtain ⟨a, c, rfl, _, _, _⟩ := hv.form
  have c1 : IntKind.u16.wrap (tv 2 (l, 0) : Int) = (tv 2 (l, 0) : Int) := IntWalk.u16_in _ (by have := tv_lt 2 (l, 0) (by omega); omega)
  have c2 : IntKind.u32.wrap (tv 4 (rd 2 (l, 0)) : Int) = (tv 4 (rd 2 (l, 0)) : Int) := IntWalk.u32_in _ (by have := tv_lt 4 (rd 2 (l, 0)) (by omega); omega)
  have c3 : IntKind.u32.wrap (tv 4 (r5 l) : Int) = (tv 4 (r5 l) : Int) := IntWalk.u32_in _ (by have := tv_lt 4 (r5 l) (by omega); omega)
  have c4 : IntKind.u32.wrap (tv 4 (rd 4 (r5 l)) : Int) = (tv 4 (rd 4 (r5 l)) : Int) := IntWalk.u32_in _ (by have := tv_lt 4 (rd 4 (r5 l)) (by omega); omega)
  have c5 : IntKind.u32.wrap (tv 4 (rd 4 (rd 4 (r5 l))) : Int) = (tv 4 (rd 4 (rd 4 (r5 l))) : Int) := IntWalk.u32_in _ (by have := tv_lt 4 (rd 4 (rd 4 (r5 l))) (by omega); omega)
  have hb0 := (Below.refl w.heap.size w).alloc (Nat.le_refl _) (.cells #[.int .u16 0, .int .u32 0, .int .u8 0, .int .u32 0, .int .u64 0, .int .u32 0, .int .u32 0, .int .u32 0, .int .u64 0, .string ⟨#[]⟩, .string ⟨#[]⟩, .string ⟨#[]⟩, .string ⟨#[]⟩] 39)
  have hv0 := hv.below hb0
  have l2 := rd_le 2 (l, 0)
  have l3 := rd_le 4 (rd 2 (l, 0))
  go_enter Tryz.func164, Tryz.ntmps164
  go_wp2_with fail
  refine (in_of_any _ l _ hv0 (by omega)).mono ?_
  rintro e w1 ⟨b, rfl, hge, hi1, hb1⟩
  have ha1 : InAt w1 b (l, 0) := hi1
  go_wp2_with fail
  refine (take_at b 2 (l, 0) _ (by omega) (by omega) (by omega) ha1).mono ?_
  rintro e w2 ⟨rfl, ha2, hs2⟩
  go_wp2_with fail
  refine (take_at b 4 (rd 2 (l, 0)) _ (by omega) (by omega) (by omega) ha2).mono ?_
  rintro e w3 ⟨rfl, ha3, hs3⟩
  go_wp2_with fail
  refine (qid_take_any b (r2 l) _ (by unfold r2; omega) ha3).mono ?_
  rintro e w4 ⟨rfl, ha4, hs4⟩
  have hz : Hid (qidAgg (r2 l) = .agg #[.int .u8 (qvT (r2 l) : Int), .int .u32 (qvV (r2 l) : Int), .int .u64 (qvP (r2 l) : Int)]) := hid rfl
  rw [hz.out]
  have l5 : (r5 l).1.length ≤ l.length := Nat.le_trans (qr_le _) (Nat.le_trans (rd_le _ _) (rd_le _ _))
  have l6 := rd_le 4 (r5 l)
  have l7 := rd_le 4 (rd 4 (r5 l))
  have l8 : (r8 l).1.length ≤ l.length := Nat.le_trans (rd_le _ _) (by omega)
  have l9 : (r9 l).1.length ≤ l.length := Nat.le_trans (rd_le _ _) (by omega)
  have la := tr_le (r9 l)
  have lb := tr_le (tr (r9 l))
  have lc := tr_le (tr (tr (r9 l)))
  have ld := tr_le (tr (tr (tr (r9 l))))
  have f4 := (hb1.trans ((hs2.trans (hs3.trans hs4)).below.mono hge))
  have hb5 := (Below.refl w4.heap.size w4).alloc (Nat.le_refl _) (.cells #[.int .u16 (tv 2 (l, 0) : Int), .int .u32 (tv 4 (rd 2 (l, 0)) : Int), .int .u8 (qvT (r2 l) : Int), .int .u32 (qvV (r2 l) : Int), .int .u64 (qvP (r2 l) : Int), .int .u32 0, .int .u32 0, .int .u32 0, .int .u64 0, .string ⟨#[]⟩, .string ⟨#[]⟩, .string ⟨#[]⟩, .string ⟨#[]⟩] 39)
  have hge5 : (w.alloc (.cells #[.int .u16 0, .int .u32 0, .int .u8 0, .int .u32 0, .int .u64 0, .int .u32 0, .int .u32 0, .int .u32 0, .int .u64 0, .string ⟨#[]⟩, .string ⟨#[]⟩, .string ⟨#[]⟩, .string ⟨#[]⟩] 39)).heap.size ≤ w4.heap.size := f4.size
  have st5 : RdAt (w.alloc (.cells #[.int .u16 0, .int .u32 0, .int .u8 0, .int .u32 0, .int .u64 0, .int .u32 0, .int .u32 0, .int .u32 0, .int .u64 0, .string ⟨#[]⟩, .string ⟨#[]⟩, .string ⟨#[]⟩, .string ⟨#[]⟩] 39)) (w4.alloc (.cells #[.int .u16 (tv 2 (l, 0) : Int), .int .u32 (tv 4 (rd 2 (l, 0)) : Int), .int .u8 (qvT (r2 l) : Int), .int .u32 (qvV (r2 l) : Int), .int .u64 (qvP (r2 l) : Int), .int .u32 0, .int .u32 0, .int .u32 0, .int .u64 0, .string ⟨#[]⟩, .string ⟨#[]⟩, .string ⟨#[]⟩, .string ⟨#[]⟩] 39)) b w4.heap.size #[.int .u16 (tv 2 (l, 0) : Int), .int .u32 (tv 4 (rd 2 (l, 0)) : Int), .int .u8 (qvT (r2 l) : Int), .int .u32 (qvV (r2 l) : Int), .int .u64 (qvP (r2 l) : Int), .int .u32 0, .int .u32 0, .int .u32 0, .int .u64 0, .string ⟨#[]⟩, .string ⟨#[]⟩, .string ⟨#[]⟩, .string ⟨#[]⟩] (r5 l) :=
    ⟨ha4.below hb5, heap_alloc_new _ _, f4.trans (hb5.mono hge5), ha4.new _, hge, hge5⟩
  clear hs2 hs3 hs4 hi1 hb1 ha1 ha2 ha3 ha4 f4 hb5 hv hv0
  go_wp2_with fail
  refine (take_at b 4 (r5 l) _ (by omega) (by omega) (by omega) st5.inn).mono ?_
  rintro e w5 ⟨rfl, ha6, hs6⟩
  have st6 := st5.step ha6 hs6
  clear ha6 hs6 st5
  go_wp2_with fail
  refine (take_at b 4 (rd 4 (r5 l)) _ (by omega) (by omega) (by omega) st6.inn).mono ?_
  rintro e w6 ⟨rfl, ha6, hs6⟩
  have st7 := st6.step ha6 hs6
  clear ha6 hs6 st6
  go_wp2_with fail
  refine (take_at b 4 (rd 4 (rd 4 (r5 l))) _ (by omega) (by omega) (by omega) st7.inn).mono ?_
  rintro e w7 ⟨rfl, ha6, hs6⟩
  have st8 := st7.step ha6 hs6
  clear ha6 hs6 st7
  have q5 : w7.cell? ⟨w4.heap.size, 0 + 5, none⟩ = some (.int .u32 0) := block_cell st8.box 5
  have q6 : w7.cell? ⟨w4.heap.size, 0 + 6, none⟩ = some (.int .u32 0) := block_cell st8.box 6
  have q7 : w7.cell? ⟨w4.heap.size, 0 + 7, none⟩ = some (.int .u32 0) := block_cell st8.box 7
  have f5 : w7.frozen? ⟨w4.heap.size, 0 + 5, none⟩ = false := block_free st8.box 5
  have f6 : w7.frozen? ⟨w4.heap.size, 0 + 6, none⟩ = false := block_free st8.box 6
  have f7 : w7.frozen? ⟨w4.heap.size, 0 + 7, none⟩ = false := block_free st8.box 7
  have st9 := RdAt.to (((st8.set 5 (.int .u32 (tv 4 (r5 l) : Int))).set 6 (.int .u32 (tv 4 (rd 4 (r5 l)) : Int))).set 7 (.int .u32 (tv 4 (rd 4 (rd 4 (r5 l))) : Int))) #[.int .u16 (tv 2 (l, 0) : Int), .int .u32 (tv 4 (rd 2 (l, 0)) : Int), .int .u8 (qvT (r2 l) : Int), .int .u32 (qvV (r2 l) : Int), .int .u64 (qvP (r2 l) : Int), .int .u32 (tv 4 (r5 l) : Int), .int .u32 (tv 4 (rd 4 (r5 l)) : Int), .int .u32 (tv 4 (rd 4 (rd 4 (r5 l))) : Int), .int .u64 0, .string ⟨#[]⟩, .string ⟨#[]⟩, .string ⟨#[]⟩, .string ⟨#[]⟩] (by rfl)
  clear st8
  go_wp2_with fail
  refine (take_at b 8 (r8 l) _ (by omega) (by omega) (by omega) st9.inn).mono ?_
  rintro e w8 ⟨rfl, ha6, hs6⟩
  have st10 := st9.step ha6 hs6
  clear ha6 hs6 st9 q5 q6 q7 f5 f6 f7
  have q8 : w8.cell? ⟨w4.heap.size, 0 + 8, none⟩ = some (.int .u64 0) := block_cell st10.box 8
  have f8 : w8.frozen? ⟨w4.heap.size, 0 + 8, none⟩ = false := block_free st10.box 8
  have st11 := RdAt.to (st10.set 8 (.int .u64 (tv 8 (r8 l) : Int))) #[.int .u16 (tv 2 (l, 0) : Int), .int .u32 (tv 4 (rd 2 (l, 0)) : Int), .int .u8 (qvT (r2 l) : Int), .int .u32 (qvV (r2 l) : Int), .int .u64 (qvP (r2 l) : Int), .int .u32 (tv 4 (r5 l) : Int), .int .u32 (tv 4 (rd 4 (r5 l)) : Int), .int .u32 (tv 4 (rd 4 (rd 4 (r5 l))) : Int), .int .u64 (tv 8 (r8 l) : Int), .string ⟨#[]⟩, .string ⟨#[]⟩, .string ⟨#[]⟩, .string ⟨#[]⟩] (by rfl)
  clear st10
  by_cases t0 : te (r9 l) = 0
  case neg =>
    have hE : Hid (readE l = false) := hid (by unfold readE; simp [t0])
    go_wp2_with fail
    refine (must_bad b (r9 l) _ (by omega) st11.inn t0).mono ?_
    rintro e w9 ⟨rfl, hs6⟩
    go_wp2_with fail
    exact ⟨rfl, by rw [hE.out]; rfl, (hb0.trans ((st11.below).trans (hs6.below.mono st11.ge) |>.mono (by simp)))⟩
  replace t0 := hid t0
  go_wp2_with fail
  refine (must_ok b (r9 l) _ (by omega) st11.inn t0.out).mono ?_
  rintro e x0 ⟨rfl, ha6, hs6⟩
  have sm0 := st11.step ha6 hs6
  clear ha6 hs6 st11 q8 f8
  by_cases t1 : te (tr (r9 l)) = 0
  case neg =>
    have hE : Hid (readE l = false) := hid (by unfold readE; simp [t0.out, t1])
    go_wp2_with fail
    refine (must_bad b (tr (r9 l)) _ (by omega) sm0.inn t1).mono ?_
    rintro e w9 ⟨rfl, hs6⟩
    go_wp2_with fail
    exact ⟨rfl, by rw [hE.out]; rfl, (hb0.trans ((sm0.below).trans (hs6.below.mono sm0.ge) |>.mono (by simp)))⟩
  replace t1 := hid t1
  go_wp2_with fail
  refine (must_ok b (tr (r9 l)) _ (by omega) sm0.inn t1.out).mono ?_
  rintro e x1 ⟨rfl, ha6, hs6⟩
  have sm1 := sm0.step ha6 hs6
  clear ha6 hs6 sm0
  by_cases t2 : te (tr (tr (r9 l))) = 0
  case neg =>
    have hE : Hid (readE l = false) := hid (by unfold readE; simp [t0.out, t1.out, t2])
    go_wp2_with fail
    refine (must_bad b (tr (tr (r9 l))) _ (by omega) sm1.inn t2).mono ?_
    rintro e w9 ⟨rfl, hs6⟩
    go_wp2_with fail
    exact ⟨rfl, by rw [hE.out]; rfl, (hb0.trans ((sm1.below).trans (hs6.below.mono sm1.ge) |>.mono (by simp)))⟩
  replace t2 := hid t2
  go_wp2_with fail
  refine (must_ok b (tr (tr (r9 l))) _ (by omega) sm1.inn t2.out).mono ?_
  rintro e x2 ⟨rfl, ha6, hs6⟩
  have sm2 := sm1.step ha6 hs6
  clear ha6 hs6 sm1
  by_cases t3 : te (tr (tr (tr (r9 l)))) = 0
  case neg =>
    have hE : Hid (readE l = false) := hid (by unfold readE; simp [t0.out, t1.out, t2.out, t3])
    go_wp2_with fail
    refine (must_bad b (tr (tr (tr (r9 l)))) _ (by omega) sm2.inn t3).mono ?_
    rintro e w9 ⟨rfl, hs6⟩
    go_wp2_with fail
    exact ⟨rfl, by rw [hE.out]; rfl, (hb0.trans ((sm2.below).trans (hs6.below.mono sm2.ge) |>.mono (by simp)))⟩
  replace t3 := hid t3
  go_wp2_with fail
  refine (must_ok b (tr (tr (tr (r9 l)))) _ (by omega) sm2.inn t3.out).mono ?_
  rintro e x3 ⟨rfl, ha6, hs6⟩
  have sm3 := sm2.step ha6 hs6
  clear ha6 hs6 sm2
  have q9 : x3.cell? ⟨w4.heap.size, 0 + 9, none⟩ = some (.string ⟨#[]⟩) := block_cell sm3.box 9
  have q10 : x3.cell? ⟨w4.heap.size, 0 + 10, none⟩ = some (.string ⟨#[]⟩) := block_cell sm3.box 10
  have q11 : x3.cell? ⟨w4.heap.size, 0 + 11, none⟩ = some (.string ⟨#[]⟩) := block_cell sm3.box 11
  have q12 : x3.cell? ⟨w4.heap.size, 0 + 12, none⟩ = some (.string ⟨#[]⟩) := block_cell sm3.box 12
  have f9 : x3.frozen? ⟨w4.heap.size, 0 + 9, none⟩ = false := block_free sm3.box 9
  have f10 : x3.frozen? ⟨w4.heap.size, 0 + 10, none⟩ = false := block_free sm3.box 10
  have f11 : x3.frozen? ⟨w4.heap.size, 0 + 11, none⟩ = false := block_free sm3.box 11
  have f12 : x3.frozen? ⟨w4.heap.size, 0 + 12, none⟩ = false := block_free sm3.box 12
  have st12 := RdAt.to ((((sm3.set 9 (.string (ts (r9 l)))).set 10 (.string (ts (tr (r9 l))))).set 11 (.string (ts (tr (tr (r9 l)))))).set 12 (.string (ts (tr (tr (tr (r9 l))))))) #[.int .u16 (tv 2 (l, 0) : Int), .int .u32 (tv 4 (rd 2 (l, 0)) : Int), .int .u8 (qvT (r2 l) : Int), .int .u32 (qvV (r2 l) : Int), .int .u64 (qvP (r2 l) : Int), .int .u32 (tv 4 (r5 l) : Int), .int .u32 (tv 4 (rd 4 (r5 l)) : Int), .int .u32 (tv 4 (rd 4 (rd 4 (r5 l))) : Int), .int .u64 (tv 8 (r8 l) : Int), .string (ts (r9 l)), .string (ts (tr (r9 l))), .string (ts (tr (tr (r9 l)))), .string (ts (tr (tr (tr (r9 l)))))] (by rfl)
  clear sm3
  go_wp2_with fail
  refine (left_at b _ _ st12.inn).mono ?_
  rintro e y ⟨rfl, hy⟩
  rw [hy] at st12
  clear hy q9 q10 q11 q12 f9 f10 f11 f12
  have g0 : y.cell? ⟨w4.heap.size, 0, none⟩ = some (.int .u16 (tv 2 (l, 0) : Int)) := block_cell st12.box 0
  have g1 : y.cell? ⟨w4.heap.size, 0 + 1, none⟩ = some (.int .u32 (tv 4 (rd 2 (l, 0)) : Int)) := block_cell st12.box 1
  have g2 : y.cell? ⟨w4.heap.size, 0 + 2, none⟩ = some (.int .u8 (qvT (r2 l) : Int)) := block_cell st12.box 2
  have g3 : y.cell? ⟨w4.heap.size, 0 + 2 + 1, none⟩ = some (.int .u32 (qvV (r2 l) : Int)) := block_cell st12.box 3
  have g4 : y.cell? ⟨w4.heap.size, 0 + 2 + 2, none⟩ = some (.int .u64 (qvP (r2 l) : Int)) := block_cell st12.box 4
  have g5 : y.cell? ⟨w4.heap.size, 0 + 5, none⟩ = some (.int .u32 (tv 4 (r5 l) : Int)) := block_cell st12.box 5
  have g6 : y.cell? ⟨w4.heap.size, 0 + 6, none⟩ = some (.int .u32 (tv 4 (rd 4 (r5 l)) : Int)) := block_cell st12.box 6
  have g7 : y.cell? ⟨w4.heap.size, 0 + 7, none⟩ = some (.int .u32 (tv 4 (rd 4 (rd 4 (r5 l))) : Int)) := block_cell st12.box 7
  have g8 : y.cell? ⟨w4.heap.size, 0 + 8, none⟩ = some (.int .u64 (tv 8 (r8 l) : Int)) := block_cell st12.box 8
  have g9 : y.cell? ⟨w4.heap.size, 0 + 9, none⟩ = some (.string (ts (r9 l))) := block_cell st12.box 9
  have g10 : y.cell? ⟨w4.heap.size, 0 + 10, none⟩ = some (.string (ts (tr (r9 l)))) := block_cell st12.box 10
  have g11 : y.cell? ⟨w4.heap.size, 0 + 11, none⟩ = some (.string (ts (tr (tr (r9 l))))) := block_cell st12.box 11
  have g12 : y.cell? ⟨w4.heap.size, 0 + 12, none⟩ = some (.string (ts (tr (tr (tr (r9 l)))))) := block_cell st12.box 12
  have hR := st12.below.block w.heap.size (by simp)
  rw [heap_alloc_new] at hR
  have hS := st12.below.size
  have hb13 := st12.below
  have hbb := hid (hb0.trans (hb13.mono (by simp)))
  replace hR := hid hR
  obtain ⟨hcR, hfR⟩ := bcell st12.below
  clear st12 hb13
  by_cases hl0 : lt (tr (tr (tr (tr (r9 l))))) = 0
  case neg =>
    have hE : Hid (readE l = false) := hid (by unfold readE; simp [t0.out, t1.out, t2.out, t3.out, hl0])
    have hl1 : 0 < lt (tr (tr (tr (tr (r9 l))))) := by omega
    go_wp2_with fail
    exact ⟨rfl, by rw [hE.out]; rfl, hbb.out⟩
  have hE : Hid (readE l = true) := hid (by unfold readE; simp [t0.out, t1.out, t2.out, t3.out, hl0])
  go_wp2_with fail
  refine bodyPost_ret (results_cell_row rfl _ _ w.heap.size _ _ _ _ rfl (set13 hR.out rfl) Tryz.underlying39 rfl (by kernel_rfl)) rfl ?_
  refine ⟨?_, below13 (Nat.le_refl _) hbb.out⟩
  rw [hE.out, if_pos rfl, readS_cells]
end
end Go.Proofs.YtcbglcebdkpcfaaGreat

namespace Go.Proofs.YtcbglcebdkpcfaaGreat
section
open Go.RowKit
set_option maxRecDepth 100000

theorem ecaught_panicking (k : Nat) (e0 : Int) (e : Nat) (w : World) (h : w.heap[k]? = some (.cells #[.int .i64 e0] 43 (0, 0))) :
    CallsD Tryz.prog 163 #[.pointer (some ⟨k, 0, none⟩)] (.panicking (errChain e)) w fun en u' w' =>
      en = .returned (.tuple #[]) ∧ u' = .panicking (errChainR e) ∧ w' = w.setCell ⟨k, 0, none⟩ (.int .i64 (e : Int)) := by
  have hc1 : w.cell? ⟨k, 0, none⟩ = some (.int .i64 e0) := block_cell h 0
  have hf1 : w.frozen? ⟨k, 0, none⟩ = false := block_free h 0
  clear h
  have hta := assert_errno
  refine callsD_of_wpS Tryz.func163 rfl fun c₀ cs hu => ?_
  apply wpS_seq
  apply wpS_region
  simp [wpOpsS, go_sem, recoverD, hu, errChain, Tryz.ntmps163, Exit.thenS, Array.replicate_succ]
  apply wpS_body
  go_wp2
  go_end0
  exact ⟨rfl, rfl, rfl⟩
theorem ecaught_idle (k : Nat) (w : World) :
    CallsD Tryz.prog 163 #[.pointer (some ⟨k, 0, none⟩)] .returning w fun en u' w' => en = .returned (.tuple #[]) ∧ u' = .returning ∧ w = w' := by
  refine callsD_of_wpS Tryz.func163 rfl fun c₀ cs hu => ?_
  apply wpS_seq
  apply wpS_region
  simp [wpOpsS, go_sem, recoverD, hu, Tryz.ntmps163, Exit.thenS, Array.replicate_succ]
  rw [show c₀ = { c₀ with mode := .returning } from by cases c₀; simp_all]
  apply wpS_body
  go_wp2
  go_end0
  exact ⟨rfl, rfl⟩

def bodyL (l : List UInt8) : List UInt8 := rawL (tv 2 (l, 0)) (rd 2 (l, 0)).1 (rd 2 (l, 0)).2
def decE (l : List UInt8) : Nat := if (rd (tv 2 (l, 0)) (rd 2 (l, 0))).2 ≠ 0 then 4 else if readE (bodyL l) then 0 else 2
def zeroS : Stat := ⟨0, 0, 0, 0, 0, 0, 0, 0, 0, ⟨#[]⟩, ⟨#[]⟩, ⟨#[]⟩, ⟨#[]⟩⟩
def decS (l : List UInt8) : Stat := if decE l = 0 then readS (bodyL l) else zeroS
def decN (l : List UInt8) : Nat := if decE l = 0 then 2 + (bodyL l).length else 0
def DecPost (w : World) (l : List UInt8) (e : Ending) (w' : World) : Prop := e = .returned (.tuple #[.agg (decS l).cells, .int .i64 (decN l : Int), .int .i64 (decE l : Int)]) ∧ Below w.heap.size w w'

theorem dec_results {tmps : Array Value} {w : World} {g k : Nat} {cs : Array Value} {x : Value} {e : Int} (h2 : tmps.getD 2 undef = .pointer (some ⟨g, 0, none⟩)) (h3 : tmps.getD 3 undef = x) (h4 : tmps.getD 4 undef = .pointer (some ⟨k, 0, none⟩))
    (hg : w.heap[g]? = some (.cells cs 39 (0, 0))) (hs : cs.size = 13) (hk : w.cell? ⟨k, 0, none⟩ = some (.int .i64 e)) : (results Tryz.f160 tmps).run Tryz.prog w = .ok (.tuple #[.agg cs, x, .int .i64 e]) w := by
  have hi : (Tryz.prog.info? 39).map (·.size) = some cs.size := by rw [hs]; kernel_rfl
  have h2' : tmps[2]?.getD undef = .pointer (some ⟨g, 0, none⟩) := by simpa using h2
  have h3' : tmps[3]?.getD undef = x := by simpa using h3
  have h4' : tmps[4]?.getD undef = .pointer (some ⟨k, 0, none⟩) := by simpa using h4
  have hkv : (loadVar 43 ⟨k, 0, none⟩).run Tryz.prog w = .ok (.int .i64 e) w := by simp [go_sem, hk]
  simp [results, Tryz.results160, h2', h3', h4', asAddr, run_loadVar_row w g 39 39 cs (0, 0) _ hg Tryz.underlying39 rfl hi, hkv]

theorem dec_bad {l : List UInt8} {e : Nat} (h : decE l = e) (he : e ≠ 0) {w w' : World} {v : Value} (hv : v = .tuple #[.agg zeroS.cells, .int .i64 0, .int .i64 (e : Int)]) (hb : Below w.heap.size w w') : DecPost w l (.returned v) w' := by
  refine ⟨?_, hb⟩
  rw [hv, h]
  unfold decS decN
  rw [if_neg (by rw [h]; exact he), if_neg (by rw [h]; exact he)]
  rfl
theorem dec_good {l : List UInt8} (h : decE l = 0) {w w' : World} {v : Value} (hv : v = .tuple #[.agg (readS (bodyL l)).cells, .int .i64 (2 + ((bodyL l).length : Int)), .int .i64 0]) (hb : Below w.heap.size w w') : DecPost w l (.returned v) w' := by
  refine ⟨?_, hb⟩
  rw [hv, h]
  unfold decS decN
  rw [if_pos h, if_pos h, show ((2 + (bodyL l).length : Nat) : Int) = 2 + ((bodyL l).length : Int) from by omega]
  rfl

theorem cells_eq (s : Stat) : s.cells = #[.int .u16 (s.kind : Int), .int .u32 (s.dev : Int), .int .u8 (s.qt : Int), .int .u32 (s.qv : Int), .int .u64 (s.qp : Int), .int .u32 (s.mode : Int), .int .u32 (s.atm : Int), .int .u32 (s.mtm : Int), .int .u64 (s.len : Int), .string s.name, .string s.uid, .string s.gid, .string s.muid] := rfl

set_option maxHeartbeats 1600000 in
theorem decode_any (v : Value) (l : List UInt8) (w : World) (hv : BytesAt w v l) (hl : l.length ≤ 1000000000) : Calls Tryz.prog 160 #[v] w (DecPost w l) := by
  obtain ⟨a, c, rfl, _, _, _⟩ := hv.form
  have hb0 := ((Below.refl w.heap.size w).alloc (Nat.le_refl _) (.cells #[.int .u16 0, .int .u32 0, .int .u8 0, .int .u32 0, .int .u64 0, .int .u32 0, .int .u32 0, .int .u32 0, .int .u64 0, .string ⟨#[]⟩, .string ⟨#[]⟩, .string ⟨#[]⟩, .string ⟨#[]⟩] 39)).alloc (by simp) (.cells #[.int .i64 0] 43)
  have hv0 := hv.below hb0
  have htv := tv_lt 2 (l, 0) (by omega)
  go_enter_defers Tryz.func160, Tryz.ntmps160
  go_wp2_with fail
  refine (in_of_any _ l _ hv0 (by omega)).mono ?_
  rintro e w1 ⟨b, rfl, hge, hi1, hb1⟩
  have ha1 : InAt w1 b (l, 0) := hi1
  go_wp2_with fail
  refine (take_at b 2 (l, 0) _ (by omega) (by omega) (by omega) ha1).mono ?_
  rintro e w2 ⟨rfl, ha2, hs2⟩
  have l2 : (rd 2 (l, 0)).1.length ≤ l.length := rd_le 2 (l, 0)
  go_wp2_with fail
  refine (in_raw_step b (tv 2 (l, 0)) (rd 2 (l, 0)).1 (rd 2 (l, 0)).2 _ (by omega) (by omega) ha2).mono ?_
  rintro e w3 ⟨v3, rfl, hv3, hi3, hs3⟩
  have ha3 : InAt w3 b (rd (tv 2 (l, 0)) (rd 2 (l, 0))) := hi3
  have f3 := hb1.trans ((hs2.trans hs3).below.mono hge)
  go_wp2_with fail
  refine (err_at b _ _ ha3).mono ?_
  rintro e w4 ⟨rfl, rfl⟩
  obtain ⟨hcR, hfR⟩ := bcell f3
  have hR := f3.block w.heap.size (by simp; omega)
  have hK := f3.block (w.heap.size + 1) (by simp)
  rw [heap2] at hK
  rw [heap_alloc_old _ _ (by simp), heap_alloc_new] at hR
  have hz := f3.size
  have hz1 : w.heap.size + 1 < w3.heap.size := by simp at hz; omega
  have hz2 : w.heap.size < w3.heap.size := by omega
  have hbb := hid (hb0.trans (f3.mono (by simp; omega)))
  replace hR := hid hR
  replace hK := hid hK
  clear hs2 hs3 ha1 ha2 hi1 hi3 hb1
  by_cases hE4 : (rd (tv 2 (l, 0)) (rd 2 (l, 0))).2 = 0
  case neg =>
    have k0 : (((rd (tv 2 (l, 0)) (rd 2 (l, 0))).2 : Int) != 0) = true := by simpa using hE4
    have hD : Hid (decE l = 4) := hid (by unfold decE; rw [if_pos hE4])
    clear hE4
    go_wp2_with fail
    simp only [bodyPostD, Leaves]
    refine ⟨_, dec_results rfl rfl rfl ((block_set_other (by show _ ≠ _; simp)).trans (set13 hR.out rfl)) rfl (block_cell (block_set ((other13 (by omega)).trans hK.out) 0 _) 0), ?_⟩
    exact dec_bad hD.out (by omega) rfl ((below13 (Nat.le_refl _) hbb.out).setCell (by simp) _)
  have k0 : (((rd (tv 2 (l, 0)) (rd 2 (l, 0))).2 : Int) != 0) = false := by simpa using hE4
  have hD : Hid (decE l = if readE (bodyL l) then 0 else 2) := hid (by unfold decE; rw [if_neg (by simp [hE4])])
  clear hE4
  go_wp2_with fail
  refine (read_any _ _ _ hv3 (by have := rawL_le (tv 2 (l, 0)) (rd 2 (l, 0)).1 (rd 2 (l, 0)).2; omega)).mono ?_
  rintro e w5 ⟨he, hb5⟩
  have hR5 := (hb5.block w.heap.size (by omega)).trans hR.out
  have hK5 := (hb5.block (w.heap.size + 1) (by omega)).trans hK.out
  have hbb5 := hid (sn hbb.out hb5)
  have hz5 : w.heap.size + 1 < w5.heap.size := Nat.lt_of_lt_of_le hz1 hb5.size
  have hz6 : w.heap.size < w5.heap.size := by omega
  obtain ⟨hc5, hf5⟩ := bcell hb5
  replace hR5 := hid hR5
  replace hK5 := hid hK5
  by_cases hrE : readE (bodyL l) = true
  · have hD0 : Hid (decE l = 0) := hid (by rw [hD.out, if_pos hrE])
    have he2 := hid he
    rw [show readE (rawL (tv 2 (l, 0)) (rd 2 (l, 0)).1 (rd 2 (l, 0)).2) = true from hrE, if_pos rfl] at he
    clear he2 hrE
    subst he
    have hSS : Hid (readS (rawL (tv 2 (l, 0)) (rd 2 (l, 0)).1 (rd 2 (l, 0)).2) = readS (bodyL l)) := hid rfl
    rw [hSS.out]
    have hlen : Hid ((rawL (tv 2 (l, 0)) (rd 2 (l, 0)).1 (rd 2 (l, 0)).2).length = (bodyL l).length) := hid rfl
    obtain ⟨a3, c3, rfl, hc3, hc3', _⟩ := hv3.form
    rw [hlen.out] at hc3 ⊢
    have hdg := @dec_good l hD0.out
    replace hdg : Hid (∀ {w w' : World} {v : Value}, v = .tuple #[.agg (readS (bodyL l)).cells, .int .i64 (2 + ((bodyL l).length : Int)), .int .i64 0] → Below w.heap.size w w' → DecPost w l (.returned v) w') := hid hdg
    have hBL : (bodyL l).length ≤ 1000000000 := by have := rawL_le (tv 2 (l, 0)) (rd 2 (l, 0)).1 (rd 2 (l, 0)).2; unfold bodyL; omega
    generalize readS (bodyL l) = S at *
    rw [cells_eq S]
    unfold maxLen at hc3'
    go_wp2_with fail
    refine leaves_cons (f := 163) (args := #[.pointer (some ⟨w.heap.size + 1, 0, none⟩)]) (by simp) (by simp [go_sem]) ?_
    refine (ecaught_idle (w.heap.size + 1) _).mono ?_
    rintro en u' w'' ⟨rfl, rfl, rfl⟩
    simp only [settle]
    have hsz : ∀ (W : World) (o : Obj) (b : Nat) (x : Obj), W.heap[b]? = some x → (W.alloc o).heap[b]? = some x := fun W o b x h => (heap_alloc_old W o (lt_of_block h)).trans h
    refine ⟨_, dec_results rfl rfl rfl (hsz _ _ _ _ ((block_set_other (by show _ ≠ _; simp)).trans (set13 hR5.out rfl))) rfl (block_cell (hsz _ _ _ _ (block_set ((other13 (by omega)).trans hK5.out) 0 _)) 0), ?_⟩
    refine hdg.out rfl ?_
    exact ((below13 (Nat.le_refl _) hbb5.out).setCell (by simp) _).alloc (by simp [World.setCell]; omega) _
  · have hD0 : Hid (decE l = 2) := hid (by rw [hD.out, if_neg hrE])
    rw [show readE (rawL (tv 2 (l, 0)) (rd 2 (l, 0)).1 (rd 2 (l, 0)).2) = false from Bool.eq_false_iff.2 hrE] at he
    clear hrE
    simp only [Bool.false_eq_true, if_false] at he
    subst he
    go_wp2_with fail
    refine leaves_cons (f := 163) (args := #[.pointer (some ⟨w.heap.size + 1, 0, none⟩)]) (by simp) (by simp [go_sem]) ?_
    refine (ecaught_panicking (w.heap.size + 1) 0 2 _ hK5.out).mono ?_
    rintro en u' w'' ⟨rfl, rfl, rfl⟩
    simp only [settle, errChainR]
    refine ⟨_, dec_results rfl rfl rfl ((block_set_other (by show _ ≠ _; simp)).trans hR5.out) rfl (block_cell (block_set hK5.out 0 _) 0), ?_⟩
    exact dec_bad hD0.out (by omega) rfl (hbb5.out.setCell (by simp) _)
end
end Go.Proofs.YtcbglcebdkpcfaaGreat

namespace Go.Proofs.YtcbglcebdkpcfaaGreat
section
open Go.RowKit
set_option maxRecDepth 100000

theorem leN_num (v : Nat) : ∀ n, leN (numBytes v n) = v % 256 ^ n
  | 0 => by simp [numBytes, leN, Nat.mod_one]
  | n + 1 => by
    simp only [numBytes]
    rw [leN_snoc, leN_num v n, numBytes_length, Nat.pow_succ, Nat.mod_mul]
    have : (numAt v n).toNat = v / 256 ^ n % 256 := by
      unfold numAt
      rw [UInt8.toNat_ofNat', Nat.pow_mul]
    rw [this, Nat.mul_comm]

theorem tv_num {v n : Nat} (r : List UInt8) (h : v < 256 ^ n) : tv n (numBytes v n ++ r, 0) = v := by
  show takeV n _ 0 = v
  unfold takeV
  rw [if_neg (by simp), if_neg (by simp [numBytes_length]), List.take_append_of_le_length (by simp [numBytes_length]), List.take_of_length_le (by simp [numBytes_length]), leN_num, Nat.mod_eq_of_lt h]
theorem rd_num {v n : Nat} (r : List UInt8) : rd n (numBytes v n ++ r, 0) = (r, 0) := by
  unfold rd restL restE
  simp only
  rw [if_neg (by simp), if_neg (by simp [numBytes_length]), if_neg (by simp), if_neg (by simp [numBytes_length]), List.drop_append_of_le_length (by simp [numBytes_length]), List.drop_of_length_le (by simp [numBytes_length]), List.nil_append]
theorem raw_pre (x r : List UInt8) : rawL x.length (x ++ r) 0 = x ∧ rd x.length (x ++ r, 0) = (r, 0) := by
  have h : ¬ (x ++ r).length < x.length := by simp
  unfold rawL rd restL restE
  simp only
  rw [if_neg (by simp), if_neg h, if_neg (by simp), if_neg h, if_neg (by simp), if_neg h]
  simp

theorem text_pre {t : ByteArray} (r : List UInt8) (h : mayN t = 0) : ts (putText t ++ r, 0) = t ∧ te (putText t ++ r, 0) = 0 ∧ tr (putText t ++ r, 0) = (r, 0) := by
  have hs := mayN_zero_size h
  have e : putText t ++ r = numBytes t.size 2 ++ (t.data.toList ++ r) := by unfold putText; rw [List.append_assoc]
  have e1 : takeV 2 (putText t ++ r) 0 = t.size := by rw [e]; exact tv_num _ (by omega)
  have e2 : rd 2 (putText t ++ r, 0) = (t.data.toList ++ r, 0) := by rw [e]; exact rd_num _
  have e3 : restL 2 (putText t ++ r) 0 = t.data.toList ++ r := congrArg Prod.fst e2
  have e4 : restE 2 (putText t ++ r) 0 = 0 := congrArg Prod.snd e2
  have hl : t.data.toList.length = t.size := by simp
  have e5 : rawL t.size (t.data.toList ++ r) 0 = t.data.toList := by have := (raw_pre t.data.toList r).1; rwa [hl] at this
  have e6 : rd t.size (t.data.toList ++ r, 0) = (r, 0) := by have := (raw_pre t.data.toList r).2; rwa [hl] at this
  have e7 : restE t.size (t.data.toList ++ r) 0 = 0 := congrArg Prod.snd e6
  have hE : te (putText t ++ r, 0) = 0 := by
    show tkErr _ 0 = 0
    unfold tkErr
    rw [e1, e3, e4, e5, e7, if_neg (by simp), strL_self]; exact h
  refine ⟨?_, hE, ?_⟩
  · show tkStr _ 0 = t
    unfold tkStr
    rw [if_neg (by show ¬ (te (putText t ++ r, 0) ≠ 0); rw [hE]; simp), e1, e3, e4, e5, strL_self]
  · show (tkL _ 0, tkE _ 0) = _
    unfold tkL tkE
    rw [e1, e3, e4]
    exact e6

theorem qr_pre (q v p : Nat) (r : List UInt8) : qr (qidBytes q v p ++ r, 0) = (r, 0) := by
  unfold qr qidBytes
  rw [List.append_assoc, List.append_assoc, rd_num, rd_num, rd_num]
theorem qv_pre (q v p : Nat) (r : List UInt8) (h1 : q < 256) (h2 : v < 4294967296) (h3 : p < 18446744073709551616) :
    qvT (qidBytes q v p ++ r, 0) = q ∧ qvV (qidBytes q v p ++ r, 0) = v ∧ qvP (qidBytes q v p ++ r, 0) = p := by
  unfold qvT qvV qvP
  rw [qr_pre, if_neg (by simp), if_neg (by simp), if_neg (by simp)]
  unfold qidBytes
  rw [List.append_assoc, List.append_assoc, rd_num, rd_num]
  exact ⟨tv_num _ (by omega), tv_num _ (by omega), tv_num _ (by omega)⟩

theorem texts_ok {s : Stat} (h : s.err = 0) : mayN s.name = 0 ∧ mayN s.uid = 0 ∧ mayN s.gid = 0 ∧ mayN s.muid = 0 := by
  unfold Stat.err Stat.texts textsErr textsErr textsErr textsErr textsErr at h
  by_cases h1 : mayN s.name = 0
  · rw [if_pos h1] at h
    by_cases h2 : mayN s.uid = 0
    · rw [if_pos h2] at h
      by_cases h3 : mayN s.gid = 0
      · rw [if_pos h3] at h
        by_cases h4 : mayN s.muid = 0
        · exact ⟨h1, h2, h3, h4⟩
        · rw [if_neg h4] at h; exact absurd h h4
      · rw [if_neg h3] at h; exact absurd h h3
    · rw [if_neg h2] at h; exact absurd h h2
  · rw [if_neg h1] at h; exact absurd h h1

def Stat.rest (s : Stat) : List UInt8 := s.head ++ textsBytes s.texts
theorem rest_eq (s : Stat) : s.rest = numBytes s.kind 2 ++ (numBytes s.dev 4 ++ (qidBytes s.qt s.qv s.qp ++ (numBytes s.mode 4 ++ (numBytes s.atm 4 ++ (numBytes s.mtm 4 ++ (numBytes s.len 8 ++ (putText s.name ++ (putText s.uid ++ (putText s.gid ++ (putText s.muid ++ [])))))))))) := by
  unfold Stat.rest Stat.head Stat.texts textsBytes textsBytes textsBytes textsBytes textsBytes
  simp [List.append_assoc]
theorem rest_len (s : Stat) : s.rest.length = s.size - 2 := by
  rw [rest_eq]; simp [numBytes_length, qidBytes_length, putText_length]; unfold Stat.size; omega

theorem read_rest {s : Stat} (hok : StatOk s) (he : s.err = 0) : readS s.rest = s ∧ readE s.rest = true := by
  obtain ⟨o1, o2, o3, o4, o5, o6, o7, o8, o9, _, _, _, _⟩ := hok
  obtain ⟨t1, t2, t3, t4⟩ := texts_ok he
  have E := rest_eq s
  generalize hA : putText s.name ++ (putText s.uid ++ (putText s.gid ++ (putText s.muid ++ []))) = A at E
  have e2 : r2 s.rest = (qidBytes s.qt s.qv s.qp ++ (numBytes s.mode 4 ++ (numBytes s.atm 4 ++ (numBytes s.mtm 4 ++ (numBytes s.len 8 ++ A)))), 0) := by
    unfold r2; rw [E, rd_num, rd_num]
  have e5 : r5 s.rest = (numBytes s.mode 4 ++ (numBytes s.atm 4 ++ (numBytes s.mtm 4 ++ (numBytes s.len 8 ++ A))), 0) := by unfold r5; rw [e2, qr_pre]
  have e8 : r8 s.rest = (numBytes s.len 8 ++ A, 0) := by unfold r8; rw [e5, rd_num, rd_num, rd_num]
  have e9 : r9 s.rest = (A, 0) := by unfold r9; rw [e8, rd_num]
  obtain ⟨q1, q2, q3⟩ := qv_pre s.qt s.qv s.qp (numBytes s.mode 4 ++ (numBytes s.atm 4 ++ (numBytes s.mtm 4 ++ (numBytes s.len 8 ++ A)))) o3 o4 o5
  obtain ⟨a1, a2, a3⟩ := text_pre (putText s.uid ++ (putText s.gid ++ (putText s.muid ++ []))) t1
  obtain ⟨b1, b2, b3⟩ := text_pre (putText s.gid ++ (putText s.muid ++ [])) t2
  obtain ⟨c1, c2, c3⟩ := text_pre (putText s.muid ++ []) t3
  obtain ⟨d1, d2, d3⟩ := text_pre [] t4
  have k1 : tv 2 (s.rest, 0) = s.kind := by rw [E]; exact tv_num _ (by omega)
  have k2 : tv 4 (rd 2 (s.rest, 0)) = s.dev := by rw [E, rd_num]; exact tv_num _ (by omega)
  constructor
  · unfold readS
    rw [k1, k2, e2, q1, q2, q3, e5, e8, e9, rd_num, rd_num, tv_num _ (by omega : s.mode < 256 ^ 4), tv_num _ (by omega : s.atm < 256 ^ 4), tv_num _ (by omega : s.mtm < 256 ^ 4), tv_num _ (by omega : s.len < 256 ^ 8),
      ← hA, a1, a3, b1, b3, c1, c3, d1]
  · unfold readE
    rw [e9, ← hA, a2, a3, b2, b3, c2, c3, d2, d3]
    rfl

theorem bytes_ok {s : Stat} (he : s.err = 0) : s.bytes = numBytes (s.size - 2) 2 ++ s.rest := by
  unfold Stat.bytes Stat.rest; rw [if_pos he, List.append_assoc]

theorem dec_back {s : Stat} (hok : StatOk s) (hf : Few s) (he : s.err = 0) (m : List UInt8) : decE (s.bytes ++ m) = 0 ∧ decS (s.bytes ++ m) = s ∧ decN (s.bytes ++ m) = s.bytes.length := by
  have hsz : 49 ≤ s.size ∧ s.size ≤ 849 := by obtain ⟨h1, h2, h3, h4⟩ := hf; unfold Stat.size; omega
  have E : s.bytes ++ m = numBytes (s.size - 2) 2 ++ (s.rest ++ m) := by rw [bytes_ok he, List.append_assoc]
  have h1 : tv 2 (s.bytes ++ m, 0) = s.size - 2 := by rw [E]; exact tv_num _ (by omega)
  have h2 : rd 2 (s.bytes ++ m, 0) = (s.rest ++ m, 0) := by rw [E, rd_num]
  obtain ⟨p1, p2⟩ := raw_pre s.rest m
  rw [rest_len] at p1 p2
  have h3 : bodyL (s.bytes ++ m) = s.rest := by unfold bodyL; rw [h1, h2]; exact p1
  obtain ⟨r1, r2⟩ := read_rest hok he
  have h4 : decE (s.bytes ++ m) = 0 := by unfold decE; rw [h1, h2, p2, if_neg (by simp), h3, r2]; rfl
  refine ⟨h4, ?_, ?_⟩
  · unfold decS; rw [if_pos h4, h3, r1]
  · unfold decN; rw [if_pos h4, h3, bytes_ok he, List.length_append, numBytes_length]

end
end Go.Proofs.YtcbglcebdkpcfaaGreat

namespace Go.Proofs.YtcbglcebdkpcfaaGreat
section
open Go.RowKit
set_option maxRecDepth 100000

theorem OStep.cell {b p i : Nat} {w w' : World} {u : Value} (h : OStep b w w') (hf : ¬ Foot w b p) (hc : w.cell? ⟨p, i, none⟩ = some u) : w'.cell? ⟨p, i, none⟩ = some u := by
  have hlt := World.block_lt_of_cell? w _ hc
  rw [World.cell?_of_block (w := w) ((h.block p hlt hf).1)]; exact hc

theorem fakeAny {G : Prop} (h : G) (_ : wpAny Tryz.prog .any #[] (fun _ _ _ => True) 0 #[] { tmps := #[], defers := [] } default) : G := h

theorem OutIs.foot_lt {w : World} {b k : Nat} {xs : List UInt8} (h : OutIs w b xs) (hf : Foot w b k) : k < w.heap.size := by
  obtain ⟨v, ot, hb, ho⟩ := h
  rcases hf with rfl | ⟨v', hv, hk⟩
  · exact lt_of_block hb
  · rw [block_cell hb 0] at hv
    cases hv
    exact (ho.lt k hk).2
theorem Foot.below {w w' : World} {b k : Nat} (h : Foot w' b k) (hb : b < w.heap.size) (hw : Below w.heap.size w w') : Foot w b k := by
  rcases h with h | ⟨v, hv, hk⟩
  · exact .inl h
  · exact .inr ⟨v, by rw [hw.cell (p := ⟨b, 0, none⟩) hb] at hv; exact hv, hk⟩

theorem OutIs.drew {w : World} {b : Nat} {xs : List UInt8} (h : OutIs w b xs) : OutIs w.drew b xs := h.below (Below.refl _ _).drew

set_option maxHeartbeats 800000 in
theorem out_u8_any (b p i x : Nat) (xs : List UInt8) (w : World) (hx : x < 256 ^ 1) (hl : xs.length ≤ 1000000) (ho : OutIs w b xs) (hf : ¬ Foot w b p) (hc : w.cell? ⟨p, i, none⟩ = some (.int .u8 (x : Int))) :
    Calls Tryz.prog 69 #[.pointer (some ⟨b, 0, none⟩), .pointer (some ⟨p, i, none⟩)] w fun e w' => e = .returned (.tuple #[]) ∧ OutIs w' b (xs ++ numBytes x 1) ∧ OStep b w w' := by
  have e1 : IntKind.u64.wrap (x : Int) = (x : Int) := IntWalk.u64_in _ (by omega)
  have hst : OStep b w w.drew := OStep.pure ho.lt (Below.refl _ _).drew
  have hput := fun W h => put_step b xs 1 x W (by omega) (by omega) (by omega) (by omega) h
  replace hput := hid hput
  have hoD := hid ho.drew
  have hfD := hid (show ¬ Foot w.drew b p from hf)
  have hcD : w.drew.cell? ⟨p, i, none⟩ = some (.int .u8 (x : Int)) := hc
  replace hf := hid hf
  go_enter Tryz.func69, Tryz.ntmps69
  go_wp2
  go_region_held3 (fun w' => w'.cell? ⟨p, i, none⟩ = some (.int .u8 (x : Int)))
    (first | exact k0 | go_keep)
    ((go_at_call 72; refine (hput.out _ hoD.out).mono ?_; rintro e wn ⟨rfl, hon, hsn⟩; have k0 := hsn.cell hfD.out hcD))
  go_wp2_with fail
  go_end0
  exact ⟨rfl, hon, hst.trans hsn⟩

set_option maxHeartbeats 800000 in
theorem out_u16_any (b p i x : Nat) (xs : List UInt8) (w : World) (hx : x < 256 ^ 2) (hl : xs.length ≤ 1000000) (ho : OutIs w b xs) (hf : ¬ Foot w b p) (hc : w.cell? ⟨p, i, none⟩ = some (.int .u16 (x : Int))) :
    Calls Tryz.prog 70 #[.pointer (some ⟨b, 0, none⟩), .pointer (some ⟨p, i, none⟩)] w fun e w' => e = .returned (.tuple #[]) ∧ OutIs w' b (xs ++ numBytes x 2) ∧ OStep b w w' := by
  have e1 : IntKind.u64.wrap (x : Int) = (x : Int) := IntWalk.u64_in _ (by omega)
  have hst : OStep b w w.drew := OStep.pure ho.lt (Below.refl _ _).drew
  have hput := fun W h => put_step b xs 2 x W (by omega) (by omega) (by omega) (by omega) h
  replace hput := hid hput
  have hoD := hid ho.drew
  have hfD := hid (show ¬ Foot w.drew b p from hf)
  have hcD : w.drew.cell? ⟨p, i, none⟩ = some (.int .u16 (x : Int)) := hc
  replace hf := hid hf
  go_enter Tryz.func70, Tryz.ntmps70
  go_wp2
  go_region_held3 (fun w' => w'.cell? ⟨p, i, none⟩ = some (.int .u16 (x : Int)))
    (first | exact k0 | go_keep)
    ((go_at_call 72; refine (hput.out _ hoD.out).mono ?_; rintro e wn ⟨rfl, hon, hsn⟩; have k0 := hsn.cell hfD.out hcD))
  go_wp2_with fail
  go_end0
  exact ⟨rfl, hon, hst.trans hsn⟩

set_option maxHeartbeats 800000 in
theorem out_u32_any (b p i x : Nat) (xs : List UInt8) (w : World) (hx : x < 256 ^ 4) (hl : xs.length ≤ 1000000) (ho : OutIs w b xs) (hf : ¬ Foot w b p) (hc : w.cell? ⟨p, i, none⟩ = some (.int .u32 (x : Int))) :
    Calls Tryz.prog 127 #[.pointer (some ⟨b, 0, none⟩), .pointer (some ⟨p, i, none⟩)] w fun e w' => e = .returned (.tuple #[]) ∧ OutIs w' b (xs ++ numBytes x 4) ∧ OStep b w w' := by
  have e1 : IntKind.u64.wrap (x : Int) = (x : Int) := IntWalk.u64_in _ (by omega)
  have hst : OStep b w w.drew := OStep.pure ho.lt (Below.refl _ _).drew
  have hput := fun W h => put_step b xs 4 x W (by omega) (by omega) (by omega) (by omega) h
  replace hput := hid hput
  have hoD := hid ho.drew
  have hfD := hid (show ¬ Foot w.drew b p from hf)
  have hcD : w.drew.cell? ⟨p, i, none⟩ = some (.int .u32 (x : Int)) := hc
  replace hf := hid hf
  go_enter Tryz.func127, Tryz.ntmps127
  go_wp2
  go_region_held3 (fun w' => w'.cell? ⟨p, i, none⟩ = some (.int .u32 (x : Int)))
    (first | exact k0 | go_keep)
    ((go_at_call 72; refine (hput.out _ hoD.out).mono ?_; rintro e wn ⟨rfl, hon, hsn⟩; have k0 := hsn.cell hfD.out hcD))
  go_wp2_with fail
  go_end0
  exact ⟨rfl, hon, hst.trans hsn⟩

set_option maxHeartbeats 800000 in
theorem out_u64_any (b p i x : Nat) (xs : List UInt8) (w : World) (hx : x < 256 ^ 8) (hl : xs.length ≤ 1000000) (ho : OutIs w b xs) (hf : ¬ Foot w b p) (hc : w.cell? ⟨p, i, none⟩ = some (.int .u64 (x : Int))) :
    Calls Tryz.prog 128 #[.pointer (some ⟨b, 0, none⟩), .pointer (some ⟨p, i, none⟩)] w fun e w' => e = .returned (.tuple #[]) ∧ OutIs w' b (xs ++ numBytes x 8) ∧ OStep b w w' := by
  have hst : OStep b w w.drew := OStep.pure ho.lt (Below.refl _ _).drew
  have hput := fun W h => put_step b xs 8 x W (by omega) (by omega) (by omega) (by omega) h
  replace hput := hid hput
  have hoD := hid ho.drew
  have hfD := hid (show ¬ Foot w.drew b p from hf)
  have hcD : w.drew.cell? ⟨p, i, none⟩ = some (.int .u64 (x : Int)) := hc
  replace hf := hid hf
  go_enter Tryz.func128, Tryz.ntmps128
  go_wp2
  go_region_held3 (fun w' => w'.cell? ⟨p, i, none⟩ = some (.int .u64 (x : Int)))
    (first | exact k0 | go_keep)
    ((go_at_call 72; refine (hput.out _ hoD.out).mono ?_; rintro e wn ⟨rfl, hon, hsn⟩; have k0 := hsn.cell hfD.out hcD))
  go_wp2_with fail
  go_end0
  exact ⟨rfl, hon, hst.trans hsn⟩

theorem mmust_ok (w : World) : Calls Tryz.prog 90 #[.int .i64 0] w fun e w' => e = .returned (.tuple #[]) ∧ w = w' := by
  go_enter Tryz.func90, Tryz.ntmps90
  go_wp2_with fail
  go_end0
  exact ⟨rfl, rfl⟩
theorem mmust_bad (e : Nat) (he : e ≠ 0) (w : World) : Calls Tryz.prog 90 #[.int .i64 (e : Int)] w fun en w' => en = .panicked (errChain e) ∧ w = w' := by
  have k0 : ((e : Int) != 0) = true := by simpa using he
  clear he
  go_enter Tryz.func90, Tryz.ntmps90
  go_wp2_with fail
  exact ⟨rfl, rfl, rfl⟩

set_option maxHeartbeats 800000 in
theorem out_text_ok (b p i : Nat) (s : ByteArray) (xs : List UInt8) (w : World) (hs : s.size ≤ 1000000) (hl : xs.length ≤ 1000000) (hm : mayN s = 0) (ho : OutIs w b xs) (hf : ¬ Foot w b p) (hc : w.cell? ⟨p, i, none⟩ = some (.string s)) :
    Calls Tryz.prog 125 #[.pointer (some ⟨b, 0, none⟩), .pointer (some ⟨p, i, none⟩)] w fun e w' => e = .returned (.tuple #[]) ∧ OutIs w' b (xs ++ putText s) ∧ OStep b w w' := by
  have hst : OStep b w w.drew := OStep.pure ho.lt (Below.refl _ _).drew
  have hput := fun W h => text_put_step b xs s W hs hl h
  rw [hm, putTextR_ok hm] at hput
  replace hput := hid hput
  have hoD := hid ho.drew
  have hfD := hid (show ¬ Foot w.drew b p from hf)
  have hcD : w.drew.cell? ⟨p, i, none⟩ = some (.string s) := hc
  replace hf := hid hf
  clear hm
  go_enter Tryz.func125, Tryz.ntmps125
  go_wp2
  go_region_held3 (fun w' => w'.cell? ⟨p, i, none⟩ = some (.string s))
    (first | exact k0 | go_keep)
    (first
      | (go_at_call 131; refine (hput.out _ hoD.out).mono ?_; rintro e wn ⟨rfl, hon, hsn⟩; have k0 := hsn.cell hfD.out hcD)
      | (go_at_call 90; (with_reducible refine (mmust_ok _).mono ?_); rintro e wm ⟨rfl, rfl⟩))
  go_wp2_with fail
  go_end0
  exact ⟨rfl, hon, hst.trans hsn⟩

set_option maxHeartbeats 800000 in
theorem out_text_bad (b p i : Nat) (s : ByteArray) (xs : List UInt8) (w : World) (hs : s.size ≤ 1000000) (hl : xs.length ≤ 1000000) (hm : mayN s ≠ 0) (ho : OutIs w b xs) (hf : ¬ Foot w b p) (hc : w.cell? ⟨p, i, none⟩ = some (.string s)) :
    Calls Tryz.prog 125 #[.pointer (some ⟨b, 0, none⟩), .pointer (some ⟨p, i, none⟩)] w fun e w' => e = .panicked (errChain (mayN s)) ∧ OStep b w w' := by
  have hst : OStep b w w.drew := OStep.pure ho.lt (Below.refl _ _).drew
  have hput := fun W h => text_put_step b xs s W hs hl h
  replace hput := hid hput
  have hmb := hid (fun W => mmust_bad (mayN s) hm W)
  have hoD := hid ho.drew
  have hfD := hid (show ¬ Foot w.drew b p from hf)
  have hcD : w.drew.cell? ⟨p, i, none⟩ = some (.string s) := hc
  replace hf := hid hf
  clear hm
  go_enter Tryz.func125, Tryz.ntmps125
  go_wp2
  go_region_with (first
      | (go_at_call 131; refine (hput.out _ hoD.out).mono ?_; rintro e wn ⟨rfl, hon, hsn⟩)
      | (go_at_call 90; (with_reducible refine (hmb.out _).mono ?_); rintro e wm ⟨rfl, rfl⟩; refine fakeAny ⟨rfl, rfl, hst.trans hsn⟩ ?_))
  all_goals trivial

set_option maxHeartbeats 800000 in
theorem out_qid_any (b p i q v r : Nat) (xs : List UInt8) (w : World) (hq : q < 256) (hv : v < 4294967296) (hr : r < 18446744073709551616) (hl : xs.length ≤ 1000000) (ho : OutIs w b xs) (hf : ¬ Foot w b p)
    (hc : w.cell? ⟨p, i, none⟩ = some (.int .u8 (q : Int)) ∧ w.cell? ⟨p, i + 1, none⟩ = some (.int .u32 (v : Int)) ∧ w.cell? ⟨p, i + 2, none⟩ = some (.int .u64 (r : Int))) :
    Calls Tryz.prog 122 #[.pointer (some ⟨b, 0, none⟩), .pointer (some ⟨p, i, none⟩)] w fun e w' => e = .returned (.tuple #[]) ∧ OutIs w' b (xs ++ qidBytes q v r) ∧ OStep b w w' := by
  have hst : OStep b w w.drew := OStep.pure ho.lt (Below.refl _ _).drew
  have hput := hid (fun W h => qid_put_any b xs q v r W hq hv hr hl h)
  have hoD := hid ho.drew
  have hfD := hid (show ¬ Foot w.drew b p from hf)
  have hcD : w.drew.cell? ⟨p, i, none⟩ = some (.int .u8 (q : Int)) ∧ w.drew.cell? ⟨p, i + 1, none⟩ = some (.int .u32 (v : Int)) ∧ w.drew.cell? ⟨p, i + 2, none⟩ = some (.int .u64 (r : Int)) := hc
  obtain ⟨h0, h1, h2⟩ := hc
  replace hcD := hid hcD
  replace hf := hid hf
  go_enter Tryz.func122, Tryz.ntmps122
  go_wp2
  go_region_held3 (fun w' => w'.cell? ⟨p, i, none⟩ = some (.int .u8 (q : Int)) ∧ w'.cell? ⟨p, i + 1, none⟩ = some (.int .u32 (v : Int)) ∧ w'.cell? ⟨p, i + 2, none⟩ = some (.int .u64 (r : Int)))
    (first | exact k0 | go_keep)
    ((go_at_call 129; refine (hput.out _ hoD.out).mono ?_; rintro e wn ⟨rfl, hon, hsn⟩; have k0 : wn.cell? ⟨p, i, none⟩ = some (.int .u8 (q : Int)) ∧ wn.cell? ⟨p, i + 1, none⟩ = some (.int .u32 (v : Int)) ∧ wn.cell? ⟨p, i + 2, none⟩ = some (.int .u64 (r : Int)) := ⟨hsn.cell hfD.out hcD.out.1, hsn.cell hfD.out hcD.out.2.1, hsn.cell hfD.out hcD.out.2.2⟩))
  go_wp2_with fail
  go_end0
  exact ⟨rfl, hon, hst.trans hsn⟩

set_option maxHeartbeats 400000 in
theorem out_many_ok (b n : Nat) (xs : List UInt8) (w : World) (hn : n ≤ 16) (hl : xs.length ≤ 1000000) (ho : OutIs w b xs) :
    Calls Tryz.prog 121 #[.pointer (some ⟨b, 0, none⟩), .int .i64 (n : Int)] w fun e w' => e = .returned (.tuple #[]) ∧ OutIs w' b (xs ++ numBytes n 2) ∧ OStep b w w' := by
  go_enter Tryz.func121, Tryz.ntmps121
  go_wp2_with fail
  refine (put_step b xs 2 n _ (by omega) (by omega) (by omega) (by omega) ho).mono ?_
  rintro e w1 ⟨rfl, ho1, hs1⟩
  go_wp2_with fail
  go_end0
  exact ⟨rfl, ho1, hs1⟩
theorem out_many_bad (b n : Nat) (w : World) (hn : 16 < n) : Calls Tryz.prog 121 #[.pointer (some ⟨b, 0, none⟩), .int .i64 (n : Int)] w fun e w' => e = .panicked (errChain 3) ∧ w = w' := by
  go_enter Tryz.func121, Tryz.ntmps121
  go_wp2_with fail
  exact ⟨rfl, rfl, rfl⟩

theorem out_data_bad (b p i : Nat) (v : Value) (l : List UInt8) (w : World) (hl : 8192 < l.length) (hv : BytesAt w v l) (hc : w.cell? ⟨p, i, none⟩ = some v) :
    Calls Tryz.prog 120 #[.pointer (some ⟨b, 0, none⟩), .pointer (some ⟨p, i, none⟩)] w fun e w' => e = .panicked (errChain 3) ∧ w = w' := by
  obtain ⟨a, c, rfl, _, _, _⟩ := hv.form
  go_enter Tryz.func120, Tryz.ntmps120
  go_wp2_with fail
  exact ⟨rfl, rfl, rfl⟩

set_option maxHeartbeats 800000 in
theorem out_data_ok (b p i : Nat) (v : Value) (l xs : List UInt8) (w : World) (hl : l.length ≤ 8192) (hx : xs.length ≤ 1000000) (hv : BytesAt w v l) (hc : w.cell? ⟨p, i, none⟩ = some v) (ho : OutIs w b xs) (hf : ¬ Foot w b p) (hfv : ∀ k, v.ownBlock = some k → ¬ Foot w b k) :
    Calls Tryz.prog 120 #[.pointer (some ⟨b, 0, none⟩), .pointer (some ⟨p, i, none⟩)] w fun e w' => e = .returned (.tuple #[]) ∧ OutIs w' b (xs ++ (numBytes l.length 4 ++ l)) ∧ OStep b w w' := by
  obtain ⟨a, c, rfl, g1, g2, _⟩ := hv.form
  have hst : OStep b w w.drew := OStep.pure ho.lt (Below.refl _ _).drew
  have hput := hid (fun W h => put_step b xs 4 l.length W (by omega) (by omega) (by omega) (by omega) h)
  have hoD := hid ho.drew
  have hfD := hid (show ¬ Foot w.drew b p from hf)
  have hcD : w.drew.cell? ⟨p, i, none⟩ = some (.slice a l.length c) := hc
  replace hf := hid hf
  replace hfv := hid hfv
  have e1 : IntKind.u64.wrap (l.length : Int) = (l.length : Int) := IntWalk.u64_in _ (by omega)
  have hvD := hid (show BytesAt w.drew (.slice a l.length c) l from hv)
  go_enter Tryz.func120, Tryz.ntmps120
  go_wp2
  go_region_held3 (fun w' => w'.cell? ⟨p, i, none⟩ = some (.slice a l.length c))
    (first | exact k0 | go_keep)
    ((go_at_call 72; refine (hput.out _ hoD.out).mono ?_; rintro e wn ⟨rfl, hon, hsn⟩; have k0 := hsn.cell hfD.out hcD))
  have hv2 : BytesAt wn (.slice a l.length c) l := RowAt.other hvD.out hsn.below.size fun j hj => (hsn.block j (BytesAt.lt hvD.out hj) (hfv.out j hj)).1
  have hfn := (hsn.block p (World.block_lt_of_cell? w.drew _ hcD) hfD.out).2
  have hoN := hid hon.drew
  have hfN := hid (show ¬ Foot wn.drew b p from hfn)
  have hst2 : OStep b wn wn.drew := OStep.pure hon.lt (Below.refl _ _).drew
  have hraw := hid (fun W (h : OutIs W b (xs ++ numBytes l.length 4)) (hB : BytesAt W (.slice a l.length c) l) => raw_step b (xs ++ numBytes l.length 4) l (.slice a l.length c) W hB (by rw [List.length_append, numBytes_length]; omega) h)
  have hvN := hid (show BytesAt wn.drew (.slice a l.length c) l from hv2)
  have hcN : wn.drew.cell? ⟨p, i, none⟩ = some (.slice a l.length c) := k0
  clear hcD hfn
  go_wp2_with fail
  go_region_held3 (fun w' => w'.cell? ⟨p, i, none⟩ = some (.slice a l.length c))
    (first | exact k1 | go_keep)
    ((go_at_call 73; refine (hraw.out _ hoN.out hvN.out).mono ?_; rintro e wm ⟨rfl, hom, hsm⟩; have k1 := hsm.cell hfN.out hcN))
  go_wp2_with fail
  go_end0
  exact ⟨rfl, by rw [← List.append_assoc]; exact hom, ((hst.trans hsn).trans hst2).trans hsm⟩

theorem StatCells.step {b p i : Nat} {w w' : World} {s : Stat} (h : OStep b w w') (hf : ¬ Foot w b p) (hc : StatCells w p i s) : StatCells w' p i s :=
  ⟨h.cell hf hc.1, h.cell hf hc.2.1, h.cell hf hc.2.2.1, h.cell hf hc.2.2.2.1, h.cell hf hc.2.2.2.2.1, h.cell hf hc.2.2.2.2.2.1, h.cell hf hc.2.2.2.2.2.2.1, h.cell hf hc.2.2.2.2.2.2.2.1, h.cell hf hc.2.2.2.2.2.2.2.2.1, h.cell hf hc.2.2.2.2.2.2.2.2.2.1, h.cell hf hc.2.2.2.2.2.2.2.2.2.2.1, h.cell hf hc.2.2.2.2.2.2.2.2.2.2.2.1, h.cell hf hc.2.2.2.2.2.2.2.2.2.2.2.2⟩

set_option maxHeartbeats 800000 in
theorem out_stat_ok (b p i : Nat) (s : Stat) (xs : List UInt8) (w : World) (hok : StatOk s) (hfw : Few s) (he : s.err = 0) (hl : xs.length ≤ 1000000) (ho : OutIs w b xs) (hc : StatCells w p i s) :
    Calls Tryz.prog 124 #[.pointer (some ⟨b, 0, none⟩), .pointer (some ⟨p, i, none⟩)] w fun e w' => e = .returned (.tuple #[]) ∧ OutIs w' b (xs ++ (numBytes s.bytes.length 2 ++ s.bytes)) ∧ OStep b w w' := by
  obtain ⟨C0, C1, C2, C3, C4, C5, C6, C7, C8, C9, C10, C11, C12⟩ := hc
  have henc := fun W => encode_new s W hok hfw
  rw [cells_eq s] at henc
  replace henc := hid henc
  have hbl := bytes_le s hfw
  replace he := hid he
  go_enter Tryz.func124, Tryz.ntmps124
  go_wp2_with fail
  refine (henc.out _).mono ?_
  rintro e w1 ⟨v1, rfl, hv1, hb1⟩
  rw [he.out]
  obtain ⟨hv1, hnew⟩ := hv1
  have ho1 := ho.below hb1
  have st1 := OStep.pure ho.lt hb1
  obtain ⟨a1, c1, rfl, _, _, _⟩ := hv1.form
  have hnf : Hid (∀ k, (Value.slice a1 s.bytes.length c1).ownBlock = some k → ¬ Foot w1 b k) := hid (fun k hk hft => by have := hnew k hk; have := ho.foot_lt (hft.below ho.lt hb1); omega)
  clear hnew hb1 C0 C1 C2 C3 C4 C5 C6 C7 C8 C9 C10 C11 C12
  go_wp2_with fail
  refine (mmust_ok _).mono ?_
  rintro e w2 ⟨rfl, rfl⟩
  go_wp2_with fail
  refine (put_step b xs 2 s.bytes.length _ (by omega) (by omega) (by omega) (by omega) ho1).mono ?_
  rintro e w2 ⟨rfl, ho2, hs2⟩
  have hv2 : BytesAt w2 (.slice a1 s.bytes.length c1) s.bytes := RowAt.other hv1 hs2.below.size fun j hj => (hs2.block j (BytesAt.lt hv1 hj) (hnf.out j hj)).1
  go_wp2_with fail
  refine (raw_step b (xs ++ numBytes s.bytes.length 2) s.bytes _ _ hv2 (by rw [List.length_append, numBytes_length]; omega) ho2).mono ?_
  rintro e w3 ⟨rfl, ho3, hs3⟩
  go_wp2_with fail
  go_end0
  exact ⟨rfl, by rw [← List.append_assoc]; exact ho3, (st1.trans hs2).trans hs3⟩

set_option maxHeartbeats 800000 in
theorem out_stat_bad (b p i : Nat) (s : Stat) (xs : List UInt8) (w : World) (hok : StatOk s) (hfw : Few s) (he : s.err ≠ 0) (ho : OutIs w b xs) (hc : StatCells w p i s) :
    Calls Tryz.prog 124 #[.pointer (some ⟨b, 0, none⟩), .pointer (some ⟨p, i, none⟩)] w fun e w' => e = .panicked (errChain s.err) ∧ OStep b w w' := by
  obtain ⟨C0, C1, C2, C3, C4, C5, C6, C7, C8, C9, C10, C11, C12⟩ := hc
  have henc := fun W => encode_new s W hok hfw
  rw [cells_eq s] at henc
  replace henc := hid henc
  have hmb := hid (fun W => mmust_bad s.err he W)
  clear he
  go_enter Tryz.func124, Tryz.ntmps124
  go_wp2_with fail
  refine (henc.out _).mono ?_
  rintro e w1 ⟨v1, rfl, hv1, hb1⟩
  have st1 := OStep.pure ho.lt hb1
  clear hb1 C0 C1 C2 C3 C4 C5 C6 C7 C8 C9 C10 C11 C12
  go_wp2_with fail
  refine (hmb.out _).mono ?_
  rintro e w2 ⟨rfl, rfl⟩
  go_wp2_with fail
  exact ⟨rfl, rfl, st1⟩

end
end Go.Proofs.YtcbglcebdkpcfaaGreat
