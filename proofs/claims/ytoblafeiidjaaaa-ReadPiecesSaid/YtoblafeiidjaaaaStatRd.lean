/- What stat.read returns, or that it raises the error of form, for any bytes. Conditions: the length is at most a thousand million. -/
import Derived.Test.YtoblafeiidjaaaaStatQ
namespace Go.Proofs.Ytoblafeiidjaaaa
open Go.RowKit
set_option maxRecDepth 100000

/-- The state of read: the reader at block b, the record that is filled at block q. -/
structure RdAt (w w' : World) (b q : Nat) (cs : Array Value) (p : List UInt8 × Nat) : Prop where
  inn : InAt w' b p
  box : w'.heap[q]? = some (.cells cs 37 (0, 0))
  below : Below w.heap.size w w'
  nf : ¬ Foot w' b q
  ge : w.heap.size ≤ b
  geq : w.heap.size ≤ q

theorem RdAt.step {w w1 w2 : World} {b q : Nat} {cs : Array Value} {p p2 : List UInt8 × Nat} (h : RdAt w w1 b q cs p) (hi : InAt w2 b p2) (hs : OStep b w1 w2) : RdAt w w2 b q cs p2 := by
  obtain ⟨e, n⟩ := hs.block q (lt_of_block h.box) h.nf
  exact ⟨hi, e.trans h.box, h.below.trans (hs.below.mono h.ge), n, h.ge, h.geq⟩
theorem RdAt.set {w w1 : World} {b q : Nat} {cs : Array Value} {p : List UInt8 × Nat} (h : RdAt w w1 b q cs p) (i : Nat) (u : Value) : RdAt w (w1.setCell ⟨q, i, none⟩ u) b q (cs.setIfInBounds i u) p := by
  have hq : q ≠ b := fun e => h.nf (.inl e)
  exact ⟨h.inn.store (a := ⟨q, i, none⟩) u h.nf, block_set h.box i u, h.below.setCell (p := ⟨q, i, none⟩) h.geq u, Foot.store (p := ⟨q, i, none⟩) hq h.nf, h.ge, h.geq⟩

theorem RdAt.to {w w1 : World} {b q : Nat} {cs : Array Value} {p : List UInt8 × Nat} (h : RdAt w w1 b q cs p) (cs' : Array Value) (e : cs = cs') : RdAt w w1 b q cs' p := e ▸ h

def ReadPost (w : World) (l : List UInt8) (e : Ending) (w' : World) : Prop := (e = if readE l then .returned (.agg (readS l).cells) else .panicked (errChain 2)) ∧ Below w.heap.size w w'

theorem readS_cells (l : List UInt8) : (readS l).cells = #[.int .u16 (tv 2 (l, 0) : Int), .int .u32 (tv 4 (rd 2 (l, 0)) : Int), .int .u8 (qvT (r2 l) : Int), .int .u32 (qvV (r2 l) : Int), .int .u64 (qvP (r2 l) : Int), .int .u32 (tv 4 (r5 l) : Int), .int .u32 (tv 4 (rd 4 (r5 l)) : Int), .int .u32 (tv 4 (rd 4 (rd 4 (r5 l))) : Int), .int .u64 (tv 8 (r8 l) : Int), .string (ts (r9 l)), .string (ts (tr (r9 l))), .string (ts (tr (tr (r9 l)))), .string (ts (tr (tr (tr (r9 l)))))] := by
  simp only [readS, Stat.cells]

set_option maxHeartbeats 3200000 in
theorem read_any (v : Value) (l : List UInt8) (w : World) (hv : BytesAt w v l) (hl : l.length ≤ 1000000000) : Calls Try.prog 72 #[v] w (ReadPost w l) := by
  obtain ⟨a, c, rfl, _, _, _⟩ := hv.form
  have c1 : IntKind.u16.wrap (tv 2 (l, 0) : Int) = (tv 2 (l, 0) : Int) := IntWalk.u16_in _ (by have := tv_lt 2 (l, 0) (by omega); omega)
  have c2 : IntKind.u32.wrap (tv 4 (rd 2 (l, 0)) : Int) = (tv 4 (rd 2 (l, 0)) : Int) := IntWalk.u32_in _ (by have := tv_lt 4 (rd 2 (l, 0)) (by omega); omega)
  have c3 : IntKind.u32.wrap (tv 4 (r5 l) : Int) = (tv 4 (r5 l) : Int) := IntWalk.u32_in _ (by have := tv_lt 4 (r5 l) (by omega); omega)
  have c4 : IntKind.u32.wrap (tv 4 (rd 4 (r5 l)) : Int) = (tv 4 (rd 4 (r5 l)) : Int) := IntWalk.u32_in _ (by have := tv_lt 4 (rd 4 (r5 l)) (by omega); omega)
  have c5 : IntKind.u32.wrap (tv 4 (rd 4 (rd 4 (r5 l))) : Int) = (tv 4 (rd 4 (rd 4 (r5 l))) : Int) := IntWalk.u32_in _ (by have := tv_lt 4 (rd 4 (rd 4 (r5 l))) (by omega); omega)
  have hb0 := (Below.refl w.heap.size w).alloc (Nat.le_refl _) (.cells #[.int .u16 0, .int .u32 0, .int .u8 0, .int .u32 0, .int .u64 0, .int .u32 0, .int .u32 0, .int .u32 0, .int .u64 0, .string ⟨#[]⟩, .string ⟨#[]⟩, .string ⟨#[]⟩, .string ⟨#[]⟩] 37)
  have hv0 := hv.below hb0
  have l2 := rd_le 2 (l, 0)
  have l3 := rd_le 4 (rd 2 (l, 0))
  go_enter Try.func72, Try.ntmps72
  go_wp2_with fail
  refine (in_of_any _ l _ hv0 (by omega)).mono ?_
  rintro e w1 ⟨b, rfl, hge, hi1, hb1⟩
  have ha1 : InAt w1 b (l, 0) := hi1
  go_wp2_with fail
  refine (take_at b 2 (l, 0) _ (by omega) (by omega) (by omega) ha1).mono ?_
  rintro e w2 ⟨rfl, ha2, hs2⟩
  go_wp2_with fail
  refine (take_at b 4 (rd 2 (l, 0)) _ (by omega) (by omega) (by omega) ha2).mono ?_
  rintro e w3 ⟨rfl, ha3, hs3⟩
  go_wp2_with fail
  refine (qid_take_any b (r2 l) _ (by unfold r2; omega) ha3).mono ?_
  rintro e w4 ⟨rfl, ha4, hs4⟩
  have hz : Hid (qidAgg (r2 l) = .agg #[.int .u8 (qvT (r2 l) : Int), .int .u32 (qvV (r2 l) : Int), .int .u64 (qvP (r2 l) : Int)]) := hid rfl
  rw [hz.out]
  have l5 : (r5 l).1.length ≤ l.length := Nat.le_trans (qr_le _) (Nat.le_trans (rd_le _ _) (rd_le _ _))
  have l6 := rd_le 4 (r5 l)
  have l7 := rd_le 4 (rd 4 (r5 l))
  have l8 : (r8 l).1.length ≤ l.length := Nat.le_trans (rd_le _ _) (by omega)
  have l9 : (r9 l).1.length ≤ l.length := Nat.le_trans (rd_le _ _) (by omega)
  have la := tr_le (r9 l)
  have lb := tr_le (tr (r9 l))
  have lc := tr_le (tr (tr (r9 l)))
  have ld := tr_le (tr (tr (tr (r9 l))))
  have f4 := (hb1.trans ((hs2.trans (hs3.trans hs4)).below.mono hge))
  have hb5 := (Below.refl w4.heap.size w4).alloc (Nat.le_refl _) (.cells #[.int .u16 (tv 2 (l, 0) : Int), .int .u32 (tv 4 (rd 2 (l, 0)) : Int), .int .u8 (qvT (r2 l) : Int), .int .u32 (qvV (r2 l) : Int), .int .u64 (qvP (r2 l) : Int), .int .u32 0, .int .u32 0, .int .u32 0, .int .u64 0, .string ⟨#[]⟩, .string ⟨#[]⟩, .string ⟨#[]⟩, .string ⟨#[]⟩] 37)
  have hge5 : (w.alloc (.cells #[.int .u16 0, .int .u32 0, .int .u8 0, .int .u32 0, .int .u64 0, .int .u32 0, .int .u32 0, .int .u32 0, .int .u64 0, .string ⟨#[]⟩, .string ⟨#[]⟩, .string ⟨#[]⟩, .string ⟨#[]⟩] 37)).heap.size ≤ w4.heap.size := f4.size
  have st5 : RdAt (w.alloc (.cells #[.int .u16 0, .int .u32 0, .int .u8 0, .int .u32 0, .int .u64 0, .int .u32 0, .int .u32 0, .int .u32 0, .int .u64 0, .string ⟨#[]⟩, .string ⟨#[]⟩, .string ⟨#[]⟩, .string ⟨#[]⟩] 37)) (w4.alloc (.cells #[.int .u16 (tv 2 (l, 0) : Int), .int .u32 (tv 4 (rd 2 (l, 0)) : Int), .int .u8 (qvT (r2 l) : Int), .int .u32 (qvV (r2 l) : Int), .int .u64 (qvP (r2 l) : Int), .int .u32 0, .int .u32 0, .int .u32 0, .int .u64 0, .string ⟨#[]⟩, .string ⟨#[]⟩, .string ⟨#[]⟩, .string ⟨#[]⟩] 37)) b w4.heap.size #[.int .u16 (tv 2 (l, 0) : Int), .int .u32 (tv 4 (rd 2 (l, 0)) : Int), .int .u8 (qvT (r2 l) : Int), .int .u32 (qvV (r2 l) : Int), .int .u64 (qvP (r2 l) : Int), .int .u32 0, .int .u32 0, .int .u32 0, .int .u64 0, .string ⟨#[]⟩, .string ⟨#[]⟩, .string ⟨#[]⟩, .string ⟨#[]⟩] (r5 l) :=
    ⟨ha4.below hb5, heap_alloc_new _ _, f4.trans (hb5.mono hge5), ha4.new _, hge, hge5⟩
  clear hs2 hs3 hs4 hi1 hb1 ha1 ha2 ha3 ha4 f4 hb5 hv hv0
  go_wp2_with fail
  refine (take_at b 4 (r5 l) _ (by omega) (by omega) (by omega) st5.inn).mono ?_
  rintro e w5 ⟨rfl, ha6, hs6⟩
  have st6 := st5.step ha6 hs6
  clear ha6 hs6 st5
  go_wp2_with fail
  refine (take_at b 4 (rd 4 (r5 l)) _ (by omega) (by omega) (by omega) st6.inn).mono ?_
  rintro e w6 ⟨rfl, ha6, hs6⟩
  have st7 := st6.step ha6 hs6
  clear ha6 hs6 st6
  go_wp2_with fail
  refine (take_at b 4 (rd 4 (rd 4 (r5 l))) _ (by omega) (by omega) (by omega) st7.inn).mono ?_
  rintro e w7 ⟨rfl, ha6, hs6⟩
  have st8 := st7.step ha6 hs6
  clear ha6 hs6 st7
  have q5 : w7.cell? ⟨w4.heap.size, 0 + 5, none⟩ = some (.int .u32 0) := block_cell st8.box 5
  have q6 : w7.cell? ⟨w4.heap.size, 0 + 6, none⟩ = some (.int .u32 0) := block_cell st8.box 6
  have q7 : w7.cell? ⟨w4.heap.size, 0 + 7, none⟩ = some (.int .u32 0) := block_cell st8.box 7
  have f5 : w7.frozen? ⟨w4.heap.size, 0 + 5, none⟩ = false := block_free st8.box 5
  have f6 : w7.frozen? ⟨w4.heap.size, 0 + 6, none⟩ = false := block_free st8.box 6
  have f7 : w7.frozen? ⟨w4.heap.size, 0 + 7, none⟩ = false := block_free st8.box 7
  have st9 := RdAt.to (((st8.set 5 (.int .u32 (tv 4 (r5 l) : Int))).set 6 (.int .u32 (tv 4 (rd 4 (r5 l)) : Int))).set 7 (.int .u32 (tv 4 (rd 4 (rd 4 (r5 l))) : Int))) #[.int .u16 (tv 2 (l, 0) : Int), .int .u32 (tv 4 (rd 2 (l, 0)) : Int), .int .u8 (qvT (r2 l) : Int), .int .u32 (qvV (r2 l) : Int), .int .u64 (qvP (r2 l) : Int), .int .u32 (tv 4 (r5 l) : Int), .int .u32 (tv 4 (rd 4 (r5 l)) : Int), .int .u32 (tv 4 (rd 4 (rd 4 (r5 l))) : Int), .int .u64 0, .string ⟨#[]⟩, .string ⟨#[]⟩, .string ⟨#[]⟩, .string ⟨#[]⟩] (by rfl)
  clear st8
  go_wp2_with fail
  refine (take_at b 8 (r8 l) _ (by omega) (by omega) (by omega) st9.inn).mono ?_
  rintro e w8 ⟨rfl, ha6, hs6⟩
  have st10 := st9.step ha6 hs6
  clear ha6 hs6 st9 q5 q6 q7 f5 f6 f7
  have q8 : w8.cell? ⟨w4.heap.size, 0 + 8, none⟩ = some (.int .u64 0) := block_cell st10.box 8
  have f8 : w8.frozen? ⟨w4.heap.size, 0 + 8, none⟩ = false := block_free st10.box 8
  have st11 := RdAt.to (st10.set 8 (.int .u64 (tv 8 (r8 l) : Int))) #[.int .u16 (tv 2 (l, 0) : Int), .int .u32 (tv 4 (rd 2 (l, 0)) : Int), .int .u8 (qvT (r2 l) : Int), .int .u32 (qvV (r2 l) : Int), .int .u64 (qvP (r2 l) : Int), .int .u32 (tv 4 (r5 l) : Int), .int .u32 (tv 4 (rd 4 (r5 l)) : Int), .int .u32 (tv 4 (rd 4 (rd 4 (r5 l))) : Int), .int .u64 (tv 8 (r8 l) : Int), .string ⟨#[]⟩, .string ⟨#[]⟩, .string ⟨#[]⟩, .string ⟨#[]⟩] (by rfl)
  clear st10
  by_cases t0 : te (r9 l) = 0
  case neg =>
    have hE : Hid (readE l = false) := hid (by unfold readE; simp [t0])
    go_wp2_with fail
    refine (must_bad b (r9 l) _ (by omega) st11.inn t0).mono ?_
    rintro e w9 ⟨rfl, hs6⟩
    go_wp2_with fail
    exact ⟨rfl, by rw [hE.out]; rfl, (hb0.trans ((st11.below).trans (hs6.below.mono st11.ge) |>.mono (by simp)))⟩
  replace t0 := hid t0
  go_wp2_with fail
  refine (must_ok b (r9 l) _ (by omega) st11.inn t0.out).mono ?_
  rintro e x0 ⟨rfl, ha6, hs6⟩
  have sm0 := st11.step ha6 hs6
  clear ha6 hs6 st11 q8 f8
  by_cases t1 : te (tr (r9 l)) = 0
  case neg =>
    have hE : Hid (readE l = false) := hid (by unfold readE; simp [t0.out, t1])
    go_wp2_with fail
    refine (must_bad b (tr (r9 l)) _ (by omega) sm0.inn t1).mono ?_
    rintro e w9 ⟨rfl, hs6⟩
    go_wp2_with fail
    exact ⟨rfl, by rw [hE.out]; rfl, (hb0.trans ((sm0.below).trans (hs6.below.mono sm0.ge) |>.mono (by simp)))⟩
  replace t1 := hid t1
  go_wp2_with fail
  refine (must_ok b (tr (r9 l)) _ (by omega) sm0.inn t1.out).mono ?_
  rintro e x1 ⟨rfl, ha6, hs6⟩
  have sm1 := sm0.step ha6 hs6
  clear ha6 hs6 sm0
  by_cases t2 : te (tr (tr (r9 l))) = 0
  case neg =>
    have hE : Hid (readE l = false) := hid (by unfold readE; simp [t0.out, t1.out, t2])
    go_wp2_with fail
    refine (must_bad b (tr (tr (r9 l))) _ (by omega) sm1.inn t2).mono ?_
    rintro e w9 ⟨rfl, hs6⟩
    go_wp2_with fail
    exact ⟨rfl, by rw [hE.out]; rfl, (hb0.trans ((sm1.below).trans (hs6.below.mono sm1.ge) |>.mono (by simp)))⟩
  replace t2 := hid t2
  go_wp2_with fail
  refine (must_ok b (tr (tr (r9 l))) _ (by omega) sm1.inn t2.out).mono ?_
  rintro e x2 ⟨rfl, ha6, hs6⟩
  have sm2 := sm1.step ha6 hs6
  clear ha6 hs6 sm1
  by_cases t3 : te (tr (tr (tr (r9 l)))) = 0
  case neg =>
    have hE : Hid (readE l = false) := hid (by unfold readE; simp [t0.out, t1.out, t2.out, t3])
    go_wp2_with fail
    refine (must_bad b (tr (tr (tr (r9 l)))) _ (by omega) sm2.inn t3).mono ?_
    rintro e w9 ⟨rfl, hs6⟩
    go_wp2_with fail
    exact ⟨rfl, by rw [hE.out]; rfl, (hb0.trans ((sm2.below).trans (hs6.below.mono sm2.ge) |>.mono (by simp)))⟩
  replace t3 := hid t3
  go_wp2_with fail
  refine (must_ok b (tr (tr (tr (r9 l)))) _ (by omega) sm2.inn t3.out).mono ?_
  rintro e x3 ⟨rfl, ha6, hs6⟩
  have sm3 := sm2.step ha6 hs6
  clear ha6 hs6 sm2
  have q9 : x3.cell? ⟨w4.heap.size, 0 + 9, none⟩ = some (.string ⟨#[]⟩) := block_cell sm3.box 9
  have q10 : x3.cell? ⟨w4.heap.size, 0 + 10, none⟩ = some (.string ⟨#[]⟩) := block_cell sm3.box 10
  have q11 : x3.cell? ⟨w4.heap.size, 0 + 11, none⟩ = some (.string ⟨#[]⟩) := block_cell sm3.box 11
  have q12 : x3.cell? ⟨w4.heap.size, 0 + 12, none⟩ = some (.string ⟨#[]⟩) := block_cell sm3.box 12
  have f9 : x3.frozen? ⟨w4.heap.size, 0 + 9, none⟩ = false := block_free sm3.box 9
  have f10 : x3.frozen? ⟨w4.heap.size, 0 + 10, none⟩ = false := block_free sm3.box 10
  have f11 : x3.frozen? ⟨w4.heap.size, 0 + 11, none⟩ = false := block_free sm3.box 11
  have f12 : x3.frozen? ⟨w4.heap.size, 0 + 12, none⟩ = false := block_free sm3.box 12
  have st12 := RdAt.to ((((sm3.set 9 (.string (ts (r9 l)))).set 10 (.string (ts (tr (r9 l))))).set 11 (.string (ts (tr (tr (r9 l)))))).set 12 (.string (ts (tr (tr (tr (r9 l))))))) #[.int .u16 (tv 2 (l, 0) : Int), .int .u32 (tv 4 (rd 2 (l, 0)) : Int), .int .u8 (qvT (r2 l) : Int), .int .u32 (qvV (r2 l) : Int), .int .u64 (qvP (r2 l) : Int), .int .u32 (tv 4 (r5 l) : Int), .int .u32 (tv 4 (rd 4 (r5 l)) : Int), .int .u32 (tv 4 (rd 4 (rd 4 (r5 l))) : Int), .int .u64 (tv 8 (r8 l) : Int), .string (ts (r9 l)), .string (ts (tr (r9 l))), .string (ts (tr (tr (r9 l)))), .string (ts (tr (tr (tr (r9 l)))))] (by rfl)
  clear sm3
  go_wp2_with fail
  refine (left_at b _ _ st12.inn).mono ?_
  rintro e y ⟨rfl, hy⟩
  rw [hy] at st12
  clear hy q9 q10 q11 q12 f9 f10 f11 f12
  have g0 : y.cell? ⟨w4.heap.size, 0, none⟩ = some (.int .u16 (tv 2 (l, 0) : Int)) := block_cell st12.box 0
  have g1 : y.cell? ⟨w4.heap.size, 0 + 1, none⟩ = some (.int .u32 (tv 4 (rd 2 (l, 0)) : Int)) := block_cell st12.box 1
  have g2 : y.cell? ⟨w4.heap.size, 0 + 2, none⟩ = some (.int .u8 (qvT (r2 l) : Int)) := block_cell st12.box 2
  have g3 : y.cell? ⟨w4.heap.size, 0 + 2 + 1, none⟩ = some (.int .u32 (qvV (r2 l) : Int)) := block_cell st12.box 3
  have g4 : y.cell? ⟨w4.heap.size, 0 + 2 + 2, none⟩ = some (.int .u64 (qvP (r2 l) : Int)) := block_cell st12.box 4
  have g5 : y.cell? ⟨w4.heap.size, 0 + 5, none⟩ = some (.int .u32 (tv 4 (r5 l) : Int)) := block_cell st12.box 5
  have g6 : y.cell? ⟨w4.heap.size, 0 + 6, none⟩ = some (.int .u32 (tv 4 (rd 4 (r5 l)) : Int)) := block_cell st12.box 6
  have g7 : y.cell? ⟨w4.heap.size, 0 + 7, none⟩ = some (.int .u32 (tv 4 (rd 4 (rd 4 (r5 l))) : Int)) := block_cell st12.box 7
  have g8 : y.cell? ⟨w4.heap.size, 0 + 8, none⟩ = some (.int .u64 (tv 8 (r8 l) : Int)) := block_cell st12.box 8
  have g9 : y.cell? ⟨w4.heap.size, 0 + 9, none⟩ = some (.string (ts (r9 l))) := block_cell st12.box 9
  have g10 : y.cell? ⟨w4.heap.size, 0 + 10, none⟩ = some (.string (ts (tr (r9 l)))) := block_cell st12.box 10
  have g11 : y.cell? ⟨w4.heap.size, 0 + 11, none⟩ = some (.string (ts (tr (tr (r9 l))))) := block_cell st12.box 11
  have g12 : y.cell? ⟨w4.heap.size, 0 + 12, none⟩ = some (.string (ts (tr (tr (tr (r9 l)))))) := block_cell st12.box 12
  have hR := st12.below.block w.heap.size (by simp)
  rw [heap_alloc_new] at hR
  have hS := st12.below.size
  have hb13 := st12.below
  have hbb := hid (hb0.trans (hb13.mono (by simp)))
  replace hR := hid hR
  obtain ⟨hcR, hfR⟩ := bcell st12.below
  clear st12 hb13
  by_cases hl0 : lt (tr (tr (tr (tr (r9 l))))) = 0
  case neg =>
    have hE : Hid (readE l = false) := hid (by unfold readE; simp [t0.out, t1.out, t2.out, t3.out, hl0])
    have hl1 : 0 < lt (tr (tr (tr (tr (r9 l))))) := by omega
    go_wp2_with fail
    exact ⟨rfl, by rw [hE.out]; rfl, hbb.out⟩
  have hE : Hid (readE l = true) := hid (by unfold readE; simp [t0.out, t1.out, t2.out, t3.out, hl0])
  go_wp2_with fail
  refine bodyPost_ret (results_cell_row rfl _ _ w.heap.size _ _ _ _ rfl (set13 hR.out rfl) Try.underlying37 rfl (by kernel_rfl)) rfl ?_
  refine ⟨?_, below13 (Nat.le_refl _) hbb.out⟩
  rw [hE.out, if_pos rfl, readS_cells]
end Go.Proofs.Ytoblafeiidjaaaa
