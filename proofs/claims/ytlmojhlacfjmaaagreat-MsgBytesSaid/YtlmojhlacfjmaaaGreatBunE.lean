/- How bytes are read as a record, as plain functions; what qid.Take, stat.must and stat.read do, under bounds on lengths that each theorem names. No further condition. And the texts behind it. -/
import Derived.Test.YtlmojhlacfjmaaaGreatBunC
import Derived.Test.YtlmojhlacfjmaaaGreatBunD
namespace Go.Proofs.YtlmojhlacfjmaaaGreat
section
open Go.RowKit
set_option maxRecDepth 100000

def tv (n : Nat) (p : List UInt8 × Nat) : Nat := takeV n p.1 p.2
def rd (n : Nat) (p : List UInt8 × Nat) : List UInt8 × Nat := (restL n p.1 p.2, restE n p.1 p.2)
def ts (p : List UInt8 × Nat) : ByteArray := tkStr p.1 p.2
def te (p : List UInt8 × Nat) : Nat := tkErr p.1 p.2
def tr (p : List UInt8 × Nat) : List UInt8 × Nat := (tkL p.1 p.2, tkE p.1 p.2)
def lt (p : List UInt8 × Nat) : Nat := leftN p.1 p.2

def qr (p : List UInt8 × Nat) : List UInt8 × Nat := rd 8 (rd 4 (rd 1 p))
def qvT (p : List UInt8 × Nat) : Nat := if (qr p).2 ≠ 0 then 0 else tv 1 p
def qvV (p : List UInt8 × Nat) : Nat := if (qr p).2 ≠ 0 then 0 else tv 4 (rd 1 p)
def qvP (p : List UInt8 × Nat) : Nat := if (qr p).2 ≠ 0 then 0 else tv 8 (rd 4 (rd 1 p))

def r2 (x : List UInt8) : List UInt8 × Nat := rd 4 (rd 2 (x, 0))
def r5 (x : List UInt8) : List UInt8 × Nat := qr (r2 x)
def r8 (x : List UInt8) : List UInt8 × Nat := rd 4 (rd 4 (rd 4 (r5 x)))
def r9 (x : List UInt8) : List UInt8 × Nat := rd 8 (r8 x)
def readS (x : List UInt8) : Stat :=
 ⟨tv 2 (x, 0), tv 4 (rd 2 (x, 0)), qvT (r2 x), qvV (r2 x), qvP (r2 x), tv 4 (r5 x), tv 4 (rd 4 (r5 x)), tv 4 (rd 4 (rd 4 (r5 x))), tv 8 (r8 x), ts (r9 x), ts (tr (r9 x)), ts (tr (tr (r9 x))), ts (tr (tr (tr (r9 x))))⟩
def readE (x : List UInt8) : Bool := te (r9 x) == 0 && te (tr (r9 x)) == 0 && te (tr (tr (r9 x))) == 0 && te (tr (tr (tr (r9 x)))) == 0 && lt (tr (tr (tr (tr (r9 x))))) == 0

def InAt (w : World) (b : Nat) (p : List UInt8 × Nat) : Prop := InIs w b p.1 p.2
theorem InAt.below {w w' : World} {b : Nat} {p : List UInt8 × Nat} (h : InAt w b p) (hb : Below w.heap.size w w') : InAt w' b p := InIs.below h hb
theorem InAt.lt {w : World} {b : Nat} {p : List UInt8 × Nat} (h : InAt w b p) : b < w.heap.size := InIs.lt h
theorem InAt.new {w : World} {b : Nat} {p : List UInt8 × Nat} (h : InAt w b p) (o : Obj) : ¬ Foot (w.alloc o) b w.heap.size := InIs.new h o
theorem InAt.store {w : World} {b : Nat} {p : List UInt8 × Nat} (h : InAt w b p) {a : Addr} (u : Value) (hf : ¬ Foot w b a.block) : InAt (w.setCell a u) b p := InIs.store h u hf
theorem InAt.store3 {w : World} {b q : Nat} {p : List UInt8 × Nat} (h : InAt w b p) (hf : ¬ Foot w b q) (i0 i1 i2 : Nat) (u0 u1 u2 : Value) :
  InAt (((w.setCell ⟨q, i0, none⟩ u0).setCell ⟨q, i1, none⟩ u1).setCell ⟨q, i2, none⟩ u2) b p := by
 have hq : q ≠ b := fun e => hf (.inl e)
 exact ((h.store (a := ⟨q, i0, none⟩) u0 hf).store (a := ⟨q, i1, none⟩) u1 (Foot.store hq hf)).store (a := ⟨q, i2, none⟩) u2 (Foot.store hq (Foot.store hq hf))
theorem OStep.store3 {b q : Nat} {w w1 : World} (h : OStep b w w1) (hp : w.heap.size ≤ q) (hf : ¬ Foot w1 b q) (hb : b < w.heap.size) (i0 i1 i2 : Nat) (u0 u1 u2 : Value) :
  OStep b w (((w1.setCell ⟨q, i0, none⟩ u0).setCell ⟨q, i1, none⟩ u1).setCell ⟨q, i2, none⟩ u2) := by
 have hq : q ≠ b := fun e => hf (.inl e)
 exact ((h.store (p := ⟨q, i0, none⟩) hp hf hb u0).store (p := ⟨q, i1, none⟩) hp (Foot.store hq hf) hb u1).store (p := ⟨q, i2, none⟩) hp (Foot.store hq (Foot.store hq hf)) hb u2
theorem rd_le (n : Nat) (p : List UInt8 × Nat) : (rd n p).1.length ≤ p.1.length := restL_le _ _ _
theorem tr_le (p : List UInt8 × Nat) : (tr p).1.length ≤ p.1.length := Nat.le_trans (restL_le _ _ _) (restL_le _ _ _)
theorem qr_le (p : List UInt8 × Nat) : (qr p).1.length ≤ p.1.length := Nat.le_trans (rd_le _ _) (Nat.le_trans (rd_le _ _) (rd_le _ _))
theorem tv_lt (n : Nat) (p : List UInt8 × Nat) (hn : n ≤ 8) : tv n p < 256 ^ n := takeV_lt n p.1 p.2 hn

theorem take_at (b n : Nat) (p : List UInt8 × Nat) (w : World) (hn1 : 1 ≤ n) (hn8 : n ≤ 8) (hl : p.1.length ≤ 1000000000) (h : InAt w b p) :
  Calls Tryz.prog 67 #[.pointer (some ⟨b, 0, none⟩), .int .i64 (n : Int)] w fun e w' => e = .returned (.int .u64 (tv n p : Int)) ∧ InAt w' b (rd n p) ∧ OStep b w w' :=
 in_take_step b n p.1 p.2 w hn1 hn8 (by omega) h
theorem err_at (b : Nat) (p : List UInt8 × Nat) (w : World) (h : InAt w b p) :
  Calls Tryz.prog 69 #[.pointer (some ⟨b, 0, none⟩)] w fun e w' => e = .returned (.int .i64 (p.2 : Int)) ∧ w = w' := in_err_any b p.1 p.2 w h
theorem left_at (b : Nat) (p : List UInt8 × Nat) (w : World) (h : InAt w b p) :
  Calls Tryz.prog 60 #[.pointer (some ⟨b, 0, none⟩)] w fun e w' => e = .returned (.int .i64 (lt p : Int)) ∧ w = w' := in_left_any b p.1 p.2 w h
end
end Go.Proofs.YtlmojhlacfjmaaaGreat

namespace Go.Proofs.YtlmojhlacfjmaaaGreat
section
open Go.RowKit
set_option maxRecDepth 100000

def qidAgg (p : List UInt8 × Nat) : Value := .agg #[.int .u8 (qvT p : Int), .int .u32 (qvV p : Int), .int .u64 (qvP p : Int)]

set_option maxHeartbeats 800000 in
theorem qid_take_any (b : Nat) (p : List UInt8 × Nat) (w : World) (hl : p.1.length ≤ 1000000000) (h : InAt w b p) :
  Calls Tryz.prog 136 #[.pointer (some ⟨b, 0, none⟩)] w fun e w' => e = .returned (qidAgg p) ∧ InAt w' b (qr p) ∧ OStep b w w' := by
 have hlt := h.lt
 have h1 := tv_lt 1 p (by omega)
 have h2 := tv_lt 4 (rd 1 p) (by omega)
 have c1 : IntKind.u8.wrap (tv 1 p : Int) = (tv 1 p : Int) := IntWalk.u8_in _ (by omega)
 have c2 : IntKind.u32.wrap (tv 4 (rd 1 p) : Int) = (tv 4 (rd 1 p) : Int) := IntWalk.u32_in _ (by omega)
 have hb0 := (Below.refl w.heap.size w).alloc (Nat.le_refl _) (.cells #[.int .u8 0, .int .u32 0, .int .u64 0] 28)
 have ha := h.below hb0
 have hnf := hid (h.new (.cells #[.int .u8 0, .int .u32 0, .int .u64 0] 28))
 go_enter Tryz.func136, Tryz.ntmps136
 go_wp2_with fail
 have st0 := OStep.pure hlt hb0
 have hc0 := heap_alloc_new w (.cells #[.int .u8 0, .int .u32 0, .int .u64 0] 28)
 replace hc0 := hid hc0
 refine (take_at b 1 p _ (by omega) (by omega) hl ha).mono ?_
 rintro e w1 ⟨rfl, ha1, hb1⟩
 go_wp2_with fail
 refine (take_at b 4 (rd 1 p) _ (by omega) (by omega) (Nat.le_trans (rd_le _ _) hl) ha1).mono ?_
 rintro e w2 ⟨rfl, ha2, hb2⟩
 go_wp2_with fail
 refine (take_at b 8 (rd 4 (rd 1 p)) _ (by omega) (by omega) (Nat.le_trans (rd_le _ _) (Nat.le_trans (rd_le _ _) hl)) ha2).mono ?_
 rintro e w3 ⟨rfl, ha3, hb3⟩
 have st3 := ((hb1.trans hb2).trans hb3)
 obtain ⟨e3, n3⟩ := st3.block w.heap.size (by simp) hnf.out
 have hc3 := e3.trans hc0.out
 clear e3
 have fst := st0.trans st3
 have hlt3 := ha3.lt
 clear hb1 hb2 hb3 st3 st0
 have hlc := lt_of_block hc3
 have hb4 := (Below.refl w3.heap.size w3).alloc (Nat.le_refl _) (.cells #[.int .u8 (tv 1 p : Int), .int .u32 (tv 4 (rd 1 p) : Int), .int .u64 (tv 8 (rd 4 (rd 1 p)) : Int)] 28)
 have ha4 := ha3.below hb4
 have fst4 := fst.trans (OStep.pure hlt3 hb4)
 have n4 := hid ((OStep.pure hlt3 hb4).block w.heap.size hlc n3).2
 clear n3
 have hc4 := (hb4.block w.heap.size hlc).trans hc3
 replace hc4 := hid hc4
 replace hc3 := hid hc3
 go_wp2_with fail
 refine (err_at b _ _ ha4).mono ?_
 rintro e w5 ⟨rfl, rfl⟩
 have hne : w.heap.size ≠ w3.heap.size := by omega
 have hn3 := heap_alloc_new w3 (.cells #[.int .u8 (tv 1 p : Int), .int .u32 (tv 4 (rd 1 p) : Int), .int .u64 (tv 8 (rd 4 (rd 1 p)) : Int)] 28)
 generalize (w3.alloc (.cells #[.int .u8 (tv 1 p : Int), .int .u32 (tv 4 (rd 1 p) : Int), .int .u64 (tv 8 (rd 4 (rd 1 p)) : Int)] 28)) = w4 at *
 have f0 : w4.frozen? ⟨w.heap.size, 0, none⟩ = false := block_free hc4.out 0
 have f1 : w4.frozen? ⟨w.heap.size, 0 + 1, none⟩ = false := block_free hc4.out 1
 have f2 : w4.frozen? ⟨w.heap.size, 0 + 2, none⟩ = false := block_free hc4.out 2
 have q0 : w4.cell? ⟨w.heap.size, 0, none⟩ = some (.int .u8 0) := block_cell hc4.out 0
 have q1 : w4.cell? ⟨w.heap.size, 0 + 1, none⟩ = some (.int .u32 0) := block_cell hc4.out 1
 have q2 : w4.cell? ⟨w.heap.size, 0 + 2, none⟩ = some (.int .u64 0) := block_cell hc4.out 2
 have g0 : w4.cell? ⟨w3.heap.size, 0, none⟩ = some (.int .u8 (tv 1 p : Int)) := block_cell hn3 0
 have g1 : w4.cell? ⟨w3.heap.size, 0 + 1, none⟩ = some (.int .u32 (tv 4 (rd 1 p) : Int)) := block_cell hn3 1
 have g2 : w4.cell? ⟨w3.heap.size, 0 + 2, none⟩ = some (.int .u64 (tv 8 (rd 4 (rd 1 p)) : Int)) := block_cell hn3 2
 replace hn3 := hid hn3
 have hq := hid (show (qr p).2 = (rd 8 (rd 4 (rd 1 p))).2 from rfl)
 by_cases he : (rd 8 (rd 4 (rd 1 p))).2 = 0
 ·have k0 : (((rd 8 (rd 4 (rd 1 p))).2 : Int) != 0) = false := by simpa using he
  have hA := hid (show qidAgg p = .agg #[.int .u8 (tv 1 p : Int), .int .u32 (tv 4 (rd 1 p) : Int), .int .u64 (tv 8 (rd 4 (rd 1 p)) : Int)] by unfold qidAgg qvT qvV qvP; rw [hq.out, if_neg (by simp [he]), if_neg (by simp [he]), if_neg (by simp [he])])
  have hfin := block_set (block_set (block_set hc4.out 0 (.int .u8 (tv 1 p : Int))) 1 (.int .u32 (tv 4 (rd 1 p) : Int))) 2 (.int .u64 (tv 8 (rd 4 (rd 1 p)) : Int))
  have hafin := ha4.store3 n4.out 0 1 2 (.int .u8 (tv 1 p : Int)) (.int .u32 (tv 4 (rd 1 p) : Int)) (.int .u64 (tv 8 (rd 4 (rd 1 p)) : Int))
  have hsfin := fst4.store3 (Nat.le_refl _) n4.out hlt 0 1 2 (.int .u8 (tv 1 p : Int)) (.int .u32 (tv 4 (rd 1 p) : Int)) (.int .u64 (tv 8 (rd 4 (rd 1 p)) : Int))
  replace hfin := hid hfin
  go_wp2_with fail
  refine bodyPost_ret (results_cell_row rfl _ _ w.heap.size _ _ _ _ rfl hfin.out Tryz.underlying28 rfl (by kernel_rfl)) rfl ?_
  exact ⟨by rw [hA.out]; rfl, hafin, hsfin⟩
 ·have k0 : (((rd 8 (rd 4 (rd 1 p))).2 : Int) != 0) = true := by simpa using he
  go_wp2_with fail
  have hA := hid (show qidAgg p = .agg #[.int .u8 0, .int .u32 0, .int .u64 0] by unfold qidAgg qvT qvV qvP; rw [hq.out, if_pos he, if_pos he, if_pos he]; rfl)
  refine bodyPost_ret (results_cell_row rfl _ _ w.heap.size _ _ _ _ rfl (set3 hc4.out rfl) Tryz.underlying28 rfl (by kernel_rfl)) rfl ?_
  exact ⟨by rw [hA.out], in3 n4.out ha4, step3 hlt (Nat.le_refl _) n4.out fst4⟩

theorem must_ok (b : Nat) (p : List UInt8 × Nat) (w : World) (hl : p.1.length ≤ 1000000000) (h : InAt w b p) (he : te p = 0) :
  Calls Tryz.prog 144 #[.pointer (some ⟨b, 0, none⟩)] w fun e w' => e = .returned (.string (ts p)) ∧ InAt w' b (tr p) ∧ OStep b w w' := by
 have k0 : ((tkErr p.1 p.2 : Int) != 0) = false := by simpa [te] using he
 clear he
 go_enter Tryz.func144, Tryz.ntmps144
 go_wp2_with fail
 refine (text_take_step b p.1 p.2 w hl h).mono ?_
 rintro e w1 ⟨rfl, h1, hb1⟩
 go_wp2_with fail
 go_ret
 exact ⟨rfl, h1, hb1⟩
theorem must_bad (b : Nat) (p : List UInt8 × Nat) (w : World) (hl : p.1.length ≤ 1000000000) (h : InAt w b p) (he : te p ≠ 0) :
  Calls Tryz.prog 144 #[.pointer (some ⟨b, 0, none⟩)] w fun e w' => e = .panicked (errChain 2) ∧ OStep b w w' := by
 have k0 : ((tkErr p.1 p.2 : Int) != 0) = true := by simpa [te] using he
 clear he
 go_enter Tryz.func144, Tryz.ntmps144
 go_wp2_with fail
 refine (text_take_step b p.1 p.2 w hl h).mono ?_
 rintro e w1 ⟨rfl, h1, hb1⟩
 go_wp2_with fail
 exact ⟨rfl, rfl, hb1⟩
end
end Go.Proofs.YtlmojhlacfjmaaaGreat

namespace Go.Proofs.YtlmojhlacfjmaaaGreat
section
open Go.RowKit
set_option maxRecDepth 100000

structure RdAt (w w' : World) (b q : Nat) (cs : Array Value) (p : List UInt8 × Nat) : Prop where
 inn : InAt w' b p
 box : w'.heap[q]? = some (.cells cs 31 (0, 0))
 below : Below w.heap.size w w'
 nf : ¬ Foot w' b q
 ge : w.heap.size ≤ b
 geq : w.heap.size ≤ q

theorem RdAt.step {w w1 w2 : World} {b q : Nat} {cs : Array Value} {p p2 : List UInt8 × Nat} (h : RdAt w w1 b q cs p) (hi : InAt w2 b p2) (hs : OStep b w1 w2) : RdAt w w2 b q cs p2 := by
 obtain ⟨e, n⟩ := hs.block q (lt_of_block h.box) h.nf
 exact ⟨hi, e.trans h.box, h.below.trans (hs.below.mono h.ge), n, h.ge, h.geq⟩
theorem RdAt.set {w w1 : World} {b q : Nat} {cs : Array Value} {p : List UInt8 × Nat} (h : RdAt w w1 b q cs p) (i : Nat) (u : Value) : RdAt w (w1.setCell ⟨q, i, none⟩ u) b q (cs.setIfInBounds i u) p := by
 have hq : q ≠ b := fun e => h.nf (.inl e)
 exact ⟨h.inn.store (a := ⟨q, i, none⟩) u h.nf, block_set h.box i u, h.below.setCell (p := ⟨q, i, none⟩) h.geq u, Foot.store (p := ⟨q, i, none⟩) hq h.nf, h.ge, h.geq⟩

theorem RdAt.to {w w1 : World} {b q : Nat} {cs : Array Value} {p : List UInt8 × Nat} (h : RdAt w w1 b q cs p) (cs' : Array Value) (e : cs = cs') : RdAt w w1 b q cs' p := e ▸ h

def ReadPost (w : World) (l : List UInt8) (e : Ending) (w' : World) : Prop := (e = if readE l then .returned (.agg (readS l).cells) else .panicked (errChain 2)) ∧ Below w.heap.size w w'

theorem readS_cells (l : List UInt8) : (readS l).cells = #[.int .u16 (tv 2 (l, 0) : Int), .int .u32 (tv 4 (rd 2 (l, 0)) : Int), .int .u8 (qvT (r2 l) : Int), .int .u32 (qvV (r2 l) : Int), .int .u64 (qvP (r2 l) : Int), .int .u32 (tv 4 (r5 l) : Int), .int .u32 (tv 4 (rd 4 (r5 l)) : Int), .int .u32 (tv 4 (rd 4 (rd 4 (r5 l))) : Int), .int .u64 (tv 8 (r8 l) : Int), .string (ts (r9 l)), .string (ts (tr (r9 l))), .string (ts (tr (tr (r9 l)))), .string (ts (tr (tr (tr (r9 l)))))] := by
 simp only [readS, Stat.cells]

set_option maxHeartbeats 3200000 in
theorem read_any (v : Value) (l : List UInt8) (w : World) (hv : BytesAt w v l) (hl : l.length ≤ 1000000000) : Calls Tryz.prog 143 #[v] w (ReadPost w l) := by
 obtain ⟨a, c, rfl, _, _, _⟩ := hv.form
 have c1 : IntKind.u16.wrap (tv 2 (l, 0) : Int) = (tv 2 (l, 0) : Int) := IntWalk.u16_in _ (by have := tv_lt 2 (l, 0) (by omega); omega)
 have c2 : IntKind.u32.wrap (tv 4 (rd 2 (l, 0)) : Int) = (tv 4 (rd 2 (l, 0)) : Int) := IntWalk.u32_in _ (by have := tv_lt 4 (rd 2 (l, 0)) (by omega); omega)
 have c3 : IntKind.u32.wrap (tv 4 (r5 l) : Int) = (tv 4 (r5 l) : Int) := IntWalk.u32_in _ (by have := tv_lt 4 (r5 l) (by omega); omega)
 have c4 : IntKind.u32.wrap (tv 4 (rd 4 (r5 l)) : Int) = (tv 4 (rd 4 (r5 l)) : Int) := IntWalk.u32_in _ (by have := tv_lt 4 (rd 4 (r5 l)) (by omega); omega)
 have c5 : IntKind.u32.wrap (tv 4 (rd 4 (rd 4 (r5 l))) : Int) = (tv 4 (rd 4 (rd 4 (r5 l))) : Int) := IntWalk.u32_in _ (by have := tv_lt 4 (rd 4 (rd 4 (r5 l))) (by omega); omega)
 have hb0 := (Below.refl w.heap.size w).alloc (Nat.le_refl _) (.cells #[.int .u16 0, .int .u32 0, .int .u8 0, .int .u32 0, .int .u64 0, .int .u32 0, .int .u32 0, .int .u32 0, .int .u64 0, .string ⟨#[]⟩, .string ⟨#[]⟩, .string ⟨#[]⟩, .string ⟨#[]⟩] 31)
 have hv0 := hv.below hb0
 have l2 := rd_le 2 (l, 0)
 have l3 := rd_le 4 (rd 2 (l, 0))
 go_enter Tryz.func143, Tryz.ntmps143
 go_wp2_with fail
 refine (in_of_any _ l _ hv0 (by omega)).mono ?_
 rintro e w1 ⟨b, rfl, hge, hi1, hb1⟩
 have ha1 : InAt w1 b (l, 0) := hi1
 go_wp2_with fail
 refine (take_at b 2 (l, 0) _ (by omega) (by omega) (by omega) ha1).mono ?_
 rintro e w2 ⟨rfl, ha2, hs2⟩
 go_wp2_with fail
 refine (take_at b 4 (rd 2 (l, 0)) _ (by omega) (by omega) (by omega) ha2).mono ?_
 rintro e w3 ⟨rfl, ha3, hs3⟩
 go_wp2_with fail
 refine (qid_take_any b (r2 l) _ (by unfold r2; omega) ha3).mono ?_
 rintro e w4 ⟨rfl, ha4, hs4⟩
 have hz : Hid (qidAgg (r2 l) = .agg #[.int .u8 (qvT (r2 l) : Int), .int .u32 (qvV (r2 l) : Int), .int .u64 (qvP (r2 l) : Int)]) := hid rfl
 rw [hz.out]
 have l5 : (r5 l).1.length ≤ l.length := Nat.le_trans (qr_le _) (Nat.le_trans (rd_le _ _) (rd_le _ _))
 have l6 := rd_le 4 (r5 l)
 have l7 := rd_le 4 (rd 4 (r5 l))
 have l8 : (r8 l).1.length ≤ l.length := Nat.le_trans (rd_le _ _) (by omega)
 have l9 : (r9 l).1.length ≤ l.length := Nat.le_trans (rd_le _ _) (by omega)
 have la := tr_le (r9 l)
 have lb := tr_le (tr (r9 l))
 have lc := tr_le (tr (tr (r9 l)))
 have ld := tr_le (tr (tr (tr (r9 l))))
 have f4 := (hb1.trans ((hs2.trans (hs3.trans hs4)).below.mono hge))
 have hb5 := (Below.refl w4.heap.size w4).alloc (Nat.le_refl _) (.cells #[.int .u16 (tv 2 (l, 0) : Int), .int .u32 (tv 4 (rd 2 (l, 0)) : Int), .int .u8 (qvT (r2 l) : Int), .int .u32 (qvV (r2 l) : Int), .int .u64 (qvP (r2 l) : Int), .int .u32 0, .int .u32 0, .int .u32 0, .int .u64 0, .string ⟨#[]⟩, .string ⟨#[]⟩, .string ⟨#[]⟩, .string ⟨#[]⟩] 31)
 have hge5 : (w.alloc (.cells #[.int .u16 0, .int .u32 0, .int .u8 0, .int .u32 0, .int .u64 0, .int .u32 0, .int .u32 0, .int .u32 0, .int .u64 0, .string ⟨#[]⟩, .string ⟨#[]⟩, .string ⟨#[]⟩, .string ⟨#[]⟩] 31)).heap.size ≤ w4.heap.size := f4.size
 have st5 : RdAt (w.alloc (.cells #[.int .u16 0, .int .u32 0, .int .u8 0, .int .u32 0, .int .u64 0, .int .u32 0, .int .u32 0, .int .u32 0, .int .u64 0, .string ⟨#[]⟩, .string ⟨#[]⟩, .string ⟨#[]⟩, .string ⟨#[]⟩] 31)) (w4.alloc (.cells #[.int .u16 (tv 2 (l, 0) : Int), .int .u32 (tv 4 (rd 2 (l, 0)) : Int), .int .u8 (qvT (r2 l) : Int), .int .u32 (qvV (r2 l) : Int), .int .u64 (qvP (r2 l) : Int), .int .u32 0, .int .u32 0, .int .u32 0, .int .u64 0, .string ⟨#[]⟩, .string ⟨#[]⟩, .string ⟨#[]⟩, .string ⟨#[]⟩] 31)) b w4.heap.size #[.int .u16 (tv 2 (l, 0) : Int), .int .u32 (tv 4 (rd 2 (l, 0)) : Int), .int .u8 (qvT (r2 l) : Int), .int .u32 (qvV (r2 l) : Int), .int .u64 (qvP (r2 l) : Int), .int .u32 0, .int .u32 0, .int .u32 0, .int .u64 0, .string ⟨#[]⟩, .string ⟨#[]⟩, .string ⟨#[]⟩, .string ⟨#[]⟩] (r5 l) :=
  ⟨ha4.below hb5, heap_alloc_new _ _, f4.trans (hb5.mono hge5), ha4.new _, hge, hge5⟩
 clear hs2 hs3 hs4 hi1 hb1 ha1 ha2 ha3 ha4 f4 hb5 hv hv0
 go_wp2_with fail
 refine (take_at b 4 (r5 l) _ (by omega) (by omega) (by omega) st5.inn).mono ?_
 rintro e w5 ⟨rfl, ha6, hs6⟩
 have st6 := st5.step ha6 hs6
 clear ha6 hs6 st5
 go_wp2_with fail
 refine (take_at b 4 (rd 4 (r5 l)) _ (by omega) (by omega) (by omega) st6.inn).mono ?_
 rintro e w6 ⟨rfl, ha6, hs6⟩
 have st7 := st6.step ha6 hs6
 clear ha6 hs6 st6
 go_wp2_with fail
 refine (take_at b 4 (rd 4 (rd 4 (r5 l))) _ (by omega) (by omega) (by omega) st7.inn).mono ?_
 rintro e w7 ⟨rfl, ha6, hs6⟩
 have st8 := st7.step ha6 hs6
 clear ha6 hs6 st7
 have q5 : w7.cell? ⟨w4.heap.size, 0 + 5, none⟩ = some (.int .u32 0) := block_cell st8.box 5
 have q6 : w7.cell? ⟨w4.heap.size, 0 + 6, none⟩ = some (.int .u32 0) := block_cell st8.box 6
 have q7 : w7.cell? ⟨w4.heap.size, 0 + 7, none⟩ = some (.int .u32 0) := block_cell st8.box 7
 have f5 : w7.frozen? ⟨w4.heap.size, 0 + 5, none⟩ = false := block_free st8.box 5
 have f6 : w7.frozen? ⟨w4.heap.size, 0 + 6, none⟩ = false := block_free st8.box 6
 have f7 : w7.frozen? ⟨w4.heap.size, 0 + 7, none⟩ = false := block_free st8.box 7
 have st9 := RdAt.to (((st8.set 5 (.int .u32 (tv 4 (r5 l) : Int))).set 6 (.int .u32 (tv 4 (rd 4 (r5 l)) : Int))).set 7 (.int .u32 (tv 4 (rd 4 (rd 4 (r5 l))) : Int))) #[.int .u16 (tv 2 (l, 0) : Int), .int .u32 (tv 4 (rd 2 (l, 0)) : Int), .int .u8 (qvT (r2 l) : Int), .int .u32 (qvV (r2 l) : Int), .int .u64 (qvP (r2 l) : Int), .int .u32 (tv 4 (r5 l) : Int), .int .u32 (tv 4 (rd 4 (r5 l)) : Int), .int .u32 (tv 4 (rd 4 (rd 4 (r5 l))) : Int), .int .u64 0, .string ⟨#[]⟩, .string ⟨#[]⟩, .string ⟨#[]⟩, .string ⟨#[]⟩] (by rfl)
 clear st8
 go_wp2_with fail
 refine (take_at b 8 (r8 l) _ (by omega) (by omega) (by omega) st9.inn).mono ?_
 rintro e w8 ⟨rfl, ha6, hs6⟩
 have st10 := st9.step ha6 hs6
 clear ha6 hs6 st9 q5 q6 q7 f5 f6 f7
 have q8 : w8.cell? ⟨w4.heap.size, 0 + 8, none⟩ = some (.int .u64 0) := block_cell st10.box 8
 have f8 : w8.frozen? ⟨w4.heap.size, 0 + 8, none⟩ = false := block_free st10.box 8
 have st11 := RdAt.to (st10.set 8 (.int .u64 (tv 8 (r8 l) : Int))) #[.int .u16 (tv 2 (l, 0) : Int), .int .u32 (tv 4 (rd 2 (l, 0)) : Int), .int .u8 (qvT (r2 l) : Int), .int .u32 (qvV (r2 l) : Int), .int .u64 (qvP (r2 l) : Int), .int .u32 (tv 4 (r5 l) : Int), .int .u32 (tv 4 (rd 4 (r5 l)) : Int), .int .u32 (tv 4 (rd 4 (rd 4 (r5 l))) : Int), .int .u64 (tv 8 (r8 l) : Int), .string ⟨#[]⟩, .string ⟨#[]⟩, .string ⟨#[]⟩, .string ⟨#[]⟩] (by rfl)
 clear st10
 by_cases t0 : te (r9 l) = 0
 case neg =>
  have hE : Hid (readE l = false) := hid (by unfold readE; simp [t0])
  go_wp2_with fail
  refine (must_bad b (r9 l) _ (by omega) st11.inn t0).mono ?_
  rintro e w9 ⟨rfl, hs6⟩
  go_wp2_with fail
  exact ⟨rfl, by rw [hE.out]; rfl, (hb0.trans ((st11.below).trans (hs6.below.mono st11.ge) |>.mono (by simp)))⟩
 replace t0 := hid t0
 go_wp2_with fail
 refine (must_ok b (r9 l) _ (by omega) st11.inn t0.out).mono ?_
 rintro e x0 ⟨rfl, ha6, hs6⟩
 have sm0 := st11.step ha6 hs6
 clear ha6 hs6 st11 q8 f8
 by_cases t1 : te (tr (r9 l)) = 0
 case neg =>
  have hE : Hid (readE l = false) := hid (by unfold readE; simp [t0.out, t1])
  go_wp2_with fail
  refine (must_bad b (tr (r9 l)) _ (by omega) sm0.inn t1).mono ?_
  rintro e w9 ⟨rfl, hs6⟩
  go_wp2_with fail
  exact ⟨rfl, by rw [hE.out]; rfl, (hb0.trans ((sm0.below).trans (hs6.below.mono sm0.ge) |>.mono (by simp)))⟩
 replace t1 := hid t1
 go_wp2_with fail
 refine (must_ok b (tr (r9 l)) _ (by omega) sm0.inn t1.out).mono ?_
 rintro e x1 ⟨rfl, ha6, hs6⟩
 have sm1 := sm0.step ha6 hs6
 clear ha6 hs6 sm0
 by_cases t2 : te (tr (tr (r9 l))) = 0
 case neg =>
  have hE : Hid (readE l = false) := hid (by unfold readE; simp [t0.out, t1.out, t2])
  go_wp2_with fail
  refine (must_bad b (tr (tr (r9 l))) _ (by omega) sm1.inn t2).mono ?_
  rintro e w9 ⟨rfl, hs6⟩
  go_wp2_with fail
  exact ⟨rfl, by rw [hE.out]; rfl, (hb0.trans ((sm1.below).trans (hs6.below.mono sm1.ge) |>.mono (by simp)))⟩
 replace t2 := hid t2
 go_wp2_with fail
 refine (must_ok b (tr (tr (r9 l))) _ (by omega) sm1.inn t2.out).mono ?_
 rintro e x2 ⟨rfl, ha6, hs6⟩
 have sm2 := sm1.step ha6 hs6
 clear ha6 hs6 sm1
 by_cases t3 : te (tr (tr (tr (r9 l)))) = 0
 case neg =>
  have hE : Hid (readE l = false) := hid (by unfold readE; simp [t0.out, t1.out, t2.out, t3])
  go_wp2_with fail
  refine (must_bad b (tr (tr (tr (r9 l)))) _ (by omega) sm2.inn t3).mono ?_
  rintro e w9 ⟨rfl, hs6⟩
  go_wp2_with fail
  exact ⟨rfl, by rw [hE.out]; rfl, (hb0.trans ((sm2.below).trans (hs6.below.mono sm2.ge) |>.mono (by simp)))⟩
 replace t3 := hid t3
 go_wp2_with fail
 refine (must_ok b (tr (tr (tr (r9 l)))) _ (by omega) sm2.inn t3.out).mono ?_
 rintro e x3 ⟨rfl, ha6, hs6⟩
 have sm3 := sm2.step ha6 hs6
 clear ha6 hs6 sm2
 have q9 : x3.cell? ⟨w4.heap.size, 0 + 9, none⟩ = some (.string ⟨#[]⟩) := block_cell sm3.box 9
 have q10 : x3.cell? ⟨w4.heap.size, 0 + 10, none⟩ = some (.string ⟨#[]⟩) := block_cell sm3.box 10
 have q11 : x3.cell? ⟨w4.heap.size, 0 + 11, none⟩ = some (.string ⟨#[]⟩) := block_cell sm3.box 11
 have q12 : x3.cell? ⟨w4.heap.size, 0 + 12, none⟩ = some (.string ⟨#[]⟩) := block_cell sm3.box 12
 have f9 : x3.frozen? ⟨w4.heap.size, 0 + 9, none⟩ = false := block_free sm3.box 9
 have f10 : x3.frozen? ⟨w4.heap.size, 0 + 10, none⟩ = false := block_free sm3.box 10
 have f11 : x3.frozen? ⟨w4.heap.size, 0 + 11, none⟩ = false := block_free sm3.box 11
 have f12 : x3.frozen? ⟨w4.heap.size, 0 + 12, none⟩ = false := block_free sm3.box 12
 have st12 := RdAt.to ((((sm3.set 9 (.string (ts (r9 l)))).set 10 (.string (ts (tr (r9 l))))).set 11 (.string (ts (tr (tr (r9 l)))))).set 12 (.string (ts (tr (tr (tr (r9 l))))))) #[.int .u16 (tv 2 (l, 0) : Int), .int .u32 (tv 4 (rd 2 (l, 0)) : Int), .int .u8 (qvT (r2 l) : Int), .int .u32 (qvV (r2 l) : Int), .int .u64 (qvP (r2 l) : Int), .int .u32 (tv 4 (r5 l) : Int), .int .u32 (tv 4 (rd 4 (r5 l)) : Int), .int .u32 (tv 4 (rd 4 (rd 4 (r5 l))) : Int), .int .u64 (tv 8 (r8 l) : Int), .string (ts (r9 l)), .string (ts (tr (r9 l))), .string (ts (tr (tr (r9 l)))), .string (ts (tr (tr (tr (r9 l)))))] (by rfl)
 clear sm3
 go_wp2_with fail
 refine (left_at b _ _ st12.inn).mono ?_
 rintro e y ⟨rfl, hy⟩
 rw [hy] at st12
 clear hy q9 q10 q11 q12 f9 f10 f11 f12
 have g0 : y.cell? ⟨w4.heap.size, 0, none⟩ = some (.int .u16 (tv 2 (l, 0) : Int)) := block_cell st12.box 0
 have g1 : y.cell? ⟨w4.heap.size, 0 + 1, none⟩ = some (.int .u32 (tv 4 (rd 2 (l, 0)) : Int)) := block_cell st12.box 1
 have g2 : y.cell? ⟨w4.heap.size, 0 + 2, none⟩ = some (.int .u8 (qvT (r2 l) : Int)) := block_cell st12.box 2
 have g3 : y.cell? ⟨w4.heap.size, 0 + 2 + 1, none⟩ = some (.int .u32 (qvV (r2 l) : Int)) := block_cell st12.box 3
 have g4 : y.cell? ⟨w4.heap.size, 0 + 2 + 2, none⟩ = some (.int .u64 (qvP (r2 l) : Int)) := block_cell st12.box 4
 have g5 : y.cell? ⟨w4.heap.size, 0 + 5, none⟩ = some (.int .u32 (tv 4 (r5 l) : Int)) := block_cell st12.box 5
 have g6 : y.cell? ⟨w4.heap.size, 0 + 6, none⟩ = some (.int .u32 (tv 4 (rd 4 (r5 l)) : Int)) := block_cell st12.box 6
 have g7 : y.cell? ⟨w4.heap.size, 0 + 7, none⟩ = some (.int .u32 (tv 4 (rd 4 (rd 4 (r5 l))) : Int)) := block_cell st12.box 7
 have g8 : y.cell? ⟨w4.heap.size, 0 + 8, none⟩ = some (.int .u64 (tv 8 (r8 l) : Int)) := block_cell st12.box 8
 have g9 : y.cell? ⟨w4.heap.size, 0 + 9, none⟩ = some (.string (ts (r9 l))) := block_cell st12.box 9
 have g10 : y.cell? ⟨w4.heap.size, 0 + 10, none⟩ = some (.string (ts (tr (r9 l)))) := block_cell st12.box 10
 have g11 : y.cell? ⟨w4.heap.size, 0 + 11, none⟩ = some (.string (ts (tr (tr (r9 l))))) := block_cell st12.box 11
 have g12 : y.cell? ⟨w4.heap.size, 0 + 12, none⟩ = some (.string (ts (tr (tr (tr (r9 l)))))) := block_cell st12.box 12
 have hR := st12.below.block w.heap.size (by simp)
 rw [heap_alloc_new] at hR
 have hS := st12.below.size
 have hb13 := st12.below
 have hbb := hid (hb0.trans (hb13.mono (by simp)))
 replace hR := hid hR
 obtain ⟨hcR, hfR⟩ := bcell st12.below
 clear st12 hb13
 by_cases hl0 : lt (tr (tr (tr (tr (r9 l))))) = 0
 case neg =>
  have hE : Hid (readE l = false) := hid (by unfold readE; simp [t0.out, t1.out, t2.out, t3.out, hl0])
  have hl1 : 0 < lt (tr (tr (tr (tr (r9 l))))) := by omega
  go_wp2_with fail
  exact ⟨rfl, by rw [hE.out]; rfl, hbb.out⟩
 have hE : Hid (readE l = true) := hid (by unfold readE; simp [t0.out, t1.out, t2.out, t3.out, hl0])
 go_wp2_with fail
 refine bodyPost_ret (results_cell_row rfl _ _ w.heap.size _ _ _ _ rfl (set13 hR.out rfl) Tryz.underlying31 rfl (by kernel_rfl)) rfl ?_
 refine ⟨?_, below13 (Nat.le_refl _) hbb.out⟩
 rw [hE.out, if_pos rfl, readS_cells]
end
end Go.Proofs.YtlmojhlacfjmaaaGreat

namespace Go.Proofs.YtlmojhlacfjmaaaGreat
section
open Go.RowKit
set_option maxRecDepth 100000

theorem ecaught_panicking (k : Nat) (e0 : Int) (e : Nat) (w : World) (h : w.heap[k]? = some (.cells #[.int .i64 e0] 36 (0, 0))) :
  CallsD Tryz.prog 142 #[.pointer (some ⟨k, 0, none⟩)] (.panicking (errChain e)) w fun en u' w' =>
   en = .returned (.tuple #[]) ∧ u' = .panicking (errChainR e) ∧ w' = w.setCell ⟨k, 0, none⟩ (.int .i64 (e : Int)) := by
 have hc1 : w.cell? ⟨k, 0, none⟩ = some (.int .i64 e0) := block_cell h 0
 have hf1 : w.frozen? ⟨k, 0, none⟩ = false := block_free h 0
 clear h
 have hta := assert_errno
 refine callsD_of_wpS Tryz.func142 rfl fun c₀ cs hu => ?_
 apply wpS_seq
 apply wpS_region
 simp [wpOpsS, go_sem, recoverD, hu, errChain, Tryz.ntmps142, Exit.thenS, Array.replicate_succ]
 apply wpS_body
 go_wp2
 go_end0
 exact ⟨rfl, rfl, rfl⟩
theorem ecaught_idle (k : Nat) (w : World) :
  CallsD Tryz.prog 142 #[.pointer (some ⟨k, 0, none⟩)] .returning w fun en u' w' => en = .returned (.tuple #[]) ∧ u' = .returning ∧ w = w' := by
 refine callsD_of_wpS Tryz.func142 rfl fun c₀ cs hu => ?_
 apply wpS_seq
 apply wpS_region
 simp [wpOpsS, go_sem, recoverD, hu, Tryz.ntmps142, Exit.thenS, Array.replicate_succ]
 rw [show c₀ = { c₀ with mode := .returning } from by cases c₀; simp_all]
 apply wpS_body
 go_wp2
 go_end0
 exact ⟨rfl, rfl⟩

def bodyL (l : List UInt8) : List UInt8 := rawL (tv 2 (l, 0)) (rd 2 (l, 0)).1 (rd 2 (l, 0)).2
def decE (l : List UInt8) : Nat := if (rd (tv 2 (l, 0)) (rd 2 (l, 0))).2 ≠ 0 then 4 else if readE (bodyL l) then 0 else 2
def zeroS : Stat := ⟨0, 0, 0, 0, 0, 0, 0, 0, 0, ⟨#[]⟩, ⟨#[]⟩, ⟨#[]⟩, ⟨#[]⟩⟩
def decS (l : List UInt8) : Stat := if decE l = 0 then readS (bodyL l) else zeroS
def decN (l : List UInt8) : Nat := if decE l = 0 then 2 + (bodyL l).length else 0
def DecPost (w : World) (l : List UInt8) (e : Ending) (w' : World) : Prop := e = .returned (.tuple #[.agg (decS l).cells, .int .i64 (decN l : Int), .int .i64 (decE l : Int)]) ∧ Below w.heap.size w w'

theorem dec_results {tmps : Array Value} {w : World} {g k : Nat} {cs : Array Value} {x : Value} {e : Int} (h2 : tmps.getD 2 undef = .pointer (some ⟨g, 0, none⟩)) (h3 : tmps.getD 3 undef = x) (h4 : tmps.getD 4 undef = .pointer (some ⟨k, 0, none⟩))
  (hg : w.heap[g]? = some (.cells cs 31 (0, 0))) (hs : cs.size = 13) (hk : w.cell? ⟨k, 0, none⟩ = some (.int .i64 e)) : (results Tryz.f139 tmps).run Tryz.prog w = .ok (.tuple #[.agg cs, x, .int .i64 e]) w := by
 have hi : (Tryz.prog.info? 31).map (·.size) = some cs.size := by rw [hs]; kernel_rfl
 have h2' : tmps[2]?.getD undef = .pointer (some ⟨g, 0, none⟩) := by simpa using h2
 have h3' : tmps[3]?.getD undef = x := by simpa using h3
 have h4' : tmps[4]?.getD undef = .pointer (some ⟨k, 0, none⟩) := by simpa using h4
 have hkv : (loadVar 36 ⟨k, 0, none⟩).run Tryz.prog w = .ok (.int .i64 e) w := by simp [go_sem, hk]
 simp [results, Tryz.results139, h2', h3', h4', asAddr, run_loadVar_row w g 31 31 cs (0, 0) _ hg Tryz.underlying31 rfl hi, hkv]

theorem dec_bad {l : List UInt8} {e : Nat} (h : decE l = e) (he : e ≠ 0) {w w' : World} {v : Value} (hv : v = .tuple #[.agg zeroS.cells, .int .i64 0, .int .i64 (e : Int)]) (hb : Below w.heap.size w w') : DecPost w l (.returned v) w' := by
 refine ⟨?_, hb⟩
 rw [hv, h]
 unfold decS decN
 rw [if_neg (by rw [h]; exact he), if_neg (by rw [h]; exact he)]
 rfl
theorem dec_good {l : List UInt8} (h : decE l = 0) {w w' : World} {v : Value} (hv : v = .tuple #[.agg (readS (bodyL l)).cells, .int .i64 (2 + ((bodyL l).length : Int)), .int .i64 0]) (hb : Below w.heap.size w w') : DecPost w l (.returned v) w' := by
 refine ⟨?_, hb⟩
 rw [hv, h]
 unfold decS decN
 rw [if_pos h, if_pos h, show ((2 + (bodyL l).length : Nat) : Int) = 2 + ((bodyL l).length : Int) from by omega]
 rfl

theorem cells_eq (s : Stat) : s.cells = #[.int .u16 (s.kind : Int), .int .u32 (s.dev : Int), .int .u8 (s.qt : Int), .int .u32 (s.qv : Int), .int .u64 (s.qp : Int), .int .u32 (s.mode : Int), .int .u32 (s.atm : Int), .int .u32 (s.mtm : Int), .int .u64 (s.len : Int), .string s.name, .string s.uid, .string s.gid, .string s.muid] := rfl

set_option maxHeartbeats 1600000 in
theorem decode_any (v : Value) (l : List UInt8) (w : World) (hv : BytesAt w v l) (hl : l.length ≤ 1000000000) : Calls Tryz.prog 139 #[v] w (DecPost w l) := by
 obtain ⟨a, c, rfl, _, _, _⟩ := hv.form
 have hb0 := ((Below.refl w.heap.size w).alloc (Nat.le_refl _) (.cells #[.int .u16 0, .int .u32 0, .int .u8 0, .int .u32 0, .int .u64 0, .int .u32 0, .int .u32 0, .int .u32 0, .int .u64 0, .string ⟨#[]⟩, .string ⟨#[]⟩, .string ⟨#[]⟩, .string ⟨#[]⟩] 31)).alloc (by simp) (.cells #[.int .i64 0] 36)
 have hv0 := hv.below hb0
 have htv := tv_lt 2 (l, 0) (by omega)
 go_enter_defers Tryz.func139, Tryz.ntmps139
 go_wp2_with fail
 refine (in_of_any _ l _ hv0 (by omega)).mono ?_
 rintro e w1 ⟨b, rfl, hge, hi1, hb1⟩
 have ha1 : InAt w1 b (l, 0) := hi1
 go_wp2_with fail
 refine (take_at b 2 (l, 0) _ (by omega) (by omega) (by omega) ha1).mono ?_
 rintro e w2 ⟨rfl, ha2, hs2⟩
 have l2 : (rd 2 (l, 0)).1.length ≤ l.length := rd_le 2 (l, 0)
 go_wp2_with fail
 refine (in_raw_step b (tv 2 (l, 0)) (rd 2 (l, 0)).1 (rd 2 (l, 0)).2 _ (by omega) (by omega) ha2).mono ?_
 rintro e w3 ⟨v3, rfl, hv3, hi3, hs3⟩
 have ha3 : InAt w3 b (rd (tv 2 (l, 0)) (rd 2 (l, 0))) := hi3
 have f3 := hb1.trans ((hs2.trans hs3).below.mono hge)
 go_wp2_with fail
 refine (err_at b _ _ ha3).mono ?_
 rintro e w4 ⟨rfl, rfl⟩
 obtain ⟨hcR, hfR⟩ := bcell f3
 have hR := f3.block w.heap.size (by simp; omega)
 have hK := f3.block (w.heap.size + 1) (by simp)
 rw [heap2] at hK
 rw [heap_alloc_old _ _ (by simp), heap_alloc_new] at hR
 have hz := f3.size
 have hz1 : w.heap.size + 1 < w3.heap.size := by simp at hz; omega
 have hz2 : w.heap.size < w3.heap.size := by omega
 have hbb := hid (hb0.trans (f3.mono (by simp; omega)))
 replace hR := hid hR
 replace hK := hid hK
 clear hs2 hs3 ha1 ha2 hi1 hi3 hb1
 by_cases hE4 : (rd (tv 2 (l, 0)) (rd 2 (l, 0))).2 = 0
 case neg =>
  have k0 : (((rd (tv 2 (l, 0)) (rd 2 (l, 0))).2 : Int) != 0) = true := by simpa using hE4
  have hD : Hid (decE l = 4) := hid (by unfold decE; rw [if_pos hE4])
  clear hE4
  go_wp2_with fail
  simp only [bodyPostD, Leaves]
  refine ⟨_, dec_results rfl rfl rfl ((block_set_other (by show _ ≠ _; simp)).trans (set13 hR.out rfl)) rfl (block_cell (block_set ((other13 (by omega)).trans hK.out) 0 _) 0), ?_⟩
  exact dec_bad hD.out (by omega) rfl ((below13 (Nat.le_refl _) hbb.out).setCell (by simp) _)
 have k0 : (((rd (tv 2 (l, 0)) (rd 2 (l, 0))).2 : Int) != 0) = false := by simpa using hE4
 have hD : Hid (decE l = if readE (bodyL l) then 0 else 2) := hid (by unfold decE; rw [if_neg (by simp [hE4])])
 clear hE4
 go_wp2_with fail
 refine (read_any _ _ _ hv3 (by have := rawL_le (tv 2 (l, 0)) (rd 2 (l, 0)).1 (rd 2 (l, 0)).2; omega)).mono ?_
 rintro e w5 ⟨he, hb5⟩
 have hR5 := (hb5.block w.heap.size (by omega)).trans hR.out
 have hK5 := (hb5.block (w.heap.size + 1) (by omega)).trans hK.out
 have hbb5 := hid (sn hbb.out hb5)
 have hz5 : w.heap.size + 1 < w5.heap.size := Nat.lt_of_lt_of_le hz1 hb5.size
 have hz6 : w.heap.size < w5.heap.size := by omega
 obtain ⟨hc5, hf5⟩ := bcell hb5
 replace hR5 := hid hR5
 replace hK5 := hid hK5
 by_cases hrE : readE (bodyL l) = true
 ·have hD0 : Hid (decE l = 0) := hid (by rw [hD.out, if_pos hrE])
  have he2 := hid he
  rw [show readE (rawL (tv 2 (l, 0)) (rd 2 (l, 0)).1 (rd 2 (l, 0)).2) = true from hrE, if_pos rfl] at he
  clear he2 hrE
  subst he
  have hSS : Hid (readS (rawL (tv 2 (l, 0)) (rd 2 (l, 0)).1 (rd 2 (l, 0)).2) = readS (bodyL l)) := hid rfl
  rw [hSS.out]
  have hlen : Hid ((rawL (tv 2 (l, 0)) (rd 2 (l, 0)).1 (rd 2 (l, 0)).2).length = (bodyL l).length) := hid rfl
  obtain ⟨a3, c3, rfl, hc3, hc3', _⟩ := hv3.form
  rw [hlen.out] at hc3 ⊢
  have hdg := @dec_good l hD0.out
  replace hdg : Hid (∀ {w w' : World} {v : Value}, v = .tuple #[.agg (readS (bodyL l)).cells, .int .i64 (2 + ((bodyL l).length : Int)), .int .i64 0] → Below w.heap.size w w' → DecPost w l (.returned v) w') := hid hdg
  have hBL : (bodyL l).length ≤ 1000000000 := by have := rawL_le (tv 2 (l, 0)) (rd 2 (l, 0)).1 (rd 2 (l, 0)).2; unfold bodyL; omega
  generalize readS (bodyL l) = S at *
  rw [cells_eq S]
  unfold maxLen at hc3'
  go_wp2_with fail
  refine leaves_cons (f := 142) (args := #[.pointer (some ⟨w.heap.size + 1, 0, none⟩)]) (by simp) (by simp [go_sem]) ?_
  refine (ecaught_idle (w.heap.size + 1) _).mono ?_
  rintro en u' w'' ⟨rfl, rfl, rfl⟩
  simp only [settle]
  have hsz : ∀ (W : World) (o : Obj) (b : Nat) (x : Obj), W.heap[b]? = some x → (W.alloc o).heap[b]? = some x := fun W o b x h => (heap_alloc_old W o (lt_of_block h)).trans h
  refine ⟨_, dec_results rfl rfl rfl (hsz _ _ _ _ ((block_set_other (by show _ ≠ _; simp)).trans (set13 hR5.out rfl))) rfl (block_cell (hsz _ _ _ _ (block_set ((other13 (by omega)).trans hK5.out) 0 _)) 0), ?_⟩
  refine hdg.out rfl ?_
  exact ((below13 (Nat.le_refl _) hbb5.out).setCell (by simp) _).alloc (by simp [World.setCell]; omega) _
 ·have hD0 : Hid (decE l = 2) := hid (by rw [hD.out, if_neg hrE])
  rw [show readE (rawL (tv 2 (l, 0)) (rd 2 (l, 0)).1 (rd 2 (l, 0)).2) = false from Bool.eq_false_iff.2 hrE] at he
  clear hrE
  simp only [Bool.false_eq_true, if_false] at he
  subst he
  go_wp2_with fail
  refine leaves_cons (f := 142) (args := #[.pointer (some ⟨w.heap.size + 1, 0, none⟩)]) (by simp) (by simp [go_sem]) ?_
  refine (ecaught_panicking (w.heap.size + 1) 0 2 _ hK5.out).mono ?_
  rintro en u' w'' ⟨rfl, rfl, rfl⟩
  simp only [settle, errChainR]
  refine ⟨_, dec_results rfl rfl rfl ((block_set_other (by show _ ≠ _; simp)).trans hR5.out) rfl (block_cell (block_set hK5.out 0 _) 0), ?_⟩
  exact dec_bad hD0.out (by omega) rfl (hbb5.out.setCell (by simp) _)
end
end Go.Proofs.YtlmojhlacfjmaaaGreat

namespace Go.Proofs.YtlmojhlacfjmaaaGreat
section
open Go.RowKit
set_option maxRecDepth 100000

theorem leN_num (v : Nat) : ∀ n, leN (numBytes v n) = v % 256 ^ n
 | 0 => by simp [numBytes, leN, Nat.mod_one]
 | n + 1 => by
  simp only [numBytes]
  rw [leN_snoc, leN_num v n, numBytes_length, Nat.pow_succ, Nat.mod_mul]
  have : (numAt v n).toNat = v / 256 ^ n % 256 := by
   unfold numAt
   rw [UInt8.toNat_ofNat', Nat.pow_mul]
  rw [this, Nat.mul_comm]

theorem tv_num {v n : Nat} (r : List UInt8) (h : v < 256 ^ n) : tv n (numBytes v n ++ r, 0) = v := by
 show takeV n _ 0 = v
 unfold takeV
 rw [if_neg (by simp), if_neg (by simp [numBytes_length]), List.take_append_of_le_length (by simp [numBytes_length]), List.take_of_length_le (by simp [numBytes_length]), leN_num, Nat.mod_eq_of_lt h]
theorem rd_num {v n : Nat} (r : List UInt8) : rd n (numBytes v n ++ r, 0) = (r, 0) := by
 unfold rd restL restE
 simp only
 rw [if_neg (by simp), if_neg (by simp [numBytes_length]), if_neg (by simp), if_neg (by simp [numBytes_length]), List.drop_append_of_le_length (by simp [numBytes_length]), List.drop_of_length_le (by simp [numBytes_length]), List.nil_append]
theorem raw_pre (x r : List UInt8) : rawL x.length (x ++ r) 0 = x ∧ rd x.length (x ++ r, 0) = (r, 0) := by
 have h : ¬ (x ++ r).length < x.length := by simp
 unfold rawL rd restL restE
 simp only
 rw [if_neg (by simp), if_neg h, if_neg (by simp), if_neg h, if_neg (by simp), if_neg h]
 simp

theorem text_pre {t : ByteArray} (r : List UInt8) (h : mayN t = 0) : ts (putText t ++ r, 0) = t ∧ te (putText t ++ r, 0) = 0 ∧ tr (putText t ++ r, 0) = (r, 0) := by
 have hs := mayN_zero_size h
 have e : putText t ++ r = numBytes t.size 2 ++ (t.data.toList ++ r) := by unfold putText; rw [List.append_assoc]
 have e1 : takeV 2 (putText t ++ r) 0 = t.size := by rw [e]; exact tv_num _ (by omega)
 have e2 : rd 2 (putText t ++ r, 0) = (t.data.toList ++ r, 0) := by rw [e]; exact rd_num _
 have e3 : restL 2 (putText t ++ r) 0 = t.data.toList ++ r := congrArg Prod.fst e2
 have e4 : restE 2 (putText t ++ r) 0 = 0 := congrArg Prod.snd e2
 have hl : t.data.toList.length = t.size := by simp
 have e5 : rawL t.size (t.data.toList ++ r) 0 = t.data.toList := by have := (raw_pre t.data.toList r).1; rwa [hl] at this
 have e6 : rd t.size (t.data.toList ++ r, 0) = (r, 0) := by have := (raw_pre t.data.toList r).2; rwa [hl] at this
 have e7 : restE t.size (t.data.toList ++ r) 0 = 0 := congrArg Prod.snd e6
 have hE : te (putText t ++ r, 0) = 0 := by
  show tkErr _ 0 = 0
  unfold tkErr
  rw [e1, e3, e4, e5, e7, if_neg (by simp), strL_self]; exact h
 refine ⟨?_, hE, ?_⟩
 ·show tkStr _ 0 = t
  unfold tkStr
  rw [if_neg (by show ¬ (te (putText t ++ r, 0) ≠ 0); rw [hE]; simp), e1, e3, e4, e5, strL_self]
 ·show (tkL _ 0, tkE _ 0) = _
  unfold tkL tkE
  rw [e1, e3, e4]
  exact e6

theorem qr_pre (q v p : Nat) (r : List UInt8) : qr (qidBytes q v p ++ r, 0) = (r, 0) := by
 unfold qr qidBytes
 rw [List.append_assoc, List.append_assoc, rd_num, rd_num, rd_num]
theorem qv_pre (q v p : Nat) (r : List UInt8) (h1 : q < 256) (h2 : v < 4294967296) (h3 : p < 18446744073709551616) :
  qvT (qidBytes q v p ++ r, 0) = q ∧ qvV (qidBytes q v p ++ r, 0) = v ∧ qvP (qidBytes q v p ++ r, 0) = p := by
 unfold qvT qvV qvP
 rw [qr_pre, if_neg (by simp), if_neg (by simp), if_neg (by simp)]
 unfold qidBytes
 rw [List.append_assoc, List.append_assoc, rd_num, rd_num]
 exact ⟨tv_num _ (by omega), tv_num _ (by omega), tv_num _ (by omega)⟩

theorem texts_ok {s : Stat} (h : s.err = 0) : mayN s.name = 0 ∧ mayN s.uid = 0 ∧ mayN s.gid = 0 ∧ mayN s.muid = 0 := by
 unfold Stat.err Stat.texts textsErr textsErr textsErr textsErr textsErr at h
 by_cases h1 : mayN s.name = 0
 ·rw [if_pos h1] at h
  by_cases h2 : mayN s.uid = 0
  ·rw [if_pos h2] at h
   by_cases h3 : mayN s.gid = 0
   ·rw [if_pos h3] at h
    by_cases h4 : mayN s.muid = 0
    ·exact ⟨h1, h2, h3, h4⟩
    ·rw [if_neg h4] at h; exact absurd h h4
   ·rw [if_neg h3] at h; exact absurd h h3
  ·rw [if_neg h2] at h; exact absurd h h2
 ·rw [if_neg h1] at h; exact absurd h h1

def Stat.rest (s : Stat) : List UInt8 := s.head ++ textsBytes s.texts
theorem rest_eq (s : Stat) : s.rest = numBytes s.kind 2 ++ (numBytes s.dev 4 ++ (qidBytes s.qt s.qv s.qp ++ (numBytes s.mode 4 ++ (numBytes s.atm 4 ++ (numBytes s.mtm 4 ++ (numBytes s.len 8 ++ (putText s.name ++ (putText s.uid ++ (putText s.gid ++ (putText s.muid ++ [])))))))))) := by
 unfold Stat.rest Stat.head Stat.texts textsBytes textsBytes textsBytes textsBytes textsBytes
 simp [List.append_assoc]
theorem rest_len (s : Stat) : s.rest.length = s.size - 2 := by
 rw [rest_eq]; simp [numBytes_length, qidBytes_length, putText_length]; unfold Stat.size; omega

theorem read_rest {s : Stat} (hok : StatOk s) (he : s.err = 0) : readS s.rest = s ∧ readE s.rest = true := by
 obtain ⟨o1, o2, o3, o4, o5, o6, o7, o8, o9, _, _, _, _⟩ := hok
 obtain ⟨t1, t2, t3, t4⟩ := texts_ok he
 have E := rest_eq s
 generalize hA : putText s.name ++ (putText s.uid ++ (putText s.gid ++ (putText s.muid ++ []))) = A at E
 have e2 : r2 s.rest = (qidBytes s.qt s.qv s.qp ++ (numBytes s.mode 4 ++ (numBytes s.atm 4 ++ (numBytes s.mtm 4 ++ (numBytes s.len 8 ++ A)))), 0) := by
  unfold r2; rw [E, rd_num, rd_num]
 have e5 : r5 s.rest = (numBytes s.mode 4 ++ (numBytes s.atm 4 ++ (numBytes s.mtm 4 ++ (numBytes s.len 8 ++ A))), 0) := by unfold r5; rw [e2, qr_pre]
 have e8 : r8 s.rest = (numBytes s.len 8 ++ A, 0) := by unfold r8; rw [e5, rd_num, rd_num, rd_num]
 have e9 : r9 s.rest = (A, 0) := by unfold r9; rw [e8, rd_num]
 obtain ⟨q1, q2, q3⟩ := qv_pre s.qt s.qv s.qp (numBytes s.mode 4 ++ (numBytes s.atm 4 ++ (numBytes s.mtm 4 ++ (numBytes s.len 8 ++ A)))) o3 o4 o5
 obtain ⟨a1, a2, a3⟩ := text_pre (putText s.uid ++ (putText s.gid ++ (putText s.muid ++ []))) t1
 obtain ⟨b1, b2, b3⟩ := text_pre (putText s.gid ++ (putText s.muid ++ [])) t2
 obtain ⟨c1, c2, c3⟩ := text_pre (putText s.muid ++ []) t3
 obtain ⟨d1, d2, d3⟩ := text_pre [] t4
 have k1 : tv 2 (s.rest, 0) = s.kind := by rw [E]; exact tv_num _ (by omega)
 have k2 : tv 4 (rd 2 (s.rest, 0)) = s.dev := by rw [E, rd_num]; exact tv_num _ (by omega)
 constructor
 ·unfold readS
  rw [k1, k2, e2, q1, q2, q3, e5, e8, e9, rd_num, rd_num, tv_num _ (by omega : s.mode < 256 ^ 4), tv_num _ (by omega : s.atm < 256 ^ 4), tv_num _ (by omega : s.mtm < 256 ^ 4), tv_num _ (by omega : s.len < 256 ^ 8),
   ← hA, a1, a3, b1, b3, c1, c3, d1]
 ·unfold readE
  rw [e9, ← hA, a2, a3, b2, b3, c2, c3, d2, d3]
  rfl

theorem bytes_ok {s : Stat} (he : s.err = 0) : s.bytes = numBytes (s.size - 2) 2 ++ s.rest := by
 unfold Stat.bytes Stat.rest; rw [if_pos he, List.append_assoc]

theorem dec_back {s : Stat} (hok : StatOk s) (hf : Few s) (he : s.err = 0) (m : List UInt8) : decE (s.bytes ++ m) = 0 ∧ decS (s.bytes ++ m) = s ∧ decN (s.bytes ++ m) = s.bytes.length := by
 have hsz : 49 ≤ s.size ∧ s.size ≤ 849 := by obtain ⟨h1, h2, h3, h4⟩ := hf; unfold Stat.size; omega
 have E : s.bytes ++ m = numBytes (s.size - 2) 2 ++ (s.rest ++ m) := by rw [bytes_ok he, List.append_assoc]
 have h1 : tv 2 (s.bytes ++ m, 0) = s.size - 2 := by rw [E]; exact tv_num _ (by omega)
 have h2 : rd 2 (s.bytes ++ m, 0) = (s.rest ++ m, 0) := by rw [E, rd_num]
 obtain ⟨p1, p2⟩ := raw_pre s.rest m
 rw [rest_len] at p1 p2
 have h3 : bodyL (s.bytes ++ m) = s.rest := by unfold bodyL; rw [h1, h2]; exact p1
 obtain ⟨r1, r2⟩ := read_rest hok he
 have h4 : decE (s.bytes ++ m) = 0 := by unfold decE; rw [h1, h2, p2, if_neg (by simp), h3, r2]; rfl
 refine ⟨h4, ?_, ?_⟩
 ·unfold decS; rw [if_pos h4, h3, r1]
 ·unfold decN; rw [if_pos h4, h3, bytes_ok he, List.length_append, numBytes_length]

end
end Go.Proofs.YtlmojhlacfjmaaaGreat
