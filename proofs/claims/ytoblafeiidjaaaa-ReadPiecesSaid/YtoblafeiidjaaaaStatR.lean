/- How bytes are read as a record, as plain functions; what qid.Take, stat.must and stat.read do, under bounds on lengths that each theorem names. No further condition. -/
import Derived.Test.YtoblafeiidjaaaaStatE
import Derived.Test.YtoblafeiidjaaaaNumIn2
namespace Go.Proofs.Ytoblafeiidjaaaa
open Go.RowKit
set_option maxRecDepth 100000

/-- A number of n bytes, a text, read where a reader stands (what is left, and what went wrong); where it stands behind. -/
def tv (n : Nat) (p : List UInt8 × Nat) : Nat := takeV n p.1 p.2
def rd (n : Nat) (p : List UInt8 × Nat) : List UInt8 × Nat := (restL n p.1 p.2, restE n p.1 p.2)
def ts (p : List UInt8 × Nat) : ByteArray := tkStr p.1 p.2
def te (p : List UInt8 × Nat) : Nat := tkErr p.1 p.2
def tr (p : List UInt8 × Nat) : List UInt8 × Nat := (tkL p.1 p.2, tkE p.1 p.2)
def lt (p : List UInt8 × Nat) : Nat := leftN p.1 p.2

/-- A qid. -/
def qr (p : List UInt8 × Nat) : List UInt8 × Nat := rd 8 (rd 4 (rd 1 p))
def qvT (p : List UInt8 × Nat) : Nat := if (qr p).2 ≠ 0 then 0 else tv 1 p
def qvV (p : List UInt8 × Nat) : Nat := if (qr p).2 ≠ 0 then 0 else tv 4 (rd 1 p)
def qvP (p : List UInt8 × Nat) : Nat := if (qr p).2 ≠ 0 then 0 else tv 8 (rd 4 (rd 1 p))

def r2 (x : List UInt8) : List UInt8 × Nat := rd 4 (rd 2 (x, 0))
def r5 (x : List UInt8) : List UInt8 × Nat := qr (r2 x)
def r8 (x : List UInt8) : List UInt8 × Nat := rd 4 (rd 4 (rd 4 (r5 x)))
def r9 (x : List UInt8) : List UInt8 × Nat := rd 8 (r8 x)
def readS (x : List UInt8) : Stat :=
  ⟨tv 2 (x, 0), tv 4 (rd 2 (x, 0)), qvT (r2 x), qvV (r2 x), qvP (r2 x), tv 4 (r5 x), tv 4 (rd 4 (r5 x)), tv 4 (rd 4 (rd 4 (r5 x))), tv 8 (r8 x), ts (r9 x), ts (tr (r9 x)), ts (tr (tr (r9 x))), ts (tr (tr (tr (r9 x))))⟩
/-- Are they a record? -/
def readE (x : List UInt8) : Bool := te (r9 x) == 0 && te (tr (r9 x)) == 0 && te (tr (tr (r9 x))) == 0 && te (tr (tr (tr (r9 x)))) == 0 && lt (tr (tr (tr (tr (r9 x))))) == 0

def InAt (w : World) (b : Nat) (p : List UInt8 × Nat) : Prop := InIs w b p.1 p.2
theorem InAt.below {w w' : World} {b : Nat} {p : List UInt8 × Nat} (h : InAt w b p) (hb : Below w.heap.size w w') : InAt w' b p := InIs.below h hb
theorem InAt.lt {w : World} {b : Nat} {p : List UInt8 × Nat} (h : InAt w b p) : b < w.heap.size := InIs.lt h
theorem InAt.new {w : World} {b : Nat} {p : List UInt8 × Nat} (h : InAt w b p) (o : Obj) : ¬ Foot (w.alloc o) b w.heap.size := InIs.new h o
theorem InAt.store {w : World} {b : Nat} {p : List UInt8 × Nat} (h : InAt w b p) {a : Addr} (u : Value) (hf : ¬ Foot w b a.block) : InAt (w.setCell a u) b p := InIs.store h u hf
theorem InAt.store3 {w : World} {b q : Nat} {p : List UInt8 × Nat} (h : InAt w b p) (hf : ¬ Foot w b q) (i0 i1 i2 : Nat) (u0 u1 u2 : Value) :
    InAt (((w.setCell ⟨q, i0, none⟩ u0).setCell ⟨q, i1, none⟩ u1).setCell ⟨q, i2, none⟩ u2) b p := by
  have hq : q ≠ b := fun e => hf (.inl e)
  exact ((h.store (a := ⟨q, i0, none⟩) u0 hf).store (a := ⟨q, i1, none⟩) u1 (Foot.store hq hf)).store (a := ⟨q, i2, none⟩) u2 (Foot.store hq (Foot.store hq hf))
theorem OStep.store3 {b q : Nat} {w w1 : World} (h : OStep b w w1) (hp : w.heap.size ≤ q) (hf : ¬ Foot w1 b q) (hb : b < w.heap.size) (i0 i1 i2 : Nat) (u0 u1 u2 : Value) :
    OStep b w (((w1.setCell ⟨q, i0, none⟩ u0).setCell ⟨q, i1, none⟩ u1).setCell ⟨q, i2, none⟩ u2) := by
  have hq : q ≠ b := fun e => hf (.inl e)
  exact ((h.store (p := ⟨q, i0, none⟩) hp hf hb u0).store (p := ⟨q, i1, none⟩) hp (Foot.store hq hf) hb u1).store (p := ⟨q, i2, none⟩) hp (Foot.store hq (Foot.store hq hf)) hb u2
theorem rd_le (n : Nat) (p : List UInt8 × Nat) : (rd n p).1.length ≤ p.1.length := restL_le _ _ _
theorem tr_le (p : List UInt8 × Nat) : (tr p).1.length ≤ p.1.length := Nat.le_trans (restL_le _ _ _) (restL_le _ _ _)
theorem qr_le (p : List UInt8 × Nat) : (qr p).1.length ≤ p.1.length := Nat.le_trans (rd_le _ _) (Nat.le_trans (rd_le _ _) (rd_le _ _))
theorem tv_lt (n : Nat) (p : List UInt8 × Nat) (hn : n ≤ 8) : tv n p < 256 ^ n := takeV_lt n p.1 p.2 hn

theorem take_at (b n : Nat) (p : List UInt8 × Nat) (w : World) (hn1 : 1 ≤ n) (hn8 : n ≤ 8) (hl : p.1.length ≤ 1000000000) (h : InAt w b p) :
    Calls Try.prog 65 #[.pointer (some ⟨b, 0, none⟩), .int .i64 (n : Int)] w fun e w' => e = .returned (.int .u64 (tv n p : Int)) ∧ InAt w' b (rd n p) ∧ OStep b w w' :=
  in_take_step b n p.1 p.2 w hn1 hn8 (by omega) h
theorem err_at (b : Nat) (p : List UInt8 × Nat) (w : World) (h : InAt w b p) :
    Calls Try.prog 66 #[.pointer (some ⟨b, 0, none⟩)] w fun e w' => e = .returned (.int .i64 (p.2 : Int)) ∧ w = w' := in_err_any b p.1 p.2 w h
theorem left_at (b : Nat) (p : List UInt8 × Nat) (w : World) (h : InAt w b p) :
    Calls Try.prog 36 #[.pointer (some ⟨b, 0, none⟩)] w fun e w' => e = .returned (.int .i64 (lt p : Int)) ∧ w = w' := in_left_any b p.1 p.2 w h
end Go.Proofs.Ytoblafeiidjaaaa
