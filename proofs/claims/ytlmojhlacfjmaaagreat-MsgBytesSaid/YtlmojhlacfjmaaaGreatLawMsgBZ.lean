/- For every message law MsgBack returns true. No condition beyond what a message is. -/
import Derived.Test.YtlmojhlacfjmaaaGreatLawMsgTZ
import Derived.Test.YtlmojhlacfjmaaaGreatREncZ
import Derived.Test.YtlmojhlacfjmaaaGreatBunK
namespace Go.Proofs.YtlmojhlacfjmaaaGreat
open Go.RowKit
set_option maxRecDepth 100000
set_option linter.unusedVariables false

theorem MOk.cp {a x : M} (ha : MOk a) (hx : MOk x) (s : Slot) : MOk (s.cp a x) := by
 obtain ⟨h1, h2, h3, h4, h5, h6, h7, h8, h9, h10, h11, h12, h13, h14, h15⟩ := ha
 obtain ⟨k1, k2, k3, k4, k5, k6, k7, k8, k9, k10, k11, k12, k13, k14, k15⟩ := hx
 cases s <;> constructor <;> dsimp only [Slot.cp] <;> assumption
theorem MOk.cps {a : M} (ha : MOk a) : ∀ (ss : List Slot) (x : M), MOk x → MOk (cps a ss x)
 | [], _, h => h
 | s :: ss, x, h => MOk.cps ha ss _ (ha.cp h s)
theorem headTT_ok {t g : Nat} (ht : t < 256) (hg : g < 65536) : MOk (headTT t g) := by
 constructor <;> first | exact ht | exact hg | exact zeroS_ok | exact bM_ok.qid | (intro q hq; cases hq) | (show (0 : Nat) < _; omega)
theorem MOk.named {m : M} (h : MOk m) : MOk m.named := h.cps _ _ (headTT_ok h.ty h.tag)
theorem MFew.cp {a x : M} (ha : MFew a) (hx : MFew x) (s : Slot) : MFew (s.cp a x) := by
 obtain ⟨h1, h2, h3, h4, h5, h6, h7⟩ := ha
 obtain ⟨k1, k2, k3, k4, k5, k6, k7⟩ := hx
 cases s <;> constructor <;> dsimp only [Slot.cp] <;> assumption
theorem RFew.cp {a x : M} (ha : RFew a) (hx : RFew x) (s : Slot) : RFew (s.cp a x) := by
 obtain ⟨h1, h2, h3, h4⟩ := ha
 obtain ⟨k1, k2, k3, k4⟩ := hx
 refine ⟨h1.cp k1 s, ?_, ?_, ?_⟩ <;> cases s <;> dsimp only [Slot.cp] <;> assumption
theorem RFew.cps {a : M} (ha : RFew a) : ∀ (ss : List Slot) (x : M), RFew x → RFew (cps a ss x)
 | [], _, h => h
 | s :: ss, x, h => RFew.cps ha ss _ (ha.cp h s)
theorem headTT_few (t g : Nat) : RFew (headTT t g) :=
 ⟨⟨Nat.zero_le _, Nat.zero_le _, Nat.zero_le _, Nat.zero_le _, fun s hs => (by cases hs), Nat.zero_le _, ⟨Nat.zero_le _, Nat.zero_le _, Nat.zero_le _, Nat.zero_le _⟩⟩, Nat.zero_le _, Nat.zero_le _, Nat.zero_le _⟩
theorem RFew.named {m : M} (h : RFew m) : RFew m.named := h.cps _ _ (headTT_few _ _)
theorem MVal.mv {w : World} {m : M} {v : Value} {B : Nat} (h : MVal w m v B) : ∃ x : MV, v = .agg x.cells ∧ x.m = m ∧ x.At w := by
 obtain ⟨vN, vQ, vD, rfl, ⟨hN, _⟩, ⟨hQ, _⟩, ⟨hD, _⟩⟩ := h
 exact ⟨⟨m, vN, vQ, vD⟩, rfl, rfl, hN, hQ, hD⟩
def BkS (p q : Nat) (a x : MV) (w : World) : Prop := w.heap[p]? = some (.cells a.cells 33 (0, 0)) ∧ w.heap[q]? = some (.cells x.cells 33 (0, 0))
theorem BkS.below {p q : Nat} {a x : MV} {w w' : World} (h : BkS p q a x w) (hb : Below w.heap.size w w') : BkS p q a x w' :=
 ⟨(hb.block p (lt_of_block h.1)).trans h.1, (hb.block q (lt_of_block h.2)).trans h.2⟩
theorem err_known2 {m : M} (he : m.err = 0) : knownT m.ty = true := (err_known he).1

end Go.Proofs.YtlmojhlacfjmaaaGreat
