/- The state along the reference's fill: the reader, the message's box, its rows. No condition. -/
import Derived.Test.YtlmojhlacfjmaaaGreatRDec2Z
import Derived.Test.YtlmojhlacfjmaaaGreatBunV
import Derived.Test.YtlmojhlacfjmaaaGreatBunW
import Derived.Deep.MidRow
namespace Go.Proofs.YtlmojhlacfjmaaaGreat
open Go.RowKit
set_option maxRecDepth 100000
set_option linter.unusedVariables false

theorem foot_keep {w w' : World} {b k : Nat} (hk : w'.heap[b]? = w.heap[b]?) (hf : Foot w' b k) : Foot w b k := by
 have hc0 : w'.cell? ⟨b, 0, none⟩ = w.cell? ⟨b, 0, none⟩ := World.cell?_of_block (w := w) hk
 rcases hf with he | ⟨v, hv, hk2⟩
 ·exact .inl he
 ·rw [hc0] at hv; exact .inr ⟨v, hv, hk2⟩
theorem OStep.more {b : Nat} {w0 w w' : World} (h : OStep b w0 w) (hb : b < w0.heap.size) (hB : Below w0.heap.size w w') : OStep b w0 w' :=
 ⟨h.below.trans (hB.mono (Nat.le_of_lt hb)), fun k hk hn => by
  obtain ⟨e1, n1⟩ := h.block k hk hn
  exact ⟨(hB.block k hk).trans e1, fun hf => n1 (foot_keep (hB.block b hb) hf)⟩, fun ht => by
  obtain ⟨⟨cs', t, fr, hc, hs⟩, f1⟩ := h.two ht
  exact ⟨⟨cs', t, fr, (hB.block b hb).trans hc, hs⟩, fun k hk => f1 k (foot_keep (hB.block b hb) hk)⟩⟩
theorem RInAt.keep {w w' : World} {b : Nat} {p : List UInt8 × Nat} (h : RInAt w b p) (hk : ∀ k, Foot w b k → w'.heap[k]? = w.heap[k]?) (hz : w.heap.size ≤ w'.heap.size) : RInAt w' b p := by
 obtain ⟨v, at_, L, hb, hv, hr⟩ := h
 exact ⟨v, at_, L, (hk b (.inl rfl)).trans hb, RowAt.other hv hz (fun j hj => hk j (.inr ⟨v, block_cell hb 0, hj⟩)), hr⟩

structure RIA (w0 w : World) (b q : Nat) (m : M) (vN vQ : Value) (p : List UInt8 × Nat) : Prop where
 inn : RInAt w b p
 blk : w.heap[q]? = some (.cells (m.rcells vN vQ (strL m.data)) 46 (0, 0))
 foot : ¬ Foot w b q
 res : w.heap[q + 1]? = some (.cells zeroR 46 (0, 0))
 rfoot : ¬ Foot w b (q + 1)
 names : w.ownsRow (q + 2) 9 1 vN m.names.length (m.names.map fun s => Value.string s)
 nf : ∀ k, vN.ownBlock = some k → ¬ Foot w b k
 qids : w.ownsRow (q + 2) 42 3 vQ m.qids.length (m.qids.flatMap fun r => r.cells.toList)
 qf : ∀ k, vQ.ownBlock = some k → ¬ Foot w b k
 sep : ∀ k, vN.ownBlock = some k → vQ.ownBlock ≠ some k
 st : OStep b w0 w
 lt : b < w0.heap.size ∧ w0.heap.size ≤ q
theorem RIA.step {w0 w w2 : World} {b q : Nat} {m : M} {vN vQ : Value} {p p2 : List UInt8 × Nat} (h : RIA w0 w b q m vN vQ p) (hi : RInAt w2 b p2) (hs : OStep b w w2) : RIA w0 w2 b q m vN vQ p2 := by
 have h1 := hs.block q (lt_of_block h.blk) h.foot
 have h2 := hs.block (q + 1) (lt_of_block h.res) h.rfoot
 have hn : ∀ k, vN.ownBlock = some k → w2.heap[k]? = w.heap[k]? ∧ ¬ Foot w2 b k := fun k hk => hs.block k (h.names.lt k hk).2 (h.nf k hk)
 have hq : ∀ k, vQ.ownBlock = some k → w2.heap[k]? = w.heap[k]? ∧ ¬ Foot w2 b k := fun k hk => hs.block k (h.qids.lt k hk).2 (h.qf k hk)
 exact ⟨hi, h1.1.trans h.blk, h1.2, h2.1.trans h.res, h2.2, own_keep h.names fun k hk => (hn k hk).1, fun k hk => (hn k hk).2, own_keep h.qids fun k hk => (hq k hk).1, fun k hk => (hq k hk).2, h.sep, h.st.trans hs, h.lt⟩
theorem RIA.drew {w0 w : World} {b q : Nat} {m : M} {vN vQ : Value} {p : List UInt8 × Nat} (h : RIA w0 w b q m vN vQ p) : RIA w0 w.drew b q m vN vQ p :=
 h.step (h.inn.below (Below.refl _ _).drew) (OStep.pure h.inn.lt (Below.refl _ _).drew)
theorem RIA.cell {w0 w : World} {b q : Nat} {m : M} {vN vQ : Value} {p : List UInt8 × Nat} (h : RIA w0 w b q m vN vQ p) (i : Nat) : w.cell? ⟨q, i, none⟩ = (m.rcells vN vQ (strL m.data))[i]? := block_cell h.blk i
theorem RIA.free {w0 w : World} {b q : Nat} {m : M} {vN vQ : Value} {p : List UInt8 × Nat} (h : RIA w0 w b q m vN vQ p) (i : Nat) : w.frozen? ⟨q, i, none⟩ = false := block_free h.blk i
theorem RIA.cells {w0 w w2 : World} {b q : Nat} {m m2 : M} {vN vQ : Value} {p : List UInt8 × Nat} (h : RIA w0 w b q m vN vQ p) (hbl : ∀ k, k ≠ q → w2.heap[k]? = w.heap[k]?) (hB : Below q w w2)
  (hc : w2.heap[q]? = some (.cells (m2.rcells vN vQ (strL m2.data)) 46 (0, 0))) (hN : m2.names = m.names) (hQ : m2.qids = m.qids) : RIA w0 w2 b q m2 vN vQ p := by
 have hbq : b ≠ q := by have := h.lt; omega
 have hf : ∀ k, Foot w2 b k → Foot w b k := fun k => foot_keep (hbl b hbq)
 have hn : ∀ k, vN.ownBlock = some k → w2.heap[k]? = w.heap[k]? := fun k hk => hbl k (by have := (h.names.lt k hk).1; omega)
 have hq : ∀ k, vQ.ownBlock = some k → w2.heap[k]? = w.heap[k]? := fun k hk => hbl k (by have := (h.qids.lt k hk).1; omega)
 refine ⟨h.inn.keep (fun k hk => hbl k (fun e => h.foot (e ▸ hk))) hB.size, hc, fun k => h.foot (hf _ k), (hbl _ (by omega)).trans h.res, fun k => h.rfoot (hf _ k), ?_, fun k hk hk2 => h.nf k hk (hf k hk2), ?_, fun k hk hk2 => h.qf k hk (hf k hk2), h.sep, h.st.more h.lt.1 (hB.mono h.lt.2), h.lt⟩
 ·rw [hN]; exact own_keep h.names hn
 ·rw [hQ]; exact own_keep h.qids hq
theorem RIA.set {w0 w : World} {b q : Nat} {m m2 : M} {vN vQ : Value} {p : List UInt8 × Nat} (h : RIA w0 w b q m vN vQ p) (i : Nat) (v : Value) (hc : (m.rcells vN vQ (strL m.data)).setIfInBounds i v = m2.rcells vN vQ (strL m2.data)) (hN : m2.names = m.names) (hQ : m2.qids = m.qids) : RIA w0 (w.setCell ⟨q, i, none⟩ v) b q m2 vN vQ p :=
 h.cells (fun k hk => block_set_other (by show k ≠ q; exact hk)) ((Below.refl _ _).setCell (p := ⟨q, i, none⟩) (Nat.le_refl _) _) (by rw [← hc]; exact block_set h.blk i v) hN hQ
def setsA (cs : Array Value) : Nat → List Value → Array Value
 | _, [] => cs
 | i, u :: us => setsA (cs.setIfInBounds i u) (i + 1) us
theorem sets_heap {q : Nat} {T : TypeId} : ∀ (us : List Value) (i : Nat) (w : World) (cs : Array Value), w.heap[q]? = some (.cells cs T (0, 0)) → (w.setCells q i us).heap[q]? = some (.cells (setsA cs i us) T (0, 0)) ∧ (∀ k, k ≠ q → (w.setCells q i us).heap[k]? = w.heap[k]?) ∧ Below q w (w.setCells q i us)
 | [], _, _, _, h => ⟨h, fun _ _ => rfl, Below.refl _ _⟩
 | u :: us, i, w, cs, h => by
  obtain ⟨h1, h2, h3⟩ := sets_heap us (i + 1) (w.setCell ⟨q, i, none⟩ u) _ (block_set h i u)
  exact ⟨h1, fun k hk => (h2 k hk).trans (block_set_other (by show k ≠ q; exact hk)), ((Below.refl _ _).setCell (p := ⟨q, i, none⟩) (Nat.le_refl _) _).trans h3⟩
theorem RIA.sets {w0 w : World} {b q : Nat} {m m2 : M} {vN vQ : Value} {p : List UInt8 × Nat} (h : RIA w0 w b q m vN vQ p) (i : Nat) (us : List Value) (hc : setsA (m.rcells vN vQ (strL m.data)) i us = m2.rcells vN vQ (strL m2.data)) (hN : m2.names = m.names) (hQ : m2.qids = m.qids) : RIA w0 (w.setCells q i us) b q m2 vN vQ p := by
 obtain ⟨h1, h2, h3⟩ := sets_heap us i w _ h.blk
 exact h.cells h2 h3 (by rw [← hc]; exact h1) hN hQ
theorem RIA.there {w0 w : World} {b q : Nat} {m : M} {vN vQ : Value} {p : List UInt8 × Nat} (h : RIA w0 w b q m vN vQ p) (i n : Nat) (hn : i + n ≤ 36) : w.there q i n := fun j hj => by
 refine ⟨?_, block_free h.blk _⟩
 rw [block_cell h.blk (i + j), Array.getElem?_eq_getElem (show i + j < (m.rcells vN vQ (strL m.data)).size by show i + j < 36; omega)]
 rfl
theorem RIA.name {w0 w W w' : World} {b q : Nat} {m : M} {vN vQ v2 : Value} {p : List UInt8 × Nat} (s : ByteArray) (h : RIA w0 w b q m vN vQ p) (hW : Below w.heap.size w W) (hg : W.grownBy w' vN.ownBlock)
  (h2 : w'.ownsRow (q + 2) 9 1 v2 (m.names.length + 1) ((m.names.map fun s => Value.string s) ++ [.string s])) (hv2 : ∀ k, v2.ownBlock = some k → vN.ownBlock = some k ∨ W.heap.size ≤ k) :
  w'.cell? ⟨q, 11, none⟩ = some vN ∧ w'.frozen? ⟨q, 11, none⟩ = false ∧ RIA w0 (w'.setCell ⟨q, 11, none⟩ v2) b q { m with names := m.names ++ [s] } v2 vQ p := by
 have hq := lt_of_block h.blk
 have hk : ∀ k, k < w.heap.size → vN.ownBlock ≠ some k → w'.heap[k]? = w.heap[k]? := fun k h1 h2 => (hg.block k (Nat.lt_of_lt_of_le h1 hW.size) (fun e => h2 e.symm)).trans (hW.block k h1)
 have hFoot : ∀ k, Foot w b k → w'.heap[k]? = w.heap[k]? := fun k hf => hk k (RInIs.foot_lt h.inn hf) (fun e => h.nf k e hf)
 have hf : ∀ k, Foot w' b k → Foot w b k := fun k => foot_keep (hFoot b (.inl rfl))
 have hz : w.heap.size ≤ w'.heap.size := Nat.le_trans hW.size hg.size
 have hqq : w'.heap[q]? = w.heap[q]? := hk q hq (fun e => by have := (h.names.lt q e).1; omega)
 have hq1 : w'.heap[q + 1]? = w.heap[q + 1]? := hk _ (lt_of_block h.res) (fun e => by have := (h.names.lt _ e).1; omega)
 have hB : Below w0.heap.size w w' := (hW.mono (by have := h.lt; omega)).grown hg (by have := h.lt; have := hW.size; omega) (fun j hj => by have := (h.names.lt j hj).1; have := h.lt; omega)
 have hl2 := h.lt
 have hqb := hqq.trans h.blk
 refine ⟨block_cell hqb 11, block_free hqb 11, ?_⟩
 have hne : b ≠ q := by omega
 have hfs : ∀ k, Foot (w'.setCell ⟨q, 11, none⟩ v2) b k → Foot w b k := fun k hk => hf k (foot_keep (block_set_other (by show b ≠ q; exact hne)) hk)
 refine ⟨(h.inn.keep hFoot hz).keep (fun k hk => block_set_other (by show k ≠ q; exact fun e => h.foot (e ▸ hf k hk))) (by simp), ?_, fun k => h.foot (hfs _ k), ?_, fun k => h.rfoot (hfs _ k), ?_, ?_, ?_, ?_, ?_, ?_, h.lt⟩
 ·exact block_set hqb 11 v2
 ·exact (block_set_other (by show q + 1 ≠ q; omega)).trans (hq1.trans h.res)
 ·have := ownsRow_setCell_below h2 (a := ⟨q, 11, none⟩) (by show q < q + 2; omega) v2
  simpa using this
 ·intro k hk2 hf2
  rcases hv2 k hk2 with e | e
  ·exact h.nf k e (hfs k hf2)
  ·have := RInIs.foot_lt h.inn (hfs k hf2); have := hW.size; omega
 ·exact ownsRow_setCell_below (own_keep h.qids fun k hk2 => hk k (h.qids.lt k hk2).2 (fun e => h.sep k e hk2)) (a := ⟨q, 11, none⟩) (by show q < q + 2; omega) v2
 ·exact fun k hk2 hf2 => h.qf k hk2 (hfs k hf2)
 ·intro k hk2 hq2
  rcases hv2 k hk2 with e | e
  ·exact h.sep k e hq2
  ·have := (h.qids.lt k hq2).2; have := hW.size; omega
 ·exact (h.st.more hl2.1 hB).more hl2.1 ((Below.refl _ _).setCell (p := ⟨q, 11, none⟩) hl2.2 _)
theorem RIA.qidm {w0 w W w' : World} {b q : Nat} {m : M} {vN vQ v2 : Value} {p : List UInt8 × Nat} (s : QidV) (h : RIA w0 w b q m vN vQ p) (hW : Below w.heap.size w W) (hg : W.grownBy w' vQ.ownBlock)
  (h2 : w'.ownsRow (q + 2) 42 3 v2 (m.qids.length + 1) ((m.qids.flatMap fun r => r.cells.toList) ++ s.cells.toList)) (hv2 : ∀ k, v2.ownBlock = some k → vQ.ownBlock = some k ∨ W.heap.size ≤ k) :
  w'.cell? ⟨q, 12, none⟩ = some vQ ∧ w'.frozen? ⟨q, 12, none⟩ = false ∧ RIA w0 (w'.setCell ⟨q, 12, none⟩ v2) b q { m with qids := m.qids ++ [s] } vN v2 p := by
 have hq := lt_of_block h.blk
 have hk : ∀ k, k < w.heap.size → vQ.ownBlock ≠ some k → w'.heap[k]? = w.heap[k]? := fun k h1 h2 => (hg.block k (Nat.lt_of_lt_of_le h1 hW.size) (fun e => h2 e.symm)).trans (hW.block k h1)
 have hFoot : ∀ k, Foot w b k → w'.heap[k]? = w.heap[k]? := fun k hf => hk k (RInIs.foot_lt h.inn hf) (fun e => h.qf k e hf)
 have hf : ∀ k, Foot w' b k → Foot w b k := fun k => foot_keep (hFoot b (.inl rfl))
 have hz : w.heap.size ≤ w'.heap.size := Nat.le_trans hW.size hg.size
 have hqq : w'.heap[q]? = w.heap[q]? := hk q hq (fun e => by have := (h.qids.lt q e).1; omega)
 have hq1 : w'.heap[q + 1]? = w.heap[q + 1]? := hk _ (lt_of_block h.res) (fun e => by have := (h.qids.lt _ e).1; omega)
 have hB : Below w0.heap.size w w' := (hW.mono (by have := h.lt; omega)).grown hg (by have := h.lt; have := hW.size; omega) (fun j hj => by have := (h.qids.lt j hj).1; have := h.lt; omega)
 have hl2 := h.lt
 have hqb := hqq.trans h.blk
 refine ⟨block_cell hqb 12, block_free hqb 12, ?_⟩
 have hne : b ≠ q := by omega
 have hfs : ∀ k, Foot (w'.setCell ⟨q, 12, none⟩ v2) b k → Foot w b k := fun k hk => hf k (foot_keep (block_set_other (by show b ≠ q; exact hne)) hk)
 refine ⟨(h.inn.keep hFoot hz).keep (fun k hk => block_set_other (by show k ≠ q; exact fun e => h.foot (e ▸ hf k hk))) (by simp), ?_, fun k => h.foot (hfs _ k), ?_, fun k => h.rfoot (hfs _ k), ?_, ?_, ?_, ?_, ?_, ?_, h.lt⟩
 ·exact block_set hqb 12 v2
 ·exact (block_set_other (by show q + 1 ≠ q; omega)).trans (hq1.trans h.res)
 ·exact ownsRow_setCell_below (own_keep h.names fun k hk2 => hk k (h.names.lt k hk2).2 (fun e => h.sep k hk2 e)) (a := ⟨q, 12, none⟩) (by show q < q + 2; omega) v2
 ·exact fun k hk2 hf2 => h.nf k hk2 (hfs k hf2)
 ·have := ownsRow_setCell_below h2 (a := ⟨q, 12, none⟩) (by show q < q + 2; omega) v2
  simpa using this
 ·intro k hk2 hf2
  rcases hv2 k hk2 with e | e
  ·exact h.qf k e (hfs k hf2)
  ·have := RInIs.foot_lt h.inn (hfs k hf2); have := hW.size; omega
 ·intro k hk2 hq2
  rcases hv2 k hq2 with e | e
  ·exact h.sep k hk2 e
  ·have := (h.names.lt k hk2).2; have := hW.size; omega
 ·exact (h.st.more hl2.1 hB).more hl2.1 ((Below.refl _ _).setCell (p := ⟨q, 12, none⟩) hl2.2 _)

def rtxs : Nat → List UInt8 × Nat → (List UInt8 × Nat) × List ByteArray
 | 0, p => (p, [])
 | n + 1, p => (mtr (rtxs n p).1, (rtxs n p).2 ++ [ts (rtxs n p).1])
def rqds : Nat → List UInt8 × Nat → (List UInt8 × Nat) × List QidV
 | 0, p => (p, [])
 | n + 1, p => (qr (rqds n p).1, (rqds n p).2 ++ [qvR (rqds n p).1])
def Slot.ri (p : List UInt8 × Nat) (m : M) : Slot → (List UInt8 × Nat) × M
 | .msize => (rd 4 p, { m with msize := tv 4 p })
 | .version => (mtr p, { m with version := ts p })
 | .fid => (rd 4 p, { m with fid := tv 4 p })
 | .afid => (rd 4 p, { m with afid := tv 4 p })
 | .new => (rd 4 p, { m with new := tv 4 p })
 | .uname => (mtr p, { m with uname := ts p })
 | .aname => (mtr p, { m with aname := ts p })
 | .ename => (mtr p, { m with ename := ts p })
 | .old => (rd 2 p, { m with old := tv 2 p })
 | .names => ((rtxs (mnN p) (mnR p)).1, { m with names := (rtxs (mnN p) (mnR p)).2 })
 | .qids => ((rqds (mnN p) (mnR p)).1, { m with qids := (rqds (mnN p) (mnR p)).2 })
 | .qid => (qr p, { m with qid := qvR p })
 | .iounit => (rd 4 p, { m with iounit := tv 4 p })
 | .mode => (rd 1 p, { m with mode := tv 1 p })
 | .perm => (rd 4 p, { m with perm := tv 4 p })
 | .name => (mtr p, { m with name := ts p })
 | .offset => (rd 8 p, { m with offset := tv 8 p })
 | .count => (rd 4 p, { m with count := tv 4 p })
 | .data => (mdR p, { m with data := mdB p })
 | .stat => (msR p, { m with stat := decS (stB p) })
def rins : List Slot → List UInt8 × Nat → M → (List UInt8 × Nat) × M
 | [], p, m => (p, m)
 | s :: ss, p, m => rins ss (s.ri p m).1 (s.ri p m).2
end Go.Proofs.YtlmojhlacfjmaaaGreat
