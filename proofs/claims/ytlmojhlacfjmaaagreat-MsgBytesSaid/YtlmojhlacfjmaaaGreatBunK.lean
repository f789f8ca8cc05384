/- What read, tried and Decode of msg return, for any bytes. Conditions: the length is at most a thousand million.
What tried and Decode of msg return, for any bytes. Conditions: the length is at most a thousand million. -/
import Derived.Test.YtlmojhlacfjmaaaGreatBunX
import Derived.Test.YtlmojhlacfjmaaaGreatBunJ
import Derived.Laws.CopyOwn
namespace Go.Proofs.YtlmojhlacfjmaaaGreat
section
open Go.RowKit
set_option maxRecDepth 100000
set_option linter.unusedVariables false

def zeroM : M := { ty := 0, tag := 0, msize := 0, version := ⟨#[]⟩, fid := 0, afid := 0, new := 0, uname := ⟨#[]⟩, aname := ⟨#[]⟩, ename := ⟨#[]⟩, old := 0, names := [], qids := [], qid := ⟨0, 0, 0⟩, iounit := 0, mode := 0, perm := 0, name := ⟨#[]⟩, offset := 0, count := 0, data := [], stat := zeroS }
def headM (l : List UInt8) : M := { zeroM with ty := tv 1 (l, 0), tag := tv 2 (rd 1 (l, 0)) }
def headR (l : List UInt8) : List UInt8 × Nat := rd 2 (rd 1 (l, 0))
def fieldsR (l : List UInt8) : Nat × (List UInt8 × Nat) × M := ins (slots (headM l).ty) (headR l) (headM l)
def isM (l : List UInt8) : Bool := decide ((headR l).2 = 0) && knownT (headM l).ty && decide ((fieldsR l).1 = 0) && decide (lt (fieldsR l).2.1 = 0)
def decM (l : List UInt8) : M := (fieldsR l).2.2
def MVal (w : World) (m : M) (v : Value) (B : Nat) : Prop := ∃ vN vQ vD, v = .agg (m.cells vN vQ vD) ∧ (StrsAt w vN m.names ∧ ∀ k, vN.ownBlock = some k → B ≤ k) ∧ (QidsAt w vQ m.qids ∧ ∀ k, vQ.ownBlock = some k → B ≤ k) ∧ (BytesAt w vD m.data ∧ ∀ k, vD.ownBlock = some k → B ≤ k)
def ReadM (w : World) (l : List UInt8) (e : Ending) (w' : World) : Prop :=
 Below w.heap.size w w' ∧ if isM l then ∃ v, e = .returned v ∧ MVal w' (decM l) v w.heap.size else ∃ err, err ≠ 0 ∧ e = .panicked (errChain err)

theorem nil_cells : zeroM.cells (.slice none 0 0) (.slice none 0 0) (.slice none 0 0) = #[.int .u8 0, .int .u16 0, .int .u32 0, .string ⟨#[]⟩, .int .u32 0, .int .u32 0, .int .u32 0, .string ⟨#[]⟩, .string ⟨#[]⟩, .string ⟨#[]⟩, .int .u16 0, .slice none 0 0, .slice none 0 0, .int .u8 0, .int .u32 0, .int .u64 0, .int .u32 0, .int .u8 0, .int .u32 0, .string ⟨#[]⟩, .int .u64 0, .int .u32 0, .slice none 0 0, .int .u16 0, .int .u32 0, .int .u8 0, .int .u32 0, .int .u64 0, .int .u32 0, .int .u32 0, .int .u32 0, .int .u64 0, .string ⟨#[]⟩, .string ⟨#[]⟩, .string ⟨#[]⟩, .string ⟨#[]⟩] := rfl

theorem rd_err2 {n k : Nat} {p : List UInt8 × Nat} (h : (rd k p).2 ≠ 0) : (rd n (rd k p)).2 = (rd k p).2 := by
 unfold rd restE; simp only
 rw [if_pos]
 exact h

theorem in_of_new (v : Value) (l : List UInt8) (w : World) (h : BytesAt w v l) (hl : l.length ≤ 1000000008) :
  Calls Tryz.prog 57 #[v] w fun e w' => ∃ b, e = .returned (.pointer (some ⟨b, 0, none⟩)) ∧ w.heap.size ≤ b ∧ InIs w' b l 0 ∧ Below w.heap.size w w' ∧ ∀ k, Foot w' b k → w.heap.size ≤ k := by
 go_enter Tryz.func57, Tryz.ntmps57
 go_wp2_with fail
 refine (clone_new v l w h hl).mono ?_
 rintro e w1 ⟨v1, rfl, ⟨h1, hnew⟩, hb1⟩
 obtain ⟨a, c, rfl, hc1, hc2, hc3⟩ := h1.form
 replace hnew := hid hnew
 go_wp2
 go_ret
 have h1' := h1.below ((Below.refl w1.heap.size w1).alloc (Nat.le_refl _) (.cells #[.slice a l.length c, .int .i64 0] 135))
 refine ⟨w1.heap.size, rfl, hb1.size, ⟨_, heap_alloc_new _ _, h1', ?_⟩, hb1.alloc hb1.size _, ?_⟩
 ·intro he
  exact absurd (h1.lt he) (Nat.lt_irrefl _)
 ·rintro k (rfl | ⟨u, hu, hk⟩)
  ·exact hb1.size
  ·rw [block_cell (heap_alloc_new _ _) 0] at hu
   cases hu
   exact hnew.out k hk

set_option maxHeartbeats 1600000 in
theorem mread_any (v : Value) (l : List UInt8) (w : World) (hv : BytesAt w v l) (hl : l.length ≤ 1000000000) : Calls Tryz.prog 48 #[v] w (ReadM w l) := by
 obtain ⟨a, c, rfl, _, _, _⟩ := hv.form
 obtain ⟨W0, hW0⟩ : ∃ W, W = (w.alloc (.cells (zeroM.cells (.slice none 0 0) (.slice none 0 0) (.slice none 0 0)) 33)).alloc (.cells (zeroM.cells (.slice none 0 0) (.slice none 0 0) (.slice none 0 0)) 33) := ⟨_, rfl⟩
 have hb0 : Below w.heap.size w W0 := by rw [hW0]; exact ((Below.refl w.heap.size w).alloc (Nat.le_refl _) _).alloc (by simp) _
 have hv0 := hv.below hb0
 have hr0 : W0.heap[w.heap.size]? = some (.cells (zeroM.cells (.slice none 0 0) (.slice none 0 0) (.slice none 0 0)) 33 (0, 0)) := by rw [hW0, heap_alloc_old _ _ (by simp), heap_alloc_new]
 have hq0 : W0.heap[w.heap.size + 1]? = some (.cells (zeroM.cells (.slice none 0 0) (.slice none 0 0) (.slice none 0 0)) 33 (0, 0)) := by rw [hW0]; exact heap2 _ _ _
 have hz0 : W0.heap.size = w.heap.size + 2 := by rw [hW0]; simp
 replace hr0 := hid hr0
 replace hq0 := hid hq0
 rw [nil_cells] at hW0
 have h1l := rd_le 1 (l, 0)
 have h2l := rd_le 2 (rd 1 (l, 0))
 go_enter Tryz.func48, Tryz.ntmps48
 go_wp2_with fail
 rw [← hW0]
 replace hW0 := hid hW0
 refine (in_of_new _ l _ hv0 (by omega)).mono ?_
 rintro e w1 ⟨b, rfl, hge, hi1, hb1, hnew⟩
 have hq1 := (hb1.block (w.heap.size + 1) (by omega)).trans hq0.out
 have hfq : ¬ Foot w1 b (w.heap.size + 1) := fun hf => by have := hnew _ hf; omega
 have hbx := (Below.refl w1.heap.size w1).alloc (Nat.le_refl _) (.cells #[.pointer (some ⟨b, 0, none⟩)] 127)
 have hA0 : IA (w.heap.size + 1) w1.heap.size (.cells #[.pointer (some ⟨b, 0, none⟩)] 127 (0, 0)) W0 (w1.alloc (.cells #[.pointer (some ⟨b, 0, none⟩)] 127)) b (w.heap.size + 1) zeroM (l, 0) := by
  have hs := OStep.pure hi1.lt hbx
  have hq2 := hs.block (w.heap.size + 1) (lt_of_block hq1) hfq
  exact ⟨hi1.below hbx, hq2.1.trans hq1, hq2.2, ⟨rfl, rfl, rfl⟩, hl, ⟨by omega, Nat.le_refl _⟩, ((hb1.mono (by omega)).trans (hbx.mono (by have := hb1.size; omega))), heap_alloc_new _ _, InIs.new hi1 _, by have := lt_of_block hq1; omega⟩
 have cx0 : (w1.alloc (.cells #[.pointer (some ⟨b, 0, none⟩)] 127)).cell? ⟨w1.heap.size, 0, none⟩ = some (.pointer (some ⟨b, 0, none⟩)) := block_cell hA0.box 0
 replace hA0 := hid hA0
 replace hbx := hid hbx
 have hltq : w.heap.size + 1 < w1.heap.size := lt_of_block hq1
 replace hq1 := hid hq1
 replace hnew := hid hnew
 have hbig : Hid (Below w.heap.size w W0) := hid hb0
 have hbb := hid (show ∀ w', Below (w.heap.size + 1) W0 w' → Below w.heap.size w w' from fun w' h => hb0.trans (h.mono (by omega)))
 have hno : ∀ w', isM l = false → Below (w.heap.size + 1) W0 w' → ∀ err, err ≠ 0 → ReadM w l (.panicked (errChain err)) w' := fun w' h1 h2 err h3 => ⟨hbb.out _ h2, by rw [h1]; exact ⟨err, h3, rfl⟩⟩
 replace hno := hid hno
 clear hv hv0 hb0 hb1 hi1
 by_cases e1 : (rd 1 (l, 0)).2 = 0
 case neg =>
  have hE : Hid (isM l = false) := hid (by
   have : (headR l).2 ≠ 0 := by unfold headR; rw [rd_err2 e1]; exact e1
   unfold isM; simp [this])
  have hbad := hid (in_u8_bad b (w.heap.size + 1) 0 (l, 0) _ hl hA0.out.inn e1)
  replace e1 := hid e1
  go_wp2_with fail
  refine hbad.out.mono ?_
  rintro e w2 ⟨rfl, hs⟩
  go_wp2_with fail
  exact ⟨rfl, hno.out _ hE.out (hA0.out.below.trans (hs.below.mono hA0.out.le.1)) _ e1.out⟩
 have hgood := hid (in_u8_ok b (w.heap.size + 1) 0 _ (l, 0) _ hl hA0.out.inn e1 hA0.out.foot (hA0.out.cell 0) (hA0.out.free 0))
 replace e1 := hid e1
 go_wp2_with fail
 refine hgood.out.mono ?_
 rintro e w2' ⟨rfl, w2, hs2, ha2, rfl⟩
 have hA1 := (hA0.out.step ha2 hs2 h1l).set (m2 := { zeroM with ty := tv 1 (l, 0) }) 0 (.int .u8 (tv 1 (l, 0) : Int)) rfl ⟨rfl, rfl, rfl⟩
 generalize w2.setCell ⟨w.heap.size + 1, 0, none⟩ (.int .u8 (tv 1 (l, 0) : Int)) = W2 at hA1 ⊢
 have cx1 : W2.cell? ⟨w1.heap.size, 0, none⟩ = some (.pointer (some ⟨b, 0, none⟩)) := block_cell hA1.box 0
 clear hs2 ha2 cx0 hgood
 replace hA1 := hid hA1
 by_cases e2 : (rd 2 (rd 1 (l, 0))).2 = 0
 case neg =>
  have hE : Hid (isM l = false) := hid (by
   have : (headR l).2 ≠ 0 := e2
   unfold isM; simp [this])
  have hbad := hid (in_u16_bad b (w.heap.size + 1) 1 _ _ hA1.out.len hA1.out.inn e2)
  replace e2 := hid e2
  go_wp2_with fail
  refine hbad.out.mono ?_
  rintro e w3 ⟨rfl, hs⟩
  go_wp2_with fail
  exact ⟨rfl, hno.out _ hE.out (hA1.out.below.trans (hs.below.mono hA1.out.le.1)) _ e2.out⟩
 have hgood := hid (in_u16_ok b (w.heap.size + 1) 1 _ _ _ hA1.out.len hA1.out.inn e2 hA1.out.foot (hA1.out.cell 1) (hA1.out.free 1))
 have hR0 : Hid ((headR l).2 = 0) := hid e2
 replace e2 := hid e2
 go_wp2_with fail
 refine hgood.out.mono ?_
 rintro e w3' ⟨rfl, w3, hs3, ha3, rfl⟩
 have hA2 : IA (w.heap.size + 1) w1.heap.size (.cells #[.pointer (some ⟨b, 0, none⟩)] 127 (0, 0)) W0 _ b (w.heap.size + 1) (headM l) (headR l) := (hA1.out.step ha3 hs3 h2l).set (m2 := headM l) 1 (.int .u16 (tv 2 (rd 1 (l, 0)) : Int)) rfl ⟨rfl, rfl, rfl⟩
 generalize w3.setCell ⟨w.heap.size + 1, 1, none⟩ (.int .u16 (tv 2 (rd 1 (l, 0)) : Int)) = W3 at hA2 ⊢
 have cx2 : W3.cell? ⟨w1.heap.size, 0, none⟩ = some (.pointer (some ⟨b, 0, none⟩)) := block_cell hA2.box 0
 have cq2 : W3.cell? ⟨w.heap.size + 1, 0, none⟩ = some (.int .u8 ((headM l).ty : Int)) := hA2.cell 0
 have hty : (headM l).ty < 256 := tv_lt 1 (l, 0) (by omega)
 clear hs3 ha3 cx1 hgood hA1 hA0
 replace hA2 := hid hA2
 by_cases hk : knownT (headM l).ty = true
 case neg =>
  have hk2 : knownT (headM l).ty = false := by simpa using hk
  have hE : Hid (isM l = false) := hid (by unfold isM; simp [hk2])
  have hkn := hid (known_any (headM l).ty W3 hty)
  rw [hk2] at hkn
  clear hk hk2
  go_wp2_with fail
  refine hkn.out.mono ?_
  rintro e w4 ⟨rfl, rfl⟩
  go_wp2_with fail
  exact ⟨rfl, hno.out _ hE.out hA2.out.below 2 (by omega)⟩
 have hkn := hid (known_any (headM l).ty W3 hty)
 have hkk := hid hk
 rw [hk] at hkn
 clear hk
 go_wp2_with fail
 refine hkn.out.mono ?_
 rintro e w4 ⟨rfl, rfl⟩
 go_wp2_with fail
 refine (in_fields_any _ _ _ b _ _ _ W0 _ hA2.out hkk.out).mono ?_
 rintro e w4 (⟨h1, rfl, hIE⟩ | ⟨h1, ⟨er, hr, rfl⟩, hb⟩)
 case inr =>
  have hE : Hid (isM l = false) := hid (by
   have : (fieldsR l).1 ≠ 0 := h1
   unfold isM; simp [this])
  clear h1 hA2
  replace hr := hid hr
  replace hb := hid hb
  go_wp2_with fail
  exact ⟨rfl, hno.out _ hE.out hb.out _ hr.out⟩
 have hF0 : Hid ((fieldsR l).1 = 0) := hid h1
 have hIE2 : IE (w.heap.size + 1) w1.heap.size (.cells #[.pointer (some ⟨b, 0, none⟩)] 127 (0, 0)) W0 w4 b (w.heap.size + 1) (decM l) (fieldsR l).2.1 := hIE
 clear h1 hIE hA2 cx2 cq2
 obtain ⟨vN, vQ, vD, hi4, hq4, ⟨hN, hN2⟩, ⟨hQ, hQ2⟩, ⟨hD, hD2⟩, hpl, hb4, hx4⟩ := hIE2
 have cx4 : w4.cell? ⟨w1.heap.size, 0, none⟩ = some (.pointer (some ⟨b, 0, none⟩)) := block_cell hx4 0
 have hr4 := hid ((hb4.block w.heap.size (by omega)).trans hr0.out)
 replace hq4 := hid hq4
 replace hN2 := hid hN2
 replace hQ2 := hid hQ2
 replace hD2 := hid hD2
 replace hb4 := hid hb4
 replace hx4 := hid hx4
 go_wp2_with fail
 have hlt9 : lt (fieldsR l).2.1 ≤ 1000000000 := by
  have h9 : lt (fieldsR l).2.1 ≤ (fieldsR l).2.1.1.length := by unfold lt leftN; split <;> omega
  omega
 refine (left_at b _ _ hi4).mono ?_
 rintro e w5 ⟨rfl, rfl⟩
 by_cases hl0 : lt (fieldsR l).2.1 = 0
 case neg =>
  have hE : Hid (isM l = false) := hid (by unfold isM; simp [hl0])
  have hl1 : 0 < lt (fieldsR l).2.1 := by omega
  clear hl0
  go_wp2_with fail
  exact ⟨rfl, hno.out _ hE.out hb4.out 2 (by omega)⟩
 have hE : Hid (isM l = true) := hid (by
  unfold isM; rw [hR0.out, hkk.out, hF0.out, hl0]; rfl)
 rw [hl0]
 clear hl0 hlt9
 generalize hmm : decM l = mm at *
 replace hmm := hid hmm
 obtain ⟨aN, cN, rfl, _, _⟩ := hN.form
 obtain ⟨aQ, cQ, rfl, _, _⟩ := hQ.form
 obtain ⟨aD, cD, rfl, _, _, _⟩ := hD.form
 go_wp2_with (first
  | (refine wpList_load_row (by rfl) 33 (.tmp 3) (by rfl) (w.heap.size + 1) (by rfl) 33 _ (0, 0) _ hq4.out Tryz.underlying33 (by rfl) (by kernel_rfl) ?_)
  | (refine wpList_store_row (by rfl) 33 (.tmp 2) (.tmp 27) (by rfl) w.heap.size _ (by rfl) (by rfl) 33 _ hr4.out (by kernel_rfl) (by kernel_rfl) (by kernel_rfl) ?_))
 have hr5 := hid (setRow_heap _ _ _ (mm.cells (.slice aN mm.names.length cN) (.slice aQ mm.qids.length cQ) (.slice aD mm.data.length cD)) _ _ hr4.out)
 refine bodyPost_ret (results_cell_row rfl _ _ w.heap.size _ _ _ _ rfl hr5.out Tryz.underlying33 rfl (by kernel_rfl)) rfl ?_
 have hkeep : ∀ k, w.heap.size + 1 ≤ k → (w4.setRow w.heap.size (mm.cells (.slice aN mm.names.length cN) (.slice aQ mm.qids.length cQ) (.slice aD mm.data.length cD))).heap[k]? = w4.heap[k]? := fun k hk => setRow_other _ _ _ _ (by omega)
 refine ⟨below_setRow (hbb.out _ hb4.out) (Nat.le_refl _) _, ?_⟩
 rw [hE.out, if_pos rfl]
 refine ⟨_, rfl, _, _, _, by rw [hmm.out], ⟨?_, fun k hk => by have := hN2.out k hk; omega⟩, ⟨?_, fun k hk => by have := hQ2.out k hk; omega⟩, ⟨?_, fun k hk => by have := hD2.out k hk; omega⟩⟩
 ·rw [hmm.out]; exact RowAt.other hN (by simp) fun j hj => hkeep j (hN2.out j hj)
 ·rw [hmm.out]; exact RowAt.other hQ (by simp) fun j hj => hkeep j (hQ2.out j hj)
 ·rw [hmm.out]; exact RowAt.other hD (by simp) fun j hj => hkeep j (hD2.out j hj)
end
end Go.Proofs.YtlmojhlacfjmaaaGreat

namespace Go.Proofs.YtlmojhlacfjmaaaGreat
section
open Go.RowKit
set_option maxRecDepth 100000
set_option linter.unusedVariables false

theorem MVal.zero {w : World} {B : Nat} : MVal w zeroM (.agg (zeroM.cells (.slice none 0 0) (.slice none 0 0) (.slice none 0 0))) B :=
 ⟨_, _, _, rfl, ⟨RowAt.nil, fun k hk => by cases hk⟩, ⟨RowAt.nil, fun k hk => by cases hk⟩, ⟨RowAt.nil, fun k hk => by cases hk⟩⟩
theorem MVal.other {w w' : World} {m : M} {v : Value} {B B' : Nat} (h : MVal w m v B) (hsz : w.heap.size ≤ w'.heap.size) (hk : ∀ j, B ≤ j → j < w.heap.size → w'.heap[j]? = w.heap[j]?) (hB : B' ≤ B) : MVal w' m v B' := by
 obtain ⟨vN, vQ, vD, rfl, ⟨hN, hN2⟩, ⟨hQ, hQ2⟩, ⟨hD, hD2⟩⟩ := h
 exact ⟨vN, vQ, vD, rfl, ⟨RowAt.other hN hsz fun j hj => hk j (hN2 j hj) (RowAt.blk hN hj), fun k h => by have := hN2 k h; omega⟩, ⟨RowAt.other hQ hsz fun j hj => hk j (hQ2 j hj) (RowAt.blk hQ hj), fun k h => by have := hQ2 k h; omega⟩, ⟨RowAt.other hD hsz fun j hj => hk j (hD2 j hj) (RowAt.blk hD hj), fun k h => by have := hD2 k h; omega⟩⟩
theorem MVal.cells {w : World} {m : M} {v : Value} {B : Nat} (h : MVal w m v B) : ∃ cs : Array Value, v = .agg cs ∧ cs.size = 36 ∧ cs.all (·.oneCell') = true := by
 obtain ⟨vN, vQ, vD, rfl, ⟨hN, hN2⟩, ⟨hQ, hQ2⟩, ⟨hD, hD2⟩⟩ := h
 obtain ⟨aN, cN, rfl, _, _⟩ := hN.form
 obtain ⟨aQ, cQ, rfl, _, _⟩ := hQ.form
 obtain ⟨aD, cD, rfl, _, _, _⟩ := hD.form
 exact ⟨_, rfl, rfl, by kernel_rfl⟩

def TriedM (w : World) (l : List UInt8) (e : Ending) (w' : World) : Prop :=
 Below w.heap.size w w' ∧ ∃ (v : Value) (er : Nat), e = .returned (.tuple #[v, .int .i64 (er : Int)]) ∧ (er = 0 ↔ isM l = true) ∧ MVal w' (if isM l then decM l else zeroM) v w.heap.size

theorem tried_results {tmps : Array Value} {w : World} {g k : Nat} {cs : Array Value} {e : Int} (h2 : tmps.getD 2 undef = .pointer (some ⟨g, 0, none⟩)) (h4 : tmps.getD 3 undef = .pointer (some ⟨k, 0, none⟩))
  (hg : w.heap[g]? = some (.cells cs 33 (0, 0))) (hs : cs.size = 36) (hk : w.cell? ⟨k, 0, none⟩ = some (.int .i64 e)) : (results Tryz.f29 tmps).run Tryz.prog w = .ok (.tuple #[.agg cs, .int .i64 e]) w := by
 have hi : (Tryz.prog.info? 33).map (·.size) = some cs.size := by rw [hs]; kernel_rfl
 have h2' : tmps[2]?.getD undef = .pointer (some ⟨g, 0, none⟩) := by simpa using h2
 have h4' : tmps[3]?.getD undef = .pointer (some ⟨k, 0, none⟩) := by simpa using h4
 have hkv : (loadVar 36 ⟨k, 0, none⟩).run Tryz.prog w = .ok (.int .i64 e) w := by simp [go_sem, hk]
 simp [results, Tryz.results29, h2', h4', asAddr, run_loadVar_row w g 33 33 cs (0, 0) _ hg Tryz.underlying33 rfl hi, hkv]
theorem decode_results {tmps : Array Value} {w : World} {g : Nat} {cs : Array Value} {x : Value} (h2 : tmps.getD 2 undef = .pointer (some ⟨g, 0, none⟩)) (h4 : tmps.getD 3 undef = x)
  (hg : w.heap[g]? = some (.cells cs 33 (0, 0))) (hs : cs.size = 36) : (results Tryz.f11 tmps).run Tryz.prog w = .ok (.tuple #[.agg cs, x]) w := by
 have hi : (Tryz.prog.info? 33).map (·.size) = some cs.size := by rw [hs]; kernel_rfl
 have h2' : tmps[2]?.getD undef = .pointer (some ⟨g, 0, none⟩) := by simpa using h2
 have h4' : tmps[3]?.getD undef = x := by simpa using h4
 simp [results, Tryz.results11, h2', h4', asAddr, run_loadVar_row w g 33 33 cs (0, 0) _ hg Tryz.underlying33 rfl hi]

set_option maxHeartbeats 1600000 in
theorem mtried_any (v : Value) (l : List UInt8) (w : World) (hv : BytesAt w v l) (hl : l.length ≤ 1000000000) : Calls Tryz.prog 29 #[v] w (TriedM w l) := by
 obtain ⟨a, c, rfl, _, _, _⟩ := hv.form
 obtain ⟨W0, hW0⟩ : ∃ W, W = (w.alloc (.cells (zeroM.cells (.slice none 0 0) (.slice none 0 0) (.slice none 0 0)) 33)).alloc (.cells #[.int .i64 0] 36) := ⟨_, rfl⟩
 have hb0 : Below w.heap.size w W0 := by rw [hW0]; exact ((Below.refl w.heap.size w).alloc (Nat.le_refl _) _).alloc (by simp) _
 have hv0 := hv.below hb0
 have hr0 : W0.heap[w.heap.size]? = some (.cells (zeroM.cells (.slice none 0 0) (.slice none 0 0) (.slice none 0 0)) 33 (0, 0)) := by rw [hW0, heap_alloc_old _ _ (by simp), heap_alloc_new]
 have hk0 : W0.heap[w.heap.size + 1]? = some (.cells #[.int .i64 0] 36 (0, 0)) := by rw [hW0]; exact heap2 _ _ _
 have hz0 : W0.heap.size = w.heap.size + 2 := by rw [hW0]; simp
 replace hr0 := hid hr0
 replace hk0 := hid hk0
 rw [nil_cells] at hW0
 have hread := hid (mread_any _ l W0 hv0 hl)
 replace hb0 := hid hb0
 clear hv hv0
 go_enter_defers Tryz.func29, Tryz.ntmps29
 go_wp2_with fail
 rw [← hW0]
 replace hW0 := hid hW0
 refine hread.out.mono ?_
 rintro e w1 ⟨hb1, h1⟩
 have hr1 := hid ((hb1.block w.heap.size (by omega)).trans hr0.out)
 have hk1 := hid ((hb1.block (w.heap.size + 1) (by omega)).trans hk0.out)
 have hbb : Hid (Below w.heap.size w w1) := hid (hb0.out.trans (hb1.mono (by omega)))
 have hz1 := hb1.size
 by_cases hM : isM l = true
 case neg =>
  rw [if_neg hM] at h1
  obtain ⟨er, hne, rfl⟩ := h1
  have hM2 := hid hM
  replace hne := hid hne
  clear hM hb1
  go_wp2_with fail
  refine leaves_cons (f := 20) (args := #[.pointer (some ⟨w.heap.size + 1, 0, none⟩)]) (by simp) (by simp [go_sem]) ?_
  refine (mcaught_panicking (w.heap.size + 1) 0 er _ hk1.out).mono ?_
  rintro en u' w'' ⟨rfl, rfl, rfl⟩
  simp only [settle, errChainR]
  refine ⟨_, tried_results rfl rfl ((block_set_other (by show _ ≠ _; simp)).trans hr1.out) rfl (block_cell (block_set hk1.out 0 _) 0), ?_⟩
  refine ⟨hbb.out.setCell (by simp) _, _, er, rfl, ⟨fun h => absurd h hne.out, fun h => absurd h hM2.out⟩, ?_⟩
  rw [if_neg hM2.out]
  exact MVal.zero
 rw [if_pos hM] at h1
 obtain ⟨v, rfl, hval⟩ := h1
 obtain ⟨cs, rfl, hcs, hone⟩ := hval.cells
 have hM2 := hid hM
 replace hval := hid hval
 replace hone := hid hone
 replace hcs := hid hcs
 have hk9 : (w1.setRow w.heap.size cs).heap[w.heap.size + 1]? = some (.cells #[.int .i64 0] 36 (0, 0)) := (setRow_other _ _ _ _ (by omega)).trans hk1.out
 have ck9 : (w1.setRow w.heap.size cs).cell? ⟨w.heap.size + 1, 0, none⟩ = some (.int .i64 0) := block_cell hk9 0
 have fk9 : (w1.setRow w.heap.size cs).frozen? ⟨w.heap.size + 1, 0, none⟩ = false := block_free hk9 0
 have hr9 := hid (setRow_heap _ _ _ cs _ _ hr1.out)
 replace hk9 := hid hk9
 clear hM hb1
 go_wp2_with (refine wpList_store_row (by rfl) 33 (.tmp 2) (.tmp 5) (by rfl) w.heap.size _ (by rfl) (by rfl) 33 _ hr1.out (by rw [hcs.out]; kernel_rfl) (by rw [hcs.out]; rfl) hone.out ?_)
 refine leaves_cons (f := 20) (args := #[.pointer (some ⟨w.heap.size + 1, 0, none⟩)]) (by simp) (by simp [go_sem]) ?_
 refine (mcaught_idle (w.heap.size + 1) _).mono ?_
 rintro en u' w'' ⟨rfl, rfl, rfl⟩
 simp only [settle]
 refine ⟨_, tried_results rfl rfl ((block_set_other (by show _ ≠ _; simp)).trans hr9.out) hcs.out (block_cell (block_set hk9.out 0 _) 0), ?_⟩
 refine ⟨(below_setRow hbb.out (Nat.le_refl _) _).setCell (by simp) _, _, 0, rfl, ⟨fun _ => hM2.out, fun _ => rfl⟩, ?_⟩
 rw [if_pos hM2.out]
 exact hval.out.other (by simp) (fun j h1 h2 => (block_set_other (by show j ≠ w.heap.size + 1; omega)).trans (setRow_other _ _ _ _ (by omega))) (by omega)

def DecodeM (w : World) (l : List UInt8) (e : Ending) (w' : World) : Prop :=
 Below w.heap.size w w' ∧ ∃ v, e = .returned (.tuple #[v, .int .i64 (if isM l then 0 else 2)]) ∧ MVal w' (if isM l then decM l else zeroM) v w.heap.size

set_option maxHeartbeats 1600000 in
theorem mdecode_any (v : Value) (l : List UInt8) (w : World) (hv : BytesAt w v l) (hl : l.length ≤ 1000000000) : Calls Tryz.prog 11 #[v] w (DecodeM w l) := by
 obtain ⟨a, c, rfl, _, _, _⟩ := hv.form
 obtain ⟨W0, hW0⟩ : ∃ W, W = w.alloc (.cells (zeroM.cells (.slice none 0 0) (.slice none 0 0) (.slice none 0 0)) 33) := ⟨_, rfl⟩
 have hb0 : Below w.heap.size w W0 := by rw [hW0]; exact (Below.refl w.heap.size w).alloc (Nat.le_refl _) _
 have hv0 := hv.below hb0
 have hr0 : W0.heap[w.heap.size]? = some (.cells (zeroM.cells (.slice none 0 0) (.slice none 0 0) (.slice none 0 0)) 33 (0, 0)) := by rw [hW0, heap_alloc_new]
 have hz0 : W0.heap.size = w.heap.size + 1 := by rw [hW0]; simp
 replace hr0 := hid hr0
 rw [nil_cells] at hW0
 have htr := hid (mtried_any _ l W0 hv0 hl)
 replace hb0 := hid hb0
 clear hv hv0
 go_enter Tryz.func11, Tryz.ntmps11
 go_wp2_with fail
 rw [← hW0]
 replace hW0 := hid hW0
 refine htr.out.mono ?_
 rintro e w1 ⟨hb1, v, er, rfl, her, hval⟩
 obtain ⟨cs, rfl, hcs, hone⟩ := hval.cells
 have hr1 := hid ((hb1.block w.heap.size (by omega)).trans hr0.out)
 have hbb := hid (hb0.out.trans (hb1.mono (by omega)))
 have hz1 := hb1.size
 have hnew := hid (heap_alloc_new w1 (.cells (zeroM.cells (.slice none 0 0) (.slice none 0 0) (.slice none 0 0)) 33))
 have hn2 := hid (setRow_heap _ _ _ cs _ _ hnew.out)
 have hr2 := hid ((setRow_other (w1.alloc (.cells (zeroM.cells (.slice none 0 0) (.slice none 0 0) (.slice none 0 0)) 33)) w1.heap.size w.heap.size cs (by omega)).trans ((heap_alloc_old w1 (.cells (zeroM.cells (.slice none 0 0) (.slice none 0 0) (.slice none 0 0)) 33) (by omega)).trans hr1.out))
 have hbb2 : Hid (Below w.heap.size w ((w1.alloc (.cells (zeroM.cells (.slice none 0 0) (.slice none 0 0) (.slice none 0 0)) 33)).setRow w1.heap.size cs)) := hid (below_setRow (hbb.out.alloc (by omega) _) (by omega) cs)
 have hv2 : Hid (MVal ((w1.alloc (.cells (zeroM.cells (.slice none 0 0) (.slice none 0 0) (.slice none 0 0)) 33)).setRow w1.heap.size cs) (if isM l then decM l else zeroM) (.agg cs) W0.heap.size) := hid (hval.other (by simp) (fun j h1 h2 => (setRow_other _ _ _ _ (by omega)).trans (heap_alloc_old _ _ (by omega))) (Nat.le_refl _))
 rw [nil_cells] at hnew hn2 hr2 hbb2 hv2
 replace hone := hid hone
 replace hcs := hid hcs
 replace hval := hid hval
 replace hb1 := hid hb1
 by_cases h0 : er = 0
 ·have hM := hid (her.1 h0)
  subst h0
  clear her
  go_wp2_with (first
   | (refine wpList_store_row (by rfl) 33 (.tmp 4) (.tmp 9) (by rfl) w1.heap.size _ (by rfl) (by rfl) 33 _ hnew.out (by rw [hcs.out]; kernel_rfl) (by rw [hcs.out]; rfl) hone.out ?_)
   | (refine wpList_load_row (by rfl) 33 (.tmp 4) (by rfl) w1.heap.size (by rfl) 33 _ (0, 0) _ hn2.out Tryz.underlying33 (by rfl) (by rw [hcs.out]; kernel_rfl) ?_)
   | (refine wpList_store_row (by rfl) 33 (.tmp 2) (.tmp 14) (by rfl) w.heap.size _ (by rfl) (by rfl) 33 _ hr2.out (by rw [hcs.out]; kernel_rfl) (by rw [hcs.out]; rfl) hone.out ?_))
  refine bodyPost_ret (decode_results rfl rfl (setRow_heap _ _ _ cs _ _ hr2.out) hcs.out) rfl ?_
  refine ⟨below_setRow hbb2.out (Nat.le_refl _) _, _, by rw [if_pos hM.out]; rfl, hv2.out.other (by simp) (fun j h1 h2 => setRow_other _ _ _ _ (by omega)) (by omega)⟩
 ·have hM : Hid (¬ isM l = true) := hid (fun h => h0 (her.2 h))
  have k0 : ((er : Int) != 0) = true := by simpa using h0
  clear her
  replace h0 := hid h0
  go_wp2_with (first
   | (refine wpList_store_row (by rfl) 33 (.tmp 4) (.tmp 9) (by rfl) w1.heap.size _ (by rfl) (by rfl) 33 _ hnew.out (by rw [hcs.out]; kernel_rfl) (by rw [hcs.out]; rfl) hone.out ?_)
   | (refine wpList_store_row (by rfl) 33 (.tmp 2) (.tmp 13) (by rfl) w.heap.size (zeroM.cells (.slice none 0 0) (.slice none 0 0) (.slice none 0 0)) (by rfl) (by rfl) 33 _ hr2.out (by kernel_rfl) (by kernel_rfl) (by kernel_rfl) ?_))
  refine bodyPost_ret (decode_results rfl rfl (setRow_heap _ _ _ (zeroM.cells (.slice none 0 0) (.slice none 0 0) (.slice none 0 0)) _ _ hr2.out) rfl) rfl ?_
  refine ⟨below_setRow hbb2.out (Nat.le_refl _) _, _, by rw [if_neg hM.out]; rfl, ?_⟩
  rw [if_neg hM.out]
  exact MVal.zero
end
end Go.Proofs.YtlmojhlacfjmaaaGreat
