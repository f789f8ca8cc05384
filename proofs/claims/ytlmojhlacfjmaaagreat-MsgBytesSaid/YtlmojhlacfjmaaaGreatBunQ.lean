/- What a message's bytes are read back as. Conditions: texts of at most a thousand bytes each.
The law package's own example (known of loggialaw5) holds. No condition. -/
import Derived.Test.YtlmojhlacfjmaaaGreatBunO
import Derived.Test.YtlmojhlacfjmaaaGreatBunE
import Derived.Test.YtlmojhlacfjmaaaGreatBunL
namespace Go.Proofs.YtlmojhlacfjmaaaGreat
section
open Go.RowKit
set_option maxRecDepth 100000
set_option linter.unusedVariables false

def Slot.cp (a x : M) : Slot → M
 | .msize => { x with msize := a.msize }
 | .version => { x with version := a.version }
 | .fid => { x with fid := a.fid }
 | .afid => { x with afid := a.afid }
 | .new => { x with new := a.new }
 | .uname => { x with uname := a.uname }
 | .aname => { x with aname := a.aname }
 | .ename => { x with ename := a.ename }
 | .old => { x with old := a.old }
 | .names => { x with names := a.names }
 | .qids => { x with qids := a.qids }
 | .qid => { x with qid := a.qid }
 | .iounit => { x with iounit := a.iounit }
 | .mode => { x with mode := a.mode }
 | .perm => { x with perm := a.perm }
 | .name => { x with name := a.name }
 | .offset => { x with offset := a.offset }
 | .count => { x with count := a.count }
 | .data => { x with data := a.data }
 | .stat => { x with stat := a.stat }
def cps (a : M) : List Slot → M → M
 | [], x => x
 | s :: ss, x => cps a ss (s.cp a x)
theorem copy_m (s : Slot) (a x : MV) : (s.copy a x).m = s.cp a.m x.m := by cases s <;> rfl
theorem copies_m (a : MV) : ∀ (ss : List Slot) (x : MV), (copies a ss x).m = cps a.m ss x.m
 | [], _ => rfl
 | s :: ss, x => by
  show (copies a ss (s.copy a x)).m = cps a.m ss (s.cp a.m x.m)
  rw [copies_m a ss, copy_m]
def headTT (t g : Nat) : M := { zeroM with ty := t, tag := g }
def M.head (m : M) : M := headTT m.ty m.tag
def M.named (m : M) : M := cps m (slots m.ty) m.head
theorem namedV_m (a : MV) : (namedV a).m = a.m.named := copies_m a _ _
theorem cps_ty (a : M) : ∀ (ss : List Slot) (x : M), (cps a ss x).ty = x.ty ∧ (cps a ss x).tag = x.tag
 | [], _ => ⟨rfl, rfl⟩
 | s :: ss, x => by
  obtain ⟨h1, h2⟩ := cps_ty a ss (s.cp a x)
  exact ⟨h1.trans (by cases s <;> rfl), h2.trans (by cases s <;> rfl)⟩
theorem named_ty (m : M) : m.named.ty = m.ty ∧ m.named.tag = m.tag := cps_ty m _ _
theorem cps_idem (m : M) (h : M) (t : Nat) : cps (cps m (slots t) h) (slots t) h = cps m (slots t) h := by
 unfold slots
 split <;> rfl
theorem named_named (m : M) : m.named.named = m.named := by
 unfold M.named
 rw [show M.head (cps m (slots m.ty) m.head) = m.head from by
  obtain ⟨h1, h2⟩ := named_ty m
  show headTT m.named.ty m.named.tag = headTT m.ty m.tag
  rw [h1, h2], show (cps m (slots m.ty) m.head).ty = m.ty from (named_ty m).1]
 exact cps_idem m m.head m.ty

theorem texts_pre : ∀ (L : List ByteArray) (r : List UInt8), textsErr L = 0 → textsIn L.length (textsBytes L ++ r, 0) = (0, (r, 0), L)
 | [], r, _ => rfl
 | t :: L, r, h => by
  have hm : mayN t = 0 := by
   by_cases h0 : mayN t = 0
   ·exact h0
   ·simp only [textsErr, if_neg h0] at h; exact absurd h h0
  simp only [textsErr, if_pos hm] at h
  obtain ⟨h1, h2, h3⟩ := text_pre (textsBytes L ++ r) hm
  simp only [textsBytes, List.length_cons, textsIn, List.append_assoc]
  rw [if_neg (by rw [h2]; simp), h1, h3, texts_pre L r h]
theorem qids_pre : ∀ (Q : List QidV) (r : List UInt8), (∀ q ∈ Q, QidOk q) → qidsIn Q.length (qidsBytes Q ++ r, 0) = (0, (r, 0), Q)
 | [], r, _ => rfl
 | q :: Q, r, h => by
  obtain ⟨k1, k2, k3⟩ := h q (List.mem_cons_self ..)
  have e : qidsBytes (q :: Q) ++ r = qidBytes q.t q.v q.p ++ (qidsBytes Q ++ r) := by simp [qidsBytes, QidV.bytes]
  have hq := qr_pre q.t q.v q.p (qidsBytes Q ++ r)
  obtain ⟨v1, v2, v3⟩ := qv_pre q.t q.v q.p (qidsBytes Q ++ r) k1 k2 k3
  simp only [List.length_cons, qidsIn]
  rw [e, if_neg (by rw [hq]; simp), hq, qids_pre Q r (fun x hx => h x (List.mem_cons_of_mem _ hx))]
  simp only [qvR, v1, v2, v3]

theorem slot_pre {m : M} (hm : MOk m) (hf : MFew m) (x : M) (s : Slot) (r : List UInt8) (he : (s.o m).1 = 0) : s.i ((s.o m).2 ++ r, 0) x = (0, (r, 0), s.cp m x) := by
 cases s
 case msize =>
  simp only [Slot.o, Slot.i, Slot.cp]
  rw [rd_num, tv_num r (by have := hm.msize; omega)]
 case version =>
  simp only [Slot.o] at he
  obtain ⟨h1, h2, h3⟩ := text_pre r he
  simp only [Slot.o, Slot.i, Slot.cp]
  rw [h1, h2, h3]
 case fid =>
  simp only [Slot.o, Slot.i, Slot.cp]
  rw [rd_num, tv_num r (by have := hm.fid; omega)]
 case afid =>
  simp only [Slot.o, Slot.i, Slot.cp]
  rw [rd_num, tv_num r (by have := hm.afid; omega)]
 case new =>
  simp only [Slot.o, Slot.i, Slot.cp]
  rw [rd_num, tv_num r (by have := hm.new; omega)]
 case uname =>
  simp only [Slot.o] at he
  obtain ⟨h1, h2, h3⟩ := text_pre r he
  simp only [Slot.o, Slot.i, Slot.cp]
  rw [h1, h2, h3]
 case aname =>
  simp only [Slot.o] at he
  obtain ⟨h1, h2, h3⟩ := text_pre r he
  simp only [Slot.o, Slot.i, Slot.cp]
  rw [h1, h2, h3]
 case ename =>
  simp only [Slot.o] at he
  obtain ⟨h1, h2, h3⟩ := text_pre r he
  simp only [Slot.o, Slot.i, Slot.cp]
  rw [h1, h2, h3]
 case old =>
  simp only [Slot.o, Slot.i, Slot.cp]
  rw [rd_num, tv_num r (by have := hm.old; omega)]
 case names =>
  have h16 : m.names.length ≤ 16 := by simp only [Slot.o] at he; split at he <;> omega
  have he2 : textsErr m.names = 0 := by simpa [Slot.o, Nat.not_lt.2 h16] using he
  have h1 : tv 2 (numBytes m.names.length 2 ++ (textsBytes m.names ++ r), 0) = m.names.length := tv_num _ (by omega)
  have h2 : rd 2 (numBytes m.names.length 2 ++ (textsBytes m.names ++ r), 0) = (textsBytes m.names ++ r, 0) := rd_num _
  simp only [Slot.o, Slot.i, Slot.cp, List.append_assoc]
  unfold txE txR txL
  rw [h1, h2, texts_pre m.names r he2, if_neg (by simp), if_neg (by omega)]
 case qids =>
  have h16 : m.qids.length ≤ 16 := by simp only [Slot.o] at he; split at he <;> omega
  have h1 : tv 2 (numBytes m.qids.length 2 ++ (qidsBytes m.qids ++ r), 0) = m.qids.length := tv_num _ (by omega)
  have h2 : rd 2 (numBytes m.qids.length 2 ++ (qidsBytes m.qids ++ r), 0) = (qidsBytes m.qids ++ r, 0) := rd_num _
  simp only [Slot.o, Slot.i, Slot.cp, List.append_assoc]
  unfold qsE qsR qsL
  rw [h1, h2, qids_pre m.qids r hm.qids, if_neg (by simp), if_neg (by omega)]
 case qid =>
  obtain ⟨v1, v2, v3⟩ := qv_pre m.qid.t m.qid.v m.qid.p r hm.qid.t hm.qid.v hm.qid.p
  simp only [Slot.o, Slot.i, Slot.cp, QidV.bytes]
  rw [qr_pre, qvR, v1, v2, v3]
 case iounit =>
  simp only [Slot.o, Slot.i, Slot.cp]
  rw [rd_num, tv_num r (by have := hm.iounit; omega)]
 case mode =>
  simp only [Slot.o, Slot.i, Slot.cp]
  rw [rd_num, tv_num r (by have := hm.mode; omega)]
 case perm =>
  simp only [Slot.o, Slot.i, Slot.cp]
  rw [rd_num, tv_num r (by have := hm.perm; omega)]
 case name =>
  simp only [Slot.o] at he
  obtain ⟨h1, h2, h3⟩ := text_pre r he
  simp only [Slot.o, Slot.i, Slot.cp]
  rw [h1, h2, h3]
 case offset =>
  simp only [Slot.o, Slot.i, Slot.cp]
  rw [rd_num, tv_num r (by have := hm.offset; omega)]
 case count =>
  simp only [Slot.o, Slot.i, Slot.cp]
  rw [rd_num, tv_num r (by have := hm.count; omega)]
 case data =>
  have h16 : m.data.length ≤ 8192 := by simp only [Slot.o] at he; split at he <;> omega
  have h1 : tv 4 (numBytes m.data.length 4 ++ (m.data ++ r), 0) = m.data.length := tv_num _ (by omega)
  have h2 : rd 4 (numBytes m.data.length 4 ++ (m.data ++ r), 0) = (m.data ++ r, 0) := rd_num _
  obtain ⟨h3, h4⟩ := raw_pre m.data r
  simp only [Slot.o, Slot.i, Slot.cp, List.append_assoc]
  unfold daE daR daB
  rw [h1, h2, h4]
  simp only [h3]
  rw [if_neg (by simp), if_neg (by omega)]
 case stat =>
  simp only [Slot.o] at he
  have hl := bytes_le m.stat hf.stat
  have h1 : tv 2 (numBytes m.stat.bytes.length 2 ++ (m.stat.bytes ++ r), 0) = m.stat.bytes.length := tv_num _ (by omega)
  have h2 : rd 2 (numBytes m.stat.bytes.length 2 ++ (m.stat.bytes ++ r), 0) = (m.stat.bytes ++ r, 0) := rd_num _
  obtain ⟨h3, h4⟩ := raw_pre m.stat.bytes r
  obtain ⟨d1, d2, d3⟩ := dec_back hm.stat hf.stat he []
  rw [List.append_nil] at d1 d2 d3
  have hB : stB (numBytes m.stat.bytes.length 2 ++ (m.stat.bytes ++ r), 0) = m.stat.bytes := by unfold stB; rw [h1, h2]; exact h3
  have hR : stR (numBytes m.stat.bytes.length 2 ++ (m.stat.bytes ++ r), 0) = (r, 0) := by unfold stR; rw [h1, h2]; exact h4
  have hE : stE (numBytes m.stat.bytes.length 2 ++ (m.stat.bytes ++ r), 0) = 0 := by
   unfold stE
   rw [hB, hR, h2, d1, d3]
   simp
  simp only [Slot.o, Slot.i, Slot.cp, List.append_assoc]
  rw [hB, hR, hE, d2]

theorem ins_pre {m : M} (hm : MOk m) (hf : MFew m) : ∀ (ss : List Slot) (x : M) (r : List UInt8), (outs m ss).1 = 0 → ins ss ((outs m ss).2 ++ r, 0) x = (0, (r, 0), cps m ss x)
 | [], x, r, _ => rfl
 | s :: ss, x, r, h => by
  have he : (s.o m).1 = 0 := by
   by_cases h0 : (s.o m).1 = 0
   ·exact h0
   ·rw [outs_bad h0] at h; exact absurd h h0
  rw [outs_ok he] at h ⊢
  have h1 := slot_pre hm hf x s ((outs m ss).2 ++ r) he
  rw [List.append_assoc, ins_ok (by rw [h1]), h1]
  exact ins_pre hm hf ss (s.cp m x) r h

theorem err_known {m : M} (he : m.err = 0) : knownT m.ty = true ∧ (outs m (slots m.ty)).1 = 0 := by
 unfold M.err at he
 split at he
 ·next h => exact ⟨h, he⟩
 ·omega
theorem bytes_eq {m : M} (he : m.err = 0) : m.bytes = numBytes m.ty 1 ++ (numBytes m.tag 2 ++ (outs m (slots m.ty)).2) := by
 unfold M.bytes; rw [if_pos he, List.append_assoc]
theorem back {m : M} (hm : MOk m) (hf : MFew m) (he : m.err = 0) (r : List UInt8) : headM (m.bytes ++ r) = m.head ∧ (headR (m.bytes ++ r)).2 = 0 ∧ fieldsR (m.bytes ++ r) = (0, (r, 0), m.named) := by
 obtain ⟨hk, ho⟩ := err_known he
 have h1 : tv 1 (m.bytes ++ r, 0) = m.ty := by rw [bytes_eq he, List.append_assoc]; exact tv_num _ (by have := hm.ty; omega)
 have h2 : rd 1 (m.bytes ++ r, 0) = (numBytes m.tag 2 ++ ((outs m (slots m.ty)).2 ++ r), 0) := by rw [bytes_eq he, List.append_assoc, rd_num, List.append_assoc]
 have h3 : tv 2 (rd 1 (m.bytes ++ r, 0)) = m.tag := by rw [h2]; exact tv_num _ (by have := hm.tag; omega)
 have h4 : headR (m.bytes ++ r) = ((outs m (slots m.ty)).2 ++ r, 0) := by unfold headR; rw [h2, rd_num]
 have h5 : headM (m.bytes ++ r) = m.head := by show headTT (tv 1 (m.bytes ++ r, 0)) (tv 2 (rd 1 (m.bytes ++ r, 0))) = headTT m.ty m.tag; rw [h1, h3]
 refine ⟨h5, by rw [h4], ?_⟩
 unfold fieldsR
 rw [h5, h4]
 exact ins_pre hm hf (slots m.ty) m.head r ho
theorem back_is {m : M} (hm : MOk m) (hf : MFew m) (he : m.err = 0) : isM m.bytes = true ∧ decM m.bytes = m.named := by
 obtain ⟨h1, h2, h3⟩ := back hm hf he []
 rw [List.append_nil] at h1 h2 h3
 refine ⟨?_, by unfold decM; rw [h3]⟩
 unfold isM
 rw [h1, h2, h3]
 have hk := (err_known he).1
 rw [show m.head.ty = m.ty from rfl, hk]
 simp [lt, leftN]
theorem eqF_iff {x y : M} : eqF0 x y = true ↔ x = y := by
 cases x; cases y
 simp [eqF0, eqF1, eqF2, eqF3, eqF4, eqF5, eqF6, eqF7, eqF8, eqF9, eqF10, eqF11, eqF12, eqF13, eqF14, eqF15, eqF16, eqF17, eqF18, eqF19, eqF20, eqF21, eqQ_iff, eqS_iff, eqQL_iff]
theorem sameB_iff {a b : MV} : sameB a b = true ↔ a.m.named = b.m.named := by
 unfold sameB; rw [eqF_iff, namedV_m, namedV_m]
end
end Go.Proofs.YtlmojhlacfjmaaaGreat

namespace Go.Proofs.YtlmojhlacfjmaaaGreat
section
open Go.RowKit
set_option maxRecDepth 100000
set_option linter.unusedVariables false

def kM : M := { zeroM with ty := 110, tag := 7, fid := 1, new := 2, names := [⟨#[97]⟩, ⟨#[98]⟩] }
def bM : M := { zeroM with ty := 106 }
theorem kM_err : kM.err = 0 := by kernel_rfl
theorem kM_len : kM.bytes.length = 19 := by kernel_rfl
theorem bM_err : bM.err = 2 := by kernel_rfl
theorem bad_is : isM [110, 7, 0, 1, 0] = false := by kernel_rfl
theorem zeroS_ok : StatOk zeroS := by constructor <;> first | decide | (show (0 : Nat) ≤ maxLen; unfold maxLen; omega)
theorem kM_ok : MOk kM := by
 constructor <;> first | decide | exact ⟨by decide, by decide, by decide⟩ | exact zeroS_ok | (intro q hq; cases hq)
theorem bM_ok : MOk bM := by
 constructor <;> first | decide | exact ⟨by decide, by decide, by decide⟩ | exact zeroS_ok | (intro q hq; cases hq)
theorem kM_few : MFew kM := by
 constructor <;> first | decide | exact ⟨by decide, by decide, by decide, by decide⟩ | (intro s hs; simp [kM] at hs; rcases hs with rfl | rfl <;> decide)
theorem bM_few : MFew bM := by
 constructor <;> first | decide | exact ⟨by decide, by decide, by decide, by decide⟩ | (intro s hs; cases hs)

def kV (k : Nat) : MV := ⟨kM, .slice (some ⟨k, 0, none⟩) 2 2, .slice none 0 0, .slice none 0 0⟩
theorem wpl_row {ops : Array Oper} {Q : Exit → Act → World → Prop} {o : Oper} {rest : List Oper} {a : Act} {w : World} (x : Operand) (ho : o.op = .load 33 x) (g : Nat) (hx : a.eval x = pt g 0) (cs : Array Value) (hg : w.heap[g]? = some (.cells cs 33 (0, 0))) (hs : cs.size = 36)
  (hw : Region.wanted o (yielded ops a.tmps) = true) (h : wpList Tryz.prog ops Q rest (a.put o.dst (.agg cs)) w) : wpList Tryz.prog ops Q (o :: rest) a w :=
 wpl_value hw (run_row_load w o _ x g cs ho hx hg hs) h
set_option maxHeartbeats 3200000 in
theorem known5 (w : World) : Calls Tryz.prog 6 #[] w (Holds w) := by
 obtain ⟨W0, hW0⟩ : ∃ W, W = (w.alloc (.cells #[.string ⟨#[97]⟩, .string ⟨#[98]⟩] 9)).alloc (.cells (zeroM.cells (.slice none 0 0) (.slice none 0 0) (.slice none 0 0)) 33) := ⟨_, rfl⟩
 have hz0 : W0.heap.size = w.heap.size + 2 := by rw [hW0]; simp
 have hs0 : W0.heap[w.heap.size]? = some (.cells #[.string ⟨#[97]⟩, .string ⟨#[98]⟩] 9 (0, 0)) := by rw [hW0, heap_alloc_old _ _ (by simp), heap_alloc_new]
 have h1 : W0.heap[w.heap.size + 1]? = some (.cells (zeroM.cells (.slice none 0 0) (.slice none 0 0) (.slice none 0 0)) 33 (0, 0)) := by rw [hW0]; exact heap2 _ _ _
 have hb0 : Below w.heap.size w W0 := by rw [hW0]; exact ((Below.refl w.heap.size w).alloc (Nat.le_refl _) _).alloc (by simp) _
 obtain ⟨W1, hW1⟩ : ∃ W, W = W0.setRow (w.heap.size + 1) (kV w.heap.size).cells := ⟨_, rfl⟩
 have hz1 : W1.heap.size = w.heap.size + 2 := by rw [hW1]; simp [hz0]
 have hb1 : Below w.heap.size w W1 := by rw [hW1]; exact below_setRow hb0 (by omega) _
 have hk1 : W1.heap[w.heap.size + 1]? = some (.cells (kV w.heap.size).cells 33 (0, 0)) := by rw [hW1]; exact setRow_heap _ _ _ _ _ _ h1
 have hs1 : W1.heap[w.heap.size]? = some (.cells #[.string ⟨#[97]⟩, .string ⟨#[98]⟩] 9 (0, 0)) := by rw [hW1]; exact (setRow_other _ _ _ _ (by omega)).trans hs0
 have hA1 : (kV w.heap.size).At W1 := ⟨RowAt.of_block (n := 2) hs1 rfl (by unfold maxLen; omega), RowAt.nil, RowAt.nil⟩
 have hh1 := hid h1
 clear h1 hs0 hs1 hb0
 replace hb1 := hid hb1
 replace hk1 := hid hk1
 replace hA1 := hid hA1
 rw [nil_cells] at hW0
 go_enter Tryz.func6, Tryz.ntmps6
 go_wp2_with (first
  | (refine wpList_store_row (by rfl) 33 (.tmp 1) (.tmp 12) (by rfl) (w.heap.size + 1) (kV w.heap.size).cells (by rfl) (by rfl) 33 _ (hW0 ▸ hh1.out) (by kernel_rfl) (by kernel_rfl) (by kernel_rfl) ?_)
  | (rw [← hW0]; replace hW0 := hid hW0)
  | (rw [← hW1]; replace hW1 := hid hW1)
  | (refine wpList_load_row (by rfl) 33 (.tmp 1) (by rfl) (w.heap.size + 1) (by rfl) 33 _ (0, 0) _ hk1.out Tryz.underlying33 (by rfl) (by kernel_rfl) ?_))
 refine (mencode_any kM _ _ _ W1 kM_ok kM_few hA1.out.1 hA1.out.2.1 hA1.out.2.2).mono ?_
 rintro e W2 ⟨v2, rfl, ⟨hv2, hn2⟩, hb2⟩
 rw [kM_err]
 obtain ⟨hk, hd⟩ := back_is kM_ok kM_few kM_err
 have hlen : kM.bytes.length ≤ 1000000000 := by rw [kM_len]; omega
 obtain ⟨a2, c2, rfl, _, _, _⟩ := hv2.form
 have hA2 := hid (hA1.out.below hb2)
 have hk2 := hid ((hb2.block (w.heap.size + 1) (by omega)).trans hk1.out)
 have hB2 := hid (hb1.out.trans (hb2.mono (by omega)))
 have hz2 : w.heap.size + 2 ≤ W2.heap.size := by have := hb2.size; omega
 have hdec := hid (mdecode_any _ _ W2 hv2 hlen)
 clear hv2 hn2 hb2 hA1 hk1 hb1
 go_wp2_with fail
 refine hdec.out.mono ?_
 rintro e W3 ⟨hb3, v3, rfl, hM3⟩
 rw [if_pos hk] at hM3 ⊢
 rw [hd] at hM3
 have hA3 := hid (hA2.out.below hb3)
 have hk3 := hid ((hb3.block (w.heap.size + 1) (by omega)).trans hk2.out)
 have hB3 := hid (hB2.out.trans (hb3.mono (by omega)))
 have hz3 : w.heap.size + 2 ≤ W3.heap.size := by have := hb3.size; omega
 obtain ⟨vN, vQ, vD, rfl, ⟨hN, _⟩, ⟨hQ, _⟩, ⟨hD, _⟩⟩ := hM3
 obtain ⟨X, hX⟩ : ∃ X : MV, X = ⟨kM.named, vN, vQ, vD⟩ := ⟨_, rfl⟩
 have hXA : X.At W3 := by rw [hX]; exact ⟨hN, hQ, hD⟩
 rw [show kM.named.cells vN vQ vD = X.cells from by rw [hX]; rfl]
 have hXc := hid hXA.cells
 have hXm : Hid (X.m = kM.named) := hid (by rw [hX])
 have hnew := hid (heap_alloc_new W3 (.cells (zeroM.cells (.slice none 0 0) (.slice none 0 0) (.slice none 0 0)) 33))
 obtain ⟨W4, hW4⟩ : ∃ W, W = (W3.alloc (.cells (zeroM.cells (.slice none 0 0) (.slice none 0 0) (.slice none 0 0)) 33)).setRow W3.heap.size X.cells := ⟨_, rfl⟩
 have hb4 : Below W3.heap.size W3 W4 := by rw [hW4]; exact below_setRow ((Below.refl _ _).alloc (Nat.le_refl _) _) (Nat.le_refl _) _
 have hx4 : W4.heap[W3.heap.size]? = some (.cells X.cells 33 (0, 0)) := by rw [hW4]; exact setRow_heap _ _ _ _ _ _ hnew.out
 have hz4 : W4.heap.size = W3.heap.size + 1 := by rw [hW4]; simp
 have hXA4 := hid (hXA.below hb4)
 have hA4 := hid (hA3.out.below hb4)
 have hk4 := hid ((hb4.block (w.heap.size + 1) (by omega)).trans hk3.out)
 have hB4 := hid (hB3.out.trans (hb4.mono (by omega)))
 rw [nil_cells] at hnew hW4
 replace hx4 := hid hx4
 replace hb4 := hid hb4
 clear hX hN hQ hD hXA hb3 hA2 hA3 hk2 hk3 hB2 hB3 hdec hk hd
 go_wp2_with (first
  | (refine wpList_store_row (by rfl) 33 (.tmp 4) (.tmp 21) (by rfl) W3.heap.size _ (by rfl) (by rfl) 33 _ hnew.out (by rw [hXc.out.1]; kernel_rfl) (by rw [hXc.out.1]; rfl) hXc.out.2 ?_)
  | (rw [← hW4]; replace hW4 := hid hW4))
 have h5 : (W4.alloc (.cells #[.int .u8 110, .int .u8 7, .int .u8 0, .int .u8 1, .int .u8 0] 5)).heap[W3.heap.size + 1]? = some (.cells #[.int .u8 110, .int .u8 7, .int .u8 0, .int .u8 1, .int .u8 0] 5 (0, 0)) := by rw [← hz4]; exact heap_alloc_new _ _
 have hb5 := (Below.refl W4.heap.size W4).alloc (Nat.le_refl _) (.cells #[.int .u8 110, .int .u8 7, .int .u8 0, .int .u8 1, .int .u8 0] 5)
 have hv5 : BytesAt (W4.alloc (.cells #[.int .u8 110, .int .u8 7, .int .u8 0, .int .u8 1, .int .u8 0] 5)) (.slice (some ⟨W3.heap.size + 1, 0, none⟩) 5 5) [110, 7, 0, 1, 0] := RowAt.of_block (n := 5) h5 rfl (by unfold maxLen; omega)
 have hXA5 := hid (hXA4.out.below hb5)
 have hA5 := hid (hA4.out.below hb5)
 have hk5 := hid ((hb5.block (w.heap.size + 1) (by omega)).trans hk4.out)
 have hx5 := hid ((hb5.block W3.heap.size (by omega)).trans hx4.out)
 have hB5 := hid (hB4.out.trans (hb5.mono (by omega)))
 have hz5 : (W4.alloc (.cells #[.int .u8 110, .int .u8 7, .int .u8 0, .int .u8 1, .int .u8 0] 5)).heap.size = W3.heap.size + 2 := by simp [hz4]
 generalize W4.alloc (.cells #[.int .u8 110, .int .u8 7, .int .u8 0, .int .u8 1, .int .u8 0] 5) = W5 at *
 refine (mdecode_any _ _ W5 hv5 (by decide)).mono ?_
 rintro e W6 ⟨hb6, v6, rfl, hM6⟩
 rw [bad_is] at hM6 ⊢
 rw [if_neg (by decide)] at hM6 ⊢
 have hXA6 := hid (hXA5.out.below hb6)
 have hA6 := hid (hA5.out.below hb6)
 have hk6 := hid ((hb6.block (w.heap.size + 1) (by omega)).trans hk5.out)
 have hx6 := hid ((hb6.block W3.heap.size (by omega)).trans hx5.out)
 have hB6 := hid (hB5.out.trans (hb6.mono (by omega)))
 have hz6 : W3.heap.size + 2 ≤ W6.heap.size := by have := hb6.size; omega
 obtain ⟨cs6, rfl, hc6, ho6⟩ := hM6.cells
 replace hc6 := hid hc6
 replace ho6 := hid ho6
 have hnew6 := hid (heap_alloc_new W6 (.cells (zeroM.cells (.slice none 0 0) (.slice none 0 0) (.slice none 0 0)) 33))
 obtain ⟨W7, hW7⟩ : ∃ W, W = (W6.alloc (.cells (zeroM.cells (.slice none 0 0) (.slice none 0 0) (.slice none 0 0)) 33)).setRow W6.heap.size cs6 := ⟨_, rfl⟩
 have hb7 : Below W6.heap.size W6 W7 := by rw [hW7]; exact below_setRow ((Below.refl _ _).alloc (Nat.le_refl _) _) (Nat.le_refl _) _
 have hz7 : W7.heap.size = W6.heap.size + 1 := by rw [hW7]; simp
 have hXA7 := hid (hXA6.out.below hb7)
 have hA7 := hid (hA6.out.below hb7)
 have hk7 := hid ((hb7.block (w.heap.size + 1) (by omega)).trans hk6.out)
 have hx7 := hid ((hb7.block W3.heap.size (by omega)).trans hx6.out)
 have hB7 := hid (hB6.out.trans (hb7.mono (by omega)))
 rw [nil_cells] at hnew6 hW7
 replace hb7 := hid hb7
 replace hb6 := hid hb6
 replace hb5 := hid hb5
 clear hM6 hv5 h5 hA4 hk4 hx4 hXA4 hB4 hA5 hk5 hx5 hXA5 hB5 hA6 hk6 hx6 hXA6 hB6 hb5 hb6
 have henc := hid (mencode_any bM (.slice none 0 0) (.slice none 0 0) (.slice none 0 0) W7 bM_ok bM_few RowAt.nil RowAt.nil RowAt.nil)
 rw [show bM.cells (.slice none 0 0) (.slice none 0 0) (.slice none 0 0) = #[.int .u8 106, .int .u16 0, .int .u32 0, .string ⟨#[]⟩, .int .u32 0, .int .u32 0, .int .u32 0, .string ⟨#[]⟩, .string ⟨#[]⟩, .string ⟨#[]⟩, .int .u16 0, .slice none 0 0, .slice none 0 0, .int .u8 0, .int .u32 0, .int .u64 0, .int .u32 0, .int .u8 0, .int .u32 0, .string ⟨#[]⟩, .int .u64 0, .int .u32 0, .slice none 0 0, .int .u16 0, .int .u32 0, .int .u8 0, .int .u32 0, .int .u64 0, .int .u32 0, .int .u32 0, .int .u32 0, .int .u64 0, .string ⟨#[]⟩, .string ⟨#[]⟩, .string ⟨#[]⟩, .string ⟨#[]⟩] from rfl] at henc
 go_wp2_with (first
  | (refine wpList_store_row (by rfl) 33 (.tmp 6) (.tmp 26) (by rfl) W6.heap.size _ (by rfl) (by rfl) 33 _ hnew6.out (by rw [hc6.out]; kernel_rfl) (by rw [hc6.out]; rfl) ho6.out ?_)
  | (rw [← hW7]; replace hW7 := hid hW7))
 refine henc.out.mono ?_
 rintro e W8 ⟨v8, rfl, ⟨hv8, _⟩, hb8⟩
 rw [bM_err]
 have hXA8 := hid (hXA7.out.below hb8)
 have hA8 := hid (hA7.out.below hb8)
 have hk8 := hid ((hb8.block (w.heap.size + 1) (by omega)).trans hk7.out)
 have hx8 := hid ((hb8.block W3.heap.size (by omega)).trans hx7.out)
 have hB8 := hid (hB7.out.trans (hb8.mono (by omega)))
 have hz8 : W3.heap.size + 2 ≤ W8.heap.size := by have := hb8.size; omega
 clear hv8 hb8 hA7 hk7 hx7 hXA7 hB7
 go_wp2_with fail
 refine (merror_any 3 5 W8 (by decide)).mono ?_
 rintro e W9 ⟨rfl, hb9⟩
 have hXA9 := hid (hXA8.out.below hb9)
 have hA9 := hid (hA8.out.below hb9)
 have hk9 := hid ((hb9.block (w.heap.size + 1) (by omega)).trans hk8.out)
 have hx9 := hid ((hb9.block W3.heap.size (by omega)).trans hx8.out)
 have hB9 := hid (hB8.out.trans (hb9.mono (by omega)))
 have hz9 : W3.heap.size + 2 ≤ W9.heap.size := by have := hb9.size; omega
 have hnew9 := hid (heap_alloc_new W9 (.cells (zeroM.cells (.slice none 0 0) (.slice none 0 0) (.slice none 0 0)) 33))
 obtain ⟨W10, hW10⟩ : ∃ W, W = (W9.alloc (.cells (zeroM.cells (.slice none 0 0) (.slice none 0 0) (.slice none 0 0)) 33)).setRow W9.heap.size ((errM 3 5).cells (.slice none 0 0) (.slice none 0 0) (.slice none 0 0)) := ⟨_, rfl⟩
 have hb10 : Below W9.heap.size W9 W10 := by rw [hW10]; exact below_setRow ((Below.refl _ _).alloc (Nat.le_refl _) _) (Nat.le_refl _) _
 have hz10 : W10.heap.size = W9.heap.size + 1 := by rw [hW10]; simp
 have hr10 : W10.heap[W9.heap.size]? = some (.cells ((errM 3 5).cells (.slice none 0 0) (.slice none 0 0) (.slice none 0 0)) 33 (0, 0)) := by rw [hW10]; exact setRow_heap _ _ _ _ _ _ hnew9.out
 have hXA10 := hid (hXA9.out.below hb10)
 have hA10 := hid (hA9.out.below hb10)
 have hk10 := hid ((hb10.block (w.heap.size + 1) (by omega)).trans hk9.out)
 have hx10 := hid ((hb10.block W3.heap.size (by omega)).trans hx9.out)
 have hB10 := hid (hB9.out.trans (hb10.mono (by omega)))
 rw [nil_cells] at hnew9 hW10
 replace hb10 := hid hb10
 replace hb9 := hid hb9
 replace hr10 := hid hr10
 clear hA8 hk8 hx8 hXA8 hB8 hA9 hk9 hx9 hXA9 hB9
 have hsame : sameB X (kV w.heap.size) = true := sameB_iff.2 (by rw [hXm.out]; exact named_named kM)
 have hsm := hid (same_any X (kV w.heap.size) W10 hXA10.out hA10.out (by rw [hXm.out]; kernel_rfl) (by kernel_rfl))
 rw [hsame] at hsm
 replace hsame := hid hsame
 go_wp2_with (first
  | (refine wpList_store_row (by rfl) 33 (.tmp 10) (.tmp 33) (by rfl) W9.heap.size _ (by rfl) (by rfl) 33 _ hnew9.out (by kernel_rfl) (by kernel_rfl) (by kernel_rfl) ?_)
  | (rw [← hW10]; replace hW10 := hid hW10)
  | (refine wpl_row (.tmp 4) (by rfl) W3.heap.size (by rfl) _ hx10.out hXc.out.1 (by rfl) ?_)
  | (refine wpl_row (.tmp 1) (by rfl) (w.heap.size + 1) (by rfl) _ hk10.out (by rfl) (by rfl) ?_))
 refine hsm.out.mono ?_
 rintro e W11 ⟨rfl, hb11⟩
 have hr11 := hid ((hb11.block W9.heap.size (by omega)).trans hr10.out)
 have hB11 := hid (hB10.out.trans (hb11.mono (by omega)))
 have e0 : W11.cell? ⟨W9.heap.size, 0, none⟩ = some (.int .u8 107) := block_cell hr11.out 0
 have e1 : W11.cell? ⟨W9.heap.size, 1, none⟩ = some (.int .u16 3) := block_cell hr11.out 1
 have e9 : W11.cell? ⟨W9.heap.size, 9, none⟩ = some (.string ⟨#[112, 101, 114, 109, 105, 115, 115, 105, 111, 110, 32, 100, 101, 110, 105, 101, 100]⟩) := block_cell hr11.out 9
 have n1 : Hid (Calls Tryz.prog 17 #[.int .u8 100] W11 fun e w' => e = .returned (.bool true) ∧ W11 = w') := hid (known_any 100 W11 (by decide))
 have n2 : Hid (Calls Tryz.prog 17 #[.int .u8 106] W11 fun e w' => e = .returned (.bool false) ∧ W11 = w') := hid (known_any 106 W11 (by decide))
 have n3 : Hid (Calls Tryz.prog 18 #[.int .u8 110] W11 fun e w' => e = .returned (.bool true) ∧ W11 = w') := hid (ask_any 110 W11 (by decide))
 have n4 : Hid (Calls Tryz.prog 18 #[.int .u8 111] W11 fun e w' => e = .returned (.bool false) ∧ W11 = w') := hid (ask_any 111 W11 (by decide))
 clear hA10 hk10 hx10 hXA10 hB10 hb11 hr10
 go_wp2_with fail
 refine n1.out.mono ?_
 rintro e w1 ⟨rfl, rfl⟩
 go_wp2_with fail
 refine n2.out.mono ?_
 rintro e w1 ⟨rfl, rfl⟩
 go_wp2_with fail
 refine n3.out.mono ?_
 rintro e w1 ⟨rfl, rfl⟩
 go_wp2_with fail
 refine n4.out.mono ?_
 rintro e w1 ⟨rfl, rfl⟩
 go_wp2_with fail
 go_ret
 exact ⟨rfl, hB11.out⟩
end
end Go.Proofs.YtlmojhlacfjmaaaGreat
