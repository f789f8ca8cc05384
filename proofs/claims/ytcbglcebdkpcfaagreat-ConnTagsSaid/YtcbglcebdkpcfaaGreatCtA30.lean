/- What msg.Same returns, for any two messages of known types. No further condition.
What a message's bytes are read back as. Conditions: texts of at most a thousand bytes each.
What the reference's Same says of two messages: plain. Conditions: numbers in their types, at most thirty names and qids. -/
import Derived.Test.YtcbglcebdkpcfaaGreatCeA29
import Derived.Test.YtcbglcebdkpcfaaGreatCeA07
import Derived.Test.YtcbglcebdkpcfaaGreatCeA23
namespace Go.Proofs.YtcbglcebdkpcfaaGreat
section
open Go.RowKit
set_option maxRecDepth 100000
set_option linter.unusedVariables false

theorem drop_six {α : Type} (l : List α) (h : 6 ≤ l.length) : l = l[0] :: l[1] :: l[2] :: l[3] :: l[4] :: l[5] :: l.drop 6 := by
  match l, h with
  | a :: b :: c :: d :: e :: f :: l, _ => rfl
theorem test_all {w0 w : World} {k5 k6 : Nat} {x y : MV} {Q : Exit → Act → World → Prop} {a : Act} (z : a.tmps.size = 163) (s5 : a.tmps[5]? = some (pt k5 0)) (s6 : a.tmps[6]? = some (pt k6 0)) (df : a.defers = [])
    (hW : SW w0 w k5 k6 x y) (hx : x.At w0) (hy : y.At w0) (hE : ∀ r, r = eqF0 x.m y.m → End2 Q w0 k5 k6 x y r) : wpList Tryz.prog ops_same2 Q l_same2 a w := by
  have hxw := hx.below hW.below
  have hyw := hy.below hW.below
  rw [drop_six l_same2 (by rw [len_same2]; decide)]
  refine wpl_value (v := pt k5 0) (wanted_none (by kernel_rfl)) (run_field (x := .tmp 5) (f := 0) (by kernel_rfl) (eval_tmp s5) (fld_0 k5 w)) ?_
  rw [show (l_same2[0]'(by rw [len_same2]; decide)).dst = some 11 from by kernel_rfl]
  have s61 := put_at (v := pt k5 0) s6 (show 11 ≠ 6 by decide)
  have s51 := put_at (v := pt k5 0) s5 (show 11 ≠ 5 by decide)
  have z1 : (a.put (some 11) (pt k5 0)).tmps.size = 163 := by simp only [put_size]; exact z
  have q0 : (a.put (some 11) (pt k5 0)).tmps[11]? = some (pt k5 0) := put_same (by omega)
  refine wpl_value (wanted_none (by kernel_rfl)) (run_load (ty := 5) (x := .tmp 11) (by kernel_rfl) (eval_tmp q0) (ld_0 hW.bx hxw.ok)) ?_
  rw [show (l_same2[1]'(by rw [len_same2]; decide)).dst = some 12 from by kernel_rfl]
  have s62 := put_at (v := .int .u8 (x.m.ty : Int)) s61 (show 12 ≠ 6 by decide)
  have s52 := put_at (v := .int .u8 (x.m.ty : Int)) s51 (show 12 ≠ 5 by decide)
  have q1 : ((a.put (some 11) (pt k5 0)).put (some 12) (.int .u8 (x.m.ty : Int))).tmps[12]? = some (.int .u8 (x.m.ty : Int)) := put_same (by omega)
  refine wpl_value (v := pt k6 0) (wanted_none (by kernel_rfl)) (run_field (x := .tmp 6) (f := 0) (by kernel_rfl) (eval_tmp s62) (fld_0 k6 w)) ?_
  rw [show (l_same2[2]'(by rw [len_same2]; decide)).dst = some 13 from by kernel_rfl]
  have s63 := put_at (v := pt k6 0) s62 (show 13 ≠ 6 by decide)
  have s53 := put_at (v := pt k6 0) s52 (show 13 ≠ 5 by decide)
  have q13 := put_at (v := pt k6 0) q1 (show 13 ≠ 12 by decide)
  have z2 : ((a.put (some 11) (pt k5 0)).put (some 12) (.int .u8 (x.m.ty : Int))).tmps.size = 163 := by simp only [put_size]; exact z
  have q2 : (((a.put (some 11) (pt k5 0)).put (some 12) (.int .u8 (x.m.ty : Int))).put (some 13) (pt k6 0)).tmps[13]? = some (pt k6 0) := put_same (by omega)
  refine wpl_value (wanted_none (by kernel_rfl)) (run_load (ty := 5) (x := .tmp 13) (by kernel_rfl) (eval_tmp q2) (ld_0 hW.bw hyw.ok)) ?_
  rw [show (l_same2[3]'(by rw [len_same2]; decide)).dst = some 14 from by kernel_rfl]
  have s64 := put_at (v := .int .u8 (y.m.ty : Int)) s63 (show 14 ≠ 6 by decide)
  have s54 := put_at (v := .int .u8 (y.m.ty : Int)) s53 (show 14 ≠ 5 by decide)
  have q14 := put_at (v := .int .u8 (y.m.ty : Int)) q13 (show 14 ≠ 12 by decide)
  have z3 : (((a.put (some 11) (pt k5 0)).put (some 12) (.int .u8 (x.m.ty : Int))).put (some 13) (pt k6 0)).tmps.size = 163 := by simp only [put_size]; exact z
  have q3 : ((((a.put (some 11) (pt k5 0)).put (some 12) (.int .u8 (x.m.ty : Int))).put (some 13) (pt k6 0)).put (some 14) (.int .u8 (y.m.ty : Int))).tmps[14]? = some (.int .u8 (y.m.ty : Int)) := put_same (by omega)
  have z4 : ((((a.put (some 11) (pt k5 0)).put (some 12) (.int .u8 (x.m.ty : Int))).put (some 13) (pt k6 0)).put (some 14) (.int .u8 (y.m.ty : Int))).tmps.size = 163 := by simp only [put_size]; exact z
  have df4 : ((((a.put (some 11) (pt k5 0)).put (some 12) (.int .u8 (x.m.ty : Int))).put (some 13) (pt k6 0)).put (some 14) (.int .u8 (y.m.ty : Int))).defers = [] := by simp only [put_df]; exact df
  generalize (((a.put (some 11) (pt k5 0)).put (some 12) (.int .u8 (x.m.ty : Int))).put (some 13) (pt k6 0)).put (some 14) (.int .u8 (y.m.ty : Int)) = b at *
  unfold wpList
  rw [if_pos (wanted_none (by kernel_rfl))]
  refine .inl ?_
  refine cmp_bin (d := 11) (ty := 5) (by kernel_rfl) (by kernel_rfl) (by kernel_rfl) (beq_u8 x.m.ty y.m.ty w) b _ _ (eval_tmp q14) (eval_tmp q3) (fun w' hw' => ?_)
  subst hw'
  have q4 : (b.put (some 15) (.bool (decide (x.m.ty = y.m.ty)))).tmps[15]? = some (.bool (decide (x.m.ty = y.m.ty))) := put_same (by omega)
  have z5 : (b.put (some 15) (.bool (decide (x.m.ty = y.m.ty)))).tmps.size = 163 := by rw [put_size]; exact z4
  refine wpl_value (wanted_none (by kernel_rfl)) (run_move (x := .tmp 15) (.inl (by kernel_rfl)) (eval_tmp q4)) ?_
  rw [show (l_same2[5]'(by rw [len_same2]; decide)).dst = some 16 from by kernel_rfl]
  have hF : Fr ((b.put (some 15) (.bool (decide (x.m.ty = y.m.ty)))).put (some 16) (.bool (decide (x.m.ty = y.m.ty)))) k5 k6 16 (decide (x.m.ty = y.m.ty)) :=
    ⟨by simp only [put_size]; exact z4, put_at (put_at s54 (by decide)) (by decide), put_at (put_at s64 (by decide)) (by decide), put_same (by omega), by simp only [put_df]; exact df4⟩
  rcases hb : decide (x.m.ty = y.m.ty) with _ | _
  · rw [hb] at hF
    exact sf_1 hF hW (hE _ (by unfold eqF0; rw [hb]; rfl))
  · rw [hb] at hF
    exact st_1 hF hW hx hy (fun r hr => hE r (by unfold eqF0; rw [hb, hr]; rfl))

noncomputable def sameB (a b : MV) : Bool := eqF0 (namedV a).m (namedV b).m

set_option maxHeartbeats 1600000 in
theorem same_any (a b : MV) (w : World) (ha : a.At w) (hb : b.At w) (hka : knownT a.m.ty = true) (hkb : knownT b.m.ty = true) :
    Calls Tryz.prog 13 #[.agg a.cells, .agg b.cells] w (TestPost w (sameB a b)) := by
  have hb0 := ((Below.refl w.heap.size w).alloc (Nat.le_refl _) (.cells a.cells 41)).alloc (by simp) (.cells b.cells 41)
  have hS : Hid (SmS w.heap.size (w.heap.size + 1) a b ((w.alloc (.cells a.cells 41)).alloc (.cells b.cells 41))) := hid ⟨(heap_alloc_old _ _ (by simp)).trans (heap_alloc_new _ _), heap2 _ _ _⟩
  have hP : Hid (Pair ((w.alloc (.cells a.cells 41)).alloc (.cells b.cells 41)) a b) := hid ⟨ha.below hb0, hb.below hb0, hka, hkb⟩
  replace hb0 := hid hb0
  clear ha hb hka hkb
  go_enter Tryz.func13, Tryz.ntmps13
  go_wp2_with fail
  rename_i K hK
  refine region_same1 _ w.heap.size (w.heap.size + 1) a b _ (fun _ _ d _ _ h => by cases d <;> exact h) hP.out hS.out (fun k5 k6 w' h1 h5 h6 => ?_)
  refine hK _ _ ?_
  refine wp_seq ?_
  refine wp_region_list ?_
  refine (show wpList Tryz.prog ops_same2 _ l_same2 _ w' → _ from fun h => h) ?_
  refine test_all (w0 := w') (x := namedV a) (y := namedV b) (k5 := k5) (k6 := k6) (by rfl) (by rfl) (by rfl) (by rfl) ⟨Below.refl _ _, h5.1, h6.1⟩ (hP.out.ha.below h1.below).named (hP.out.hb.below h1.below).named (fun r hr a' w'' hF hW => ?_)
  have he : a'.tmps.getD 4 undef = .bool r := eval_tmp hF.sg
  show Code.wp _ Code.ret _ a' w''
  refine wp_ret ?_
  refine bodyPost_ret (results_tmp rfl _ _ _) hF.df ?_
  rw [he, hr]
  exact ⟨rfl, hb0.out.trans ((h1.below.mono (by simp; omega)).trans (hW.below.mono (by have := h1.below.size; simp at this; omega)))⟩
end
end Go.Proofs.YtcbglcebdkpcfaaGreat

namespace Go.Proofs.YtcbglcebdkpcfaaGreat
section
open Go.RowKit
set_option maxRecDepth 100000
set_option linter.unusedVariables false

def Slot.cp (a x : M) : Slot → M
  | .msize => { x with msize := a.msize }
  | .version => { x with version := a.version }
  | .fid => { x with fid := a.fid }
  | .afid => { x with afid := a.afid }
  | .new => { x with new := a.new }
  | .uname => { x with uname := a.uname }
  | .aname => { x with aname := a.aname }
  | .ename => { x with ename := a.ename }
  | .old => { x with old := a.old }
  | .names => { x with names := a.names }
  | .qids => { x with qids := a.qids }
  | .qid => { x with qid := a.qid }
  | .iounit => { x with iounit := a.iounit }
  | .mode => { x with mode := a.mode }
  | .perm => { x with perm := a.perm }
  | .name => { x with name := a.name }
  | .offset => { x with offset := a.offset }
  | .count => { x with count := a.count }
  | .data => { x with data := a.data }
  | .stat => { x with stat := a.stat }
def cps (a : M) : List Slot → M → M
  | [], x => x
  | s :: ss, x => cps a ss (s.cp a x)
theorem copy_m (s : Slot) (a x : MV) : (s.copy a x).m = s.cp a.m x.m := by cases s <;> rfl
theorem copies_m (a : MV) : ∀ (ss : List Slot) (x : MV), (copies a ss x).m = cps a.m ss x.m
  | [], _ => rfl
  | s :: ss, x => by
    show (copies a ss (s.copy a x)).m = cps a.m ss (s.cp a.m x.m)
    rw [copies_m a ss, copy_m]
def headTT (t g : Nat) : M := { zeroM with ty := t, tag := g }
def M.head (m : M) : M := headTT m.ty m.tag
def M.named (m : M) : M := cps m (slots m.ty) m.head
theorem namedV_m (a : MV) : (namedV a).m = a.m.named := copies_m a _ _
theorem cps_ty (a : M) : ∀ (ss : List Slot) (x : M), (cps a ss x).ty = x.ty ∧ (cps a ss x).tag = x.tag
  | [], _ => ⟨rfl, rfl⟩
  | s :: ss, x => by
    obtain ⟨h1, h2⟩ := cps_ty a ss (s.cp a x)
    exact ⟨h1.trans (by cases s <;> rfl), h2.trans (by cases s <;> rfl)⟩
theorem named_ty (m : M) : m.named.ty = m.ty ∧ m.named.tag = m.tag := cps_ty m _ _
theorem texts_pre : ∀ (L : List ByteArray) (r : List UInt8), textsErr L = 0 → textsIn L.length (textsBytes L ++ r, 0) = (0, (r, 0), L)
  | [], r, _ => rfl
  | t :: L, r, h => by
    have hm : mayN t = 0 := by
      by_cases h0 : mayN t = 0
      · exact h0
      · simp only [textsErr, if_neg h0] at h; exact absurd h h0
    simp only [textsErr, if_pos hm] at h
    obtain ⟨h1, h2, h3⟩ := text_pre (textsBytes L ++ r) hm
    simp only [textsBytes, List.length_cons, textsIn, List.append_assoc]
    rw [if_neg (by rw [h2]; simp), h1, h3, texts_pre L r h]
theorem qids_pre : ∀ (Q : List QidV) (r : List UInt8), (∀ q ∈ Q, QidOk q) → qidsIn Q.length (qidsBytes Q ++ r, 0) = (0, (r, 0), Q)
  | [], r, _ => rfl
  | q :: Q, r, h => by
    obtain ⟨k1, k2, k3⟩ := h q (List.mem_cons_self ..)
    have e : qidsBytes (q :: Q) ++ r = qidBytes q.t q.v q.p ++ (qidsBytes Q ++ r) := by simp [qidsBytes, QidV.bytes]
    have hq := qr_pre q.t q.v q.p (qidsBytes Q ++ r)
    obtain ⟨v1, v2, v3⟩ := qv_pre q.t q.v q.p (qidsBytes Q ++ r) k1 k2 k3
    simp only [List.length_cons, qidsIn]
    rw [e, if_neg (by rw [hq]; simp), hq, qids_pre Q r (fun x hx => h x (List.mem_cons_of_mem _ hx))]
    simp only [qvR, v1, v2, v3]

theorem slot_pre {m : M} (hm : MOk m) (hf : MFew m) (x : M) (s : Slot) (r : List UInt8) (he : (s.o m).1 = 0) : s.i ((s.o m).2 ++ r, 0) x = (0, (r, 0), s.cp m x) := by
  cases s
  case msize =>
    simp only [Slot.o, Slot.i, Slot.cp]
    rw [rd_num, tv_num r (by have := hm.msize; omega)]
  case version =>
    simp only [Slot.o] at he
    obtain ⟨h1, h2, h3⟩ := text_pre r he
    simp only [Slot.o, Slot.i, Slot.cp]
    rw [h1, h2, h3]
  case fid =>
    simp only [Slot.o, Slot.i, Slot.cp]
    rw [rd_num, tv_num r (by have := hm.fid; omega)]
  case afid =>
    simp only [Slot.o, Slot.i, Slot.cp]
    rw [rd_num, tv_num r (by have := hm.afid; omega)]
  case new =>
    simp only [Slot.o, Slot.i, Slot.cp]
    rw [rd_num, tv_num r (by have := hm.new; omega)]
  case uname =>
    simp only [Slot.o] at he
    obtain ⟨h1, h2, h3⟩ := text_pre r he
    simp only [Slot.o, Slot.i, Slot.cp]
    rw [h1, h2, h3]
  case aname =>
    simp only [Slot.o] at he
    obtain ⟨h1, h2, h3⟩ := text_pre r he
    simp only [Slot.o, Slot.i, Slot.cp]
    rw [h1, h2, h3]
  case ename =>
    simp only [Slot.o] at he
    obtain ⟨h1, h2, h3⟩ := text_pre r he
    simp only [Slot.o, Slot.i, Slot.cp]
    rw [h1, h2, h3]
  case old =>
    simp only [Slot.o, Slot.i, Slot.cp]
    rw [rd_num, tv_num r (by have := hm.old; omega)]
  case names =>
    have h16 : m.names.length ≤ 16 := by simp only [Slot.o] at he; split at he <;> omega
    have he2 : textsErr m.names = 0 := by simpa [Slot.o, Nat.not_lt.2 h16] using he
    have h1 : tv 2 (numBytes m.names.length 2 ++ (textsBytes m.names ++ r), 0) = m.names.length := tv_num _ (by omega)
    have h2 : rd 2 (numBytes m.names.length 2 ++ (textsBytes m.names ++ r), 0) = (textsBytes m.names ++ r, 0) := rd_num _
    simp only [Slot.o, Slot.i, Slot.cp, List.append_assoc]
    unfold txE txR txL
    rw [h1, h2, texts_pre m.names r he2, if_neg (by simp), if_neg (by omega)]
  case qids =>
    have h16 : m.qids.length ≤ 16 := by simp only [Slot.o] at he; split at he <;> omega
    have h1 : tv 2 (numBytes m.qids.length 2 ++ (qidsBytes m.qids ++ r), 0) = m.qids.length := tv_num _ (by omega)
    have h2 : rd 2 (numBytes m.qids.length 2 ++ (qidsBytes m.qids ++ r), 0) = (qidsBytes m.qids ++ r, 0) := rd_num _
    simp only [Slot.o, Slot.i, Slot.cp, List.append_assoc]
    unfold qsE qsR qsL
    rw [h1, h2, qids_pre m.qids r hm.qids, if_neg (by simp), if_neg (by omega)]
  case qid =>
    obtain ⟨v1, v2, v3⟩ := qv_pre m.qid.t m.qid.v m.qid.p r hm.qid.t hm.qid.v hm.qid.p
    simp only [Slot.o, Slot.i, Slot.cp, QidV.bytes]
    rw [qr_pre, qvR, v1, v2, v3]
  case iounit =>
    simp only [Slot.o, Slot.i, Slot.cp]
    rw [rd_num, tv_num r (by have := hm.iounit; omega)]
  case mode =>
    simp only [Slot.o, Slot.i, Slot.cp]
    rw [rd_num, tv_num r (by have := hm.mode; omega)]
  case perm =>
    simp only [Slot.o, Slot.i, Slot.cp]
    rw [rd_num, tv_num r (by have := hm.perm; omega)]
  case name =>
    simp only [Slot.o] at he
    obtain ⟨h1, h2, h3⟩ := text_pre r he
    simp only [Slot.o, Slot.i, Slot.cp]
    rw [h1, h2, h3]
  case offset =>
    simp only [Slot.o, Slot.i, Slot.cp]
    rw [rd_num, tv_num r (by have := hm.offset; omega)]
  case count =>
    simp only [Slot.o, Slot.i, Slot.cp]
    rw [rd_num, tv_num r (by have := hm.count; omega)]
  case data =>
    have h16 : m.data.length ≤ 8192 := by simp only [Slot.o] at he; split at he <;> omega
    have h1 : tv 4 (numBytes m.data.length 4 ++ (m.data ++ r), 0) = m.data.length := tv_num _ (by omega)
    have h2 : rd 4 (numBytes m.data.length 4 ++ (m.data ++ r), 0) = (m.data ++ r, 0) := rd_num _
    obtain ⟨h3, h4⟩ := raw_pre m.data r
    simp only [Slot.o, Slot.i, Slot.cp, List.append_assoc]
    unfold daE daR daB
    rw [h1, h2, h4]
    simp only [h3]
    rw [if_neg (by simp), if_neg (by omega)]
  case stat =>
    simp only [Slot.o] at he
    have hl := bytes_le m.stat hf.stat
    have h1 : tv 2 (numBytes m.stat.bytes.length 2 ++ (m.stat.bytes ++ r), 0) = m.stat.bytes.length := tv_num _ (by omega)
    have h2 : rd 2 (numBytes m.stat.bytes.length 2 ++ (m.stat.bytes ++ r), 0) = (m.stat.bytes ++ r, 0) := rd_num _
    obtain ⟨h3, h4⟩ := raw_pre m.stat.bytes r
    obtain ⟨d1, d2, d3⟩ := dec_back hm.stat hf.stat he []
    rw [List.append_nil] at d1 d2 d3
    have hB : stB (numBytes m.stat.bytes.length 2 ++ (m.stat.bytes ++ r), 0) = m.stat.bytes := by unfold stB; rw [h1, h2]; exact h3
    have hR : stR (numBytes m.stat.bytes.length 2 ++ (m.stat.bytes ++ r), 0) = (r, 0) := by unfold stR; rw [h1, h2]; exact h4
    have hE : stE (numBytes m.stat.bytes.length 2 ++ (m.stat.bytes ++ r), 0) = 0 := by
      unfold stE
      rw [hB, hR, h2, d1, d3]
      simp
    simp only [Slot.o, Slot.i, Slot.cp, List.append_assoc]
    rw [hB, hR, hE, d2]

theorem ins_pre {m : M} (hm : MOk m) (hf : MFew m) : ∀ (ss : List Slot) (x : M) (r : List UInt8), (outs m ss).1 = 0 → ins ss ((outs m ss).2 ++ r, 0) x = (0, (r, 0), cps m ss x)
  | [], x, r, _ => rfl
  | s :: ss, x, r, h => by
    have he : (s.o m).1 = 0 := by
      by_cases h0 : (s.o m).1 = 0
      · exact h0
      · rw [outs_bad h0] at h; exact absurd h h0
    rw [outs_ok he] at h ⊢
    have h1 := slot_pre hm hf x s ((outs m ss).2 ++ r) he
    rw [List.append_assoc, ins_ok (by rw [h1]), h1]
    exact ins_pre hm hf ss (s.cp m x) r h

theorem err_known {m : M} (he : m.err = 0) : knownT m.ty = true ∧ (outs m (slots m.ty)).1 = 0 := by
  unfold M.err at he
  split at he
  · next h => exact ⟨h, he⟩
  · omega
theorem bytes_eq {m : M} (he : m.err = 0) : m.bytes = numBytes m.ty 1 ++ (numBytes m.tag 2 ++ (outs m (slots m.ty)).2) := by
  unfold M.bytes; rw [if_pos he, List.append_assoc]
theorem back {m : M} (hm : MOk m) (hf : MFew m) (he : m.err = 0) (r : List UInt8) : headM (m.bytes ++ r) = m.head ∧ (headR (m.bytes ++ r)).2 = 0 ∧ fieldsR (m.bytes ++ r) = (0, (r, 0), m.named) := by
  obtain ⟨hk, ho⟩ := err_known he
  have h1 : tv 1 (m.bytes ++ r, 0) = m.ty := by rw [bytes_eq he, List.append_assoc]; exact tv_num _ (by have := hm.ty; omega)
  have h2 : rd 1 (m.bytes ++ r, 0) = (numBytes m.tag 2 ++ ((outs m (slots m.ty)).2 ++ r), 0) := by rw [bytes_eq he, List.append_assoc, rd_num, List.append_assoc]
  have h3 : tv 2 (rd 1 (m.bytes ++ r, 0)) = m.tag := by rw [h2]; exact tv_num _ (by have := hm.tag; omega)
  have h4 : headR (m.bytes ++ r) = ((outs m (slots m.ty)).2 ++ r, 0) := by unfold headR; rw [h2, rd_num]
  have h5 : headM (m.bytes ++ r) = m.head := by show headTT (tv 1 (m.bytes ++ r, 0)) (tv 2 (rd 1 (m.bytes ++ r, 0))) = headTT m.ty m.tag; rw [h1, h3]
  refine ⟨h5, by rw [h4], ?_⟩
  unfold fieldsR
  rw [h5, h4]
  exact ins_pre hm hf (slots m.ty) m.head r ho
theorem back_is {m : M} (hm : MOk m) (hf : MFew m) (he : m.err = 0) : isM m.bytes = true ∧ decM m.bytes = m.named := by
  obtain ⟨h1, h2, h3⟩ := back hm hf he []
  rw [List.append_nil] at h1 h2 h3
  refine ⟨?_, by unfold decM; rw [h3]⟩
  unfold isM
  rw [h1, h2, h3]
  have hk := (err_known he).1
  rw [show m.head.ty = m.ty from rfl, hk]
  simp [lt, leftN]
theorem eqF_iff {x y : M} : eqF0 x y = true ↔ x = y := by
  cases x; cases y
  simp [eqF0, eqF1, eqF2, eqF3, eqF4, eqF5, eqF6, eqF7, eqF8, eqF9, eqF10, eqF11, eqF12, eqF13, eqF14, eqF15, eqF16, eqF17, eqF18, eqF19, eqF20, eqF21, eqQ_iff, eqS_iff, eqQL_iff]
theorem sameB_iff {a b : MV} : sameB a b = true ↔ a.m.named = b.m.named := by
  unfold sameB; rw [eqF_iff, namedV_m, namedV_m]
end
end Go.Proofs.YtcbglcebdkpcfaaGreat

namespace Go.Proofs.YtcbglcebdkpcfaaGreat
section
open Go.RowKit
set_option maxRecDepth 100000
set_option linter.unusedVariables false

def Stat.bare (s : Stat) : Stat := { s with name := ⟨#[]⟩, uid := ⟨#[]⟩, gid := ⟨#[]⟩, muid := ⟨#[]⟩ }
def M.bare (m : M) : M := { m with version := ⟨#[]⟩, uname := ⟨#[]⟩, aname := ⟨#[]⟩, ename := ⟨#[]⟩, name := ⟨#[]⟩, stat := m.stat.bare, names := List.replicate m.names.length ⟨#[]⟩ }
theorem MOk.bare {m : M} (h : MOk m) : MOk m.bare :=
  ⟨h.ty, h.tag, h.msize, h.fid, h.afid, h.new, h.old, h.qids, h.qid, h.iounit, h.mode, h.perm, h.offset, h.count, ⟨h.stat.kind, h.stat.dev, h.stat.qt, h.stat.qv, h.stat.qp, h.stat.mode, h.stat.atm, h.stat.mtm, h.stat.len, Nat.zero_le _, Nat.zero_le _, Nat.zero_le _, Nat.zero_le _⟩⟩
theorem RFew.bare {m : M} (h : RFew m) : RFew m.bare :=
  ⟨⟨Nat.zero_le _, Nat.zero_le _, Nat.zero_le _, Nat.zero_le _, fun s hs => by rw [(List.mem_replicate.1 hs).2]; exact Nat.zero_le _, Nat.zero_le _, ⟨Nat.zero_le _, Nat.zero_le _, Nat.zero_le _, Nat.zero_le _⟩⟩, by simp [M.bare]; exact h.names, h.qids, h.data⟩

theorem QidV.ext {a b : QidV} : a = b ↔ a.t = b.t ∧ a.v = b.v ∧ a.p = b.p := by
  constructor
  · rintro rfl; exact ⟨rfl, rfl, rfl⟩
  · cases a; cases b; rintro ⟨h1, h2, h3⟩; simp_all
def Slot.eqS (a b : M) : Slot → Prop
  | .msize => a.msize = b.msize
  | .version => a.version = b.version
  | .fid => a.fid = b.fid
  | .afid => a.afid = b.afid
  | .new => a.new = b.new
  | .uname => a.uname = b.uname
  | .aname => a.aname = b.aname
  | .ename => a.ename = b.ename
  | .old => a.old = b.old
  | .names => a.names = b.names
  | .qids => a.qids = b.qids
  | .qid => a.qid = b.qid
  | .iounit => a.iounit = b.iounit
  | .mode => a.mode = b.mode
  | .perm => a.perm = b.perm
  | .name => a.name = b.name
  | .offset => a.offset = b.offset
  | .count => a.count = b.count
  | .data => a.data = b.data
  | .stat => a.stat = b.stat
end
end Go.Proofs.YtcbglcebdkpcfaaGreat
