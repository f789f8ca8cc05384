/- The reference's Same. Conditions: known types, numbers in their types, few names, qids, data.
What the reference's Encode returns: the program's bytes and error. Conditions: numbers in their types, few names, qids, data. -/
import Derived.Test.YtcbglcebdkpcfaaGreatCtA33
import Derived.Test.YtcbglcebdkpcfaaGreatCtA31
import Derived.BigGuard
import Derived.Test.YtcbglcebdkpcfaaGreatCeA11
import Derived.Test.YtcbglcebdkpcfaaGreatCtA30
import Derived.Test.YtcbglcebdkpcfaaGreatCeA15
import Derived.Deep.RegionHeld3
namespace Go.Proofs.YtcbglcebdkpcfaaGreat
section
open Go.RowKit
set_option maxRecDepth 100000
set_option linter.unusedVariables false
structure SameSt (w W : World) (a b : M) (vN1 vQ1 vN2 vQ2 : Value) (d1 d2 : ByteArray) : Prop where
  two : Two w W a b vN1 vQ1 vN2 vQ2 d1 d2
  n1 : StrsAt W vN1 a.names
  n2 : StrsAt W vN2 b.names
  q1 : QidsAt W vQ1 a.qids
  q2 : QidsAt W vQ2 b.qids
theorem SameSt.up {w W X : World} {a b : M} {vN1 vQ1 vN2 vQ2 : Value} {d1 d2 : ByteArray} (h : SameSt w W a b vN1 vQ1 vN2 vQ2 d1 d2) (hb : Below W.heap.size W X) : SameSt w X a b vN1 vQ1 vN2 vQ2 d1 d2 :=
  ⟨⟨(hb.block _ (lt_of_block h.two.one)).trans h.two.one, (hb.block _ (lt_of_block h.two.two)).trans h.two.two, sn h.two.bel hb⟩, RowAt.below h.n1 hb, RowAt.below h.n2 hb, RowAt.below h.q1 hb, RowAt.below h.q2 hb⟩
theorem SameSt.rstep {w W X : World} {a b : M} {vN1 vQ1 vN2 vQ2 : Value} {d1 d2 : ByteArray} {x : Nat} {W0 : World} (h : SameSt w W a b vN1 vQ1 vN2 vQ2 d1 d2) (hs : RStep x W X) (hx : w.heap.size + 2 ≤ x) (h0 : SameSt w W0 a b vN1 vQ1 vN2 vQ2 d1 d2) (hz : W0.heap.size = w.heap.size + 2) (hb : Below W0.heap.size W0 W) : SameSt w X a b vN1 vQ1 vN2 vQ2 d1 d2 :=
  h0.up (hb.trans (hs.below.mono (by omega)))
theorem ROut.start {w : World} : ROut (w.alloc (.cells #[.slice none 0 0, .int .i64 0] 121)) w.heap.size [] 0 :=
  ⟨_, heap_alloc_new _ _, World.ownsRow_nil _ _ _ _⟩
theorem foot_nil {w : World} {b k : Nat} {u : Value} {t : TypeId} {fr : Nat × Nat} (h : w.heap[b]? = some (.cells #[.slice none 0 0, u] t fr)) (hf : Foot w b k) : k = b := by
  rcases hf with hf | ⟨v, hv, hk⟩
  · exact hf
  · rw [block_cell h 0] at hv
    cases hv
    cases hk
end
end Go.Proofs.YtcbglcebdkpcfaaGreat

namespace Go.Proofs.YtcbglcebdkpcfaaGreat
section
open Go.RowKit
set_option maxRecDepth 100000
set_option linter.unusedVariables false

theorem firstE_foldl {e : Nat} (h : e ≠ 0) : ∀ l : List Nat, l.foldl firstE e = e
  | [] => rfl
  | f :: l => by rw [List.foldl_cons, firstE_old f h]; exact firstE_foldl h l
theorem textsErr_fold : ∀ L : List ByteArray, textsErr L = (L.map mayN).foldl firstE 0
  | [] => rfl
  | s :: l => by
    rw [List.map_cons, List.foldl_cons, firstE_new]
    unfold textsErr
    by_cases h : mayN s = 0
    · rw [if_pos h, h, textsErr_fold l]
    · rw [if_neg h, firstE_foldl h]
theorem textsBytes_flat : ∀ L : List ByteArray, textsErr L = 0 → textsBytes L = L.flatMap putTextR
  | [], _ => rfl
  | s :: l, h => by
    unfold textsErr at h
    by_cases h0 : mayN s = 0
    · rw [if_pos h0] at h
      rw [List.flatMap_cons, putTextR_ok h0, ← textsBytes_flat l h]
      rfl
    · rw [if_neg h0] at h; exact absurd h h0
theorem slot_alike {m : M} (s : Slot) (h1 : s = .names → m.names.length ≤ 16) (h2 : s = .qids → m.qids.length ≤ 16) (h3 : s = .data → m.data.length ≤ 8192) : (s.o m).1 = s.re m ∧ (s.re m = 0 → (s.o m).2 = s.r m) := by
  cases s
  case names =>
    have h := h1 rfl
    have e : (Slot.o m .names).1 = textsErr m.names := by simp only [Slot.o]; rw [if_neg (by omega)]
    rw [e, textsErr_fold]
    refine ⟨rfl, fun h0 => ?_⟩
    show numBytes m.names.length 2 ++ textsBytes m.names = numBytes m.names.length 2 ++ m.names.flatMap putTextR
    rw [textsBytes_flat _ (by rw [textsErr_fold]; exact h0)]
  case qids =>
    have h := h2 rfl
    exact ⟨by simp only [Slot.o, Slot.re]; rw [if_neg (by omega)], fun _ => rfl⟩
  case data =>
    have h := h3 rfl
    exact ⟨by simp only [Slot.o, Slot.re]; rw [if_neg (by omega)], fun _ => rfl⟩
  all_goals first
    | exact ⟨rfl, fun _ => rfl⟩
    | exact ⟨rfl, fun h => (putTextR_ok h).symm⟩
theorem outs_alike {m : M} : ∀ ss : List Slot, (∀ s ∈ ss, (s.o m).1 = s.re m ∧ (s.re m = 0 → (s.o m).2 = s.r m)) → (outs m ss).1 = (ss.map (Slot.re m)).foldl firstE 0 ∧ ((outs m ss).1 = 0 → (outs m ss).2 = ss.flatMap (Slot.r m))
  | [], _ => ⟨rfl, fun _ => rfl⟩
  | s :: ss, h => by
    obtain ⟨h1, h2⟩ := h s List.mem_cons_self
    obtain ⟨h3, h4⟩ := outs_alike ss fun t ht => h t (List.mem_cons_of_mem _ ht)
    rw [List.map_cons, List.foldl_cons, firstE_new]
    by_cases h0 : s.re m = 0
    · rw [outs_ok (h1.trans h0), h0]
      exact ⟨h3, fun hz => by rw [List.flatMap_cons, h2 h0, h4 hz]⟩
    · rw [outs_bad (by rw [h1]; exact h0), firstE_foldl h0]
      exact ⟨h1, fun hz => absurd (h1 ▸ hz) h0⟩
def M.long (m : M) : Prop := m.ty = 110 ∧ 16 < m.names.length ∨ m.ty = 111 ∧ 16 < m.qids.length ∨ (m.ty = 117 ∨ m.ty = 118) ∧ 8192 < m.data.length
theorem mem_names {t : Nat} (h : Slot.names ∈ slots t) : t = 110 := by
  unfold slots at h; split at h <;> first | rfl | simp at h
theorem mem_qids {t : Nat} (h : Slot.qids ∈ slots t) : t = 111 := by
  unfold slots at h; split at h <;> first | rfl | simp at h
theorem mem_data {t : Nat} (h : Slot.data ∈ slots t) : t = 117 ∨ t = 118 := by
  unfold slots at h; split at h <;> first | exact .inl rfl | exact .inr rfl | simp at h
theorem enc_alike {m : M} (hk : knownT m.ty = true) (hl : ¬ m.long) : m.err = m.rerr 0 ∧ (m.rerr 0 = 0 → m.bytes = numBytes m.ty 1 ++ numBytes m.tag 2 ++ m.rbytes) := by
  have h := outs_alike (m := m) (slots m.ty) fun s hs => slot_alike s
    (fun e => by subst e; have := mem_names hs; unfold M.long at hl; omega)
    (fun e => by subst e; have := mem_qids hs; unfold M.long at hl; omega)
    (fun e => by subst e; have := mem_data hs; unfold M.long at hl; omega)
  have he : m.err = m.rerr 0 := by
    unfold M.err M.rerr; rw [if_pos hk]; exact h.1
  refine ⟨he, fun hz => ?_⟩
  have h0 : (outs m (slots m.ty)).1 = 0 := by rw [h.1]; exact hz
  unfold M.bytes
  rw [if_pos (he.trans hz), h.2 h0]
  rfl
theorem enc_long {m : M} (hk : knownT m.ty = true) (hl : m.long) : m.err = 3 := by
  unfold M.err
  rw [if_pos hk]
  rcases hl with ⟨h, hl⟩ | ⟨h, hl⟩ | ⟨h | h, hl⟩ <;> rw [h]
  · show (outs m [.fid, .new, .names]).1 = 3
    have e : (Slot.o m .names).1 = 3 := by simp only [Slot.o]; rw [if_pos hl]
    rw [outs_ok rfl, outs_ok rfl, outs_bad (by rw [e]; decide)]; exact e
  · show (outs m [.qids]).1 = 3
    have e : (Slot.o m .qids).1 = 3 := by simp only [Slot.o]; rw [if_pos hl]
    rw [outs_bad (by rw [e]; decide)]; exact e
  · show (outs m [.data]).1 = 3
    have e : (Slot.o m .data).1 = 3 := by simp only [Slot.o]; rw [if_pos hl]
    rw [outs_bad (by rw [e]; decide)]; exact e
  · show (outs m [.fid, .offset, .data]).1 = 3
    have e : (Slot.o m .data).1 = 3 := by simp only [Slot.o]; rw [if_pos hl]
    rw [outs_ok rfl, outs_ok rfl, outs_bad (by rw [e]; decide)]; exact e
theorem known_is2 {t : Nat} (h : knownT t = true) : 100 ≤ t ∧ t ≤ 127 ∧ t ≠ 106 := by
  unfold knownT at h
  simp at h
  omega
def REncPost (w : World) (m : M) (e : Ending) (w' : World) : Prop := ∃ v', e = .returned (.tuple #[v', .int .i64 (m.err : Int)]) ∧ BytesAt w' v' m.bytes ∧ Below w.heap.size w w'
theorem bytes_bad {m : M} (h : m.err ≠ 0) : m.bytes = [] := by unfold M.bytes; rw [if_neg h]

set_option maxHeartbeats 6400000 in
theorem rencode_any (m : M) (vN vQ : Value) (d : ByteArray) (w : World) (hm : MOk m) (hf : RFew m) (hN : StrsAt w vN m.names) (hQ : QidsAt w vQ m.qids) (hD : d.data.toList = m.data) :
    Calls Tryz.prog 38 #[.agg (m.rcells vN vQ d)] w (REncPost w m) := by
  obtain ⟨aN, cN, rfl, gN1, gN2⟩ := hN.form
  obtain ⟨aQ, cQ, rfl, gQ1, gQ2⟩ := hQ.form
  obtain ⟨W, hW⟩ : ∃ W, W = w.alloc (.cells (m.rcells (.slice aN m.names.length cN) (.slice aQ m.qids.length cQ) d) 70) := ⟨_, rfl⟩
  have hb0 := hid (show Below w.heap.size w W by rw [hW]; exact (Below.refl w.heap.size w).alloc (Nat.le_refl _) _)
  have hr := show W.heap[w.heap.size]? = some (.cells (m.rcells (.slice aN m.names.length cN) (.slice aQ m.qids.length cQ) d) 70 (0, 0)) by rw [hW, heap_alloc_new]
  have hzW : W.heap.size = w.heap.size + 1 := by rw [hW]; simp
  have c0 : W.cell? ⟨w.heap.size, 0, none⟩ = some (.int .u8 (m.ty : Int)) := block_cell hr 0
  have c11 : W.cell? ⟨w.heap.size, 11, none⟩ = some (.slice aN m.names.length cN) := block_cell hr 11
  have c12 : W.cell? ⟨w.heap.size, 12, none⟩ = some (.slice aQ m.qids.length cQ) := block_cell hr 12
  have c22 : W.cell? ⟨w.heap.size, 22, none⟩ = some (.string d) := block_cell hr 22
  have hds : d.size = m.data.length := by rw [← hD]; show d.data.size = d.data.toList.length; simp
  have hkn := hid (rknown_any m.ty W hm.ty)
  have hbb : m.err ≠ 0 → Hid (m.bytes = []) := fun h => hid (bytes_bad h)
  have hNW := hid (RowAt.below hN hb0.out)
  have hQW := hid (RowAt.below hQ hb0.out)
  obtain ⟨k, ek⟩ : ∃ k, k = knownT m.ty := ⟨_, rfl⟩
  rw [← ek] at hkn
  replace hr := hid hr
  replace hm := hid hm
  replace hf := hid hf
  clear hN hQ
  replace hD := hid hD
  cases k with
  | false =>
    have he : m.err = 2 := by unfold M.err; rw [← ek]; rfl
    have hby := hbb (by omega)
    replace he := hid he
    replace ek := hid ek
    replace hds := hid hds
    clear hbb c11 c12 c22
    simp only [M.rcells, M.cells] at hW ⊢
    go_enter Tryz.func38, Tryz.ntmps38
    go_wp2_with (rw [← hW]; replace hW := hid hW)
    try (rw [← hW]; replace hW := hid hW)
    refine hkn.out.mono ?_
    rintro e w1 ⟨rfl, rfl⟩
    go_wp2_with fail
    go_ret2
    exact ⟨_, by rw [he.out]; rfl, by rw [hby.out]; exact RowAt.nil, hb0.out⟩
  | true =>
  have hA := hid (enc_alike (m := m) ek.symm)
  have hLo := hid (enc_long (m := m) ek.symm)
  have hk3 := hid (known_is2 ek.symm)
  replace ek := hid ek
  obtain ⟨b1, e1⟩ : ∃ b, ((m.ty : Int) == 110) = b := ⟨_, rfl⟩
  obtain ⟨b2, e2⟩ : ∃ b, ((m.ty : Int) == 111) = b := ⟨_, rfl⟩
  obtain ⟨b3, e3⟩ : ∃ b, ((m.ty : Int) == 117) = b := ⟨_, rfl⟩
  obtain ⟨b4, e4⟩ : ∃ b, ((m.ty : Int) == 118) = b := ⟨_, rfl⟩
  obtain ⟨b5, e5⟩ : ∃ b, decide ((16 : Int) < (m.names.length : Int)) = b := ⟨_, rfl⟩
  obtain ⟨b6, e6⟩ : ∃ b, decide ((16 : Int) < (m.qids.length : Int)) = b := ⟨_, rfl⟩
  obtain ⟨b7, e7⟩ : ∃ b, decide ((8192 : Int) < (m.data.length : Int)) = b := ⟨_, rfl⟩
  have hlong : Hid (m.long ↔ (b1 && b5 || b2 && b6 || (b3 || b4) && b7) = true) := hid (by
    rw [← e1, ← e2, ← e3, ← e4, ← e5, ← e6, ← e7]
    unfold M.long
    simp only [Bool.or_eq_true, Bool.and_eq_true, beq_iff_eq, decide_eq_true_eq]
    omega)
  have hcs : (b1 = true ∧ b2 = false ∧ b3 = false ∧ b4 = false ∧ (b5 = true ∨ b5 = false)) ∨ (b1 = false ∧ b2 = true ∧ b3 = false ∧ b4 = false ∧ (b6 = true ∨ b6 = false)) ∨ (b1 = false ∧ b2 = false ∧ b3 = true ∧ b4 = false ∧ (b7 = true ∨ b7 = false)) ∨ (b1 = false ∧ b2 = false ∧ b3 = false ∧ b4 = true ∧ (b7 = true ∨ b7 = false)) ∨ (b1 = false ∧ b2 = false ∧ b3 = false ∧ b4 = false) := by
    have f1 : b1 = true ↔ m.ty = 110 := by rw [← e1, beq_iff_eq]; omega
    have f2 : b2 = true ↔ m.ty = 111 := by rw [← e2, beq_iff_eq]; omega
    have f3 : b3 = true ↔ m.ty = 117 := by rw [← e3, beq_iff_eq]; omega
    have f4 : b4 = true ↔ m.ty = 118 := by rw [← e4, beq_iff_eq]; omega
    clear e1 e2 e3 e4 e5 e6 e7
    cases b1 <;> cases b2 <;> cases b3 <;> cases b4 <;> cases b5 <;> cases b6 <;> cases b7 <;> simp at f1 f2 f3 f4 ⊢ <;> omega
  have hN5 := hid (show m.ty < 256 from hm.out.ty)
  obtain ⟨X1, hX1⟩ : ∃ X, X = W.alloc (.cells #[.slice none 0 0, .int .i64 0] 121) := ⟨_, rfl⟩
  have bX1 : Below W.heap.size W X1 := by rw [hX1]; exact (Below.refl _ _).alloc (Nat.le_refl _) _
  have hox : ROut X1 (w.heap.size + 1) [] 0 := by rw [← hzW, hX1]; exact ROut.start
  have hxb : X1.heap[w.heap.size + 1]? = some (.cells #[.slice none 0 0, .int .i64 0] 121 (0, 0)) := by rw [hX1, ← hzW, heap_alloc_new]
  have hA1 := hid (show RA X1 X1 (w.heap.size + 1) w.heap.size m (.slice aN m.names.length cN) (.slice aQ m.qids.length cQ) d [] 0 from
    ⟨hox, (bX1.block _ (by omega)).trans hr.out, fun hf => by have := foot_nil hxb hf; omega, RowAt.below hNW.out bX1, fun k hk hf => by have e1 := foot_nil hxb hf; have e2 := RowAt.blk hNW.out hk; omega,
      RowAt.below hQW.out bX1, fun k hk hf => by have e1 := foot_nil hxb hf; have e2 := RowAt.blk hQW.out hk; omega, hD.out, RStep.refl _ _⟩)
  have hB1 := hid (sn hb0.out bX1)
  clear hxb hox
  replace bX1 := hid bX1
  have u0 : IntKind.u64.wrap (m.ty : Int) = (m.ty : Int) := IntWalk.u64_in _ (by have := hm.out.ty; omega)
  have u1 : IntKind.u64.wrap (m.tag : Int) = (m.tag : Int) := IntWalk.u64_in _ (by have := hm.out.tag; omega)
  rw [← hds] at e7
  replace hds := hid hds
  clear hNW hQW
  simp only [M.rcells, M.cells] at hW ⊢
  rcases hcs with ⟨rfl, rfl, rfl, rfl, rfl | rfl⟩ | ⟨rfl, rfl, rfl, rfl, rfl | rfl⟩ | ⟨rfl, rfl, rfl, rfl, rfl | rfl⟩ | ⟨rfl, rfl, rfl, rfl, rfl | rfl⟩ | ⟨rfl, rfl, rfl, rfl⟩
  case inl.inl | inr.inl.inl | inr.inr.inl.inl | inr.inr.inr.inl.inl =>
    have he := hLo.out (hlong.out.2 (by simp))
    have hby := hbb (by omega)
    replace he := hid he
    clear hbb hA hA1 u0 u1 hLo hlong
    replace hX1 := hid hX1
    go_enter Tryz.func38, Tryz.ntmps38
    go_wp2_with (rw [← hW]; replace hW := hid hW)
    try (rw [← hW]; replace hW := hid hW)
    refine hkn.out.mono ?_
    rintro e w1 ⟨rfl, rfl⟩
    go_wp2_with fail
    go_ret2
    exact ⟨_, by rw [he.out]; rfl, by rw [hby.out]; exact RowAt.nil, hb0.out⟩
  all_goals
    obtain ⟨he, hby⟩ := hA.out (fun h => by have := hlong.out.1 h; simp at this)
    replace he := hid he
    replace hby := hid hby
    clear hA hLo hlong
    go_enter Tryz.func38, Tryz.ntmps38
    go_wp2_with (rw [← hW]; replace hW := hid hW)
    try (rw [← hW]; replace hW := hid hW)
    refine hkn.out.mono ?_
    rintro e w1 ⟨rfl, rfl⟩
    go_upto_region 6 with (rw [← hX1]; replace hX1 := hid hX1)
    try (rw [← hX1]; replace hX1 := hid hX1)
    clear c0 c11 c12 c22 e1 e2 e3 e4 e5 e6 e7
    have c0 : X1.cell? ⟨w.heap.size, 0, none⟩ = some (.int .u8 (m.ty : Int)) := hA1.out.cell 0
    go_wp2_with fail
    refine (ra_num1 m.ty (by have := hm.out.ty; omega) (by simp) hA1.out).mono ?_
    rintro en w2 ⟨rfl, hA2⟩
    clear c0
    have c1 : w2.cell? ⟨w.heap.size, 1, none⟩ = some (.int .u16 (m.tag : Int)) := hA2.cell 1
    replace hA2 := hid hA2
    go_wp2_with fail
    refine (ra_num2 m.tag (by have := hm.out.tag; omega) (by simp [numBytes_length]) hA2.out).mono ?_
    rintro en w3 ⟨rfl, hA3⟩
    clear c1
    replace hA3 := hid hA3
    go_wp2_with (refine wpList_load_row (by rfl) 70 (.tmp 1) (by rfl) w.heap.size (by rfl) 70 (m.rcells (.slice aN m.names.length cN) (.slice aQ m.qids.length cQ) d) (0, 0) _ hA3.out.blk Tryz.underlying70 (by rfl) (by kernel_rfl) ?_)
    refine (rbody_any _ _ _ m _ _ _ w3 hm.out hf.out (by simp [numBytes_length]) ⟨hA3.out.out, hA3.out.names, hA3.out.nf, hA3.out.qids, hA3.out.qf, hA3.out.data⟩ hk3.out).mono ?_
    rintro en w4 ⟨rfl, ho4, hs4⟩
    have hB4 := hid ((hB1.out.trans ((hA3.out.st.trans hs4).below.mono (by omega))))
    clear hs4
    obtain ⟨ax, cx, hBx⟩ := ho4.box
    have s0 : w4.cell? ⟨w.heap.size + 1, 0, none⟩ = some (.slice ax (([] : List UInt8) ++ numBytes m.ty 1 ++ numBytes m.tag 2 ++ m.rbytes).length cx) := block_cell hBx.blk 0
    have s1 : w4.cell? ⟨w.heap.size + 1, 1, none⟩ = some (.int .i64 (m.rerr 0 : Int)) := block_cell hBx.blk 1
    have hown := hid (RowAt.of_own hBx.own)
    clear hBx ho4
    by_cases h0 : m.rerr 0 = 0
    · have hbyt := hby.out h0
      rw [h0] at s1
      have hn0 := hid h0
      clear h0
      replace hbyt := hid hbyt
      generalize hz : ([] : List UInt8) ++ numBytes m.ty 1 ++ numBytes m.tag 2 ++ m.rbytes = Z at s0 hown
      have hz' : Hid (m.bytes = Z) := hid (by rw [hbyt.out, ← hz]; simp)
      replace hz := hid hz
      go_wp2_with fail
      go_ret2
      exact ⟨_, by rw [he.out, hn0.out]; rfl, by rw [hz'.out]; exact hown.out, hB4.out⟩
    · have q0 := mayN_ne h0
      have hne := hid h0
      have hbn := hbb (by rw [he.out]; exact h0)
      clear h0
      clear s0 hown
      obtain ⟨er, her⟩ : ∃ e, e = m.rerr 0 := ⟨_, rfl⟩
      rw [← her] at s1 q0
      replace her := hid her
      go_wp2_with fail
      go_region_held3 (fun w' => w'.cell? ⟨w.heap.size + 1, 1, none⟩ = some (.int .i64 (er : Int)))
        (exact s1)
        (fail)
      go_wp2_with fail
      go_ret2
      exact ⟨_, by rw [he.out, ← her.out]; rfl, by rw [hbn.out]; exact RowAt.nil, hB4.out.drew⟩
end
end Go.Proofs.YtcbglcebdkpcfaaGreat
