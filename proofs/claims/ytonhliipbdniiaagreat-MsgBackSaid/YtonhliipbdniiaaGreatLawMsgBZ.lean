/- For every message law MsgBack returns true. No condition beyond what a message is. -/
import Derived.Test.YtonhliipbdniiaaGreatLawMsgTZ
import Derived.Test.YtonhliipbdniiaaGreatREncZ
import Derived.Test.YtonhliipbdniiaaGreatBunK
namespace Go.Proofs.YtonhliipbdniiaaGreat
open Go.RowKit
set_option maxRecDepth 100000
set_option linter.unusedVariables false

theorem MOk.cp {a x : M} (ha : MOk a) (hx : MOk x) (s : Slot) : MOk (s.cp a x) := by
  obtain ⟨h1, h2, h3, h4, h5, h6, h7, h8, h9, h10, h11, h12, h13, h14, h15⟩ := ha
  obtain ⟨k1, k2, k3, k4, k5, k6, k7, k8, k9, k10, k11, k12, k13, k14, k15⟩ := hx
  cases s <;> constructor <;> dsimp only [Slot.cp] <;> assumption
theorem MOk.cps {a : M} (ha : MOk a) : ∀ (ss : List Slot) (x : M), MOk x → MOk (cps a ss x)
  | [], _, h => h
  | s :: ss, x, h => MOk.cps ha ss _ (ha.cp h s)
theorem headTT_ok {t g : Nat} (ht : t < 256) (hg : g < 65536) : MOk (headTT t g) := by
  constructor <;> first | exact ht | exact hg | exact zeroS_ok | exact bM_ok.qid | (intro q hq; cases hq) | (show (0 : Nat) < _; omega)
theorem MOk.named {m : M} (h : MOk m) : MOk m.named := h.cps _ _ (headTT_ok h.ty h.tag)
theorem MFew.cp {a x : M} (ha : MFew a) (hx : MFew x) (s : Slot) : MFew (s.cp a x) := by
  obtain ⟨h1, h2, h3, h4, h5, h6, h7⟩ := ha
  obtain ⟨k1, k2, k3, k4, k5, k6, k7⟩ := hx
  cases s <;> constructor <;> dsimp only [Slot.cp] <;> assumption
theorem RFew.cp {a x : M} (ha : RFew a) (hx : RFew x) (s : Slot) : RFew (s.cp a x) := by
  obtain ⟨h1, h2, h3, h4⟩ := ha
  obtain ⟨k1, k2, k3, k4⟩ := hx
  refine ⟨h1.cp k1 s, ?_, ?_, ?_⟩ <;> cases s <;> dsimp only [Slot.cp] <;> assumption
theorem RFew.cps {a : M} (ha : RFew a) : ∀ (ss : List Slot) (x : M), RFew x → RFew (cps a ss x)
  | [], _, h => h
  | s :: ss, x, h => RFew.cps ha ss _ (ha.cp h s)
theorem headTT_few (t g : Nat) : RFew (headTT t g) :=
  ⟨⟨Nat.zero_le _, Nat.zero_le _, Nat.zero_le _, Nat.zero_le _, fun s hs => (by cases hs), Nat.zero_le _, ⟨Nat.zero_le _, Nat.zero_le _, Nat.zero_le _, Nat.zero_le _⟩⟩, Nat.zero_le _, Nat.zero_le _, Nat.zero_le _⟩
theorem RFew.named {m : M} (h : RFew m) : RFew m.named := h.cps _ _ (headTT_few _ _)
/-- What a decoder hands back, as a message with its rows. -/
theorem MVal.mv {w : World} {m : M} {v : Value} {B : Nat} (h : MVal w m v B) : ∃ x : MV, v = .agg x.cells ∧ x.m = m ∧ x.At w := by
  obtain ⟨vN, vQ, vD, rfl, ⟨hN, _⟩, ⟨hQ, _⟩, ⟨hD, _⟩⟩ := h
  exact ⟨⟨m, vN, vQ, vD⟩, rfl, rfl, hN, hQ, hD⟩
/-- The boxes at the law's end. -/
def BkS (p q : Nat) (a x : MV) (w : World) : Prop := w.heap[p]? = some (.cells a.cells 33 (0, 0)) ∧ w.heap[q]? = some (.cells x.cells 33 (0, 0))
theorem BkS.below {p q : Nat} {a x : MV} {w w' : World} (h : BkS p q a x w) (hb : Below w.heap.size w w') : BkS p q a x w' :=
  ⟨(hb.block p (lt_of_block h.1)).trans h.1, (hb.block q (lt_of_block h.2)).trans h.2⟩
theorem str_bne_self (s : ByteArray) : (s.toList != s.toList) = false := by simp
theorem err_known2 {m : M} (he : m.err = 0) : knownT m.ty = true := (err_known he).1

set_option maxHeartbeats 6400000 in
theorem law_MsgBack (a : MV) (w : World) (ha : a.At w) (hma : MOk a.m) : Calls Tryz.prog 3 #[.agg a.cells] w (Holds w) := by
  have hca := hid ha.cells
  obtain ⟨W, hW⟩ : ∃ W, W = w.alloc (.cells a.cells 33) := ⟨_, rfl⟩
  have hb0 : Below w.heap.size w W := by rw [hW]; exact (Below.refl w.heap.size w).alloc (Nat.le_refl _) _
  have hS0 := hid (show W.heap[w.heap.size]? = some (.cells a.cells 33 (0, 0)) by rw [hW, heap_alloc_new])
  have ha0 := hid (ha.below hb0)
  replace hb0 := hid hb0
  replace ha := hid ha
  have hk5 := hid (known5 W)
  go_enter Tryz.func3, Tryz.ntmps3
  go_wp2_with (rw [← hW]; replace hW := hid hW)
  try (rw [← hW]; replace hW := hid hW)
  refine hk5.out.mono ?_
  rintro e w1 ⟨rfl, hb1⟩
  have hB1 := hid (sn hb0.out hb1)
  have ha1 := hid (ha0.out.below hb1)
  have hS1 := hid ((hb1.block _ (lt_of_block hS0.out)).trans hS0.out)
  clear hb1 hk5 ha0 hS0
  have hf := hid (few5_any a w1 ha1.out hma)
  go_wp2_with (refine wpl_row (.tmp 1) (by rfl) w.heap.size (by rfl) _ hS1.out hca.out.1 (by rfl) ?_)
  refine hf.out.mono ?_
  rintro e w2 ⟨r, rfl, hr, hb2⟩
  have hB2 := hid (sn hB1.out hb2)
  have ha2 := hid (ha1.out.below hb2)
  have hS2 := hid ((hb2.block _ (lt_of_block hS1.out)).trans hS1.out)
  clear hb2 hf ha1 hS1 hB1
  cases r with
  | false =>
    clear hr
    go_wp2_with fail
    go_ret
    exact ⟨rfl, hB2.out⟩
  | true =>
  have hfa := hid (hr rfl).r
  clear hr
  have henc := hid (mencode_any a.m a.n a.q a.d w2 hma hfa.out.few ha2.out.1 ha2.out.2.1 ha2.out.2.2)
  replace hma := hid hma
  obtain ⟨er, her⟩ : ∃ e, e = a.m.err := ⟨_, rfl⟩
  obtain ⟨Z, hZ⟩ : ∃ l, l = a.m.bytes := ⟨_, rfl⟩
  have hof : Hid (∀ X, a.At X → Calls Tryz.prog 10 #[.agg a.cells] X (Of5Post X a)) := hid (fun X hA => of5_any a X hA (by have := hfa.out.qids; omega))
  have henc2 : Hid (Calls Tryz.prog 8 #[.agg a.cells] w2 fun e w' => ∃ v', e = .returned (.tuple #[v', .int .i64 (er : Int)]) ∧ BytesAt w' v' Z ∧ Below w2.heap.size w2 w') := hid (henc.out.mono (by rintro e w' ⟨v', rfl, ⟨h1, _⟩, h2⟩; exact ⟨v', by rw [her], by rw [hZ]; exact h1, h2⟩))
  have hren : Hid (∀ X vQ, StrsAt X a.n a.m.names → QidsAt X vQ a.m.qids → Calls Tryz.prog 9 #[.agg (a.m.rcells a.n vQ (strL a.m.data))] X fun e w' => ∃ v', e = .returned (.tuple #[v', .int .i64 (er : Int)]) ∧ BytesAt w' v' Z ∧ Below X.heap.size X w') := hid (fun X vQ h1 h2 => (rencode_any a.m a.n vQ (strL a.m.data) X hma.out hfa.out h1 h2 (strL_data _)).mono (by rintro e w' ⟨v', rfl, h1, h2⟩; exact ⟨v', by rw [her], by rw [hZ]; exact h1, h2⟩))
  have hZl : Hid (Z.length ≤ 1000000000) := hid (by
    rw [hZ]
    unfold M.bytes
    split
    · rename_i h0
      have h1 := outs_len hfa.out.few (slots a.m.ty) (by have := h0; unfold M.err at this; split at this <;> omega)
      have h2 : (slots a.m.ty).length ≤ 4 := by unfold slots; split <;> simp
      simp only [List.length_append, numBytes_length]
      have h3 : 20000 * (slots a.m.ty).length ≤ 20000 * 4 := Nat.mul_le_mul_left _ h2
      omega
    · simp)
  replace her := hid her
  replace hZ := hid hZ
  clear henc
  go_wp2_with (refine wpl_row (.tmp 1) (by rfl) w.heap.size (by rfl) _ hS2.out hca.out.1 (by rfl) ?_)
  refine henc2.out.mono ?_
  rintro e w3 ⟨v3, rfl, hv3, hb3⟩
  obtain ⟨a3, c3, rfl, _, _, _⟩ := hv3.form
  have hB3 := hid (sn hB2.out hb3)
  have ha3 := hid (ha2.out.below hb3)
  have hS3 := hid ((hb3.block _ (lt_of_block hS2.out)).trans hS2.out)
  replace hv3 := hid hv3
  clear hb3 henc2 ha2 hS2 hB2
  go_wp2_with (refine wpl_row (.tmp 1) (by rfl) w.heap.size (by rfl) _ hS3.out hca.out.1 (by rfl) ?_)
  refine (hof.out _ ha3.out).mono ?_
  rintro e w4 ⟨vQ, rfl, hq4, hb4⟩
  have hB4 := hid (sn hB3.out hb4)
  have ha4 := hid (ha3.out.below hb4)
  have hS4 := hid ((hb4.block _ (lt_of_block hS3.out)).trans hS3.out)
  have hv4 := hid (hv3.out.below hb4)
  replace hq4 := hid hq4
  clear hb4 ha3 hS3 hB3 hv3
  go_wp2_with fail
  refine (hren.out _ _ ha4.out.1 hq4.out).mono ?_
  rintro e w5 ⟨v5, rfl, hv5, hb5⟩
  obtain ⟨a5, c5, rfl, _, _, _⟩ := hv5.form
  have hB5 := hid (sn hB4.out hb5)
  have ha5 := hid (ha4.out.below hb5)
  have hS5 := hid ((hb5.block _ (lt_of_block hS4.out)).trans hS4.out)
  have hx5 := hid (hv4.out.below hb5)
  obtain ⟨st, hst⟩ : ∃ s, s = strL Z := ⟨_, rfl⟩
  have k1 : (convert 29 9 (.slice a3 Z.length c3)).run Tryz.prog w5 = .ok (.string st) w5 := by rw [hst]; exact conv_string _ _ _ hx5.out
  have k2 : (convert 29 9 (.slice a5 Z.length c5)).run Tryz.prog w5 = .ok (.string st) w5 := by rw [hst]; exact conv_string _ _ _ hv5
  have k3 := str_bne_self st
  have k4 : ((er : Int) != (er : Int)) = false := by simp
  replace hv5 := hid hv5
  replace hst := hid hst
  clear hb5 ha4 hS4 hB4 hv4 hren
  by_cases h0 : er = 0
  · subst h0
    obtain ⟨hi, hd⟩ := back_is hma.out hfa.out.few her.out.symm
    have hka := hid (err_known2 her.out.symm)
    rw [← hZ.out] at hi hd
    have hdec : Hid (Calls Tryz.prog 11 #[.slice a3 Z.length c3] w5 fun e w' => ∃ x : MV, e = .returned (.tuple #[.agg x.cells, .int .i64 0]) ∧ x.m = a.m.named ∧ x.At w' ∧ Below w5.heap.size w5 w') := hid ((mdecode_any _ Z w5 hx5.out hZl.out).mono (by
      rintro e w' ⟨hb, v, rfl, hv⟩
      rw [if_pos hi] at hv ⊢
      rw [hd] at hv
      obtain ⟨x, rfl, h1, h2⟩ := hv.mv
      exact ⟨x, rfl, h1, h2, hb⟩))
    clear hi hd
    go_wp2_with fail
    refine hdec.out.mono ?_
    rintro e w6 ⟨x, rfl, hxm, hx6, hb6⟩
    clear k1 k2 k3
    have hB6 := hid (sn hB5.out hb6)
    have ha6 := hid (ha5.out.below hb6)
    have hS6 := hid ((hb6.block _ (lt_of_block hS5.out)).trans hS5.out)
    have hcx := hid hx6.cells
    have hmx : Hid (MOk x.m) := hid (by rw [hxm]; exact hma.out.named)
    have hfx : Hid (RFew x.m) := hid (by rw [hxm]; exact hfa.out.named)
    have hkx : Hid (knownT x.m.ty = true) := hid (by rw [hxm, (named_ty a.m).1]; exact hka.out)
    have hsx : Hid (sameB x a = true) := hid (sameB_iff.2 (by rw [hxm, named_named]))
    have hnew := hid (heap_alloc_new w6 (.cells (zeroM.cells (.slice none 0 0) (.slice none 0 0) (.slice none 0 0)) 33))
    obtain ⟨W7, hW7⟩ : ∃ W, W = (w6.alloc (.cells (zeroM.cells (.slice none 0 0) (.slice none 0 0) (.slice none 0 0)) 33)).setRow w6.heap.size x.cells := ⟨_, rfl⟩
    have hb7 : Below w6.heap.size w6 W7 := by rw [hW7]; exact below_setRow ((Below.refl _ _).alloc (Nat.le_refl _) _) (Nat.le_refl _) _
    have hx7 : W7.heap[w6.heap.size]? = some (.cells x.cells 33 (0, 0)) := by rw [hW7]; exact setRow_heap _ _ _ _ _ _ hnew.out
    have hB7 := hid (sn hB6.out hb7)
    have ha7 := hid (ha6.out.below hb7)
    have hxa7 := hid (hx6.below hb7)
    have hS7 : Hid (BkS w.heap.size w6.heap.size a x W7) := hid ⟨(hb7.block _ (lt_of_block hS6.out)).trans hS6.out, hx7⟩
    rw [nil_cells] at hnew hW7
    replace hxm := hid hxm
    replace hx6 := hid hx6
    clear hb6 hb7 hx7
    have hsame : Hid (∀ X, x.At X → a.At X → Calls Tryz.prog 12 #[.agg x.cells, .agg a.cells] X (TestPost X true)) := hid (fun X h1 h2 => by
      have h := same_any x a X h1 h2 hkx.out hka.out
      rw [hsx.out] at h
      exact h)
    have hsr : Hid (∀ X vQ1 vQ2, StrsAt X x.n x.m.names → StrsAt X a.n a.m.names → QidsAt X vQ1 x.m.qids → QidsAt X vQ2 a.m.qids → Calls Tryz.prog 13 #[.agg (x.m.rcells x.n vQ1 (strL x.m.data)), .agg (a.m.rcells a.n vQ2 (strL a.m.data))] X (RSamePost X true)) := hid (fun X vQ1 vQ2 hN1 hN2 hQ1 hQ2 => by
      have h := rsame_any x.m a.m x.n vQ1 a.n vQ2 (strL x.m.data) (strL a.m.data) X hN1 hN2 hQ1 hQ2 (strL_data _) (strL_data _) hmx.out hma.out hfx.out hfa.out (known_is hkx.out hmx.out.ty) (known_is hka.out hma.out.ty)
      rw [rsame_same hmx.out hma.out hfx.out hfa.out (known_is hkx.out hmx.out.ty), hsx.out] at h
      exact h)
    have hox : Hid (∀ X, x.At X → Calls Tryz.prog 10 #[.agg x.cells] X (Of5Post X x)) := hid (fun X hA => of5_any x X hA (by have := hfx.out.qids; omega))
    go_upto_region 12 with (first
      | (refine wpList_store_row (by rfl) 33 (.tmp 7) (.tmp 40) (by rfl) w6.heap.size x.cells (by rfl) (by rfl) 33 _ hnew.out (by rw [hcx.out.1]; kernel_rfl) (by rw [hcx.out.1]; rfl) hcx.out.2 ?_)
      | (rw [← hW7]; replace hW7 := hid hW7))
    try (rw [← hW7]; replace hW7 := hid hW7)
    generalize w6.heap.size = p at *
    refine wp_region_held_drew (S := BkS w.heap.size p a x) (by kernel_rfl) ?hS (fun hHeld => ?_)
    case hS => exact hS7.out.below (Below.refl _ _).drew
    have hSX0 := hid (hS7.out.below (Below.refl W7.heap.size W7).drew)
    have hAX0 := hid (ha7.out.below (Below.refl W7.heap.size W7).drew)
    have hCX0 := hid (hxa7.out.below (Below.refl W7.heap.size W7).drew)
    have hDX0 := hid (sn hB7.out (Below.refl W7.heap.size W7).drew)
    generalize hX : W7.drew = X0 at hSX0 hAX0 hCX0 hDX0 hHeld ⊢
    replace hX := hid hX
    refine wpAnyH_take (i := 0) (v := ?dv1) rfl (by kernel_rfl) (by kernel_rfl) (by kernel_rfl) (fun _ _ _ h => h) (Or.inl ⟨by kernel_rfl, ?dy1⟩) (by assumption) ?_
    case dy1 => (intro w hSw; (try dsimp only at hSw); go_simp; try with_reducible rfl)
    try simp only [Act.put, List.getElem_toArray, List.getElem_cons_zero, List.setIfInBounds_toArray, List.set_cons_zero, List.set_cons_succ]
    refine wpAnyH_take (i := 1) (v := ?dv2) rfl (by kernel_rfl) (by kernel_rfl) (by kernel_rfl) (fun _ _ _ h => h) (Or.inl ⟨by kernel_rfl, ?dy2⟩) (by assumption) ?_
    case dy2 => (intro w hSw; (try dsimp only at hSw); go_simp; try with_reducible rfl)
    try simp only [Act.put, List.getElem_toArray, List.getElem_cons_succ, List.getElem_cons_zero, List.setIfInBounds_toArray, List.set_cons_zero, List.set_cons_succ]
    refine wpAnyH_take (i := 2) (v := ?dv3) rfl (by kernel_rfl) (by kernel_rfl) (by kernel_rfl) (fun _ _ _ h => h) (Or.inl ⟨by kernel_rfl, ?dy3⟩) (by assumption) ?_
    case dy3 => (intro w hSw; (try dsimp only at hSw); go_simp; try with_reducible rfl)
    try simp only [Act.put, List.getElem_toArray, List.getElem_cons_succ, List.getElem_cons_zero, List.setIfInBounds_toArray, List.set_cons_zero, List.set_cons_succ]
    refine wpAnyH_take (i := 3) (v := .agg x.cells) rfl (by kernel_rfl) (by kernel_rfl) (by kernel_rfl) (fun _ _ _ h => h) (Or.inl ⟨by kernel_rfl, fun X hS => run_row_load X _ _ (.tmp 7) p _ (by kernel_rfl) (by kernel_rfl) hS.2 hcx.out.1⟩) (by assumption) ?_
    try simp only [Act.put, List.getElem_toArray, List.getElem_cons_succ, List.getElem_cons_zero, List.setIfInBounds_toArray, List.set_cons_zero, List.set_cons_succ]
    refine wpAnyH_take (i := 4) (v := .agg a.cells) rfl (by kernel_rfl) (by kernel_rfl) (by kernel_rfl) (fun _ _ _ h => h) (Or.inl ⟨by kernel_rfl, fun X hS => run_row_load X _ _ (.tmp 1) w.heap.size _ (by kernel_rfl) (by kernel_rfl) hS.1 hca.out.1⟩) (by assumption) ?_
    try simp only [Act.put, List.getElem_toArray, List.getElem_cons_succ, List.getElem_cons_zero, List.setIfInBounds_toArray, List.set_cons_zero, List.set_cons_succ]
    refine wpAnyH_ready (rs := [5]) (by kernel_rfl) (by simp) ?_
    refine AllReadyH.cons rfl (fun K hK => ?_) ?_
    · rw [if_pos (by kernel_rfl)]
      go_simp
      go_at_call 12
      refine (hsame.out _ hCX0.out hAX0.out).mono ?_
      rintro e X1 ⟨rfl, hbn⟩
      have hSX1 := hid (hSX0.out.below hbn)
      have hAX1 := hid (hAX0.out.below hbn)
      have hCX1 := hid (hCX0.out.below hbn)
      have hDX1 := hid (sn hDX0.out hbn)
      replace hbn := hid hbn
      refine hK.out _ _ (hSX1.out) (fun hHeld => ?_)
      clear hK K
      try simp only [Act.put, List.getElem_toArray, List.getElem_cons_succ, List.getElem_cons_zero, List.setIfInBounds_toArray, List.set_cons_zero, List.set_cons_succ]
      refine wpAnyH_take (i := 6) (v := ?dv4) rfl (by kernel_rfl) (by kernel_rfl) (by kernel_rfl) (fun _ _ _ h => h) (Or.inl ⟨by kernel_rfl, ?dy4⟩) (by assumption) ?_
      case dy4 => (intro w hSw; (try dsimp only at hSw); go_simp; try with_reducible rfl)
      try simp only [Act.put, List.getElem_toArray, List.getElem_cons_succ, List.getElem_cons_zero, List.setIfInBounds_toArray, List.set_cons_zero, List.set_cons_succ]
      refine wpAnyH_take (i := 7) (v := ?dv5) rfl (by kernel_rfl) (by kernel_rfl) (by kernel_rfl) (fun _ _ _ h => h) (Or.inl ⟨by kernel_rfl, ?dy5⟩) (by assumption) ?_
      case dy5 => (intro w hSw; (try dsimp only at hSw); go_simp; try with_reducible rfl)
      try simp only [Act.put, List.getElem_toArray, List.getElem_cons_succ, List.getElem_cons_zero, List.setIfInBounds_toArray, List.set_cons_zero, List.set_cons_succ]
      refine wpAnyH_take (i := 8) (v := .agg x.cells) rfl (by kernel_rfl) (by kernel_rfl) (by kernel_rfl) (fun _ _ _ h => h) (Or.inl ⟨by kernel_rfl, fun X hS => run_row_load X _ _ (.tmp 7) p _ (by kernel_rfl) (by kernel_rfl) hS.2 hcx.out.1⟩) (by assumption) ?_
      try simp only [Act.put, List.getElem_toArray, List.getElem_cons_succ, List.getElem_cons_zero, List.setIfInBounds_toArray, List.set_cons_zero, List.set_cons_succ]
      refine wpAnyH_take (i := 10) (v := .agg a.cells) rfl (by kernel_rfl) (by kernel_rfl) (by kernel_rfl) (fun _ _ _ h => h) (Or.inl ⟨by kernel_rfl, fun X hS => run_row_load X _ _ (.tmp 1) w.heap.size _ (by kernel_rfl) (by kernel_rfl) hS.1 hca.out.1⟩) (by assumption) ?_
      try simp only [Act.put, List.getElem_toArray, List.getElem_cons_succ, List.getElem_cons_zero, List.setIfInBounds_toArray, List.set_cons_zero, List.set_cons_succ]
      refine wpAnyH_ready (rs := [9]) (by kernel_rfl) (by simp) ?_
      refine AllReadyH.cons rfl (fun K hK => ?_) ?_
      · rw [if_pos (by kernel_rfl)]
        go_simp
        go_at_call 10
        refine (hox.out _ hCX1.out).mono ?_
        rintro e X2 ⟨vQ1, rfl, hq1, hbn⟩
        have hSX2 := hid (hSX1.out.below hbn)
        have hAX2 := hid (hAX1.out.below hbn)
        have hCX2 := hid (hCX1.out.below hbn)
        have hDX2 := hid (sn hDX1.out hbn)
        replace hq1 := hid hq1
        replace hbn := hid hbn
        refine hK.out _ _ (hSX2.out) (fun hHeld => ?_)
        clear hK K
        try simp only [Act.put, List.getElem_toArray, List.getElem_cons_succ, List.getElem_cons_zero, List.setIfInBounds_toArray, List.set_cons_zero, List.set_cons_succ]
        refine wpAnyH_ready (rs := [11]) (by kernel_rfl) (by simp) ?_
        refine AllReadyH.cons rfl (fun K hK => ?_) ?_
        · rw [if_pos (by kernel_rfl)]
          go_simp
          go_at_call 10
          refine (hof.out _ hAX2.out).mono ?_
          rintro e X3 ⟨vQ2, rfl, hq2, hbn⟩
          have hSX3 := hid (hSX2.out.below hbn)
          have hAX3 := hid (hAX2.out.below hbn)
          have hCX3 := hid (hCX2.out.below hbn)
          have hDX3 := hid (sn hDX2.out hbn)
          replace hq1 := hid (RowAt.below hq1.out hbn)
          replace hq2 := hid hq2
          replace hbn := hid hbn
          refine hK.out _ _ (hSX3.out) (fun hHeld => ?_)
          clear hK K
          try simp only [Act.put, List.getElem_toArray, List.getElem_cons_succ, List.getElem_cons_zero, List.setIfInBounds_toArray, List.set_cons_zero, List.set_cons_succ]
          refine wpAnyH_ready (rs := [12]) (by kernel_rfl) (by simp) ?_
          refine AllReadyH.cons rfl (fun K hK => ?_) ?_
          · rw [if_pos (by kernel_rfl)]
            go_simp
            go_at_call 13
            refine (hsr.out _ _ _ hCX3.out.1 hAX3.out.1 hq1.out hq2.out).mono ?_
            rintro e X4 ⟨rfl, hbn⟩
            have hSX4 := hid (hSX3.out.below hbn)
            have hAX4 := hid (hAX3.out.below hbn)
            have hCX4 := hid (hCX3.out.below hbn)
            have hDX4 := hid (sn hDX3.out hbn)
            replace hbn := hid hbn
            refine hK.out _ _ (hSX4.out) (fun hHeld => ?_)
            clear hK K
            try simp only [Act.put, List.getElem_toArray, List.getElem_cons_succ, List.getElem_cons_zero, List.setIfInBounds_toArray, List.set_cons_zero, List.set_cons_succ]
            refine wpAnyH_take (i := 13) (v := ?dv6) rfl (by kernel_rfl) (by kernel_rfl) (by kernel_rfl) (fun _ _ _ h => h) (Or.inl ⟨by kernel_rfl, ?dy6⟩) (by assumption) ?_
            case dy6 => (intro w hSw; (try dsimp only at hSw); go_simp; try with_reducible rfl)
            try simp only [Act.put, List.getElem_toArray, List.getElem_cons_succ, List.getElem_cons_zero, List.setIfInBounds_toArray, List.set_cons_zero, List.set_cons_succ]
            refine wpAnyH_take (i := 14) (v := ?dv7) rfl (by kernel_rfl) (by kernel_rfl) (by kernel_rfl) (fun _ _ _ h => h) (Or.inl ⟨by kernel_rfl, ?dy7⟩) (by assumption) ?_
            case dy7 => (intro w hSw; (try dsimp only at hSw); go_simp; try with_reducible rfl)
            try simp only [Act.put, List.getElem_toArray, List.getElem_cons_succ, List.getElem_cons_zero, List.setIfInBounds_toArray, List.set_cons_zero, List.set_cons_succ]
            refine wpAnyH_done (by kernel_rfl) ?_ _
            go_wp2_with fail
            go_ret
            exact ⟨rfl, hDX4.out⟩
          exact AllReadyH.nil
        exact AllReadyH.nil
      exact AllReadyH.nil
    exact AllReadyH.nil
  · have q0 := mayN_ne h0
    replace h0 := hid h0
    go_wp2_with fail
    go_ret
    exact ⟨rfl, hB5.out⟩
end Go.Proofs.YtonhliipbdniiaaGreat
