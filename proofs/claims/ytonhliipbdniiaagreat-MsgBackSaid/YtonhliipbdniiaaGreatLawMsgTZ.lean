/- For every two messages law MsgTwo returns true. No condition beyond what a message is. -/
import Derived.Test.YtonhliipbdniiaaGreatBunV
import Derived.Test.YtonhliipbdniiaaGreatBunW
import Derived.Test.YtonhliipbdniiaaGreatBunQ
import Derived.Test.YtonhliipbdniiaaGreatMsgFewZ
import Derived.Test.YtonhliipbdniiaaGreatBunO
import Derived.Test.YtonhliipbdniiaaGreatBunL
import Derived.Test.YtonhliipbdniiaaGreatBunI2
namespace Go.Proofs.YtonhliipbdniiaaGreat
open Go.RowKit
set_option maxRecDepth 100000
set_option linter.unusedVariables false

theorem FewM.r {m : M} (h : FewM m) : RFew m := ⟨h.few, h.names, h.qids, by have := h.data; omega⟩
theorem known_is {t : Nat} (h : knownT t = true) (ht : t < 256) : 100 ≤ t ∧ t ≤ 127 ∧ t ≠ 106 := by
  unfold knownT at h
  simp at h
  omega
theorem rsame_same {a b : MV} (ha : MOk a.m) (hb : MOk b.m) (fa : RFew a.m) (fb : RFew b.m) (hk : 100 ≤ a.m.ty ∧ a.m.ty ≤ 127 ∧ a.m.ty ≠ 106) : rsameB a.m b.m = sameB a b := by
  rw [Bool.eq_iff_iff, rsame_iff ha hb fa fb hk, sameB_iff]
theorem sameB_symm (a b : MV) : sameB b a = sameB a b := by
  rw [Bool.eq_iff_iff, sameB_iff, sameB_iff]
  exact ⟨Eq.symm, Eq.symm⟩
theorem sameB_self (a : MV) : sameB a a = true := sameB_iff.2 rfl

set_option maxHeartbeats 6400000 in
theorem law_MsgTwo (a b : MV) (w : World) (ha : a.At w) (hma : MOk a.m) (hb : b.At w) (hmb : MOk b.m) : Calls Tryz.prog 5 #[.agg a.cells, .agg b.cells] w (Holds w) := by
  have hca := hid ha.cells
  have hcb := hid hb.cells
  obtain ⟨W, hW⟩ : ∃ W, W = (w.alloc (.cells a.cells 33)).alloc (.cells b.cells 33) := ⟨_, rfl⟩
  have hb0 : Below w.heap.size w W := by rw [hW]; exact ((Below.refl w.heap.size w).alloc (Nat.le_refl _) _).alloc (by simp) _
  have hS0 : SmS w.heap.size (w.heap.size + 1) a b W := by rw [hW]; exact ⟨(heap_alloc_old _ _ (by simp)).trans (heap_alloc_new _ _), heap2 _ _ _⟩
  have ha0 := hid (ha.below hb0)
  have hbb0 := hid (hb.below hb0)
  replace hb0 := hid hb0
  replace hS0 := hid hS0
  replace ha := hid ha
  replace hb := hid hb
  have hk5 := hid (known5 W)
  go_enter Tryz.func5, Tryz.ntmps5
  go_wp2_with (rw [← hW]; replace hW := hid hW)
  try (rw [← hW]; replace hW := hid hW)
  refine hk5.out.mono ?_
  rintro e w1 ⟨rfl, hb1⟩
  have hB1 := hid (sn hb0.out hb1)
  have ha1 := hid (ha0.out.below hb1)
  have hbb1 := hid (hbb0.out.below hb1)
  have hS1 := hid (hS0.out.below hb1)
  clear hb1 hk5 ha0 hbb0 hS0
  have hf := hid (few5_any a w1 ha1.out hma)
  go_wp2_with (refine wpl_row (.tmp 2) (by rfl) w.heap.size (by rfl) _ hS1.out.1 hca.out.1 (by rfl) ?_)
  refine hf.out.mono ?_
  rintro e w2 ⟨r, rfl, hr, hb2⟩
  have hB2 := hid (sn hB1.out hb2)
  have ha2 := hid (ha1.out.below hb2)
  have hbb2 := hid (hbb1.out.below hb2)
  have hS2 := hid (hS1.out.below hb2)
  clear hb2 hf ha1 hbb1 hS1 hB1
  cases r with
  | false =>
    clear hr
    go_wp2_with fail
    go_ret
    exact ⟨rfl, hB2.out⟩
  | true =>
  have hfa := hid (hr rfl).r
  clear hr
  have hf := hid (few5_any b w2 hbb2.out hmb)
  go_wp2_with (refine wpl_row (.tmp 3) (by rfl) (w.heap.size + 1) (by rfl) _ hS2.out.2 hcb.out.1 (by rfl) ?_)
  refine hf.out.mono ?_
  rintro e w3 ⟨r, rfl, hr, hb3⟩
  have hB3 := hid (sn hB2.out hb3)
  have ha3 := hid (ha2.out.below hb3)
  have hbb3 := hid (hbb2.out.below hb3)
  have hS3 := hid (hS2.out.below hb3)
  clear hb3 hf ha2 hbb2 hS2 hB2
  cases r with
  | false =>
    clear hr
    go_wp2_with fail
    go_ret
    exact ⟨rfl, hB3.out⟩
  | true =>
  have hfb := hid (hr rfl).r
  clear hr
  have c0 : w3.cell? ⟨w.heap.size, 0, none⟩ = some (.int .u8 (a.m.ty : Int)) := block_cell hS3.out.1 0
  have e0 : w3.cell? ⟨w.heap.size + 1, 0, none⟩ = some (.int .u8 (b.m.ty : Int)) := block_cell hS3.out.2 0
  have hka := hid (rknown_any a.m.ty w3 hma.ty)
  have hkb := hid (rknown_any b.m.ty w3 hmb.ty)
  obtain ⟨ka, eka⟩ : ∃ k, k = knownT a.m.ty := ⟨_, rfl⟩
  obtain ⟨kb, ekb⟩ : ∃ k, k = knownT b.m.ty := ⟨_, rfl⟩
  rw [← eka] at hka
  rw [← ekb] at hkb
  replace eka := hid eka
  replace ekb := hid ekb
  replace hma := hid hma
  replace hmb := hid hmb
  go_wp2_with fail
  refine hka.out.mono ?_
  rintro e w4 ⟨rfl, rfl⟩
  cases ka with
  | false =>
    go_wp2_with fail
    go_ret
    exact ⟨rfl, hB3.out⟩
  | true =>
  go_wp2_with fail
  refine hkb.out.mono ?_
  rintro e w4 ⟨rfl, rfl⟩
  cases kb with
  | false =>
    go_wp2_with fail
    go_ret
    exact ⟨rfl, hB3.out⟩
  | true =>
  have h1 := known_is eka.out.symm hma.out.ty
  have h2 := known_is ekb.out.symm hmb.out.ty
  have hs := hid (same_any a b w3 ha3.out hbb3.out eka.out.symm ekb.out.symm)
  obtain ⟨s, hss⟩ : ∃ s, s = sameB a b := ⟨_, rfl⟩
  rw [← hss] at hs
  have hsr : Hid (∀ X vQ1 vQ2, StrsAt X a.n a.m.names → StrsAt X b.n b.m.names → QidsAt X vQ1 a.m.qids → QidsAt X vQ2 b.m.qids → Calls Tryz.prog 13 #[.agg (a.m.rcells a.n vQ1 (strL a.m.data)), .agg (b.m.rcells b.n vQ2 (strL b.m.data))] X (RSamePost X s)) := hid (fun X vQ1 vQ2 hN1 hN2 hQ1 hQ2 => by
    have h := rsame_any a.m b.m a.n vQ1 b.n vQ2 (strL a.m.data) (strL b.m.data) X hN1 hN2 hQ1 hQ2 (strL_data _) (strL_data _) hma.out hmb.out hfa.out hfb.out h1 h2
    rw [rsame_same hma.out hmb.out hfa.out hfb.out h1, ← hss] at h
    exact h)
  have hsba : Hid (∀ X, a.At X → b.At X → Calls Tryz.prog 12 #[.agg b.cells, .agg a.cells] X (TestPost X s)) := hid (fun X hA hB => by
    have h := same_any b a X hB hA ekb.out.symm eka.out.symm
    rw [sameB_symm, ← hss] at h
    exact h)
  have hsaa : Hid (∀ X, a.At X → Calls Tryz.prog 12 #[.agg a.cells, .agg a.cells] X (TestPost X true)) := hid (fun X hA => by
    have h := same_any a a X hA hA eka.out.symm eka.out.symm
    rw [sameB_self] at h
    exact h)
  have hoa : Hid (∀ X, a.At X → Calls Tryz.prog 10 #[.agg a.cells] X (Of5Post X a)) := hid (fun X hA => of5_any a X hA (by have := hfa.out.qids; omega))
  have hob : Hid (∀ X, b.At X → Calls Tryz.prog 10 #[.agg b.cells] X (Of5Post X b)) := hid (fun X hB => of5_any b X hB (by have := hfb.out.qids; omega))
  replace hss := hid hss
  clear h1 h2 hka hkb c0 e0
  go_wp2_with (first
    | (refine wpl_row (.tmp 2) (by rfl) w.heap.size (by rfl) _ hS3.out.1 hca.out.1 (by rfl) ?_)
    | (refine wpl_row (.tmp 3) (by rfl) (w.heap.size + 1) (by rfl) _ hS3.out.2 hcb.out.1 (by rfl) ?_))
  refine hs.out.mono ?_
  rintro e w5 ⟨rfl, hb5⟩
  have hB5 := hid (sn hB3.out hb5)
  have ha5 := hid (ha3.out.below hb5)
  have hbb5 := hid (hbb3.out.below hb5)
  have hS5 := hid (hS3.out.below hb5)
  clear hb5 hs ha3 hbb3 hS3 hB3
  cases s with
  | false =>
    go_wp2_with fail
    refine wp_region_held_drew (S := SmS w.heap.size (w.heap.size + 1) a b) (by kernel_rfl) ?hS (fun hHeld => ?_)
    case hS => exact hS5.out.below (Below.refl _ _).drew
    have hSX0 := hid (hS5.out.below (Below.refl w5.heap.size w5).drew)
    have hAX0 := hid (ha5.out.below (Below.refl w5.heap.size w5).drew)
    have hCX0 := hid (hbb5.out.below (Below.refl w5.heap.size w5).drew)
    have hDX0 := hid (sn hB5.out (Below.refl w5.heap.size w5).drew)
    clear hS5 ha5 hbb5 hB5
    generalize hX : w5.drew = X0 at hSX0 hAX0 hCX0 hDX0 hHeld ⊢
    replace hX := hid hX
    refine wpAnyH_take (i := 0) (v := ?dv1) rfl (by kernel_rfl) (by kernel_rfl) (by kernel_rfl) (fun _ _ _ h => h) (Or.inl ⟨by kernel_rfl, ?dy1⟩) (by assumption) ?_
    case dy1 => (intro w hSw; (try dsimp only at hSw); go_simp; try with_reducible rfl)
    try simp only [Act.put, List.getElem_toArray, List.getElem_cons_zero, List.setIfInBounds_toArray, List.set_cons_zero, List.set_cons_succ]
    refine wpAnyH_take (i := 1) (v := .agg a.cells) rfl (by kernel_rfl) (by kernel_rfl) (by kernel_rfl) (fun _ _ _ h => h) (Or.inl ⟨by kernel_rfl, fun X hS => run_row_load X _ _ (.tmp 2) w.heap.size _ (by kernel_rfl) (by kernel_rfl) hS.1 hca.out.1⟩) (by assumption) ?_
    try simp only [Act.put, List.getElem_toArray, List.getElem_cons_succ, List.getElem_cons_zero, List.setIfInBounds_toArray, List.set_cons_zero, List.set_cons_succ]
    refine wpAnyH_take (i := 3) (v := .agg b.cells) rfl (by kernel_rfl) (by kernel_rfl) (by kernel_rfl) (fun _ _ _ h => h) (Or.inl ⟨by kernel_rfl, fun X hS => run_row_load X _ _ (.tmp 3) (w.heap.size + 1) _ (by kernel_rfl) (by kernel_rfl) hS.2 hcb.out.1⟩) (by assumption) ?_
    try simp only [Act.put, List.getElem_toArray, List.getElem_cons_succ, List.getElem_cons_zero, List.setIfInBounds_toArray, List.set_cons_zero, List.set_cons_succ]
    refine wpAnyH_ready (rs := [2]) (by kernel_rfl) (by simp) ?_
    refine AllReadyH.cons rfl (fun K hK => ?_) ?_
    · rw [if_pos (by kernel_rfl)]
      go_simp
      go_at_call 10
      refine (hoa.out _ hAX0.out).mono ?_
      rintro e X1 ⟨vQ1, rfl, hq1, hbn⟩
      have hSX1 := hid (hSX0.out.below hbn)
      have hAX1 := hid (hAX0.out.below hbn)
      have hCX1 := hid (hCX0.out.below hbn)
      have hDX1 := hid (sn hDX0.out hbn)
      replace hq1 := hid hq1
      replace hbn := hid hbn
      refine hK.out _ _ (hSX1.out) (fun hHeld => ?_)
      clear hK K
      try simp only [Act.put, List.getElem_toArray, List.getElem_cons_succ, List.getElem_cons_zero, List.setIfInBounds_toArray, List.set_cons_zero, List.set_cons_succ]
      refine wpAnyH_ready (rs := [4]) (by kernel_rfl) (by simp) ?_
      refine AllReadyH.cons rfl (fun K hK => ?_) ?_
      · rw [if_pos (by kernel_rfl)]
        go_simp
        go_at_call 10
        refine (hob.out _ hCX1.out).mono ?_
        rintro e X2 ⟨vQ2, rfl, hq2, hbn⟩
        have hSX2 := hid (hSX1.out.below hbn)
        have hAX2 := hid (hAX1.out.below hbn)
        have hCX2 := hid (hCX1.out.below hbn)
        have hDX2 := hid (sn hDX1.out hbn)
        replace hq1 := hid (RowAt.below hq1.out hbn)
        replace hq2 := hid hq2
        replace hbn := hid hbn
        refine hK.out _ _ (hSX2.out) (fun hHeld => ?_)
        clear hK K
        try simp only [Act.put, List.getElem_toArray, List.getElem_cons_succ, List.getElem_cons_zero, List.setIfInBounds_toArray, List.set_cons_zero, List.set_cons_succ]
        refine wpAnyH_ready (rs := [5]) (by kernel_rfl) (by simp) ?_
        refine AllReadyH.cons rfl (fun K hK => ?_) ?_
        · rw [if_pos (by kernel_rfl)]
          go_simp
          go_at_call 13
          refine (hsr.out _ _ _ hAX2.out.1 hCX2.out.1 hq1.out hq2.out).mono ?_
          rintro e X3 ⟨rfl, hbn⟩
          have hSX3 := hid (hSX2.out.below hbn)
          have hAX3 := hid (hAX2.out.below hbn)
          have hCX3 := hid (hCX2.out.below hbn)
          have hDX3 := hid (sn hDX2.out hbn)
          replace hbn := hid hbn
          refine hK.out _ _ (hSX3.out) (fun hHeld => ?_)
          clear hK K
          try simp only [Act.put, List.getElem_toArray, List.getElem_cons_succ, List.getElem_cons_zero, List.setIfInBounds_toArray, List.set_cons_zero, List.set_cons_succ]
          refine wpAnyH_take (i := 6) (v := ?dv2) rfl (by kernel_rfl) (by kernel_rfl) (by kernel_rfl) (fun _ _ _ h => h) (Or.inl ⟨by kernel_rfl, ?dy2⟩) (by assumption) ?_
          case dy2 => (intro w hSw; (try dsimp only at hSw); go_simp; try with_reducible rfl)
          try simp only [Act.put, List.getElem_toArray, List.getElem_cons_succ, List.getElem_cons_zero, List.setIfInBounds_toArray, List.set_cons_zero, List.set_cons_succ]
          refine wpAnyH_take (i := 7) (v := ?dv3) rfl (by kernel_rfl) (by kernel_rfl) (by kernel_rfl) (fun _ _ _ h => h) (Or.inl ⟨by kernel_rfl, ?dy3⟩) (by assumption) ?_
          case dy3 => (intro w hSw; (try dsimp only at hSw); go_simp; try with_reducible rfl)
          try simp only [Act.put, List.getElem_toArray, List.getElem_cons_succ, List.getElem_cons_zero, List.setIfInBounds_toArray, List.set_cons_zero, List.set_cons_succ]
          refine wpAnyH_take (i := 8) (v := ?dv4) rfl (by kernel_rfl) (by kernel_rfl) (by kernel_rfl) (fun _ _ _ h => h) (Or.inl ⟨by kernel_rfl, ?dy4⟩) (by assumption) ?_
          case dy4 => (intro w hSw; (try dsimp only at hSw); go_simp; try with_reducible rfl)
          try simp only [Act.put, List.getElem_toArray, List.getElem_cons_succ, List.getElem_cons_zero, List.setIfInBounds_toArray, List.set_cons_zero, List.set_cons_succ]
          refine wpAnyH_take (i := 9) (v := .agg b.cells) rfl (by kernel_rfl) (by kernel_rfl) (by kernel_rfl) (fun _ _ _ h => h) (Or.inl ⟨by kernel_rfl, fun X hS => run_row_load X _ _ (.tmp 3) (w.heap.size + 1) _ (by kernel_rfl) (by kernel_rfl) hS.2 hcb.out.1⟩) (by assumption) ?_
          try simp only [Act.put, List.getElem_toArray, List.getElem_cons_succ, List.getElem_cons_zero, List.setIfInBounds_toArray, List.set_cons_zero, List.set_cons_succ]
          refine wpAnyH_take (i := 10) (v := .agg a.cells) rfl (by kernel_rfl) (by kernel_rfl) (by kernel_rfl) (fun _ _ _ h => h) (Or.inl ⟨by kernel_rfl, fun X hS => run_row_load X _ _ (.tmp 2) w.heap.size _ (by kernel_rfl) (by kernel_rfl) hS.1 hca.out.1⟩) (by assumption) ?_
          try simp only [Act.put, List.getElem_toArray, List.getElem_cons_succ, List.getElem_cons_zero, List.setIfInBounds_toArray, List.set_cons_zero, List.set_cons_succ]
          refine wpAnyH_ready (rs := [11]) (by kernel_rfl) (by simp) ?_
          refine AllReadyH.cons rfl (fun K hK => ?_) ?_
          · rw [if_pos (by kernel_rfl)]
            go_simp
            go_at_call 12
            refine (hsba.out _ hAX3.out hCX3.out).mono ?_
            rintro e X4 ⟨rfl, hbn⟩
            have hSX4 := hid (hSX3.out.below hbn)
            have hAX4 := hid (hAX3.out.below hbn)
            have hCX4 := hid (hCX3.out.below hbn)
            have hDX4 := hid (sn hDX3.out hbn)
            replace hbn := hid hbn
            refine hK.out _ _ (hSX4.out) (fun hHeld => ?_)
            clear hK K
            try simp only [Act.put, List.getElem_toArray, List.getElem_cons_succ, List.getElem_cons_zero, List.setIfInBounds_toArray, List.set_cons_zero, List.set_cons_succ]
            refine wpAnyH_take (i := 12) (v := ?dv5) rfl (by kernel_rfl) (by kernel_rfl) (by kernel_rfl) (fun _ _ _ h => h) (Or.inl ⟨by kernel_rfl, ?dy5⟩) (by assumption) ?_
            case dy5 => (intro w hSw; (try dsimp only at hSw); go_simp; try with_reducible rfl)
            try simp only [Act.put, List.getElem_toArray, List.getElem_cons_succ, List.getElem_cons_zero, List.setIfInBounds_toArray, List.set_cons_zero, List.set_cons_succ]
            refine wpAnyH_take (i := 13) (v := ?dv6) rfl (by kernel_rfl) (by kernel_rfl) (by kernel_rfl) (fun _ _ _ h => h) (Or.inl ⟨by kernel_rfl, ?dy6⟩) (by assumption) ?_
            case dy6 => (intro w hSw; (try dsimp only at hSw); go_simp; try with_reducible rfl)
            try simp only [Act.put, List.getElem_toArray, List.getElem_cons_succ, List.getElem_cons_zero, List.setIfInBounds_toArray, List.set_cons_zero, List.set_cons_succ]
            refine wpAnyH_take (i := 14) (v := ?dv7) rfl (by kernel_rfl) (by kernel_rfl) (by kernel_rfl) (fun _ _ _ h => h) (Or.inl ⟨by kernel_rfl, ?dy7⟩) (by assumption) ?_
            case dy7 => (intro w hSw; (try dsimp only at hSw); go_simp; try with_reducible rfl)
            try simp only [Act.put, List.getElem_toArray, List.getElem_cons_succ, List.getElem_cons_zero, List.setIfInBounds_toArray, List.set_cons_zero, List.set_cons_succ]
            refine wpAnyH_take (i := 15) (v := .agg a.cells) rfl (by kernel_rfl) (by kernel_rfl) (by kernel_rfl) (fun _ _ _ h => h) (Or.inl ⟨by kernel_rfl, fun X hS => run_row_load X _ _ (.tmp 2) w.heap.size _ (by kernel_rfl) (by kernel_rfl) hS.1 hca.out.1⟩) (by assumption) ?_
            try simp only [Act.put, List.getElem_toArray, List.getElem_cons_succ, List.getElem_cons_zero, List.setIfInBounds_toArray, List.set_cons_zero, List.set_cons_succ]
            refine wpAnyH_take (i := 16) (v := .agg a.cells) rfl (by kernel_rfl) (by kernel_rfl) (by kernel_rfl) (fun _ _ _ h => h) (Or.inl ⟨by kernel_rfl, fun X hS => run_row_load X _ _ (.tmp 2) w.heap.size _ (by kernel_rfl) (by kernel_rfl) hS.1 hca.out.1⟩) (by assumption) ?_
            try simp only [Act.put, List.getElem_toArray, List.getElem_cons_succ, List.getElem_cons_zero, List.setIfInBounds_toArray, List.set_cons_zero, List.set_cons_succ]
            refine wpAnyH_ready (rs := [17]) (by kernel_rfl) (by simp) ?_
            refine AllReadyH.cons rfl (fun K hK => ?_) ?_
            · rw [if_pos (by kernel_rfl)]
              go_simp
              go_at_call 12
              refine (hsaa.out _ hAX4.out).mono ?_
              rintro e X5 ⟨rfl, hbn⟩
              have hSX5 := hid (hSX4.out.below hbn)
              have hAX5 := hid (hAX4.out.below hbn)
              have hCX5 := hid (hCX4.out.below hbn)
              have hDX5 := hid (sn hDX4.out hbn)
              replace hbn := hid hbn
              refine hK.out _ _ (hSX5.out) (fun hHeld => ?_)
              clear hK K
              try simp only [Act.put, List.getElem_toArray, List.getElem_cons_succ, List.getElem_cons_zero, List.setIfInBounds_toArray, List.set_cons_zero, List.set_cons_succ]
              refine wpAnyH_take (i := 18) (v := ?dv8) rfl (by kernel_rfl) (by kernel_rfl) (by kernel_rfl) (fun _ _ _ h => h) (Or.inl ⟨by kernel_rfl, ?dy8⟩) (by assumption) ?_
              case dy8 => (intro w hSw; (try dsimp only at hSw); go_simp; try with_reducible rfl)
              try simp only [Act.put, List.getElem_toArray, List.getElem_cons_succ, List.getElem_cons_zero, List.setIfInBounds_toArray, List.set_cons_zero, List.set_cons_succ]
              refine wpAnyH_take (i := 19) (v := ?dv9) rfl (by kernel_rfl) (by kernel_rfl) (by kernel_rfl) (fun _ _ _ h => h) (Or.inl ⟨by kernel_rfl, ?dy9⟩) (by assumption) ?_
              case dy9 => (intro w hSw; (try dsimp only at hSw); go_simp; try with_reducible rfl)
              try simp only [Act.put, List.getElem_toArray, List.getElem_cons_succ, List.getElem_cons_zero, List.setIfInBounds_toArray, List.set_cons_zero, List.set_cons_succ]
              refine wpAnyH_done (by kernel_rfl) ?_ _
              go_wp2_with fail
              go_ret
              exact ⟨rfl, hDX5.out⟩
            exact AllReadyH.nil
          exact AllReadyH.nil
        exact AllReadyH.nil
      exact AllReadyH.nil
    exact AllReadyH.nil
  | true =>
    go_wp2_with fail
    refine wp_region_held_drew (S := SmS w.heap.size (w.heap.size + 1) a b) (by kernel_rfl) ?hS (fun hHeld => ?_)
    case hS => exact hS5.out.below (Below.refl _ _).drew
    have hSX0 := hid (hS5.out.below (Below.refl w5.heap.size w5).drew)
    have hAX0 := hid (ha5.out.below (Below.refl w5.heap.size w5).drew)
    have hCX0 := hid (hbb5.out.below (Below.refl w5.heap.size w5).drew)
    have hDX0 := hid (sn hB5.out (Below.refl w5.heap.size w5).drew)
    clear hS5 ha5 hbb5 hB5
    generalize hX : w5.drew = X0 at hSX0 hAX0 hCX0 hDX0 hHeld ⊢
    replace hX := hid hX
    refine wpAnyH_take (i := 0) (v := ?dv10) rfl (by kernel_rfl) (by kernel_rfl) (by kernel_rfl) (fun _ _ _ h => h) (Or.inl ⟨by kernel_rfl, ?dy10⟩) (by assumption) ?_
    case dy10 => (intro w hSw; (try dsimp only at hSw); go_simp; try with_reducible rfl)
    try simp only [Act.put, List.getElem_toArray, List.getElem_cons_zero, List.setIfInBounds_toArray, List.set_cons_zero, List.set_cons_succ]
    refine wpAnyH_take (i := 1) (v := .agg a.cells) rfl (by kernel_rfl) (by kernel_rfl) (by kernel_rfl) (fun _ _ _ h => h) (Or.inl ⟨by kernel_rfl, fun X hS => run_row_load X _ _ (.tmp 2) w.heap.size _ (by kernel_rfl) (by kernel_rfl) hS.1 hca.out.1⟩) (by assumption) ?_
    try simp only [Act.put, List.getElem_toArray, List.getElem_cons_succ, List.getElem_cons_zero, List.setIfInBounds_toArray, List.set_cons_zero, List.set_cons_succ]
    refine wpAnyH_take (i := 3) (v := .agg b.cells) rfl (by kernel_rfl) (by kernel_rfl) (by kernel_rfl) (fun _ _ _ h => h) (Or.inl ⟨by kernel_rfl, fun X hS => run_row_load X _ _ (.tmp 3) (w.heap.size + 1) _ (by kernel_rfl) (by kernel_rfl) hS.2 hcb.out.1⟩) (by assumption) ?_
    try simp only [Act.put, List.getElem_toArray, List.getElem_cons_succ, List.getElem_cons_zero, List.setIfInBounds_toArray, List.set_cons_zero, List.set_cons_succ]
    refine wpAnyH_ready (rs := [2]) (by kernel_rfl) (by simp) ?_
    refine AllReadyH.cons rfl (fun K hK => ?_) ?_
    · rw [if_pos (by kernel_rfl)]
      go_simp
      go_at_call 10
      refine (hoa.out _ hAX0.out).mono ?_
      rintro e X1 ⟨vQ1, rfl, hq1, hbn⟩
      have hSX1 := hid (hSX0.out.below hbn)
      have hAX1 := hid (hAX0.out.below hbn)
      have hCX1 := hid (hCX0.out.below hbn)
      have hDX1 := hid (sn hDX0.out hbn)
      replace hq1 := hid hq1
      replace hbn := hid hbn
      refine hK.out _ _ (hSX1.out) (fun hHeld => ?_)
      clear hK K
      try simp only [Act.put, List.getElem_toArray, List.getElem_cons_succ, List.getElem_cons_zero, List.setIfInBounds_toArray, List.set_cons_zero, List.set_cons_succ]
      refine wpAnyH_ready (rs := [4]) (by kernel_rfl) (by simp) ?_
      refine AllReadyH.cons rfl (fun K hK => ?_) ?_
      · rw [if_pos (by kernel_rfl)]
        go_simp
        go_at_call 10
        refine (hob.out _ hCX1.out).mono ?_
        rintro e X2 ⟨vQ2, rfl, hq2, hbn⟩
        have hSX2 := hid (hSX1.out.below hbn)
        have hAX2 := hid (hAX1.out.below hbn)
        have hCX2 := hid (hCX1.out.below hbn)
        have hDX2 := hid (sn hDX1.out hbn)
        replace hq1 := hid (RowAt.below hq1.out hbn)
        replace hq2 := hid hq2
        replace hbn := hid hbn
        refine hK.out _ _ (hSX2.out) (fun hHeld => ?_)
        clear hK K
        try simp only [Act.put, List.getElem_toArray, List.getElem_cons_succ, List.getElem_cons_zero, List.setIfInBounds_toArray, List.set_cons_zero, List.set_cons_succ]
        refine wpAnyH_ready (rs := [5]) (by kernel_rfl) (by simp) ?_
        refine AllReadyH.cons rfl (fun K hK => ?_) ?_
        · rw [if_pos (by kernel_rfl)]
          go_simp
          go_at_call 13
          refine (hsr.out _ _ _ hAX2.out.1 hCX2.out.1 hq1.out hq2.out).mono ?_
          rintro e X3 ⟨rfl, hbn⟩
          have hSX3 := hid (hSX2.out.below hbn)
          have hAX3 := hid (hAX2.out.below hbn)
          have hCX3 := hid (hCX2.out.below hbn)
          have hDX3 := hid (sn hDX2.out hbn)
          replace hbn := hid hbn
          refine hK.out _ _ (hSX3.out) (fun hHeld => ?_)
          clear hK K
          try simp only [Act.put, List.getElem_toArray, List.getElem_cons_succ, List.getElem_cons_zero, List.setIfInBounds_toArray, List.set_cons_zero, List.set_cons_succ]
          refine wpAnyH_take (i := 6) (v := ?dv11) rfl (by kernel_rfl) (by kernel_rfl) (by kernel_rfl) (fun _ _ _ h => h) (Or.inl ⟨by kernel_rfl, ?dy11⟩) (by assumption) ?_
          case dy11 => (intro w hSw; (try dsimp only at hSw); go_simp; try with_reducible rfl)
          try simp only [Act.put, List.getElem_toArray, List.getElem_cons_succ, List.getElem_cons_zero, List.setIfInBounds_toArray, List.set_cons_zero, List.set_cons_succ]
          refine wpAnyH_take (i := 7) (v := ?dv12) rfl (by kernel_rfl) (by kernel_rfl) (by kernel_rfl) (fun _ _ _ h => h) (Or.inl ⟨by kernel_rfl, ?dy12⟩) (by assumption) ?_
          case dy12 => (intro w hSw; (try dsimp only at hSw); go_simp; try with_reducible rfl)
          try simp only [Act.put, List.getElem_toArray, List.getElem_cons_succ, List.getElem_cons_zero, List.setIfInBounds_toArray, List.set_cons_zero, List.set_cons_succ]
          refine wpAnyH_take (i := 8) (v := ?dv13) rfl (by kernel_rfl) (by kernel_rfl) (by kernel_rfl) (fun _ _ _ h => h) (Or.inl ⟨by kernel_rfl, ?dy13⟩) (by assumption) ?_
          case dy13 => (intro w hSw; (try dsimp only at hSw); go_simp; try with_reducible rfl)
          try simp only [Act.put, List.getElem_toArray, List.getElem_cons_succ, List.getElem_cons_zero, List.setIfInBounds_toArray, List.set_cons_zero, List.set_cons_succ]
          refine wpAnyH_take (i := 9) (v := .agg b.cells) rfl (by kernel_rfl) (by kernel_rfl) (by kernel_rfl) (fun _ _ _ h => h) (Or.inl ⟨by kernel_rfl, fun X hS => run_row_load X _ _ (.tmp 3) (w.heap.size + 1) _ (by kernel_rfl) (by kernel_rfl) hS.2 hcb.out.1⟩) (by assumption) ?_
          try simp only [Act.put, List.getElem_toArray, List.getElem_cons_succ, List.getElem_cons_zero, List.setIfInBounds_toArray, List.set_cons_zero, List.set_cons_succ]
          refine wpAnyH_take (i := 10) (v := .agg a.cells) rfl (by kernel_rfl) (by kernel_rfl) (by kernel_rfl) (fun _ _ _ h => h) (Or.inl ⟨by kernel_rfl, fun X hS => run_row_load X _ _ (.tmp 2) w.heap.size _ (by kernel_rfl) (by kernel_rfl) hS.1 hca.out.1⟩) (by assumption) ?_
          try simp only [Act.put, List.getElem_toArray, List.getElem_cons_succ, List.getElem_cons_zero, List.setIfInBounds_toArray, List.set_cons_zero, List.set_cons_succ]
          refine wpAnyH_ready (rs := [11]) (by kernel_rfl) (by simp) ?_
          refine AllReadyH.cons rfl (fun K hK => ?_) ?_
          · rw [if_pos (by kernel_rfl)]
            go_simp
            go_at_call 12
            refine (hsba.out _ hAX3.out hCX3.out).mono ?_
            rintro e X4 ⟨rfl, hbn⟩
            have hSX4 := hid (hSX3.out.below hbn)
            have hAX4 := hid (hAX3.out.below hbn)
            have hCX4 := hid (hCX3.out.below hbn)
            have hDX4 := hid (sn hDX3.out hbn)
            replace hbn := hid hbn
            refine hK.out _ _ (hSX4.out) (fun hHeld => ?_)
            clear hK K
            try simp only [Act.put, List.getElem_toArray, List.getElem_cons_succ, List.getElem_cons_zero, List.setIfInBounds_toArray, List.set_cons_zero, List.set_cons_succ]
            refine wpAnyH_take (i := 12) (v := ?dv14) rfl (by kernel_rfl) (by kernel_rfl) (by kernel_rfl) (fun _ _ _ h => h) (Or.inl ⟨by kernel_rfl, ?dy14⟩) (by assumption) ?_
            case dy14 => (intro w hSw; (try dsimp only at hSw); go_simp; try with_reducible rfl)
            try simp only [Act.put, List.getElem_toArray, List.getElem_cons_succ, List.getElem_cons_zero, List.setIfInBounds_toArray, List.set_cons_zero, List.set_cons_succ]
            refine wpAnyH_take (i := 13) (v := ?dv15) rfl (by kernel_rfl) (by kernel_rfl) (by kernel_rfl) (fun _ _ _ h => h) (Or.inl ⟨by kernel_rfl, ?dy15⟩) (by assumption) ?_
            case dy15 => (intro w hSw; (try dsimp only at hSw); go_simp; try with_reducible rfl)
            try simp only [Act.put, List.getElem_toArray, List.getElem_cons_succ, List.getElem_cons_zero, List.setIfInBounds_toArray, List.set_cons_zero, List.set_cons_succ]
            refine wpAnyH_take (i := 14) (v := ?dv16) rfl (by kernel_rfl) (by kernel_rfl) (by kernel_rfl) (fun _ _ _ h => h) (Or.inl ⟨by kernel_rfl, ?dy16⟩) (by assumption) ?_
            case dy16 => (intro w hSw; (try dsimp only at hSw); go_simp; try with_reducible rfl)
            try simp only [Act.put, List.getElem_toArray, List.getElem_cons_succ, List.getElem_cons_zero, List.setIfInBounds_toArray, List.set_cons_zero, List.set_cons_succ]
            refine wpAnyH_take (i := 15) (v := .agg a.cells) rfl (by kernel_rfl) (by kernel_rfl) (by kernel_rfl) (fun _ _ _ h => h) (Or.inl ⟨by kernel_rfl, fun X hS => run_row_load X _ _ (.tmp 2) w.heap.size _ (by kernel_rfl) (by kernel_rfl) hS.1 hca.out.1⟩) (by assumption) ?_
            try simp only [Act.put, List.getElem_toArray, List.getElem_cons_succ, List.getElem_cons_zero, List.setIfInBounds_toArray, List.set_cons_zero, List.set_cons_succ]
            refine wpAnyH_take (i := 16) (v := .agg a.cells) rfl (by kernel_rfl) (by kernel_rfl) (by kernel_rfl) (fun _ _ _ h => h) (Or.inl ⟨by kernel_rfl, fun X hS => run_row_load X _ _ (.tmp 2) w.heap.size _ (by kernel_rfl) (by kernel_rfl) hS.1 hca.out.1⟩) (by assumption) ?_
            try simp only [Act.put, List.getElem_toArray, List.getElem_cons_succ, List.getElem_cons_zero, List.setIfInBounds_toArray, List.set_cons_zero, List.set_cons_succ]
            refine wpAnyH_ready (rs := [17]) (by kernel_rfl) (by simp) ?_
            refine AllReadyH.cons rfl (fun K hK => ?_) ?_
            · rw [if_pos (by kernel_rfl)]
              go_simp
              go_at_call 12
              refine (hsaa.out _ hAX4.out).mono ?_
              rintro e X5 ⟨rfl, hbn⟩
              have hSX5 := hid (hSX4.out.below hbn)
              have hAX5 := hid (hAX4.out.below hbn)
              have hCX5 := hid (hCX4.out.below hbn)
              have hDX5 := hid (sn hDX4.out hbn)
              replace hbn := hid hbn
              refine hK.out _ _ (hSX5.out) (fun hHeld => ?_)
              clear hK K
              try simp only [Act.put, List.getElem_toArray, List.getElem_cons_succ, List.getElem_cons_zero, List.setIfInBounds_toArray, List.set_cons_zero, List.set_cons_succ]
              refine wpAnyH_take (i := 18) (v := ?dv17) rfl (by kernel_rfl) (by kernel_rfl) (by kernel_rfl) (fun _ _ _ h => h) (Or.inl ⟨by kernel_rfl, ?dy17⟩) (by assumption) ?_
              case dy17 => (intro w hSw; (try dsimp only at hSw); go_simp; try with_reducible rfl)
              try simp only [Act.put, List.getElem_toArray, List.getElem_cons_succ, List.getElem_cons_zero, List.setIfInBounds_toArray, List.set_cons_zero, List.set_cons_succ]
              refine wpAnyH_take (i := 19) (v := ?dv18) rfl (by kernel_rfl) (by kernel_rfl) (by kernel_rfl) (fun _ _ _ h => h) (Or.inl ⟨by kernel_rfl, ?dy18⟩) (by assumption) ?_
              case dy18 => (intro w hSw; (try dsimp only at hSw); go_simp; try with_reducible rfl)
              try simp only [Act.put, List.getElem_toArray, List.getElem_cons_succ, List.getElem_cons_zero, List.setIfInBounds_toArray, List.set_cons_zero, List.set_cons_succ]
              refine wpAnyH_done (by kernel_rfl) ?_ _
              go_wp2_with fail
              go_ret
              exact ⟨rfl, hDX5.out⟩
            exact AllReadyH.nil
          exact AllReadyH.nil
        exact AllReadyH.nil
      exact AllReadyH.nil
    exact AllReadyH.nil
end Go.Proofs.YtonhliipbdniiaaGreat
