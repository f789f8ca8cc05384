/- What is known of layer 16: the walk. No condition. -/
import Derived.Test.YtonhliipbdniiaaPmL2
namespace Go.Proofs.Ytonhliipbdniiaa
open Go.RowKit
set_option maxRecDepth 100000
set_option linter.unusedVariables false

/-- The variables of known, wherever it stands. -/
structure KnS (w wx : World) (p b c d : Nat) (gs : List Grp) : Prop where
  tab : TabAt wx p usK gs
  nod : wx.heap[b]? = some (.cells nK.cells 27 (0, 0))
  dir : wx.heap[c]? = some (.cells dK.cells 27 (0, 0))
  sta : wx.heap[d]? = some (.cells sK.cells 50 (0, 0))
  bel : Below w.heap.size w wx
theorem KnS.below {w wx wy : World} {p b c d : Nat} {gs : List Grp} (h : KnS w wx p b c d gs) (hb : Below wx.heap.size wx wy) : KnS w wy p b c d gs :=
  ⟨h.tab.below hb, (hb.block _ (lt_of_block h.nod)).trans h.nod, (hb.block _ (lt_of_block h.dir)).trans h.dir, (hb.block _ (lt_of_block h.sta)).trans h.sta, sn h.bel hb⟩

structure KnA (w wx : World) (p b : Nat) (gs : List Grp) : Prop where
  tab : TabAt wx p usK gs
  nod : wx.heap[b]? = some (.cells nK.cells 27 (0, 0))
  bel : Below w.heap.size w wx
structure KnB (w wx : World) (p b c : Nat) (gs : List Grp) : Prop where
  tab : TabAt wx p usK gs
  nod : wx.heap[b]? = some (.cells nK.cells 27 (0, 0))
  dir : wx.heap[c]? = some (.cells dK.cells 27 (0, 0))
  bel : Below w.heap.size w wx
structure KnC (w wx wo : World) (p b c d : Nat) (gs : List Grp) : Prop where
  old : KnB w wo p b c gs
  bel : Below wo.heap.size wo wx
  low : wo.heap.size ≤ d
  sta : wx.heap[d]? = some (.cells keepS.cells 50 (0, 0))
theorem kn_set {w wx wo : World} {p b c d : Nat} {gs : List Grp} (h : KnC w wx wo p b c d gs) : KnS w (wx.setCell ⟨d, 5, none⟩ (.int .u32 384)) p b c d gs := by
  have hb : Below wo.heap.size wo (wx.setCell ⟨d, 5, none⟩ (.int .u32 384)) := h.bel.setCell (p := ⟨d, 5, none⟩) h.low _
  exact ⟨h.old.tab.below hb, (hb.block _ (lt_of_block h.old.nod)).trans h.old.nod, (hb.block _ (lt_of_block h.old.dir)).trans h.old.dir, block_set h.sta 5 _, sn h.old.bel hb⟩
theorem txts_k3 (w : World) (b : Nat) (T : TypeId) (h : w.heap[b]? = some (.cells #[.string ⟨#[97]⟩, .string ⟨#[98]⟩, .string ⟨#[99]⟩] T (0, 0))) : TxtsAt w (.slice (some ⟨b, 0, none⟩) 3 3) usK :=
  (RowAt.of_block (n := 3) (k := 1) h rfl (by decide)).weak
theorem txts_k1 (w : World) (b : Nat) (T : TypeId) (h : w.heap[b]? = some (.cells #[.string ⟨#[98]⟩] T (0, 0))) : TxtsAt w (.slice (some ⟨b, 0, none⟩) 1 1) [⟨#[98]⟩] :=
  (RowAt.of_block (n := 1) (k := 1) h rfl (by decide)).weak
theorem grps_k (w : World) (b b1 : Nat) (T T1 : TypeId) (h : w.heap[b]? = some (.cells #[.string ⟨#[103]⟩, .slice (some ⟨b1, 0, none⟩) 1 1] T (0, 0))) (h1 : w.heap[b1]? = some (.cells #[.string ⟨#[98]⟩] T1 (0, 0))) :
    GrpsAt w (.slice (some ⟨b, 0, none⟩) 1 1) (gsK (.slice (some ⟨b1, 0, none⟩) 1 1)) :=
  ⟨(RowAt.of_block (n := 1) (k := 2) h rfl (by decide)).weak, fun g hg => by simp [gsK] at hg; subst hg; exact txts_k1 w b1 T1 h1⟩

set_option maxHeartbeats 6400000 in
theorem known16_any (w : World) : Calls Try.prog 9 #[] w fun e w' => e = .returned (.bool true) ∧ Below w.heap.size w w' := by
  go_enter Try.func9, Try.ntmps9
  go_wp2_with fail
  refine (table_any _ _ usK (gsK (.slice (some ⟨w.heap.size + 1, 0, none⟩) 1 1)) _ (txts_k3 _ _ 9 ?_) (grps_k _ _ (w.heap.size + 1) 61 9 ?_ ?_) (uok_k _) ?_).mono ?_
  · rw [heap_alloc_old _ _ (by simp; omega), heap_alloc_old _ _ (by simp), heap_alloc_new]
  · exact heap3 _ _ _ _
  · rw [heap_alloc_old _ _ (by simp)]; exact heap2 _ _ _
  · intro g hg; simp [gsK] at hg; subst hg; simp
  rintro e w1 ⟨p, gs, rfl, hT, hS, hb1⟩
  have hm1 := hid (knP p _ gs hS).m1
  have hm2 := hid (knP p _ gs hS).m2
  have hm3 := hid (knP p _ gs hS).m3
  have hm4 := hid (knP p _ gs hS).m4
  have ho1 := hid (knP p _ gs hS).o1
  have ho2 := hid (knP p _ gs hS).o2
  have ho3 := hid (knP p _ gs hS).o3
  have hb1' := hid (knP p _ gs hS).b1
  have hc1 := hid (knP p _ gs hS).c1
  have hc2 := hid (knP p _ gs hS).c2
  simp only [nod_cells, Stat.cells] at hm1 hm2 hm3 hm4 ho1 ho2 ho3 hb1' hc1 hc2
  have hB := hid (sn ((((Below.refl w.heap.size w).alloc (Nat.le_refl _) (.cells #[.string ⟨#[97]⟩, .string ⟨#[98]⟩, .string ⟨#[99]⟩] 9)).alloc (by simp) (.cells #[.string ⟨#[98]⟩] 9)).alloc (by simp; omega) (.cells #[.string ⟨#[103]⟩, .slice (some ⟨w.heap.size + 1, 0, none⟩) 1 1] 61)) hb1)
  replace hT := hid hT
  clear hb1 hS
  go_upto_region 4 with (fail)
  go_cut [2] (fun s2 wx => ∃ b : Nat, s2 = .pointer (some ⟨b, 0, none⟩) ∧ Hid (KnA w wx p b gs))
  case first =>
    have hnew := hid (heap_alloc_new w1 (.cells zeroNode 27))
    go_wp2_with (refine wpList_store_row (by rfl) 27 (.tmp 2) (.tmp 13) (by rfl) w1.heap.size nK.cells (by rfl) (by rfl) 27 _ hnew.out (by kernel_rfl) (by kernel_rfl) (by kernel_rfl) ?_)
    go_meet
    have hbb : Below w1.heap.size w1 ((w1.alloc (.cells zeroNode 27)).setRow w1.heap.size nK.cells) := below_setRow ((Below.refl _ _).alloc (Nat.le_refl _) _) (Nat.le_refl _) _
    exact ⟨_, rfl, hid ⟨hT.out.below hbb, setRow_heap _ _ _ _ _ _ hnew.out, sn hB.out hbb⟩⟩
  case rest =>
    obtain ⟨b, rfl, hA⟩ := hcut
    clear hT hB
    go_upto_region 5 with (fail)
    go_cut [3] (fun s3 wx => ∃ c : Nat, s3 = .pointer (some ⟨c, 0, none⟩) ∧ Hid (KnB w wx p b c gs))
    case first =>
      have hnew := hid (heap_alloc_new wc (.cells zeroNode 27))
      go_wp2_with (refine wpList_store_row (by rfl) 27 (.tmp 3) (.tmp 14) (by rfl) wc.heap.size dK.cells (by rfl) (by rfl) 27 _ hnew.out (by kernel_rfl) (by kernel_rfl) (by kernel_rfl) ?_)
      go_meet
      have hbb : Below wc.heap.size wc ((wc.alloc (.cells zeroNode 27)).setRow wc.heap.size dK.cells) := below_setRow ((Below.refl _ _).alloc (Nat.le_refl _) _) (Nat.le_refl _) _
      exact ⟨_, rfl, hid ⟨hA.out.tab.below hbb, (hbb.block _ (lt_of_block hA.out.nod)).trans hA.out.nod, setRow_heap _ _ _ _ _ _ hnew.out, sn hA.out.bel hbb⟩⟩
    case rest =>
      obtain ⟨c, rfl, hB⟩ := hcut
      clear hA
      go_upto_region 6 with (fail)
      go_cut [4] (fun s4 wx => ∃ (d : Nat) (wo : World), s4 = .pointer (some ⟨d, 0, none⟩) ∧ Hid (KnC w wx wo p b c d gs))
      case first =>
        go_wp2_with (first | (go_at_call 24; (with_reducible refine (keep_any _).mono ?_); rintro e w6 ⟨rfl, hb6⟩; replace hb6 := hid hb6; have hnew := hid (heap_alloc_new w6 (.cells zero13 50))) | (refine wpList_store_row (by rfl) 50 (.tmp 4) (.tmp 15) (by rfl) w6.heap.size keepS.cells (by rfl) (by rfl) 50 _ hnew.out (by kernel_rfl) (by kernel_rfl) (by kernel_rfl) ?_))
        go_meet
        have hbb : Below wc.heap.size wc ((w6.alloc (.cells zero13 50)).setRow w6.heap.size keepS.cells) := below_setRow (hb6.out.alloc hb6.out.size _) hb6.out.size _
        exact ⟨_, wc, rfl, hid ⟨hB.out, hbb, hb6.out.size, setRow_heap _ _ _ _ _ _ hnew.out⟩⟩
      case rest =>
        obtain ⟨d, wo, rfl, hC⟩ := hcut
        clear hB
        have q5 : wc.cell? ⟨d, 5, none⟩ = some (.int .u32 4294967295) := block_cell hC.out.sta 5
        have f5 : wc.frozen? ⟨d, 5, none⟩ = false := block_free hC.out.sta 5
        have hK : Hid (KnS w (wc.setCell ⟨d, 5, none⟩ (.int .u32 384)) p b c d gs) := hid (kn_set hC.out)
        obtain ⟨W, hW⟩ : ∃ W, W = wc.setCell ⟨d, 5, none⟩ (.int .u32 384) := ⟨_, rfl⟩
        rw [← hW] at hK
        go_upto_region 8 with (rw [← hW]; replace hW := hid hW)
        try (rw [← hW]; replace hW := hid hW)
        clear q5 f5 hC
        obtain ⟨d0, d1, d2, d3, d4, d5, d6, d7, d8, d9, d10, d11⟩ := nodS hK.out.nod
        obtain ⟨k0, k1, k2, k3, k4, k5, k6, k7, k8, k9, k10, k11⟩ := nodS hK.out.dir
        obtain ⟨s0, s1, s2, s3, s4, s5, s6, s7, s8, s9, s10, s11, s12⟩ := staS hK.out.sta
        go_wp2_with (first | (go_at_call 16; (with_reducible refine (hm1.out _ hK.out.tab).mono ?_); rintro e x0 ⟨rfl, hb⟩; replace hK := hid (hK.out.below hb); clear hb d0 d1 d2 d3 d4 d5 d6 d7 d8 d9 d10 d11 k0 k1 k2 k3 k4 k5 k6 k7 k8 k9 k10 k11 s0 s1 s2 s3 s4 s5 s6 s7 s8 s9 s10 s11 s12; obtain ⟨d0, d1, d2, d3, d4, d5, d6, d7, d8, d9, d10, d11⟩ := nodS hK.out.nod; obtain ⟨k0, k1, k2, k3, k4, k5, k6, k7, k8, k9, k10, k11⟩ := nodS hK.out.dir; obtain ⟨s0, s1, s2, s3, s4, s5, s6, s7, s8, s9, s10, s11, s12⟩ := staS hK.out.sta) | (go_at_call 16; (with_reducible refine (hm2.out _ hK.out.tab).mono ?_); rintro e x1 ⟨rfl, hb⟩; replace hK := hid (hK.out.below hb); clear hb d0 d1 d2 d3 d4 d5 d6 d7 d8 d9 d10 d11 k0 k1 k2 k3 k4 k5 k6 k7 k8 k9 k10 k11 s0 s1 s2 s3 s4 s5 s6 s7 s8 s9 s10 s11 s12; obtain ⟨d0, d1, d2, d3, d4, d5, d6, d7, d8, d9, d10, d11⟩ := nodS hK.out.nod; obtain ⟨k0, k1, k2, k3, k4, k5, k6, k7, k8, k9, k10, k11⟩ := nodS hK.out.dir; obtain ⟨s0, s1, s2, s3, s4, s5, s6, s7, s8, s9, s10, s11, s12⟩ := staS hK.out.sta) | (go_at_call 16; (with_reducible refine (hm3.out _ hK.out.tab).mono ?_); rintro e x2 ⟨rfl, hb⟩; replace hK := hid (hK.out.below hb); clear hb d0 d1 d2 d3 d4 d5 d6 d7 d8 d9 d10 d11 k0 k1 k2 k3 k4 k5 k6 k7 k8 k9 k10 k11 s0 s1 s2 s3 s4 s5 s6 s7 s8 s9 s10 s11 s12; obtain ⟨d0, d1, d2, d3, d4, d5, d6, d7, d8, d9, d10, d11⟩ := nodS hK.out.nod; obtain ⟨k0, k1, k2, k3, k4, k5, k6, k7, k8, k9, k10, k11⟩ := nodS hK.out.dir; obtain ⟨s0, s1, s2, s3, s4, s5, s6, s7, s8, s9, s10, s11, s12⟩ := staS hK.out.sta) | (go_at_call 16; (with_reducible refine (hm4.out _ hK.out.tab).mono ?_); rintro e x3 ⟨rfl, hb⟩; replace hK := hid (hK.out.below hb); clear hb d0 d1 d2 d3 d4 d5 d6 d7 d8 d9 d10 d11 k0 k1 k2 k3 k4 k5 k6 k7 k8 k9 k10 k11 s0 s1 s2 s3 s4 s5 s6 s7 s8 s9 s10 s11 s12; obtain ⟨d0, d1, d2, d3, d4, d5, d6, d7, d8, d9, d10, d11⟩ := nodS hK.out.nod; obtain ⟨k0, k1, k2, k3, k4, k5, k6, k7, k8, k9, k10, k11⟩ := nodS hK.out.dir; obtain ⟨s0, s1, s2, s3, s4, s5, s6, s7, s8, s9, s10, s11, s12⟩ := staS hK.out.sta) | (go_at_call 18; (with_reducible refine (ho1.out _ hK.out.tab).mono ?_); rintro e x4 ⟨rfl, hb⟩; replace hK := hid (hK.out.below hb); clear hb d0 d1 d2 d3 d4 d5 d6 d7 d8 d9 d10 d11 k0 k1 k2 k3 k4 k5 k6 k7 k8 k9 k10 k11 s0 s1 s2 s3 s4 s5 s6 s7 s8 s9 s10 s11 s12; obtain ⟨d0, d1, d2, d3, d4, d5, d6, d7, d8, d9, d10, d11⟩ := nodS hK.out.nod; obtain ⟨k0, k1, k2, k3, k4, k5, k6, k7, k8, k9, k10, k11⟩ := nodS hK.out.dir; obtain ⟨s0, s1, s2, s3, s4, s5, s6, s7, s8, s9, s10, s11, s12⟩ := staS hK.out.sta) | (go_at_call 18; (with_reducible refine (ho2.out _ hK.out.tab).mono ?_); rintro e x5 ⟨rfl, hb⟩; replace hK := hid (hK.out.below hb); clear hb d0 d1 d2 d3 d4 d5 d6 d7 d8 d9 d10 d11 k0 k1 k2 k3 k4 k5 k6 k7 k8 k9 k10 k11 s0 s1 s2 s3 s4 s5 s6 s7 s8 s9 s10 s11 s12; obtain ⟨d0, d1, d2, d3, d4, d5, d6, d7, d8, d9, d10, d11⟩ := nodS hK.out.nod; obtain ⟨k0, k1, k2, k3, k4, k5, k6, k7, k8, k9, k10, k11⟩ := nodS hK.out.dir; obtain ⟨s0, s1, s2, s3, s4, s5, s6, s7, s8, s9, s10, s11, s12⟩ := staS hK.out.sta) | (go_at_call 18; (with_reducible refine (ho3.out _ hK.out.tab).mono ?_); rintro e x6 ⟨rfl, hb⟩; replace hK := hid (hK.out.below hb); clear hb d0 d1 d2 d3 d4 d5 d6 d7 d8 d9 d10 d11 k0 k1 k2 k3 k4 k5 k6 k7 k8 k9 k10 k11 s0 s1 s2 s3 s4 s5 s6 s7 s8 s9 s10 s11 s12; obtain ⟨d0, d1, d2, d3, d4, d5, d6, d7, d8, d9, d10, d11⟩ := nodS hK.out.nod; obtain ⟨k0, k1, k2, k3, k4, k5, k6, k7, k8, k9, k10, k11⟩ := nodS hK.out.dir; obtain ⟨s0, s1, s2, s3, s4, s5, s6, s7, s8, s9, s10, s11, s12⟩ := staS hK.out.sta) | (go_at_call 35; (with_reducible refine (hb1'.out _).mono ?_); rintro e x7 ⟨rfl, hb⟩; replace hK := hid (hK.out.below hb); clear hb d0 d1 d2 d3 d4 d5 d6 d7 d8 d9 d10 d11 k0 k1 k2 k3 k4 k5 k6 k7 k8 k9 k10 k11 s0 s1 s2 s3 s4 s5 s6 s7 s8 s9 s10 s11 s12; obtain ⟨d0, d1, d2, d3, d4, d5, d6, d7, d8, d9, d10, d11⟩ := nodS hK.out.nod; obtain ⟨k0, k1, k2, k3, k4, k5, k6, k7, k8, k9, k10, k11⟩ := nodS hK.out.dir; obtain ⟨s0, s1, s2, s3, s4, s5, s6, s7, s8, s9, s10, s11, s12⟩ := staS hK.out.sta) | (go_at_call 21; (with_reducible refine (hc1.out _ hK.out.tab).mono ?_); rintro e x8 ⟨rfl, hb⟩; replace hK := hid (hK.out.below hb); clear hb d0 d1 d2 d3 d4 d5 d6 d7 d8 d9 d10 d11 k0 k1 k2 k3 k4 k5 k6 k7 k8 k9 k10 k11 s0 s1 s2 s3 s4 s5 s6 s7 s8 s9 s10 s11 s12; obtain ⟨d0, d1, d2, d3, d4, d5, d6, d7, d8, d9, d10, d11⟩ := nodS hK.out.nod; obtain ⟨k0, k1, k2, k3, k4, k5, k6, k7, k8, k9, k10, k11⟩ := nodS hK.out.dir; obtain ⟨s0, s1, s2, s3, s4, s5, s6, s7, s8, s9, s10, s11, s12⟩ := staS hK.out.sta) | (go_at_call 21; (with_reducible refine (hc2.out _ hK.out.tab).mono ?_); rintro e x9 ⟨rfl, hb⟩; replace hK := hid (hK.out.below hb); clear hb d0 d1 d2 d3 d4 d5 d6 d7 d8 d9 d10 d11 k0 k1 k2 k3 k4 k5 k6 k7 k8 k9 k10 k11 s0 s1 s2 s3 s4 s5 s6 s7 s8 s9 s10 s11 s12; obtain ⟨d0, d1, d2, d3, d4, d5, d6, d7, d8, d9, d10, d11⟩ := nodS hK.out.nod; obtain ⟨k0, k1, k2, k3, k4, k5, k6, k7, k8, k9, k10, k11⟩ := nodS hK.out.dir; obtain ⟨s0, s1, s2, s3, s4, s5, s6, s7, s8, s9, s10, s11, s12⟩ := staS hK.out.sta))
        go_ret
        exact ⟨rfl, hK.out.bel⟩
end Go.Proofs.Ytonhliipbdniiaa
