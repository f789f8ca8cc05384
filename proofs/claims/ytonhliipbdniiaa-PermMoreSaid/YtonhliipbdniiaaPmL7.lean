/- For every input the law PermMore returns true: the walk. Conditions: numbers in their types. -/
import Derived.Test.YtonhliipbdniiaaPmL4
import Derived.Test.YtonhliipbdniiaaPmL6
namespace Go.Proofs.Ytonhliipbdniiaa
open Go.RowKit
set_option maxRecDepth 100000
set_option linter.unusedVariables false

def Nod.more (n : Nod) (c : Nat) : Nod := { n with mode := n.mode ||| (c &&& 511) }
theorem more_mode {n : Nod} (h : n.mode < 4294967296) (c : Nat) : n.mode ||| (c &&& 511) < 4294967296 :=
  Nat.or_lt_two_pow (n := 32) h (Nat.lt_of_le_of_lt Nat.and_le_right (by decide))
theorem more_ok {n : Nod} (h : NodOk n) (c : Nat) : NodOk (n.more c) :=
  ⟨h.path, h.vers, more_mode h.mode c, h.atm, h.mtm, h.name, h.uid, h.gid, h.muid, h.up, h.data⟩
/-- The variables of the law, wherever it stands. -/
structure MoS (w wx : World) (n : Nod) (p : Nat) (gs : List Grp) : Prop where
  nod : wx.heap[w.heap.size]? = some (.cells n.cells 27 (0, 0))
  tab : TabAt wx p usM gs
  bel : Below w.heap.size w wx
theorem MoS.below {w wx wy : World} {n : Nod} {p : Nat} {gs : List Grp} (h : MoS w wx n p gs) (hb : Below wx.heap.size wx wy) : MoS w wy n p gs :=
  ⟨(hb.block _ (lt_of_block h.nod)).trans h.nod, h.tab.below hb, sn h.bel hb⟩
structure MoT (w wx : World) (n m : Nod) (p q : Nat) (gs : List Grp) : Prop where
  mos : MoS w wx n p gs
  mor : wx.heap[q]? = some (.cells m.cells 27 (0, 0))
theorem MoT.below {w wx wy : World} {n m : Nod} {p q : Nat} {gs : List Grp} (h : MoT w wx n m p q gs) (hb : Below wx.heap.size wx wy) : MoT w wy n m p q gs :=
  ⟨h.mos.below hb, (hb.block _ (lt_of_block h.mor)).trans h.mor⟩
structure MoC (w wx wo : World) (n : Nod) (p q : Nat) (gs : List Grp) : Prop where
  old : MoS w wo n p gs
  bel : Below wo.heap.size wo wx
  low : wo.heap.size ≤ q
  mor : wx.heap[q]? = some (.cells n.cells 27 (0, 0))
theorem mo_set {w wx wo : World} {n : Nod} {p q c : Nat} {gs : List Grp} (h : MoC w wx wo n p q gs) : MoT w (wx.setCell ⟨q, 2, none⟩ (.int .u32 ((n.mode ||| (c &&& 511) : Nat) : Int))) n (n.more c) p q gs := by
  have hb : Below wo.heap.size wo (wx.setCell ⟨q, 2, none⟩ (.int .u32 ((n.mode ||| (c &&& 511) : Nat) : Int))) := h.bel.setCell (p := ⟨q, 2, none⟩) h.low _
  refine ⟨h.old.below hb, ?_⟩
  have e : (n.more c).cells = n.cells.setIfInBounds 2 (.int .u32 ((n.mode ||| (c &&& 511) : Nat) : Int)) := by rw [nod_cells, nod_cells]; rfl
  rw [e]
  exact block_set h.mor 2 _

set_option maxHeartbeats 6400000 in
theorem law_PermMore (x : Nat) (n : Nod) (a b c : Nat) (w : World) (hx : x < 256) (hn : NodOk n) (ha : a < 4294967296) (hb : b < 4294967296) (hc : c < 65536) :
    Calls Try.prog 5 #[.int .u8 (x : Int), .agg n.cells, .int .u32 (a : Int), .int .u32 (b : Int), .int .u16 (c : Int)] w fun e w' => e = .returned (.bool true) ∧ Below w.heap.size w w' := by
  obtain ⟨W, hW⟩ : ∃ W, W = w.alloc (.cells n.cells 27) := ⟨_, rfl⟩
  have hx0 := hid (show W.heap[w.heap.size]? = some (.cells n.cells 27 (0, 0)) by rw [hW, heap_alloc_new])
  have hb0 := hid (show Below w.heap.size w W by rw [hW]; exact (Below.refl w.heap.size w).alloc (Nat.le_refl _) _)
  have hor := or32_nat a b ha hb
  have hab : a ||| b < 4294967296 := Nat.or_lt_two_pow (n := 32) ha hb
  have hcv : IntKind.u32.wrap (c : Int) = (c : Int) := by rw [IntKind.wrap_u32, Int.emod_eq_of_lt (by omega) (by omega)]
  have hca := and511 c (by omega)
  have hco := or32_nat n.mode (c &&& 511) hn.mode (Nat.lt_of_le_of_lt Nat.and_le_right (by decide))
  replace ha := hid ha
  replace hb := hid hb
  replace hc := hid hc
  replace hab := hid hab
  rw [nod_cells] at hW ⊢
  go_enter Try.func5, Try.ntmps5
  go_upto_region 3 with (first | (rw [← hW]; replace hW := hid hW) | ((with_reducible refine (known16_any _).mono ?_); rintro e w1 ⟨rfl, hb1⟩; replace hx0 := hid ((hb1.block _ (lt_of_block hx0.out)).trans hx0.out); replace hb0 := hid (sn hb0.out hb1); clear hb1))
  obtain ⟨d0, d1, d2, d3, d4, d5, d6, d7, d8, d9, d10, d11⟩ := nodS hx0.out
  have hfw := hid (fun W => few16_any n W hn)
  rw [nod_cells] at hfw
  go_wp2_with fail
  refine (hfw.out _).mono ?_
  rintro e w5 ⟨⟨r3, rfl⟩, hb5⟩
  replace hx0 := hid ((hb5.block _ (lt_of_block hx0.out)).trans hx0.out)
  replace hb0 := hid (sn hb0.out hb5)
  clear hb5 d0 d1 d2 d3 d4 d5 d6 d7 d8 d9 d10 d11
  cases r3 with
  | false =>
    go_wp2_with fail
    go_ret
    exact ⟨rfl, hb0.out⟩
  | true =>
    go_upto_region 5 with (fail)
    go_cut [11] (fun s11 wx => ∃ (p : Nat) (gs : List Grp) (v : Value), s11 = .pointer (some ⟨p, 0, none⟩) ∧ Hid (SameG (gsM v) gs) ∧ Hid (MoS w wx n p gs))
    case first =>
      go_wp2_with fail
      refine (table_any _ _ usM (gsM (.slice (some ⟨w5.heap.size + 1, 0, none⟩) 2 2)) _ (txts_m3 _ _ 9 ?_) (grps_m _ _ (w5.heap.size + 1) 61 9 ?_ ?_) (uok_m _) ?_).mono ?_
      · rw [heap_alloc_old _ _ (by simp; omega), heap_alloc_old _ _ (by simp), heap_alloc_new]
      · exact heap3 _ _ _ _
      · rw [heap_alloc_old _ _ (by simp)]; exact heap2 _ _ _
      · intro g hg; simp [gsM] at hg; subst hg; simp
      rintro e w6 ⟨p, gs, rfl, hT, hS, hb6⟩
      go_wp2_with fail
      go_meet
      have hB : Below w5.heap.size w5 w6 := sn ((((Below.refl w5.heap.size w5).alloc (Nat.le_refl _) (.cells #[.string ⟨#[117, 49]⟩, .string ⟨#[117, 50]⟩, .string ⟨#[117, 51]⟩] 9)).alloc (by simp) (.cells #[.string ⟨#[117, 49]⟩, .string ⟨#[117, 50]⟩] 9)).alloc (by simp; omega) (.cells #[.string ⟨#[103, 49]⟩, .slice (some ⟨w5.heap.size + 1, 0, none⟩) 2 2] 61)) hb6
      exact ⟨_, _, _, rfl, hid hS, hid ⟨(hB.block _ (lt_of_block hx0.out)).trans hx0.out, hT, sn hb0.out hB⟩⟩
    case rest =>
      obtain ⟨p, gs, v, rfl, hS, hM⟩ := hcut
      clear hx0 hb0
      go_upto_region 6 with (fail)
      go_cut [12] (fun s12 wx => ∃ who : ByteArray, s12 = .string who ∧ Hid (MoS w wx n p gs))
      case first =>
        have hm1 : Int.tmod (x : Int) 3 = ((x % 3 : Nat) : Int) := rfl
        have hm2 : (x : Int) % 3 = ((x % 3 : Nat) : Int) := rfl
        have hr : x % 3 = 0 ∨ x % 3 = 1 ∨ x % 3 = 2 := by omega
        have hB := hid (show Below wc.heap.size wc (wc.alloc (.cells #[.string ⟨#[117, 49]⟩, .string ⟨#[117, 50]⟩, .string ⟨#[117, 51]⟩] 9)) from (Below.refl _ _).alloc (Nat.le_refl _) _)
        rcases hr with hr | hr | hr <;> rw [hr] at hm1 hm2 <;> clear hr
        · go_wp2_with fail
          go_meet
          exact ⟨_, rfl, hid (hM.out.below hB.out)⟩
        · go_wp2_with fail
          go_meet
          exact ⟨_, rfl, hid (hM.out.below hB.out)⟩
        · go_wp2_with fail
          go_meet
          exact ⟨_, rfl, hid (hM.out.below hB.out)⟩
      case rest =>
        obtain ⟨who, rfl, hM1⟩ := hcut
        clear hM
        go_upto_region 7 with (fail)
        go_cut [13] (fun s13 wx => ∃ (q : Nat) (wo : World), s13 = .pointer (some ⟨q, 0, none⟩) ∧ Hid (MoC w wx wo n p q gs))
        case first =>
          obtain ⟨d0, d1, d2, d3, d4, d5, d6, d7, d8, d9, d10, d11⟩ := nodS hM1.out.nod
          have hnew := hid (heap_alloc_new wc (.cells zeroNode 27))
          go_wp2_with (refine wpList_store_row (by rfl) 27 (.tmp 13) (.tmp 31) (by rfl) wc.heap.size n.cells (by rfl) (by rw [nod_cells]; rfl) 27 _ hnew.out (by rw [nod_cells]; rfl) (by kernel_rfl) (by rw [nod_cells]; kernel_rfl) ?_)
          go_meet
          exact ⟨_, wc, rfl, hid ⟨hM1.out, below_setRow ((Below.refl _ _).alloc (Nat.le_refl _) _) (Nat.le_refl _) _, Nat.le_refl _, setRow_heap _ _ _ _ _ _ hnew.out⟩⟩
        case rest =>
          obtain ⟨q, wo, rfl, hC⟩ := hcut
          clear hM1
          have q2 : wc.cell? ⟨q, 2, none⟩ = some (.int .u32 (n.mode : Int)) := block_cell hC.out.mor 2
          have f2 : wc.frozen? ⟨q, 2, none⟩ = false := block_free hC.out.mor 2
          obtain ⟨W9, hW9⟩ : ∃ W9, W9 = wc.setCell ⟨q, 2, none⟩ (.int .u32 ((n.mode ||| (c &&& 511) : Nat) : Int)) := ⟨_, rfl⟩
          have hT : Hid (MoT w W9 n (n.more c) p q gs) := hid (by rw [hW9]; exact mo_set hC.out)
          go_upto_region 9 with (rw [← hW9]; replace hW9 := hid hW9)
          try (rw [← hW9]; replace hW9 := hid hW9)
          clear q2 f2 hC hor
          obtain ⟨ma, hma⟩ : ∃ m, m = mayS (inB usM gs who n.gid) (decide (who = n.uid)) n.mode a := ⟨_, rfl⟩
          obtain ⟨mb, hmb⟩ : ∃ m, m = mayS (inB usM gs who n.gid) (decide (who = n.uid)) n.mode b := ⟨_, rfl⟩
          obtain ⟨mm, hmm⟩ : ∃ m, m = mayS (inB usM gs who n.gid) (decide (who = n.uid)) (n.mode ||| (c &&& 511)) (a ||| b) := ⟨_, rfl⟩
          have hub := hid (hS.out.ub (ub_m v))
          have hpo := hid (fun W hT => pmay_any p usM gs who n (a ||| b) W hT hub.out hn hab.out)
          have hpa := hid (fun W hT => pmay_any p usM gs who n a W hT hub.out hn ha.out)
          have hpb := hid (fun W hT => pmay_any p usM gs who n b W hT hub.out hn hb.out)
          have hpm := hid (fun W hT => pmay_any p usM gs who (n.more c) (a ||| b) W hT hub.out (more_ok hn c) hab.out)
          have hp0 := hid (fun W hT => pmay_any p usM gs who n 0 W hT hub.out hn (by decide))
          have himp := hid (show (ma && mb) = true → mm = true by
            intro h
            rw [hma, hmb, ← may_or] at h
            rw [hmm]
            exact may_more _ _ _ _ _ h)
          rw [may_or, ← hma, ← hmb] at hpo
          rw [← hma] at hpa
          rw [← hmb] at hpb
          rw [show (n.more c).gid = n.gid from rfl, show (n.more c).uid = n.uid from rfl, show (n.more c).mode = n.mode ||| (c &&& 511) from rfl, ← hmm] at hpm
          rw [may_zero, show ((0 : Nat) : Int) = 0 from rfl] at hp0
          rw [nod_cells] at hpo hpa hpb hpm hp0
          have hor := or32_nat a b ha.out hb.out
          clear hma hmb hmm hub hS
          obtain ⟨d0, d1, d2, d3, d4, d5, d6, d7, d8, d9, d10, d11⟩ := nodS hT.out.mos.nod
          obtain ⟨k0, k1, k2, k3, k4, k5, k6, k7, k8, k9, k10, k11⟩ := nodS hT.out.mor
          have htt := hid (show ma = true → mb = true → mm = true from fun h1 h2 => himp.out (by rw [h1, h2]; rfl))
          clear himp
          cases ma with
          | true =>
            cases mb with
            | true =>
              obtain rfl := htt.out rfl rfl
              clear htt
              go_wp2_with (first | (go_at_call 16; (with_reducible refine (hpo.out _ hT.out.mos.tab).mono ?_); rintro e x0 ⟨rfl, hb⟩; replace hT := hid (hT.out.below hb); clear hb d0 d1 d2 d3 d4 d5 d6 d7 d8 d9 d10 d11 k0 k1 k2 k3 k4 k5 k6 k7 k8 k9 k10 k11; obtain ⟨d0, d1, d2, d3, d4, d5, d6, d7, d8, d9, d10, d11⟩ := nodS hT.out.mos.nod; obtain ⟨k0, k1, k2, k3, k4, k5, k6, k7, k8, k9, k10, k11⟩ := nodS hT.out.mor) | (go_at_call 16; (with_reducible refine (hpa.out _ hT.out.mos.tab).mono ?_); rintro e x0 ⟨rfl, hb⟩; replace hT := hid (hT.out.below hb); clear hb d0 d1 d2 d3 d4 d5 d6 d7 d8 d9 d10 d11 k0 k1 k2 k3 k4 k5 k6 k7 k8 k9 k10 k11; obtain ⟨d0, d1, d2, d3, d4, d5, d6, d7, d8, d9, d10, d11⟩ := nodS hT.out.mos.nod; obtain ⟨k0, k1, k2, k3, k4, k5, k6, k7, k8, k9, k10, k11⟩ := nodS hT.out.mor) | (go_at_call 16; (with_reducible refine (hpb.out _ hT.out.mos.tab).mono ?_); rintro e x0 ⟨rfl, hb⟩; replace hT := hid (hT.out.below hb); clear hb d0 d1 d2 d3 d4 d5 d6 d7 d8 d9 d10 d11 k0 k1 k2 k3 k4 k5 k6 k7 k8 k9 k10 k11; obtain ⟨d0, d1, d2, d3, d4, d5, d6, d7, d8, d9, d10, d11⟩ := nodS hT.out.mos.nod; obtain ⟨k0, k1, k2, k3, k4, k5, k6, k7, k8, k9, k10, k11⟩ := nodS hT.out.mor) | (go_at_call 16; (with_reducible refine (hpm.out _ hT.out.mos.tab).mono ?_); rintro e x0 ⟨rfl, hb⟩; replace hT := hid (hT.out.below hb); clear hb d0 d1 d2 d3 d4 d5 d6 d7 d8 d9 d10 d11 k0 k1 k2 k3 k4 k5 k6 k7 k8 k9 k10 k11; obtain ⟨d0, d1, d2, d3, d4, d5, d6, d7, d8, d9, d10, d11⟩ := nodS hT.out.mos.nod; obtain ⟨k0, k1, k2, k3, k4, k5, k6, k7, k8, k9, k10, k11⟩ := nodS hT.out.mor) | (go_at_call 16; (with_reducible refine (hp0.out _ hT.out.mos.tab).mono ?_); rintro e x0 ⟨rfl, hb⟩; replace hT := hid (hT.out.below hb); clear hb d0 d1 d2 d3 d4 d5 d6 d7 d8 d9 d10 d11 k0 k1 k2 k3 k4 k5 k6 k7 k8 k9 k10 k11; obtain ⟨d0, d1, d2, d3, d4, d5, d6, d7, d8, d9, d10, d11⟩ := nodS hT.out.mos.nod; obtain ⟨k0, k1, k2, k3, k4, k5, k6, k7, k8, k9, k10, k11⟩ := nodS hT.out.mor))
              go_ret
              exact ⟨rfl, hT.out.mos.bel⟩
            | false =>
              clear htt
              go_wp2_with (first | (go_at_call 16; (with_reducible refine (hpo.out _ hT.out.mos.tab).mono ?_); rintro e x0 ⟨rfl, hb⟩; replace hT := hid (hT.out.below hb); clear hb d0 d1 d2 d3 d4 d5 d6 d7 d8 d9 d10 d11 k0 k1 k2 k3 k4 k5 k6 k7 k8 k9 k10 k11; obtain ⟨d0, d1, d2, d3, d4, d5, d6, d7, d8, d9, d10, d11⟩ := nodS hT.out.mos.nod; obtain ⟨k0, k1, k2, k3, k4, k5, k6, k7, k8, k9, k10, k11⟩ := nodS hT.out.mor) | (go_at_call 16; (with_reducible refine (hpa.out _ hT.out.mos.tab).mono ?_); rintro e x0 ⟨rfl, hb⟩; replace hT := hid (hT.out.below hb); clear hb d0 d1 d2 d3 d4 d5 d6 d7 d8 d9 d10 d11 k0 k1 k2 k3 k4 k5 k6 k7 k8 k9 k10 k11; obtain ⟨d0, d1, d2, d3, d4, d5, d6, d7, d8, d9, d10, d11⟩ := nodS hT.out.mos.nod; obtain ⟨k0, k1, k2, k3, k4, k5, k6, k7, k8, k9, k10, k11⟩ := nodS hT.out.mor) | (go_at_call 16; (with_reducible refine (hpb.out _ hT.out.mos.tab).mono ?_); rintro e x0 ⟨rfl, hb⟩; replace hT := hid (hT.out.below hb); clear hb d0 d1 d2 d3 d4 d5 d6 d7 d8 d9 d10 d11 k0 k1 k2 k3 k4 k5 k6 k7 k8 k9 k10 k11; obtain ⟨d0, d1, d2, d3, d4, d5, d6, d7, d8, d9, d10, d11⟩ := nodS hT.out.mos.nod; obtain ⟨k0, k1, k2, k3, k4, k5, k6, k7, k8, k9, k10, k11⟩ := nodS hT.out.mor) | (go_at_call 16; (with_reducible refine (hpm.out _ hT.out.mos.tab).mono ?_); rintro e x0 ⟨rfl, hb⟩; replace hT := hid (hT.out.below hb); clear hb d0 d1 d2 d3 d4 d5 d6 d7 d8 d9 d10 d11 k0 k1 k2 k3 k4 k5 k6 k7 k8 k9 k10 k11; obtain ⟨d0, d1, d2, d3, d4, d5, d6, d7, d8, d9, d10, d11⟩ := nodS hT.out.mos.nod; obtain ⟨k0, k1, k2, k3, k4, k5, k6, k7, k8, k9, k10, k11⟩ := nodS hT.out.mor) | (go_at_call 16; (with_reducible refine (hp0.out _ hT.out.mos.tab).mono ?_); rintro e x0 ⟨rfl, hb⟩; replace hT := hid (hT.out.below hb); clear hb d0 d1 d2 d3 d4 d5 d6 d7 d8 d9 d10 d11 k0 k1 k2 k3 k4 k5 k6 k7 k8 k9 k10 k11; obtain ⟨d0, d1, d2, d3, d4, d5, d6, d7, d8, d9, d10, d11⟩ := nodS hT.out.mos.nod; obtain ⟨k0, k1, k2, k3, k4, k5, k6, k7, k8, k9, k10, k11⟩ := nodS hT.out.mor))
              go_ret
              exact ⟨rfl, hT.out.mos.bel⟩
          | false =>
            clear htt
            cases mb <;> go_wp2_with (first | (go_at_call 16; (with_reducible refine (hpo.out _ hT.out.mos.tab).mono ?_); rintro e x0 ⟨rfl, hb⟩; replace hT := hid (hT.out.below hb); clear hb d0 d1 d2 d3 d4 d5 d6 d7 d8 d9 d10 d11 k0 k1 k2 k3 k4 k5 k6 k7 k8 k9 k10 k11; obtain ⟨d0, d1, d2, d3, d4, d5, d6, d7, d8, d9, d10, d11⟩ := nodS hT.out.mos.nod; obtain ⟨k0, k1, k2, k3, k4, k5, k6, k7, k8, k9, k10, k11⟩ := nodS hT.out.mor) | (go_at_call 16; (with_reducible refine (hpa.out _ hT.out.mos.tab).mono ?_); rintro e x0 ⟨rfl, hb⟩; replace hT := hid (hT.out.below hb); clear hb d0 d1 d2 d3 d4 d5 d6 d7 d8 d9 d10 d11 k0 k1 k2 k3 k4 k5 k6 k7 k8 k9 k10 k11; obtain ⟨d0, d1, d2, d3, d4, d5, d6, d7, d8, d9, d10, d11⟩ := nodS hT.out.mos.nod; obtain ⟨k0, k1, k2, k3, k4, k5, k6, k7, k8, k9, k10, k11⟩ := nodS hT.out.mor) | (go_at_call 16; (with_reducible refine (hpb.out _ hT.out.mos.tab).mono ?_); rintro e x0 ⟨rfl, hb⟩; replace hT := hid (hT.out.below hb); clear hb d0 d1 d2 d3 d4 d5 d6 d7 d8 d9 d10 d11 k0 k1 k2 k3 k4 k5 k6 k7 k8 k9 k10 k11; obtain ⟨d0, d1, d2, d3, d4, d5, d6, d7, d8, d9, d10, d11⟩ := nodS hT.out.mos.nod; obtain ⟨k0, k1, k2, k3, k4, k5, k6, k7, k8, k9, k10, k11⟩ := nodS hT.out.mor) | (go_at_call 16; (with_reducible refine (hpm.out _ hT.out.mos.tab).mono ?_); rintro e x0 ⟨rfl, hb⟩; replace hT := hid (hT.out.below hb); clear hb d0 d1 d2 d3 d4 d5 d6 d7 d8 d9 d10 d11 k0 k1 k2 k3 k4 k5 k6 k7 k8 k9 k10 k11; obtain ⟨d0, d1, d2, d3, d4, d5, d6, d7, d8, d9, d10, d11⟩ := nodS hT.out.mos.nod; obtain ⟨k0, k1, k2, k3, k4, k5, k6, k7, k8, k9, k10, k11⟩ := nodS hT.out.mor) | (go_at_call 16; (with_reducible refine (hp0.out _ hT.out.mos.tab).mono ?_); rintro e x0 ⟨rfl, hb⟩; replace hT := hid (hT.out.below hb); clear hb d0 d1 d2 d3 d4 d5 d6 d7 d8 d9 d10 d11 k0 k1 k2 k3 k4 k5 k6 k7 k8 k9 k10 k11; obtain ⟨d0, d1, d2, d3, d4, d5, d6, d7, d8, d9, d10, d11⟩ := nodS hT.out.mos.nod; obtain ⟨k0, k1, k2, k3, k4, k5, k6, k7, k8, k9, k10, k11⟩ := nodS hT.out.mor))
            all_goals
              go_ret
              exact ⟨rfl, hT.out.mos.bel⟩
theorem law_PermMoreI (x : Int) (n : Nod) (a b c : Int) (w : World) (hx : 0 ≤ x ∧ x < 256) (hn : NodOk n) (ha : 0 ≤ a ∧ a < 4294967296) (hb : 0 ≤ b ∧ b < 4294967296) (hc : 0 ≤ c ∧ c < 65536) :
    Calls Try.prog 5 #[.int .u8 x, .agg n.cells, .int .u32 a, .int .u32 b, .int .u16 c] w fun e w' => e = .returned (.bool true) ∧ Below w.heap.size w w' := by
  obtain ⟨x, rfl⟩ := Int.eq_ofNat_of_zero_le hx.1
  obtain ⟨a, rfl⟩ := Int.eq_ofNat_of_zero_le ha.1
  obtain ⟨b, rfl⟩ := Int.eq_ofNat_of_zero_le hb.1
  obtain ⟨c, rfl⟩ := Int.eq_ofNat_of_zero_le hc.1
  exact law_PermMore x n a b c w (by omega) hn (by omega) (by omega) (by omega)
end Go.Proofs.Ytonhliipbdniiaa
