/- What one may change of a file (perm.Change). Conditions: numbers in their types. -/
import Derived.Test.YtonhliipbdniiaaPm6
namespace Go.Proofs.Ytonhliipbdniiaa
open Go.RowKit
set_option maxRecDepth 100000
set_option linter.unusedVariables false

def modeQ (s : Stat) : Bool := decide (s.mode ≠ 4294967295)
def lenQ (s : Stat) : Bool := decide (s.len ≠ 18446744073709551615)
def turnB (n : Nod) (s : Stat) : Bool := decide (s.mode &&& 2147483648 ≠ n.mode &&& 2147483648)
/-- What is asked that may not be asked. -/
def chA (n : Nod) (s : Stat) : Bool := !stillB n s || (modeQ s && (turnB n s || !bitsB s.mode)) || (lenQ s && dirB n && decide (s.len ≠ 0))
/-- What is asked by one who may not. -/
def chP (us : List ByteArray) (gs : List Grp) (who : ByteArray) (n : Nod) (s : Stat) : Bool :=
  (lenQ s && !mayS (inB us gs who n.gid) (decide (who = n.uid)) n.mode 2) || ((modeQ s || decide (s.mtm ≠ 4294967295)) && decide (who ≠ n.uid)) || (decide (s.gid ≠ ⟨#[]⟩) && (decide (who ≠ n.uid) || !inB us gs who s.gid))
def chN (us : List ByteArray) (gs : List Grp) (who : ByteArray) (n : Nod) (s : Stat) : Nat :=
  if chA n s then 1 else if lenQ s && decide (4096 < s.len) then 3 else if !validB s.gid then 6 else if chP us gs who n s then 5 else 0

/-- The variables of a call, wherever it stands. -/
structure ChMid (w wx : World) (n : Nod) (s : Stat) (p k : Nat) (us : List ByteArray) (gs : List Grp) : Prop where
  box : wx.heap[k]? = some (.cells keepS.cells 50 (0, 0))
  nod : wx.heap[w.heap.size]? = some (.cells n.cells 27 (0, 0))
  sta : wx.heap[w.heap.size + 1]? = some (.cells s.cells 50 (0, 0))
  tab : TabAt wx p us gs
  bel : Below w.heap.size w wx
theorem ChMid.below {w wx wy : World} {n : Nod} {s : Stat} {p k : Nat} {us : List ByteArray} {gs : List Grp} (h : ChMid w wx n s p k us gs) (hb : Below wx.heap.size wx wy) : ChMid w wy n s p k us gs :=
  ⟨(hb.block _ (lt_of_block h.box)).trans h.box, (hb.block _ (lt_of_block h.nod)).trans h.nod, (hb.block _ (lt_of_block h.sta)).trans h.sta, h.tab.below hb, sn h.bel hb⟩
theorem ChMid.drewN {w wx : World} {n : Nod} {s : Stat} {p k : Nat} {us : List ByteArray} {gs : List Grp} (h : ChMid w wx n s p k us gs) (m : Nat) : ChMid w (wx.drewN m) n s p k us gs :=
  h.below (ubdrewN (Below.refl _ _) m)

theorem staS {s : Stat} {X : World} {k : Nat} {T : TypeId} {fr : Nat × Nat} (h : X.heap[k]? = some (.cells s.cells T fr)) : X.cell? ⟨k, 0, none⟩ = some (.int .u16 (s.kind : Int)) ∧ X.cell? ⟨k, 1, none⟩ = some (.int .u32 (s.dev : Int)) ∧ X.cell? ⟨k, 2, none⟩ = some (.int .u8 (s.qt : Int)) ∧ X.cell? ⟨k, 3, none⟩ = some (.int .u32 (s.qv : Int)) ∧ X.cell? ⟨k, 4, none⟩ = some (.int .u64 (s.qp : Int)) ∧ X.cell? ⟨k, 5, none⟩ = some (.int .u32 (s.mode : Int)) ∧ X.cell? ⟨k, 6, none⟩ = some (.int .u32 (s.atm : Int)) ∧ X.cell? ⟨k, 7, none⟩ = some (.int .u32 (s.mtm : Int)) ∧ X.cell? ⟨k, 8, none⟩ = some (.int .u64 (s.len : Int)) ∧ X.cell? ⟨k, 9, none⟩ = some (.string s.name) ∧ X.cell? ⟨k, 10, none⟩ = some (.string s.uid) ∧ X.cell? ⟨k, 11, none⟩ = some (.string s.gid) ∧ X.cell? ⟨k, 12, none⟩ = some (.string s.muid) :=
  ⟨block_cell h 0, block_cell h 1, block_cell h 2, block_cell h 3, block_cell h 4, block_cell h 5, block_cell h 6, block_cell h 7, block_cell h 8, block_cell h 9, block_cell h 10, block_cell h 11, block_cell h 12⟩

theorem ch_mid {w W : World} {n : Nod} {s : Stat} {p : Nat} {us : List ByteArray} {gs : List Grp} {w1 : World} (h : TabAt w p us gs) (hW : W = (w.alloc (.cells n.cells 27)).alloc (.cells s.cells 50)) (hb : Below W.heap.size W w1) :
    ChMid w ((w1.alloc (.cells zero13 50)).setRow w1.heap.size keepS.cells) n s p w1.heap.size us gs := by
  have hx : W.heap[w.heap.size]? = some (.cells n.cells 27 (0, 0)) := by rw [hW, heap_alloc_old _ _ (by simp), heap_alloc_new]
  have hy : W.heap[w.heap.size + 1]? = some (.cells s.cells 50 (0, 0)) := by rw [hW]; exact heap2 _ _ _
  have hb0 : Below w.heap.size w W := by rw [hW]; exact ((Below.refl w.heap.size w).alloc (Nat.le_refl _) _).alloc (by simp) _
  have hz := hb.size
  have h1 : Below W.heap.size W ((w1.alloc (.cells zero13 50)).setRow w1.heap.size keepS.cells) := below_setRow (hb.alloc hz _) hz _
  exact ⟨setRow_heap _ _ _ _ _ _ (heap_alloc_new _ _), (h1.block _ (lt_of_block hx)).trans hx, (h1.block _ (lt_of_block hy)).trans hy, (h.below hb0).below h1, sn hb0 h1⟩

theorem ne_dec (a b : Nat) : (((a : Nat) : Int) != ((b : Nat) : Int)) = decide (a ≠ b) := by
  by_cases h : a = b
  · simp [h]
  · have : ((a : Int) != (b : Int)) = true := by simp; omega
    rw [this]; simp [h]
theorem turn_bits (n : Nod) (s : Stat) (hn : n.mode < 4294967296) (hs : s.mode < 4294967296) : (bits .and .u32 (s.mode : Int) 2147483648 != bits .and .u32 (n.mode : Int) 2147483648) = turnB n s := by
  rw [show (2147483648 : Int) = ((2147483648 : Nat) : Int) from rfl, u32_and_nat _ _ hn (by omega), u32_and_nat _ _ hs (by omega), ne_dec]
  rfl
theorem str_ne (a b : ByteArray) : (a.toList != b.toList) = decide (a ≠ b) := by
  rw [show (a.toList != b.toList) = !(a.toList == b.toList) from rfl, str_beq]; simp
theorem str_ne_nil (a : ByteArray) : (!a.toList.isEmpty) = decide (a ≠ ⟨#[]⟩) := by
  rw [isEmpty_size]
  by_cases h : a = ⟨#[]⟩
  · subst h; rfl
  · have : a.size ≠ 0 := fun h0 => h (by
      obtain ⟨d⟩ := a
      have : d.size = 0 := h0
      rw [Array.eq_empty_of_size_eq_zero this])
    simp [h, this]
theorem uid_dec (a b : ByteArray) : decide (a ≠ b) = !decide (a = b) := by simp

set_option maxHeartbeats 6000000 in
theorem change_any (p : Nat) (us : List ByteArray) (gs : List Grp) (who : ByteArray) (n : Nod) (s : Stat) (w : World) (h : TabAt w p us gs) (hl : UB us gs) (hn : NodOk n) (hs : StatOk s) :
    Calls Try.prog 21 #[.pointer (some ⟨p, 0, none⟩), .string who, .agg n.cells, .agg s.cells] w fun e w' => e = .returned (.int .i64 (chN us gs who n s : Int)) ∧ Below w.heap.size w w' := by
  obtain ⟨W, hW⟩ : ∃ W, W = (w.alloc (.cells n.cells 27)).alloc (.cells s.cells 50) := ⟨_, rfl⟩
  have hW' := hid hW
  have h' := hid h
  obtain ⟨bS, aS⟩ : ∃ b, b = stillB n s := ⟨_, rfl⟩
  obtain ⟨bM, aM⟩ : ∃ b, b = modeQ s := ⟨_, rfl⟩
  obtain ⟨bL, aL⟩ : ∃ b, b = lenQ s := ⟨_, rfl⟩
  obtain ⟨bD, aD⟩ : ∃ b, b = turnB n s := ⟨_, rfl⟩
  obtain ⟨bB, aB⟩ : ∃ b, b = bitsB s.mode := ⟨_, rfl⟩
  obtain ⟨bN, aN⟩ : ∃ b, b = dirB n := ⟨_, rfl⟩
  obtain ⟨bZ, aZ⟩ : ∃ b, b = decide (s.len ≠ 0) := ⟨_, rfl⟩
  obtain ⟨bG, aG⟩ : ∃ b, b = decide (4096 < s.len) := ⟨_, rfl⟩
  obtain ⟨bV, aV⟩ : ∃ b, b = validB s.gid := ⟨_, rfl⟩
  obtain ⟨bW, aW⟩ : ∃ b, b = mayS (inB us gs who n.gid) (decide (who = n.uid)) n.mode 2 := ⟨_, rfl⟩
  obtain ⟨bT, aT⟩ : ∃ b, b = decide (s.mtm ≠ 4294967295) := ⟨_, rfl⟩
  obtain ⟨bU, aU⟩ : ∃ b, b = decide (who ≠ n.uid) := ⟨_, rfl⟩
  obtain ⟨bE, aE⟩ : ∃ b, b = decide (s.gid ≠ ⟨#[]⟩) := ⟨_, rfl⟩
  obtain ⟨bI, aI⟩ : ∃ b, b = inB us gs who s.gid := ⟨_, rfl⟩
  obtain ⟨c1, hc1⟩ : ∃ c, Hid (c = (!bS || (bM && (bD || !bB)) || (bL && bN && bZ))) := ⟨_, hid rfl⟩
  obtain ⟨c2, hc2⟩ : ∃ c, Hid (c = ((bL && !bW) || ((bM || bT) && bU) || (bE && (bU || !bI)))) := ⟨_, hid rfl⟩
  have hN : Hid (chN us gs who n s = if c1 then 1 else if bL && bG then 3 else if !bV then 6 else if c2 then 5 else 0) := hid (by rw [hc1.out, hc2.out, aS, aM, aL, aD, aB, aN, aZ, aG, aV, aW, aT, aU, aE, aI]; rfl)
  have qM : ((s.mode : Int) != 4294967295) = bM := by rw [aM]; exact ne_dec _ 4294967295
  have qL : ((s.len : Int) != 18446744073709551615) = bL := by rw [aL]; exact ne_dec _ 18446744073709551615
  have qD : (bits .and .u32 (s.mode : Int) 2147483648 != bits .and .u32 (n.mode : Int) 2147483648) = bD := by rw [aD]; exact turn_bits n s hn.mode hs.mode
  have qN : (bits .and .u32 (n.mode : Int) 2147483648 != 0) = bN := by rw [aN]; exact dir_mode _ hn.mode
  have qZ : ((s.len : Int) != 0) = bZ := by rw [aZ]; exact ne_dec _ 0
  have qG : decide ((4096 : Int) < (s.len : Int)) = bG := by rw [aG, Bool.eq_iff_iff]; simp; omega
  have qT : ((s.mtm : Int) != 4294967295) = bT := by rw [aT]; exact ne_dec _ 4294967295
  have qU : (who.toList != n.uid.toList) = bU := by rw [aU]; exact str_ne _ _
  have qU' : (who.toList == n.uid.toList) = !bU := by rw [aU, str_beq]; simp
  have qE : (!s.gid.toList.isEmpty) = bE := by rw [aE]; exact str_ne_nil _
  have qE' : s.gid.toList.isEmpty = !bE := by rw [← qE, Bool.not_not]
  have hst := hid (fun W => still_any n s W hn hs)
  have hbt := hid (fun W => nbits_any s.mode W hs.mode)
  have hvd := hid (fun W => valid_any s.gid W hs.gid)
  have hmy := hid (fun W hT => pmay_any p us gs who n 2 W hT hl hn (by omega))
  have hin := hid (fun W hT => in_any p us gs who s.gid W hT hl)
  rw [← aS] at hst
  rw [← aB] at hbt
  rw [← aV] at hvd
  rw [← aW] at hmy
  simp only [show ((2 : Nat) : Int) = 2 from rfl] at hmy
  rw [← aI] at hin
  rw [nod_cells] at hW hst hmy ⊢
  simp only [Stat.cells] at hW hst ⊢
  replace hn := hid hn
  replace hs := hid hs
  clear h aS aM aL aD aB aN aZ aG aV aW aT aU aE aI
  go_enter Try.func21, Try.ntmps21
  go_upto_region 1 with (rw [← hW]; replace hW := hid hW)
  try (rw [← hW]; replace hW := hid hW)
  go_cut [9] (fun s9 wx => ∃ k : Nat, s9 = .pointer (some ⟨k, 0, none⟩) ∧ Hid (ChMid w wx n s p k us gs))
  case first =>
    go_wp2_with (first | (go_at_call 24; (with_reducible refine (keep_any _).mono ?_); rintro e w1 ⟨rfl, hb1⟩; replace hb1 := hid hb1; have hnew := hid (heap_alloc_new w1 (.cells zero13 50))) | (refine wpList_store_row (by rfl) 50 (.tmp 9) (.tmp 13) (by rfl) w1.heap.size keepS.cells (by rfl) (by rfl) 50 _ hnew.out (by kernel_rfl) (by kernel_rfl) (by kernel_rfl) ?_))
    go_meet
    exact ⟨_, rfl, hid (ch_mid h'.out hW'.out hb1.out)⟩
  case rest =>
    obtain ⟨k, rfl, hM⟩ := hcut
    obtain ⟨_, _, _, _, _, e5, _, e7, e8, _⟩ := staS hM.out.box
    obtain ⟨d0, d1, d2, d3, d4, d5, d6, d7, d8, d9, d10, d11⟩ := nodS hM.out.nod
    obtain ⟨s0, s1, s2, s3, s4, s5, s6, s7, s8, s9, s10, s11, s12⟩ := staS hM.out.sta
    simp only [keepS] at e5 e7 e8
    go_wp2_with fail
    go_quiet (fail)
    have hM1 := hid (hM.out.drewN nq)
    go_upto_if 27 with (go_at_call 45; (with_reducible refine (hst.out _).mono ?_); rintro e w2 ⟨rfl, hb2⟩; replace hM1 := hid (hM1.out.below hb2))
    clear e5 e7 e8 d0 d1 d2 d3 d4 d5 d6 d7 d8 d9 d10 d11 s0 s1 s2 s3 s4 s5 s6 s7 s8 s9 s10 s11 s12 hM hst hW h' hW'
    go_cut [27] (fun s27 wx => s27 = .bool c1 ∧ Hid (ChMid w wx n s p k us gs))
    case first =>
      obtain ⟨_, _, _, _, _, s5, _, _, s8, _⟩ := staS hM1.out.sta
      have hcs : (bS = false) ∨ (bS = true ∧ bM = true ∧ bD = true) ∨ (bS = true ∧ bM = true ∧ bD = false ∧ bB = false) ∨ ((bS = true ∧ bM = false) ∨ (bS = true ∧ bM = true ∧ bD = false ∧ bB = true)) ∧ (bL = false ∨ (bL = true ∧ bN = false) ∨ (bL = true ∧ bN = true ∧ bZ = false) ∨ (bL = true ∧ bN = true ∧ bZ = true)) := by
        cases bS <;> cases bM <;> cases bD <;> cases bB <;> cases bL <;> cases bN <;> cases bZ <;> simp
      rcases hcs with rfl | ⟨rfl, rfl, rfl⟩ | ⟨rfl, rfl, rfl, rfl⟩ | ⟨⟨rfl, rfl⟩ | ⟨rfl, rfl, rfl, rfl⟩, rfl | ⟨rfl, rfl⟩ | ⟨rfl, rfl, rfl⟩ | ⟨rfl, rfl, rfl⟩⟩
      all_goals
        go_wp2_with (go_at_call 46; (with_reducible refine (hbt.out _).mono ?_); rintro e w3 ⟨rfl, rfl⟩)
        go_meet
        exact ⟨by rw [hc1.out]; simp, hM1⟩
    case rest =>
      obtain ⟨rfl, hM2⟩ := hcut
      clear hM1 hbt qD qN qZ hc1
      obtain ⟨_, _, _, _, _, _, _, _, s8, _, _, s11, _⟩ := staS hM2.out.sta
      cases c1 with
      | true =>
        go_wp2_with fail
        go_ret
        exact ⟨by rw [hN.out]; rfl, hM2.out.bel⟩
      | false =>
        have hcs : (bL = true ∧ bG = true) ∨ ((bL = false ∨ bL = true ∧ bG = false) ∧ bV = false) ∨ ((bL = false ∨ bL = true ∧ bG = false) ∧ bV = true) := by
          cases bL <;> cases bG <;> cases bV <;> simp
        rcases hcs with ⟨rfl, rfl⟩ | ⟨rfl | ⟨rfl, rfl⟩, rfl⟩ | ⟨hLG, rfl⟩
        case inl =>
          go_wp2_with fail
          go_ret
          exact ⟨by rw [hN.out]; rfl, hM2.out.bel⟩
        case inr.inl.inl =>
          go_wp2_with (go_at_call 47; (with_reducible refine (hvd.out _).mono ?_); rintro e w4 ⟨rfl, hb4⟩; replace hM2 := hid (hM2.out.below hb4))
          go_ret
          exact ⟨by rw [hN.out]; rfl, hM2.out.bel⟩
        case inr.inl.inr =>
          go_wp2_with (go_at_call 47; (with_reducible refine (hvd.out _).mono ?_); rintro e w4 ⟨rfl, hb4⟩; replace hM2 := hid (hM2.out.below hb4))
          go_ret
          exact ⟨by rw [hN.out]; rfl, hM2.out.bel⟩
        case inr.inr =>
          have hN2 : Hid (chN us gs who n s = if c2 then 5 else 0) := hid (by rw [hN.out]; rcases hLG with rfl | ⟨rfl, rfl⟩ <;> rfl)
          rcases hLG with rfl | ⟨rfl, rfl⟩
          case inl =>
            obtain ⟨d0, d1, d2, d3, d4, d5, d6, d7, d8, d9, d10, d11⟩ := nodS hM2.out.nod
            go_upto_if 68 with (first | (go_at_call 47; (with_reducible refine (hvd.out _).mono ?_); rintro e w4 ⟨rfl, hb4⟩; replace hM2 := hid (hM2.out.below hb4); obtain ⟨d0, d1, d2, d3, d4, d5, d6, d7, d8, d9, d10, d11⟩ := nodS hM2.out.nod) | (go_at_call 16; (with_reducible refine (hmy.out _ hM2.out.tab).mono ?_); rintro e w5 ⟨rfl, hb5⟩; replace hM2 := hid (hM2.out.below hb5)))
            clear d0 d1 d2 d3 d4 d5 d6 d7 d8 d9 d10 d11 s8 s11 hvd hmy hN
            go_cut [68] (fun s68 wx => s68 = .bool c2 ∧ Hid (ChMid w wx n s p k us gs))
            case first =>
              obtain ⟨_, _, _, _, _, _, _, e7, _⟩ := staS hM2.out.box
              obtain ⟨_, _, _, _, _, _, d6, _⟩ := nodS hM2.out.nod
              obtain ⟨_, _, _, _, _, _, _, s7, _, _, _, s11, _⟩ := staS hM2.out.sta
              simp only [keepS] at e7
              have hcs : ((bM = true ∧ bU = true) ∨ (bM = false ∧ bT = true ∧ bU = true) ∨ (((bM = true ∧ bU = false) ∨ (bM = false ∧ bT = true ∧ bU = false)) ∧ (bE = false ∨ (bE = true ∧ bI = true) ∨ (bE = true ∧ bI = false))) ∨ (bM = false ∧ bT = false ∧ bU = true ∧ (bE = false ∨ bE = true)) ∨ (bM = false ∧ bT = false ∧ bU = false ∧ (bE = false ∨ (bE = true ∧ bI = true) ∨ (bE = true ∧ bI = false)))) := by
                cases bM <;> cases bT <;> cases bU <;> cases bE <;> cases bI <;> simp
              rcases hcs with ⟨rfl, rfl⟩ | ⟨rfl, rfl, rfl⟩ | ⟨⟨rfl, rfl⟩ | ⟨rfl, rfl, rfl⟩, rfl | ⟨rfl, rfl⟩ | ⟨rfl, rfl⟩⟩ | ⟨rfl, rfl, rfl, rfl | rfl⟩ | ⟨rfl, rfl, rfl, rfl | ⟨rfl, rfl⟩ | ⟨rfl, rfl⟩⟩
              all_goals
                go_wp2_with (go_at_call 40; (with_reducible refine (hin.out _ hM2.out.tab).mono ?_); rintro e w6 ⟨rfl, hb6⟩; replace hM2 := hid (hM2.out.below hb6))
                go_meet
                exact ⟨by rw [hc2.out]; simp, hM2⟩
            case rest =>
              obtain ⟨rfl, hM3⟩ := hcut
              cases c2 with
              | true =>
                go_wp2_with fail
                go_ret
                exact ⟨by rw [hN2.out]; rfl, hM3.out.bel⟩
              | false =>
                go_wp2_with fail
                go_ret
                exact ⟨by rw [hN2.out]; rfl, hM3.out.bel⟩
          case inr =>
            obtain ⟨d0, d1, d2, d3, d4, d5, d6, d7, d8, d9, d10, d11⟩ := nodS hM2.out.nod
            go_upto_if 68 with (first | (go_at_call 47; (with_reducible refine (hvd.out _).mono ?_); rintro e w4 ⟨rfl, hb4⟩; replace hM2 := hid (hM2.out.below hb4); obtain ⟨d0, d1, d2, d3, d4, d5, d6, d7, d8, d9, d10, d11⟩ := nodS hM2.out.nod) | (go_at_call 16; (with_reducible refine (hmy.out _ hM2.out.tab).mono ?_); rintro e w5 ⟨rfl, hb5⟩; replace hM2 := hid (hM2.out.below hb5)))
            clear d0 d1 d2 d3 d4 d5 d6 d7 d8 d9 d10 d11 s8 s11 hvd hmy hN
            go_cut [68] (fun s68 wx => s68 = .bool c2 ∧ Hid (ChMid w wx n s p k us gs))
            case first =>
              obtain ⟨_, _, _, _, _, _, _, e7, _⟩ := staS hM2.out.box
              obtain ⟨_, _, _, _, _, _, d6, _⟩ := nodS hM2.out.nod
              obtain ⟨_, _, _, _, _, _, _, s7, _, _, _, s11, _⟩ := staS hM2.out.sta
              simp only [keepS] at e7
              have hcs : bW = false ∨ (bW = true ∧ ((bM = true ∧ bU = true) ∨ (bM = false ∧ bT = true ∧ bU = true) ∨ (((bM = true ∧ bU = false) ∨ (bM = false ∧ bT = true ∧ bU = false)) ∧ (bE = false ∨ (bE = true ∧ bI = true) ∨ (bE = true ∧ bI = false))) ∨ (bM = false ∧ bT = false ∧ bU = true ∧ (bE = false ∨ bE = true)) ∨ (bM = false ∧ bT = false ∧ bU = false ∧ (bE = false ∨ (bE = true ∧ bI = true) ∨ (bE = true ∧ bI = false))))) := by
                cases bW <;> cases bM <;> cases bT <;> cases bU <;> cases bE <;> cases bI <;> simp
              rcases hcs with rfl | ⟨rfl, ⟨rfl, rfl⟩ | ⟨rfl, rfl, rfl⟩ | ⟨⟨rfl, rfl⟩ | ⟨rfl, rfl, rfl⟩, rfl | ⟨rfl, rfl⟩ | ⟨rfl, rfl⟩⟩ | ⟨rfl, rfl, rfl, rfl | rfl⟩ | ⟨rfl, rfl, rfl, rfl | ⟨rfl, rfl⟩ | ⟨rfl, rfl⟩⟩⟩
              all_goals
                go_wp2_with (go_at_call 40; (with_reducible refine (hin.out _ hM2.out.tab).mono ?_); rintro e w6 ⟨rfl, hb6⟩; replace hM2 := hid (hM2.out.below hb6))
                go_meet
                exact ⟨by rw [hc2.out]; simp, hM2⟩
            case rest =>
              obtain ⟨rfl, hM3⟩ := hcut
              cases c2 with
              | true =>
                go_wp2_with fail
                go_ret
                exact ⟨by rw [hN2.out]; rfl, hM3.out.bel⟩
              | false =>
                go_wp2_with fail
                go_ret
                exact ⟨by rw [hN2.out]; rfl, hM3.out.bel⟩
end Go.Proofs.Ytonhliipbdniiaa
