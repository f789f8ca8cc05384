/- For every input the law PermMay returns true: the walk. Conditions: numbers in their types; the groups' size. -/
import Derived.Test.YtonhliipbdniiaaPmL3
namespace Go.Proofs.Ytonhliipbdniiaa
open Go.RowKit
set_option maxRecDepth 100000
set_option linter.unusedVariables false

/-- The variables of a law, wherever it stands: the node, the users of the document. -/
structure LaS (w wx : World) (n : Nod) (k13 : Nat) (uv gv : Value) (us : List ByteArray) (gs : List Grp) : Prop where
  nod : wx.heap[w.heap.size]? = some (.cells n.cells 27 (0, 0))
  usr : wx.heap[k13]? = some (.cells #[uv, gv] 31 (0, 0))
  tu : TxtsAt wx uv us
  tg : GrpsAt wx gv gs
  bel : Below w.heap.size w wx
theorem LaS.below {w wx wy : World} {n : Nod} {k13 : Nat} {uv gv : Value} {us : List ByteArray} {gs : List Grp} (h : LaS w wx n k13 uv gv us gs) (hb : Below wx.heap.size wx wy) : LaS w wy n k13 uv gv us gs :=
  ⟨(hb.block _ (lt_of_block h.nod)).trans h.nod, (hb.block _ (lt_of_block h.usr)).trans h.usr, h.tu.below hb, h.tg.below hb, sn h.bel hb⟩

/-- And the table, the program's. -/
structure LaT (w wx : World) (n : Nod) (k13 : Nat) (uv gv : Value) (us : List ByteArray) (gs : List Grp) (p : Nat) (gs' : List Grp) : Prop where
  las : LaS w wx n k13 uv gv us gs
  tab : TabAt wx p us gs'
theorem LaT.below {w wx wy : World} {n : Nod} {k13 p : Nat} {uv gv : Value} {us : List ByteArray} {gs gs' : List Grp} (h : LaT w wx n k13 uv gv us gs p gs') (hb : Below wx.heap.size wx wy) : LaT w wy n k13 uv gv us gs p gs' := ⟨h.las.below hb, h.tab.below hb⟩
theorem la_new {w w1 w2 : World} {n : Nod} {uv gv : Value} {us : List ByteArray} {gs : List Grp} (hx : w1.heap[w.heap.size]? = some (.cells n.cells 27 (0, 0))) (hb0 : Below w.heap.size w w1) (ht : TxtsAt w2 uv us) (hg : GrpsAt w2 gv gs) (hb : Below w1.heap.size w1 w2) :
    LaS w (w2.alloc (.cells #[uv, gv] 31)) n w2.heap.size uv gv us gs ∧ Below w1.heap.size w1 (w2.alloc (.cells #[uv, gv] 31)) := by
  have h2 : Below w2.heap.size w2 (w2.alloc (.cells #[uv, gv] 31)) := (Below.refl _ _).alloc (Nat.le_refl _) _
  have h1 := sn hb h2
  exact ⟨⟨(h1.block _ (lt_of_block hx)).trans hx, heap_alloc_new _ _, ht.below h2, hg.below h2, sn hb0 h1⟩, h1⟩
theorem len_gt (s : ByteArray) : (decide ((100 : Int) < (s.size : Int))) = decide (100 < s.size) := by rw [Bool.eq_iff_iff]; simp; omega

set_option maxHeartbeats 6400000 in
theorem law_PermMay (uv gv : Value) (us : List ByteArray) (gs : List Grp) (who : ByteArray) (n : Nod) (want mode : Nat) (w : World) (h2 : TxtsAt w uv us) (h3 : GrpsAt w gv gs) (hg : gs.length * 40 ≤ 140737488351232) (hwho : who.size ≤ maxLen) (hn : NodOk n) (hw : want < 4294967296) (hm : mode < 256) :
    Calls Try.prog 3 #[uv, gv, .string who, .agg n.cells, .int .u32 (want : Int), .int .u8 (mode : Int)] w fun e w' => e = .returned (.bool true) ∧ Below w.heap.size w w' := by
  obtain ⟨au, cu, rfl, gu1, gu2⟩ := h2.form
  obtain ⟨ag, cg, rfl, gg1, gg2⟩ := h3.form
  obtain ⟨W, hW⟩ : ∃ W, W = w.alloc (.cells n.cells 27) := ⟨_, rfl⟩
  have hx : W.heap[w.heap.size]? = some (.cells n.cells 27 (0, 0)) := by rw [hW, heap_alloc_new]
  have hb0 : Below w.heap.size w W := by rw [hW]; exact (Below.refl w.heap.size w).alloc (Nat.le_refl _) _
  have hU := hid (h2.below hb0)
  have hG := hid (h3.below hb0)
  replace hx := hid hx
  replace hb0 := hid hb0
  have hlg := hid (show gs.length * 40 ≤ 140737488355328 by omega)
  clear h2 h3 hg
  unfold maxLen at hwho
  rw [nod_cells] at hW ⊢
  go_enter Try.func3, Try.ntmps3
  go_upto_region 3 with (first | (rw [← hW]; replace hW := hid hW) | ((with_reducible refine (known16_any _).mono ?_); rintro e w1 ⟨rfl, hb1⟩; replace hx := hid ((hb1.block _ (lt_of_block hx.out)).trans hx.out); replace hU := hid (hU.out.below hb1); replace hG := hid (hG.out.below hb1); replace hb0 := hid (sn hb0.out hb1); clear hb1))
  go_cut [13] (fun s13 wx => ∃ (k : Nat) (g : Value), s13 = .pointer (some ⟨k, 0, none⟩) ∧ Hid (LaS w wx n k (.slice au us.length cu) g us gs) ∧ Hid (GrpsAt wx (.slice ag gs.length cg) gs))
  case first =>
    go_wp2_with fail
    refine (of15_any _ _ us gs _ hU.out hG.out hlg.out).mono ?_
    rintro e w2 ⟨g, rfl, ht2, hg2, hb2⟩
    obtain ⟨ag2, cg2, rfl, _, _⟩ := hg2.form
    have hR := hid (la_new hx.out hb0.out ht2 hg2 hb2)
    have hG' := hid (hG.out.below hR.out.2)
    clear ht2 hg2 hb2
    go_wp2_with fail
    go_meet
    exact ⟨_, _, rfl, hid hR.out.1, hG'⟩
  case rest =>
    obtain ⟨k, g, rfl, hM, hG0⟩ := hcut
    obtain ⟨ag2, cg2, rfl, _, _⟩ := hM.out.tg.form
    clear hx hU hG hb0 hW hlg
    go_upto_region 4 with (fail)
    go_cut [39] (fun s39 wx => ∃ c : Bool, s39 = .bool c ∧ (c = false → UOk us gs ∧ FewU us gs) ∧ Hid (LaS w wx n k (.slice au us.length cu) (.slice ag2 gs.length cg2) us gs))
    case first =>
      go_wp2_with fail
      refine (fewU_any _ _ us gs _ hM.out.tu hG0.out).mono ?_
      rintro e w3 ⟨⟨r1, rfl, hf⟩, rfl⟩
      cases r1 with
      | false =>
        clear hf
        go_wp2_with fail
        go_meet
        exact ⟨true, rfl, fun h => (by cases h), hM⟩
      | true =>
        have hF := hid (hf rfl)
        have u0 : w3.cell? ⟨k, 0, none⟩ = some (.slice au us.length cu) := block_cell hM.out.usr 0
        have u1 : w3.cell? ⟨k, 1, none⟩ = some (.slice ag2 gs.length cg2) := block_cell hM.out.usr 1
        clear hf
        go_wp2_with fail
        refine (check_any _ _ us gs _ hM.out.tu hM.out.tg hF.out).mono ?_
        rintro e w4 ⟨r, rfl, hok, hb4⟩
        replace hM := hid (hM.out.below hb4)
        clear hb4 u0 u1
        by_cases hr : r = 0
        · subst hr
          have hO := hid (hok rfl)
          clear hok
          obtain ⟨b1, q1⟩ : ∃ b, decide ((100 : Int) < (who.size : Int)) = b := ⟨_, rfl⟩
          cases b1 with
          | true =>
            go_wp2_with fail
            go_meet
            exact ⟨true, rfl, fun h => (by cases h), hM⟩
          | false =>
            obtain ⟨d0, d1, d2, d3, d4, d5, d6, d7, d8, d9, d10, d11⟩ := nodS hM.out.nod
            have hfw := hid (few16_any n w4 hn)
            rw [nod_cells] at hfw
            replace hn := hid hn
            go_wp2_with fail
            refine hfw.out.mono ?_
            rintro e w5 ⟨⟨r3, rfl⟩, hb5⟩
            replace hM := hid (hM.out.below hb5)
            clear hb5
            cases r3 with
            | true =>
              go_wp2_with fail
              go_meet
              exact ⟨false, rfl, fun _ => ⟨hO.out, hF.out⟩, hM⟩
            | false =>
              go_wp2_with fail
              go_meet
              exact ⟨true, rfl, fun h => (by cases h), hM⟩
        · have q1 : ((r : Int) != 0) = true := by simp; omega
          clear hok hr
          go_wp2_with fail
          go_meet
          exact ⟨true, rfl, fun h => (by cases h), hM⟩
    case rest =>
      obtain ⟨c, rfl, hc, hM2⟩ := hcut
      clear hM hG0
      cases c with
      | true =>
        clear hc
        go_wp2_with fail
        go_ret
        exact ⟨rfl, hM2.out.bel⟩
      | false =>
        have hO := hid (hc rfl)
        have u0 : wc.cell? ⟨k, 0, none⟩ = some (.slice au us.length cu) := block_cell hM2.out.usr 0
        have u1 : wc.cell? ⟨k, 1, none⟩ = some (.slice ag2 gs.length cg2) := block_cell hM2.out.usr 1
        clear hc
        go_wp2_with fail
        refine (table_any _ _ us gs _ hM2.out.tu hM2.out.tg hO.out.1 (fun g hg => by have := hO.out.2.nm g hg; omega)).mono ?_
        rintro e w6 ⟨p, gs', rfl, hT, hS, hb6⟩
        have hA := hid (show LaT w w6 n k (.slice au us.length cu) (.slice ag2 gs.length cg2) us gs p gs' from ⟨hM2.out.below hb6, hT⟩)
        have hub := hid (hS.ub hO.out.2.ub)
        have hub0 := hid hO.out.2.ub
        replace hS := hid hS
        clear hT hb6 hM2 u0 u1 hO
        go_upto_region 7 with (fail)
        go_cut [15] (fun s15 wx => ∃ k15 : Nat, s15 = .pointer (some ⟨k15, 0, none⟩) ∧ Hid (LaT w wx n k (.slice au us.length cu) (.slice ag2 gs.length cg2) us gs p gs') ∧ Hid (wx.heap[k15]? = some (.cells n.cells 38 (0, 0))))
        case first =>
          obtain ⟨d0, d1, d2, d3, d4, d5, d6, d7, d8, d9, d10, d11⟩ := nodS hA.out.las.nod
          have hof := hid (fun W => ofnode_any n W)
          rw [nod_cells] at hof
          go_wp2_with (go_at_call 15; (with_reducible refine (hof.out _).mono ?_); rintro e w7 ⟨rfl, hb7⟩; replace hb7 := hid hb7)
          go_meet
          refine ⟨_, rfl, hid (hA.out.below (hb7.out.alloc hb7.out.size _)), hid ?_⟩
          exact heap_alloc_new _ _
        case rest =>
          obtain ⟨k15, rfl, hB, hR⟩ := hcut
          clear hA
          obtain ⟨mb, hmb⟩ : ∃ b, b = mayS (inB us gs who n.gid) (decide (who = n.uid)) n.mode want := ⟨_, rfl⟩
          obtain ⟨ob, hob⟩ : ∃ b, b = openN us gs who n mode := ⟨_, rfl⟩
          have hp1 := hid (fun W hT => pmay_any p us gs' who n want W hT hub.out hn hw)
          have hp2 := hid (fun W h2 h3 => rmay_any (.slice au us.length cu) (.slice ag2 gs.length cg2) us gs who n want W h2 h3 hub0.out hn hw)
          have hp3 := hid (fun W hT => popen_any p us gs' who n mode W hT hub.out hn hm)
          have hp4 := hid (fun W h2 h3 => ropen_any (.slice au us.length cu) (.slice ag2 gs.length cg2) us gs who n mode W h2 h3 hub0.out hn hm)
          rw [← hS.out.inB, ← hmb] at hp1
          rw [← hmb] at hp2
          rw [← openN_same hS.out, ← hob] at hp3
          rw [← hob] at hp4
          rw [nod_cells] at hp1 hp2 hp3 hp4
          clear hmb hob hub hub0 hS
          have hB3 : Hid (LaT w wc.drew n k (.slice au us.length cu) (.slice ag2 gs.length cg2) us gs p gs') := hid (hB.out.below ((Below.refl _ _).drew))
          have hR3 : Hid (wc.drew.heap[k15]? = some (.cells n.cells 38 (0, 0))) := hid hR.out
          clear hB hR
          go_wp2_with fail
          go_region_held3 (fun w' => ((w'.cell? ⟨k, 0, none⟩ = some (.slice au us.length cu) ∧ w'.cell? ⟨k, 1, none⟩ = some (.slice ag2 gs.length cg2)) ∧ w'.cell? ⟨w.heap.size, 0, none⟩ = some (.int .u64 (n.path : Int)) ∧ w'.cell? ⟨w.heap.size, 1, none⟩ = some (.int .u32 (n.vers : Int)) ∧ w'.cell? ⟨w.heap.size, 2, none⟩ = some (.int .u32 (n.mode : Int)) ∧ w'.cell? ⟨w.heap.size, 3, none⟩ = some (.int .u32 (n.atm : Int)) ∧ w'.cell? ⟨w.heap.size, 4, none⟩ = some (.int .u32 (n.mtm : Int)) ∧ w'.cell? ⟨w.heap.size, 5, none⟩ = some (.string n.name) ∧ w'.cell? ⟨w.heap.size, 6, none⟩ = some (.string n.uid) ∧ w'.cell? ⟨w.heap.size, 7, none⟩ = some (.string n.gid) ∧ w'.cell? ⟨w.heap.size, 8, none⟩ = some (.string n.muid) ∧ w'.cell? ⟨w.heap.size, 9, none⟩ = some (.int .u64 (n.up : Int)) ∧ w'.cell? ⟨w.heap.size, 10, none⟩ = some (.bool n.gone) ∧ w'.cell? ⟨w.heap.size, 11, none⟩ = some (.string n.data)) ∧ w'.cell? ⟨k15, 0, none⟩ = some (.int .u64 (n.path : Int)) ∧ w'.cell? ⟨k15, 1, none⟩ = some (.int .u32 (n.vers : Int)) ∧ w'.cell? ⟨k15, 2, none⟩ = some (.int .u32 (n.mode : Int)) ∧ w'.cell? ⟨k15, 3, none⟩ = some (.int .u32 (n.atm : Int)) ∧ w'.cell? ⟨k15, 4, none⟩ = some (.int .u32 (n.mtm : Int)) ∧ w'.cell? ⟨k15, 5, none⟩ = some (.string n.name) ∧ w'.cell? ⟨k15, 6, none⟩ = some (.string n.uid) ∧ w'.cell? ⟨k15, 7, none⟩ = some (.string n.gid) ∧ w'.cell? ⟨k15, 8, none⟩ = some (.string n.muid) ∧ w'.cell? ⟨k15, 9, none⟩ = some (.int .u64 (n.up : Int)) ∧ w'.cell? ⟨k15, 10, none⟩ = some (.bool n.gone) ∧ w'.cell? ⟨k15, 11, none⟩ = some (.string n.data))
            (first | exact ⟨⟨⟨block_cell hB3.out.las.usr 0, block_cell hB3.out.las.usr 1⟩, nodS hB3.out.las.nod⟩, nodS hR3.out⟩ | go_keep)
            (first | ((go_at_call 16; (with_reducible refine (hp1.out _ hB3.out.tab).mono ?_); rintro e x1 ⟨rfl, hb⟩; replace hB3 := hid (hB3.out.below hb); replace hR3 := hid ((hb.block _ (lt_of_block hR3.out)).trans hR3.out); clear hb)) | ((go_at_call 17; (with_reducible refine (hp2.out _ hB3.out.las.tu hB3.out.las.tg).mono ?_); rintro e x2 ⟨rfl, hb⟩; replace hB3 := hid (hB3.out.below hb); replace hR3 := hid ((hb.block _ (lt_of_block hR3.out)).trans hR3.out); clear hb)) | ((go_at_call 18; (with_reducible refine (hp3.out _ hB3.out.tab).mono ?_); rintro e x3 ⟨rfl, hb⟩; replace hB3 := hid (hB3.out.below hb); replace hR3 := hid ((hb.block _ (lt_of_block hR3.out)).trans hR3.out); clear hb)) | ((go_at_call 19; (with_reducible refine (hp4.out _ hB3.out.las.tu hB3.out.las.tg).mono ?_); rintro e x4 ⟨rfl, hb⟩; replace hB3 := hid (hB3.out.below hb); replace hR3 := hid ((hb.block _ (lt_of_block hR3.out)).trans hR3.out); clear hb)))
          all_goals
            go_wp2_with fail
            go_ret
            exact ⟨rfl, hB3.out.las.bel⟩
theorem law_PermMayI (uv gv : Value) (us : List ByteArray) (gs : List Grp) (who : ByteArray) (n : Nod) (x y : Int) (w : World) (h2 : TxtsAt w uv us) (h3 : GrpsAt w gv gs) (hg : gs.length * 40 ≤ 140737488351232) (hwho : who.size ≤ maxLen) (hn : NodOk n) (hx : 0 ≤ x ∧ x < 4294967296) (hy : 0 ≤ y ∧ y < 256) :
    Calls Try.prog 3 #[uv, gv, .string who, .agg n.cells, .int .u32 x, .int .u8 y] w fun e w' => e = .returned (.bool true) ∧ Below w.heap.size w w' := by
  obtain ⟨a, rfl⟩ := Int.eq_ofNat_of_zero_le hx.1
  obtain ⟨b, rfl⟩ := Int.eq_ofNat_of_zero_le hy.1
  exact law_PermMay uv gv us gs who n a b w h2 h3 hg hwho hn (by omega) (by omega)
end Go.Proofs.Ytonhliipbdniiaa
