/- For every input the law PermChange returns true: the walk. Conditions: numbers in their types; the groups' size. -/
import Derived.Test.YtonhliipbdniiaaPmL4
import Derived.Test.YtonhliipbdniiaaPm9
namespace Go.Proofs.Ytonhliipbdniiaa
open Go.RowKit
set_option maxRecDepth 100000
set_option linter.unusedVariables false

theorem ch_keep (us : List ByteArray) (gs : List Grp) (who : ByteArray) (n : Nod) : chN us gs who n keepS = 0 := by
  have h1 : chA n keepS = false := by simp [chA, stillB, askN, askS, modeQ, lenQ, keepS]
  have h2 : chP us gs who n keepS = false := by simp [chP, modeQ, lenQ, keepS]
  have h3 : lenQ keepS = false := by simp [lenQ, keepS]
  have h4 : validB keepS.gid = true := by kernel_rfl
  unfold chN
  rw [h1, h2, h3, h4]; rfl

/-- The variables of the law, wherever it stands: the node, the record, the users of the document. -/
structure LcS (w wx : World) (n : Nod) (s : Stat) (k : Nat) (uv gv : Value) (us : List ByteArray) (gs : List Grp) : Prop where
  las : LaS w wx n k uv gv us gs
  sta : wx.heap[w.heap.size + 1]? = some (.cells s.cells 50 (0, 0))
theorem LcS.below {w wx wy : World} {n : Nod} {s : Stat} {k : Nat} {uv gv : Value} {us : List ByteArray} {gs : List Grp} (h : LcS w wx n s k uv gv us gs) (hb : Below wx.heap.size wx wy) : LcS w wy n s k uv gv us gs :=
  ⟨h.las.below hb, (hb.block _ (lt_of_block h.sta)).trans h.sta⟩
structure LcT (w wx : World) (n : Nod) (s : Stat) (k : Nat) (uv gv : Value) (us : List ByteArray) (gs : List Grp) (p : Nat) (gs' : List Grp) : Prop where
  lcs : LcS w wx n s k uv gv us gs
  tab : TabAt wx p us gs'
theorem LcT.below {w wx wy : World} {n : Nod} {s : Stat} {k p : Nat} {uv gv : Value} {us : List ByteArray} {gs gs' : List Grp} (h : LcT w wx n s k uv gv us gs p gs') (hb : Below wx.heap.size wx wy) : LcT w wy n s k uv gv us gs p gs' := ⟨h.lcs.below hb, h.tab.below hb⟩

theorem keep_ok : StatOk keepS := ⟨by decide, by decide, by decide, by decide, by decide, by decide, by decide, by decide, by decide, by decide, by decide, by decide, by decide⟩

set_option maxHeartbeats 6400000 in
theorem law_PermChange (uv gv : Value) (us : List ByteArray) (gs : List Grp) (who : ByteArray) (n : Nod) (s : Stat) (w : World) (h2 : TxtsAt w uv us) (h3 : GrpsAt w gv gs) (hg : gs.length * 40 ≤ 140737488351232) (hwho : who.size ≤ maxLen) (hn : NodOk n) (hs : StatOk s) :
    Calls Try.prog 4 #[uv, gv, .string who, .agg n.cells, .agg s.cells] w fun e w' => e = .returned (.bool true) ∧ Below w.heap.size w w' := by
  obtain ⟨au, cu, rfl, gu1, gu2⟩ := h2.form
  obtain ⟨ag, cg, rfl, gg1, gg2⟩ := h3.form
  obtain ⟨W, hW⟩ : ∃ W, W = (w.alloc (.cells n.cells 27)).alloc (.cells s.cells 50) := ⟨_, rfl⟩
  have hx : W.heap[w.heap.size]? = some (.cells n.cells 27 (0, 0)) := by rw [hW, heap_alloc_old _ _ (by simp), heap_alloc_new]
  have hy : W.heap[w.heap.size + 1]? = some (.cells s.cells 50 (0, 0)) := by rw [hW]; exact heap2 _ _ _
  have hb0 : Below w.heap.size w W := by rw [hW]; exact ((Below.refl w.heap.size w).alloc (Nat.le_refl _) _).alloc (by simp) _
  have hU := hid (h2.below hb0)
  have hG := hid (h3.below hb0)
  replace hx := hid hx
  replace hy := hid hy
  replace hb0 := hid hb0
  have hlg := hid (show gs.length * 40 ≤ 140737488355328 by omega)
  clear h2 h3 hg
  unfold maxLen at hwho
  rw [nod_cells] at hW ⊢
  simp only [Stat.cells] at hW ⊢
  replace hs := hid hs
  go_enter Try.func4, Try.ntmps4
  go_upto_region 3 with (first | (rw [← hW]; replace hW := hid hW) | ((with_reducible refine (known16_any _).mono ?_); rintro e w1 ⟨rfl, hb1⟩; replace hx := hid ((hb1.block _ (lt_of_block hx.out)).trans hx.out); replace hy := hid ((hb1.block _ (lt_of_block hy.out)).trans hy.out); replace hU := hid (hU.out.below hb1); replace hG := hid (hG.out.below hb1); replace hb0 := hid (sn hb0.out hb1); clear hb1))
  go_cut [11] (fun s11 wx => ∃ (k : Nat) (g : Value), s11 = .pointer (some ⟨k, 0, none⟩) ∧ Hid (LcS w wx n s k (.slice au us.length cu) g us gs) ∧ Hid (GrpsAt wx (.slice ag gs.length cg) gs))
  case first =>
    go_wp2_with fail
    refine (of15_any _ _ us gs _ hU.out hG.out hlg.out).mono ?_
    rintro e w2 ⟨g, rfl, ht2, hg2, hb2⟩
    obtain ⟨ag2, cg2, rfl, _, _⟩ := hg2.form
    have hR := hid (la_new hx.out hb0.out ht2 hg2 hb2)
    have hG' := hid (hG.out.below hR.out.2)
    clear ht2 hg2 hb2
    go_wp2_with fail
    go_meet
    exact ⟨_, _, rfl, hid ⟨hR.out.1, (hR.out.2.block _ (lt_of_block hy.out)).trans hy.out⟩, hG'⟩
  case rest =>
    obtain ⟨k, g, rfl, hM, hG0⟩ := hcut
    obtain ⟨ag2, cg2, rfl, _, _⟩ := hM.out.las.tg.form
    clear hx hy hU hG hb0 hW hlg
    go_upto_region 4 with (fail)
    go_cut [41] (fun s41 wx => ∃ c : Bool, s41 = .bool c ∧ (c = false → UOk us gs ∧ FewU us gs) ∧ Hid (LcS w wx n s k (.slice au us.length cu) (.slice ag2 gs.length cg2) us gs))
    case first =>
      go_wp2_with fail
      refine (fewU_any _ _ us gs _ hM.out.las.tu hG0.out).mono ?_
      rintro e w3 ⟨⟨r1, rfl, hf⟩, rfl⟩
      cases r1 with
      | false =>
        clear hf
        go_wp2_with fail
        go_meet
        exact ⟨true, rfl, fun h => (by cases h), hM⟩
      | true =>
        have hF := hid (hf rfl)
        have u0 : w3.cell? ⟨k, 0, none⟩ = some (.slice au us.length cu) := block_cell hM.out.las.usr 0
        have u1 : w3.cell? ⟨k, 1, none⟩ = some (.slice ag2 gs.length cg2) := block_cell hM.out.las.usr 1
        clear hf
        go_wp2_with fail
        refine (check_any _ _ us gs _ hM.out.las.tu hM.out.las.tg hF.out).mono ?_
        rintro e w4 ⟨r, rfl, hok, hb4⟩
        replace hM := hid (hM.out.below hb4)
        clear hb4 u0 u1
        by_cases hr : r = 0
        · subst hr
          have hO := hid (hok rfl)
          clear hok
          obtain ⟨b1, q1⟩ : ∃ b, decide ((100 : Int) < (who.size : Int)) = b := ⟨_, rfl⟩
          cases b1 with
          | true =>
            go_wp2_with fail
            go_meet
            exact ⟨true, rfl, fun h => (by cases h), hM⟩
          | false =>
            obtain ⟨d0, d1, d2, d3, d4, d5, d6, d7, d8, d9, d10, d11⟩ := nodS hM.out.las.nod
            have hfw := hid (few16_any n w4 hn)
            rw [nod_cells] at hfw
            replace hn := hid hn
            go_wp2_with fail
            refine hfw.out.mono ?_
            rintro e w5 ⟨⟨r3, rfl⟩, hb5⟩
            replace hM := hid (hM.out.below hb5)
            clear hb5
            cases r3 with
            | true =>
              obtain ⟨s0, s1, s2, s3, s4, s5, s6, s7, s8, s9, s10, s11, s12⟩ := staS hM.out.sta
              have hf4 := hid (few4p_any s w5 hs.out)
              simp only [Stat.cells] at hf4
              clear d0 d1 d2 d3 d4 d5 d6 d7 d8 d9 d10 d11
              go_wp2_with fail
              refine hf4.out.mono ?_
              rintro e w6 ⟨⟨r4, rfl⟩, hb6⟩
              replace hM := hid (hM.out.below hb6)
              clear hb6 s0 s1 s2 s3 s4 s5 s6 s7 s8 s9 s10 s11 s12
              cases r4 with
              | true =>
                go_wp2_with fail
                go_meet
                exact ⟨false, rfl, fun _ => ⟨hO.out, hF.out⟩, hM⟩
              | false =>
                go_wp2_with fail
                go_meet
                exact ⟨true, rfl, fun h => (by cases h), hM⟩
            | false =>
              go_wp2_with fail
              go_meet
              exact ⟨true, rfl, fun h => (by cases h), hM⟩
        · have q1 : ((r : Int) != 0) = true := by simp; omega
          clear hok hr
          go_wp2_with fail
          go_meet
          exact ⟨true, rfl, fun h => (by cases h), hM⟩
    case rest =>
      obtain ⟨c, rfl, hc, hM2⟩ := hcut
      clear hM hG0
      cases c with
      | true =>
        clear hc
        go_wp2_with fail
        go_ret
        exact ⟨rfl, hM2.out.las.bel⟩
      | false =>
        have hO := hid (hc rfl)
        have u0 : wc.cell? ⟨k, 0, none⟩ = some (.slice au us.length cu) := block_cell hM2.out.las.usr 0
        have u1 : wc.cell? ⟨k, 1, none⟩ = some (.slice ag2 gs.length cg2) := block_cell hM2.out.las.usr 1
        clear hc
        go_wp2_with fail
        refine (table_any _ _ us gs _ hM2.out.las.tu hM2.out.las.tg hO.out.1 (fun g hg => by have := hO.out.2.nm g hg; omega)).mono ?_
        rintro e w6 ⟨p, gs', rfl, hT, hS, hb6⟩
        have hA := hid (show LcT w w6 n s k (.slice au us.length cu) (.slice ag2 gs.length cg2) us gs p gs' from ⟨hM2.out.below hb6, hT⟩)
        have hub := hid (hS.ub hO.out.2.ub)
        have hub0 := hid hO.out.2.ub
        replace hS := hid hS
        clear hT hb6 hM2 u0 u1 hO
        obtain ⟨r, hr⟩ : ∃ b, b = chN us gs who n s := ⟨_, rfl⟩
        have hp1 := hid (fun W hT => change_any p us gs' who n s W hT hub.out hn hs.out)
        have hp2 := hid (fun W h2 h3 => rchange_any (.slice au us.length cu) (.slice ag2 gs.length cg2) us gs who n s W h2 h3 hub0.out hn hs.out)
        have hp3 := hid (fun W hT => change_any p us gs' who n keepS W hT hub.out hn keep_ok)
        have hp4 := hid (fun W => ofnode_any n W)
        have hp5 := hid (fun W => of_any s W)
        rw [← chN_same hS.out, ← hr] at hp1
        rw [← hr] at hp2
        rw [ch_keep] at hp3
        simp only [show ((0 : Nat) : Int) = 0 from rfl] at hp3
        obtain ⟨K, hK⟩ : ∃ K, K = keepS.cells := ⟨_, rfl⟩
        have hp6 := hid (fun W => keep_any W)
        rw [← hK] at hp3 hp6
        rw [nod_cells] at hp1 hp2 hp3 hp4
        simp only [Stat.cells] at hp1 hp2 hp5
        replace hK := hid hK
        clear hr hub hub0 hS
        replace hn := hid hn
        have hB3 : Hid (LcT w w6.drew n s k (.slice au us.length cu) (.slice ag2 gs.length cg2) us gs p gs') := hid (hA.out.below ((Below.refl _ _).drew))
        clear hA
        go_wp2_with fail
        go_region_held3 (fun w' => ((w'.cell? ⟨k, 0, none⟩ = some (.slice au us.length cu) ∧ w'.cell? ⟨k, 1, none⟩ = some (.slice ag2 gs.length cg2)) ∧ w'.cell? ⟨w.heap.size, 0, none⟩ = some (.int .u64 (n.path : Int)) ∧ w'.cell? ⟨w.heap.size, 1, none⟩ = some (.int .u32 (n.vers : Int)) ∧ w'.cell? ⟨w.heap.size, 2, none⟩ = some (.int .u32 (n.mode : Int)) ∧ w'.cell? ⟨w.heap.size, 3, none⟩ = some (.int .u32 (n.atm : Int)) ∧ w'.cell? ⟨w.heap.size, 4, none⟩ = some (.int .u32 (n.mtm : Int)) ∧ w'.cell? ⟨w.heap.size, 5, none⟩ = some (.string n.name) ∧ w'.cell? ⟨w.heap.size, 6, none⟩ = some (.string n.uid) ∧ w'.cell? ⟨w.heap.size, 7, none⟩ = some (.string n.gid) ∧ w'.cell? ⟨w.heap.size, 8, none⟩ = some (.string n.muid) ∧ w'.cell? ⟨w.heap.size, 9, none⟩ = some (.int .u64 (n.up : Int)) ∧ w'.cell? ⟨w.heap.size, 10, none⟩ = some (.bool n.gone) ∧ w'.cell? ⟨w.heap.size, 11, none⟩ = some (.string n.data)) ∧ w'.cell? ⟨w.heap.size + 1, 0, none⟩ = some (.int .u16 (s.kind : Int)) ∧ w'.cell? ⟨w.heap.size + 1, 1, none⟩ = some (.int .u32 (s.dev : Int)) ∧ w'.cell? ⟨w.heap.size + 1, 2, none⟩ = some (.int .u8 (s.qt : Int)) ∧ w'.cell? ⟨w.heap.size + 1, 3, none⟩ = some (.int .u32 (s.qv : Int)) ∧ w'.cell? ⟨w.heap.size + 1, 4, none⟩ = some (.int .u64 (s.qp : Int)) ∧ w'.cell? ⟨w.heap.size + 1, 5, none⟩ = some (.int .u32 (s.mode : Int)) ∧ w'.cell? ⟨w.heap.size + 1, 6, none⟩ = some (.int .u32 (s.atm : Int)) ∧ w'.cell? ⟨w.heap.size + 1, 7, none⟩ = some (.int .u32 (s.mtm : Int)) ∧ w'.cell? ⟨w.heap.size + 1, 8, none⟩ = some (.int .u64 (s.len : Int)) ∧ w'.cell? ⟨w.heap.size + 1, 9, none⟩ = some (.string s.name) ∧ w'.cell? ⟨w.heap.size + 1, 10, none⟩ = some (.string s.uid) ∧ w'.cell? ⟨w.heap.size + 1, 11, none⟩ = some (.string s.gid) ∧ w'.cell? ⟨w.heap.size + 1, 12, none⟩ = some (.string s.muid))
          (first | exact ⟨⟨⟨block_cell hB3.out.lcs.las.usr 0, block_cell hB3.out.lcs.las.usr 1⟩, nodS hB3.out.lcs.las.nod⟩, staS hB3.out.lcs.sta⟩ | go_keep)
          (first | ((go_at_call 21; (with_reducible refine (hp1.out _ hB3.out.tab).mono ?_); rintro e x1 ⟨rfl, hb⟩; replace hB3 := hid (hB3.out.below hb); clear hb)) | ((go_at_call 21; (with_reducible refine (hp3.out _ hB3.out.tab).mono ?_); rintro e x3 ⟨rfl, hb⟩; replace hB3 := hid (hB3.out.below hb); clear hb)) | ((go_at_call 22; (with_reducible refine (hp2.out _ hB3.out.lcs.las.tu hB3.out.lcs.las.tg).mono ?_); rintro e x2 ⟨rfl, hb⟩; replace hB3 := hid (hB3.out.below hb); clear hb)) | ((go_at_call 15; (with_reducible refine (hp4.out _).mono ?_); rintro e x4 ⟨rfl, hb⟩; replace hB3 := hid (hB3.out.below hb); clear hb)) | ((go_at_call 23; (with_reducible refine (hp5.out _).mono ?_); rintro e x5 ⟨rfl, hb⟩; replace hB3 := hid (hB3.out.below hb); clear hb)) | ((go_at_call 24; (with_reducible refine (hp6.out _).mono ?_); rintro e x6 ⟨rfl, hb⟩; replace hB3 := hid (hB3.out.below hb); clear hb)))
        all_goals
          go_wp2_with fail
          go_ret
          exact ⟨rfl, hB3.out.lcs.las.bel⟩
end Go.Proofs.Ytonhliipbdniiaa
