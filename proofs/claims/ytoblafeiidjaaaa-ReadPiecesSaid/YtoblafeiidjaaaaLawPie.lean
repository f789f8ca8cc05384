/- That ReadPieces returns true, for any records and any sizes of pieces. No condition. -/
import Derived.Test.YtoblafeiidjaaaaLawStY
import Derived.Test.YtoblafeiidjaaaaPiecesP
namespace Go.Proofs.Ytoblafeiidjaaaa
open Go.RowKit
set_option maxRecDepth 100000

/-- A slice of numbers of two bytes. -/
def U16At (w : World) (v : Value) (z : List Nat) : Prop := RowAt w 1 v z.length (z.map fun (x : Nat) => Value.int .u16 (x : Int))
theorem U16At.cell {w : World} {a : Option Addr} {n c : Nat} {z : List Nat} (h : U16At w (.slice a n c) z) (i : Nat) (hi : i < z.length) : ∃ b o, a = some ⟨b, o, none⟩ ∧ w.cell? ⟨b, o + i, none⟩ = some (.int .u16 (z[i] : Int)) := by
  obtain ⟨_, a', c', hv, h1, h2, h3, h5, h4⟩ := h
  cases hv
  exact h4 i _ (by simp [hi])

set_option maxHeartbeats 6400000 in
theorem law_ReadPieces (R : List Stat) (v : Value) (Z : List Nat) (v2 : Value) (w : World) (hR : StatsAt w v R) (hok : ∀ s ∈ R, StatOk s) (hZ : U16At w v2 Z) (hz : ∀ x ∈ Z, x < 65536) :
    Calls Try.prog 5 #[v, v2] w (Holds w) := by
  obtain ⟨a, c, rfl, hc1, hc2⟩ := hR.form
  obtain ⟨az, cz, rfl, hz1, hz2⟩ : ∃ a c, v2 = .slice a Z.length c ∧ Z.length ≤ c ∧ c ≤ maxLen := by obtain ⟨_, a', c', hv, h1, h2, _⟩ := hZ; exact ⟨a', c', hv, h1, h2⟩
  unfold maxLen at hc2 hz2
  have hfe := hid (fun W (h : StatsAt W (.slice a R.length c) R) => few22_any R _ W h hok)
  go_enter Try.func5, Try.ntmps5
  go_wp2_with fail
  refine (known22_any _).mono ?_
  rintro e w1 ⟨rfl, hb1⟩
  go_wp2_with fail
  refine (hfe.out _ (hR.below hb1)).mono ?_
  rintro e w2 ⟨rfl, hb2⟩
  have f2 := hid (sn hb1 hb2)
  clear hb1 hb2 hfe
  by_cases hfB : few22 R = true
  case neg =>
    rw [Bool.not_eq_true] at hfB
    rw [hfB]
    clear hfB
    go_wp2_with fail
    go_ret
    exact ⟨rfl, f2.out⟩
  obtain ⟨h40, hfew⟩ := few_of hfB
  rw [hfB]
  clear hfB
  by_cases h60 : 60 < Z.length
  · go_wp2_with fail
    go_ret
    exact ⟨rfl, f2.out⟩
  have hfw := hid hfew
  have hwh := hid (whole_any R _ w2 (hR.below f2.out) (fun s hs => ⟨hok s hs, hfew s hs⟩) (by omega))
  have hOK := hid hok
  clear hfew hok
  go_wp2_with fail
  refine hwh.out.mono ?_
  rintro e w3 ⟨v3, rfl, hv3, hb3⟩
  have f3 := hid (sn f2.out hb3)
  clear hb3 hwh
  by_cases hE : fitE most62 R = 0
  case neg =>
    have k0 : ((fitE most62 R : Int) != 0) = true := by simpa using hE
    clear hE
    go_wp2_with fail
    go_ret
    exact ⟨rfl, f3.out⟩
  obtain ⟨her, hWB⟩ := whole_ok hfw.out h40 hE
  rw [hE]
  rw [hWB] at hv3
  obtain ⟨a3, c3, rfl, g3, g3m, _⟩ := hv3.form
  unfold maxLen at g3m
  have hER := hid her
  have hfrom := hid (fun p n hp => fit_from (L := R) her p n hp)
  have hall : Hid (∀ p, allS (allB (R.take p)) = (R.take p, 0)) := hid (fun p => all_back fun s hs => ⟨hOK.out s (List.mem_of_mem_take hs), hfw.out s (List.mem_of_mem_take hs), her s (List.mem_of_mem_take hs)⟩)
  have hble : Hid (∀ p, (allB (R.take p)).length ≤ 33960) := hid (fun p => Nat.le_trans (allB_le fun s hs => hfw.out s (List.mem_of_mem_take hs)) (by rw [List.length_take]; omega))
  have hpre : Hid (∀ p, allB R = allB (R.take p) ++ allB (R.drop p)) := hid (fun p => by rw [← allB_append, List.take_append_drop])
  have hWl : (allB R).length ≤ 33960 := Nat.le_trans (allB_le hfw.out) (by omega)
  clear hE her hWB
  go_wp2_with fail
  go_loopw [7, 8, 9] (fun gv pv iv wr => ∃ i p : Nat, i ≤ Z.length ∧ p ≤ R.length ∧ iv = .int .i64 (i : Int) ∧ pv = .int .i64 (p : Int) ∧ wr.ownsRow w3.heap.size 5 1 gv (allB (R.take p)).length ((allB (R.take p)).map byteV) ∧ Below w3.heap.size w3 wr) (fun _ _ iv _ => Z.length - (intOf iv).toNat)
  case atStart => exact ⟨0, 0, by omega, by omega, rfl, rfl, World.ownsRow_nil _ _ _ _, Below.refl _ _⟩
  case round =>
    obtain ⟨i, p, hi, hp, rfl, rfl, hown, hbr⟩ := hrel
    obtain ⟨ga, gc, rfl⟩ := own_form hown
    have fr := hid (f3.out.trans (hbr.mono f3.out.size))
    by_cases hlt : i < Z.length
    · obtain ⟨bz, oz, rfl, hcz⟩ := U16At.cell (RowAt.below hZ fr.out) i hlt
      have hzl : Z[i] < 65536 := hz _ (List.getElem_mem _)
      generalize Z[i] = n at hcz hzl
      have hbzl := World.block_lt_of_cell? wr _ hcz
      obtain ⟨j, j1, j2, j3, j4, j5, j6, j7, j8⟩ := hfrom.out p n hp
      have hfit := fit_in R _ p n wr (RowAt.below hR fr.out) hp (by omega) (fun s hs => ⟨hOK.out s hs, hfw.out s hs⟩) (by omega)
      rw [j2, j3, j4] at hfit
      replace hfit := hid hfit
      replace j2 := hid j2
      replace j3 := hid j3
      replace j4 := hid j4
      have J6 := hid j6
      have J7 := hid j7
      replace j8 := hid j8
      clear j6 j7
      have i1 : (0 : Int) ≤ (i : Int) := by omega
      have i2 : (i : Int) < (Z.length : Int) := by omega
      have e1 : IntKind.u32.wrap (n : Int) = (n : Int) := IntWalk.u32_in _ (by omega)
      go_wp2_with fail
      refine hfit.out.mono ?_
      rintro e w5 ⟨v5, rfl, hv5, hb5⟩
      generalize hB : allB ((R.drop p).take j) = B at *
      replace hB := hid hB
      obtain ⟨a5, c5, rfl, g5, g5m, _⟩ := hv5.form
      unfold maxLen at g5m
      have hcz5 := (hb5.cell (p := ⟨bz, oz + i, none⟩) hbzl).trans hcz
      have hbz5 : bz < w5.heap.size := bsz hb5 hbzl
      have hown5 := own_below hown hb5
      have hbr5 := hid (hbr.trans (hb5.mono hbr.size))
      have fr5 := hid (sn fr.out hb5)
      clear hb5 hcz hbzl hfit hown
      have hpq : p ≤ p + j := by omega
      have hc : (((p + j : Nat) : Int) == (p : Int)) = true ∧ ((B.length : Int) == 0) = true ∨ (((p + j : Nat) : Int) == (p : Int)) = false ∧ ((B.length : Int) == 0) = false := by
        by_cases hj : j = 0
        · subst hj
          exact .inl ⟨by simp, by rw [← hB.out]; rfl⟩
        · have hBp := J7.out hj
          exact .inr ⟨by simp; omega, by rw [beq_eq_false_iff_ne]; omega⟩
      have hB40 : B.length ≤ 65535 := by omega
      have hG40 := hble.out p
      have hL18 : (allB (R.take p)).length + B.length ≤ 100000 := by omega
      generalize hq : p + j = q at *
      replace hq := hid hq
      clear J7
      rcases hc with ⟨c1, c2⟩ | ⟨c1, c2⟩
      all_goals
        go_wp2_with fail
        by_cases hql : q < R.length
        · obtain ⟨bb, o, rfl, hA0⟩ := StatsAt.cells (StatsAt.below hR fr5.out) q hql
          have hn := J6.out hql
          have hszL := fun W => size_any R[q] W (hfw.out _ (List.getElem_mem _))
          have hlit3 := hid (cells_eq R[q])
          have hs849 : R[q].size ≤ 849 := by obtain ⟨x1, x2, x3, x4⟩ := hfw.out R[q] (List.getElem_mem _); unfold Stat.size; omega
          generalize R[q] = t at hA0 hn hszL hlit3 hs849
          rw [hlit3.out] at hszL
          replace hszL := hid hszL
          have i3 : (0 : Int) ≤ (q : Int) := by omega
          have i4 : (q : Int) < (R.length : Int) := by omega
          have e3 : IntKind.i64.wrap ((B.length : Int) + (t.size : Int)) = (B.length : Int) + (t.size : Int) := IntWalk.i64_in _ (by omega)
          have e4 : IntKind.i64.wrap (n : Int) = (n : Int) := IntWalk.i64_in _ (by omega)
          have hA : StatCells w5.drew bb (o + q * 13) t := hA0
          have hcn : w5.drew.cell? ⟨bz, oz + i, none⟩ = some (.int .u16 (n : Int)) := hcz5
          have hA' := at13_cells hA0
          obtain ⟨A0, A1, A2, A3, A4, A5, A6, A7, A8, A9, A10, A11, A12⟩ := hA'
          have d1 : decide ((B.length : Int) + (t.size : Int) ≤ (n : Int)) = false := by simp; omega
          clear hA0
          go_region_held3 (fun w' => w'.cell? ⟨bb, o + q * 13, none⟩ = some (.int .u16 (t.kind : Int)) ∧ w'.cell? ⟨bb, o + q * 13 + 1, none⟩ = some (.int .u32 (t.dev : Int)) ∧ w'.cell? ⟨bb, o + q * 13 + 2, none⟩ = some (.int .u8 (t.qt : Int)) ∧ w'.cell? ⟨bb, o + q * 13 + 3, none⟩ = some (.int .u32 (t.qv : Int)) ∧ w'.cell? ⟨bb, o + q * 13 + 4, none⟩ = some (.int .u64 (t.qp : Int)) ∧ w'.cell? ⟨bb, o + q * 13 + 5, none⟩ = some (.int .u32 (t.mode : Int)) ∧ w'.cell? ⟨bb, o + q * 13 + 6, none⟩ = some (.int .u32 (t.atm : Int)) ∧ w'.cell? ⟨bb, o + q * 13 + 7, none⟩ = some (.int .u32 (t.mtm : Int)) ∧ w'.cell? ⟨bb, o + q * 13 + 8, none⟩ = some (.int .u64 (t.len : Int)) ∧ w'.cell? ⟨bb, o + q * 13 + 9, none⟩ = some (.string t.name) ∧ w'.cell? ⟨bb, o + q * 13 + 10, none⟩ = some (.string t.uid) ∧ w'.cell? ⟨bb, o + q * 13 + 11, none⟩ = some (.string t.gid) ∧ w'.cell? ⟨bb, o + q * 13 + 12, none⟩ = some (.string t.muid) ∧ w'.cell? ⟨bz, oz + i, none⟩ = some (.int .u16 (n : Int)))
            (first | exact ⟨hA.1, hA.2.1, hA.2.2.1, hA.2.2.2.1, hA.2.2.2.2.1, hA.2.2.2.2.2.1, hA.2.2.2.2.2.2.1, hA.2.2.2.2.2.2.2.1, hA.2.2.2.2.2.2.2.2.1, hA.2.2.2.2.2.2.2.2.2.1, hA.2.2.2.2.2.2.2.2.2.2.1, hA.2.2.2.2.2.2.2.2.2.2.2.1, hA.2.2.2.2.2.2.2.2.2.2.2.2, hcn⟩ | go_keep)
            ((go_at_call 17; (with_reducible refine (hszL.out _).mono ?_); rintro e wn ⟨rfl, hbS⟩; replace hA := StatCells.keep hbS hA; replace hcn := kc hbS hcn))
          have hbW := hid ((Below.refl w5.heap.size w5).drew.trans hbS)
          clear hA hcn hbS A0 A1 A2 A3 A4 A5 A6 A7 A8 A9 A10 A11 A12 e3 e4 d1 i3 i4 hn
          have hownW := own_below hown5 hbW.out
          have hvW : RowAt _ 1 _ B.length (B.map byteV) := hv5.below hbW.out
          have hszW : w3.heap.size ≤ w5.heap.size := hbr5.out.size
          have hszW2 := hbW.out.size
          go_wp2_with (at_builtin; refine wpList_append_row elemU8 _ rfl (.tmp 96) (.tmp 97) rfl w3.heap.size (.slice ga (allB (R.take p)).length gc) (allB (R.take p)).length ((allB (R.take p)).map byteV) rfl hownW (.slice a5 B.length c5) B.length (B.map byteV) rfl hvW (bytes_oneCell _) (by unfold maxLen; omega) (by omega) (by omega) ?_)
          intro a' c' w6 h2 h3
          have hown6 : w6.ownsRow w3.heap.size 5 1 (.slice a' ((allB (R.take p)).length + B.length) c') (allB (R.take q)).length ((allB (R.take q)).map byteV) := by have e := j8.out; rw [e]; simpa using h2
          have hb6 := ((hbr5.out.trans (hbW.out.mono hszW)).grown h3 (by omega) (fun jj hjj => (hownW.lt jj hjj).1))
          clear h2 h3 hownW hvW
          go_wp2_with fail
          go_roundw
          case rel => exact ⟨i + 1, q, by omega, by omega, by go_num, rfl, hown6, hb6⟩
          case measure => simp [intOf]; omega
        · have d0 : decide ((q : Int) < (R.length : Int)) = false := by simp; omega
          go_quiet (fail)
          have hbW := hid (bdrewN (Below.refl w5.heap.size w5) nq)
          have hownW := own_below hown5 hbW.out
          have hvW : RowAt _ 1 _ B.length (B.map byteV) := hv5.below hbW.out
          have hszW : w3.heap.size ≤ w5.heap.size := hbr5.out.size
          have hszW2 := hbW.out.size
          go_wp2_with (at_builtin; refine wpList_append_row elemU8 _ rfl (.tmp 96) (.tmp 97) rfl w3.heap.size (.slice ga (allB (R.take p)).length gc) (allB (R.take p)).length ((allB (R.take p)).map byteV) rfl hownW (.slice a5 B.length c5) B.length (B.map byteV) rfl hvW (bytes_oneCell _) (by unfold maxLen; omega) (by omega) (by omega) ?_)
          intro a' c' w6 h2 h3
          have hown6 : w6.ownsRow w3.heap.size 5 1 (.slice a' ((allB (R.take p)).length + B.length) c') (allB (R.take q)).length ((allB (R.take q)).map byteV) := by have e := j8.out; rw [e]; simpa using h2
          have hb6 := ((hbr5.out.trans (hbW.out.mono hszW)).grown h3 (by omega) (fun jj hjj => (hownW.lt jj hjj).1))
          clear h2 h3 hownW hvW
          go_wp2_with fail
          go_roundw
          case rel => exact ⟨i + 1, q, by omega, by omega, by go_num, rfl, hown6, hb6⟩
          case measure => simp [intOf]; omega
    · obtain rfl : i = Z.length := by omega
      have hvW := hv3.below hbr
      have hvG : BytesAt wr (.slice ga (allB (R.take p)).length gc) (allB (R.take p)) := BytesAt.of_own hown rfl
      have hgl : (allB (R.take p)).length ≤ (allB R).length := by rw [hpre.out p, List.length_append]; omega
      have htk : (allB R).take (allB (R.take p)).length = allB (R.take p) := by
        have h := hpre.out p
        generalize allB (R.take p) = G at h ⊢
        rw [h, List.take_left]
      have hvT := hvW.take (allB (R.take p)).length c3 hgl (by omega) (Nat.le_refl _)
      rw [htk] at hvT
      have hG40 := hble.out p
      have hlast : p = R.length → (allB (R.take p)).length = (allB R).length := fun h => by rw [h, List.take_length]
      have hpl : (R.take p).length = p := by simp; omega
      have hAll := hall.out p
      replace hpre := hid hpre
      replace htk := hid htk
      replace hlast := hid hlast
      replace hpl := hid hpl
      replace hAll := hid hAll
      clear hvW hown
      generalize hGG : allB (R.take p) = G at *
      replace hGG := hid hGG
      have b1 : (0 : Int) ≤ (G.length : Int) := by omega
      have b2 : (G.length : Int) ≤ (c3 : Int) := by omega
      have b3 : decide (((allB R).length : Int) < (G.length : Int)) = false := by simp; omega
      have b4 : decide ((allB R).length < G.length) = false := by simp; omega
      have hg : BytesAt wr.drew (.slice ga G.length gc) G := hvG
      have ht : BytesAt wr.drew (.slice a3 G.length c3) G := hvT
      have hG9 := hid hg
      go_wp2_with fail
      go_region_held3 (fun w' => (convert 29 9 (.slice ga G.length gc)).run Try.prog w' = .ok (.string (strL G)) w' ∧ (convert 29 9 (.slice a3 G.length c3)).run Try.prog w' = .ok (.string (strL G)) w')
        (first | exact ⟨conv_string _ _ _ hg, conv_string _ _ _ ht⟩ | go_keep)
        (fail)
      clear hg ht hvG hvT
      go_wp2_with fail
      refine (all_any _ G _ hG9.out (by omega)).mono ?_
      rintro e w9 ⟨v9, rfl, hs9, hb9⟩
      rw [hAll.out] at hs9 ⊢
      obtain ⟨a9, c9, rfl, _, _⟩ := hs9.form
      rw [hpl.out]
      have f9 := hid (sn fr.out.drew hb9)
      clear hs9 hb9
      by_cases hpR : p < R.length
      · go_wp2_with fail
        go_ret
        exact ⟨rfl, f9.out⟩
      · have hle := hlast.out (by omega)
        have c1 : ((G.length : Int) == ((allB R).length : Int)) = true := by simp; omega
        clear hle
        go_wp2_with fail
        go_ret
        exact ⟨rfl, f9.out⟩
end Go.Proofs.Ytoblafeiidjaaaa
