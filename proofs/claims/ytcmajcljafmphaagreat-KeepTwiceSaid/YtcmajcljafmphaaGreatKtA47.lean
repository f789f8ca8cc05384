/- Law KeepTwice. Conditions: the arguments as they come in.
How what comes in to a law is told to its walk. No condition. -/
import Derived.Test.YtcmajcljafmphaaGreatKtA46
import Derived.Test.YtcmajcljafmphaaGreatKtA35
import Derived.Test.YtcmajcljafmphaaGreatKtA22
import Derived.Test.YtcmajcljafmphaaGreatKtA01
import Derived.ProofKit
import Derived.OpenShut
import Derived.ChangeOld
namespace Go.Proofs.YtcmajcljafmphaaGreat
section
open Go.RowKit Go.Maps
set_option maxRecDepth 100000
set_option linter.unusedVariables false

set_option maxHeartbeats 6400000 in
theorem law_KeepTwiceI (v u : Value) (x y n : Nat) (l m : List Nod) (w : World) (hv : NodsAt w v l) (hu : NodsAt w u m) (hx : x < 18446744073709551616) (hok : ∀ q ∈ l, NodOk q) (hok2 : ∀ q ∈ m, NodOk q) (hn : n ≤ 255) :
    Calls Tryz.prog 4 #[.agg #[.int .u64 (x : Int), v], .agg #[.int .u64 (y : Int), u], .int .u8 (n : Int)] w fun e w' => e = .returned (.bool true) ∧ Below w.heap.size w w' := by
  obtain ⟨a, c, rfl, g1, g2⟩ := hv.form
  obtain ⟨a2, c2, rfl, g3, g4⟩ := hu.form
  unfold maxLen at g2 g4
  obtain ⟨W, hW⟩ : ∃ W, W = (w.alloc (.cells #[.int .u64 (x : Int), .slice a l.length c] 33)).alloc (.cells #[.int .u64 (y : Int), .slice a2 m.length c2] 33) := ⟨_, rfl⟩
  have hb0 : Below w.heap.size w W := by rw [hW]; exact ((Below.refl _ _).alloc (Nat.le_refl _) _).alloc (by simp) _
  have hx0 := hid (show W.heap[w.heap.size]? = some (.cells #[.int .u64 (x : Int), .slice a l.length c] 33 (0, 0)) by rw [hW]; exact (Below.heap_alloc _ _ _ (by simp)).trans (heap_alloc_new _ _))
  have hy0 := hid (show W.heap[w.heap.size + 1]? = some (.cells #[.int .u64 (y : Int), .slice a2 m.length c2] 33 (0, 0)) by rw [hW]; exact heap2 _ _ _)
  have hc := hid (known19_any W)
  have hv0 := hid (hv.below hb0)
  have hu0 := hid (hu.below hb0)
  have hfd : ∀ (y v : Value) (w : World), (Instr.field 33 (.agg #[y, v]) 0).run Tryz.prog w = .ok y w := fun _ _ _ => rfl
  replace hb0 := hid hb0
  replace hok := hid hok
  replace hok2 := hid hok2
  clear hv hu
  have hpl := hid (fun X => kplate_any X)
  go_enter Tryz.func4, Tryz.ntmps4
  go_wp2_with (rw [← hW]; replace hW := hid hW)
  refine hc.out.mono ?_
  rintro e w1 ⟨rfl, hb1⟩
  have hB := hid (sn hb0.out hb1)
  have tree := hid ((hb1.block _ (lt_of_block hx0.out)).trans hx0.out)
  have tre2 := hid ((hb1.block _ (lt_of_block hy0.out)).trans hy0.out)
  have row := hid (hv0.out.below hb1)
  have row2 := hid (hu0.out.below hb1)
  clear hc hb1 hx0 hy0 hb0 hv0 hu0
  have hm := hid (may14_any (.slice a l.length c) x l w1 row.out hok.out)
  have q0 := block_cell tree.out 0
  have q1 := block_cell tree.out 1
  go_wp2_with fail
  refine hm.out.mono ?_
  rintro e w2 ⟨b, rfl, hmay, hb2⟩
  replace hB := hid (sn hB.out hb2)
  replace tree := hid ((hb2.block _ (lt_of_block tree.out)).trans tree.out)
  replace tre2 := hid ((hb2.block _ (lt_of_block tre2.out)).trans tre2.out)
  replace row := hid (row.out.below hb2)
  replace row2 := hid (row2.out.below hb2)
  clear hm hb2 q0 q1
  cases b with
  | false =>
    clear hmay
    go_wp2_with fail
    go_ret
    exact ⟨by simp, hB.out⟩
  | true =>
    obtain ⟨hOk, hfew⟩ := hmay rfl
    have hsz := few_enc2 hfew hOk
    have hLy : LayOk ⟨x, l⟩ := okc_lay hOk hok.out hx (fun n hn => by have := hsz.1 n hn; omega) (Nat.le_trans hsz.2 (by decide))
    have hE := hid hsz.2
    replace hOk := hid hOk
    replace hLy := hid hLy
    have h1000 : l.length ≤ 1000 := by have := hLy.out.len; simp only at this; omega
    clear hmay hfew hsz
    have hf := hid (few14t_any (.slice a2 m.length c2) y m w2 row2.out)
    obtain ⟨bf, hbf⟩ : ∃ b, b = fewL m := ⟨_, rfl⟩
    rw [← hbf] at hf
    have q0 := block_cell tre2.out 0
    have q1 := block_cell tre2.out 1
    go_wp2_with fail
    refine hf.out.mono ?_
    rintro e w3 ⟨rfl, hb3⟩
    replace hB := hid (sn hB.out hb3)
    replace tree := hid ((hb3.block _ (lt_of_block tree.out)).trans tree.out)
    replace tre2 := hid ((hb3.block _ (lt_of_block tre2.out)).trans tre2.out)
    replace row := hid (row.out.below hb3)
    replace row2 := hid (row2.out.below hb3)
    clear hf hb3 q0 q1
    cases bf with
    | false =>
      clear hbf
      go_wp2_with fail
      go_ret
      exact ⟨by simp, hB.out⟩
    | true =>
      have hml := fewL_len hbf.symm
      have hmd := hid (fewL_data hbf.symm)
      clear hbf
      have q0 := block_cell tree.out 0
      have q1 := block_cell tree.out 1
      obtain ⟨z, o, c', e', hz⟩ := row.out.lt hLy.out.ne
      cases e'
      go_wp2_with (first
        | (go_at_call 15; refine (hpl.out _).mono ?_; rintro e w4 ⟨d, rfl, hD, hb4⟩; replace hb4 : Below w3.heap.size w3 w4 := (by first | exact hb4 | exact Below.of_drew hb4); replace hD : Dk w3.heap.size [] d plateV w4 := hD; have t0 := block_cell ((hb4.block _ (lt_of_block tree.out)).trans tree.out) 0; have t1 := block_cell ((hb4.block _ (lt_of_block tree.out)).trans tree.out) 1; have hf4 := hid (kformat_any (t := ⟨x, l⟩) hD hb4.size plate_ok.1 (Nat.zero_le _) rfl rfl _ plate_ok.2 (.slice (some ⟨z, o, none⟩) l.length c) (row.out.below hb4) (fun j hj => by cases hj; exact .inr hz) hLy.out hOk.out); rw [hwhich_zeros] at hf4; replace hD := hid hD; replace hb4 := hid hb4))
      refine hf4.out.mono ?_
      rintro e w5 (⟨kb0, s1, z1, rfl, hL1, -, hD5, hK5, hF5⟩ | ⟨kb0, s1, rfl, hC1, _⟩)
      case inr => have := hC1.was; cases this
      have hb35 := hb4.out.trans hF5.below
      have hst := hid (fun (X : World) (hb : Below w5.heap.size w5 X) => show (X.cell? ⟨w.heap.size, 0, none⟩ = some (.int .u64 (x : Int)) ∧ X.cell? ⟨w.heap.size, 1, none⟩ = some (.slice (some ⟨z, o, none⟩) l.length c)) ∧ (X.cell? ⟨w.heap.size + 1, 0, none⟩ = some (.int .u64 (y : Int)) ∧ X.cell? ⟨w.heap.size + 1, 1, none⟩ = some (.slice a2 m.length c2)) ∧ Below w.heap.size w X ∧ NodsAt X (.slice (some ⟨z, o, none⟩) l.length c) l ∧ NodsAt X (.slice a2 m.length c2) m from by
        have h1 : Below w3.heap.size w3 X := hb35.trans (hb.mono hb35.size)
        have h2 := (h1.block _ (lt_of_block tree.out)).trans tree.out
        have h3 := (h1.block _ (lt_of_block tre2.out)).trans tre2.out
        exact ⟨⟨block_cell h2 0, block_cell h2 1⟩, ⟨block_cell h3 0, block_cell h3 1⟩, sn hB.out h1, row.out.below h1, row2.out.below h1⟩)
      obtain ⟨Eb, hEb⟩ : ∃ E, E = chkE y m := ⟨_, rfl⟩
      have hchk := hid (fun (X : World) (h : NodsAt X (.slice a2 m.length c2) m) => show Calls Tryz.prog 16 #[.agg #[.int .u64 (y : Int), .slice a2 m.length c2]] X fun e w' => e = .returned (.int .i64 Eb) ∧ Below X.heap.size X w' from by
        rw [hEb]; exact ncheck_is _ y m X h (by omega) hok2.out hmd.out)
      have hsv0 := hid (fun (hne : Eb ≠ 0) (kb : Nat) (X : World) (h : NodsAt X (.slice a2 m.length c2) m) => show Calls Tryz.prog 17 #[.pointer (some ⟨kb, 0, none⟩), .agg #[.int .u64 (y : Int), .slice a2 m.length c2]] X fun e w' => e = .returned (.int .i64 Eb) ∧ Below X.heap.size X w' from by
        rw [hEb]; exact ksave_bad kb y _ m X h (by omega) hok2.out hmd.out (by rw [← hEb]; exact hne))
      have hopn := hid (fun (X : World) (hb : Below w5.heap.size w5 X) => kopen_laid (t := ⟨x, l⟩) (hD5.pure hb) hL1 hL1.off hLy.out hOk.out hE.out)
      replace hK5 := hid hK5
      replace hEb := hid hEb
      clear hD5 hF5 hL1 hf4 hD hb4 t0 t1 q0 q1 hb35 hpl
      obtain ⟨r, hr⟩ : ∃ r, r = n % 4 := ⟨_, rfl⟩
      have kr : ((n : Int)).tmod 4 = (r : Int) := by rw [hr, Int.tmod_eq_emod_of_nonneg (by omega)]; norm_cast
      have kr2 : ((n : Int)) % 4 = (r : Int) := by rw [hr]; norm_cast
      have hr4 : r ≤ 3 := by omega
      replace hr := hid hr
      go_wp2_with fail
      go_loopw [8, 10] (fun k8 i10 wr => ∃ (kb j : Nat) (sc : Bool), j ≤ r ∧ k8 = .pointer (some ⟨kb, 0, none⟩) ∧ i10 = .int .i64 (j : Int) ∧ Hid (KeepAt wr d kb ⟨x, l⟩ sc false) ∧ Hid (Below w5.heap.size w5 wr)) (fun _ i10 _ => r - (intOf i10).toNat)
      case atStart => exact ⟨kb0, 0, (!false), by omega, rfl, rfl, hK5, hid (Below.refl _ _)⟩
      case round =>
        obtain ⟨kb, j, sc, hj, rfl, rfl, hK, hW0w⟩ := hrel
        have hW0 := hid hW0w.out.drew
        obtain ⟨sT0, sB0, bB0, nB0, mB0⟩ := hst.out wr hW0w.out
        obtain ⟨t0, t1⟩ := sT0
        obtain ⟨b0, b1⟩ := sB0
        by_cases hjr : j < r
        · have i1 : (j : Int) < (r : Int) := by omega
          have hC0 := hid (hchk.out wr.drew (mB0.below (Below.refl _ _).drew))
          clear bB0 nB0 mB0
          by_cases hz0 : Eb = 0
          · subst hz0
            go_upto_region 12 with fail
            refine wp_region_held_drew (S := (fun X => X.cell? ⟨w.heap.size + 1, 0, none⟩ = some (.int .u64 (y : Int)) ∧ X.cell? ⟨w.heap.size + 1, 1, none⟩ = some (.slice a2 m.length c2))) (by kernel_rfl) ?_ (fun hHeld0 => ?_)
            · try dsimp only
              (first | exact sK | exact ⟨b0, b1⟩)
            refine wpAnyH_take (i := 0) (oi := _) (v := ?_) (take_list rfl) (by kernel_rfl) (by kernel_rfl) (by kernel_rfl) (fun _ _ _ h => h) (Or.inl ⟨by rfl, ?_⟩) (by assumption) ?_
            rotate_left
            · intro w hSw; (try dsimp only at hSw); go_simp; try (with_reducible rfl)
            try simp only [Act.put, List.setIfInBounds_toArray, List.set_cons_zero, List.set_cons_succ]
            refine wpAnyH_ready (rs := [1]) (by kernel_rfl) (by simp) ?_
            refine AllReadyH.cons (take_list rfl) (fun K hK => ?_) ?_
            go_simp
            (((first
        | (go_at_call 16; (with_reducible refine hC0.out.mono ?_); rintro e x1 ⟨rfl, hbx1⟩; have cx1 := hbx1; obtain ⟨sT, sK, bK, nK, mK⟩ := hst.out x1 (hW0.out.trans (cx1.mono hW0.out.size)); skip; have hcE := hid (hW0.out.trans (cx1.mono hW0.out.size)); replace cx1 := hid cx1; clear sT bK nK mK hbx1))))
            go_wp2_with fail
            refine hK.out _ _ ?_ (fun hHeld1 => ?_)
            · try dsimp only
              (first | exact sK | exact ⟨b0, b1⟩)
            clear hK K hHeld0
            try simp only [Act.put, List.setIfInBounds_toArray, List.set_cons_zero, List.set_cons_succ]
            refine wpAnyH_take (i := 2) (oi := _) (v := ?_) (take_list rfl) (by kernel_rfl) (by kernel_rfl) (by kernel_rfl) (fun _ _ _ h => h) (Or.inl ⟨by rfl, ?_⟩) (by assumption) ?_
            rotate_left
            · intro w hSw; (try dsimp only at hSw); go_simp; try (with_reducible rfl)
            try simp only [Act.put, List.setIfInBounds_toArray, List.set_cons_zero, List.set_cons_succ]
            refine wpAnyH_take (i := 3) (oi := _) (v := ?_) (take_list rfl) (by kernel_rfl) (by kernel_rfl) (by kernel_rfl) (fun _ _ _ h => h) (Or.inl ⟨by rfl, ?_⟩) (by assumption) ?_
            rotate_left
            · intro w hSw; (try dsimp only at hSw); go_simp; try (with_reducible rfl)
            try simp only [Act.put, List.setIfInBounds_toArray, List.set_cons_zero, List.set_cons_succ]
            refine wpAnyH_take (i := 4) (oi := _) (v := undef) (take_list rfl) (by kernel_rfl) (by kernel_rfl) (by kernel_rfl) (fun _ _ _ h => h) (Or.inr ⟨by rfl, rfl⟩) (by assumption) ?_
            try simp only [Act.put, List.setIfInBounds_toArray, List.set_cons_zero, List.set_cons_succ]
            refine wpAnyH_take (i := 5) (oi := _) (v := undef) (take_list rfl) (by kernel_rfl) (by kernel_rfl) (by kernel_rfl) (fun _ _ _ h => h) (Or.inr ⟨by rfl, rfl⟩) (by assumption) ?_
            try simp only [Act.put, List.setIfInBounds_toArray, List.set_cons_zero, List.set_cons_succ]
            refine wpAnyH_take (i := 6) (oi := _) (v := undef) (take_list rfl) (by kernel_rfl) (by kernel_rfl) (by kernel_rfl) (fun _ _ _ h => h) (Or.inr ⟨by rfl, rfl⟩) (by assumption) ?_
            try simp only [Act.put, List.setIfInBounds_toArray, List.set_cons_zero, List.set_cons_succ]
            refine wpAnyH_take (i := 7) (oi := _) (v := undef) (take_list rfl) (by kernel_rfl) (by kernel_rfl) (by kernel_rfl) (fun _ _ _ h => h) (Or.inr ⟨by rfl, rfl⟩) (by assumption) ?_
            try simp only [Act.put, List.setIfInBounds_toArray, List.set_cons_zero, List.set_cons_succ]
            refine wpAnyH_take (i := 8) (oi := _) (v := undef) (take_list rfl) (by kernel_rfl) (by kernel_rfl) (by kernel_rfl) (fun _ _ _ h => h) (Or.inr ⟨by rfl, rfl⟩) (by assumption) ?_
            try simp only [Act.put, List.setIfInBounds_toArray, List.set_cons_zero, List.set_cons_succ]
            refine wpAnyH_take (i := 9) (oi := _) (v := undef) (take_list rfl) (by kernel_rfl) (by kernel_rfl) (by kernel_rfl) (fun _ _ _ h => h) (Or.inr ⟨by rfl, rfl⟩) (by assumption) ?_
            try simp only [Act.put, List.setIfInBounds_toArray, List.set_cons_zero, List.set_cons_succ]
            refine wpAnyH_take (i := 10) (oi := _) (v := ?_) (take_list rfl) (by kernel_rfl) (by kernel_rfl) (by kernel_rfl) (fun _ _ _ h => h) (Or.inl ⟨by rfl, ?_⟩) (by assumption) ?_
            rotate_left
            · intro w hSw; (try dsimp only at hSw); go_simp; try (with_reducible rfl)
            try simp only [Act.put, List.setIfInBounds_toArray, List.set_cons_zero, List.set_cons_succ]
            refine wpAnyH_done (by kernel_rfl) ?_ _
            rotate_left
            exact AllReadyH.nil
            all_goals
              have hopw := hid (hopn.out _ hcE.out)
              go_upto_region 15 with (go_at_call 11; refine hopw.out.mono ?_; rintro e w9 ⟨hb9, k9, rfl, -, hK9⟩; have hW9 := hid (hcE.out.trans (hb9.mono hcE.out.size)); replace hK9 := hid hK9; clear hb9)
              have hW0 := hid hW9.out.drew
              have hT0 := hid (ktree_at (hK9.out.keep (Below.refl _ _).drew) hLy.out)
              obtain ⟨sT9, _, _, _, _⟩ := hst.out w9 hW9.out
              obtain ⟨u0, u1⟩ := sT9
              refine wp_region_held_drew (S := (fun X => X.cell? ⟨w.heap.size, 0, none⟩ = some (.int .u64 (x : Int)) ∧ X.cell? ⟨w.heap.size, 1, none⟩ = some (.slice (some ⟨z, o, none⟩) l.length c))) (by kernel_rfl) ?_ (fun hHeld0 => ?_)
              · try dsimp only
                (first | exact sT | exact ⟨u0, u1⟩)
              refine wpAnyH_take (i := 0) (oi := _) (v := ?_) (take_list rfl) (by kernel_rfl) (by kernel_rfl) (by kernel_rfl) (fun _ _ _ h => h) (Or.inl ⟨by rfl, ?_⟩) (by assumption) ?_
              rotate_left
              · intro w hSw; (try dsimp only at hSw); go_simp; try (with_reducible rfl)
              try simp only [Act.put, List.setIfInBounds_toArray, List.set_cons_zero, List.set_cons_succ]
              refine wpAnyH_take (i := 1) (oi := _) (v := ?_) (take_list rfl) (by kernel_rfl) (by kernel_rfl) (by kernel_rfl) (fun _ _ _ h => h) (Or.inl ⟨by rfl, ?_⟩) (by assumption) ?_
              rotate_left
              · intro w hSw; (try dsimp only at hSw); go_simp; try (with_reducible rfl)
              try simp only [Act.put, List.setIfInBounds_toArray, List.set_cons_zero, List.set_cons_succ]
              refine wpAnyH_take (i := 2) (oi := _) (v := ?_) (take_list rfl) (by kernel_rfl) (by kernel_rfl) (by kernel_rfl) (fun _ _ _ h => h) (Or.inl ⟨by rfl, ?_⟩) (by assumption) ?_
              rotate_left
              · intro w hSw; (try dsimp only at hSw); go_simp; try (with_reducible rfl)
              try simp only [Act.put, List.setIfInBounds_toArray, List.set_cons_zero, List.set_cons_succ]
              refine wpAnyH_take (i := 3) (oi := _) (v := ?_) (take_list rfl) (by kernel_rfl) (by kernel_rfl) (by kernel_rfl) (fun _ _ _ h => h) (Or.inl ⟨by rfl, ?_⟩) (by assumption) ?_
              rotate_left
              · intro w hSw; (try dsimp only at hSw); go_simp; try (with_reducible rfl)
              try simp only [Act.put, List.setIfInBounds_toArray, List.set_cons_zero, List.set_cons_succ]
              refine wpAnyH_take (i := 4) (oi := _) (v := ?_) (take_list rfl) (by kernel_rfl) (by kernel_rfl) (by kernel_rfl) (fun _ _ _ h => h) (Or.inl ⟨by rfl, ?_⟩) (by assumption) ?_
              rotate_left
              · intro w hSw; (try dsimp only at hSw); go_simp; try (with_reducible rfl)
              try simp only [Act.put, List.setIfInBounds_toArray, List.set_cons_zero, List.set_cons_succ]
              refine wpAnyH_take (i := 5) (oi := _) (v := ?_) (take_list rfl) (by kernel_rfl) (by kernel_rfl) (by kernel_rfl) (fun _ _ _ h => h) (Or.inl ⟨by rfl, ?_⟩) (by assumption) ?_
              rotate_left
              · intro w hSw; (try dsimp only at hSw); go_simp; try (with_reducible rfl)
              try simp only [Act.put, List.setIfInBounds_toArray, List.set_cons_zero, List.set_cons_succ]
              refine wpAnyH_take (i := 6) (oi := _) (v := ?_) (take_list rfl) (by kernel_rfl) (by kernel_rfl) (by kernel_rfl) (fun _ _ _ h => h) (Or.inl ⟨by rfl, ?_⟩) (by assumption) ?_
              rotate_left
              · intro w hSw; (try dsimp only at hSw); go_simp; try (with_reducible rfl)
              try simp only [Act.put, List.setIfInBounds_toArray, List.set_cons_zero, List.set_cons_succ]
              refine wpAnyH_take (i := 7) (oi := _) (v := ?_) (take_list rfl) (by kernel_rfl) (by kernel_rfl) (by kernel_rfl) (fun _ _ _ h => h) (Or.inl ⟨by rfl, ?_⟩) (by assumption) ?_
              rotate_left
              · intro w hSw; (try dsimp only at hSw); go_simp; try (with_reducible rfl)
              try simp only [Act.put, List.setIfInBounds_toArray, List.set_cons_zero, List.set_cons_succ]
              refine wpAnyH_take (i := 9) (oi := _) (v := ?_) (take_list rfl) (by kernel_rfl) (by kernel_rfl) (by kernel_rfl) (fun _ _ _ h => h) (Or.inl ⟨by rfl, ?_⟩) (by assumption) ?_
              rotate_left
              · intro w hSw; (try dsimp only at hSw); go_simp; try (with_reducible rfl)
              try simp only [Act.put, List.setIfInBounds_toArray, List.set_cons_zero, List.set_cons_succ]
              refine wpAnyH_ready (rs := [8]) (by kernel_rfl) (by simp) ?_
              refine AllReadyH.cons (take_list rfl) (fun K hK => ?_) ?_
              go_simp
              (((first
                    | (go_at_call 12; (with_reducible refine hT0.out.mono ?_); rintro e z1 ⟨v1, rfl, hn1, -, hb1⟩; obtain ⟨sT, sK, bK, nK, mK⟩ := hst.out z1 (hW0.out.trans (hb1.mono hW0.out.size)); have hch := hid hb1; have hsm := hid (nsame_any v1 _ x x l l z1 hn1 nK h1000 h1000); have hz1 := hid (hW0.out.trans (hb1.mono hW0.out.size)); clear hn1 sK bK nK mK hb1)
                    | (go_at_call 18; (with_reducible refine hsm.out.mono ?_); rintro e z2 ⟨rfl, hb2⟩; rw [eqL_iff.2 rfl]; have hch2 := hid (hch.out.trans (hb2.mono hch.out.size)); have hz2' := hz1.out.trans (hb2.mono hz1.out.size); obtain ⟨sT, sK, bK, nK, mK⟩ := hst.out z2 hz2'; have hz2 := hid hz2'; replace bK := hid bK; clear sK nK mK hb2 hz2'))))
              go_wp2_with fail
              refine hK.out _ _ ?_ (fun hHeld1 => ?_)
              · try dsimp only
                (first | exact sT | exact ⟨u0, u1⟩)
              clear hK K hHeld0
              try simp only [Act.put, List.setIfInBounds_toArray, List.set_cons_zero, List.set_cons_succ]
              refine wpAnyH_ready (rs := [10]) (by kernel_rfl) (by simp) ?_
              refine AllReadyH.cons (take_list rfl) (fun K hK => ?_) ?_
              go_simp
              (((first
                    | (go_at_call 12; (with_reducible refine hT0.out.mono ?_); rintro e z1 ⟨v1, rfl, hn1, -, hb1⟩; obtain ⟨sT, sK, bK, nK, mK⟩ := hst.out z1 (hW0.out.trans (hb1.mono hW0.out.size)); have hch := hid hb1; have hsm := hid (nsame_any v1 _ x x l l z1 hn1 nK h1000 h1000); have hz1 := hid (hW0.out.trans (hb1.mono hW0.out.size)); clear hn1 sK bK nK mK hb1)
                    | (go_at_call 18; (with_reducible refine hsm.out.mono ?_); rintro e z2 ⟨rfl, hb2⟩; rw [eqL_iff.2 rfl]; have hch2 := hid (hch.out.trans (hb2.mono hch.out.size)); have hz2' := hz1.out.trans (hb2.mono hz1.out.size); obtain ⟨sT, sK, bK, nK, mK⟩ := hst.out z2 hz2'; have hz2 := hid hz2'; replace bK := hid bK; clear sK nK mK hb2 hz2'))))
              go_wp2_with fail
              refine hK.out _ _ ?_ (fun hHeld2 => ?_)
              · try dsimp only
                (first | exact sT | exact ⟨u0, u1⟩)
              clear hK K hHeld1
              try simp only [Act.put, List.setIfInBounds_toArray, List.set_cons_zero, List.set_cons_succ]
              refine wpAnyH_take (i := 11) (oi := _) (v := ?_) (take_list rfl) (by kernel_rfl) (by kernel_rfl) (by kernel_rfl) (fun _ _ _ h => h) (Or.inl ⟨by rfl, ?_⟩) (by assumption) ?_
              rotate_left
              · intro w hSw; (try dsimp only at hSw); go_simp; try (with_reducible rfl)
              try simp only [Act.put, List.setIfInBounds_toArray, List.set_cons_zero, List.set_cons_succ]
              refine wpAnyH_take (i := 12) (oi := _) (v := ?_) (take_list rfl) (by kernel_rfl) (by kernel_rfl) (by kernel_rfl) (fun _ _ _ h => h) (Or.inl ⟨by rfl, ?_⟩) (by assumption) ?_
              rotate_left
              · intro w hSw; (try dsimp only at hSw); go_simp; try (with_reducible rfl)
              try simp only [Act.put, List.setIfInBounds_toArray, List.set_cons_zero, List.set_cons_succ]
              refine wpAnyH_done (by kernel_rfl) ?_ _
              rotate_left
              exact AllReadyH.nil
              exact AllReadyH.nil
              all_goals
                go_wp2_with fail
                go_roundw
                case rel => exact ⟨k9, j + 1, (!false), by omega, rfl, by go_num, hid ((hK9.out.keep (Below.refl _ _).drew).keep hch2.out), hz2⟩
                case measure => simp [intOf]; omega
          · have hsv := hid (hsv0.out hz0)
            have k1 : (Eb != 0) = true := by simpa using hz0
            replace hz0 := hid hz0
            go_upto_region 12 with fail
            refine wp_region_held_drew (S := (fun X => X.cell? ⟨w.heap.size + 1, 0, none⟩ = some (.int .u64 (y : Int)) ∧ X.cell? ⟨w.heap.size + 1, 1, none⟩ = some (.slice a2 m.length c2))) (by kernel_rfl) ?_ (fun hHeld0 => ?_)
            · try dsimp only
              (first | exact sK | exact ⟨b0, b1⟩)
            refine wpAnyH_take (i := 0) (oi := _) (v := ?_) (take_list rfl) (by kernel_rfl) (by kernel_rfl) (by kernel_rfl) (fun _ _ _ h => h) (Or.inl ⟨by rfl, ?_⟩) (by assumption) ?_
            rotate_left
            · intro w hSw; (try dsimp only at hSw); go_simp; try (with_reducible rfl)
            try simp only [Act.put, List.setIfInBounds_toArray, List.set_cons_zero, List.set_cons_succ]
            refine wpAnyH_ready (rs := [1]) (by kernel_rfl) (by simp) ?_
            refine AllReadyH.cons (take_list rfl) (fun K hK => ?_) ?_
            go_simp
            (((first
        | (go_at_call 16; (with_reducible refine hC0.out.mono ?_); rintro e x1 ⟨rfl, hbx1⟩; have cx1 := hbx1; obtain ⟨sT, sK, bK, nK, mK⟩ := hst.out x1 (hW0.out.trans (cx1.mono hW0.out.size)); have hC1 := hid (hchk.out x1 mK); have hS1 := hid (hsv.out kb x1 mK); have hcE := hid (hW0.out.trans (cx1.mono hW0.out.size)); replace cx1 := hid cx1; clear sT bK nK mK hbx1)
        | (go_at_call 17; (with_reducible refine hS1.out.mono ?_); rintro e x2 ⟨rfl, hbx2⟩; have cx2 := cx1.out.trans (hbx2.mono cx1.out.size); obtain ⟨sT, sK, bK, nK, mK⟩ := hst.out x2 (hW0.out.trans (cx2.mono hW0.out.size)); have hC2 := hid (hchk.out x2 mK); have hcE := hid (hW0.out.trans (cx2.mono hW0.out.size)); replace cx2 := hid cx2; clear sT bK nK mK hbx2)
        | (go_at_call 16; (with_reducible refine hC2.out.mono ?_); rintro e x3 ⟨rfl, hbx3⟩; have cx3 := cx2.out.trans (hbx3.mono cx2.out.size); obtain ⟨sT, sK, bK, nK, mK⟩ := hst.out x3 (hW0.out.trans (cx3.mono hW0.out.size)); skip; have hcE := hid (hW0.out.trans (cx3.mono hW0.out.size)); replace cx3 := hid cx3; clear sT bK nK mK hbx3)
        | (go_at_call 16; (with_reducible refine hC1.out.mono ?_); rintro e y2 ⟨rfl, hby2⟩; have cy2 := cx1.out.trans (hby2.mono cx1.out.size); obtain ⟨sT, sK, bK, nK, mK⟩ := hst.out y2 (hW0.out.trans (cy2.mono hW0.out.size)); have hS2 := hid (hsv.out kb y2 mK); have hcE := hid (hW0.out.trans (cy2.mono hW0.out.size)); replace cy2 := hid cy2; clear sT bK nK mK hby2)
        | (go_at_call 17; (with_reducible refine hS2.out.mono ?_); rintro e y3 ⟨rfl, hby3⟩; have cy3 := cy2.out.trans (hby3.mono cy2.out.size); obtain ⟨sT, sK, bK, nK, mK⟩ := hst.out y3 (hW0.out.trans (cy3.mono hW0.out.size)); skip; have hcE := hid (hW0.out.trans (cy3.mono hW0.out.size)); replace cy3 := hid cy3; clear sT bK nK mK hby3))))
            go_wp2_with fail
            refine hK.out _ _ ?_ (fun hHeld1 => ?_)
            · try dsimp only
              (first | exact sK | exact ⟨b0, b1⟩)
            clear hK K hHeld0
            try simp only [Act.put, List.setIfInBounds_toArray, List.set_cons_zero, List.set_cons_succ]
            refine wpAnyH_take (i := 2) (oi := _) (v := ?_) (take_list rfl) (by kernel_rfl) (by kernel_rfl) (by kernel_rfl) (fun _ _ _ h => h) (Or.inl ⟨by rfl, ?_⟩) (by assumption) ?_
            rotate_left
            · intro w hSw; (try dsimp only at hSw); go_simp; try (with_reducible rfl)
            try simp only [Act.put, List.setIfInBounds_toArray, List.set_cons_zero, List.set_cons_succ]
            refine wpAnyH_take (i := 3) (oi := _) (v := ?_) (take_list rfl) (by kernel_rfl) (by kernel_rfl) (by kernel_rfl) (fun _ _ _ h => h) (Or.inl ⟨by rfl, ?_⟩) (by assumption) ?_
            rotate_left
            · intro w hSw; (try dsimp only at hSw); go_simp; try (with_reducible rfl)
            try simp only [Act.put, List.setIfInBounds_toArray, List.set_cons_zero, List.set_cons_succ]
            refine wpAnyH_take (i := 4) (oi := _) (v := ?_) (take_list rfl) (by kernel_rfl) (by kernel_rfl) (by kernel_rfl) (fun _ _ _ h => h) (Or.inl ⟨by rfl, ?_⟩) (by assumption) ?_
            rotate_left
            · intro w hSw; (try dsimp only at hSw); go_simp; try (with_reducible rfl)
            try simp only [Act.put, List.setIfInBounds_toArray, List.set_cons_zero, List.set_cons_succ]
            refine wpAnyH_take (i := 5) (oi := _) (v := ?_) (take_list rfl) (by kernel_rfl) (by kernel_rfl) (by kernel_rfl) (fun _ _ _ h => h) (Or.inl ⟨by rfl, ?_⟩) (by assumption) ?_
            rotate_left
            · intro w hSw; (try dsimp only at hSw); go_simp; try (with_reducible rfl)
            try simp only [Act.put, List.setIfInBounds_toArray, List.set_cons_zero, List.set_cons_succ]
            refine wpAnyH_take (i := 7) (oi := _) (v := ?_) (take_list rfl) (by kernel_rfl) (by kernel_rfl) (by kernel_rfl) (fun _ _ _ h => h) (Or.inl ⟨by rfl, ?_⟩) (by assumption) ?_
            rotate_left
            · intro w hSw; (try dsimp only at hSw); go_simp; try (with_reducible rfl)
            try simp only [Act.put, List.setIfInBounds_toArray, List.set_cons_zero, List.set_cons_succ]
            refine wpAnyH_ready (rs := [6]) (by kernel_rfl) (by simp) ?_
            refine AllReadyH.cons (take_list rfl) (fun K hK => ?_) ?_
            go_simp
            (((first
        | (go_at_call 16; (with_reducible refine hC0.out.mono ?_); rintro e x1 ⟨rfl, hbx1⟩; have cx1 := hbx1; obtain ⟨sT, sK, bK, nK, mK⟩ := hst.out x1 (hW0.out.trans (cx1.mono hW0.out.size)); have hC1 := hid (hchk.out x1 mK); have hS1 := hid (hsv.out kb x1 mK); have hcE := hid (hW0.out.trans (cx1.mono hW0.out.size)); replace cx1 := hid cx1; clear sT bK nK mK hbx1)
        | (go_at_call 17; (with_reducible refine hS1.out.mono ?_); rintro e x2 ⟨rfl, hbx2⟩; have cx2 := cx1.out.trans (hbx2.mono cx1.out.size); obtain ⟨sT, sK, bK, nK, mK⟩ := hst.out x2 (hW0.out.trans (cx2.mono hW0.out.size)); have hC2 := hid (hchk.out x2 mK); have hcE := hid (hW0.out.trans (cx2.mono hW0.out.size)); replace cx2 := hid cx2; clear sT bK nK mK hbx2)
        | (go_at_call 16; (with_reducible refine hC2.out.mono ?_); rintro e x3 ⟨rfl, hbx3⟩; have cx3 := cx2.out.trans (hbx3.mono cx2.out.size); obtain ⟨sT, sK, bK, nK, mK⟩ := hst.out x3 (hW0.out.trans (cx3.mono hW0.out.size)); skip; have hcE := hid (hW0.out.trans (cx3.mono hW0.out.size)); replace cx3 := hid cx3; clear sT bK nK mK hbx3)
        | (go_at_call 16; (with_reducible refine hC1.out.mono ?_); rintro e y2 ⟨rfl, hby2⟩; have cy2 := cx1.out.trans (hby2.mono cx1.out.size); obtain ⟨sT, sK, bK, nK, mK⟩ := hst.out y2 (hW0.out.trans (cy2.mono hW0.out.size)); have hS2 := hid (hsv.out kb y2 mK); have hcE := hid (hW0.out.trans (cy2.mono hW0.out.size)); replace cy2 := hid cy2; clear sT bK nK mK hby2)
        | (go_at_call 17; (with_reducible refine hS2.out.mono ?_); rintro e y3 ⟨rfl, hby3⟩; have cy3 := cy2.out.trans (hby3.mono cy2.out.size); obtain ⟨sT, sK, bK, nK, mK⟩ := hst.out y3 (hW0.out.trans (cy3.mono hW0.out.size)); skip; have hcE := hid (hW0.out.trans (cy3.mono hW0.out.size)); replace cy3 := hid cy3; clear sT bK nK mK hby3))))
            go_wp2_with fail
            refine hK.out _ _ ?_ (fun hHeld2 => ?_)
            · try dsimp only
              (first | exact sK | exact ⟨b0, b1⟩)
            clear hK K hHeld1
            try simp only [Act.put, List.setIfInBounds_toArray, List.set_cons_zero, List.set_cons_succ]
            refine wpAnyH_ready (rs := [8]) (by kernel_rfl) (by simp) ?_
            refine AllReadyH.cons (take_list rfl) (fun K hK => ?_) ?_
            go_simp
            (((first
        | (go_at_call 16; (with_reducible refine hC0.out.mono ?_); rintro e x1 ⟨rfl, hbx1⟩; have cx1 := hbx1; obtain ⟨sT, sK, bK, nK, mK⟩ := hst.out x1 (hW0.out.trans (cx1.mono hW0.out.size)); have hC1 := hid (hchk.out x1 mK); have hS1 := hid (hsv.out kb x1 mK); have hcE := hid (hW0.out.trans (cx1.mono hW0.out.size)); replace cx1 := hid cx1; clear sT bK nK mK hbx1)
        | (go_at_call 17; (with_reducible refine hS1.out.mono ?_); rintro e x2 ⟨rfl, hbx2⟩; have cx2 := cx1.out.trans (hbx2.mono cx1.out.size); obtain ⟨sT, sK, bK, nK, mK⟩ := hst.out x2 (hW0.out.trans (cx2.mono hW0.out.size)); have hC2 := hid (hchk.out x2 mK); have hcE := hid (hW0.out.trans (cx2.mono hW0.out.size)); replace cx2 := hid cx2; clear sT bK nK mK hbx2)
        | (go_at_call 16; (with_reducible refine hC2.out.mono ?_); rintro e x3 ⟨rfl, hbx3⟩; have cx3 := cx2.out.trans (hbx3.mono cx2.out.size); obtain ⟨sT, sK, bK, nK, mK⟩ := hst.out x3 (hW0.out.trans (cx3.mono hW0.out.size)); skip; have hcE := hid (hW0.out.trans (cx3.mono hW0.out.size)); replace cx3 := hid cx3; clear sT bK nK mK hbx3)
        | (go_at_call 16; (with_reducible refine hC1.out.mono ?_); rintro e y2 ⟨rfl, hby2⟩; have cy2 := cx1.out.trans (hby2.mono cx1.out.size); obtain ⟨sT, sK, bK, nK, mK⟩ := hst.out y2 (hW0.out.trans (cy2.mono hW0.out.size)); have hS2 := hid (hsv.out kb y2 mK); have hcE := hid (hW0.out.trans (cy2.mono hW0.out.size)); replace cy2 := hid cy2; clear sT bK nK mK hby2)
        | (go_at_call 17; (with_reducible refine hS2.out.mono ?_); rintro e y3 ⟨rfl, hby3⟩; have cy3 := cy2.out.trans (hby3.mono cy2.out.size); obtain ⟨sT, sK, bK, nK, mK⟩ := hst.out y3 (hW0.out.trans (cy3.mono hW0.out.size)); skip; have hcE := hid (hW0.out.trans (cy3.mono hW0.out.size)); replace cy3 := hid cy3; clear sT bK nK mK hby3))))
            go_wp2_with fail
            refine hK.out _ _ ?_ (fun hHeld3 => ?_)
            · try dsimp only
              (first | exact sK | exact ⟨b0, b1⟩)
            clear hK K hHeld2
            try simp only [Act.put, List.setIfInBounds_toArray, List.set_cons_zero, List.set_cons_succ]
            refine wpAnyH_take (i := 9) (oi := _) (v := ?_) (take_list rfl) (by kernel_rfl) (by kernel_rfl) (by kernel_rfl) (fun _ _ _ h => h) (Or.inl ⟨by rfl, ?_⟩) (by assumption) ?_
            rotate_left
            · intro w hSw; (try dsimp only at hSw); go_simp; try (with_reducible rfl)
            try simp only [Act.put, List.setIfInBounds_toArray, List.set_cons_zero, List.set_cons_succ]
            refine wpAnyH_take (i := 10) (oi := _) (v := ?_) (take_list rfl) (by kernel_rfl) (by kernel_rfl) (by kernel_rfl) (fun _ _ _ h => h) (Or.inl ⟨by rfl, ?_⟩) (by assumption) ?_
            rotate_left
            · intro w hSw; (try dsimp only at hSw); go_simp; try (with_reducible rfl)
            try simp only [Act.put, List.setIfInBounds_toArray, List.set_cons_zero, List.set_cons_succ]
            refine wpAnyH_done (by kernel_rfl) ?_ _
            rotate_left
            exact AllReadyH.nil
            exact AllReadyH.nil
            exact AllReadyH.nil
            all_goals
              have hopw := hid (hopn.out _ hcE.out)
              go_upto_region 15 with (go_at_call 11; refine hopw.out.mono ?_; rintro e w9 ⟨hb9, k9, rfl, -, hK9⟩; have hW9 := hid (hcE.out.trans (hb9.mono hcE.out.size)); replace hK9 := hid hK9; clear hb9)
              have hW0 := hid hW9.out.drew
              have hT0 := hid (ktree_at (hK9.out.keep (Below.refl _ _).drew) hLy.out)
              obtain ⟨sT9, _, _, _, _⟩ := hst.out w9 hW9.out
              obtain ⟨u0, u1⟩ := sT9
              refine wp_region_held_drew (S := (fun X => X.cell? ⟨w.heap.size, 0, none⟩ = some (.int .u64 (x : Int)) ∧ X.cell? ⟨w.heap.size, 1, none⟩ = some (.slice (some ⟨z, o, none⟩) l.length c))) (by kernel_rfl) ?_ (fun hHeld0 => ?_)
              · try dsimp only
                (first | exact sT | exact ⟨u0, u1⟩)
              refine wpAnyH_take (i := 0) (oi := _) (v := ?_) (take_list rfl) (by kernel_rfl) (by kernel_rfl) (by kernel_rfl) (fun _ _ _ h => h) (Or.inl ⟨by rfl, ?_⟩) (by assumption) ?_
              rotate_left
              · intro w hSw; (try dsimp only at hSw); go_simp; try (with_reducible rfl)
              try simp only [Act.put, List.setIfInBounds_toArray, List.set_cons_zero, List.set_cons_succ]
              refine wpAnyH_take (i := 1) (oi := _) (v := ?_) (take_list rfl) (by kernel_rfl) (by kernel_rfl) (by kernel_rfl) (fun _ _ _ h => h) (Or.inl ⟨by rfl, ?_⟩) (by assumption) ?_
              rotate_left
              · intro w hSw; (try dsimp only at hSw); go_simp; try (with_reducible rfl)
              try simp only [Act.put, List.setIfInBounds_toArray, List.set_cons_zero, List.set_cons_succ]
              refine wpAnyH_take (i := 2) (oi := _) (v := ?_) (take_list rfl) (by kernel_rfl) (by kernel_rfl) (by kernel_rfl) (fun _ _ _ h => h) (Or.inl ⟨by rfl, ?_⟩) (by assumption) ?_
              rotate_left
              · intro w hSw; (try dsimp only at hSw); go_simp; try (with_reducible rfl)
              try simp only [Act.put, List.setIfInBounds_toArray, List.set_cons_zero, List.set_cons_succ]
              refine wpAnyH_take (i := 3) (oi := _) (v := ?_) (take_list rfl) (by kernel_rfl) (by kernel_rfl) (by kernel_rfl) (fun _ _ _ h => h) (Or.inl ⟨by rfl, ?_⟩) (by assumption) ?_
              rotate_left
              · intro w hSw; (try dsimp only at hSw); go_simp; try (with_reducible rfl)
              try simp only [Act.put, List.setIfInBounds_toArray, List.set_cons_zero, List.set_cons_succ]
              refine wpAnyH_take (i := 4) (oi := _) (v := ?_) (take_list rfl) (by kernel_rfl) (by kernel_rfl) (by kernel_rfl) (fun _ _ _ h => h) (Or.inl ⟨by rfl, ?_⟩) (by assumption) ?_
              rotate_left
              · intro w hSw; (try dsimp only at hSw); go_simp; try (with_reducible rfl)
              try simp only [Act.put, List.setIfInBounds_toArray, List.set_cons_zero, List.set_cons_succ]
              refine wpAnyH_take (i := 5) (oi := _) (v := ?_) (take_list rfl) (by kernel_rfl) (by kernel_rfl) (by kernel_rfl) (fun _ _ _ h => h) (Or.inl ⟨by rfl, ?_⟩) (by assumption) ?_
              rotate_left
              · intro w hSw; (try dsimp only at hSw); go_simp; try (with_reducible rfl)
              try simp only [Act.put, List.setIfInBounds_toArray, List.set_cons_zero, List.set_cons_succ]
              refine wpAnyH_take (i := 6) (oi := _) (v := ?_) (take_list rfl) (by kernel_rfl) (by kernel_rfl) (by kernel_rfl) (fun _ _ _ h => h) (Or.inl ⟨by rfl, ?_⟩) (by assumption) ?_
              rotate_left
              · intro w hSw; (try dsimp only at hSw); go_simp; try (with_reducible rfl)
              try simp only [Act.put, List.setIfInBounds_toArray, List.set_cons_zero, List.set_cons_succ]
              refine wpAnyH_take (i := 7) (oi := _) (v := ?_) (take_list rfl) (by kernel_rfl) (by kernel_rfl) (by kernel_rfl) (fun _ _ _ h => h) (Or.inl ⟨by rfl, ?_⟩) (by assumption) ?_
              rotate_left
              · intro w hSw; (try dsimp only at hSw); go_simp; try (with_reducible rfl)
              try simp only [Act.put, List.setIfInBounds_toArray, List.set_cons_zero, List.set_cons_succ]
              refine wpAnyH_take (i := 9) (oi := _) (v := ?_) (take_list rfl) (by kernel_rfl) (by kernel_rfl) (by kernel_rfl) (fun _ _ _ h => h) (Or.inl ⟨by rfl, ?_⟩) (by assumption) ?_
              rotate_left
              · intro w hSw; (try dsimp only at hSw); go_simp; try (with_reducible rfl)
              try simp only [Act.put, List.setIfInBounds_toArray, List.set_cons_zero, List.set_cons_succ]
              refine wpAnyH_ready (rs := [8]) (by kernel_rfl) (by simp) ?_
              refine AllReadyH.cons (take_list rfl) (fun K hK => ?_) ?_
              go_simp
              (((first
                    | (go_at_call 12; (with_reducible refine hT0.out.mono ?_); rintro e z1 ⟨v1, rfl, hn1, -, hb1⟩; obtain ⟨sT, sK, bK, nK, mK⟩ := hst.out z1 (hW0.out.trans (hb1.mono hW0.out.size)); have hch := hid hb1; have hsm := hid (nsame_any v1 _ x x l l z1 hn1 nK h1000 h1000); have hz1 := hid (hW0.out.trans (hb1.mono hW0.out.size)); clear hn1 sK bK nK mK hb1)
                    | (go_at_call 18; (with_reducible refine hsm.out.mono ?_); rintro e z2 ⟨rfl, hb2⟩; rw [eqL_iff.2 rfl]; have hch2 := hid (hch.out.trans (hb2.mono hch.out.size)); have hz2' := hz1.out.trans (hb2.mono hz1.out.size); obtain ⟨sT, sK, bK, nK, mK⟩ := hst.out z2 hz2'; have hz2 := hid hz2'; replace bK := hid bK; clear sK nK mK hb2 hz2'))))
              go_wp2_with fail
              refine hK.out _ _ ?_ (fun hHeld1 => ?_)
              · try dsimp only
                (first | exact sT | exact ⟨u0, u1⟩)
              clear hK K hHeld0
              try simp only [Act.put, List.setIfInBounds_toArray, List.set_cons_zero, List.set_cons_succ]
              refine wpAnyH_ready (rs := [10]) (by kernel_rfl) (by simp) ?_
              refine AllReadyH.cons (take_list rfl) (fun K hK => ?_) ?_
              go_simp
              (((first
                    | (go_at_call 12; (with_reducible refine hT0.out.mono ?_); rintro e z1 ⟨v1, rfl, hn1, -, hb1⟩; obtain ⟨sT, sK, bK, nK, mK⟩ := hst.out z1 (hW0.out.trans (hb1.mono hW0.out.size)); have hch := hid hb1; have hsm := hid (nsame_any v1 _ x x l l z1 hn1 nK h1000 h1000); have hz1 := hid (hW0.out.trans (hb1.mono hW0.out.size)); clear hn1 sK bK nK mK hb1)
                    | (go_at_call 18; (with_reducible refine hsm.out.mono ?_); rintro e z2 ⟨rfl, hb2⟩; rw [eqL_iff.2 rfl]; have hch2 := hid (hch.out.trans (hb2.mono hch.out.size)); have hz2' := hz1.out.trans (hb2.mono hz1.out.size); obtain ⟨sT, sK, bK, nK, mK⟩ := hst.out z2 hz2'; have hz2 := hid hz2'; replace bK := hid bK; clear sK nK mK hb2 hz2'))))
              go_wp2_with fail
              refine hK.out _ _ ?_ (fun hHeld2 => ?_)
              · try dsimp only
                (first | exact sT | exact ⟨u0, u1⟩)
              clear hK K hHeld1
              try simp only [Act.put, List.setIfInBounds_toArray, List.set_cons_zero, List.set_cons_succ]
              refine wpAnyH_take (i := 11) (oi := _) (v := ?_) (take_list rfl) (by kernel_rfl) (by kernel_rfl) (by kernel_rfl) (fun _ _ _ h => h) (Or.inl ⟨by rfl, ?_⟩) (by assumption) ?_
              rotate_left
              · intro w hSw; (try dsimp only at hSw); go_simp; try (with_reducible rfl)
              try simp only [Act.put, List.setIfInBounds_toArray, List.set_cons_zero, List.set_cons_succ]
              refine wpAnyH_take (i := 12) (oi := _) (v := ?_) (take_list rfl) (by kernel_rfl) (by kernel_rfl) (by kernel_rfl) (fun _ _ _ h => h) (Or.inl ⟨by rfl, ?_⟩) (by assumption) ?_
              rotate_left
              · intro w hSw; (try dsimp only at hSw); go_simp; try (with_reducible rfl)
              try simp only [Act.put, List.setIfInBounds_toArray, List.set_cons_zero, List.set_cons_succ]
              refine wpAnyH_done (by kernel_rfl) ?_ _
              rotate_left
              exact AllReadyH.nil
              exact AllReadyH.nil
              all_goals
                go_wp2_with fail
                go_roundw
                case rel => exact ⟨k9, j + 1, (!false), by omega, rfl, by go_num, hid ((hK9.out.keep (Below.refl _ _).drew).keep hch2.out), hz2⟩
                case measure => simp [intOf]; omega
        · obtain rfl : j = r := by omega
          clear nB0 mB0
          have hT0 := hid (ktree_at (hK.out.keep (Below.refl _ _).drew) hLy.out)
          go_upto_region 18 with fail
          refine wp_region_held_drew (S := (fun X => X.cell? ⟨w.heap.size, 0, none⟩ = some (.int .u64 (x : Int)) ∧ X.cell? ⟨w.heap.size, 1, none⟩ = some (.slice (some ⟨z, o, none⟩) l.length c))) (by kernel_rfl) ?_ (fun hHeld0 => ?_)
          · try dsimp only
            (first | exact sT | exact ⟨t0, t1⟩)
          refine wpAnyH_take (i := 0) (oi := _) (v := ?_) (take_list rfl) (by kernel_rfl) (by kernel_rfl) (by kernel_rfl) (fun _ _ _ h => h) (Or.inl ⟨by rfl, ?_⟩) (by assumption) ?_
          rotate_left
          · intro w hSw; (try dsimp only at hSw); go_simp; try (with_reducible rfl)
          try simp only [Act.put, List.setIfInBounds_toArray, List.set_cons_zero, List.set_cons_succ]
          refine wpAnyH_take (i := 2) (oi := _) (v := ?_) (take_list rfl) (by kernel_rfl) (by kernel_rfl) (by kernel_rfl) (fun _ _ _ h => h) (Or.inl ⟨by rfl, ?_⟩) (by assumption) ?_
          rotate_left
          · intro w hSw; (try dsimp only at hSw); go_simp; try (with_reducible rfl)
          try simp only [Act.put, List.setIfInBounds_toArray, List.set_cons_zero, List.set_cons_succ]
          refine wpAnyH_ready (rs := [1]) (by kernel_rfl) (by simp) ?_
          refine AllReadyH.cons (take_list rfl) (fun K hK => ?_) ?_
          go_simp
          (((first
        | (go_at_call 12; (with_reducible refine hT0.out.mono ?_); rintro e z1 ⟨v1, rfl, hn1, -, hb1⟩; obtain ⟨sT, sK, bK, nK, mK⟩ := hst.out z1 (hW0.out.trans (hb1.mono hW0.out.size)); have hch := hid hb1; have hsm := hid (nsame_any v1 _ x x l l z1 hn1 nK h1000 h1000); have hz1 := hid (hW0.out.trans (hb1.mono hW0.out.size)); clear hn1 sK bK nK mK hb1)
        | (go_at_call 18; (with_reducible refine hsm.out.mono ?_); rintro e z2 ⟨rfl, hb2⟩; rw [eqL_iff.2 rfl]; have hch2 := hid (hch.out.trans (hb2.mono hch.out.size)); have hz2' := hz1.out.trans (hb2.mono hz1.out.size); obtain ⟨sT, sK, bK, nK, mK⟩ := hst.out z2 hz2'; have hz2 := hid hz2'; replace bK := hid bK; clear sK nK mK hb2 hz2'))))
          go_wp2_with fail
          refine hK.out _ _ ?_ (fun hHeld1 => ?_)
          · try dsimp only
            (first | exact sT | exact ⟨t0, t1⟩)
          clear hK K hHeld0
          try simp only [Act.put, List.setIfInBounds_toArray, List.set_cons_zero, List.set_cons_succ]
          refine wpAnyH_ready (rs := [3]) (by kernel_rfl) (by simp) ?_
          refine AllReadyH.cons (take_list rfl) (fun K hK => ?_) ?_
          go_simp
          (((first
        | (go_at_call 12; (with_reducible refine hT0.out.mono ?_); rintro e z1 ⟨v1, rfl, hn1, -, hb1⟩; obtain ⟨sT, sK, bK, nK, mK⟩ := hst.out z1 (hW0.out.trans (hb1.mono hW0.out.size)); have hch := hid hb1; have hsm := hid (nsame_any v1 _ x x l l z1 hn1 nK h1000 h1000); have hz1 := hid (hW0.out.trans (hb1.mono hW0.out.size)); clear hn1 sK bK nK mK hb1)
        | (go_at_call 18; (with_reducible refine hsm.out.mono ?_); rintro e z2 ⟨rfl, hb2⟩; rw [eqL_iff.2 rfl]; have hch2 := hid (hch.out.trans (hb2.mono hch.out.size)); have hz2' := hz1.out.trans (hb2.mono hz1.out.size); obtain ⟨sT, sK, bK, nK, mK⟩ := hst.out z2 hz2'; have hz2 := hid hz2'; replace bK := hid bK; clear sK nK mK hb2 hz2'))))
          go_wp2_with fail
          refine hK.out _ _ ?_ (fun hHeld2 => ?_)
          · try dsimp only
            (first | exact sT | exact ⟨t0, t1⟩)
          clear hK K hHeld1
          try simp only [Act.put, List.setIfInBounds_toArray, List.set_cons_zero, List.set_cons_succ]
          refine wpAnyH_take (i := 4) (oi := _) (v := ?_) (take_list rfl) (by kernel_rfl) (by kernel_rfl) (by kernel_rfl) (fun _ _ _ h => h) (Or.inl ⟨by rfl, ?_⟩) (by assumption) ?_
          rotate_left
          · intro w hSw; (try dsimp only at hSw); go_simp; try (with_reducible rfl)
          try simp only [Act.put, List.setIfInBounds_toArray, List.set_cons_zero, List.set_cons_succ]
          refine wpAnyH_done (by kernel_rfl) ?_ _
          rotate_left
          exact AllReadyH.nil
          exact AllReadyH.nil
          all_goals
            go_wp2_with fail
            go_ret
            exact ⟨by simp, bK.out⟩
end
end Go.Proofs.YtcmajcljafmphaaGreat

namespace Go.Proofs.YtcmajcljafmphaaGreat
section
open Go.ChangeShapes Go.WideShapes Go.ChangeAt Go.RowKit
set_option maxRecDepth 100000
end
end Go.Proofs.YtcmajcljafmphaaGreat
