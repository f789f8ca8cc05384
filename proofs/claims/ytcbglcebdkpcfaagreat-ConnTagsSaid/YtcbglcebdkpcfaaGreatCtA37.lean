/- The law ConnTags. Conditions: none but the machine's.
The law ConnTags at whole numbers as they come in. Conditions: the bytes' bounds.
How what comes in to a law is told to its walk. No condition. -/
import Derived.Test.YtcbglcebdkpcfaaGreatCtA36
import Derived.Test.YtcbglcebdkpcfaaGreatCtA35
import Derived.Deep.RegionHeld3
import Derived.Deep.CutRange
import Derived.BigRegion
import Derived.Test.YtcbglcebdkpcfaaGreatCeA01
import Derived.ProofKit
import Derived.OpenShut
import Derived.ChangeOld
namespace Go.Proofs.YtcbglcebdkpcfaaGreat
section
open Go.RowKit
set_option maxRecDepth 100000
set_option linter.unusedVariables false

theorem range_min (i : Nat) : (List.range (min i 32)).length ≤ 32 := by simp; omega
theorem askF_min {i : Nat} : askF (List.range (min i 32)) i = (if i < 32 then 0 else 14, List.range (min (i + 1) 32)) := by
  by_cases h : i < 32
  · rw [if_pos h, Nat.min_eq_left (by omega), Nat.min_eq_left (by omega)]; exact askF_next h
  · rw [if_neg h, Nat.min_eq_right (by omega), Nat.min_eq_right (by omega)]; exact askF_full (by omega)
theorem OutsAt.step {W W' : World} {v tv tv' : Value} {ls : List (List UInt8)} {B n : Nat} (h : OutsAt W v ls B (offV tv)) (ho : Oth (fun j => (j = n ∨ j = n + 1 ∨ j = n + 2) ∨ tv.ownBlock = some j) W W') (hr : ∀ j, j < W.heap.size → tv.ownBlock ≠ some j → tv'.ownBlock ≠ some j) (hn : n + 2 < B) : OutsAt W' v ls B (offV tv') :=
  h.keep ho.size (fun j h1 h2 h3 => ⟨ho.keep j h2 (by rintro (e | e); omega; exact h3 e), hr j h2 h3⟩) (Nat.le_refl _)
theorem below_step {w W W' : World} {n : Nat} {hv tv : Value} {l : List UInt8} {dead cl : Bool} {xs : List Nat} (h : RoadS W n hv tv l dead xs cl) (hb : Below w.heap.size w W) (ho : Oth (fun j => (j = n ∨ j = n + 1 ∨ j = n + 2) ∨ tv.ownBlock = some j) W W') (hn : w.heap.size ≤ n) : Below w.heap.size w W' :=
  hb.trans (ho.below w.heap.size hb.size (fun j hj => by rcases hj with e | e; omega; have := h.trow j e; omega))
set_option maxHeartbeats 6400000 in
theorem law_ConnTags (more which : Nat) (w : World) (hm : more < 256) (hw : which < 256) : Calls Tryz.prog 3 #[.int .u8 (more : Int), .int .u8 (which : Int)] w (Holds w) := by
  have hk := hid (known24_any w)
  have hc1 := hid (fun W => cnew_any W)
  go_enter Tryz.func3, Tryz.ntmps3
  go_wp2_with fail
  refine hk.out.mono ?_
  rintro e w1 ⟨rfl, hw1⟩
  replace hw1 := hid hw1
  go_wp2_with fail
  refine (hc1.out _).mono ?_
  rintro e w2 ⟨rfl, hw2⟩
  obtain ⟨hr1, hb12⟩ := newRoad_s w1
  rw [← hw2] at hr1 hb12
  replace hw2 := hid hw2
  have hB2 := hid (sn hw1.out hb12)
  obtain ⟨n, hn⟩ : ∃ n, n = w1.heap.size := ⟨_, rfl⟩
  rw [← hn] at hr1
  replace hr1 := hid hr1
  clear hb12 hk hc1
  go_wp2_with (rw [← hn])
  try rw [← hn]
  have hwn := hid (show w.heap.size ≤ n by have := hw1.out.size; omega)
  replace hn := hid hn
  obtain ⟨N, hN⟩ : ∃ N, N = 32 + more % 4 := ⟨_, rfl⟩
  replace hN := hid hN
  go_loopw [6] (fun s6 wr => ∃ (i : Nat) (hv tv : Value), i ≤ N ∧ s6 = .int .i64 (i : Int) ∧ Hid (RoadS wr n hv tv [] false (List.range (min i 32)) false ∧ Below w.heap.size w wr)) (fun s6 _ => N - (intOf s6).toNat)
  case atStart => exact ⟨0, _, _, by omega, rfl, hid ⟨hr1.out, hB2.out⟩⟩
  case round =>
    obtain ⟨i, hv, tv, hi0, rfl, hR⟩ := hrel
    have hNn := hN.out
    have hm4 : more % 4 < 4 := Nat.mod_lt _ (by omega)
    by_cases hiN : i < N
    · have hlt : (i : Int) < 32 + (more : Int) % 4 := by omega
      have hwr : IntKind.u16.wrap (i : Int) = (i : Int) := IntWalk.u16_in _ (by omega)
      have hw1' : IntKind.i64.wrap ((i : Int) + 1) = (i : Int) + 1 := IntWalk.i64_in _ (by omega)
      have hfr := framed_clunk i (by omega) wr
      rw [clunk_cells] at hfr
      replace hfr := hid hfr
      clear hNn
      go_upto_region 8 with fail
      refine hfr.out.mono ?_
      rintro e w3 ⟨v3, rfl, hv3, hb3⟩
      have hfd := hid (feed_clunk (hR.out.1.below hb3) (range_min i) (by omega) hv3)
      clear hfr hv3
      go_upto_region 8 with fail
      refine hfd.out.mono ?_
      rintro e w4 ⟨a7, k7, c7, a8, k8, c8, hv', tv', rfl, hk7, hk8, hO, hR', hrow, ho⟩
      rw [askF_min] at hk7 hk8 hO hR'
      have hB4 := hid ((hR.out.2.trans (hb3.mono hR.out.2.size)).trans (ho.below w.heap.size (sn hR.out.2 hb3).size (fun j hj => by have := hwn.out; rcases hj with e | e; omega; have := hR.out.1.trow j e; omega)))
      by_cases h32 : i < 32
      · rw [if_pos h32] at hk7 hk8 hO
        obtain rfl : k7 = 1 := hk7
        obtain rfl : k8 = 0 := hk8
        have h32i : (i : Int) < 32 := by omega
        have h32d : decide ((i : Int) < 32) = true := decide_eq_true h32i
        have h32e : decide ((32 : Int) ≤ (i : Int)) = false := decide_eq_false (by omega)
        have h32f : ¬ ((32 : Int) ≤ (i : Int)) := by omega
        replace hR' := hid hR'
        clear hO hrow ho hfd
        go_upto_region 8 with fail
        go_cut [72] from 35 to 72 (fun s72 wx => s72 = .bool false ∧ Hid (Below w4.heap.size w4 wx))
        case first =>
          have hdr := hid ((Below.refl w4.heap.size w4).drew)
          have mixed : Tryz.prog.follows Departure.mixedOrders = true := by kernel_rfl
          go_big_region_o
          all_goals
            go_wp2_with fail
            go_meet
            exact ⟨rfl, hdr⟩
        case rest =>
          obtain ⟨rfl, hBx⟩ := hcut
          have hrel := hid (And.intro (hR'.out.below hBx.out) (sn hB4.out hBx.out))
          go_wp2_with fail
          go_roundw
          case rel => exact ⟨i + 1, hv', tv', by omega, by go_num, hrel⟩
          case measure => simp [intOf]; omega
      · rw [if_neg h32] at hk7 hk8 hO
        obtain rfl : k7 = 0 := hk7
        obtain rfl : k8 = 1 := hk8
        have h32i : ¬ ((i : Int) < 32) := by omega
        have h32d : decide ((i : Int) < 32) = false := decide_eq_false h32i
        have h32e : decide ((32 : Int) ≤ (i : Int)) = true := decide_eq_true (by omega)
        have h32f : (32 : Int) ≤ (i : Int) := by omega
        have hO2 : OutsAt w4 (.slice a8 1 c8) [frmB (errM i 14).bytes] w3.heap.size (offV tv') := hO (by show (14 : Nat) ≠ 0; decide)
        obtain ⟨bO, oO, cO, ae, le, ce, he8, hlo⟩ := hO2.one
        cases he8
        obtain ⟨st, hst⟩ : ∃ s, s = strL (frmB (errM i 14).bytes) := ⟨_, rfl⟩
        have lo : Hid (∀ Z, Below w4.heap.size w4 Z → Z.cell? ⟨bO, oO, none⟩ = some (.slice ae le ce)) := hid (fun Z hZ => (hlo Z hZ).1)
        have lc : Hid (∀ Z, Below w4.heap.size w4 Z → (convert 29 9 (.slice ae le ce)).run Tryz.prog Z = .ok (.string st) Z) := hid (fun Z hZ => by rw [hst]; exact (hlo Z hZ).2)
        have qe : ∀ Z, Calls Tryz.prog 9 #[.int .u16 (i : Int), .int .i64 14] Z fun en w' => en = .returned (.agg ((errM i 14).cells (.slice none 0 0) (.slice none 0 0) (.slice none 0 0))) ∧ Below Z.heap.size Z w' := fun Z => merror_any i 14 Z (by omega)
        have qf := fun Z => lframed_err i 14 (by omega) (.inr (.inl rfl)) Z
        obtain ⟨EC, hEC⟩ : ∃ E, E = (errM i 14).cells (.slice none 0 0) (.slice none 0 0) (.slice none 0 0) := ⟨_, rfl⟩
        obtain ⟨fl, hfl⟩ : ∃ E, E = (frmB (errM i 14).bytes).length := ⟨_, rfl⟩
        rw [← hEC] at qe qf
        rw [← hfl, ← hst] at qf
        replace hEC := hid hEC
        replace hfl := hid hfl
        replace hst := hid hst
        replace qe := hid qe
        replace qf := hid qf
        replace hR' := hid hR'
        have hB0 := hid ((Below.refl w4.heap.size w4).drew)
        clear hO hO2 hlo hrow ho hfd
        go_upto_region 8 with fail
        go_cut [72] from 35 to 72 (fun s72 wx => s72 = .bool false ∧ Hid (Below w4.heap.size w4 wx))
        case first =>
          refine wp_region_held_drew (S := (fun W => W.cell? ⟨bO, oO, none⟩ = some (.slice ae le ce) ∧ (convert 29 9 (.slice ae le ce)).run Tryz.prog W = .ok (.string st) W)) (by kernel_rfl) ?_ (fun hHeld0 => ?_)
          · try dsimp only
            (first | exact ⟨lo.out _ hB0.out, lc.out _ hB0.out⟩ | exact ⟨⟨lo.out _ hB0.out, lc.out _ hB0.out⟩, hcv.out _ hBc.out⟩)
          refine wpAnyH_take (i := 0) (oi := _) (v := ?_) (take_list rfl) (by kernel_rfl) (by kernel_rfl) (by kernel_rfl) (fun _ _ _ h => h) (Or.inl ⟨by rfl, ?_⟩) (by assumption) ?_
          rotate_left
          · intro w hSw; (try dsimp only at hSw); go_simp; try (with_reducible rfl)
          try simp only [Act.put, List.setIfInBounds_toArray, List.set_cons_zero, List.set_cons_succ]
          refine wpAnyH_take (i := 1) (oi := _) (v := ?_) (take_list rfl) (by kernel_rfl) (by kernel_rfl) (by kernel_rfl) (fun _ _ _ h => h) (Or.inl ⟨by rfl, ?_⟩) (by assumption) ?_
          rotate_left
          · intro w hSw; (try dsimp only at hSw); go_simp; try (with_reducible rfl)
          try simp only [Act.put, List.setIfInBounds_toArray, List.set_cons_zero, List.set_cons_succ]
          refine wpAnyH_take (i := 2) (oi := _) (v := ?_) (take_list rfl) (by kernel_rfl) (by kernel_rfl) (by kernel_rfl) (fun _ _ _ h => h) (Or.inl ⟨by rfl, ?_⟩) (by assumption) ?_
          rotate_left
          · intro w hSw; (try dsimp only at hSw); go_simp; try (with_reducible rfl)
          try simp only [Act.put, List.setIfInBounds_toArray, List.set_cons_zero, List.set_cons_succ]
          refine wpAnyH_take (i := 3) (oi := _) (v := undef) (take_list rfl) (by kernel_rfl) (by kernel_rfl) (by kernel_rfl) (fun _ _ _ h => h) (Or.inr ⟨by rfl, rfl⟩) (by assumption) ?_
          try simp only [Act.put, List.setIfInBounds_toArray, List.set_cons_zero, List.set_cons_succ]
          refine wpAnyH_take (i := 4) (oi := _) (v := undef) (take_list rfl) (by kernel_rfl) (by kernel_rfl) (by kernel_rfl) (fun _ _ _ h => h) (Or.inr ⟨by rfl, rfl⟩) (by assumption) ?_
          try simp only [Act.put, List.setIfInBounds_toArray, List.set_cons_zero, List.set_cons_succ]
          refine wpAnyH_take (i := 5) (oi := _) (v := undef) (take_list rfl) (by kernel_rfl) (by kernel_rfl) (by kernel_rfl) (fun _ _ _ h => h) (Or.inr ⟨by rfl, rfl⟩) (by assumption) ?_
          try simp only [Act.put, List.setIfInBounds_toArray, List.set_cons_zero, List.set_cons_succ]
          refine wpAnyH_take (i := 6) (oi := _) (v := undef) (take_list rfl) (by kernel_rfl) (by kernel_rfl) (by kernel_rfl) (fun _ _ _ h => h) (Or.inr ⟨by rfl, rfl⟩) (by assumption) ?_
          try simp only [Act.put, List.setIfInBounds_toArray, List.set_cons_zero, List.set_cons_succ]
          refine wpAnyH_take (i := 7) (oi := _) (v := undef) (take_list rfl) (by kernel_rfl) (by kernel_rfl) (by kernel_rfl) (fun _ _ _ h => h) (Or.inr ⟨by rfl, rfl⟩) (by assumption) ?_
          try simp only [Act.put, List.setIfInBounds_toArray, List.set_cons_zero, List.set_cons_succ]
          refine wpAnyH_take (i := 8) (oi := _) (v := undef) (take_list rfl) (by kernel_rfl) (by kernel_rfl) (by kernel_rfl) (fun _ _ _ h => h) (Or.inr ⟨by rfl, rfl⟩) (by assumption) ?_
          try simp only [Act.put, List.setIfInBounds_toArray, List.set_cons_zero, List.set_cons_succ]
          refine wpAnyH_take (i := 9) (oi := _) (v := undef) (take_list rfl) (by kernel_rfl) (by kernel_rfl) (by kernel_rfl) (fun _ _ _ h => h) (Or.inr ⟨by rfl, rfl⟩) (by assumption) ?_
          try simp only [Act.put, List.setIfInBounds_toArray, List.set_cons_zero, List.set_cons_succ]
          refine wpAnyH_take (i := 10) (oi := _) (v := undef) (take_list rfl) (by kernel_rfl) (by kernel_rfl) (by kernel_rfl) (fun _ _ _ h => h) (Or.inr ⟨by rfl, rfl⟩) (by assumption) ?_
          try simp only [Act.put, List.setIfInBounds_toArray, List.set_cons_zero, List.set_cons_succ]
          refine wpAnyH_take (i := 11) (oi := _) (v := ?_) (take_list rfl) (by kernel_rfl) (by kernel_rfl) (by kernel_rfl) (fun _ _ _ h => h) (Or.inl ⟨by rfl, ?_⟩) (by assumption) ?_
          rotate_left
          · intro w hSw; (try dsimp only at hSw); go_simp; try (with_reducible rfl)
          try simp only [Act.put, List.setIfInBounds_toArray, List.set_cons_zero, List.set_cons_succ]
          refine wpAnyH_take (i := 12) (oi := _) (v := ?_) (take_list rfl) (by kernel_rfl) (by kernel_rfl) (by kernel_rfl) (fun _ _ _ h => h) (Or.inl ⟨by rfl, ?_⟩) (by assumption) ?_
          rotate_left
          · intro w hSw; (try dsimp only at hSw); go_simp; try (with_reducible rfl)
          try simp only [Act.put, List.setIfInBounds_toArray, List.set_cons_zero, List.set_cons_succ]
          refine wpAnyH_take (i := 13) (oi := _) (v := ?_) (take_list rfl) (by kernel_rfl) (by kernel_rfl) (by kernel_rfl) (fun _ _ _ h => h) (Or.inl ⟨by rfl, ?_⟩) (by assumption) ?_
          rotate_left
          · intro w hSw; (try dsimp only at hSw); go_simp; try (with_reducible rfl)
          try simp only [Act.put, List.setIfInBounds_toArray, List.set_cons_zero, List.set_cons_succ]
          refine wpAnyH_take (i := 14) (oi := _) (v := ?_) (take_list rfl) (by kernel_rfl) (by kernel_rfl) (by kernel_rfl) (fun _ _ _ h => h) (Or.inl ⟨by rfl, ?_⟩) (by assumption) ?_
          rotate_left
          · intro w hSw; (try dsimp only at hSw); go_simp; try (with_reducible rfl)
          try simp only [Act.put, List.setIfInBounds_toArray, List.set_cons_zero, List.set_cons_succ]
          refine wpAnyH_take (i := 15) (oi := _) (v := ?_) (take_list rfl) (by kernel_rfl) (by kernel_rfl) (by kernel_rfl) (fun _ _ _ h => h) (Or.inl ⟨by rfl, ?_⟩) (by assumption) ?_
          rotate_left
          · intro w hSw; (try dsimp only at hSw); go_simp; try (with_reducible rfl)
          try simp only [Act.put, List.setIfInBounds_toArray, List.set_cons_zero, List.set_cons_succ]
          refine wpAnyH_take (i := 16) (oi := _) (v := ?_) (take_list rfl) (by kernel_rfl) (by kernel_rfl) (by kernel_rfl) (fun _ _ _ h => h) (Or.inl ⟨by rfl, ?_⟩) (by assumption) ?_
          rotate_left
          · intro w hSw; (try dsimp only at hSw); go_simp; try (with_reducible rfl)
          try simp only [Act.put, List.setIfInBounds_toArray, List.set_cons_zero, List.set_cons_succ]
          refine wpAnyH_take (i := 17) (oi := _) (v := ?_) (take_list rfl) (by kernel_rfl) (by kernel_rfl) (by kernel_rfl) (fun _ _ _ h => h) (Or.inl ⟨by rfl, ?_⟩) (by assumption) ?_
          rotate_left
          · intro w hSw; (try dsimp only at hSw); go_simp; try (with_reducible rfl)
          try simp only [Act.put, List.setIfInBounds_toArray, List.set_cons_zero, List.set_cons_succ]
          refine wpAnyH_take (i := 18) (oi := _) (v := ?_) (take_list rfl) (by kernel_rfl) (by kernel_rfl) (by kernel_rfl) (fun _ _ _ h => h) (Or.inl ⟨by rfl, ?_⟩) (by assumption) ?_
          rotate_left
          · intro w hSw; (try dsimp only at hSw); go_simp; try (with_reducible rfl)
          try simp only [Act.put, List.setIfInBounds_toArray, List.set_cons_zero, List.set_cons_succ]
          refine wpAnyH_take (i := 19) (oi := _) (v := ?_) (take_list rfl) (by kernel_rfl) (by kernel_rfl) (by kernel_rfl) (fun _ _ _ h => h) (Or.inl ⟨by rfl, ?_⟩) (by assumption) ?_
          rotate_left
          · intro w hSw; (try dsimp only at hSw); go_simp; try (with_reducible rfl)
          try simp only [Act.put, List.setIfInBounds_toArray, List.set_cons_zero, List.set_cons_succ]
          refine wpAnyH_take (i := 20) (oi := _) (v := ?_) (take_list rfl) (by kernel_rfl) (by kernel_rfl) (by kernel_rfl) (fun _ _ _ h => h) (Or.inl ⟨by rfl, ?_⟩) (by assumption) ?_
          rotate_left
          · intro w hSw; (try dsimp only at hSw); go_simp; try (with_reducible rfl)
          try simp only [Act.put, List.setIfInBounds_toArray, List.set_cons_zero, List.set_cons_succ]
          refine wpAnyH_take (i := 21) (oi := _) (v := ?_) (take_list rfl) (by kernel_rfl) (by kernel_rfl) (by kernel_rfl) (fun _ _ _ h => h) (Or.inl ⟨by rfl, ?_⟩) (by assumption) ?_
          rotate_left
          · intro w hSw; (try dsimp only at hSw); go_simp; try (with_reducible rfl)
          try simp only [Act.put, List.setIfInBounds_toArray, List.set_cons_zero, List.set_cons_succ]
          refine wpAnyH_take (i := 22) (oi := _) (v := ?_) (take_list rfl) (by kernel_rfl) (by kernel_rfl) (by kernel_rfl) (fun _ _ _ h => h) (Or.inl ⟨by rfl, ?_⟩) (by assumption) ?_
          rotate_left
          · intro w hSw; (try dsimp only at hSw); go_simp; try (with_reducible rfl)
          try simp only [Act.put, List.setIfInBounds_toArray, List.set_cons_zero, List.set_cons_succ]
          refine wpAnyH_take (i := 23) (oi := _) (v := ?_) (take_list rfl) (by kernel_rfl) (by kernel_rfl) (by kernel_rfl) (fun _ _ _ h => h) (Or.inl ⟨by rfl, ?_⟩) (by assumption) ?_
          rotate_left
          · intro w hSw; (try dsimp only at hSw); go_simp; try (with_reducible rfl)
          try simp only [Act.put, List.setIfInBounds_toArray, List.set_cons_zero, List.set_cons_succ]
          refine wpAnyH_take (i := 24) (oi := _) (v := ?_) (take_list rfl) (by kernel_rfl) (by kernel_rfl) (by kernel_rfl) (fun _ _ _ h => h) (Or.inl ⟨by rfl, ?_⟩) (by assumption) ?_
          rotate_left
          · intro w hSw; (try dsimp only at hSw); go_simp; try (with_reducible rfl)
          try simp only [Act.put, List.setIfInBounds_toArray, List.set_cons_zero, List.set_cons_succ]
          refine wpAnyH_take (i := 25) (oi := _) (v := ?_) (take_list rfl) (by kernel_rfl) (by kernel_rfl) (by kernel_rfl) (fun _ _ _ h => h) (Or.inl ⟨by rfl, ?_⟩) (by assumption) ?_
          rotate_left
          · intro w hSw; (try dsimp only at hSw); go_simp; try (with_reducible rfl)
          try simp only [Act.put, List.setIfInBounds_toArray, List.set_cons_zero, List.set_cons_succ]
          refine wpAnyH_take (i := 26) (oi := _) (v := ?_) (take_list rfl) (by kernel_rfl) (by kernel_rfl) (by kernel_rfl) (fun _ _ _ h => h) (Or.inl ⟨by rfl, ?_⟩) (by assumption) ?_
          rotate_left
          · intro w hSw; (try dsimp only at hSw); go_simp; try (with_reducible rfl)
          try simp only [Act.put, List.setIfInBounds_toArray, List.set_cons_zero, List.set_cons_succ]
          refine wpAnyH_take (i := 27) (oi := _) (v := ?_) (take_list rfl) (by kernel_rfl) (by kernel_rfl) (by kernel_rfl) (fun _ _ _ h => h) (Or.inl ⟨by rfl, ?_⟩) (by assumption) ?_
          rotate_left
          · intro w hSw; (try dsimp only at hSw); go_simp; try (with_reducible rfl)
          try simp only [Act.put, List.setIfInBounds_toArray, List.set_cons_zero, List.set_cons_succ]
          refine wpAnyH_take (i := 28) (oi := _) (v := ?_) (take_list rfl) (by kernel_rfl) (by kernel_rfl) (by kernel_rfl) (fun _ _ _ h => h) (Or.inl ⟨by rfl, ?_⟩) (by assumption) ?_
          rotate_left
          · intro w hSw; (try dsimp only at hSw); go_simp; try (with_reducible rfl)
          try simp only [Act.put, List.setIfInBounds_toArray, List.set_cons_zero, List.set_cons_succ]
          refine wpAnyH_take (i := 29) (oi := _) (v := ?_) (take_list rfl) (by kernel_rfl) (by kernel_rfl) (by kernel_rfl) (fun _ _ _ h => h) (Or.inl ⟨by rfl, ?_⟩) (by assumption) ?_
          rotate_left
          · intro w hSw; (try dsimp only at hSw); go_simp; try (with_reducible rfl)
          try simp only [Act.put, List.setIfInBounds_toArray, List.set_cons_zero, List.set_cons_succ]
          refine wpAnyH_take (i := 30) (oi := _) (v := ?_) (take_list rfl) (by kernel_rfl) (by kernel_rfl) (by kernel_rfl) (fun _ _ _ h => h) (Or.inl ⟨by rfl, ?_⟩) (by assumption) ?_
          rotate_left
          · intro w hSw; (try dsimp only at hSw); go_simp; try (with_reducible rfl)
          try simp only [Act.put, List.setIfInBounds_toArray, List.set_cons_zero, List.set_cons_succ]
          refine wpAnyH_ready (rs := [31]) (by kernel_rfl) (by simp) ?_
          refine AllReadyH.cons (take_list rfl) (fun K hK => ?_) ?_
          go_simp
          (first
            | (go_at_call 9; (with_reducible refine (qe.out _).mono ?_); rintro e w11 ⟨rfl, hb11⟩; replace hB0 := hid (sn hB0.out hb11))
            | (go_at_call 8; (with_reducible refine (qf.out _).mono ?_); rintro e w12 ⟨b12, c12, rfl, hb12, hcv⟩; replace hcv := hid hcv; replace hB0 := hid (sn hB0.out hb12); replace hK := held_switch hK (S' := fun W => (W.cell? ⟨bO, oO, none⟩ = some (.slice ae le ce) ∧ (convert 29 9 (.slice ae le ce)).run Tryz.prog W = .ok (.string st) W) ∧ (convert 29 9 (.slice (some ⟨b12, 0, none⟩) fl c12)).run Tryz.prog W = .ok (.string st) W) (fun W h => h.1); have hBc := hid (Below.refl w12.heap.size w12)))
          go_wp2_with fail
          refine hK.out _ _ ?_ (fun hHeld1 => ?_)
          · try dsimp only
            (first | exact ⟨lo.out _ hB0.out, lc.out _ hB0.out⟩ | exact ⟨⟨lo.out _ hB0.out, lc.out _ hB0.out⟩, hcv.out _ hBc.out⟩)
          clear hK K hHeld0
          try simp only [Act.put, List.setIfInBounds_toArray, List.set_cons_zero, List.set_cons_succ]
          refine wpAnyH_ready (rs := [32]) (by kernel_rfl) (by simp) ?_
          refine AllReadyH.cons (take_list rfl) (fun K hK => ?_) ?_
          go_simp
          (first
            | (go_at_call 9; (with_reducible refine (qe.out _).mono ?_); rintro e w11 ⟨rfl, hb11⟩; replace hB0 := hid (sn hB0.out hb11))
            | (go_at_call 8; (with_reducible refine (qf.out _).mono ?_); rintro e w12 ⟨b12, c12, rfl, hb12, hcv⟩; replace hcv := hid hcv; replace hB0 := hid (sn hB0.out hb12); replace hK := held_switch hK (S' := fun W => (W.cell? ⟨bO, oO, none⟩ = some (.slice ae le ce) ∧ (convert 29 9 (.slice ae le ce)).run Tryz.prog W = .ok (.string st) W) ∧ (convert 29 9 (.slice (some ⟨b12, 0, none⟩) fl c12)).run Tryz.prog W = .ok (.string st) W) (fun W h => h.1); have hBc := hid (Below.refl w12.heap.size w12)))
          go_wp2_with fail
          refine hK.out _ _ ?_ (fun hHeld2 => ?_)
          · try dsimp only
            (first | exact ⟨lo.out _ hB0.out, lc.out _ hB0.out⟩ | exact ⟨⟨lo.out _ hB0.out, lc.out _ hB0.out⟩, hcv.out _ hBc.out⟩)
          clear hK K hHeld1
          try simp only [Act.put, List.setIfInBounds_toArray, List.set_cons_zero, List.set_cons_succ]
          refine wpAnyH_take (i := 33) (oi := _) (v := ?_) (take_list rfl) (by kernel_rfl) (by kernel_rfl) (by kernel_rfl) (fun _ _ _ h => h) (Or.inl ⟨by rfl, ?_⟩) (by assumption) ?_
          rotate_left
          · intro w hSw; (try dsimp only at hSw); go_simp; try (with_reducible rfl)
          try simp only [Act.put, List.setIfInBounds_toArray, List.set_cons_zero, List.set_cons_succ]
          refine wpAnyH_take (i := 34) (oi := _) (v := ?_) (take_list rfl) (by kernel_rfl) (by kernel_rfl) (by kernel_rfl) (fun _ _ _ h => h) (Or.inl ⟨by rfl, ?_⟩) (by assumption) ?_
          rotate_left
          · intro w hSw; (try dsimp only at hSw); go_simp; try (with_reducible rfl)
          try simp only [Act.put, List.setIfInBounds_toArray, List.set_cons_zero, List.set_cons_succ]
          refine wpAnyH_take (i := 35) (oi := _) (v := ?_) (take_list rfl) (by kernel_rfl) (by kernel_rfl) (by kernel_rfl) (fun _ _ _ h => h) (Or.inl ⟨by rfl, ?_⟩) (by assumption) ?_
          rotate_left
          · intro w hSw; (try dsimp only at hSw); go_simp; try (with_reducible rfl)
          try simp only [Act.put, List.setIfInBounds_toArray, List.set_cons_zero, List.set_cons_succ]
          refine wpAnyH_take (i := 36) (oi := _) (v := ?_) (take_list rfl) (by kernel_rfl) (by kernel_rfl) (by kernel_rfl) (fun _ _ _ h => h) (Or.inl ⟨by rfl, ?_⟩) (by assumption) ?_
          rotate_left
          · intro w hSw; (try dsimp only at hSw); go_simp; try (with_reducible rfl)
          try simp only [Act.put, List.setIfInBounds_toArray, List.set_cons_zero, List.set_cons_succ]
          refine wpAnyH_take (i := 37) (oi := _) (v := ?_) (take_list rfl) (by kernel_rfl) (by kernel_rfl) (by kernel_rfl) (fun _ _ _ h => h) (Or.inl ⟨by rfl, ?_⟩) (by assumption) ?_
          rotate_left
          · intro w hSw; (try dsimp only at hSw); go_simp; try (with_reducible rfl)
          try simp only [Act.put, List.setIfInBounds_toArray, List.set_cons_zero, List.set_cons_succ]
          refine wpAnyH_done (by kernel_rfl) ?_ _
          rotate_left
          exact AllReadyH.nil
          exact AllReadyH.nil
          go_wp2_with fail
          go_meet
          exact ⟨rfl, hB0⟩
        case rest =>
          obtain ⟨rfl, hBx⟩ := hcut
          have hrel := hid (And.intro (hR'.out.below hBx.out) (sn hB4.out hBx.out))
          go_wp2_with fail
          go_roundw
          case rel => exact ⟨i + 1, hv', tv', by omega, by go_num, hrel⟩
          case measure => simp [intOf]; omega
    · obtain rfl : i = N := by omega
      obtain ⟨k, hk⟩ : ∃ k, k = which % 32 := ⟨_, rfl⟩
      have hk32 : k < 32 := by rw [hk]; exact Nat.mod_lt _ (by omega)
      have hkw : (which : Int) % 32 = (k : Int) := by omega
      have hlt : ¬ ((i : Int) < 32 + (more : Int) % 4) := by omega
      have hR1 := hR.out.1
      rw [Nat.min_eq_right (by omega)] at hR1
      have hB1 := hR.out.2
      replace hR1 := hid hR1
      replace hB1 := hid hB1
      have hfr := fun Z => framed_clunk k (by omega) Z
      rw [clunk_cells] at hfr
      replace hfr := hid hfr
      replace hk := hid hk
      clear hNn hR hi0 hiN
      go_upto_region 12 with fail
      refine (hfr.out _).mono ?_
      rintro e w3 ⟨v3, rfl, hv3, hb3⟩
      have hR3 := hR1.out.below hb3
      have hfd := hid (feed_clunk hR3 (by simp) (by omega) hv3)
      have hB3 := sn hB1.out hb3
      replace hR3 := hid hR3
      replace hB3 := hid hB3
      clear hv3 hb3
      go_upto_region 12 with fail
      refine hfd.out.mono ?_
      rintro e w4 ⟨a10, k10, c10, a11, k11, c11, hv4, tv4, rfl, hk10, hk11, hO4, hR4, hr4, ho4⟩
      rw [askF_again hk32] at hk10 hk11 hO4 hR4
      obtain rfl : k10 = 0 := hk10
      obtain rfl : k11 = 1 := hk11
      have hB4 := hid (below_step hR3.out hB3.out ho4 hwn.out)
      have hO4' : OutsAt w4 (.slice a11 1 c11) [frmB (errM k 16).bytes] w3.heap.size (offV tv4) := hO4 (by show (16 : Nat) ≠ 0; decide)
      have hn3 : n + 2 < w3.heap.size := lt_of_block hR3.out.blk
      have hR4 : RoadS w4 n hv4 tv4 [] false (List.range 32) false := hR4
      have han := kans hR4 (by simp) k (by omega)
      rw [clunk_cells] at han
      replace han := hid han
      replace hR4 := hid hR4
      clear hfd hO4 hr4 ho4
      go_upto_region 13 with fail
      refine han.out.mono ?_
      rintro e w5 ⟨a12, k12, c12, tv5, rfl, hk12, hR5, hr5, ho5⟩
      rw [if_pos (by simp; omega)] at hk12
      subst hk12
      have hB5 := hid (below_step hR4.out hB4.out ho5 hwn.out)
      have hO5 := hid (hO4'.step ho5 hr5 hn3)
      replace hR5 := hid hR5
      clear han hr5 ho5 hO4'
      go_upto_region 14 with fail
      refine (hfr.out _).mono ?_
      rintro e w6 ⟨v6, rfl, hv6, hb6⟩
      have hR6 := hR5.out.below hb6
      have hfd := hid (feed_clunk hR6 (by have := (done_len hk32).1; omega) (by omega) hv6)
      have hB6 := sn hB5.out hb6
      have hO6 := hid (hO5.out.step (tv' := tv5) (Oth.pure hb6) (fun j _ h => h) hn3)
      replace hR6 := hid hR6
      replace hB6 := hid hB6
      clear hv6 hb6
      go_upto_region 14 with fail
      refine hfd.out.mono ?_
      rintro e w7 ⟨a13, k13, c13, a14, k14, c14, hv7, tv7, rfl, hk13, hk14, _, hR7, hr7, ho7⟩
      obtain ⟨hq1, hq2⟩ := askF_back hk32
      rw [if_pos hq1] at hk13 hk14
      subst hk13
      subst hk14
      have hB7 := hid (below_step hR6.out hB6.out ho7 hwn.out)
      have hO7 := hO6.out.step ho7 hr7 hn3
      obtain ⟨bO, oO, cO, ae, le, ce, he8, hlo⟩ := hO7.one
      cases he8
      obtain ⟨st, hst⟩ : ∃ s, s = strL (frmB (errM k 16).bytes) := ⟨_, rfl⟩
      have lo : Hid (∀ Z, Below w7.heap.size w7 Z → Z.cell? ⟨bO, oO, none⟩ = some (.slice ae le ce)) := hid (fun Z hZ => (hlo Z hZ).1)
      have lc : Hid (∀ Z, Below w7.heap.size w7 Z → (convert 29 9 (.slice ae le ce)).run Tryz.prog Z = .ok (.string st) Z) := hid (fun Z hZ => by rw [hst]; exact (hlo Z hZ).2)
      have qe : ∀ Z, Calls Tryz.prog 9 #[.int .u16 (k : Int), .int .i64 16] Z fun en w' => en = .returned (.agg ((errM k 16).cells (.slice none 0 0) (.slice none 0 0) (.slice none 0 0))) ∧ Below Z.heap.size Z w' := fun Z => merror_any k 16 Z (by omega)
      have qf := fun Z => lframed_err k 16 (by omega) (.inr (.inr rfl)) Z
      have qo := hid (fun Z (hZ : Below w7.heap.size w7 Z) => (open_any (hR7.below hZ) (by omega)).mono (fun e w' h => (show ∃ a c, e = .returned (.slice a 32 c) ∧ Below Z.heap.size Z w' by
        obtain ⟨v, rfl, hT, hb⟩ := h
        obtain ⟨a, c, rfl, _⟩ := hT.form
        rw [hq2]
        exact ⟨a, c, rfl, hb⟩)))
      obtain ⟨EC, hEC⟩ : ∃ E, E = (errM k 16).cells (.slice none 0 0) (.slice none 0 0) (.slice none 0 0) := ⟨_, rfl⟩
      obtain ⟨fl, hfl⟩ : ∃ E, E = (frmB (errM k 16).bytes).length := ⟨_, rfl⟩
      rw [← hEC] at qe qf
      rw [← hfl, ← hst] at qf
      replace hEC := hid hEC
      replace hfl := hid hfl
      replace hst := hid hst
      replace qe := hid qe
      replace qf := hid qf
      replace hR7 := hid hR7
      have hB0 := hid ((Below.refl w7.heap.size w7).drew)
      have hw0 : IntKind.i64.wrap 0 = 0 := by decide
      clear hfd hr7 ho7 hlo hO7 hq1 hq2 hfr
      go_upto_region 14 with fail
      refine wp_region_held_drew (S := (fun W => W.cell? ⟨bO, oO, none⟩ = some (.slice ae le ce) ∧ (convert 29 9 (.slice ae le ce)).run Tryz.prog W = .ok (.string st) W)) (by kernel_rfl) ?_ (fun hHeld0 => ?_)
      · try dsimp only
        (first | exact ⟨lo.out _ hB0.out, lc.out _ hB0.out⟩ | exact ⟨⟨lo.out _ hB0.out, lc.out _ hB0.out⟩, hcv.out _ hBc.out⟩)
      refine wpAnyH_take (i := 0) (oi := _) (v := ?_) (take_list rfl) (by kernel_rfl) (by kernel_rfl) (by kernel_rfl) (fun _ _ _ h => h) (Or.inl ⟨by rfl, ?_⟩) (by assumption) ?_
      rotate_left
      · intro w hSw; (try dsimp only at hSw); go_simp; try (with_reducible rfl)
      try simp only [Act.put, List.setIfInBounds_toArray, List.set_cons_zero, List.set_cons_succ]
      refine wpAnyH_take (i := 1) (oi := _) (v := ?_) (take_list rfl) (by kernel_rfl) (by kernel_rfl) (by kernel_rfl) (fun _ _ _ h => h) (Or.inl ⟨by rfl, ?_⟩) (by assumption) ?_
      rotate_left
      · intro w hSw; (try dsimp only at hSw); go_simp; try (with_reducible rfl)
      try simp only [Act.put, List.setIfInBounds_toArray, List.set_cons_zero, List.set_cons_succ]
      refine wpAnyH_take (i := 2) (oi := _) (v := ?_) (take_list rfl) (by kernel_rfl) (by kernel_rfl) (by kernel_rfl) (fun _ _ _ h => h) (Or.inl ⟨by rfl, ?_⟩) (by assumption) ?_
      rotate_left
      · intro w hSw; (try dsimp only at hSw); go_simp; try (with_reducible rfl)
      try simp only [Act.put, List.setIfInBounds_toArray, List.set_cons_zero, List.set_cons_succ]
      refine wpAnyH_take (i := 3) (oi := _) (v := ?_) (take_list rfl) (by kernel_rfl) (by kernel_rfl) (by kernel_rfl) (fun _ _ _ h => h) (Or.inl ⟨by rfl, ?_⟩) (by assumption) ?_
      rotate_left
      · intro w hSw; (try dsimp only at hSw); go_simp; try (with_reducible rfl)
      try simp only [Act.put, List.setIfInBounds_toArray, List.set_cons_zero, List.set_cons_succ]
      refine wpAnyH_take (i := 4) (oi := _) (v := ?_) (take_list rfl) (by kernel_rfl) (by kernel_rfl) (by kernel_rfl) (fun _ _ _ h => h) (Or.inl ⟨by rfl, ?_⟩) (by assumption) ?_
      rotate_left
      · intro w hSw; (try dsimp only at hSw); go_simp; try (with_reducible rfl)
      try simp only [Act.put, List.setIfInBounds_toArray, List.set_cons_zero, List.set_cons_succ]
      refine wpAnyH_take (i := 5) (oi := _) (v := ?_) (take_list rfl) (by kernel_rfl) (by kernel_rfl) (by kernel_rfl) (fun _ _ _ h => h) (Or.inl ⟨by rfl, ?_⟩) (by assumption) ?_
      rotate_left
      · intro w hSw; (try dsimp only at hSw); go_simp; try (with_reducible rfl)
      try simp only [Act.put, List.setIfInBounds_toArray, List.set_cons_zero, List.set_cons_succ]
      refine wpAnyH_take (i := 6) (oi := _) (v := ?_) (take_list rfl) (by kernel_rfl) (by kernel_rfl) (by kernel_rfl) (fun _ _ _ h => h) (Or.inl ⟨by rfl, ?_⟩) (by assumption) ?_
      rotate_left
      · intro w hSw; (try dsimp only at hSw); go_simp; try (with_reducible rfl)
      try simp only [Act.put, List.setIfInBounds_toArray, List.set_cons_zero, List.set_cons_succ]
      refine wpAnyH_take (i := 7) (oi := _) (v := ?_) (take_list rfl) (by kernel_rfl) (by kernel_rfl) (by kernel_rfl) (fun _ _ _ h => h) (Or.inl ⟨by rfl, ?_⟩) (by assumption) ?_
      rotate_left
      · intro w hSw; (try dsimp only at hSw); go_simp; try (with_reducible rfl)
      try simp only [Act.put, List.setIfInBounds_toArray, List.set_cons_zero, List.set_cons_succ]
      refine wpAnyH_take (i := 8) (oi := _) (v := ?_) (take_list rfl) (by kernel_rfl) (by kernel_rfl) (by kernel_rfl) (fun _ _ _ h => h) (Or.inl ⟨by rfl, ?_⟩) (by assumption) ?_
      rotate_left
      · intro w hSw; (try dsimp only at hSw); go_simp; try (with_reducible rfl)
      try simp only [Act.put, List.setIfInBounds_toArray, List.set_cons_zero, List.set_cons_succ]
      refine wpAnyH_take (i := 9) (oi := _) (v := ?_) (take_list rfl) (by kernel_rfl) (by kernel_rfl) (by kernel_rfl) (fun _ _ _ h => h) (Or.inl ⟨by rfl, ?_⟩) (by assumption) ?_
      rotate_left
      · intro w hSw; (try dsimp only at hSw); go_simp; try (with_reducible rfl)
      try simp only [Act.put, List.setIfInBounds_toArray, List.set_cons_zero, List.set_cons_succ]
      refine wpAnyH_take (i := 10) (oi := _) (v := ?_) (take_list rfl) (by kernel_rfl) (by kernel_rfl) (by kernel_rfl) (fun _ _ _ h => h) (Or.inl ⟨by rfl, ?_⟩) (by assumption) ?_
      rotate_left
      · intro w hSw; (try dsimp only at hSw); go_simp; try (with_reducible rfl)
      try simp only [Act.put, List.setIfInBounds_toArray, List.set_cons_zero, List.set_cons_succ]
      refine wpAnyH_take (i := 11) (oi := _) (v := ?_) (take_list rfl) (by kernel_rfl) (by kernel_rfl) (by kernel_rfl) (fun _ _ _ h => h) (Or.inl ⟨by rfl, ?_⟩) (by assumption) ?_
      rotate_left
      · intro w hSw; (try dsimp only at hSw); go_simp; try (with_reducible rfl)
      try simp only [Act.put, List.setIfInBounds_toArray, List.set_cons_zero, List.set_cons_succ]
      refine wpAnyH_take (i := 12) (oi := _) (v := ?_) (take_list rfl) (by kernel_rfl) (by kernel_rfl) (by kernel_rfl) (fun _ _ _ h => h) (Or.inl ⟨by rfl, ?_⟩) (by assumption) ?_
      rotate_left
      · intro w hSw; (try dsimp only at hSw); go_simp; try (with_reducible rfl)
      try simp only [Act.put, List.setIfInBounds_toArray, List.set_cons_zero, List.set_cons_succ]
      refine wpAnyH_take (i := 13) (oi := _) (v := ?_) (take_list rfl) (by kernel_rfl) (by kernel_rfl) (by kernel_rfl) (fun _ _ _ h => h) (Or.inl ⟨by rfl, ?_⟩) (by assumption) ?_
      rotate_left
      · intro w hSw; (try dsimp only at hSw); go_simp; try (with_reducible rfl)
      try simp only [Act.put, List.setIfInBounds_toArray, List.set_cons_zero, List.set_cons_succ]
      refine wpAnyH_ready (rs := [14]) (by kernel_rfl) (by simp) ?_
      refine AllReadyH.cons (take_list rfl) (fun K hK => ?_) ?_
      go_simp
      (first
        | (go_at_call 9; (with_reducible refine (qe.out _).mono ?_); rintro e w11 ⟨rfl, hb11⟩; replace hB0 := hid (sn hB0.out hb11))
        | (go_at_call 8; (with_reducible refine (qf.out _).mono ?_); rintro e w12 ⟨b12, c12, rfl, hb12, hcv⟩; replace hcv := hid hcv; replace hB0 := hid (sn hB0.out hb12); replace hK := held_switch hK (S' := fun W => (W.cell? ⟨bO, oO, none⟩ = some (.slice ae le ce) ∧ (convert 29 9 (.slice ae le ce)).run Tryz.prog W = .ok (.string st) W) ∧ (convert 29 9 (.slice (some ⟨b12, 0, none⟩) fl c12)).run Tryz.prog W = .ok (.string st) W) (fun W h => h.1); have hBc := hid (Below.refl w12.heap.size w12))
        | (go_at_call 11; (with_reducible refine (qo.out _ hB0.out).mono ?_); rintro e w14 ⟨a15, c15, rfl, hb14⟩; replace hB0 := hid (sn hB0.out hb14); replace hBc := hid (sn hBc.out hb14)))
      go_wp2_with fail
      refine hK.out _ _ ?_ (fun hHeld1 => ?_)
      · try dsimp only
        (first | exact ⟨lo.out _ hB0.out, lc.out _ hB0.out⟩ | exact ⟨⟨lo.out _ hB0.out, lc.out _ hB0.out⟩, hcv.out _ hBc.out⟩)
      clear hK K hHeld0
      try simp only [Act.put, List.setIfInBounds_toArray, List.set_cons_zero, List.set_cons_succ]
      refine wpAnyH_ready (rs := [15]) (by kernel_rfl) (by simp) ?_
      refine AllReadyH.cons (take_list rfl) (fun K hK => ?_) ?_
      go_simp
      (first
        | (go_at_call 9; (with_reducible refine (qe.out _).mono ?_); rintro e w11 ⟨rfl, hb11⟩; replace hB0 := hid (sn hB0.out hb11))
        | (go_at_call 8; (with_reducible refine (qf.out _).mono ?_); rintro e w12 ⟨b12, c12, rfl, hb12, hcv⟩; replace hcv := hid hcv; replace hB0 := hid (sn hB0.out hb12); replace hK := held_switch hK (S' := fun W => (W.cell? ⟨bO, oO, none⟩ = some (.slice ae le ce) ∧ (convert 29 9 (.slice ae le ce)).run Tryz.prog W = .ok (.string st) W) ∧ (convert 29 9 (.slice (some ⟨b12, 0, none⟩) fl c12)).run Tryz.prog W = .ok (.string st) W) (fun W h => h.1); have hBc := hid (Below.refl w12.heap.size w12))
        | (go_at_call 11; (with_reducible refine (qo.out _ hB0.out).mono ?_); rintro e w14 ⟨a15, c15, rfl, hb14⟩; replace hB0 := hid (sn hB0.out hb14); replace hBc := hid (sn hBc.out hb14)))
      go_wp2_with fail
      refine hK.out _ _ ?_ (fun hHeld2 => ?_)
      · try dsimp only
        (first | exact ⟨lo.out _ hB0.out, lc.out _ hB0.out⟩ | exact ⟨⟨lo.out _ hB0.out, lc.out _ hB0.out⟩, hcv.out _ hBc.out⟩)
      clear hK K hHeld1
      try simp only [Act.put, List.setIfInBounds_toArray, List.set_cons_zero, List.set_cons_succ]
      refine wpAnyH_take (i := 16) (oi := _) (v := ?_) (take_list rfl) (by kernel_rfl) (by kernel_rfl) (by kernel_rfl) (fun _ _ _ h => h) (Or.inl ⟨by rfl, ?_⟩) (by assumption) ?_
      rotate_left
      · intro w hSw; (try dsimp only at hSw); go_simp; try (with_reducible rfl)
      try simp only [Act.put, List.setIfInBounds_toArray, List.set_cons_zero, List.set_cons_succ]
      refine wpAnyH_take (i := 17) (oi := _) (v := ?_) (take_list rfl) (by kernel_rfl) (by kernel_rfl) (by kernel_rfl) (fun _ _ _ h => h) (Or.inl ⟨by rfl, ?_⟩) (by assumption) ?_
      rotate_left
      · intro w hSw; (try dsimp only at hSw); go_simp; try (with_reducible rfl)
      try simp only [Act.put, List.setIfInBounds_toArray, List.set_cons_zero, List.set_cons_succ]
      refine wpAnyH_take (i := 18) (oi := _) (v := ?_) (take_list rfl) (by kernel_rfl) (by kernel_rfl) (by kernel_rfl) (fun _ _ _ h => h) (Or.inl ⟨by rfl, ?_⟩) (by assumption) ?_
      rotate_left
      · intro w hSw; (try dsimp only at hSw); go_simp; try (with_reducible rfl)
      try simp only [Act.put, List.setIfInBounds_toArray, List.set_cons_zero, List.set_cons_succ]
      refine wpAnyH_take (i := 19) (oi := _) (v := ?_) (take_list rfl) (by kernel_rfl) (by kernel_rfl) (by kernel_rfl) (fun _ _ _ h => h) (Or.inl ⟨by rfl, ?_⟩) (by assumption) ?_
      rotate_left
      · intro w hSw; (try dsimp only at hSw); go_simp; try (with_reducible rfl)
      try simp only [Act.put, List.setIfInBounds_toArray, List.set_cons_zero, List.set_cons_succ]
      refine wpAnyH_take (i := 20) (oi := _) (v := ?_) (take_list rfl) (by kernel_rfl) (by kernel_rfl) (by kernel_rfl) (fun _ _ _ h => h) (Or.inl ⟨by rfl, ?_⟩) (by assumption) ?_
      rotate_left
      · intro w hSw; (try dsimp only at hSw); go_simp; try (with_reducible rfl)
      try simp only [Act.put, List.setIfInBounds_toArray, List.set_cons_zero, List.set_cons_succ]
      refine wpAnyH_take (i := 21) (oi := _) (v := ?_) (take_list rfl) (by kernel_rfl) (by kernel_rfl) (by kernel_rfl) (fun _ _ _ h => h) (Or.inl ⟨by rfl, ?_⟩) (by assumption) ?_
      rotate_left
      · intro w hSw; (try dsimp only at hSw); go_simp; try (with_reducible rfl)
      try simp only [Act.put, List.setIfInBounds_toArray, List.set_cons_zero, List.set_cons_succ]
      refine wpAnyH_take (i := 22) (oi := _) (v := ?_) (take_list rfl) (by kernel_rfl) (by kernel_rfl) (by kernel_rfl) (fun _ _ _ h => h) (Or.inl ⟨by rfl, ?_⟩) (by assumption) ?_
      rotate_left
      · intro w hSw; (try dsimp only at hSw); go_simp; try (with_reducible rfl)
      try simp only [Act.put, List.setIfInBounds_toArray, List.set_cons_zero, List.set_cons_succ]
      refine wpAnyH_take (i := 23) (oi := _) (v := ?_) (take_list rfl) (by kernel_rfl) (by kernel_rfl) (by kernel_rfl) (fun _ _ _ h => h) (Or.inl ⟨by rfl, ?_⟩) (by assumption) ?_
      rotate_left
      · intro w hSw; (try dsimp only at hSw); go_simp; try (with_reducible rfl)
      try simp only [Act.put, List.setIfInBounds_toArray, List.set_cons_zero, List.set_cons_succ]
      refine wpAnyH_take (i := 24) (oi := _) (v := ?_) (take_list rfl) (by kernel_rfl) (by kernel_rfl) (by kernel_rfl) (fun _ _ _ h => h) (Or.inl ⟨by rfl, ?_⟩) (by assumption) ?_
      rotate_left
      · intro w hSw; (try dsimp only at hSw); go_simp; try (with_reducible rfl)
      try simp only [Act.put, List.setIfInBounds_toArray, List.set_cons_zero, List.set_cons_succ]
      refine wpAnyH_take (i := 25) (oi := _) (v := ?_) (take_list rfl) (by kernel_rfl) (by kernel_rfl) (by kernel_rfl) (fun _ _ _ h => h) (Or.inl ⟨by rfl, ?_⟩) (by assumption) ?_
      rotate_left
      · intro w hSw; (try dsimp only at hSw); go_simp; try (with_reducible rfl)
      try simp only [Act.put, List.setIfInBounds_toArray, List.set_cons_zero, List.set_cons_succ]
      refine wpAnyH_take (i := 26) (oi := _) (v := ?_) (take_list rfl) (by kernel_rfl) (by kernel_rfl) (by kernel_rfl) (fun _ _ _ h => h) (Or.inl ⟨by rfl, ?_⟩) (by assumption) ?_
      rotate_left
      · intro w hSw; (try dsimp only at hSw); go_simp; try (with_reducible rfl)
      try simp only [Act.put, List.setIfInBounds_toArray, List.set_cons_zero, List.set_cons_succ]
      refine wpAnyH_take (i := 27) (oi := _) (v := ?_) (take_list rfl) (by kernel_rfl) (by kernel_rfl) (by kernel_rfl) (fun _ _ _ h => h) (Or.inl ⟨by rfl, ?_⟩) (by assumption) ?_
      rotate_left
      · intro w hSw; (try dsimp only at hSw); go_simp; try (with_reducible rfl)
      try simp only [Act.put, List.setIfInBounds_toArray, List.set_cons_zero, List.set_cons_succ]
      refine wpAnyH_take (i := 28) (oi := _) (v := ?_) (take_list rfl) (by kernel_rfl) (by kernel_rfl) (by kernel_rfl) (fun _ _ _ h => h) (Or.inl ⟨by rfl, ?_⟩) (by assumption) ?_
      rotate_left
      · intro w hSw; (try dsimp only at hSw); go_simp; try (with_reducible rfl)
      try simp only [Act.put, List.setIfInBounds_toArray, List.set_cons_zero, List.set_cons_succ]
      refine wpAnyH_take (i := 29) (oi := _) (v := ?_) (take_list rfl) (by kernel_rfl) (by kernel_rfl) (by kernel_rfl) (fun _ _ _ h => h) (Or.inl ⟨by rfl, ?_⟩) (by assumption) ?_
      rotate_left
      · intro w hSw; (try dsimp only at hSw); go_simp; try (with_reducible rfl)
      try simp only [Act.put, List.setIfInBounds_toArray, List.set_cons_zero, List.set_cons_succ]
      refine wpAnyH_take (i := 30) (oi := _) (v := ?_) (take_list rfl) (by kernel_rfl) (by kernel_rfl) (by kernel_rfl) (fun _ _ _ h => h) (Or.inl ⟨by rfl, ?_⟩) (by assumption) ?_
      rotate_left
      · intro w hSw; (try dsimp only at hSw); go_simp; try (with_reducible rfl)
      try simp only [Act.put, List.setIfInBounds_toArray, List.set_cons_zero, List.set_cons_succ]
      refine wpAnyH_take (i := 31) (oi := _) (v := ?_) (take_list rfl) (by kernel_rfl) (by kernel_rfl) (by kernel_rfl) (fun _ _ _ h => h) (Or.inl ⟨by rfl, ?_⟩) (by assumption) ?_
      rotate_left
      · intro w hSw; (try dsimp only at hSw); go_simp; try (with_reducible rfl)
      try simp only [Act.put, List.setIfInBounds_toArray, List.set_cons_zero, List.set_cons_succ]
      refine wpAnyH_take (i := 32) (oi := _) (v := ?_) (take_list rfl) (by kernel_rfl) (by kernel_rfl) (by kernel_rfl) (fun _ _ _ h => h) (Or.inl ⟨by rfl, ?_⟩) (by assumption) ?_
      rotate_left
      · intro w hSw; (try dsimp only at hSw); go_simp; try (with_reducible rfl)
      try simp only [Act.put, List.setIfInBounds_toArray, List.set_cons_zero, List.set_cons_succ]
      refine wpAnyH_take (i := 33) (oi := _) (v := ?_) (take_list rfl) (by kernel_rfl) (by kernel_rfl) (by kernel_rfl) (fun _ _ _ h => h) (Or.inl ⟨by rfl, ?_⟩) (by assumption) ?_
      rotate_left
      · intro w hSw; (try dsimp only at hSw); go_simp; try (with_reducible rfl)
      try simp only [Act.put, List.setIfInBounds_toArray, List.set_cons_zero, List.set_cons_succ]
      refine wpAnyH_take (i := 34) (oi := _) (v := ?_) (take_list rfl) (by kernel_rfl) (by kernel_rfl) (by kernel_rfl) (fun _ _ _ h => h) (Or.inl ⟨by rfl, ?_⟩) (by assumption) ?_
      rotate_left
      · intro w hSw; (try dsimp only at hSw); go_simp; try (with_reducible rfl)
      try simp only [Act.put, List.setIfInBounds_toArray, List.set_cons_zero, List.set_cons_succ]
      refine wpAnyH_take (i := 35) (oi := _) (v := ?_) (take_list rfl) (by kernel_rfl) (by kernel_rfl) (by kernel_rfl) (fun _ _ _ h => h) (Or.inl ⟨by rfl, ?_⟩) (by assumption) ?_
      rotate_left
      · intro w hSw; (try dsimp only at hSw); go_simp; try (with_reducible rfl)
      try simp only [Act.put, List.setIfInBounds_toArray, List.set_cons_zero, List.set_cons_succ]
      refine wpAnyH_ready (rs := [36]) (by kernel_rfl) (by simp) ?_
      refine AllReadyH.cons (take_list rfl) (fun K hK => ?_) ?_
      go_simp
      (first
        | (go_at_call 9; (with_reducible refine (qe.out _).mono ?_); rintro e w11 ⟨rfl, hb11⟩; replace hB0 := hid (sn hB0.out hb11))
        | (go_at_call 8; (with_reducible refine (qf.out _).mono ?_); rintro e w12 ⟨b12, c12, rfl, hb12, hcv⟩; replace hcv := hid hcv; replace hB0 := hid (sn hB0.out hb12); replace hK := held_switch hK (S' := fun W => (W.cell? ⟨bO, oO, none⟩ = some (.slice ae le ce) ∧ (convert 29 9 (.slice ae le ce)).run Tryz.prog W = .ok (.string st) W) ∧ (convert 29 9 (.slice (some ⟨b12, 0, none⟩) fl c12)).run Tryz.prog W = .ok (.string st) W) (fun W h => h.1); have hBc := hid (Below.refl w12.heap.size w12))
        | (go_at_call 11; (with_reducible refine (qo.out _ hB0.out).mono ?_); rintro e w14 ⟨a15, c15, rfl, hb14⟩; replace hB0 := hid (sn hB0.out hb14); replace hBc := hid (sn hBc.out hb14)))
      go_wp2_with fail
      refine hK.out _ _ ?_ (fun hHeld3 => ?_)
      · try dsimp only
        (first | exact ⟨lo.out _ hB0.out, lc.out _ hB0.out⟩ | exact ⟨⟨lo.out _ hB0.out, lc.out _ hB0.out⟩, hcv.out _ hBc.out⟩)
      clear hK K hHeld2
      try simp only [Act.put, List.setIfInBounds_toArray, List.set_cons_zero, List.set_cons_succ]
      refine wpAnyH_take (i := 37) (oi := _) (v := ?_) (take_list rfl) (by kernel_rfl) (by kernel_rfl) (by kernel_rfl) (fun _ _ _ h => h) (Or.inl ⟨by rfl, ?_⟩) (by assumption) ?_
      rotate_left
      · intro w hSw; (try dsimp only at hSw); go_simp; try (with_reducible rfl)
      try simp only [Act.put, List.setIfInBounds_toArray, List.set_cons_zero, List.set_cons_succ]
      refine wpAnyH_take (i := 38) (oi := _) (v := ?_) (take_list rfl) (by kernel_rfl) (by kernel_rfl) (by kernel_rfl) (fun _ _ _ h => h) (Or.inl ⟨by rfl, ?_⟩) (by assumption) ?_
      rotate_left
      · intro w hSw; (try dsimp only at hSw); go_simp; try (with_reducible rfl)
      try simp only [Act.put, List.setIfInBounds_toArray, List.set_cons_zero, List.set_cons_succ]
      refine wpAnyH_take (i := 39) (oi := _) (v := ?_) (take_list rfl) (by kernel_rfl) (by kernel_rfl) (by kernel_rfl) (fun _ _ _ h => h) (Or.inl ⟨by rfl, ?_⟩) (by assumption) ?_
      rotate_left
      · intro w hSw; (try dsimp only at hSw); go_simp; try (with_reducible rfl)
      try simp only [Act.put, List.setIfInBounds_toArray, List.set_cons_zero, List.set_cons_succ]
      refine wpAnyH_take (i := 40) (oi := _) (v := ?_) (take_list rfl) (by kernel_rfl) (by kernel_rfl) (by kernel_rfl) (fun _ _ _ h => h) (Or.inl ⟨by rfl, ?_⟩) (by assumption) ?_
      rotate_left
      · intro w hSw; (try dsimp only at hSw); go_simp; try (with_reducible rfl)
      try simp only [Act.put, List.setIfInBounds_toArray, List.set_cons_zero, List.set_cons_succ]
      refine wpAnyH_done (by kernel_rfl) ?_ _
      rotate_left
      exact AllReadyH.nil
      exact AllReadyH.nil
      exact AllReadyH.nil
      go_wp2_with fail
      go_ret
      exact ⟨rfl, sn hB7.out hB0.out⟩
end
end Go.Proofs.YtcbglcebdkpcfaaGreat

namespace Go.Proofs.YtcbglcebdkpcfaaGreat
section
open Go.RowKit
theorem law_ConnTagsI (more which : Int) (w : World) (h1 : 0 ≤ more ∧ more ≤ 255) (h2 : 0 ≤ which ∧ which ≤ 255) : Calls Tryz.prog 3 #[.int .u8 more, .int .u8 which] w (Holds w) := by
  obtain ⟨m, rfl⟩ := Int.eq_ofNat_of_zero_le h1.1
  obtain ⟨k, rfl⟩ := Int.eq_ofNat_of_zero_le h2.1
  exact law_ConnTags m k w (by omega) (by omega)
end
end Go.Proofs.YtcbglcebdkpcfaaGreat

namespace Go.Proofs.YtcbglcebdkpcfaaGreat
section
open Go.ChangeShapes Go.WideShapes Go.ChangeAt Go.RowKit
set_option maxRecDepth 100000
end
end Go.Proofs.YtcbglcebdkpcfaaGreat
