/- The law TreeNew: the path of a new node is above all before it. Conditions: the arguments as they come in. -/
import Derived.Test.YtpmlhmficmillaaTrNPZ
namespace Go.Proofs.Ytpmlhmficmillaa
open Go.RowKit
set_option maxRecDepth 100000
set_option linter.unusedVariables false

set_option maxHeartbeats 12800000 in
theorem law_TreeNew (n : Nat) (v : Value) (zs : List Bool) (w : World) (hn : n < 256) (hv : RowW w 1 v zs.length (zs.map Value.bool)) :
    Calls Try.prog 6 #[.int .u8 (n : Int), v] w fun e w' => e = .returned (.bool true) ∧ Below w.heap.size w w' := by
  have hk17 := hid (known17_any w)
  obtain ⟨ga, gc, hvf, hgc, hgm⟩ : ∃ a c, v = .slice a zs.length c ∧ zs.length ≤ c ∧ c ≤ maxLen := by obtain ⟨_, a, c, h, h1, h2, _⟩ := hv; exact ⟨a, c, h, h1, h2⟩
  subst hvf
  unfold maxLen at hgm
  obtain ⟨m, hm⟩ : ∃ m, m = n % 40 := ⟨_, rfl⟩
  have em1 : (n : Int) % 40 = (m : Int) := by omega
  have em2 : Int.tmod (n : Int) 40 = (m : Int) := by rw [Int.tmod_eq_emod_of_nonneg (by omega)]; omega
  have hm40 : m < 40 := by omega
  replace hm := hid hm
  replace hv := hid hv
  go_enter Try.func6, Try.ntmps6
  go_wp2_with fail
  refine hk17.out.mono ?_
  rintro e w0 ⟨rfl, hb0⟩
  have hc1 := hid (new_any ⟨#[97]⟩ 0 w0)
  clear hk17
  go_wp2_with fail
  refine hc1.out.mono ?_
  rintro e w1 ⟨v1, rfl, hv1, hb1⟩
  obtain ⟨a1, c1, rfl, _, _⟩ := hv1.form
  change NodsAt w1 (.slice a1 K0.n.length c1) K0.n at hv1
  clear hc1
  obtain ⟨k5, hk5e⟩ : ∃ k, k = w1.heap.size := ⟨_, rfl⟩
  obtain ⟨V1, hV1⟩ : ∃ V, V = w1.alloc (.cells #[.int .u64 2, .slice a1 1 c1] 25) := ⟨_, rfl⟩
  have hbV : Below w1.heap.size w1 V1 := by rw [hV1]; exact (Below.refl _ _).alloc (Nat.le_refl _) _
  have blk0 := hid (show V1.heap[k5]? = some (.cells #[.int .u64 (K0.next : Int), .slice a1 K0.n.length c1] 25 (0, 0)) by rw [hk5e, hV1]; exact heap_alloc_new _ _)
  have row0 := hid (hv1.below hbV)
  have hk5 : w.heap.size ≤ k5 := by rw [hk5e]; exact Nat.le_trans hb0.size hb1.size
  have hB0 := hid (sn (sn hb0 hb1) hbV)
  clear hbV hb1 hv1 hb0
  go_upto_region 4 with (rw [← hV1]; replace hV1 := hid hV1)
  try (rw [← hV1]; replace hV1 := hid hV1)
  rw [← hk5e]
  replace hk5e := hid hk5e
  go_wp2
  go_loopg [6, 7] m (fun g1 vl vi wr => ∃ (i last : Nat) (T : Tr) (a : Option Addr) (c : Nat), vl = .int .u64 (last : Int) ∧ vi = .int .i64 (i : Int) ∧ i ≤ m ∧ m - i ≤ g1 ∧ Hid (Below w.heap.size w wr) ∧ Hid (wr.heap[k5]? = some (.cells #[.int .u64 (T.next : Int), .slice a T.n.length c] 25 (0, 0))) ∧ Hid (NodsAt wr (.slice a T.n.length c) T.n) ∧ Hid (Good T ∧ T.next ≤ i + 2 ∧ T.n.length ≤ i + 1 ∧ last < T.next ∧ (i = 0 → (findL T.n 1 ⟨#[102]⟩).isSome = false)))
  case atStart => exact ⟨0, 1, K0, a1, c1, by first | rfl | go_num, by first | rfl | go_num, by omega, by omega, hB0, blk0, row0, hid ⟨G0, Nat.le_refl _, Nat.le_refl _, Nat.lt_succ_self 1, fun _ => K0_find⟩⟩
  case round =>
    clear hB0 blk0 row0
    obtain ⟨i, last, T, a, c, rfl, rfl, him, hg1, hB, blk, row, hI⟩ := hrel
    by_cases hi : i < m
    · have hiz : (i : Int) < (m : Int) := by omega
      have hGT := hid hI.out.1
      have hnx : T.next ≤ 42 := by have := hI.out.2.1; omega
      have hstep := new_step hGT.out (by have := hI.out.2.2.1; omega) (by omega)
      have hcm := hid (show _ from tmake_any _ T.next _ 1 ⟨#[102]⟩ 384 ⟨#[97]⟩ ⟨#[97]⟩ 0 wr row.out hGT.out.tr (sz1 _) (by omega) (fun n hn => (hGT.out.ok.low n hn).2) (by omega) (by omega))
      have hcm' := hcm.out
      rw [show (⟨T.next, T.n⟩ : Tr) = T from rfl] at hcm'
      have q0 := block_cell blk.out 0
      have q1 := block_cell blk.out 1
      clear hcm
      rcases hstep with ⟨L, hmk, hLn, hLl, hLg⟩ | ⟨hmk, hfs⟩
      · rw [hmk] at hcm'
        replace hcm' := hid hcm'
        have hL := hid (show L.next = T.next + 1 ∧ L.n.length = T.n.length + 1 ∧ Good L from ⟨hLn, hLl, hLg⟩)
        replace hmk := hid hmk
        clear hLn hLl hLg
        go_wp2_with fail
        refine hcm'.out.mono ?_
        rintro e w2 ⟨v2, rfl, hv2, hf2, hb2⟩
        obtain ⟨a2, c2, rfl, _, _⟩ := hv2.form
        have hzl : ¬ (T.next : Int) ≤ (last : Int) := by have := hI.out.2.2.2.1; omega
        obtain ⟨k8, hk8⟩ : ∃ k, k = w2.heap.size := ⟨_, rfl⟩
        obtain ⟨V2, hV2⟩ : ∃ V, V = w2.alloc (.cells #[.int .u64 (L.next : Int), .slice a2 L.n.length c2] 25) := ⟨_, rfl⟩
        have hbV : Below w2.heap.size w2 V2 := by rw [hV2]; exact (Below.refl _ _).alloc (Nat.le_refl _) _
        have hbx := sn hb2 hbV
        have hlt := lt_of_block blk.out
        have blk8 := hid (show V2.heap[k8]? = some (.cells #[.int .u64 (L.next : Int), .slice a2 L.n.length c2] 25 (0, 0)) by rw [hk8, hV2]; exact heap_alloc_new _ _)
        have blks := hid ((hbx.block _ hlt).trans blk.out)
        have hvs := hid (hv2.below hbV)
        have hfs := hid (show ∀ k, (Value.slice a2 L.n.length c2).ownBlock = some k → k5 < k from fun k hk => by have := hf2 k hk; omega)
        replace hB := hid (sn hB.out hbx)
        clear hbV hbx hb2 hv2 hf2 hlt hcm' q0 q1 blk row
        have y0 := block_cell blk8.out 0
        have y1 := block_cell blk8.out 1
        go_upto_region 14 with (rw [← hV2]; replace hV2 := hid hV2)
        try (rw [← hV2]; replace hV2 := hid hV2)
        rw [← hk8]
        replace hk8 := hid hk8
        obtain ⟨V3, hV3⟩ : ∃ V, V = V2.setRow k5 #[.int .u64 (L.next : Int), .slice a2 L.n.length c2] := ⟨_, rfl⟩
        replace hB := hid (show Below w.heap.size w V3 by rw [hV3]; exact below_setRow hB.out hk5 _)
        have row3 := hid (show NodsAt V3 (.slice a2 L.n.length c2) L.n by rw [hV3]; exact NodsAt.other hvs.out k5 (fun e => by have := hfs.out _ e; omega) (by simp) (fun k hk => setRow_other _ _ _ _ hk))
        have blk3 := hid (show V3.heap[k5]? = some (.cells #[.int .u64 (L.next : Int), .slice a2 L.n.length c2] 25 (0, 0)) by rw [hV3]; exact setRow_heap _ _ _ _ _ _ blks.out)

        go_upto_region 15 with (first
          | (rw [← hV3]; replace hV3 := hid hV3)
          | (refine wpList_store_row (by rfl) 25 (.tmp 5) (.tmp 39) (by rfl) k5 #[.int .u64 (L.next : Int), .slice a2 L.n.length c2] (by rfl) (by rfl) 25 _ blks.out (by kernel_rfl) (by kernel_rfl) (by kernel_rfl) ?_))
        try (rw [← hV3]; replace hV3 := hid hV3)
        clear hvs hfs blks
        by_cases hz : i < zs.length
        · have hzz : (i : Int) < (zs.length : Int) := by omega
          have hzz2 : ¬ (zs.length : Int) ≤ (i : Int) := by omega
          obtain ⟨gb, go, rfl, hgz⟩ : ∃ b o, ga = some ⟨b, o, none⟩ ∧ V3.cell? ⟨b, o + i, none⟩ = some (.bool zs[i]) := by
            obtain ⟨_, a', c', hv', _, _, _, h4⟩ := hv.out
            cases hv'
            obtain ⟨b, o, e, h5⟩ := h4 i (.bool zs[i]) (by simp [hz])
            exact ⟨b, o, e, by rw [hB.out.cell (by exact (World.block_lt_of_cell? _ _ h5))]; exact h5⟩
          generalize zs[i] = zi at hgz
          cases zi with
          | false =>
            clear y0 y1 blk8
            go_wp2
            go_roundg (m - (i + 1))
            case measure => omega
            case rel => exact ⟨i + 1, T.next, L, a2, c2, by first | rfl | go_num, by first | rfl | go_num, by omega, by omega, hB, blk3, row3, hid ⟨hL.out.2.2, by have := hL.out.1; have := hI.out.2.1; omega, by have := hL.out.2.1; have := hI.out.2.2.1; omega, by have := hL.out.1; omega, fun h => by omega⟩⟩
          | true =>
            clear y0 y1 blk8
            go_upto_region 16 with fail
            clear hgz hzz hzz2
            -- unlinked, reaped
            have hcu := hid (show _ from tunlink_any _ L.next _ T.next ⟨#[97]⟩ 0 V3 row3.out hL.out.2.2.tr (by omega))
            have q0 := block_cell blk3.out 0
            have q1 := block_cell blk3.out 1
            go_wp2_with fail
            refine hcu.out.mono ?_
            rintro e w4 ⟨v4, rfl, hv4, hf4, hb4⟩
            obtain ⟨U, hU⟩ : ∃ U, U = (unlinkT L T.next ⟨#[97]⟩ 0).1 := ⟨_, rfl⟩
            rw [show (unlinkT ⟨L.next, L.n⟩ T.next ⟨#[97]⟩ 0).1 = U from hU.symm] at hv4 ⊢
            obtain ⟨ue, hue⟩ : ∃ ue, ue = (unlinkT ⟨L.next, L.n⟩ T.next ⟨#[97]⟩ 0).2 := ⟨_, rfl⟩
            rw [← hue]
            have hUs := un_step hL.out.2.2 T.next ⟨#[97]⟩ 0
            have hUg := unlinkT_good hL.out.2.2 T.next ⟨#[97]⟩ 0 vA (by omega) (sz1 _)
            rw [← hU] at hUs hUg
            have hUG := hid (show U.next = L.next ∧ U.n.length = L.n.length ∧ Good U from ⟨hUs.1, hUs.2, hUg⟩)
            obtain ⟨a4, c4, rfl, _, _⟩ := hv4.form
            have blks := hid ((hb4.block _ (lt_of_block blk3.out)).trans blk3.out)
            have hlt3 := lt_of_block blk3.out
            have hvs := hid hv4
            have hfs := hid (show ∀ k, (Value.slice a4 U.n.length c4).ownBlock = some k → k5 < k from fun k hk => by have := hf4 k hk; omega)
            replace hB := hid (sn hB.out hb4)
            replace hU := hid hU
            replace hue := hid hue
            clear hb4 hv4 hf4 hcu q0 q1 blk3 row3 hlt3 hUs hUg
            obtain ⟨V4, hV4⟩ : ∃ V, V = w4.setRow k5 #[.int .u64 (U.next : Int), .slice a4 U.n.length c4] := ⟨_, rfl⟩
            replace hB := hid (show Below w.heap.size w V4 by rw [hV4]; exact below_setRow hB.out hk5 _)
            have row4 := hid (show NodsAt V4 (.slice a4 U.n.length c4) U.n by rw [hV4]; exact NodsAt.other hvs.out k5 (fun e => by have := hfs.out _ e; omega) (by simp) (fun k hk => setRow_other _ _ _ _ hk))
            have blk4 := hid (show V4.heap[k5]? = some (.cells #[.int .u64 (U.next : Int), .slice a4 U.n.length c4] 25 (0, 0)) by rw [hV4]; exact setRow_heap _ _ _ _ _ _ blks.out)

            go_upto_region 17 with (first
              | (rw [← hV4]; replace hV4 := hid hV4)
              | (refine wpList_store_row (by rfl) 25 (.tmp 5) (.tmp 60) (by rfl) k5 #[.int .u64 (U.next : Int), .slice a4 U.n.length c4] (by rfl) (by rfl) 25 _ blks.out (by kernel_rfl) (by kernel_rfl) (by kernel_rfl) ?_))
            try (rw [← hV4]; replace hV4 := hid hV4)
            clear hvs hfs blks
            have hcr := hid (show _ from treap_any _ U.next _ T.next V4 row4.out hUG.out.2.2.tr)
            have q0 := block_cell blk4.out 0
            have q1 := block_cell blk4.out 1
            go_wp2_with fail
            refine hcr.out.mono ?_
            rintro e w5 ⟨v5, rfl, hv5, hf5, hb5⟩
            obtain ⟨R, hR⟩ : ∃ R, R = (reapT U T.next).1 := ⟨_, rfl⟩
            rw [show (reapT ⟨U.next, U.n⟩ T.next).1 = R from hR.symm] at hv5 ⊢
            obtain ⟨ue2, hue2⟩ : ∃ ue, ue = (reapT ⟨U.next, U.n⟩ T.next).2 := ⟨_, rfl⟩
            rw [← hue2]
            have hRs := reap_step U T.next
            have hRg := reapT_good hUG.out.2.2 T.next
            rw [← hR] at hRs hRg
            have hRG := hid (show R.next = L.next ∧ R.n.length ≤ L.n.length ∧ Good R from ⟨hRs.1.trans hUG.out.1, by have := hUG.out.2.1; omega, hRg⟩)
            obtain ⟨a5, c5, rfl, _, _⟩ := hv5.form
            have blks := hid ((hb5.block _ (lt_of_block blk4.out)).trans blk4.out)
            have hlt4 := lt_of_block blk4.out
            have hvs := hid hv5
            have hfs := hid (show ∀ k, (Value.slice a5 R.n.length c5).ownBlock = some k → k5 < k from fun k hk => by have := hf5 k hk; omega)
            replace hB := hid (sn hB.out hb5)
            replace hR := hid hR
            replace hue2 := hid hue2
            clear hb5 hv5 hf5 hcr q0 q1 blk4 row4 hlt4 hRs hRg
            obtain ⟨V5, hV5⟩ : ∃ V, V = w5.setRow k5 #[.int .u64 (R.next : Int), .slice a5 R.n.length c5] := ⟨_, rfl⟩
            replace hB := hid (show Below w.heap.size w V5 by rw [hV5]; exact below_setRow hB.out hk5 _)
            have row5 := hid (show NodsAt V5 (.slice a5 R.n.length c5) R.n by rw [hV5]; exact NodsAt.other hvs.out k5 (fun e => by have := hfs.out _ e; omega) (by simp) (fun k hk => setRow_other _ _ _ _ hk))
            have blk5 := hid (show V5.heap[k5]? = some (.cells #[.int .u64 (R.next : Int), .slice a5 R.n.length c5] 25 (0, 0)) by rw [hV5]; exact setRow_heap _ _ _ _ _ _ blks.out)

            go_wp2_with (first
              | (rw [← hV5]; replace hV5 := hid hV5)
              | (refine wpList_store_row (by rfl) 25 (.tmp 5) (.tmp 66) (by rfl) k5 #[.int .u64 (R.next : Int), .slice a5 R.n.length c5] (by rfl) (by rfl) 25 _ blks.out (by kernel_rfl) (by kernel_rfl) (by kernel_rfl) ?_))
            try (rw [← hV5]; replace hV5 := hid hV5)
            clear hvs hfs blks
            go_wp2
            go_roundg (m - (i + 1))
            case measure => omega
            case rel => exact ⟨i + 1, T.next, R, a5, c5, by first | rfl | go_num, by first | rfl | go_num, by omega, by omega, hB, blk5, row5, hid ⟨hRG.out.2.2, by have := hRG.out.1; have := hL.out.1; have := hI.out.2.1; omega, by have := hRG.out.2.1; have := hL.out.2.1; have := hI.out.2.2.1; omega, by have := hRG.out.1; have := hL.out.1; omega, fun h => by omega⟩⟩
        · have hzz : ¬ (i : Int) < (zs.length : Int) := by omega
          have hzz2 : (zs.length : Int) ≤ (i : Int) := by omega
          clear y0 y1 blk8
          go_upto_region 16 with fail
          clear hzz hzz2
          -- unlinked, reaped
          have hcu := hid (show _ from tunlink_any _ L.next _ T.next ⟨#[97]⟩ 0 V3 row3.out hL.out.2.2.tr (by omega))
          have q0 := block_cell blk3.out 0
          have q1 := block_cell blk3.out 1
          go_wp2_with fail
          refine hcu.out.mono ?_
          rintro e w4 ⟨v4, rfl, hv4, hf4, hb4⟩
          obtain ⟨U, hU⟩ : ∃ U, U = (unlinkT L T.next ⟨#[97]⟩ 0).1 := ⟨_, rfl⟩
          rw [show (unlinkT ⟨L.next, L.n⟩ T.next ⟨#[97]⟩ 0).1 = U from hU.symm] at hv4 ⊢
          obtain ⟨ue, hue⟩ : ∃ ue, ue = (unlinkT ⟨L.next, L.n⟩ T.next ⟨#[97]⟩ 0).2 := ⟨_, rfl⟩
          rw [← hue]
          have hUs := un_step hL.out.2.2 T.next ⟨#[97]⟩ 0
          have hUg := unlinkT_good hL.out.2.2 T.next ⟨#[97]⟩ 0 vA (by omega) (sz1 _)
          rw [← hU] at hUs hUg
          have hUG := hid (show U.next = L.next ∧ U.n.length = L.n.length ∧ Good U from ⟨hUs.1, hUs.2, hUg⟩)
          obtain ⟨a4, c4, rfl, _, _⟩ := hv4.form
          have blks := hid ((hb4.block _ (lt_of_block blk3.out)).trans blk3.out)
          have hlt3 := lt_of_block blk3.out
          have hvs := hid hv4
          have hfs := hid (show ∀ k, (Value.slice a4 U.n.length c4).ownBlock = some k → k5 < k from fun k hk => by have := hf4 k hk; omega)
          replace hB := hid (sn hB.out hb4)
          replace hU := hid hU
          replace hue := hid hue
          clear hb4 hv4 hf4 hcu q0 q1 blk3 row3 hlt3 hUs hUg
          obtain ⟨V4, hV4⟩ : ∃ V, V = w4.setRow k5 #[.int .u64 (U.next : Int), .slice a4 U.n.length c4] := ⟨_, rfl⟩
          replace hB := hid (show Below w.heap.size w V4 by rw [hV4]; exact below_setRow hB.out hk5 _)
          have row4 := hid (show NodsAt V4 (.slice a4 U.n.length c4) U.n by rw [hV4]; exact NodsAt.other hvs.out k5 (fun e => by have := hfs.out _ e; omega) (by simp) (fun k hk => setRow_other _ _ _ _ hk))
          have blk4 := hid (show V4.heap[k5]? = some (.cells #[.int .u64 (U.next : Int), .slice a4 U.n.length c4] 25 (0, 0)) by rw [hV4]; exact setRow_heap _ _ _ _ _ _ blks.out)

          go_upto_region 17 with (first
            | (rw [← hV4]; replace hV4 := hid hV4)
            | (refine wpList_store_row (by rfl) 25 (.tmp 5) (.tmp 60) (by rfl) k5 #[.int .u64 (U.next : Int), .slice a4 U.n.length c4] (by rfl) (by rfl) 25 _ blks.out (by kernel_rfl) (by kernel_rfl) (by kernel_rfl) ?_))
          try (rw [← hV4]; replace hV4 := hid hV4)
          clear hvs hfs blks
          have hcr := hid (show _ from treap_any _ U.next _ T.next V4 row4.out hUG.out.2.2.tr)
          have q0 := block_cell blk4.out 0
          have q1 := block_cell blk4.out 1
          go_wp2_with fail
          refine hcr.out.mono ?_
          rintro e w5 ⟨v5, rfl, hv5, hf5, hb5⟩
          obtain ⟨R, hR⟩ : ∃ R, R = (reapT U T.next).1 := ⟨_, rfl⟩
          rw [show (reapT ⟨U.next, U.n⟩ T.next).1 = R from hR.symm] at hv5 ⊢
          obtain ⟨ue2, hue2⟩ : ∃ ue, ue = (reapT ⟨U.next, U.n⟩ T.next).2 := ⟨_, rfl⟩
          rw [← hue2]
          have hRs := reap_step U T.next
          have hRg := reapT_good hUG.out.2.2 T.next
          rw [← hR] at hRs hRg
          have hRG := hid (show R.next = L.next ∧ R.n.length ≤ L.n.length ∧ Good R from ⟨hRs.1.trans hUG.out.1, by have := hUG.out.2.1; omega, hRg⟩)
          obtain ⟨a5, c5, rfl, _, _⟩ := hv5.form
          have blks := hid ((hb5.block _ (lt_of_block blk4.out)).trans blk4.out)
          have hlt4 := lt_of_block blk4.out
          have hvs := hid hv5
          have hfs := hid (show ∀ k, (Value.slice a5 R.n.length c5).ownBlock = some k → k5 < k from fun k hk => by have := hf5 k hk; omega)
          replace hB := hid (sn hB.out hb5)
          replace hR := hid hR
          replace hue2 := hid hue2
          clear hb5 hv5 hf5 hcr q0 q1 blk4 row4 hlt4 hRs hRg
          obtain ⟨V5, hV5⟩ : ∃ V, V = w5.setRow k5 #[.int .u64 (R.next : Int), .slice a5 R.n.length c5] := ⟨_, rfl⟩
          replace hB := hid (show Below w.heap.size w V5 by rw [hV5]; exact below_setRow hB.out hk5 _)
          have row5 := hid (show NodsAt V5 (.slice a5 R.n.length c5) R.n by rw [hV5]; exact NodsAt.other hvs.out k5 (fun e => by have := hfs.out _ e; omega) (by simp) (fun k hk => setRow_other _ _ _ _ hk))
          have blk5 := hid (show V5.heap[k5]? = some (.cells #[.int .u64 (R.next : Int), .slice a5 R.n.length c5] 25 (0, 0)) by rw [hV5]; exact setRow_heap _ _ _ _ _ _ blks.out)

          go_wp2_with (first
            | (rw [← hV5]; replace hV5 := hid hV5)
            | (refine wpList_store_row (by rfl) 25 (.tmp 5) (.tmp 66) (by rfl) k5 #[.int .u64 (R.next : Int), .slice a5 R.n.length c5] (by rfl) (by rfl) 25 _ blks.out (by kernel_rfl) (by kernel_rfl) (by kernel_rfl) ?_))
          try (rw [← hV5]; replace hV5 := hid hV5)
          clear hvs hfs blks
          go_wp2
          go_roundg (m - (i + 1))
          case measure => omega
          case rel => exact ⟨i + 1, T.next, R, a5, c5, by first | rfl | go_num, by first | rfl | go_num, by omega, by omega, hB, blk5, row5, hid ⟨hRG.out.2.2, by have := hRG.out.1; have := hL.out.1; have := hI.out.2.1; omega, by have := hRG.out.2.1; have := hL.out.2.1; have := hI.out.2.2.1; omega, by have := hRG.out.1; have := hL.out.1; omega, fun h => by omega⟩⟩
      · rw [hmk] at hcm'
        replace hcm' := hid hcm'
        have hi0 : (0 : Int) < (i : Int) := by
          have := hI.out.2.2.2.2
          have : i ≠ 0 := fun e => by rw [this e] at hfs; cases hfs
          omega
        have hi1 : decide (0 < i) = true := decide_eq_true (by omega)
        replace hfs := hid hfs
        replace hmk := hid hmk
        go_wp2_with fail
        refine hcm'.out.mono ?_
        rintro e w2 ⟨v2, rfl, hv2, hf2, hb2⟩
        obtain ⟨a2, c2, rfl, _, _⟩ := hv2.form
        replace hB := hid (sn hB.out hb2)
        obtain ⟨V2, hV2⟩ : ∃ V, V = w2.alloc (.cells #[.int .u64 (T.next : Int), .slice a2 T.n.length c2] 25) := ⟨_, rfl⟩
        have hB2 := hid (show Below w.heap.size w V2 by rw [hV2]; exact hB.out.alloc hB.out.size _)
        clear hcm' q0 q1 hv2 hf2 hb2
        go_upto_region 9 with (rw [← hV2]; replace hV2 := hid hV2)
        try (rw [← hV2]; replace hV2 := hid hV2)
        go_wp2_with fail
        go_ret
        exact ⟨by first | rfl | exact ret_bool hi1, hB2.out⟩
    · have hiz : ¬ (i : Int) < (m : Int) := by omega
      go_wp2_with fail
      go_ret
      exact ⟨rfl, hB.out⟩
end Go.Proofs.Ytpmlhmficmillaa
