/- The law TreeWrites: what is written is read back. Conditions: the arguments as they come in. -/
import Derived.Test.YtpmlhmficmillaaTrWPZ
import Derived.Test.YtpmlhmficmillaaByMZ
namespace Go.Proofs.Ytpmlhmficmillaa
open Go.RowKit
set_option maxRecDepth 100000
set_option linter.unusedVariables false

set_option maxHeartbeats 12800000 in
theorem law_TreeWrites (a : ByteArray) (off : Nat) (b : ByteArray) (add : Bool) (w : World) (hoff : off < 65536) (hza : a.size ≤ maxLen) (hzb : b.size ≤ maxLen) :
    Calls Try.prog 4 #[.string a, .int .u16 (off : Int), .string b, .bool add] w fun e w' => e = .returned (.bool true) ∧ Below w.heap.size w w' := by
  have hk17 := hid (known17_any w)
  unfold maxLen at hza hzb
  go_enter Try.func4, Try.ntmps4
  go_wp2_with fail
  refine hk17.out.mono ?_
  rintro e w0 ⟨rfl, hb0⟩
  have hB := hid hb0
  clear hb0 hk17
  by_cases h1 : a.size ≤ 300
  case neg =>
    have z1 : (300 : Int) < (a.size : Int) := by omega
    go_wp2_with fail
    go_ret
    exact ⟨rfl, hB.out⟩
  by_cases hb1 : b.size ≤ 300
  case neg =>
    have z1 : ¬ (300 : Int) < (a.size : Int) := by omega
    have z2 : (300 : Int) < (b.size : Int) := by omega
    go_wp2_with fail
    go_ret
    exact ⟨rfl, hB.out⟩
  by_cases h0 : a.size = 0
  · have z1 : ¬ (300 : Int) < (a.size : Int) := by omega
    have z2 : ¬ (300 : Int) < (b.size : Int) := by omega
    obtain ⟨z3, z4⟩ := str_empty h0
    go_wp2_with fail
    go_ret
    exact ⟨rfl, hB.out⟩
  by_cases hb0 : b.size = 0
  · have z1 : ¬ (300 : Int) < (a.size : Int) := by omega
    have z2 : ¬ (300 : Int) < (b.size : Int) := by omega
    obtain ⟨z3, z4⟩ := str_full (t := a) (by omega)
    obtain ⟨z5, z6⟩ := str_empty hb0
    go_wp2_with fail
    go_ret
    exact ⟨rfl, hB.out⟩
  have z1 : ¬ (300 : Int) < (a.size : Int) := by omega
  have z2 : ¬ (300 : Int) < (b.size : Int) := by omega
  obtain ⟨z3, z4⟩ := str_full (t := a) (by omega)
  obtain ⟨z5, z6⟩ := str_full (t := b) (by omega)
  obtain ⟨o, ho⟩ : ∃ o, o = if add then a.size else off := ⟨_, rfl⟩
  have ho65 : o < 65536 := by rw [ho]; split <;> omega
  cases add with
  | true =>
    have ho1 : o = a.size := ho
    subst ho1
    replace ho := hid ho
    go_upto_region 8 with fail
    clear z1 z2 z3 z4 z5 z6
    have hM : modeW true = 1073742244 := rfl
    have hW1 := W1_is true
    rw [hM] at hW1
    have hG1 := W1_good true
    obtain ⟨T1, hT1⟩ : ∃ T, T = W1 true := ⟨_, rfl⟩
    rw [← hT1] at hW1 hG1
    obtain ⟨T2, f, hp2, hG2, hg2, hda, hap, hdd, hby⟩ := w2 true a h0 h1
    rw [← hT1] at hp2
    have hw3 := w3 (add := true) hG2 hg2 hda hap hdd hby h1 b hb0 hb1 off a.size ho.out
    replace hG1 := hid hG1
    replace hG2 := hid hG2
    replace hp2 := hid hp2
    replace hg2 := hid hg2
    replace hda := hid hda
    replace hap := hid hap
    replace hby := hid hby
    replace hdd := hid hdd
    replace hw3 := hid hw3
    replace hT1 := hid hT1
    replace hM := hid hM
    replace hW1 := hid hW1
    have hc1 := hid (new_any ⟨#[97]⟩ 0 w0)
    go_wp2_with fail
    refine hc1.out.mono ?_
    rintro e w1 ⟨v1, rfl, hv1, hb1⟩
    obtain ⟨a1, c1, rfl, _, _⟩ := hv1.form
    change NodsAt w1 (.slice a1 K0.n.length c1) K0.n at hv1
    clear hc1
    have hc2 := hid (show _ from tmake_any _ K0.next _ 1 ⟨#[102]⟩ 1073742244 ⟨#[97]⟩ ⟨#[97]⟩ 0 w1 hv1 G0.tr (sz1 _) (by have := G0.next; omega) (fun n hn => (G0.ok.low n hn).2) (by omega) (by omega))
    have hc2' := hc2.out
    rw [show (⟨K0.next, K0.n⟩ : Tr) = K0 from rfl, hW1.out] at hc2'
    replace hc2' := hid hc2'
    clear hc2
    replace hB := hid (sn hB.out hb1)
    go_wp2_with fail
    refine hc2'.out.mono ?_
    rintro e w2 ⟨v2, rfl, hv2, hf2, hb2⟩
    obtain ⟨a2, c2, rfl, _, _⟩ := hv2.form
    clear hc2' hv1 hb1
    obtain ⟨k10, hk10⟩ : ∃ k, k = w2.heap.size := ⟨_, rfl⟩
    obtain ⟨V2, hV2⟩ : ∃ V, V = w2.alloc (.cells #[.int .u64 (T1.next : Int), .slice a2 T1.n.length c2] 25) := ⟨_, rfl⟩
    have hbV : Below w2.heap.size w2 V2 := by rw [hV2]; exact (Below.refl _ _).alloc (Nat.le_refl _) _
    have blk2 := hid (show V2.heap[k10]? = some (.cells #[.int .u64 (T1.next : Int), .slice a2 T1.n.length c2] 25 (0, 0)) by rw [hk10, hV2]; exact heap_alloc_new _ _)
    have row2 := hid (hv2.below hbV)
    have hbx := sn hb2 hbV
    have hlo2 : w.heap.size ≤ k10 := by rw [hk10]; exact Nat.le_trans hB.out.size hb2.size
    replace hB := hid (sn hB.out hbx)
    have q0 := block_cell blk2.out 0
    have q1 := block_cell blk2.out 1
    clear hbV hbx hb2 hv2 hf2
    go_upto_region 9 with (rw [← hV2]; replace hV2 := hid hV2)
    try (rw [← hV2]; replace hV2 := hid hV2)
    rw [← hk10]
    replace hk10 := hid hk10
    have hc3 := hid (show _ from tput_any _ T1.next _ 2 0 a ⟨#[97]⟩ 1 V2 row2.out hG1.out.tr (by omega) (by omega))
    have hc3' := hc3.out
    rw [show (⟨T1.next, T1.n⟩ : Tr) = T1 from rfl, hp2.out] at hc3'
    replace hc3' := hid hc3'
    clear hc3
    go_wp2_with fail
    refine hc3'.out.mono ?_
    rintro e w3 ⟨v3, rfl, hv3, hf3, hb3⟩
    obtain ⟨a3, c3, rfl, _, _⟩ := hv3.form
    have hlt := lt_of_block blk2.out
    have blkn := hid ((hb3.block _ hlt).trans blk2.out)
    obtain ⟨V3, hV3⟩ : ∃ V, V = w3.setRow k10 #[.int .u64 (T2.next : Int), .slice a3 T2.n.length c3] := ⟨_, rfl⟩
    replace hB := hid (show Below w.heap.size w V3 by rw [hV3]; exact below_setRow (sn hB.out hb3) hlo2 _)
    have row3 := hid (show NodsAt V3 (.slice a3 T2.n.length c3) T2.n by rw [hV3]; exact NodsAt.other hv3 k10 (fun e => by have := hf3 _ e; omega) (by simp) (fun k hk => setRow_other _ _ _ _ hk))
    have blk3 := hid (show V3.heap[k10]? = some (.cells #[.int .u64 (T2.next : Int), .slice a3 T2.n.length c3] 25 (0, 0)) by rw [hV3]; exact setRow_heap _ _ _ _ _ _ blkn.out)
    clear q0 q1 hlt hb3 hv3 hf3 hc3'
    have q0 := block_cell blk3.out 0
    have q1 := block_cell blk3.out 1
    go_upto_region 10 with (first
      | (rw [← hV3]; replace hV3 := hid hV3)
      | (refine wpList_store_row (by rfl) 25 (.tmp 10) (.tmp 55) (by rfl) k10 #[.int .u64 (T2.next : Int), .slice a3 T2.n.length c3] (by rfl) (by rfl) 25 _ blkn.out (by kernel_rfl) (by kernel_rfl) (by kernel_rfl) ?_))
    try (rw [← hV3]; replace hV3 := hid hV3)
    clear blkn blk2 row2
    have hc4 := hid (show _ from tput_any _ T2.next _ 2 off b ⟨#[97]⟩ 2 V3 row3.out hG2.out.tr (by omega) (by omega))
    have hc4' := hc4.out
    rw [show (⟨T2.next, T2.n⟩ : Tr) = T2 from rfl] at hc4'
    clear hc4
    have hdz : f.data.size ≤ 5000 := by rw [hda.out]; omega
    by_cases hfar : 4096 < a.size + b.size
    · rw [hw3.out.1 hfar] at hc4'
      replace hc4' := hid hc4'
      have ht4 := hid (w4 hg2.out hdd.out hdz)
      obtain ⟨ob, hob⟩ : ∃ z, z = a.size + b.size := ⟨_, rfl⟩
      have kob : IntKind.i64.wrap ((a.size : Int) + (b.size : Int)) = (ob : Int) := by rw [IntWalk.i64_in _ (by omega)]; omega
      have zob : (4096 : Int) < (ob : Int) := by omega
      replace hob := hid hob
      exfalso; omega
    · obtain ⟨T3, f2, hp3, hG3, hg3, hd3, hdd3⟩ := hw3.out.2 (by omega)
      rw [hp3] at hc4'
      have hps := putD_size a a.size b
      have ht4 := hid (w4 hg3 hdd3 (by rw [hd3, hps]; omega))
      replace hc4' := hid hc4'
      replace hps := hid hps
      replace hp3 := hid hp3
      replace hG3 := hid hG3
      replace hg3 := hid hg3
      replace hdd3 := hid hdd3
      replace hd3 := hid hd3
      obtain ⟨ob, hob⟩ : ∃ z, z = a.size + b.size := ⟨_, rfl⟩
      have kob : IntKind.i64.wrap ((a.size : Int) + (b.size : Int)) = (ob : Int) := by rw [IntWalk.i64_in _ (by omega)]; omega
      have zob : ¬ (4096 : Int) < (ob : Int) := by omega
      have hob1 : ob ≤ 4096 := by omega
      replace hob := hid hob
      go_wp2_with fail
      refine hc4'.out.mono ?_
      rintro e w4 ⟨v4, rfl, hv4, hf4, hb4⟩
      obtain ⟨a4, c4, rfl, _, _⟩ := hv4.form
      clear hc4' q0 q1
      obtain ⟨k14, hk14⟩ : ∃ k, k = w4.heap.size := ⟨_, rfl⟩
      obtain ⟨V4, hV4⟩ : ∃ V, V = w4.alloc (.cells #[.int .u64 (T3.next : Int), .slice a4 T3.n.length c4] 25) := ⟨_, rfl⟩
      have hbV : Below w4.heap.size w4 V4 := by rw [hV4]; exact (Below.refl _ _).alloc (Nat.le_refl _) _
      have blk4 := hid (show V4.heap[k14]? = some (.cells #[.int .u64 (T3.next : Int), .slice a4 T3.n.length c4] 25 (0, 0)) by rw [hk14, hV4]; exact heap_alloc_new _ _)
      have row4 := hid (hv4.below hbV)
      have hbx := sn hb4 hbV
      have hlo4 : w.heap.size ≤ k14 := by rw [hk14]; exact Nat.le_trans hB.out.size hb4.size
      replace hB := hid (sn hB.out hbx)
      have q0 := block_cell blk4.out 0
      have q1 := block_cell blk4.out 1
      clear hbV hbx hb4 hv4 hf4
      go_upto_region 11 with (rw [← hV4]; replace hV4 := hid hV4)
      try (rw [← hV4]; replace hV4 := hid hV4)
      rw [← hk14]
      replace hk14 := hid hk14
      have hc5 := hid (show _ from ttake_any _ T3.next _ 2 0 5000 3 V4 row4.out hG3.out.tr (by omega) (by omega))
      go_wp2_with fail
      refine hc5.out.mono ?_
      rintro e w5 ⟨v5, rfl, hv5, hf5, hb5⟩
      have ht5 := ht4.out
      rw [show (⟨T3.next, T3.n⟩ : Tr) = T3 from rfl] at hv5 ⊢
      obtain ⟨T4, hT4⟩ : ∃ T, T = (takeT T3 2 0 5000 3).1 := ⟨_, rfl⟩
      rw [ht5, ← hT4]
      rw [← hT4] at hv5
      replace hT4 := hid hT4
      obtain ⟨a5, c5, rfl, _, _⟩ := hv5.form
      clear hc5 q0 q1 ht5
      obtain ⟨k17, hk17⟩ : ∃ k, k = w5.heap.size := ⟨_, rfl⟩
      obtain ⟨V5, hV5⟩ : ∃ V, V = w5.alloc (.cells #[.int .u64 (T4.next : Int), .slice a5 T4.n.length c5] 25) := ⟨_, rfl⟩
      have hbV : Below w5.heap.size w5 V5 := by rw [hV5]; exact (Below.refl _ _).alloc (Nat.le_refl _) _
      have blk5 := hid (show V5.heap[k17]? = some (.cells #[.int .u64 (T4.next : Int), .slice a5 T4.n.length c5] 25 (0, 0)) by rw [hk17, hV5]; exact heap_alloc_new _ _)
      have row5 := hid (hv5.below hbV)
      have hbx := sn hb5 hbV
      have hlo5 : w.heap.size ≤ k17 := by rw [hk17]; exact Nat.le_trans hB.out.size hb5.size
      replace hB := hid (sn hB.out hbx)
      have q0 := block_cell blk5.out 0
      have q1 := block_cell blk5.out 1
      clear hbV hbx hb5 hv5 hf5
      go_upto_region 15 with (rw [← hV5]; replace hV5 := hid hV5)
      try (rw [← hV5]; replace hV5 := hid hV5)
      rw [← hk17]
      replace hk17 := hid hk17
      obtain ⟨cw, w6, hcv, hby6, hb6⟩ := run_bytes V5 a (by unfold maxLen; omega) w.heap.size hB.out.size
      have hB6 := hid (sn hB.out hb6)
      replace hby6 := hid hby6
      obtain ⟨kw, hkw⟩ : ∃ k, k = V5.heap.size := ⟨_, rfl⟩
      rw [← hkw] at hcv hby6
      replace hkw := hid hkw
      clear hb6 q0 q1
      have hla := hid (show a.data.toList.length = a.size by simp)
      have hlb := hid (show b.data.toList.length = b.size by simp)
      go_wp2_with fail
      clear hcv
      go_loopg [20] ob (fun g1 vw wr => ∃ (g n c k : Nat) (l : List UInt8), vw = .slice (some ⟨g, 0, none⟩) n c ∧ Hid (n = l.length) ∧ Hid (l = a.data.toList ++ List.replicate k 0) ∧ k + a.size ≤ n ∧ n ≤ k + a.size ∧ (k = 0 ∨ n ≤ ob) ∧ ob - n ≤ g1 ∧ Hid (ByM wr w.heap.size (.slice (some ⟨g, 0, none⟩) n c) l) ∧ Hid (Below w.heap.size w wr))
      case atStart => exact ⟨kw, a.size, cw, 0, a.data.toList, by first | rfl | go_num, hid hla.out.symm, hid (by simp), by omega, by omega, .inl rfl, by omega, hby6, hB6⟩
      case round =>
        clear hby6 hB6 hB
        obtain ⟨g, n, c, k, l, rfl, hn, hl, hk1, hk2, hk3, hg1, hby6, hB⟩ := hrel
        by_cases hno : n < ob
        · have hnz : (n : Int) < (ob : Int) := by omega
          have hn1 := hid (show l.length + 1 ≤ 1000000 by have := hn.out; omega)
          obtain ⟨W7, hW7⟩ : ∃ W, W = wr.alloc (.cells #[.int .u8 0] 5) := ⟨_, rfl⟩
          have hb7 : Below wr.heap.size wr W7 := by rw [hW7]; exact (Below.refl _ _).alloc (Nat.le_refl _) _
          have hsrc := hid (show W7.cell? (((⟨wr.heap.size, 0, none⟩ : Addr)).add 0) = some (byteV 0) by
            rw [add_plain', hW7]; exact block_cell (heap_alloc_new wr (.cells #[.int .u8 0] 5)) 0)
          have hby7 := hid (hby6.out.below hb7)
          replace hB := hid (sn hB.out hb7)
          clear hb7
          go_wp2_with (first
            | (rw [← hW7]; replace hW7 := hid hW7)
            | (at_builtin; refine wpList_append_byte _ rfl (.tmp 103) (.tmp 104) rfl w.heap.size g n c l rfl hby7.out 0 ⟨wr.heap.size, 0, none⟩ 1 rfl hsrc.out hn1.out hB.out.size ?_))
          intro a' c' w' h8 h9
          have h8' := hid h8
          have hB8 := hid (hB.out.trans h9)
          clear h8 h9
          go_wp2_with fail
          go_roundg (ob - (n + 1))
          case measure => omega
          case rel => exact ⟨a', n + 1, c', k + 1, l ++ [0], by first | rfl | go_num, hid (by rw [List.length_append, ← hn.out]; rfl), hid (by rw [hl.out, List.append_assoc]; congr 1; rw [List.replicate_succ'] ), by omega, by omega, .inr (by omega), Nat.le_refl _, h8', hB8⟩
        · have hnz : ¬ (n : Int) < (ob : Int) := by omega
          have hpad := hid (show l = padA a.data.toList ob by
            rw [hl.out]; unfold padA; congr 2; have := hla.out; have := hn.out; omega)
          have hlen := hid (show l.length = n from hn.out.symm)
          have hfit := hid (show a.size + b.data.toList.length ≤ l.length by have := hn.out; have := hlb.out; have := hob.out; omega)
          have hn46 : n ≤ 5000 := by omega
          have hon : ob ≤ n := by omega
          have L0 := hid (lay_zero l b.data.toList a.size)
          go_wp2_with fail
          go_loopg [21] b.size (fun g2 vi wr2 => ∃ (i : Nat), vi = .int .i64 (i : Int) ∧ i ≤ b.size ∧ b.size - i ≤ g2 ∧ Hid (ByM wr2 w.heap.size (.slice (some ⟨g, 0, none⟩) n c) (lay l b.data.toList a.size i)) ∧ Hid (Below w.heap.size w wr2))
          case atStart => exact ⟨0, by first | rfl | go_num, by omega, by omega, by rw [L0.out]; exact hby6, hB⟩
          case round =>
            clear hby6 hB
            obtain ⟨i, rfl, hib, hg2', hby6, hB⟩ := hrel
            by_cases hil : i < b.size
            · have hiz : (i : Int) < (b.size : Int) := by omega
              obtain ⟨q, hq⟩ : ∃ q, q = a.size + i := ⟨_, rfl⟩
              have kq : IntKind.i64.wrap ((a.size : Int) + (i : Int)) = (q : Int) := by rw [IntWalk.i64_in _ (by omega)]; omega
              have hob2 := hob.out
              have hqn : q < n := by omega
              have hqz : (q : Int) < (n : Int) := by omega
              have hil2 : i < b.data.toList.length := by rw [hlb.out]; exact hil
              have hll := lay_length hfit.out (i := i) (by rw [hlb.out]; exact hib)
              obtain ⟨e1, e2, e3, e4, e5, e6, e7⟩ := hby6.out.cells
              have hcq := (e7 q (by omega)).2
              have hfq := (e7 q (by omega)).1
              obtain ⟨old, hold⟩ := Option.isSome_iff_exists.1 hcq
              have hst := lay_step hfit.out hil2
              obtain ⟨Y, hY⟩ : ∃ Y, Y = wr.setCell ⟨g, q, none⟩ (.int .u8 (b[i].toNat : Int)) := ⟨_, rfl⟩
              have hYv : (Value.int .u8 (b[i].toNat : Int)) = byteV b.data.toList[i] := rfl
              have hbyY := hid (show ByM Y w.heap.size (.slice (some ⟨g, 0, none⟩) n c) (lay l b.data.toList a.size (i + 1)) by
                rw [← hst, hY, hYv, ← hq]
                have hln := hlen.out
                have hbb := hby6.out
                rw [show n = (lay l b.data.toList a.size i).length from (hll.trans hln).symm] at hbb ⊢
                exact hbb.set (by rw [hll]; omega))
              have hBY := hid (show Below w.heap.size w Y by rw [hY]; exact hB.out.setCell (p := ⟨g, q, none⟩) e4 _)
              replace hYv := hid hYv
              replace hst := hid hst
              replace hq := hid hq
              clear e1 e2 e3 e4 e5 e6 e7 hcq hll hob2
              go_wp2_with (rw [← hY]; replace hY := hid hY)
              try (rw [← hY])
              go_wp2
              go_roundg (b.size - (i + 1))
              case measure => omega
              case rel => exact ⟨i + 1, by first | rfl | go_num, by omega, Nat.le_refl _, hbyY, hBY⟩
            · have hiz : ¬ (i : Int) < (b.size : Int) := by omega
              have hie : i = b.size := by omega
              subst hie
              have hcv := conv_string wr _ _ hby6.out.at
              have hfin := lay_done a b a.size
              rw [← hob.out, ← hpad.out] at hfin
              rw [hfin, ← hd3.out] at hcv
              have hnn : (lay l b.data.toList a.size b.size).length = n := by rw [lay_length hfit.out (by rw [hlb.out]; exact Nat.le_refl _)]; exact hlen.out
              replace hfin := hid hfin
              replace hnn := hid hnn
              go_wp2_with fail
              go_ret
              exact ⟨rfl, hB.out⟩
  | false =>
    have ho1 : o = off := ho
    subst ho1
    replace ho := hid ho
    go_upto_region 8 with fail
    clear z1 z2 z3 z4 z5 z6
    have hM : modeW false = 420 := rfl
    have hW1 := W1_is false
    rw [hM] at hW1
    have hG1 := W1_good false
    obtain ⟨T1, hT1⟩ : ∃ T, T = W1 false := ⟨_, rfl⟩
    rw [← hT1] at hW1 hG1
    obtain ⟨T2, f, hp2, hG2, hg2, hda, hap, hdd, hby⟩ := w2 false a h0 h1
    rw [← hT1] at hp2
    have hw3 := w3 (add := false) hG2 hg2 hda hap hdd hby h1 b hb0 hb1 o o ho.out
    replace hG1 := hid hG1
    replace hG2 := hid hG2
    replace hp2 := hid hp2
    replace hg2 := hid hg2
    replace hda := hid hda
    replace hap := hid hap
    replace hby := hid hby
    replace hdd := hid hdd
    replace hw3 := hid hw3
    replace hT1 := hid hT1
    replace hM := hid hM
    replace hW1 := hid hW1
    have hc1 := hid (new_any ⟨#[97]⟩ 0 w0)
    go_wp2_with fail
    refine hc1.out.mono ?_
    rintro e w1 ⟨v1, rfl, hv1, hb1⟩
    obtain ⟨a1, c1, rfl, _, _⟩ := hv1.form
    change NodsAt w1 (.slice a1 K0.n.length c1) K0.n at hv1
    clear hc1
    have hc2 := hid (show _ from tmake_any _ K0.next _ 1 ⟨#[102]⟩ 420 ⟨#[97]⟩ ⟨#[97]⟩ 0 w1 hv1 G0.tr (sz1 _) (by have := G0.next; omega) (fun n hn => (G0.ok.low n hn).2) (by omega) (by omega))
    have hc2' := hc2.out
    rw [show (⟨K0.next, K0.n⟩ : Tr) = K0 from rfl, hW1.out] at hc2'
    replace hc2' := hid hc2'
    clear hc2
    replace hB := hid (sn hB.out hb1)
    go_wp2_with fail
    refine hc2'.out.mono ?_
    rintro e w2 ⟨v2, rfl, hv2, hf2, hb2⟩
    obtain ⟨a2, c2, rfl, _, _⟩ := hv2.form
    clear hc2' hv1 hb1
    obtain ⟨k10, hk10⟩ : ∃ k, k = w2.heap.size := ⟨_, rfl⟩
    obtain ⟨V2, hV2⟩ : ∃ V, V = w2.alloc (.cells #[.int .u64 (T1.next : Int), .slice a2 T1.n.length c2] 25) := ⟨_, rfl⟩
    have hbV : Below w2.heap.size w2 V2 := by rw [hV2]; exact (Below.refl _ _).alloc (Nat.le_refl _) _
    have blk2 := hid (show V2.heap[k10]? = some (.cells #[.int .u64 (T1.next : Int), .slice a2 T1.n.length c2] 25 (0, 0)) by rw [hk10, hV2]; exact heap_alloc_new _ _)
    have row2 := hid (hv2.below hbV)
    have hbx := sn hb2 hbV
    have hlo2 : w.heap.size ≤ k10 := by rw [hk10]; exact Nat.le_trans hB.out.size hb2.size
    replace hB := hid (sn hB.out hbx)
    have q0 := block_cell blk2.out 0
    have q1 := block_cell blk2.out 1
    clear hbV hbx hb2 hv2 hf2
    go_upto_region 9 with (rw [← hV2]; replace hV2 := hid hV2)
    try (rw [← hV2]; replace hV2 := hid hV2)
    rw [← hk10]
    replace hk10 := hid hk10
    have hc3 := hid (show _ from tput_any _ T1.next _ 2 0 a ⟨#[97]⟩ 1 V2 row2.out hG1.out.tr (by omega) (by omega))
    have hc3' := hc3.out
    rw [show (⟨T1.next, T1.n⟩ : Tr) = T1 from rfl, hp2.out] at hc3'
    replace hc3' := hid hc3'
    clear hc3
    go_wp2_with fail
    refine hc3'.out.mono ?_
    rintro e w3 ⟨v3, rfl, hv3, hf3, hb3⟩
    obtain ⟨a3, c3, rfl, _, _⟩ := hv3.form
    have hlt := lt_of_block blk2.out
    have blkn := hid ((hb3.block _ hlt).trans blk2.out)
    obtain ⟨V3, hV3⟩ : ∃ V, V = w3.setRow k10 #[.int .u64 (T2.next : Int), .slice a3 T2.n.length c3] := ⟨_, rfl⟩
    replace hB := hid (show Below w.heap.size w V3 by rw [hV3]; exact below_setRow (sn hB.out hb3) hlo2 _)
    have row3 := hid (show NodsAt V3 (.slice a3 T2.n.length c3) T2.n by rw [hV3]; exact NodsAt.other hv3 k10 (fun e => by have := hf3 _ e; omega) (by simp) (fun k hk => setRow_other _ _ _ _ hk))
    have blk3 := hid (show V3.heap[k10]? = some (.cells #[.int .u64 (T2.next : Int), .slice a3 T2.n.length c3] 25 (0, 0)) by rw [hV3]; exact setRow_heap _ _ _ _ _ _ blkn.out)
    clear q0 q1 hlt hb3 hv3 hf3 hc3'
    have q0 := block_cell blk3.out 0
    have q1 := block_cell blk3.out 1
    go_upto_region 10 with (first
      | (rw [← hV3]; replace hV3 := hid hV3)
      | (refine wpList_store_row (by rfl) 25 (.tmp 10) (.tmp 55) (by rfl) k10 #[.int .u64 (T2.next : Int), .slice a3 T2.n.length c3] (by rfl) (by rfl) 25 _ blkn.out (by kernel_rfl) (by kernel_rfl) (by kernel_rfl) ?_))
    try (rw [← hV3]; replace hV3 := hid hV3)
    clear blkn blk2 row2
    have hc4 := hid (show _ from tput_any _ T2.next _ 2 o b ⟨#[97]⟩ 2 V3 row3.out hG2.out.tr (by omega) (by omega))
    have hc4' := hc4.out
    rw [show (⟨T2.next, T2.n⟩ : Tr) = T2 from rfl] at hc4'
    clear hc4
    have hdz : f.data.size ≤ 5000 := by rw [hda.out]; omega
    by_cases hfar : 4096 < o + b.size
    · rw [hw3.out.1 hfar] at hc4'
      replace hc4' := hid hc4'
      have ht4 := hid (w4 hg2.out hdd.out hdz)
      obtain ⟨ob, hob⟩ : ∃ z, z = o + b.size := ⟨_, rfl⟩
      have kob : IntKind.i64.wrap ((o : Int) + (b.size : Int)) = (ob : Int) := by rw [IntWalk.i64_in _ (by omega)]; omega
      have zob : (4096 : Int) < (ob : Int) := by omega
      replace hob := hid hob
      go_wp2_with fail
      refine hc4'.out.mono ?_
      rintro e w4 ⟨v4, rfl, hv4, hf4, hb4⟩
      obtain ⟨a4, c4, rfl, _, _⟩ := hv4.form
      clear hc4' q0 q1
      obtain ⟨k14, hk14⟩ : ∃ k, k = w4.heap.size := ⟨_, rfl⟩
      obtain ⟨V4, hV4⟩ : ∃ V, V = w4.alloc (.cells #[.int .u64 (T2.next : Int), .slice a4 T2.n.length c4] 25) := ⟨_, rfl⟩
      have hbV : Below w4.heap.size w4 V4 := by rw [hV4]; exact (Below.refl _ _).alloc (Nat.le_refl _) _
      have blk4 := hid (show V4.heap[k14]? = some (.cells #[.int .u64 (T2.next : Int), .slice a4 T2.n.length c4] 25 (0, 0)) by rw [hk14, hV4]; exact heap_alloc_new _ _)
      have row4 := hid (hv4.below hbV)
      have hbx := sn hb4 hbV
      have hlo4 : w.heap.size ≤ k14 := by rw [hk14]; exact Nat.le_trans hB.out.size hb4.size
      replace hB := hid (sn hB.out hbx)
      have q0 := block_cell blk4.out 0
      have q1 := block_cell blk4.out 1
      clear hbV hbx hb4 hv4 hf4
      go_upto_region 11 with (rw [← hV4]; replace hV4 := hid hV4)
      try (rw [← hV4]; replace hV4 := hid hV4)
      rw [← hk14]
      replace hk14 := hid hk14
      have hc5 := hid (show _ from ttake_any _ T2.next _ 2 0 5000 3 V4 row4.out hG2.out.tr (by omega) (by omega))
      go_wp2_with fail
      refine hc5.out.mono ?_
      rintro e w5 ⟨v5, rfl, hv5, hf5, hb5⟩
      have ht5 := ht4.out
      rw [show (⟨T2.next, T2.n⟩ : Tr) = T2 from rfl] at hv5 ⊢
      obtain ⟨T4, hT4⟩ : ∃ T, T = (takeT T2 2 0 5000 3).1 := ⟨_, rfl⟩
      rw [ht5, ← hT4]
      rw [← hT4] at hv5
      replace hT4 := hid hT4
      obtain ⟨a5, c5, rfl, _, _⟩ := hv5.form
      clear hc5 q0 q1 ht5
      obtain ⟨k17, hk17⟩ : ∃ k, k = w5.heap.size := ⟨_, rfl⟩
      obtain ⟨V5, hV5⟩ : ∃ V, V = w5.alloc (.cells #[.int .u64 (T4.next : Int), .slice a5 T4.n.length c5] 25) := ⟨_, rfl⟩
      have hbV : Below w5.heap.size w5 V5 := by rw [hV5]; exact (Below.refl _ _).alloc (Nat.le_refl _) _
      have blk5 := hid (show V5.heap[k17]? = some (.cells #[.int .u64 (T4.next : Int), .slice a5 T4.n.length c5] 25 (0, 0)) by rw [hk17, hV5]; exact heap_alloc_new _ _)
      have row5 := hid (hv5.below hbV)
      have hbx := sn hb5 hbV
      have hlo5 : w.heap.size ≤ k17 := by rw [hk17]; exact Nat.le_trans hB.out.size hb5.size
      replace hB := hid (sn hB.out hbx)
      have q0 := block_cell blk5.out 0
      have q1 := block_cell blk5.out 1
      clear hbV hbx hb5 hv5 hf5
      go_upto_region 15 with (rw [← hV5]; replace hV5 := hid hV5)
      try (rw [← hV5]; replace hV5 := hid hV5)
      rw [← hk17]
      replace hk17 := hid hk17
      have hsq : (f.data.toList == a.toList) = true := by rw [hda.out]; exact beq_self_eq_true _
      go_wp2_with fail
      go_ret
      exact ⟨rfl, hB.out⟩
    · obtain ⟨T3, f2, hp3, hG3, hg3, hd3, hdd3⟩ := hw3.out.2 (by omega)
      rw [hp3] at hc4'
      have hps := putD_size a o b
      have ht4 := hid (w4 hg3 hdd3 (by rw [hd3, hps]; omega))
      replace hc4' := hid hc4'
      replace hps := hid hps
      replace hp3 := hid hp3
      replace hG3 := hid hG3
      replace hg3 := hid hg3
      replace hdd3 := hid hdd3
      replace hd3 := hid hd3
      obtain ⟨ob, hob⟩ : ∃ z, z = o + b.size := ⟨_, rfl⟩
      have kob : IntKind.i64.wrap ((o : Int) + (b.size : Int)) = (ob : Int) := by rw [IntWalk.i64_in _ (by omega)]; omega
      have zob : ¬ (4096 : Int) < (ob : Int) := by omega
      have hob1 : ob ≤ 4096 := by omega
      replace hob := hid hob
      go_wp2_with fail
      refine hc4'.out.mono ?_
      rintro e w4 ⟨v4, rfl, hv4, hf4, hb4⟩
      obtain ⟨a4, c4, rfl, _, _⟩ := hv4.form
      clear hc4' q0 q1
      obtain ⟨k14, hk14⟩ : ∃ k, k = w4.heap.size := ⟨_, rfl⟩
      obtain ⟨V4, hV4⟩ : ∃ V, V = w4.alloc (.cells #[.int .u64 (T3.next : Int), .slice a4 T3.n.length c4] 25) := ⟨_, rfl⟩
      have hbV : Below w4.heap.size w4 V4 := by rw [hV4]; exact (Below.refl _ _).alloc (Nat.le_refl _) _
      have blk4 := hid (show V4.heap[k14]? = some (.cells #[.int .u64 (T3.next : Int), .slice a4 T3.n.length c4] 25 (0, 0)) by rw [hk14, hV4]; exact heap_alloc_new _ _)
      have row4 := hid (hv4.below hbV)
      have hbx := sn hb4 hbV
      have hlo4 : w.heap.size ≤ k14 := by rw [hk14]; exact Nat.le_trans hB.out.size hb4.size
      replace hB := hid (sn hB.out hbx)
      have q0 := block_cell blk4.out 0
      have q1 := block_cell blk4.out 1
      clear hbV hbx hb4 hv4 hf4
      go_upto_region 11 with (rw [← hV4]; replace hV4 := hid hV4)
      try (rw [← hV4]; replace hV4 := hid hV4)
      rw [← hk14]
      replace hk14 := hid hk14
      have hc5 := hid (show _ from ttake_any _ T3.next _ 2 0 5000 3 V4 row4.out hG3.out.tr (by omega) (by omega))
      go_wp2_with fail
      refine hc5.out.mono ?_
      rintro e w5 ⟨v5, rfl, hv5, hf5, hb5⟩
      have ht5 := ht4.out
      rw [show (⟨T3.next, T3.n⟩ : Tr) = T3 from rfl] at hv5 ⊢
      obtain ⟨T4, hT4⟩ : ∃ T, T = (takeT T3 2 0 5000 3).1 := ⟨_, rfl⟩
      rw [ht5, ← hT4]
      rw [← hT4] at hv5
      replace hT4 := hid hT4
      obtain ⟨a5, c5, rfl, _, _⟩ := hv5.form
      clear hc5 q0 q1 ht5
      obtain ⟨k17, hk17⟩ : ∃ k, k = w5.heap.size := ⟨_, rfl⟩
      obtain ⟨V5, hV5⟩ : ∃ V, V = w5.alloc (.cells #[.int .u64 (T4.next : Int), .slice a5 T4.n.length c5] 25) := ⟨_, rfl⟩
      have hbV : Below w5.heap.size w5 V5 := by rw [hV5]; exact (Below.refl _ _).alloc (Nat.le_refl _) _
      have blk5 := hid (show V5.heap[k17]? = some (.cells #[.int .u64 (T4.next : Int), .slice a5 T4.n.length c5] 25 (0, 0)) by rw [hk17, hV5]; exact heap_alloc_new _ _)
      have row5 := hid (hv5.below hbV)
      have hbx := sn hb5 hbV
      have hlo5 : w.heap.size ≤ k17 := by rw [hk17]; exact Nat.le_trans hB.out.size hb5.size
      replace hB := hid (sn hB.out hbx)
      have q0 := block_cell blk5.out 0
      have q1 := block_cell blk5.out 1
      clear hbV hbx hb5 hv5 hf5
      go_upto_region 15 with (rw [← hV5]; replace hV5 := hid hV5)
      try (rw [← hV5]; replace hV5 := hid hV5)
      rw [← hk17]
      replace hk17 := hid hk17
      obtain ⟨cw, w6, hcv, hby6, hb6⟩ := run_bytes V5 a (by unfold maxLen; omega) w.heap.size hB.out.size
      have hB6 := hid (sn hB.out hb6)
      replace hby6 := hid hby6
      obtain ⟨kw, hkw⟩ : ∃ k, k = V5.heap.size := ⟨_, rfl⟩
      rw [← hkw] at hcv hby6
      replace hkw := hid hkw
      clear hb6 q0 q1
      have hla := hid (show a.data.toList.length = a.size by simp)
      have hlb := hid (show b.data.toList.length = b.size by simp)
      go_wp2_with fail
      clear hcv
      go_loopg [20] ob (fun g1 vw wr => ∃ (g n c k : Nat) (l : List UInt8), vw = .slice (some ⟨g, 0, none⟩) n c ∧ Hid (n = l.length) ∧ Hid (l = a.data.toList ++ List.replicate k 0) ∧ k + a.size ≤ n ∧ n ≤ k + a.size ∧ (k = 0 ∨ n ≤ ob) ∧ ob - n ≤ g1 ∧ Hid (ByM wr w.heap.size (.slice (some ⟨g, 0, none⟩) n c) l) ∧ Hid (Below w.heap.size w wr))
      case atStart => exact ⟨kw, a.size, cw, 0, a.data.toList, by first | rfl | go_num, hid hla.out.symm, hid (by simp), by omega, by omega, .inl rfl, by omega, hby6, hB6⟩
      case round =>
        clear hby6 hB6 hB
        obtain ⟨g, n, c, k, l, rfl, hn, hl, hk1, hk2, hk3, hg1, hby6, hB⟩ := hrel
        by_cases hno : n < ob
        · have hnz : (n : Int) < (ob : Int) := by omega
          have hn1 := hid (show l.length + 1 ≤ 1000000 by have := hn.out; omega)
          obtain ⟨W7, hW7⟩ : ∃ W, W = wr.alloc (.cells #[.int .u8 0] 5) := ⟨_, rfl⟩
          have hb7 : Below wr.heap.size wr W7 := by rw [hW7]; exact (Below.refl _ _).alloc (Nat.le_refl _) _
          have hsrc := hid (show W7.cell? (((⟨wr.heap.size, 0, none⟩ : Addr)).add 0) = some (byteV 0) by
            rw [add_plain', hW7]; exact block_cell (heap_alloc_new wr (.cells #[.int .u8 0] 5)) 0)
          have hby7 := hid (hby6.out.below hb7)
          replace hB := hid (sn hB.out hb7)
          clear hb7
          go_wp2_with (first
            | (rw [← hW7]; replace hW7 := hid hW7)
            | (at_builtin; refine wpList_append_byte _ rfl (.tmp 103) (.tmp 104) rfl w.heap.size g n c l rfl hby7.out 0 ⟨wr.heap.size, 0, none⟩ 1 rfl hsrc.out hn1.out hB.out.size ?_))
          intro a' c' w' h8 h9
          have h8' := hid h8
          have hB8 := hid (hB.out.trans h9)
          clear h8 h9
          go_wp2_with fail
          go_roundg (ob - (n + 1))
          case measure => omega
          case rel => exact ⟨a', n + 1, c', k + 1, l ++ [0], by first | rfl | go_num, hid (by rw [List.length_append, ← hn.out]; rfl), hid (by rw [hl.out, List.append_assoc]; congr 1; rw [List.replicate_succ'] ), by omega, by omega, .inr (by omega), Nat.le_refl _, h8', hB8⟩
        · have hnz : ¬ (n : Int) < (ob : Int) := by omega
          have hpad := hid (show l = padA a.data.toList ob by
            rw [hl.out]; unfold padA; congr 2; have := hla.out; have := hn.out; omega)
          have hlen := hid (show l.length = n from hn.out.symm)
          have hfit := hid (show o + b.data.toList.length ≤ l.length by have := hn.out; have := hlb.out; have := hob.out; omega)
          have hn46 : n ≤ 5000 := by omega
          have hon : ob ≤ n := by omega
          have L0 := hid (lay_zero l b.data.toList o)
          go_wp2_with fail
          go_loopg [21] b.size (fun g2 vi wr2 => ∃ (i : Nat), vi = .int .i64 (i : Int) ∧ i ≤ b.size ∧ b.size - i ≤ g2 ∧ Hid (ByM wr2 w.heap.size (.slice (some ⟨g, 0, none⟩) n c) (lay l b.data.toList o i)) ∧ Hid (Below w.heap.size w wr2))
          case atStart => exact ⟨0, by first | rfl | go_num, by omega, by omega, by rw [L0.out]; exact hby6, hB⟩
          case round =>
            clear hby6 hB
            obtain ⟨i, rfl, hib, hg2', hby6, hB⟩ := hrel
            by_cases hil : i < b.size
            · have hiz : (i : Int) < (b.size : Int) := by omega
              obtain ⟨q, hq⟩ : ∃ q, q = o + i := ⟨_, rfl⟩
              have kq : IntKind.i64.wrap ((o : Int) + (i : Int)) = (q : Int) := by rw [IntWalk.i64_in _ (by omega)]; omega
              have hob2 := hob.out
              have hqn : q < n := by omega
              have hqz : (q : Int) < (n : Int) := by omega
              have hil2 : i < b.data.toList.length := by rw [hlb.out]; exact hil
              have hll := lay_length hfit.out (i := i) (by rw [hlb.out]; exact hib)
              obtain ⟨e1, e2, e3, e4, e5, e6, e7⟩ := hby6.out.cells
              have hcq := (e7 q (by omega)).2
              have hfq := (e7 q (by omega)).1
              obtain ⟨old, hold⟩ := Option.isSome_iff_exists.1 hcq
              have hst := lay_step hfit.out hil2
              obtain ⟨Y, hY⟩ : ∃ Y, Y = wr.setCell ⟨g, q, none⟩ (.int .u8 (b[i].toNat : Int)) := ⟨_, rfl⟩
              have hYv : (Value.int .u8 (b[i].toNat : Int)) = byteV b.data.toList[i] := rfl
              have hbyY := hid (show ByM Y w.heap.size (.slice (some ⟨g, 0, none⟩) n c) (lay l b.data.toList o (i + 1)) by
                rw [← hst, hY, hYv, ← hq]
                have hln := hlen.out
                have hbb := hby6.out
                rw [show n = (lay l b.data.toList o i).length from (hll.trans hln).symm] at hbb ⊢
                exact hbb.set (by rw [hll]; omega))
              have hBY := hid (show Below w.heap.size w Y by rw [hY]; exact hB.out.setCell (p := ⟨g, q, none⟩) e4 _)
              replace hYv := hid hYv
              replace hst := hid hst
              replace hq := hid hq
              clear e1 e2 e3 e4 e5 e6 e7 hcq hll hob2
              go_wp2_with (rw [← hY]; replace hY := hid hY)
              try (rw [← hY])
              go_wp2
              go_roundg (b.size - (i + 1))
              case measure => omega
              case rel => exact ⟨i + 1, by first | rfl | go_num, by omega, Nat.le_refl _, hbyY, hBY⟩
            · have hiz : ¬ (i : Int) < (b.size : Int) := by omega
              have hie : i = b.size := by omega
              subst hie
              have hcv := conv_string wr _ _ hby6.out.at
              have hfin := lay_done a b o
              rw [← hob.out, ← hpad.out] at hfin
              rw [hfin, ← hd3.out] at hcv
              have hnn : (lay l b.data.toList o b.size).length = n := by rw [lay_length hfit.out (by rw [hlb.out]; exact Nat.le_refl _)]; exact hlen.out
              replace hfin := hid hfin
              replace hnn := hid hnn
              go_wp2_with fail
              go_ret
              exact ⟨rfl, hB.out⟩
end Go.Proofs.Ytpmlhmficmillaa
