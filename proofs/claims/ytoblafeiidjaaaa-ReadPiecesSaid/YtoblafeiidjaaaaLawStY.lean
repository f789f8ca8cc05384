/- That StatBytes returns true, for any bytes. No condition. -/
import Derived.Test.YtoblafeiidjaaaaLawStB
namespace Go.Proofs.Ytoblafeiidjaaaa
open Go.RowKit
set_option maxRecDepth 100000

theorem StatCells.keep {w w' : World} {b o : Nat} {s : Stat} (hb : Below w.heap.size w w') (h : StatCells w b o s) : StatCells w' b o s := StatCells.below h hb (StatCells.lt h)
theorem at13_cells {W : World} {b o : Nat} {s : Stat} (h : StatCells W b o s) : W.cell? ⟨b, o, none⟩ = some (.int .u16 (s.kind : Int)) ∧ W.cell? ⟨b, o + 1, none⟩ = some (.int .u32 (s.dev : Int)) ∧ W.cell? ⟨b, o + 2, none⟩ = some (.int .u8 (s.qt : Int)) ∧ W.cell? ⟨b, o + 3, none⟩ = some (.int .u32 (s.qv : Int)) ∧ W.cell? ⟨b, o + 4, none⟩ = some (.int .u64 (s.qp : Int)) ∧ W.cell? ⟨b, o + 5, none⟩ = some (.int .u32 (s.mode : Int)) ∧ W.cell? ⟨b, o + 6, none⟩ = some (.int .u32 (s.atm : Int)) ∧ W.cell? ⟨b, o + 7, none⟩ = some (.int .u32 (s.mtm : Int)) ∧ W.cell? ⟨b, o + 8, none⟩ = some (.int .u64 (s.len : Int)) ∧ W.cell? ⟨b, o + 9, none⟩ = some (.string s.name) ∧ W.cell? ⟨b, o + 10, none⟩ = some (.string s.uid) ∧ W.cell? ⟨b, o + 11, none⟩ = some (.string s.gid) ∧ W.cell? ⟨b, o + 12, none⟩ = some (.string s.muid) := h

set_option maxHeartbeats 3200000 in
theorem law_StatBytes (v : Value) (l : List UInt8) (w : World) (h : BytesAt w v l) : Calls Try.prog 11 #[v] w (Holds w) := by
  obtain ⟨a, c, rfl, hc1, hc2, hc3⟩ := h.form
  unfold maxLen at hc2
  by_cases h3 : 1000 < l.length
  · go_enter Try.func11, Try.ntmps11
    go_wp2_with fail
    refine (known4_any w).mono ?_
    rintro e w1 ⟨rfl, hb1⟩
    go_wp2_with fail
    go_ret
    exact ⟨rfl, hb1⟩
  go_enter Try.func11, Try.ntmps11
  go_wp2_with fail
  refine (known4_any w).mono ?_
  rintro e w1 ⟨rfl, hb1⟩
  go_wp2_with fail
  refine (decode_any _ l _ (h.below hb1) (by omega)).mono ?_
  rintro e w2 ⟨rfl, hb2⟩
  have f2 := sn hb1 hb2
  obtain ⟨s, hs⟩ : ∃ s, s = decS l := ⟨_, rfl⟩
  obtain ⟨n, hn⟩ : ∃ n, n = decN l := ⟨_, rfl⟩
  obtain ⟨e0, he0⟩ : ∃ e0, e0 = decE l := ⟨_, rfl⟩
  rw [← hs, ← hn, ← he0]
  have hlit := hid (cells_eq s)
  rw [hlit.out]
  have hq2 := hid (heap_alloc_new w2 (.cells #[.int .u16 (s.kind : Int), .int .u32 (s.dev : Int), .int .u8 (s.qt : Int), .int .u32 (s.qv : Int), .int .u64 (s.qp : Int), .int .u32 (s.mode : Int), .int .u32 (s.atm : Int), .int .u32 (s.mtm : Int), .int .u64 (s.len : Int), .string s.name, .string s.uid, .string s.gid, .string s.muid] 37))
  have f2a := hid (f2.alloc f2.size (.cells #[.int .u16 (s.kind : Int), .int .u32 (s.dev : Int), .int .u8 (s.qt : Int), .int .u32 (s.qv : Int), .int .u64 (s.qp : Int), .int .u32 (s.mode : Int), .int .u32 (s.atm : Int), .int .u32 (s.mtm : Int), .int .u64 (s.len : Int), .string s.name, .string s.uid, .string s.gid, .string s.muid] 37))
  replace hs := hid hs
  replace hn := hid hn
  replace he0 := hid he0
  clear hb1 hb2 f2
  go_wp2_with fail
  refine (statof_any _ l _ (h.below f2a.out) (by omega)).mono ?_
  rintro e w3 ⟨rfl, hb3⟩
  rw [← hs.out, ← hn.out, ← he0.out, hlit.out]
  have hq3 := hid ((hb3.block w2.heap.size (by simp)).trans hq2.out)
  have f3 := hid (sn f2a.out hb3)
  have hz3 : w2.heap.size < w3.heap.size := lt_of_block hq3.out
  have hr3 := hid (heap_alloc_new w3 (.cells #[.int .u16 (s.kind : Int), .int .u32 (s.dev : Int), .int .u8 (s.qt : Int), .int .u32 (s.qv : Int), .int .u64 (s.qp : Int), .int .u32 (s.mode : Int), .int .u32 (s.atm : Int), .int .u32 (s.mtm : Int), .int .u64 (s.len : Int), .string s.name, .string s.uid, .string s.gid, .string s.muid] 77))
  have hq3a := hid ((heap_alloc_old w3 (.cells #[.int .u16 (s.kind : Int), .int .u32 (s.dev : Int), .int .u8 (s.qt : Int), .int .u32 (s.qv : Int), .int .u64 (s.qp : Int), .int .u32 (s.mode : Int), .int .u32 (s.atm : Int), .int .u32 (s.mtm : Int), .int .u64 (s.len : Int), .string s.name, .string s.uid, .string s.gid, .string s.muid] 77) hz3).trans hq3.out)
  have f3a := hid (f3.out.alloc f3.out.size (.cells #[.int .u16 (s.kind : Int), .int .u32 (s.dev : Int), .int .u8 (s.qt : Int), .int .u32 (s.qv : Int), .int .u64 (s.qp : Int), .int .u32 (s.mode : Int), .int .u32 (s.atm : Int), .int .u32 (s.mtm : Int), .int .u64 (s.len : Int), .string s.name, .string s.uid, .string s.gid, .string s.muid] 77))
  clear hb3
  go_wp2_with fail
  refine (all_any _ l _ (h.below f3a.out) (by omega)).mono ?_
  rintro e w4 ⟨v4, rfl, hv4, hb4⟩
  have hq4 := hid ((hb4.block w2.heap.size (by simp; omega)).trans hq3a.out)
  have hr4 := hid ((hb4.block w3.heap.size (by simp)).trans hr3.out)
  have f4 := hid (sn f3a.out hb4)
  have hz4 : w2.heap.size < w4.heap.size := lt_of_block hq4.out
  have hz4' : w3.heap.size < w4.heap.size := lt_of_block hr4.out
  clear hb4
  go_wp2_with fail
  refine (statall_any _ l _ (h.below f4.out) (by omega)).mono ?_
  rintro e w5 ⟨v5, rfl, hv5, hb5⟩
  have hq5 := hid ((hb5.block w2.heap.size hz4).trans hq4.out)
  have hr5 := hid ((hb5.block w3.heap.size hz4').trans hr4.out)
  have f5 := hid (sn f4.out hb5)
  have hv45 := hv4.below hb5
  have hz5 : w2.heap.size < w5.heap.size := lt_of_block hq5.out
  clear hb5 hv4
  generalize (allS l).1 = A at *
  generalize (allS l).2 = eA at *
  obtain ⟨a4, c4, rfl, g4, g4m⟩ := hv45.form
  obtain ⟨a5, c5, rfl, g5, g5m⟩ := hv5.form
  unfold maxLen at g4m g5m
  have hof2 := fun W => of_any s W
  rw [hlit.out] at hof2
  replace hof2 := hid hof2
  have hneq := rst_neq s
  rw [hlit.out] at hneq
  have p_0 : w5.cell? ⟨w2.heap.size, 0, none⟩ = some (.int .u16 (s.kind : Int)) := block_cell hq5.out 0
  have p_1 : w5.cell? ⟨w2.heap.size, 0 + 1, none⟩ = some (.int .u32 (s.dev : Int)) := block_cell hq5.out 1
  have p_2 : w5.cell? ⟨w2.heap.size, 0 + 2, none⟩ = some (.int .u8 (s.qt : Int)) := block_cell hq5.out 2
  have p_3 : w5.cell? ⟨w2.heap.size, 0 + 2 + 1, none⟩ = some (.int .u32 (s.qv : Int)) := block_cell hq5.out 3
  have p_4 : w5.cell? ⟨w2.heap.size, 0 + 2 + 2, none⟩ = some (.int .u64 (s.qp : Int)) := block_cell hq5.out 4
  have p_5 : w5.cell? ⟨w2.heap.size, 0 + 5, none⟩ = some (.int .u32 (s.mode : Int)) := block_cell hq5.out 5
  have p_6 : w5.cell? ⟨w2.heap.size, 0 + 6, none⟩ = some (.int .u32 (s.atm : Int)) := block_cell hq5.out 6
  have p_7 : w5.cell? ⟨w2.heap.size, 0 + 7, none⟩ = some (.int .u32 (s.mtm : Int)) := block_cell hq5.out 7
  have p_8 : w5.cell? ⟨w2.heap.size, 0 + 8, none⟩ = some (.int .u64 (s.len : Int)) := block_cell hq5.out 8
  have p_9 : w5.cell? ⟨w2.heap.size, 0 + 9, none⟩ = some (.string s.name) := block_cell hq5.out 9
  have p_10 : w5.cell? ⟨w2.heap.size, 0 + 10, none⟩ = some (.string s.uid) := block_cell hq5.out 10
  have p_11 : w5.cell? ⟨w2.heap.size, 0 + 11, none⟩ = some (.string s.gid) := block_cell hq5.out 11
  have p_12 : w5.cell? ⟨w2.heap.size, 0 + 12, none⟩ = some (.string s.muid) := block_cell hq5.out 12
  have r_0 : w5.cell? ⟨w3.heap.size, 0, none⟩ = some (.int .u16 (s.kind : Int)) := block_cell hr5.out 0
  have r_1 : w5.cell? ⟨w3.heap.size, 0 + 1, none⟩ = some (.int .u32 (s.dev : Int)) := block_cell hr5.out 1
  have r_2 : w5.cell? ⟨w3.heap.size, 0 + 2, none⟩ = some (.int .u8 (s.qt : Int)) := block_cell hr5.out 2
  have r_3 : w5.cell? ⟨w3.heap.size, 0 + 2 + 1, none⟩ = some (.int .u32 (s.qv : Int)) := block_cell hr5.out 3
  have r_4 : w5.cell? ⟨w3.heap.size, 0 + 2 + 2, none⟩ = some (.int .u64 (s.qp : Int)) := block_cell hr5.out 4
  have r_5 : w5.cell? ⟨w3.heap.size, 0 + 5, none⟩ = some (.int .u32 (s.mode : Int)) := block_cell hr5.out 5
  have r_6 : w5.cell? ⟨w3.heap.size, 0 + 6, none⟩ = some (.int .u32 (s.atm : Int)) := block_cell hr5.out 6
  have r_7 : w5.cell? ⟨w3.heap.size, 0 + 7, none⟩ = some (.int .u32 (s.mtm : Int)) := block_cell hr5.out 7
  have r_8 : w5.cell? ⟨w3.heap.size, 0 + 8, none⟩ = some (.int .u64 (s.len : Int)) := block_cell hr5.out 8
  have r_9 : w5.cell? ⟨w3.heap.size, 0 + 9, none⟩ = some (.string s.name) := block_cell hr5.out 9
  have r_10 : w5.cell? ⟨w3.heap.size, 0 + 10, none⟩ = some (.string s.uid) := block_cell hr5.out 10
  have r_11 : w5.cell? ⟨w3.heap.size, 0 + 11, none⟩ = some (.string s.gid) := block_cell hr5.out 11
  have r_12 : w5.cell? ⟨w3.heap.size, 0 + 12, none⟩ = some (.string s.muid) := block_cell hr5.out 12
  have hA : At13 w5.drew w2.heap.size s := At13.of_block (t := 37) (fr := (0, 0)) hq5.out
  have hB : At13 w5.drew w3.heap.size s := At13.of_block (t := 77) (fr := (0, 0)) hr5.out
  go_wp2_with fail
  go_region_held3 (fun w' => w'.cell? ⟨w2.heap.size, 0, none⟩ = some (.int .u16 (s.kind : Int)) ∧ w'.cell? ⟨w2.heap.size, 1, none⟩ = some (.int .u32 (s.dev : Int)) ∧ w'.cell? ⟨w2.heap.size, 2, none⟩ = some (.int .u8 (s.qt : Int)) ∧ w'.cell? ⟨w2.heap.size, 3, none⟩ = some (.int .u32 (s.qv : Int)) ∧ w'.cell? ⟨w2.heap.size, 4, none⟩ = some (.int .u64 (s.qp : Int)) ∧ w'.cell? ⟨w2.heap.size, 5, none⟩ = some (.int .u32 (s.mode : Int)) ∧ w'.cell? ⟨w2.heap.size, 6, none⟩ = some (.int .u32 (s.atm : Int)) ∧ w'.cell? ⟨w2.heap.size, 7, none⟩ = some (.int .u32 (s.mtm : Int)) ∧ w'.cell? ⟨w2.heap.size, 8, none⟩ = some (.int .u64 (s.len : Int)) ∧ w'.cell? ⟨w2.heap.size, 9, none⟩ = some (.string s.name) ∧ w'.cell? ⟨w2.heap.size, 10, none⟩ = some (.string s.uid) ∧ w'.cell? ⟨w2.heap.size, 11, none⟩ = some (.string s.gid) ∧ w'.cell? ⟨w2.heap.size, 12, none⟩ = some (.string s.muid) ∧ w'.cell? ⟨w3.heap.size, 0, none⟩ = some (.int .u16 (s.kind : Int)) ∧ w'.cell? ⟨w3.heap.size, 1, none⟩ = some (.int .u32 (s.dev : Int)) ∧ w'.cell? ⟨w3.heap.size, 2, none⟩ = some (.int .u8 (s.qt : Int)) ∧ w'.cell? ⟨w3.heap.size, 3, none⟩ = some (.int .u32 (s.qv : Int)) ∧ w'.cell? ⟨w3.heap.size, 4, none⟩ = some (.int .u64 (s.qp : Int)) ∧ w'.cell? ⟨w3.heap.size, 5, none⟩ = some (.int .u32 (s.mode : Int)) ∧ w'.cell? ⟨w3.heap.size, 6, none⟩ = some (.int .u32 (s.atm : Int)) ∧ w'.cell? ⟨w3.heap.size, 7, none⟩ = some (.int .u32 (s.mtm : Int)) ∧ w'.cell? ⟨w3.heap.size, 8, none⟩ = some (.int .u64 (s.len : Int)) ∧ w'.cell? ⟨w3.heap.size, 9, none⟩ = some (.string s.name) ∧ w'.cell? ⟨w3.heap.size, 10, none⟩ = some (.string s.uid) ∧ w'.cell? ⟨w3.heap.size, 11, none⟩ = some (.string s.gid) ∧ w'.cell? ⟨w3.heap.size, 12, none⟩ = some (.string s.muid))
    (first | exact ⟨hA.1, hA.2.1, hA.2.2.1, hA.2.2.2.1, hA.2.2.2.2.1, hA.2.2.2.2.2.1, hA.2.2.2.2.2.2.1, hA.2.2.2.2.2.2.2.1, hA.2.2.2.2.2.2.2.2.1, hA.2.2.2.2.2.2.2.2.2.1, hA.2.2.2.2.2.2.2.2.2.2.1, hA.2.2.2.2.2.2.2.2.2.2.2.1, hA.2.2.2.2.2.2.2.2.2.2.2.2, hB.1, hB.2.1, hB.2.2.1, hB.2.2.2.1, hB.2.2.2.2.1, hB.2.2.2.2.2.1, hB.2.2.2.2.2.2.1, hB.2.2.2.2.2.2.2.1, hB.2.2.2.2.2.2.2.2.1, hB.2.2.2.2.2.2.2.2.2.1, hB.2.2.2.2.2.2.2.2.2.2.1, hB.2.2.2.2.2.2.2.2.2.2.2.1, hB.2.2.2.2.2.2.2.2.2.2.2.2⟩ | go_keep)
    ((go_at_call 41; (with_reducible refine (hof2.out _).mono ?_); rintro e wn ⟨rfl, hbO⟩; replace hA := At13.below hbO hA; replace hB := At13.below hbO hB))
  have f6 := hid (sn f5.out.drew hbO)
  have hb56 := hid ((Below.refl w5.heap.size w5).drew.trans hbO)
  clear hA hB hbO p_0 r_0 p_1 r_1 p_2 r_2 p_3 r_3 p_4 r_4 p_5 r_5 p_6 r_6 p_7 r_7 p_8 r_8 p_9 r_9 p_10 r_10 p_11 r_11 p_12 r_12 hneq hof2
  go_wp2_with fail
  go_loopw [13] (fun i wr => ∃ k : Nat, k ≤ A.length ∧ i = .int .i64 (k : Int) ∧ Below wn.heap.size wn wr) (fun i _ => A.length - (intOf i).toNat)
  case atStart => exact ⟨0, by omega, rfl, Below.refl _ _⟩
  case round =>
    obtain ⟨k, hk, rfl, hbr⟩ := hrel
    have hb5r := hb56.out.trans (hbr.mono hb56.out.size)
    by_cases hlt : k < A.length
    · obtain ⟨bb, o, rfl, hcA⟩ := (hv45.below hb5r).cells k hlt
      obtain ⟨bb2, o2, rfl, hcB⟩ := (hv5.below hb5r).cells k hlt
      have hltA := hcA.lt
      have hltB := hcB.lt
      have hof3 := fun W => of_any A[k] W
      have hneq3 := rst_neq A[k]
      have hlit3 := hid (cells_eq A[k])
      generalize A[k] = t at hcA hcB hof3 hneq3 hlit3
      rw [hlit3.out] at hof3 hneq3
      replace hof3 := hid hof3
      have i1 : (0 : Int) ≤ (k : Int) := by omega
      have i2 : (k : Int) < (A.length : Int) := by omega
      have hA : StatCells wr.drew bb (o + k * 13) t := hcA
      have hB : StatCells wr.drew bb2 (o2 + k * 13) t := hcB
      have hA' := at13_cells hcA
      have hB' := at13_cells hcB
      obtain ⟨A0, A1, A2, A3, A4, A5, A6, A7, A8, A9, A10, A11, A12⟩ := hA'
      obtain ⟨B0, B1, B2, B3, B4, B5, B6, B7, B8, B9, B10, B11, B12⟩ := hB'
      clear hcA hcB
      go_wp2_with fail
      go_region_held3 (fun w' => w'.cell? ⟨bb, o + k * 13, none⟩ = some (.int .u16 (t.kind : Int)) ∧ w'.cell? ⟨bb, o + k * 13 + 1, none⟩ = some (.int .u32 (t.dev : Int)) ∧ w'.cell? ⟨bb, o + k * 13 + 2, none⟩ = some (.int .u8 (t.qt : Int)) ∧ w'.cell? ⟨bb, o + k * 13 + 3, none⟩ = some (.int .u32 (t.qv : Int)) ∧ w'.cell? ⟨bb, o + k * 13 + 4, none⟩ = some (.int .u64 (t.qp : Int)) ∧ w'.cell? ⟨bb, o + k * 13 + 5, none⟩ = some (.int .u32 (t.mode : Int)) ∧ w'.cell? ⟨bb, o + k * 13 + 6, none⟩ = some (.int .u32 (t.atm : Int)) ∧ w'.cell? ⟨bb, o + k * 13 + 7, none⟩ = some (.int .u32 (t.mtm : Int)) ∧ w'.cell? ⟨bb, o + k * 13 + 8, none⟩ = some (.int .u64 (t.len : Int)) ∧ w'.cell? ⟨bb, o + k * 13 + 9, none⟩ = some (.string t.name) ∧ w'.cell? ⟨bb, o + k * 13 + 10, none⟩ = some (.string t.uid) ∧ w'.cell? ⟨bb, o + k * 13 + 11, none⟩ = some (.string t.gid) ∧ w'.cell? ⟨bb, o + k * 13 + 12, none⟩ = some (.string t.muid) ∧ w'.cell? ⟨bb2, o2 + k * 13, none⟩ = some (.int .u16 (t.kind : Int)) ∧ w'.cell? ⟨bb2, o2 + k * 13 + 1, none⟩ = some (.int .u32 (t.dev : Int)) ∧ w'.cell? ⟨bb2, o2 + k * 13 + 2, none⟩ = some (.int .u8 (t.qt : Int)) ∧ w'.cell? ⟨bb2, o2 + k * 13 + 3, none⟩ = some (.int .u32 (t.qv : Int)) ∧ w'.cell? ⟨bb2, o2 + k * 13 + 4, none⟩ = some (.int .u64 (t.qp : Int)) ∧ w'.cell? ⟨bb2, o2 + k * 13 + 5, none⟩ = some (.int .u32 (t.mode : Int)) ∧ w'.cell? ⟨bb2, o2 + k * 13 + 6, none⟩ = some (.int .u32 (t.atm : Int)) ∧ w'.cell? ⟨bb2, o2 + k * 13 + 7, none⟩ = some (.int .u32 (t.mtm : Int)) ∧ w'.cell? ⟨bb2, o2 + k * 13 + 8, none⟩ = some (.int .u64 (t.len : Int)) ∧ w'.cell? ⟨bb2, o2 + k * 13 + 9, none⟩ = some (.string t.name) ∧ w'.cell? ⟨bb2, o2 + k * 13 + 10, none⟩ = some (.string t.uid) ∧ w'.cell? ⟨bb2, o2 + k * 13 + 11, none⟩ = some (.string t.gid) ∧ w'.cell? ⟨bb2, o2 + k * 13 + 12, none⟩ = some (.string t.muid))
        (first | exact ⟨hA.1, hA.2.1, hA.2.2.1, hA.2.2.2.1, hA.2.2.2.2.1, hA.2.2.2.2.2.1, hA.2.2.2.2.2.2.1, hA.2.2.2.2.2.2.2.1, hA.2.2.2.2.2.2.2.2.1, hA.2.2.2.2.2.2.2.2.2.1, hA.2.2.2.2.2.2.2.2.2.2.1, hA.2.2.2.2.2.2.2.2.2.2.2.1, hA.2.2.2.2.2.2.2.2.2.2.2.2, hB.1, hB.2.1, hB.2.2.1, hB.2.2.2.1, hB.2.2.2.2.1, hB.2.2.2.2.2.1, hB.2.2.2.2.2.2.1, hB.2.2.2.2.2.2.2.1, hB.2.2.2.2.2.2.2.2.1, hB.2.2.2.2.2.2.2.2.2.1, hB.2.2.2.2.2.2.2.2.2.2.1, hB.2.2.2.2.2.2.2.2.2.2.2.1, hB.2.2.2.2.2.2.2.2.2.2.2.2⟩ | go_keep)
        ((go_at_call 41; (with_reducible refine (hof3.out _).mono ?_); rintro e wm ⟨rfl, hbO⟩; replace hA := StatCells.keep hbO hA; replace hB := StatCells.keep hbO hB))
      have f7 := hid (sn hbr.drew hbO)
      clear hA hB hbO A0 B0 A1 B1 A2 B2 A3 B3 A4 B4 A5 B5 A6 B6 A7 B7 A8 B8 A9 B9 A10 B10 A11 B11 A12 B12 hneq3 hof3
      go_wp2_with fail
      go_roundw
      case rel => exact ⟨k + 1, by omega, by go_num, f7.out⟩
      case measure => simp [intOf]; omega
    · obtain rfl : k = A.length := by omega
      go_wp2_with fail
      go_ret
      exact ⟨rfl, sn f6.out hbr⟩
end Go.Proofs.Ytoblafeiidjaaaa
