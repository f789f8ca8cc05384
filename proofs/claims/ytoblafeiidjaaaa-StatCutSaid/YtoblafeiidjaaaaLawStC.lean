/- That StatCut returns true, for every record, cut and bytes. No condition. -/
import Derived.Test.YtoblafeiidjaaaaLawStB
namespace Go.Proofs.Ytoblafeiidjaaaa
open Go.RowKit
set_option maxRecDepth 100000

set_option maxHeartbeats 3200000 in
theorem law_StatCut (s : Stat) (cut : Int) (v : Value) (l : List UInt8) (w : World) (hok : StatOk s) (hcm : -9223372036854775808 ≤ cut) (hcM : cut ≤ 9223372036854775807) (hv : BytesAt w v l) : Calls Try.prog 12 #[.agg s.cells, .int .i64 cut, v] w (Holds w) := by
  obtain ⟨a, c, rfl, hc1, hc2, hc3⟩ := hv.form
  unfold maxLen at hc2
  have fb := hid (((Below.refl w.heap.size w).alloc (Nat.le_refl _) (.cells s.cells 37)))
  have hx0 := hid (heap_alloc_new w (.cells s.cells 37))
  have hfe := hid (fun W => few4_any s W hok)
  have hlit := hid (cells_eq s)
  have hse := hid (st_self s)
  have hok' := hid hok
  clear hok
  go_enter Try.func12, Try.ntmps12
  rw [hlit.out]
  go_wp2_with fail
  rw [← hlit.out]
  refine (known4_any _).mono ?_
  rintro e w1 ⟨rfl, hb1⟩
  have hx1 := hid ((hb1.block _ (by simp)).trans hx0.out)
  have f1 := hid (fb.out.trans (hb1.mono (by simp)))
  have hz1 : w.heap.size < w1.heap.size := lt_of_block hx1.out
  clear hb1
  have q_0 : w1.cell? ⟨w.heap.size, 0, none⟩ = some (.int .u16 (s.kind : Int)) := block_cell hx1.out 0
  have q_1 : w1.cell? ⟨w.heap.size, 0 + 1, none⟩ = some (.int .u32 (s.dev : Int)) := block_cell hx1.out 1
  have q_2 : w1.cell? ⟨w.heap.size, 0 + 2, none⟩ = some (.int .u8 (s.qt : Int)) := block_cell hx1.out 2
  have q_3 : w1.cell? ⟨w.heap.size, 0 + 2 + 1, none⟩ = some (.int .u32 (s.qv : Int)) := block_cell hx1.out 3
  have q_4 : w1.cell? ⟨w.heap.size, 0 + 2 + 2, none⟩ = some (.int .u64 (s.qp : Int)) := block_cell hx1.out 4
  have q_5 : w1.cell? ⟨w.heap.size, 0 + 5, none⟩ = some (.int .u32 (s.mode : Int)) := block_cell hx1.out 5
  have q_6 : w1.cell? ⟨w.heap.size, 0 + 6, none⟩ = some (.int .u32 (s.atm : Int)) := block_cell hx1.out 6
  have q_7 : w1.cell? ⟨w.heap.size, 0 + 7, none⟩ = some (.int .u32 (s.mtm : Int)) := block_cell hx1.out 7
  have q_8 : w1.cell? ⟨w.heap.size, 0 + 8, none⟩ = some (.int .u64 (s.len : Int)) := block_cell hx1.out 8
  have q_9 : w1.cell? ⟨w.heap.size, 0 + 9, none⟩ = some (.string s.name) := block_cell hx1.out 9
  have q_10 : w1.cell? ⟨w.heap.size, 0 + 10, none⟩ = some (.string s.uid) := block_cell hx1.out 10
  have q_11 : w1.cell? ⟨w.heap.size, 0 + 11, none⟩ = some (.string s.gid) := block_cell hx1.out 11
  have q_12 : w1.cell? ⟨w.heap.size, 0 + 12, none⟩ = some (.string s.muid) := block_cell hx1.out 12
  go_wp2_with fail
  rw [← hlit.out]
  refine (hfe.out _).mono ?_
  rintro e w2 ⟨rfl, hb2⟩
  have hx2 := hid ((hb2.block _ hz1).trans hx1.out)
  have f2 := hid (sn f1.out hb2)
  have hz2 : w.heap.size < w2.heap.size := lt_of_block hx2.out
  obtain ⟨hc2', hf2'⟩ := bcell hb2
  clear hb2
  by_cases hfB : fewB s = true
  case neg =>
    rw [Bool.not_eq_true] at hfB
    rw [hfB]
    clear hfB
    go_wp2_with fail
    go_ret
    exact ⟨rfl, f2.out⟩
  have hfw := hid (of_decide_eq_true hfB)
  rw [hfB]
  clear hfB hfe
  by_cases hcn : cut < 0
  · go_wp2_with fail
    go_ret
    exact ⟨rfl, f2.out⟩
  obtain ⟨k, rfl⟩ : ∃ k : Nat, cut = (k : Int) := ⟨cut.toNat, by omega⟩
  clear hcn hcm
  by_cases hml : 300 < l.length
  · go_wp2_with fail
    go_ret
    exact ⟨rfl, f2.out⟩
  have hsB := hid (bytes_le s hfw.out)
  go_wp2_with fail
  rw [← hlit.out]
  refine (encode_any s _ hok'.out hfw.out).mono ?_
  rintro e w3 ⟨v3, rfl, hv3, hb3⟩
  have hx3 := hid ((hb3.block _ hz2).trans hx2.out)
  have f3 := hid (sn f2.out hb3)
  have hz3 : w.heap.size < w3.heap.size := lt_of_block hx3.out
  clear hb3 hc2' hf2' q_0 q_1 q_2 q_3 q_4 q_5 q_6 q_7 q_8 q_9 q_10 q_11 q_12
  obtain ⟨a3, c3, rfl, g3, g3m, _⟩ := hv3.form
  unfold maxLen at g3m
  rw [hlit.out]
  by_cases he : s.err = 0
  case neg =>
    have k0 : ((s.err : Int) != 0) = true := by simpa using he
    clear he
    go_wp2_with fail
    go_ret
    exact ⟨rfl, f3.out⟩
  have k0 : ((s.err : Int) != 0) = false := by simpa using he
  have k1 : ((s.err : Int) == 0) = true := by simpa using he
  have hlen : s.bytes.length = s.size := by rw [bytes_len, if_pos he]
  obtain ⟨d1, d2, d3⟩ := dec_back hok'.out hfw.out he l
  have hsz9 : 49 ≤ s.size ∧ s.size ≤ 849 := by obtain ⟨h1, h2, h3, h4⟩ := hfw.out; unfold Stat.size; omega
  have dC := dec_cut hfw.out he (k % s.size) (by rw [hlen]; exact Nat.mod_lt _ (by omega))
  have hmod : k % s.size < s.size := Nat.mod_lt _ (by omega)
  have hlen' := hid hlen
  replace d1 := hid d1
  replace d2 := hid d2
  replace d3 := hid d3
  replace dC := hid dC
  clear he hlen
  rw [hlen'.out] at g3 ⊢
  have hv3k := hid (hv3.take (k % s.size) c3 (by rw [hlen'.out]; omega) (by omega) (Nat.le_refl _))
  have hr3 : RowAt w3 1 (.slice a3 s.size c3) s.size (s.bytes.map byteV) := by have := hv3; unfold BytesAt at this; rwa [hlen'.out] at this
  replace hr3 := hid hr3
  replace hv3 := hid hv3
  have n1 : (0 : Int) ≤ ((k % s.size : Nat) : Int) := by omega
  have n2 : ((k % s.size : Nat) : Int) ≤ (c3 : Int) := by omega
  have hrem : (k : Int).tmod (s.size : Int) = ((k % s.size : Nat) : Int) := rfl
  go_wp2_with fail
  refine (decode_any _ _ _ hv3k.out (by rw [List.length_take, hlen'.out]; omega)).mono ?_
  rintro e w4 ⟨rfl, hb4⟩
  rw [dC.out]
  generalize decS (s.bytes.take (k % s.size)) = S1
  generalize decN (s.bytes.take (k % s.size)) = N1
  rw [cells_eq S1]
  have hx4 := hid ((hb4.block _ hz3).trans hx3.out)
  have f4 := hid (sn f3.out hb4)
  have hz4 : w.heap.size < w4.heap.size := lt_of_block hx4.out
  have hr4 := RowAt.below hr3.out hb4
  clear hb4 hv3k n1 n2 hrem dC
  have hbA := ((Below.refl w4.heap.size w4).alloc (Nat.le_refl _) (.cells #[.int .u16 (S1.kind : Int), .int .u32 (S1.dev : Int), .int .u8 (S1.qt : Int), .int .u32 (S1.qv : Int), .int .u64 (S1.qp : Int), .int .u32 (S1.mode : Int), .int .u32 (S1.atm : Int), .int .u32 (S1.mtm : Int), .int .u64 (S1.len : Int), .string S1.name, .string S1.uid, .string S1.gid, .string S1.muid] 37)).alloc (by simp) (.cells #[] 5)
  have f4' := f4.out
  go_wp2_with (at_builtin; refine wpList_append_row elemU8 _ rfl (.tmp 55) (.tmp 56) rfl (w4.heap.size + 1) _ 0 [] rfl (own_empty2 w4 _ _ _) _ s.size (s.bytes.map byteV) rfl (hr4.below hbA) (bytes_oneCell _) (by unfold maxLen; omega) (by omega) (by simp) ?_)
  intro a5 c5 w5 h5 h6
  have hz5 : w4.heap.size + 1 ≤ w5.heap.size := by have := h6.size; simp at this; omega
  have hb5 := hbA.grown h6 (by simp; omega) (fun j hj => by cases hj; first | omega | simp)
  have hv5 := hv.below (sn f4' hb5)
  clear h6 hbA
  go_wp2_with (at_builtin; refine wpList_append_row elemU8 _ rfl (.tmp 57) (.tmp 58) rfl (w4.heap.size + 1) _ s.size (s.bytes.map byteV) rfl h5 _ l.length (l.map byteV) rfl hv5 (bytes_oneCell _) (by unfold maxLen; omega) (by omega) hz5 ?_)
  intro a6 c6 w6 h7 h8
  have hb6 := hb5.grown h8 hb5.size (fun j hj => by have := (h5.lt j hj).1; omega)
  have hB6 : BytesAt w6 (.slice a6 (s.size + l.length) c6) (s.bytes ++ l) := BytesAt.of_own h7 (by simp)
  have f6 := hid (sn f4' hb6)
  have hx6 := hid ((hb6.block _ hz4).trans hx4.out)
  have hz6 : w.heap.size < w6.heap.size := lt_of_block hx6.out
  clear h5 h7 h8 hb5 hb6 hv5 hr4
  go_wp2_with fail
  refine (decode_any _ _ _ hB6 (by rw [List.length_append, hlen'.out]; omega)).mono ?_
  rintro e w7 ⟨rfl, hb7⟩
  rw [d1.out, d2.out, d3.out, hlen'.out, hlit.out]
  have hx7 := hid ((hb7.block _ hz6).trans hx6.out)
  have f7 := hid (sn f6.out hb7)
  have hz7 : w.heap.size < w7.heap.size := lt_of_block hx7.out
  have hseL := hse.out
  rw [hlit.out] at hseL
  clear hb7
  have u_0 : w7.cell? ⟨w.heap.size, 0, none⟩ = some (.int .u16 (s.kind : Int)) := block_cell hx7.out 0
  have u_1 : w7.cell? ⟨w.heap.size, 0 + 1, none⟩ = some (.int .u32 (s.dev : Int)) := block_cell hx7.out 1
  have u_2 : w7.cell? ⟨w.heap.size, 0 + 2, none⟩ = some (.int .u8 (s.qt : Int)) := block_cell hx7.out 2
  have u_3 : w7.cell? ⟨w.heap.size, 0 + 2 + 1, none⟩ = some (.int .u32 (s.qv : Int)) := block_cell hx7.out 3
  have u_4 : w7.cell? ⟨w.heap.size, 0 + 2 + 2, none⟩ = some (.int .u64 (s.qp : Int)) := block_cell hx7.out 4
  have u_5 : w7.cell? ⟨w.heap.size, 0 + 5, none⟩ = some (.int .u32 (s.mode : Int)) := block_cell hx7.out 5
  have u_6 : w7.cell? ⟨w.heap.size, 0 + 6, none⟩ = some (.int .u32 (s.atm : Int)) := block_cell hx7.out 6
  have u_7 : w7.cell? ⟨w.heap.size, 0 + 7, none⟩ = some (.int .u32 (s.mtm : Int)) := block_cell hx7.out 7
  have u_8 : w7.cell? ⟨w.heap.size, 0 + 8, none⟩ = some (.int .u64 (s.len : Int)) := block_cell hx7.out 8
  have u_9 : w7.cell? ⟨w.heap.size, 0 + 9, none⟩ = some (.string s.name) := block_cell hx7.out 9
  have u_10 : w7.cell? ⟨w.heap.size, 0 + 10, none⟩ = some (.string s.uid) := block_cell hx7.out 10
  have u_11 : w7.cell? ⟨w.heap.size, 0 + 11, none⟩ = some (.string s.gid) := block_cell hx7.out 11
  have u_12 : w7.cell? ⟨w.heap.size, 0 + 12, none⟩ = some (.string s.muid) := block_cell hx7.out 12
  go_wp2_with fail
  go_ret
  exact ⟨rfl, f7.out.alloc (Nat.le_of_lt hz7) _⟩

theorem law_StatCutI (s : Stat) (cut : Int) (v : Value) (l : List UInt8) (w : World) (hok : StatOk s) (hx : (Lit.int .i64 cut).wf = true) (hv : BytesAt w v l) : Calls Try.prog 12 #[.agg s.cells, .int .i64 cut, v] w (Holds w) := by
  have h : IntKind.i64.min ≤ cut ∧ cut ≤ IntKind.i64.max := by simpa [Lit.wf, Bool.and_eq_true, decide_eq_true_eq] using hx
  exact law_StatCut s cut v l w hok h.1 h.2 hv
end Go.Proofs.Ytoblafeiidjaaaa
