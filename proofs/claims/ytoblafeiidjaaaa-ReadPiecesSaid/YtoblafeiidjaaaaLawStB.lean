/- That StatBack returns true, for every record. No condition. -/
import Derived.Test.YtoblafeiidjaaaaLawSt
import Derived.Test.YtoblafeiidjaaaaStatIn
namespace Go.Proofs.Ytoblafeiidjaaaa
open Go.RowKit
set_option maxRecDepth 100000

/-- The record's cells in block q. -/
def At13 (w' : World) (q : Nat) (s : Stat) : Prop := w'.cell? ⟨q, 0, none⟩ = some (.int .u16 (s.kind : Int)) ∧ w'.cell? ⟨q, 1, none⟩ = some (.int .u32 (s.dev : Int)) ∧ w'.cell? ⟨q, 2, none⟩ = some (.int .u8 (s.qt : Int)) ∧ w'.cell? ⟨q, 3, none⟩ = some (.int .u32 (s.qv : Int)) ∧ w'.cell? ⟨q, 4, none⟩ = some (.int .u64 (s.qp : Int)) ∧ w'.cell? ⟨q, 5, none⟩ = some (.int .u32 (s.mode : Int)) ∧ w'.cell? ⟨q, 6, none⟩ = some (.int .u32 (s.atm : Int)) ∧ w'.cell? ⟨q, 7, none⟩ = some (.int .u32 (s.mtm : Int)) ∧ w'.cell? ⟨q, 8, none⟩ = some (.int .u64 (s.len : Int)) ∧ w'.cell? ⟨q, 9, none⟩ = some (.string s.name) ∧ w'.cell? ⟨q, 10, none⟩ = some (.string s.uid) ∧ w'.cell? ⟨q, 11, none⟩ = some (.string s.gid) ∧ w'.cell? ⟨q, 12, none⟩ = some (.string s.muid)
theorem At13.below {W W' : World} {q : Nat} {s : Stat} (hb : Below W.heap.size W W') (hH : At13 W q s) : At13 W' q s := ⟨kc hb hH.1, kc hb hH.2.1, kc hb hH.2.2.1, kc hb hH.2.2.2.1, kc hb hH.2.2.2.2.1, kc hb hH.2.2.2.2.2.1, kc hb hH.2.2.2.2.2.2.1, kc hb hH.2.2.2.2.2.2.2.1, kc hb hH.2.2.2.2.2.2.2.2.1, kc hb hH.2.2.2.2.2.2.2.2.2.1, kc hb hH.2.2.2.2.2.2.2.2.2.2.1, kc hb hH.2.2.2.2.2.2.2.2.2.2.2.1, kc hb hH.2.2.2.2.2.2.2.2.2.2.2.2⟩
theorem At13.of_block {W : World} {q : Nat} {s : Stat} {t : TypeId} {fr : Nat × Nat} (h : W.heap[q]? = some (.cells s.cells t fr)) : At13 W q s := ⟨block_cell h 0, block_cell h 1, block_cell h 2, block_cell h 3, block_cell h 4, block_cell h 5, block_cell h 6, block_cell h 7, block_cell h 8, block_cell h 9, block_cell h 10, block_cell h 11, block_cell h 12⟩

set_option maxHeartbeats 3200000 in
theorem law_StatBack (s : Stat) (w : World) (hok : StatOk s) : Calls Try.prog 10 #[.agg s.cells] w (Holds w) := by
  have fb := hid (((Below.refl w.heap.size w).alloc (Nat.le_refl _) (.cells s.cells 37)))
  have hx0 := hid (heap_alloc_new w (.cells s.cells 37))
  have hfe := hid (fun W => few4_any s W hok)
  have hlit := hid (cells_eq s)
  have hsz := hid (fun (hf : Few s) W => size_any s W hf)
  have hof := hid (fun W => of_any s W)
  have hrs := hid (fun (hf : Few s) W => ref_size_any s W hf)
  have hse := hid (st_self s)
  have hkp := hid (fun W => keep_any W)
  have hok' := hid hok
  clear hok
  go_enter Try.func10, Try.ntmps10
  rw [hlit.out]
  go_wp2_with fail
  rw [← hlit.out]
  refine (known4_any _).mono ?_
  rintro e w1 ⟨rfl, hb1⟩
  have hx1 := hid ((hb1.block _ (by simp)).trans hx0.out)
  have f1 := hid (fb.out.trans (hb1.mono (by simp)))
  have hz1 : w.heap.size < w1.heap.size := lt_of_block hx1.out
  clear hb1
  have q_0 : w1.cell? ⟨w.heap.size, 0, none⟩ = some (.int .u16 (s.kind : Int)) := block_cell hx1.out 0
  have q_1 : w1.cell? ⟨w.heap.size, 0 + 1, none⟩ = some (.int .u32 (s.dev : Int)) := block_cell hx1.out 1
  have q_2 : w1.cell? ⟨w.heap.size, 0 + 2, none⟩ = some (.int .u8 (s.qt : Int)) := block_cell hx1.out 2
  have q_3 : w1.cell? ⟨w.heap.size, 0 + 2 + 1, none⟩ = some (.int .u32 (s.qv : Int)) := block_cell hx1.out 3
  have q_4 : w1.cell? ⟨w.heap.size, 0 + 2 + 2, none⟩ = some (.int .u64 (s.qp : Int)) := block_cell hx1.out 4
  have q_5 : w1.cell? ⟨w.heap.size, 0 + 5, none⟩ = some (.int .u32 (s.mode : Int)) := block_cell hx1.out 5
  have q_6 : w1.cell? ⟨w.heap.size, 0 + 6, none⟩ = some (.int .u32 (s.atm : Int)) := block_cell hx1.out 6
  have q_7 : w1.cell? ⟨w.heap.size, 0 + 7, none⟩ = some (.int .u32 (s.mtm : Int)) := block_cell hx1.out 7
  have q_8 : w1.cell? ⟨w.heap.size, 0 + 8, none⟩ = some (.int .u64 (s.len : Int)) := block_cell hx1.out 8
  have q_9 : w1.cell? ⟨w.heap.size, 0 + 9, none⟩ = some (.string s.name) := block_cell hx1.out 9
  have q_10 : w1.cell? ⟨w.heap.size, 0 + 10, none⟩ = some (.string s.uid) := block_cell hx1.out 10
  have q_11 : w1.cell? ⟨w.heap.size, 0 + 11, none⟩ = some (.string s.gid) := block_cell hx1.out 11
  have q_12 : w1.cell? ⟨w.heap.size, 0 + 12, none⟩ = some (.string s.muid) := block_cell hx1.out 12
  go_wp2_with fail
  rw [← hlit.out]
  refine (hfe.out _).mono ?_
  rintro e w2 ⟨rfl, hb2⟩
  have hx2 := hid ((hb2.block _ hz1).trans hx1.out)
  have f2 := hid (sn f1.out hb2)
  have hz2 : w.heap.size < w2.heap.size := lt_of_block hx2.out
  obtain ⟨hc2, hf2⟩ := bcell hb2
  clear hb2
  by_cases hfB : fewB s = true
  case neg =>
    rw [Bool.not_eq_true] at hfB
    rw [hfB]
    clear hfB
    go_wp2_with fail
    go_ret
    exact ⟨rfl, f2.out⟩
  have hfw := hid (of_decide_eq_true hfB)
  rw [hfB]
  clear hfB hfe
  have hsB := hid (bytes_le s hfw.out)
  go_wp2_with fail
  rw [← hlit.out]
  refine (encode_any s _ hok'.out hfw.out).mono ?_
  rintro e w3 ⟨v3, rfl, hv3, hb3⟩
  have hx3 := hid ((hb3.block _ hz2).trans hx2.out)
  have f3 := hid (sn f2.out hb3)
  have hz3 : w.heap.size < w3.heap.size := lt_of_block hx3.out
  obtain ⟨hc3, hf3⟩ := bcell hb3
  clear hb3
  rw [hlit.out]
  go_wp2_with fail
  rw [← hlit.out]
  refine (hof.out _).mono ?_
  rintro e w4 ⟨rfl, hb4⟩
  go_wp2_with fail
  refine (statbytes_any s _ hok'.out hfw.out).mono ?_
  rintro e w5 ⟨v5, rfl, hv5, hb5⟩
  have hb45 := hb4.trans (hb5.mono hb4.size)
  have hx5 := hid ((hb45.block _ hz3).trans hx3.out)
  have f5 := hid (sn f3.out hb45)
  have hz5 : w.heap.size < w5.heap.size := lt_of_block hx5.out
  have hv35 := hv3.below hb45
  obtain ⟨hc5, hf5⟩ := bcell hb45
  clear hb4 hb5 hb45 hv3
  obtain ⟨a3, c3, rfl, g3, g3m, _⟩ := hv35.form
  obtain ⟨a5, c5, rfl, g5, g5m, _⟩ := hv5.form
  unfold maxLen at g3m g5m
  have hvA : BytesAt w5.drew _ _ := hv35.below ((Below.refl w5.heap.size w5).drew)
  have hvB : BytesAt w5.drew _ _ := hv5.below ((Below.refl w5.heap.size w5).drew)
  have f5d := hid (f5.out.drew)
  have hsz2 := hsz.out hfw.out
  have hrs2 := hrs.out hfw.out
  have hof2 := hof.out
  rw [hlit.out] at hsz2 hrs2 hof2
  replace hsz2 := hid hsz2
  replace hrs2 := hid hrs2
  replace hof2 := hid hof2
  have hv35' := hid hv35
  have hA : At13 w5.drew w.heap.size s := At13.of_block hx5.out
  clear hv35 hv5 hc2 hf2 hc3 hf3 hsz hrs hof hc5 hf5
  clear q_0 q_1 q_2 q_3 q_4 q_5 q_6 q_7 q_8 q_9 q_10 q_11 q_12
  have p_0 : w5.cell? ⟨w.heap.size, 0, none⟩ = some (.int .u16 (s.kind : Int)) := block_cell hx5.out 0
  have p_1 : w5.cell? ⟨w.heap.size, 0 + 1, none⟩ = some (.int .u32 (s.dev : Int)) := block_cell hx5.out 1
  have p_2 : w5.cell? ⟨w.heap.size, 0 + 2, none⟩ = some (.int .u8 (s.qt : Int)) := block_cell hx5.out 2
  have p_3 : w5.cell? ⟨w.heap.size, 0 + 2 + 1, none⟩ = some (.int .u32 (s.qv : Int)) := block_cell hx5.out 3
  have p_4 : w5.cell? ⟨w.heap.size, 0 + 2 + 2, none⟩ = some (.int .u64 (s.qp : Int)) := block_cell hx5.out 4
  have p_5 : w5.cell? ⟨w.heap.size, 0 + 5, none⟩ = some (.int .u32 (s.mode : Int)) := block_cell hx5.out 5
  have p_6 : w5.cell? ⟨w.heap.size, 0 + 6, none⟩ = some (.int .u32 (s.atm : Int)) := block_cell hx5.out 6
  have p_7 : w5.cell? ⟨w.heap.size, 0 + 7, none⟩ = some (.int .u32 (s.mtm : Int)) := block_cell hx5.out 7
  have p_8 : w5.cell? ⟨w.heap.size, 0 + 8, none⟩ = some (.int .u64 (s.len : Int)) := block_cell hx5.out 8
  have p_9 : w5.cell? ⟨w.heap.size, 0 + 9, none⟩ = some (.string s.name) := block_cell hx5.out 9
  have p_10 : w5.cell? ⟨w.heap.size, 0 + 10, none⟩ = some (.string s.uid) := block_cell hx5.out 10
  have p_11 : w5.cell? ⟨w.heap.size, 0 + 11, none⟩ = some (.string s.gid) := block_cell hx5.out 11
  have p_12 : w5.cell? ⟨w.heap.size, 0 + 12, none⟩ = some (.string s.muid) := block_cell hx5.out 12
  rw [hlit.out]
  go_wp2_with fail
  go_region_held3 (fun w' => w'.cell? ⟨w.heap.size, 0, none⟩ = some (.int .u16 (s.kind : Int)) ∧ w'.cell? ⟨w.heap.size, 1, none⟩ = some (.int .u32 (s.dev : Int)) ∧ w'.cell? ⟨w.heap.size, 2, none⟩ = some (.int .u8 (s.qt : Int)) ∧ w'.cell? ⟨w.heap.size, 3, none⟩ = some (.int .u32 (s.qv : Int)) ∧ w'.cell? ⟨w.heap.size, 4, none⟩ = some (.int .u64 (s.qp : Int)) ∧ w'.cell? ⟨w.heap.size, 5, none⟩ = some (.int .u32 (s.mode : Int)) ∧ w'.cell? ⟨w.heap.size, 6, none⟩ = some (.int .u32 (s.atm : Int)) ∧ w'.cell? ⟨w.heap.size, 7, none⟩ = some (.int .u32 (s.mtm : Int)) ∧ w'.cell? ⟨w.heap.size, 8, none⟩ = some (.int .u64 (s.len : Int)) ∧ w'.cell? ⟨w.heap.size, 9, none⟩ = some (.string s.name) ∧ w'.cell? ⟨w.heap.size, 10, none⟩ = some (.string s.uid) ∧ w'.cell? ⟨w.heap.size, 11, none⟩ = some (.string s.gid) ∧ w'.cell? ⟨w.heap.size, 12, none⟩ = some (.string s.muid) ∧ (convert 29 9 (.slice a3 s.bytes.length c3)).run Try.prog w' = .ok (.string (strL s.bytes)) w' ∧ (convert 29 9 (.slice a5 s.bytes.length c5)).run Try.prog w' = .ok (.string (strL s.bytes)) w')
    (first | exact ⟨hA.1, hA.2.1, hA.2.2.1, hA.2.2.2.1, hA.2.2.2.2.1, hA.2.2.2.2.2.1, hA.2.2.2.2.2.2.1, hA.2.2.2.2.2.2.2.1, hA.2.2.2.2.2.2.2.2.1, hA.2.2.2.2.2.2.2.2.2.1, hA.2.2.2.2.2.2.2.2.2.2.1, hA.2.2.2.2.2.2.2.2.2.2.2.1, hA.2.2.2.2.2.2.2.2.2.2.2.2, conv_string _ _ _ hvA, conv_string _ _ _ hvB⟩ | go_keep)
    (first
      | (go_at_call 17; (with_reducible refine (hsz2.out _).mono ?_); rintro e wn ⟨rfl, hbS⟩; replace hA := At13.below hbS hA; replace hvA := hvA.below hbS; replace hvB := hvB.below hbS)
      | (go_at_call 41; (with_reducible refine (hof2.out _).mono ?_); rintro e wn ⟨rfl, hbO⟩; replace hA := At13.below hbO hA; replace hvA := hvA.below hbO; replace hvB := hvB.below hbO)
      | (go_at_call 42; (with_reducible refine (hrs2.out _).mono ?_); rintro e wn ⟨rfl, hbR⟩; replace hA := At13.below hbR hA; replace hvA := hvA.below hbR; replace hvB := hvB.below hbR))
  all_goals
    have f6 : Below w.heap.size w wn := by first | exact sn (sn (sn f5d.out hbS) hbO) hbR | exact sn (sn (sn f5d.out hbO) hbS) hbR | exact sn (sn (sn f5d.out hbO) hbR) hbS
    have hv6 : BytesAt wn (.slice a3 s.bytes.length c3) s.bytes := hv35'.out.below (by first | exact sn (sn (sn ((Below.refl w5.heap.size w5).drew) hbS) hbO) hbR | exact sn (sn (sn ((Below.refl w5.heap.size w5).drew) hbO) hbS) hbR | exact sn (sn (sn ((Below.refl w5.heap.size w5).drew) hbO) hbR) hbS)
    obtain ⟨A0, A1, A2, A3, A4, A5, A6, A7, A8, A9, A10, A11, A12⟩ := hA
    replace f6 := hid f6
    replace hv6 := hid hv6
    clear hvA hvB p_0 p_1 p_2 p_3 p_4 p_5 p_6 p_7 p_8 p_9 p_10 p_11 p_12
    by_cases he : s.err = 0
    case neg =>
      have k0 : ((s.err : Int) != 0) = true := by simpa using he
      clear he
      go_wp2_with fail
      go_ret
      exact ⟨rfl, f6.out⟩
    have k0 : ((s.err : Int) != 0) = false := by simpa using he
    have hlen : s.bytes.length = s.size := by rw [bytes_len, if_pos he]
    obtain ⟨d1, d2, d3⟩ := dec_back hok'.out hfw.out he []
    rw [List.append_nil] at d1 d2 d3
    have he' := hid he
    have hlen' := hid hlen
    replace d1 := hid d1
    replace d2 := hid d2
    replace d3 := hid d3
    clear he hlen
    rw [hlen'.out] at hv6 g3 ⊢
    have hsz9 : s.size ≤ 849 := by rw [← hlen'.out]; exact hsB.out
    go_wp2_with fail
    refine (decode_any _ s.bytes _ hv6.out (by rw [hlen'.out]; omega)).mono ?_
    rintro e w9 ⟨rfl, hb9⟩
    rw [d1.out, d2.out, d3.out, hlen'.out, hlit.out]
    have hzn : w.heap.size < wn.heap.size := World.block_lt_of_cell? wn _ A0
    have hz9 : w.heap.size < w9.heap.size := bsz hb9 hzn
    obtain ⟨hc9, hf9⟩ := bcell hb9
    have f9 := hid (sn f6.out hb9)
    have hseL := hse.out
    rw [hlit.out] at hseL
    have hkpL := hkp.out
    rw [show keepS.cells = #[.int .u16 65535, .int .u32 4294967295, .int .u8 255, .int .u32 4294967295, .int .u64 18446744073709551615, .int .u32 4294967295, .int .u32 4294967295, .int .u32 4294967295, .int .u64 18446744073709551615, .string ⟨#[]⟩, .string ⟨#[]⟩, .string ⟨#[]⟩, .string ⟨#[]⟩] from rfl] at hkpL
    replace hkpL := hid hkpL
    have hofK := fun W => of_any keepS W
    rw [show keepS.cells = #[.int .u16 65535, .int .u32 4294967295, .int .u8 255, .int .u32 4294967295, .int .u64 18446744073709551615, .int .u32 4294967295, .int .u32 4294967295, .int .u32 4294967295, .int .u64 18446744073709551615, .string ⟨#[]⟩, .string ⟨#[]⟩, .string ⟨#[]⟩, .string ⟨#[]⟩] from rfl] at hofK
    replace hofK := hid hofK
    have hrkL := fun W => ref_keep_any W
    rw [show keepS.cells = #[.int .u16 65535, .int .u32 4294967295, .int .u8 255, .int .u32 4294967295, .int .u64 18446744073709551615, .int .u32 4294967295, .int .u32 4294967295, .int .u32 4294967295, .int .u64 18446744073709551615, .string ⟨#[]⟩, .string ⟨#[]⟩, .string ⟨#[]⟩, .string ⟨#[]⟩] from rfl] at hrkL
    replace hrkL := hid hrkL
    have hrsL := rst_self keepS
    rw [show keepS.cells = #[.int .u16 65535, .int .u32 4294967295, .int .u8 255, .int .u32 4294967295, .int .u64 18446744073709551615, .int .u32 4294967295, .int .u32 4294967295, .int .u32 4294967295, .int .u64 18446744073709551615, .string ⟨#[]⟩, .string ⟨#[]⟩, .string ⟨#[]⟩, .string ⟨#[]⟩] from rfl] at hrsL
    clear hb9
    go_wp2_with fail
    refine (hsz2.out _).mono ?_
    rintro e w10 ⟨rfl, hb10⟩
    obtain ⟨hc10, hf10⟩ := bcell hb10
    go_wp2_with fail
    refine (hkpL.out _).mono ?_
    rintro e w11 ⟨rfl, hb11⟩
    go_wp2_with fail
    refine (hofK.out _).mono ?_
    rintro e w12 ⟨rfl, hb12⟩
    go_wp2_with fail
    refine (hrkL.out _).mono ?_
    rintro e w13 ⟨rfl, hb13⟩
    go_wp2_with fail
    go_ret
    exact ⟨rfl, sn (sn (sn ((f9.out.alloc (Nat.le_of_lt hz9) _).trans (hb10.mono (by simp; omega))) hb11) hb12) hb13⟩
end Go.Proofs.Ytoblafeiidjaaaa
