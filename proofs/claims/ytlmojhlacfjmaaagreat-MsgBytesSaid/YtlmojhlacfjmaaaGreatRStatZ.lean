/- What the reference's StatOf returns, for any bytes. Conditions: the length is at most a thousand million. -/
import Derived.Test.YtlmojhlacfjmaaaGreatRQidZ
import Derived.Test.YtlmojhlacfjmaaaGreatBunR
namespace Go.Proofs.YtlmojhlacfjmaaaGreat
open Go.RowKit
set_option maxRecDepth 100000

structure RRAt (w w' : World) (b q : Nat) (cs : Array Value) (p : List UInt8 × Nat) : Prop where
 inn : RInAt w' b p
 box : w'.heap[q]? = some (.cells cs 44 (0, 0))
 below : Below w.heap.size w w'
 nf : ¬ Foot w' b q
 ge : w.heap.size ≤ b
 geq : w.heap.size ≤ q
theorem RRAt.step {w w1 w2 : World} {b q : Nat} {cs : Array Value} {p p2 : List UInt8 × Nat} (h : RRAt w w1 b q cs p) (hi : RInAt w2 b p2) (hs : OStep b w1 w2) : RRAt w w2 b q cs p2 := by
 obtain ⟨e, n⟩ := hs.block q (lt_of_block h.box) h.nf
 exact ⟨hi, e.trans h.box, h.below.trans (hs.below.mono h.ge), n, h.ge, h.geq⟩
theorem RRAt.set {w w1 : World} {b q : Nat} {cs : Array Value} {p : List UInt8 × Nat} (h : RRAt w w1 b q cs p) (i : Nat) (u : Value) (cs' : Array Value) (e : cs.setIfInBounds i u = cs') : RRAt w (w1.setCell ⟨q, i, none⟩ u) b q cs' p := by
 have hq : q ≠ b := fun e => h.nf (.inl e)
 subst e
 exact ⟨h.inn.store (a := ⟨q, i, none⟩) u h.nf, block_set h.box i u, h.below.setCell (p := ⟨q, i, none⟩) h.geq u, Foot.store (p := ⟨q, i, none⟩) hq h.nf, h.ge, h.geq⟩

theorem rof_results {tmps : Array Value} {w : World} {g : Nat} {cs : Array Value} {x e : Value} (h2 : tmps.getD 2 undef = .pointer (some ⟨g, 0, none⟩)) (h3 : tmps.getD 3 undef = x) (h4 : tmps.getD 4 undef = e)
  (hg : w.heap[g]? = some (.cells cs 44 (0, 0))) (hs : cs.size = 13) : (results Tryz.f63 tmps).run Tryz.prog w = .ok (.tuple #[.agg cs, x, e]) w := by
 have hi : (Tryz.prog.info? 44).map (·.size) = some cs.size := by rw [hs]; kernel_rfl
 have h2' : tmps[2]?.getD undef = .pointer (some ⟨g, 0, none⟩) := by simpa using h2
 have h3' : tmps[3]?.getD undef = x := by simpa using h3
 have h4' : tmps[4]?.getD undef = e := by simpa using h4
 simp [results, Tryz.results63, h2', h3', h4', asAddr, run_loadVar_row w g 44 44 cs (0, 0) _ hg Tryz.underlying44 rfl hi]

theorem rof_good {l : List UInt8} (h : decE l = 0) {w w' : World} {v : Value} (hv : v = .tuple #[.agg (readS (bodyL l)).cells, .int .i64 ((tv 2 (l, 0) : Int) + 2), .int .i64 0]) (hb : Below w.heap.size w w') : DecPost w l (.returned v) w' := by
 refine dec_good h ?_ hb
 rw [hv]
 have h4 : (rd (tv 2 (l, 0)) (rd 2 (l, 0))).2 = 0 := by
  unfold decE at h
  by_cases hc : (rd (tv 2 (l, 0)) (rd 2 (l, 0))).2 = 0
  ·exact hc
  ·rw [if_pos hc] at h; omega
 have hlen : (bodyL l).length = tv 2 (l, 0) := rawL_take h4
 rw [hlen, Int.add_comm]

set_option maxHeartbeats 3200000 in
theorem statof_any (v : Value) (l : List UInt8) (w : World) (hv : BytesAt w v l) (hl : l.length ≤ 1000000000) : Calls Tryz.prog 63 #[v] w (DecPost w l) := by
 obtain ⟨a, c, rfl, _, _, _⟩ := hv.form
 have htv := tv_lt 2 (l, 0) (by omega)
 have l2 : (rd 2 (l, 0)).1.length ≤ l.length := rd_le 2 (l, 0)
 have hb0 := (Below.refl w.heap.size w).alloc (Nat.le_refl _) (.cells #[.int .u16 0, .int .u32 0, .int .u8 0, .int .u32 0, .int .u64 0, .int .u32 0, .int .u32 0, .int .u32 0, .int .u64 0, .string ⟨#[]⟩, .string ⟨#[]⟩, .string ⟨#[]⟩, .string ⟨#[]⟩] 44)
 have hi0 : RInAt _ _ (l, 0) := rin_new (w.alloc (.cells #[.int .u16 0, .int .u32 0, .int .u8 0, .int .u32 0, .int .u64 0, .int .u32 0, .int .u32 0, .int .u32 0, .int .u64 0, .string ⟨#[]⟩, .string ⟨#[]⟩, .string ⟨#[]⟩, .string ⟨#[]⟩] 44)) _ l (hv.below hb0) hl
 have hbox := (Below.refl (w.alloc (.cells #[.int .u16 0, .int .u32 0, .int .u8 0, .int .u32 0, .int .u64 0, .int .u32 0, .int .u32 0, .int .u32 0, .int .u64 0, .string ⟨#[]⟩, .string ⟨#[]⟩, .string ⟨#[]⟩, .string ⟨#[]⟩] 44)).heap.size (w.alloc (.cells #[.int .u16 0, .int .u32 0, .int .u8 0, .int .u32 0, .int .u64 0, .int .u32 0, .int .u32 0, .int .u32 0, .int .u64 0, .string ⟨#[]⟩, .string ⟨#[]⟩, .string ⟨#[]⟩, .string ⟨#[]⟩] 44))).alloc (Nat.le_refl _) (.cells #[.slice a l.length c, .int .i64 0, .int .i64 0] 86)
 have hsz : (w.alloc (.cells #[.int .u16 0, .int .u32 0, .int .u8 0, .int .u32 0, .int .u64 0, .int .u32 0, .int .u32 0, .int .u32 0, .int .u64 0, .string ⟨#[]⟩, .string ⟨#[]⟩, .string ⟨#[]⟩, .string ⟨#[]⟩] 44)).heap.size = w.heap.size + 1 := by simp
 rw [hsz] at hi0
 replace hsz := hid hsz
 go_enter Tryz.func63, Tryz.ntmps63
 go_wp2_with fail
 refine (rtake_at _ 2 (l, 0) _ (by omega) (by omega) hi0).mono ?_
 rintro e w1 ⟨rfl, ha1, hs1⟩
 go_wp2_with fail
 refine (rin_raw_step _ (tv 2 (l, 0)) (rd 2 (l, 0)).1 (rd 2 (l, 0)).2 _ (by omega) ha1).mono ?_
 rintro e w2 ⟨v2, rfl, hv2, hi2, hs2⟩
 have ha2 : RInAt w2 (w.heap.size + 1) (rd (tv 2 (l, 0)) (rd 2 (l, 0))) := hi2
 have f2 := hbox.trans ((hs1.trans hs2).below.mono (by simp))
 have hbad := ha2.bad
 obtain ⟨hcR, hfR⟩ := bcell f2
 have hR := f2.block w.heap.size (by simp)
 rw [heap_alloc_new] at hR
 have hz := f2.size
 have hz2 : w.heap.size < w2.heap.size := by simp at hz; omega
 have hbb := hid (hb0.trans (f2.mono (by simp)))
 replace hR := hid hR
 clear hs1 hs2 ha1 hi0 hi2 ha2 hbox
 by_cases hE4 : (rd (tv 2 (l, 0)) (rd 2 (l, 0))).2 = 0
 case neg =>
  have k0 : (((rd (tv 2 (l, 0)) (rd 2 (l, 0))).2 : Int) != 0) = true := by simpa using hE4
  have hD : Hid (decE l = 4) := hid (by unfold decE; rw [if_pos hE4])
  clear hE4
  go_wp2_with fail
  refine bodyPost_ret (rof_results rfl rfl rfl (set13 hR.out rfl) rfl) rfl ?_
  exact dec_bad hD.out (by omega) rfl (below13 (Nat.le_refl _) hbb.out)
 have k0 : (((rd (tv 2 (l, 0)) (rd 2 (l, 0))).2 : Int) != 0) = false := by simpa using hE4
 have hD : Hid (decE l = if readE (bodyL l) then 0 else 2) := hid (by unfold decE; rw [if_neg (by simp [hE4])])
 have hgd := @rof_good l
 replace hgd := hid hgd
 have hBL : (bodyL l).length ≤ 1000000000 := by have := rawL_le (tv 2 (l, 0)) (rd 2 (l, 0)).1 (rd 2 (l, 0)).2; unfold bodyL; omega
 replace hv2 : BytesAt w2 v2 (bodyL l) := hv2
 clear hE4 hcR hfR
 generalize bodyL l = x at *
 obtain ⟨a2, c2, rfl, _, _, _⟩ := hv2.form
 have hk := rin_new w2 _ x hv2 hBL
 replace hk : RInAt _ w2.heap.size (x, 0) := hk
 have f3 := hbb.out.alloc (Nat.le_of_lt hz2) (.cells #[.slice a2 x.length c2, .int .i64 0, .int .i64 0] 86)
 have hR3 := (heap_alloc_old w2 (.cells #[.slice a2 x.length c2, .int .i64 0, .int .i64 0] 86) hz2).trans hR.out
 replace f3 := hid f3
 replace hR3 := hid hR3
 clear hR
 have c0' : IntKind.u16.wrap (tv 2 (x, 0) : Int) = (tv 2 (x, 0) : Int) := IntWalk.u16_in _ (by have := tv_lt 2 ((x, 0)) (by omega); omega)
 have c1' : IntKind.u32.wrap (tv 4 (rd 2 (x, 0)) : Int) = (tv 4 (rd 2 (x, 0)) : Int) := IntWalk.u32_in _ (by have := tv_lt 4 ((rd 2 (x, 0))) (by omega); omega)
 have c2' : IntKind.u32.wrap (tv 4 (r5 x) : Int) = (tv 4 (r5 x) : Int) := IntWalk.u32_in _ (by have := tv_lt 4 ((r5 x)) (by omega); omega)
 have c3' : IntKind.u32.wrap (tv 4 (rd 4 (r5 x)) : Int) = (tv 4 (rd 4 (r5 x)) : Int) := IntWalk.u32_in _ (by have := tv_lt 4 ((rd 4 (r5 x))) (by omega); omega)
 have c4' : IntKind.u32.wrap (tv 4 (rd 4 (rd 4 (r5 x))) : Int) = (tv 4 (rd 4 (rd 4 (r5 x))) : Int) := IntWalk.u32_in _ (by have := tv_lt 4 ((rd 4 (rd 4 (r5 x)))) (by omega); omega)
 have l5 : (r5 x).1.length ≤ x.length := Nat.le_trans (qr_le _) (Nat.le_trans (rd_le _ _) (rd_le _ _))
 have l6 := rd_le 4 (r5 x)
 have l7 := rd_le 4 (rd 4 (r5 x))
 have l8 : (r8 x).1.length ≤ x.length := Nat.le_trans (rd_le _ _) (by omega)
 have l9 : (r9 x).1.length ≤ x.length := Nat.le_trans (rd_le _ _) (by omega)
 have la := tr_le (r9 x)
 have lb := tr_le (tr (r9 x))
 have lc := tr_le (tr (tr (r9 x)))
 go_wp2_with fail
 clear hbad
 refine (rtake_at _ 2 (x, 0) _ (by omega) (by omega) hk).mono ?_
 rintro e w3 ⟨rfl, ha3, hs3⟩
 generalize hbk : w2.heap.size = bk at *
 have hb4 := (Below.refl w3.heap.size w3).alloc (Nat.le_refl _) (.cells #[.int .u16 (tv 2 (x, 0) : Int), .int .u32 0, .int .u8 0, .int .u32 0, .int .u64 0, .int .u32 0, .int .u32 0, .int .u32 0, .int .u64 0, .string ⟨#[]⟩, .string ⟨#[]⟩, .string ⟨#[]⟩, .string ⟨#[]⟩] 44)
 have f4 := hid (hs3.below)
 have hz3 : bk + 1 ≤ w3.heap.size := by have := hs3.below.size; simp at this; omega
 have hqne : w.heap.size ≠ w3.heap.size := by omega
 have hR4 := (hs3.below.block w.heap.size (by omega)).trans hR3.out
 have f5 := hid (f3.out.trans (hs3.below.mono (by omega)))
 replace hR4 := hid hR4
 have st0 : RRAt w (w3.alloc (.cells #[.int .u16 (tv 2 (x, 0) : Int), .int .u32 0, .int .u8 0, .int .u32 0, .int .u64 0, .int .u32 0, .int .u32 0, .int .u32 0, .int .u64 0, .string ⟨#[]⟩, .string ⟨#[]⟩, .string ⟨#[]⟩, .string ⟨#[]⟩] 44)) bk w3.heap.size #[.int .u16 (tv 2 (x, 0) : Int), .int .u32 0, .int .u8 0, .int .u32 0, .int .u64 0, .int .u32 0, .int .u32 0, .int .u32 0, .int .u64 0, .string ⟨#[]⟩, .string ⟨#[]⟩, .string ⟨#[]⟩, .string ⟨#[]⟩] (rd 2 (x, 0)) :=
  ⟨ha3.below hb4, heap_alloc_new _ _, f5.out.trans (hb4.mono (by omega)), ha3.new _, by omega, by omega⟩
 have hR5 := hid ((heap_alloc_old w3 (.cells #[.int .u16 (tv 2 (x, 0) : Int), .int .u32 0, .int .u8 0, .int .u32 0, .int .u64 0, .int .u32 0, .int .u32 0, .int .u32 0, .int .u64 0, .string ⟨#[]⟩, .string ⟨#[]⟩, .string ⟨#[]⟩, .string ⟨#[]⟩] 44) (by omega : w.heap.size < w3.heap.size)).trans hR4.out)
 clear ha3 hs3 hk hb4 f3 hR3 f4 hR4 hv2
 go_wp2_with fail
 refine (rtake_at _ 4 (rd 2 (x, 0)) _ (by omega) (by omega) st0.inn).mono ?_
 rintro e y1 ⟨rfl, ha6, hs6⟩
 have st1 := st0.step ha6 hs6
 have hR1' := hid ((hs6.below.block w.heap.size (by omega)).trans hR5.out)
 clear ha6 hs6 st0 hR5
 have q1 : y1.cell? ⟨w3.heap.size, 0 + 1, none⟩ = some (.int .u32 0) := block_cell st1.box 1
 have f1' : y1.frozen? ⟨w3.heap.size, 0 + 1, none⟩ = false := block_free st1.box 1
 have sx1 := (st1.set 1 (.int .u32 (tv 4 (rd 2 (x, 0)) : Int)) #[.int .u16 (tv 2 (x, 0) : Int), .int .u32 (tv 4 (rd 2 (x, 0)) : Int), .int .u8 0, .int .u32 0, .int .u64 0, .int .u32 0, .int .u32 0, .int .u32 0, .int .u64 0, .string ⟨#[]⟩, .string ⟨#[]⟩, .string ⟨#[]⟩, .string ⟨#[]⟩] (by rfl))
 have hRx1 := hid ((block_set_other (p := ⟨w3.heap.size, 1, none⟩) (u := .int .u32 (tv 4 (rd 2 (x, 0)) : Int)) hqne).trans hR1'.out)
 clear st1 hR1'
 go_wp2_with fail
 clear q1 f1'
 refine (rqid_any _ (r2 x) _ sx1.inn).mono ?_
 rintro e y2 ⟨rfl, ha6, hs6⟩
 have hz : Hid (qidAgg (r2 x) = .agg #[.int .u8 (qvT (r2 x) : Int), .int .u32 (qvV (r2 x) : Int), .int .u64 (qvP (r2 x) : Int)]) := hid rfl
 rw [hz.out]
 have st2 := sx1.step ha6 hs6
 have hR2' := hid ((hs6.below.block w.heap.size (by omega)).trans hRx1.out)
 clear ha6 hs6 sx1 hRx1
 have q2 : y2.cell? ⟨w3.heap.size, 0 + 2, none⟩ = some (.int .u8 0) := block_cell st2.box 2
 have f2' : y2.frozen? ⟨w3.heap.size, 0 + 2, none⟩ = false := block_free st2.box 2
 have q3 : y2.cell? ⟨w3.heap.size, 0 + 2 + 1, none⟩ = some (.int .u32 0) := block_cell st2.box 3
 have f3' : y2.frozen? ⟨w3.heap.size, 0 + 2 + 1, none⟩ = false := block_free st2.box 3
 have q4 : y2.cell? ⟨w3.heap.size, 0 + 2 + 2, none⟩ = some (.int .u64 0) := block_cell st2.box 4
 have f4' : y2.frozen? ⟨w3.heap.size, 0 + 2 + 2, none⟩ = false := block_free st2.box 4
 have sx4 := (((st2.set 2 (.int .u8 (qvT (r2 x) : Int)) #[.int .u16 (tv 2 (x, 0) : Int), .int .u32 (tv 4 (rd 2 (x, 0)) : Int), .int .u8 (qvT (r2 x) : Int), .int .u32 0, .int .u64 0, .int .u32 0, .int .u32 0, .int .u32 0, .int .u64 0, .string ⟨#[]⟩, .string ⟨#[]⟩, .string ⟨#[]⟩, .string ⟨#[]⟩] (by rfl)).set 3 (.int .u32 (qvV (r2 x) : Int)) #[.int .u16 (tv 2 (x, 0) : Int), .int .u32 (tv 4 (rd 2 (x, 0)) : Int), .int .u8 (qvT (r2 x) : Int), .int .u32 (qvV (r2 x) : Int), .int .u64 0, .int .u32 0, .int .u32 0, .int .u32 0, .int .u64 0, .string ⟨#[]⟩, .string ⟨#[]⟩, .string ⟨#[]⟩, .string ⟨#[]⟩] (by rfl)).set 4 (.int .u64 (qvP (r2 x) : Int)) #[.int .u16 (tv 2 (x, 0) : Int), .int .u32 (tv 4 (rd 2 (x, 0)) : Int), .int .u8 (qvT (r2 x) : Int), .int .u32 (qvV (r2 x) : Int), .int .u64 (qvP (r2 x) : Int), .int .u32 0, .int .u32 0, .int .u32 0, .int .u64 0, .string ⟨#[]⟩, .string ⟨#[]⟩, .string ⟨#[]⟩, .string ⟨#[]⟩] (by rfl))
 have hRx4 := hid ((block_set_other (p := ⟨w3.heap.size, 4, none⟩) (u := .int .u64 (qvP (r2 x) : Int)) hqne).trans ((block_set_other (p := ⟨w3.heap.size, 3, none⟩) (u := .int .u32 (qvV (r2 x) : Int)) hqne).trans ((block_set_other (p := ⟨w3.heap.size, 2, none⟩) (u := .int .u8 (qvT (r2 x) : Int)) hqne).trans hR2'.out)))
 clear st2 hR2'
 go_wp2_with fail
 clear q2 f2' q3 f3' q4 f4'
 refine (rtake_at _ 4 (r5 x) _ (by omega) (by omega) sx4.inn).mono ?_
 rintro e y3 ⟨rfl, ha6, hs6⟩
 have st3 := sx4.step ha6 hs6
 have hR3' := hid ((hs6.below.block w.heap.size (by omega)).trans hRx4.out)
 clear ha6 hs6 sx4 hRx4
 have q5 : y3.cell? ⟨w3.heap.size, 0 + 5, none⟩ = some (.int .u32 0) := block_cell st3.box 5
 have f5' : y3.frozen? ⟨w3.heap.size, 0 + 5, none⟩ = false := block_free st3.box 5
 have sx5 := (st3.set 5 (.int .u32 (tv 4 (r5 x) : Int)) #[.int .u16 (tv 2 (x, 0) : Int), .int .u32 (tv 4 (rd 2 (x, 0)) : Int), .int .u8 (qvT (r2 x) : Int), .int .u32 (qvV (r2 x) : Int), .int .u64 (qvP (r2 x) : Int), .int .u32 (tv 4 (r5 x) : Int), .int .u32 0, .int .u32 0, .int .u64 0, .string ⟨#[]⟩, .string ⟨#[]⟩, .string ⟨#[]⟩, .string ⟨#[]⟩] (by rfl))
 have hRx5 := hid ((block_set_other (p := ⟨w3.heap.size, 5, none⟩) (u := .int .u32 (tv 4 (r5 x) : Int)) hqne).trans hR3'.out)
 clear st3 hR3'
 go_wp2_with fail
 clear q5 f5'
 refine (rtake_at _ 4 (rd 4 (r5 x)) _ (by omega) (by omega) sx5.inn).mono ?_
 rintro e y4 ⟨rfl, ha6, hs6⟩
 have st4 := sx5.step ha6 hs6
 have hR4' := hid ((hs6.below.block w.heap.size (by omega)).trans hRx5.out)
 clear ha6 hs6 sx5 hRx5
 have q6 : y4.cell? ⟨w3.heap.size, 0 + 6, none⟩ = some (.int .u32 0) := block_cell st4.box 6
 have f6' : y4.frozen? ⟨w3.heap.size, 0 + 6, none⟩ = false := block_free st4.box 6
 have sx6 := (st4.set 6 (.int .u32 (tv 4 (rd 4 (r5 x)) : Int)) #[.int .u16 (tv 2 (x, 0) : Int), .int .u32 (tv 4 (rd 2 (x, 0)) : Int), .int .u8 (qvT (r2 x) : Int), .int .u32 (qvV (r2 x) : Int), .int .u64 (qvP (r2 x) : Int), .int .u32 (tv 4 (r5 x) : Int), .int .u32 (tv 4 (rd 4 (r5 x)) : Int), .int .u32 0, .int .u64 0, .string ⟨#[]⟩, .string ⟨#[]⟩, .string ⟨#[]⟩, .string ⟨#[]⟩] (by rfl))
 have hRx6 := hid ((block_set_other (p := ⟨w3.heap.size, 6, none⟩) (u := .int .u32 (tv 4 (rd 4 (r5 x)) : Int)) hqne).trans hR4'.out)
 clear st4 hR4'
 go_wp2_with fail
 clear q6 f6'
 refine (rtake_at _ 4 (rd 4 (rd 4 (r5 x))) _ (by omega) (by omega) sx6.inn).mono ?_
 rintro e y5 ⟨rfl, ha6, hs6⟩
 have st5 := sx6.step ha6 hs6
 have hR5' := hid ((hs6.below.block w.heap.size (by omega)).trans hRx6.out)
 clear ha6 hs6 sx6 hRx6
 have q7 : y5.cell? ⟨w3.heap.size, 0 + 7, none⟩ = some (.int .u32 0) := block_cell st5.box 7
 have f7' : y5.frozen? ⟨w3.heap.size, 0 + 7, none⟩ = false := block_free st5.box 7
 have sx7 := (st5.set 7 (.int .u32 (tv 4 (rd 4 (rd 4 (r5 x))) : Int)) #[.int .u16 (tv 2 (x, 0) : Int), .int .u32 (tv 4 (rd 2 (x, 0)) : Int), .int .u8 (qvT (r2 x) : Int), .int .u32 (qvV (r2 x) : Int), .int .u64 (qvP (r2 x) : Int), .int .u32 (tv 4 (r5 x) : Int), .int .u32 (tv 4 (rd 4 (r5 x)) : Int), .int .u32 (tv 4 (rd 4 (rd 4 (r5 x))) : Int), .int .u64 0, .string ⟨#[]⟩, .string ⟨#[]⟩, .string ⟨#[]⟩, .string ⟨#[]⟩] (by rfl))
 have hRx7 := hid ((block_set_other (p := ⟨w3.heap.size, 7, none⟩) (u := .int .u32 (tv 4 (rd 4 (rd 4 (r5 x))) : Int)) hqne).trans hR5'.out)
 clear st5 hR5'
 go_wp2_with fail
 clear q7 f7'
 refine (rtake_at _ 8 (r8 x) _ (by omega) (by omega) sx7.inn).mono ?_
 rintro e y6 ⟨rfl, ha6, hs6⟩
 have st6 := sx7.step ha6 hs6
 have hR6' := hid ((hs6.below.block w.heap.size (by omega)).trans hRx7.out)
 clear ha6 hs6 sx7 hRx7
 have q8 : y6.cell? ⟨w3.heap.size, 0 + 8, none⟩ = some (.int .u64 0) := block_cell st6.box 8
 have f8' : y6.frozen? ⟨w3.heap.size, 0 + 8, none⟩ = false := block_free st6.box 8
 have sx8 := (st6.set 8 (.int .u64 (tv 8 (r8 x) : Int)) #[.int .u16 (tv 2 (x, 0) : Int), .int .u32 (tv 4 (rd 2 (x, 0)) : Int), .int .u8 (qvT (r2 x) : Int), .int .u32 (qvV (r2 x) : Int), .int .u64 (qvP (r2 x) : Int), .int .u32 (tv 4 (r5 x) : Int), .int .u32 (tv 4 (rd 4 (r5 x)) : Int), .int .u32 (tv 4 (rd 4 (rd 4 (r5 x))) : Int), .int .u64 (tv 8 (r8 x) : Int), .string ⟨#[]⟩, .string ⟨#[]⟩, .string ⟨#[]⟩, .string ⟨#[]⟩] (by rfl))
 have hRx8 := hid ((block_set_other (p := ⟨w3.heap.size, 8, none⟩) (u := .int .u64 (tv 8 (r8 x) : Int)) hqne).trans hR6'.out)
 clear st6 hR6'
 go_wp2_with fail
 clear q8 f8'
 refine (rtext_at _ (r9 x) _ (by omega) sx8.inn).mono ?_
 rintro e y7 ⟨rfl, ha6, hs6⟩
 have st7 := sx8.step ha6 hs6
 have hR7' := hid ((hs6.below.block w.heap.size (by omega)).trans hRx8.out)
 clear ha6 hs6 sx8 hRx8
 go_wp2_with fail
 refine (rtext_at _ (tr (r9 x)) _ (by omega) st7.inn).mono ?_
 rintro e y8 ⟨rfl, ha6, hs6⟩
 have st8 := st7.step ha6 hs6
 have hR8' := hid ((hs6.below.block w.heap.size (by omega)).trans hR7'.out)
 clear ha6 hs6 st7 hR7'
 go_wp2_with fail
 refine (rtext_at _ (tr (tr (r9 x))) _ (by omega) st8.inn).mono ?_
 rintro e y9 ⟨rfl, ha6, hs6⟩
 have st9 := st8.step ha6 hs6
 have hR9' := hid ((hs6.below.block w.heap.size (by omega)).trans hR8'.out)
 clear ha6 hs6 st8 hR8'
 go_wp2_with fail
 refine (rtext_at _ (tr (tr (tr (r9 x)))) _ (by omega) st9.inn).mono ?_
 rintro e y10 ⟨rfl, ha6, hs6⟩
 have st10 := st9.step ha6 hs6
 have hR10' := hid ((hs6.below.block w.heap.size (by omega)).trans hR9'.out)
 clear ha6 hs6 st9 hR9'
 have hzY : w.heap.size < y10.heap.size := lt_of_block hR10'.out
 by_cases t0 : te (r9 x) = 0
 case neg =>
  have hE : Hid (decE l = 2) := hid (by rw [hD.out, if_neg]; unfold readE; simp [t0])
  have m0 : ((te (r9 x) : Int) != 0) = true := by simpa using t0
  clear t0
  have hbY := hid st10.below
  clear st10
  have z0 : y10.cell? ⟨w.heap.size, 0, none⟩ = some (.int .u16 0) := block_cell hR10'.out 0
  have zf0 : y10.frozen? ⟨w.heap.size, 0, none⟩ = false := block_free hR10'.out 0
  have z1 : y10.cell? ⟨w.heap.size, 0 + 1, none⟩ = some (.int .u32 0) := block_cell hR10'.out 1
  have zf1 : y10.frozen? ⟨w.heap.size, 0 + 1, none⟩ = false := block_free hR10'.out 1
  have z2 : y10.cell? ⟨w.heap.size, 0 + 2, none⟩ = some (.int .u8 0) := block_cell hR10'.out 2
  have zf2 : y10.frozen? ⟨w.heap.size, 0 + 2, none⟩ = false := block_free hR10'.out 2
  have z3 : y10.cell? ⟨w.heap.size, 0 + 2 + 1, none⟩ = some (.int .u32 0) := block_cell hR10'.out 3
  have zf3 : y10.frozen? ⟨w.heap.size, 0 + 2 + 1, none⟩ = false := block_free hR10'.out 3
  have z4 : y10.cell? ⟨w.heap.size, 0 + 2 + 2, none⟩ = some (.int .u64 0) := block_cell hR10'.out 4
  have zf4 : y10.frozen? ⟨w.heap.size, 0 + 2 + 2, none⟩ = false := block_free hR10'.out 4
  have z5 : y10.cell? ⟨w.heap.size, 0 + 5, none⟩ = some (.int .u32 0) := block_cell hR10'.out 5
  have zf5 : y10.frozen? ⟨w.heap.size, 0 + 5, none⟩ = false := block_free hR10'.out 5
  have z6 : y10.cell? ⟨w.heap.size, 0 + 6, none⟩ = some (.int .u32 0) := block_cell hR10'.out 6
  have zf6 : y10.frozen? ⟨w.heap.size, 0 + 6, none⟩ = false := block_free hR10'.out 6
  have z7 : y10.cell? ⟨w.heap.size, 0 + 7, none⟩ = some (.int .u32 0) := block_cell hR10'.out 7
  have zf7 : y10.frozen? ⟨w.heap.size, 0 + 7, none⟩ = false := block_free hR10'.out 7
  have z8 : y10.cell? ⟨w.heap.size, 0 + 8, none⟩ = some (.int .u64 0) := block_cell hR10'.out 8
  have zf8 : y10.frozen? ⟨w.heap.size, 0 + 8, none⟩ = false := block_free hR10'.out 8
  have z9 : y10.cell? ⟨w.heap.size, 0 + 9, none⟩ = some (.string ⟨#[]⟩) := block_cell hR10'.out 9
  have zf9 : y10.frozen? ⟨w.heap.size, 0 + 9, none⟩ = false := block_free hR10'.out 9
  have z10 : y10.cell? ⟨w.heap.size, 0 + 10, none⟩ = some (.string ⟨#[]⟩) := block_cell hR10'.out 10
  have zf10 : y10.frozen? ⟨w.heap.size, 0 + 10, none⟩ = false := block_free hR10'.out 10
  have z11 : y10.cell? ⟨w.heap.size, 0 + 11, none⟩ = some (.string ⟨#[]⟩) := block_cell hR10'.out 11
  have zf11 : y10.frozen? ⟨w.heap.size, 0 + 11, none⟩ = false := block_free hR10'.out 11
  have z12 : y10.cell? ⟨w.heap.size, 0 + 12, none⟩ = some (.string ⟨#[]⟩) := block_cell hR10'.out 12
  have zf12 : y10.frozen? ⟨w.heap.size, 0 + 12, none⟩ = false := block_free hR10'.out 12
  go_wp2_with fail
  refine bodyPost_ret (rof_results rfl rfl rfl (set13 hR10'.out rfl) rfl) rfl ?_
  exact dec_bad hE.out (by omega) rfl (below13 (Nat.le_refl _) hbY.out)
 replace t0 := hid t0
 by_cases t1 : te (tr (r9 x)) = 0
 case neg =>
  have hE : Hid (decE l = 2) := hid (by rw [hD.out, if_neg]; unfold readE; simp [t0.out, t1])
  have m0 : ((te (r9 x) : Int) != 0) = false := by simp [t0.out]
  have m1 : ((te (tr (r9 x)) : Int) != 0) = true := by simpa using t1
  clear t1
  have hbY := hid st10.below
  clear st10
  have z0 : y10.cell? ⟨w.heap.size, 0, none⟩ = some (.int .u16 0) := block_cell hR10'.out 0
  have zf0 : y10.frozen? ⟨w.heap.size, 0, none⟩ = false := block_free hR10'.out 0
  have z1 : y10.cell? ⟨w.heap.size, 0 + 1, none⟩ = some (.int .u32 0) := block_cell hR10'.out 1
  have zf1 : y10.frozen? ⟨w.heap.size, 0 + 1, none⟩ = false := block_free hR10'.out 1
  have z2 : y10.cell? ⟨w.heap.size, 0 + 2, none⟩ = some (.int .u8 0) := block_cell hR10'.out 2
  have zf2 : y10.frozen? ⟨w.heap.size, 0 + 2, none⟩ = false := block_free hR10'.out 2
  have z3 : y10.cell? ⟨w.heap.size, 0 + 2 + 1, none⟩ = some (.int .u32 0) := block_cell hR10'.out 3
  have zf3 : y10.frozen? ⟨w.heap.size, 0 + 2 + 1, none⟩ = false := block_free hR10'.out 3
  have z4 : y10.cell? ⟨w.heap.size, 0 + 2 + 2, none⟩ = some (.int .u64 0) := block_cell hR10'.out 4
  have zf4 : y10.frozen? ⟨w.heap.size, 0 + 2 + 2, none⟩ = false := block_free hR10'.out 4
  have z5 : y10.cell? ⟨w.heap.size, 0 + 5, none⟩ = some (.int .u32 0) := block_cell hR10'.out 5
  have zf5 : y10.frozen? ⟨w.heap.size, 0 + 5, none⟩ = false := block_free hR10'.out 5
  have z6 : y10.cell? ⟨w.heap.size, 0 + 6, none⟩ = some (.int .u32 0) := block_cell hR10'.out 6
  have zf6 : y10.frozen? ⟨w.heap.size, 0 + 6, none⟩ = false := block_free hR10'.out 6
  have z7 : y10.cell? ⟨w.heap.size, 0 + 7, none⟩ = some (.int .u32 0) := block_cell hR10'.out 7
  have zf7 : y10.frozen? ⟨w.heap.size, 0 + 7, none⟩ = false := block_free hR10'.out 7
  have z8 : y10.cell? ⟨w.heap.size, 0 + 8, none⟩ = some (.int .u64 0) := block_cell hR10'.out 8
  have zf8 : y10.frozen? ⟨w.heap.size, 0 + 8, none⟩ = false := block_free hR10'.out 8
  have z9 : y10.cell? ⟨w.heap.size, 0 + 9, none⟩ = some (.string ⟨#[]⟩) := block_cell hR10'.out 9
  have zf9 : y10.frozen? ⟨w.heap.size, 0 + 9, none⟩ = false := block_free hR10'.out 9
  have z10 : y10.cell? ⟨w.heap.size, 0 + 10, none⟩ = some (.string ⟨#[]⟩) := block_cell hR10'.out 10
  have zf10 : y10.frozen? ⟨w.heap.size, 0 + 10, none⟩ = false := block_free hR10'.out 10
  have z11 : y10.cell? ⟨w.heap.size, 0 + 11, none⟩ = some (.string ⟨#[]⟩) := block_cell hR10'.out 11
  have zf11 : y10.frozen? ⟨w.heap.size, 0 + 11, none⟩ = false := block_free hR10'.out 11
  have z12 : y10.cell? ⟨w.heap.size, 0 + 12, none⟩ = some (.string ⟨#[]⟩) := block_cell hR10'.out 12
  have zf12 : y10.frozen? ⟨w.heap.size, 0 + 12, none⟩ = false := block_free hR10'.out 12
  go_wp2_with fail
  refine bodyPost_ret (rof_results rfl rfl rfl (set13 hR10'.out rfl) rfl) rfl ?_
  exact dec_bad hE.out (by omega) rfl (below13 (Nat.le_refl _) hbY.out)
 replace t1 := hid t1
 by_cases t2 : te (tr (tr (r9 x))) = 0
 case neg =>
  have hE : Hid (decE l = 2) := hid (by rw [hD.out, if_neg]; unfold readE; simp [t0.out, t1.out, t2])
  have m0 : ((te (r9 x) : Int) != 0) = false := by simp [t0.out]
  have m1 : ((te (tr (r9 x)) : Int) != 0) = false := by simp [t1.out]
  have m2 : ((te (tr (tr (r9 x))) : Int) != 0) = true := by simpa using t2
  clear t2
  have hbY := hid st10.below
  clear st10
  have z0 : y10.cell? ⟨w.heap.size, 0, none⟩ = some (.int .u16 0) := block_cell hR10'.out 0
  have zf0 : y10.frozen? ⟨w.heap.size, 0, none⟩ = false := block_free hR10'.out 0
  have z1 : y10.cell? ⟨w.heap.size, 0 + 1, none⟩ = some (.int .u32 0) := block_cell hR10'.out 1
  have zf1 : y10.frozen? ⟨w.heap.size, 0 + 1, none⟩ = false := block_free hR10'.out 1
  have z2 : y10.cell? ⟨w.heap.size, 0 + 2, none⟩ = some (.int .u8 0) := block_cell hR10'.out 2
  have zf2 : y10.frozen? ⟨w.heap.size, 0 + 2, none⟩ = false := block_free hR10'.out 2
  have z3 : y10.cell? ⟨w.heap.size, 0 + 2 + 1, none⟩ = some (.int .u32 0) := block_cell hR10'.out 3
  have zf3 : y10.frozen? ⟨w.heap.size, 0 + 2 + 1, none⟩ = false := block_free hR10'.out 3
  have z4 : y10.cell? ⟨w.heap.size, 0 + 2 + 2, none⟩ = some (.int .u64 0) := block_cell hR10'.out 4
  have zf4 : y10.frozen? ⟨w.heap.size, 0 + 2 + 2, none⟩ = false := block_free hR10'.out 4
  have z5 : y10.cell? ⟨w.heap.size, 0 + 5, none⟩ = some (.int .u32 0) := block_cell hR10'.out 5
  have zf5 : y10.frozen? ⟨w.heap.size, 0 + 5, none⟩ = false := block_free hR10'.out 5
  have z6 : y10.cell? ⟨w.heap.size, 0 + 6, none⟩ = some (.int .u32 0) := block_cell hR10'.out 6
  have zf6 : y10.frozen? ⟨w.heap.size, 0 + 6, none⟩ = false := block_free hR10'.out 6
  have z7 : y10.cell? ⟨w.heap.size, 0 + 7, none⟩ = some (.int .u32 0) := block_cell hR10'.out 7
  have zf7 : y10.frozen? ⟨w.heap.size, 0 + 7, none⟩ = false := block_free hR10'.out 7
  have z8 : y10.cell? ⟨w.heap.size, 0 + 8, none⟩ = some (.int .u64 0) := block_cell hR10'.out 8
  have zf8 : y10.frozen? ⟨w.heap.size, 0 + 8, none⟩ = false := block_free hR10'.out 8
  have z9 : y10.cell? ⟨w.heap.size, 0 + 9, none⟩ = some (.string ⟨#[]⟩) := block_cell hR10'.out 9
  have zf9 : y10.frozen? ⟨w.heap.size, 0 + 9, none⟩ = false := block_free hR10'.out 9
  have z10 : y10.cell? ⟨w.heap.size, 0 + 10, none⟩ = some (.string ⟨#[]⟩) := block_cell hR10'.out 10
  have zf10 : y10.frozen? ⟨w.heap.size, 0 + 10, none⟩ = false := block_free hR10'.out 10
  have z11 : y10.cell? ⟨w.heap.size, 0 + 11, none⟩ = some (.string ⟨#[]⟩) := block_cell hR10'.out 11
  have zf11 : y10.frozen? ⟨w.heap.size, 0 + 11, none⟩ = false := block_free hR10'.out 11
  have z12 : y10.cell? ⟨w.heap.size, 0 + 12, none⟩ = some (.string ⟨#[]⟩) := block_cell hR10'.out 12
  have zf12 : y10.frozen? ⟨w.heap.size, 0 + 12, none⟩ = false := block_free hR10'.out 12
  go_wp2_with fail
  refine bodyPost_ret (rof_results rfl rfl rfl (set13 hR10'.out rfl) rfl) rfl ?_
  exact dec_bad hE.out (by omega) rfl (below13 (Nat.le_refl _) hbY.out)
 replace t2 := hid t2
 by_cases t3 : te (tr (tr (tr (r9 x)))) = 0
 case neg =>
  have hE : Hid (decE l = 2) := hid (by rw [hD.out, if_neg]; unfold readE; simp [t0.out, t1.out, t2.out, t3])
  have m0 : ((te (r9 x) : Int) != 0) = false := by simp [t0.out]
  have m1 : ((te (tr (r9 x)) : Int) != 0) = false := by simp [t1.out]
  have m2 : ((te (tr (tr (r9 x))) : Int) != 0) = false := by simp [t2.out]
  have m3 : ((te (tr (tr (tr (r9 x)))) : Int) != 0) = true := by simpa using t3
  clear t3
  have hbY := hid st10.below
  clear st10
  have z0 : y10.cell? ⟨w.heap.size, 0, none⟩ = some (.int .u16 0) := block_cell hR10'.out 0
  have zf0 : y10.frozen? ⟨w.heap.size, 0, none⟩ = false := block_free hR10'.out 0
  have z1 : y10.cell? ⟨w.heap.size, 0 + 1, none⟩ = some (.int .u32 0) := block_cell hR10'.out 1
  have zf1 : y10.frozen? ⟨w.heap.size, 0 + 1, none⟩ = false := block_free hR10'.out 1
  have z2 : y10.cell? ⟨w.heap.size, 0 + 2, none⟩ = some (.int .u8 0) := block_cell hR10'.out 2
  have zf2 : y10.frozen? ⟨w.heap.size, 0 + 2, none⟩ = false := block_free hR10'.out 2
  have z3 : y10.cell? ⟨w.heap.size, 0 + 2 + 1, none⟩ = some (.int .u32 0) := block_cell hR10'.out 3
  have zf3 : y10.frozen? ⟨w.heap.size, 0 + 2 + 1, none⟩ = false := block_free hR10'.out 3
  have z4 : y10.cell? ⟨w.heap.size, 0 + 2 + 2, none⟩ = some (.int .u64 0) := block_cell hR10'.out 4
  have zf4 : y10.frozen? ⟨w.heap.size, 0 + 2 + 2, none⟩ = false := block_free hR10'.out 4
  have z5 : y10.cell? ⟨w.heap.size, 0 + 5, none⟩ = some (.int .u32 0) := block_cell hR10'.out 5
  have zf5 : y10.frozen? ⟨w.heap.size, 0 + 5, none⟩ = false := block_free hR10'.out 5
  have z6 : y10.cell? ⟨w.heap.size, 0 + 6, none⟩ = some (.int .u32 0) := block_cell hR10'.out 6
  have zf6 : y10.frozen? ⟨w.heap.size, 0 + 6, none⟩ = false := block_free hR10'.out 6
  have z7 : y10.cell? ⟨w.heap.size, 0 + 7, none⟩ = some (.int .u32 0) := block_cell hR10'.out 7
  have zf7 : y10.frozen? ⟨w.heap.size, 0 + 7, none⟩ = false := block_free hR10'.out 7
  have z8 : y10.cell? ⟨w.heap.size, 0 + 8, none⟩ = some (.int .u64 0) := block_cell hR10'.out 8
  have zf8 : y10.frozen? ⟨w.heap.size, 0 + 8, none⟩ = false := block_free hR10'.out 8
  have z9 : y10.cell? ⟨w.heap.size, 0 + 9, none⟩ = some (.string ⟨#[]⟩) := block_cell hR10'.out 9
  have zf9 : y10.frozen? ⟨w.heap.size, 0 + 9, none⟩ = false := block_free hR10'.out 9
  have z10 : y10.cell? ⟨w.heap.size, 0 + 10, none⟩ = some (.string ⟨#[]⟩) := block_cell hR10'.out 10
  have zf10 : y10.frozen? ⟨w.heap.size, 0 + 10, none⟩ = false := block_free hR10'.out 10
  have z11 : y10.cell? ⟨w.heap.size, 0 + 11, none⟩ = some (.string ⟨#[]⟩) := block_cell hR10'.out 11
  have zf11 : y10.frozen? ⟨w.heap.size, 0 + 11, none⟩ = false := block_free hR10'.out 11
  have z12 : y10.cell? ⟨w.heap.size, 0 + 12, none⟩ = some (.string ⟨#[]⟩) := block_cell hR10'.out 12
  have zf12 : y10.frozen? ⟨w.heap.size, 0 + 12, none⟩ = false := block_free hR10'.out 12
  go_wp2_with fail
  refine bodyPost_ret (rof_results rfl rfl rfl (set13 hR10'.out rfl) rfl) rfl ?_
  exact dec_bad hE.out (by omega) rfl (below13 (Nat.le_refl _) hbY.out)
 replace t3 := hid t3
 have m0 : ((te (r9 x) : Int) != 0) = false := by simp [t0.out]
 have m1 : ((te (tr (r9 x)) : Int) != 0) = false := by simp [t1.out]
 have m2 : ((te (tr (tr (r9 x))) : Int) != 0) = false := by simp [t2.out]
 have m3 : ((te (tr (tr (tr (r9 x)))) : Int) != 0) = false := by simp [t3.out]
 go_wp2_with fail
 refine (rleft_at _ _ _ st10.inn).mono ?_
 rintro e y ⟨rfl, hby⟩
 have hRy := hid ((hby.block w.heap.size hzY).trans hR10'.out)
 have hbY := hid (st10.below.trans (hby.mono (Nat.le_of_lt hzY)))
 have hboxy := (hby.block w3.heap.size (lt_of_block st10.box)).trans st10.box
 have hqr : w3.heap.size ≠ w.heap.size := by omega
 have hgeq := st10.geq
 clear hby st10 hR10'
 by_cases hl0 : lt (tr (tr (tr (tr (r9 x))))) = 0
 case neg =>
  have hE : Hid (decE l = 2) := hid (by rw [hD.out, if_neg]; unfold readE; simp [t0.out, t1.out, t2.out, t3.out, hl0])
  have hl1 : 0 < lt (tr (tr (tr (tr (r9 x))))) := by omega
  replace hboxy := hid hboxy
  have z0 : y.cell? ⟨w.heap.size, 0, none⟩ = some (.int .u16 0) := block_cell hRy.out 0
  have zf0 : y.frozen? ⟨w.heap.size, 0, none⟩ = false := block_free hRy.out 0
  have z1 : y.cell? ⟨w.heap.size, 0 + 1, none⟩ = some (.int .u32 0) := block_cell hRy.out 1
  have zf1 : y.frozen? ⟨w.heap.size, 0 + 1, none⟩ = false := block_free hRy.out 1
  have z2 : y.cell? ⟨w.heap.size, 0 + 2, none⟩ = some (.int .u8 0) := block_cell hRy.out 2
  have zf2 : y.frozen? ⟨w.heap.size, 0 + 2, none⟩ = false := block_free hRy.out 2
  have z3 : y.cell? ⟨w.heap.size, 0 + 2 + 1, none⟩ = some (.int .u32 0) := block_cell hRy.out 3
  have zf3 : y.frozen? ⟨w.heap.size, 0 + 2 + 1, none⟩ = false := block_free hRy.out 3
  have z4 : y.cell? ⟨w.heap.size, 0 + 2 + 2, none⟩ = some (.int .u64 0) := block_cell hRy.out 4
  have zf4 : y.frozen? ⟨w.heap.size, 0 + 2 + 2, none⟩ = false := block_free hRy.out 4
  have z5 : y.cell? ⟨w.heap.size, 0 + 5, none⟩ = some (.int .u32 0) := block_cell hRy.out 5
  have zf5 : y.frozen? ⟨w.heap.size, 0 + 5, none⟩ = false := block_free hRy.out 5
  have z6 : y.cell? ⟨w.heap.size, 0 + 6, none⟩ = some (.int .u32 0) := block_cell hRy.out 6
  have zf6 : y.frozen? ⟨w.heap.size, 0 + 6, none⟩ = false := block_free hRy.out 6
  have z7 : y.cell? ⟨w.heap.size, 0 + 7, none⟩ = some (.int .u32 0) := block_cell hRy.out 7
  have zf7 : y.frozen? ⟨w.heap.size, 0 + 7, none⟩ = false := block_free hRy.out 7
  have z8 : y.cell? ⟨w.heap.size, 0 + 8, none⟩ = some (.int .u64 0) := block_cell hRy.out 8
  have zf8 : y.frozen? ⟨w.heap.size, 0 + 8, none⟩ = false := block_free hRy.out 8
  have z9 : y.cell? ⟨w.heap.size, 0 + 9, none⟩ = some (.string ⟨#[]⟩) := block_cell hRy.out 9
  have zf9 : y.frozen? ⟨w.heap.size, 0 + 9, none⟩ = false := block_free hRy.out 9
  have z10 : y.cell? ⟨w.heap.size, 0 + 10, none⟩ = some (.string ⟨#[]⟩) := block_cell hRy.out 10
  have zf10 : y.frozen? ⟨w.heap.size, 0 + 10, none⟩ = false := block_free hRy.out 10
  have z11 : y.cell? ⟨w.heap.size, 0 + 11, none⟩ = some (.string ⟨#[]⟩) := block_cell hRy.out 11
  have zf11 : y.frozen? ⟨w.heap.size, 0 + 11, none⟩ = false := block_free hRy.out 11
  have z12 : y.cell? ⟨w.heap.size, 0 + 12, none⟩ = some (.string ⟨#[]⟩) := block_cell hRy.out 12
  have zf12 : y.frozen? ⟨w.heap.size, 0 + 12, none⟩ = false := block_free hRy.out 12
  go_wp2_with fail
  refine bodyPost_ret (rof_results rfl rfl rfl (set13 hRy.out rfl) rfl) rfl ?_
  exact dec_bad hE.out (by omega) rfl (below13 (Nat.le_refl _) hbY.out)
 have hE : Hid (decE l = 0) := hid (by rw [hD.out, if_pos]; unfold readE; simp [t0.out, t1.out, t2.out, t3.out, hl0])
 have g0 : y.cell? ⟨w3.heap.size, 0, none⟩ = some (.int .u16 (tv 2 (x, 0) : Int)) := block_cell hboxy 0
 have g1 : y.cell? ⟨w3.heap.size, 0 + 1, none⟩ = some (.int .u32 (tv 4 (rd 2 (x, 0)) : Int)) := block_cell hboxy 1
 have g2 : y.cell? ⟨w3.heap.size, 0 + 2, none⟩ = some (.int .u8 (qvT (r2 x) : Int)) := block_cell hboxy 2
 have g3 : y.cell? ⟨w3.heap.size, 0 + 2 + 1, none⟩ = some (.int .u32 (qvV (r2 x) : Int)) := block_cell hboxy 3
 have g4 : y.cell? ⟨w3.heap.size, 0 + 2 + 2, none⟩ = some (.int .u64 (qvP (r2 x) : Int)) := block_cell hboxy 4
 have g5 : y.cell? ⟨w3.heap.size, 0 + 5, none⟩ = some (.int .u32 (tv 4 (r5 x) : Int)) := block_cell hboxy 5
 have g6 : y.cell? ⟨w3.heap.size, 0 + 6, none⟩ = some (.int .u32 (tv 4 (rd 4 (r5 x)) : Int)) := block_cell hboxy 6
 have g7 : y.cell? ⟨w3.heap.size, 0 + 7, none⟩ = some (.int .u32 (tv 4 (rd 4 (rd 4 (r5 x))) : Int)) := block_cell hboxy 7
 have g8 : y.cell? ⟨w3.heap.size, 0 + 8, none⟩ = some (.int .u64 (tv 8 (r8 x) : Int)) := block_cell hboxy 8
 have g9 : y.cell? ⟨w3.heap.size, 0 + 9, none⟩ = some (.string ⟨#[]⟩) := block_cell hboxy 9
 have gf9 : y.frozen? ⟨w3.heap.size, 0 + 9, none⟩ = false := block_free hboxy 9
 have g10 : y.cell? ⟨w3.heap.size, 0 + 10, none⟩ = some (.string ⟨#[]⟩) := block_cell hboxy 10
 have gf10 : y.frozen? ⟨w3.heap.size, 0 + 10, none⟩ = false := block_free hboxy 10
 have g11 : y.cell? ⟨w3.heap.size, 0 + 11, none⟩ = some (.string ⟨#[]⟩) := block_cell hboxy 11
 have gf11 : y.frozen? ⟨w3.heap.size, 0 + 11, none⟩ = false := block_free hboxy 11
 have g12 : y.cell? ⟨w3.heap.size, 0 + 12, none⟩ = some (.string ⟨#[]⟩) := block_cell hboxy 12
 have gf12 : y.frozen? ⟨w3.heap.size, 0 + 12, none⟩ = false := block_free hboxy 12
 replace hboxy := hid hboxy
 have z0 : y.cell? ⟨w.heap.size, 0, none⟩ = some (.int .u16 0) := block_cell hRy.out 0
 have zf0 : y.frozen? ⟨w.heap.size, 0, none⟩ = false := block_free hRy.out 0
 have z1 : y.cell? ⟨w.heap.size, 0 + 1, none⟩ = some (.int .u32 0) := block_cell hRy.out 1
 have zf1 : y.frozen? ⟨w.heap.size, 0 + 1, none⟩ = false := block_free hRy.out 1
 have z2 : y.cell? ⟨w.heap.size, 0 + 2, none⟩ = some (.int .u8 0) := block_cell hRy.out 2
 have zf2 : y.frozen? ⟨w.heap.size, 0 + 2, none⟩ = false := block_free hRy.out 2
 have z3 : y.cell? ⟨w.heap.size, 0 + 2 + 1, none⟩ = some (.int .u32 0) := block_cell hRy.out 3
 have zf3 : y.frozen? ⟨w.heap.size, 0 + 2 + 1, none⟩ = false := block_free hRy.out 3
 have z4 : y.cell? ⟨w.heap.size, 0 + 2 + 2, none⟩ = some (.int .u64 0) := block_cell hRy.out 4
 have zf4 : y.frozen? ⟨w.heap.size, 0 + 2 + 2, none⟩ = false := block_free hRy.out 4
 have z5 : y.cell? ⟨w.heap.size, 0 + 5, none⟩ = some (.int .u32 0) := block_cell hRy.out 5
 have zf5 : y.frozen? ⟨w.heap.size, 0 + 5, none⟩ = false := block_free hRy.out 5
 have z6 : y.cell? ⟨w.heap.size, 0 + 6, none⟩ = some (.int .u32 0) := block_cell hRy.out 6
 have zf6 : y.frozen? ⟨w.heap.size, 0 + 6, none⟩ = false := block_free hRy.out 6
 have z7 : y.cell? ⟨w.heap.size, 0 + 7, none⟩ = some (.int .u32 0) := block_cell hRy.out 7
 have zf7 : y.frozen? ⟨w.heap.size, 0 + 7, none⟩ = false := block_free hRy.out 7
 have z8 : y.cell? ⟨w.heap.size, 0 + 8, none⟩ = some (.int .u64 0) := block_cell hRy.out 8
 have zf8 : y.frozen? ⟨w.heap.size, 0 + 8, none⟩ = false := block_free hRy.out 8
 have z9 : y.cell? ⟨w.heap.size, 0 + 9, none⟩ = some (.string ⟨#[]⟩) := block_cell hRy.out 9
 have zf9 : y.frozen? ⟨w.heap.size, 0 + 9, none⟩ = false := block_free hRy.out 9
 have z10 : y.cell? ⟨w.heap.size, 0 + 10, none⟩ = some (.string ⟨#[]⟩) := block_cell hRy.out 10
 have zf10 : y.frozen? ⟨w.heap.size, 0 + 10, none⟩ = false := block_free hRy.out 10
 have z11 : y.cell? ⟨w.heap.size, 0 + 11, none⟩ = some (.string ⟨#[]⟩) := block_cell hRy.out 11
 have zf11 : y.frozen? ⟨w.heap.size, 0 + 11, none⟩ = false := block_free hRy.out 11
 have z12 : y.cell? ⟨w.heap.size, 0 + 12, none⟩ = some (.string ⟨#[]⟩) := block_cell hRy.out 12
 have zf12 : y.frozen? ⟨w.heap.size, 0 + 12, none⟩ = false := block_free hRy.out 12
 have hch : ∀ u0 u1 u2 u3 : Value, ((((y.setCell ⟨w3.heap.size, 9, none⟩ u0).setCell ⟨w3.heap.size, 10, none⟩ u1).setCell ⟨w3.heap.size, 11, none⟩ u2).setCell ⟨w3.heap.size, 12, none⟩ u3).heap[w.heap.size]? = y.heap[w.heap.size]? := fun u0 u1 u2 u3 => put_other (Ne.symm hqr) [u0, u1, u2, u3] 9 y
 have hbl : ∀ u0 u1 u2 u3 : Value, Below w.heap.size w ((((y.setCell ⟨w3.heap.size, 9, none⟩ u0).setCell ⟨w3.heap.size, 10, none⟩ u1).setCell ⟨w3.heap.size, 11, none⟩ u2).setCell ⟨w3.heap.size, 12, none⟩ u3) := fun u0 u1 u2 u3 => put_below hgeq [u0, u1, u2, u3] 9 w y hbY.out
 replace hch := hid hch
 replace hbl := hid hbl
 have htv3 : (tv 2 (l, 0) : Int) + 2 ≤ 9223372036854775807 := by omega
 go_wp2_with fail
 refine bodyPost_ret (rof_results (x := .int .i64 ((tv 2 (l, 0) : Int) + 2)) (e := .int .i64 0) rfl rfl rfl (set13 ((hch.out _ _ _ _).trans hRy.out) rfl) rfl) rfl ?_
 refine hgd.out hE.out ?_ (below13 (Nat.le_refl _) (hbl.out _ _ _ _))
 rw [readS_cells]
end Go.Proofs.YtlmojhlacfjmaaaGreat
