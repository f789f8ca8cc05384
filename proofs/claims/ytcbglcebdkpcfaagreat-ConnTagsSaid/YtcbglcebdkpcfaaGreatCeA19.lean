/- Feed of an open road, walked whole. Conditions: sizes of the machine.
A slice of bytes of a call's own that began as a string's bytes: made, read, grown by a byte, stored into. Conditions: lengths of slices. -/
import Derived.Test.YtcbglcebdkpcfaaGreatCeA18
import Derived.Conc.SmallLaws
import Derived.Deep.CutRange
import Derived.Test.YtcbglcebdkpcfaaGreatCeA04
import Derived.Laws.IdiomStrings
import Derived.Test.YtcbglcebdkpcfaaGreatCeA03
namespace Go.Proofs.YtcbglcebdkpcfaaGreat
section
open Go.RowKit Go.Conc
set_option maxRecDepth 100000
set_option linter.unusedVariables false

def CFeedP (w : World) (n : Nat) (tv : Value) (xs : List Nat) (r : List (List UInt8) × Option (List UInt8)) (e : Ending) (w' : World) : Prop :=
  ∃ va vo hv' tv', e = .returned (.tuple #[va, vo]) ∧ MsgsAt w' va (asksB xs r.1) w.heap.size (offV tv') ∧ OutsAt w' vo (outsB xs r.1) w.heap.size (offV tv') ∧ RoadS w' n hv' tv' (r.2.getD []) r.2.isNone (tagsB xs r.1) r.2.isNone ∧ (∀ j, j < w.heap.size → tv.ownBlock ≠ some j → tv'.ownBlock ≠ some j) ∧ (∀ j, hv'.ownBlock = some j → w.heap.size ≤ j) ∧ Oth (fun j => (j = n ∨ j = n + 1 ∨ j = n + 2) ∨ tv.ownBlock = some j) w w'
theorem mkM (k : Nat) (h : k ≤ 1000000) (w : World) : (Instr.makeChan 57 (.int .i64 (k : Int))).run Tryz.prog w = .ok (.chan (some w.heap.size)) (w.alloc (.chan k #[] false 0 0 false)) := by
  have hb : (Tryz.prog.info? 41).map (fun i => decide (i.bytes ≤ 1000)) = some true := by kernel_rfl
  obtain ⟨i, hi, hb⟩ := Option.map_eq_some_iff.1 hb
  have hb := of_decide_eq_true hb
  exact run_makeChan (P := Tryz.prog) (w := w) Tryz.underlying57 hi .i64 k (by omega) (by
    have h1 : i.bytes * k ≤ 1000 * 1000000 := Nat.mul_le_mul hb h
    have h2 : ((i.bytes : Int) * (k : Int)) = ((i.bytes * k : Nat) : Int) := by push_cast; rfl
    omega)
theorem mkB (k : Nat) (h : k ≤ 1000000) (w : World) : (Instr.makeChan 58 (.int .i64 (k : Int))).run Tryz.prog w = .ok (.chan (some w.heap.size)) (w.alloc (.chan k #[] false 0 0 false)) := by
  have hb : (Tryz.prog.info? 29).map (fun i => decide (i.bytes ≤ 1000)) = some true := by kernel_rfl
  obtain ⟨i, hi, hb⟩ := Option.map_eq_some_iff.1 hb
  have hb := of_decide_eq_true hb
  exact run_makeChan (P := Tryz.prog) (w := w) Tryz.underlying58 hi .i64 k (by omega) (by
    have h1 : i.bytes * k ≤ 1000 * 1000000 := Nat.mul_le_mul hb h
    have h2 : ((i.bytes : Int) * (k : Int)) = ((i.bytes * k : Nat) : Int) := by push_cast; rfl
    omega)
structure Made (w wx : World) (k A B g : Nat) : Prop where
  below : Below w.heap.size w wx
  ca : wx.heap[A]? = some (.chan k #[] false 0 0 false)
  cb : wx.heap[B]? = some (.chan k #[] false 0 0 false)
  cg : wx.heap[g]? = some (.cells #[.chan (some A), .chan (some B)] 60 (0, 0))
  new : w.heap.size ≤ A ∧ w.heap.size ≤ B ∧ w.heap.size ≤ g ∧ A ≠ B ∧ A ≠ g ∧ B ≠ g
theorem cfeed_shut (w : World) (n : Nat) (x y bv : Value) (most : Nat) (h : w.heap[n + 2]? = some (.cells #[x, y, .bool true] 55 (0, 0))) : Calls Tryz.prog 7 #[.pointer (some ⟨n + 2, 0, none⟩), bv, .int .i64 (most : Int)] w fun e w' => e = .returned (.tuple #[.slice none 0 0, .slice none 0 0]) ∧ w' = w := by
  have c2 := block_cell h 2
  clear h
  go_enter Tryz.func7, Tryz.ntmps7
  go_wp2_with fail
  refine bodyPost_ret (results_tmp2 rfl _ _ _) rfl ?_
  exact ⟨rfl, rfl⟩
theorem Made.ex {w wx : World} {k A B g : Nat} (cg : wx.heap[g]? = some (.cells #[.chan (some A), .chan (some B)] 60 (0, 0))) (below : Below w.heap.size w wx) (ca : wx.heap[A]? = some (.chan k #[] false 0 0 false)) (cb : wx.heap[B]? = some (.chan k #[] false 0 0 false))
    (new : w.heap.size ≤ A ∧ w.heap.size ≤ B ∧ w.heap.size ≤ g ∧ A ≠ B ∧ A ≠ g ∧ B ≠ g) : ∃ A B g' : Nat, Value.pointer (some ⟨g, 0, none⟩) = .pointer (some ⟨g', 0, none⟩) ∧ Made w wx k A B g' := ⟨A, B, g, rfl, below, ca, cb, cg, new⟩
theorem alloc3 (w : World) (o1 o2 o3 : Obj) : ((((w.alloc o1).alloc o2).alloc o3).drew).heap[w.heap.size]? = some o1 ∧ ((((w.alloc o1).alloc o2).alloc o3).drew).heap[w.heap.size + 1]? = some o2 ∧ ((((w.alloc o1).alloc o2).alloc o3).drew).heap[w.heap.size + 1 + 1]? = some o3 ∧ Below w.heap.size w ((((w.alloc o1).alloc o2).alloc o3).drew) := by
  refine ⟨?_, ?_, ?_, ((((Below.refl _ _).alloc (Nat.le_refl _) _).alloc (by simp) _).alloc (by simp; omega) _).drew⟩
  · show (((w.alloc o1).alloc o2).alloc o3).heap[w.heap.size]? = _
    rw [heap_alloc_old _ _ (by simp; omega), heap_alloc_old _ _ (by simp), heap_alloc_new]
  · show (((w.alloc o1).alloc o2).alloc o3).heap[w.heap.size + 1]? = _
    rw [heap_alloc_old _ _ (by simp)]; exact heap2 _ _ _
  · exact heap3 _ _ _ _
theorem Oth.of_k {k : Nat} {w w' : World} (h : KStep k w w') : Oth (fun j => j = k) w w' := ⟨h.size, fun j hj hn => h.block j hj hn, fun N h1 h2 => h.below N (h2 k rfl) h1⟩
theorem TabS.other {w w' : World} {t : Nat} {v : Value} {xs : List Nat} (h : TabS w t v xs) (hk : ∀ j, j = t ∨ v.ownBlock = some j → w'.heap[j]? = w.heap[j]?) : TabS w' t v xs :=
  ⟨(hk t (.inl rfl)).trans h.blk, own_keep h.own (fun j hj => hk j (.inr hj))⟩
theorem OwnFr.cell {w w' : World} {base : Nat} {a : Option Addr} {n c : Nat} {ls : List (List UInt8)} (h : OwnFr w base (.slice a n c) ls) (hs : w.heap.size ≤ w'.heap.size) (hb : ∀ j, base ≤ j → j < w.heap.size → w'.heap[j]? = w.heap[j]?) (i : Nat) (hi : i < ls.length) : ∃ b o u, a = some ⟨b, o, none⟩ ∧ w'.cell? ⟨b, o + i, none⟩ = some u ∧ BytesAt w' u ls[i] ∧ ∀ j, u.ownBlock = some j → base ≤ j ∧ j < w.heap.size := by
  obtain ⟨vs, h⟩ := h
  have h' := h.kept hs hb
  obtain ⟨_, a', c', hv, _, _, _, _, h4⟩ := RowAt.of_own h'.own
  cases hv
  have hlt : i < vs.length := by have := h.len; omega
  obtain ⟨b, o, ha, hc⟩ := h4 i vs[i] (List.getElem?_eq_getElem hlt)
  have e : vs.getD i undef = vs[i] := by rw [List.getD_eq_getElem?_getD, List.getElem?_eq_getElem hlt]; rfl
  have hr := h'.rows i hi
  have hr0 := h.rows i hi
  rw [e] at hr hr0
  exact ⟨b, o, vs[i], ha, hc, hr, fun j hj => ⟨(h.apart _ (List.getElem_mem hlt) j hj).1, hr0.lt hj⟩⟩
section
variable {P : Program} {ops : Array Oper} {Q : Exit → Act → World → Prop} {w : World} {c1 c2 cap1 cap2 s1 s2 r1 r2 : Nat} {x y z1 z2 : Value} {X Y : List Value} {i : Nat} {rest : List Nat} {o : Oper} {a : Act}
theorem own_cap {a : Option Addr} {n c n' c' j : Nat} (h : (Value.slice a n c).ownBlock = some j) : (Value.slice a n' c').ownBlock = some j := by
  cases a with
  | none => cases h
  | some p => exact h
theorem pop_list (x : Value) (X : List Value) : (x :: X).toArray.getD 0 undef = x ∧ (x :: X).toArray.extract 1 (x :: X).toArray.size = X.toArray ∧ 0 < (x :: X).toArray.size := ⟨rfl, by simp, by simp⟩
theorem sel_first (ho : ops[i]? = some o) (hw : Region.wanted o (yielded ops a.tmps) = true) (hr : (execOp a.eval o).run P w = .ok (.comm #[rcase c1 z1, rcase c2 z2] true .select) w) (h1 : w.heap[c1]? = some (.chan cap1 (x :: X).toArray false s1 r1 false)) (h2 : w.heap[c2]? = some (.chan cap2 #[] false s2 r2 false))
    (k1 : OpsS P ops Q rest (a.put o.dst (.tuple #[goInt 0, .bool true, x, z2])) (w.setChan c1 cap1 X.toArray false s1 (r1 + 1) false)) : OpsS P ops Q (i :: rest) a w := by
  obtain ⟨e1, e2, e3⟩ := pop_list x X
  refine opsS_first ho hw hr h1 h2 e3 ?_
  rw [e1, e2]; exact k1
theorem sel_second (ho : ops[i]? = some o) (hw : Region.wanted o (yielded ops a.tmps) = true) (hr : (execOp a.eval o).run P w = .ok (.comm #[rcase c1 z1, rcase c2 z2] true .select) w) (h1 : w.heap[c1]? = some (.chan cap1 #[] false s1 r1 false)) (h2 : w.heap[c2]? = some (.chan cap2 (y :: Y).toArray false s2 r2 false))
    (k1 : OpsS P ops Q rest (a.put o.dst (.tuple #[goInt 1, .bool true, z1, y])) (w.setChan c2 cap2 Y.toArray false s2 (r2 + 1) false)) : OpsS P ops Q (i :: rest) a w := by
  obtain ⟨e1, e2, e3⟩ := pop_list y Y
  refine opsS_second ho hw hr h1 h2 e3 ?_
  rw [e1, e2]; exact k1
theorem sel_two (ho : ops[i]? = some o) (hw : Region.wanted o (yielded ops a.tmps) = true) (hr : (execOp a.eval o).run P w = .ok (.comm #[rcase c1 z1, rcase c2 z2] true .select) w) (h1 : w.heap[c1]? = some (.chan cap1 (x :: X).toArray false s1 r1 false)) (h2 : w.heap[c2]? = some (.chan cap2 (y :: Y).toArray false s2 r2 false))
    (k1 : OpsS P ops Q rest (a.put o.dst (.tuple #[goInt 0, .bool true, x, z2])) (w.drew.setChan c1 cap1 X.toArray false s1 (r1 + 1) false))
    (k2 : OpsS P ops Q rest (a.put o.dst (.tuple #[goInt 1, .bool true, z1, y])) (w.drew.setChan c2 cap2 Y.toArray false s2 (r2 + 1) false)) : OpsS P ops Q (i :: rest) a w := by
  obtain ⟨e1, e2, e3⟩ := pop_list x X
  obtain ⟨g1, g2, g3⟩ := pop_list y Y
  refine opsS_two ho hw hr h1 h2 e3 g3 ?_ ?_
  · rw [e1, e2]; exact k1
  · rw [g1, g2]; exact k2
end
set_option maxHeartbeats 3200000 in
theorem cfeed_any (w : World) (n : Nat) (hv tv bv : Value) (l b : List UInt8) (xs : List Nat) (most : Nat) (h : RoadS w n hv tv l false xs false) (hxs : xs.length ≤ 32) (hb : BytesAt w bv b) (hl : l.length + b.length ≤ 1000000) (hmo : most ≤ 1000000000) :
    Calls Tryz.prog 7 #[.pointer (some ⟨n + 2, 0, none⟩), bv, .int .i64 (most : Int)] w (CFeedP w n tv xs (feedF most ((l ++ b).length + 1) (l ++ b))) := by
  have c0 := block_cell h.blk 0
  have c2 := block_cell h.blk 2
  have hfd := hid (feed_any w n hv bv l b most h.str hb hl hmo)
  have hlen := (feedF_len (most := most) ((l ++ b).length + 1) (l ++ b)).1
  have hbl := (feedF_len (most := most) ((l ++ b).length + 1) (l ++ b)).2
  rw [show (l ++ b).length = l.length + b.length from List.length_append] at hlen hbl ⊢
  rw [show (l ++ b).length = l.length + b.length from List.length_append] at hfd
  generalize feedF most (l.length + b.length + 1) (l ++ b) = r at *
  have hLn : r.1.length ≤ 1000000 := by omega
  replace hlen := hid hlen
  replace hbl := hid (fun x hx => Nat.le_trans (hbl x hx) hl)
  replace h := hid h
  clear hb
  go_enter Tryz.func7, Tryz.ntmps7
  go_wp2_with fail
  refine hfd.out.mono ?_
  rintro e w1 ⟨x, hv', rfl, hO, hK, hS, hf⟩
  obtain ⟨ax, cx, rfl⟩ := hO.form
  clear c0 c2 hfd
  have hmk := mkM r.1.length hLn
  have hmb := mkB r.1.length hLn
  go_upto_region 4 with fail
  go_cut [9] from 25 (fun s9 wx => ∃ A B g : Nat, s9 = .pointer (some ⟨g, 0, none⟩) ∧ Made w1 wx r.1.length A B g)
  case first =>
    go_region
    all_goals
      obtain ⟨e1, e2, e3, hB⟩ := alloc3 w1 _ _ _
      go_wp2_with fail
      go_meet
      first | exact Made.ex e1 hB (by first | exact e1 | exact e2 | exact e3) (by first | exact e1 | exact e2 | exact e3) (by refine ⟨?_, ?_, ?_, ?_, ?_, ?_⟩ <;> omega) | exact Made.ex e2 hB (by first | exact e1 | exact e2 | exact e3) (by first | exact e1 | exact e2 | exact e3) (by refine ⟨?_, ?_, ?_, ?_, ?_, ?_⟩ <;> omega) | exact Made.ex e3 hB (by first | exact e1 | exact e2 | exact e3) (by first | exact e1 | exact e2 | exact e3) (by refine ⟨?_, ?_, ?_, ?_, ?_, ?_⟩ <;> omega)
  case rest =>
    obtain ⟨A, B, g, rfl, hM⟩ := hcut
    have hz1 := hK.size
    have hzc := hM.below.size
    have hn2 := lt_of_block h.out.blk
    have htr := h.out.trow
    have hO1 : Oth (fun j => j = n) w wc := (Oth.of_k hK).trans (Oth.pure hM.below)
    have hblk : wc.heap[n + 2]? = some (.cells #[.pointer (some ⟨n, 0, none⟩), .pointer (some ⟨n + 1, 0, none⟩), .bool false] 55 (0, 0)) := (hO1.keep _ hn2 (by omega)).trans h.out.blk
    have hstr := hS.below hM.below
    have hhv := hid (fun j (hj : hv'.ownBlock = some j) => hS.row.lt hj)
    have htab : TabS wc (n + 1) tv xs := h.out.tab.other fun j hj => hO1.keep j (by rcases hj with rfl | hj; omega; exact (h.out.tab.row hj).2) (by rcases hj with rfl | hj; omega; have := htr j hj; omega)
    have htl := fun j (hj : tv.ownBlock = some j) => (h.out.tab.row hj).2
    have hnew := hM.new
    have hl0 := hid (show L1 wc wc (n + 1) A B r.1.length tv tv xs [] [] [] from ⟨htab, fun j _ h => h, ⟨Nat.le_refl _, fun _ _ _ => rfl, fun _ _ _ => Below.refl _ _⟩, ⟨_, _, hM.ca⟩, ⟨_, _, hM.cb⟩, trivial, trivial⟩)
    replace hblk := hid hblk
    replace hstr := hid hstr
    replace htab := hid htab
    replace htl := hid htl
    replace hnew := hid hnew
    replace hO1 := hid hO1
    replace htr := hid htr
    replace hO := hid hO
    replace hM := hid hM
    replace hf := hid hf
    clear hmk hmb hK hS
    go_wp2_with fail
    go_loopw [34] (fun s34 wr => ∃ (k : Nat) (tv' : Value) (rs : List (Array Value)) (vs : List Value), k ≤ r.1.length ∧ s34 = .int .i64 (k : Int) ∧ Hid (L1 wc wr (n + 1) A B r.1.length tv tv' xs (r.1.take k) rs vs)) (fun s34 _ => r.1.length - (intOf s34).toNat)
    case atStart => exact ⟨0, tv, [], [], by omega, rfl, hl0⟩
    case round =>
      obtain ⟨k, tv', rs, vs, hk, rfl, hL⟩ := hrel
      have hlens := bodies_len (r.1.take k) xs
      rw [← hL.out.asks.len.symm, ← hL.out.outs.len.symm, List.length_take] at hlens
      by_cases hkl : k < r.1.length
      · have hzr := hL.out.oth.size
        have hkeep : ∀ j, w.heap.size ≤ j → j < w1.heap.size → wr.heap[j]? = w1.heap[j]? := fun j h1 h2 => (hL.out.oth.keep j (by omega) (by have := hnew.out; have := htl.out j; rintro ((e | e) | e | e); (all_goals first | omega | (have := this e; omega)))).trans (hM.out.below.block j h2)
        obtain ⟨b0, o0, u, ha, hc, hu, hub⟩ := hO.out.cell (w' := wr) (by omega) hkeep k hkl
        subst ha
        obtain ⟨au, cu, rfl, _⟩ := hu.form
        have hkg : wr.heap[g]? = some (.cells #[.chan (some A), .chan (some B)] 60 (0, 0)) := (hL.out.oth.keep g (lt_of_block hM.out.cg) (by have := hnew.out; have := htl.out g; rintro ((e | e) | e | e); (all_goals first | omega | (have := this e; omega)))).trans hM.out.cg
        have d0 := block_cell hkg 0
        have d1 := block_cell hkg 1
        have hkc : wr.heap[n + 2]? = some (.cells #[.pointer (some ⟨n, 0, none⟩), .pointer (some ⟨n + 1, 0, none⟩), .bool false] 55 (0, 0)) := (hL.out.oth.keep (n + 2) (by omega) (by have := hnew.out; rintro ((e | e) | e | e); (all_goals first | omega | (have := htr.out _ e; omega)))).trans hblk.out
        obtain ⟨sA, rA, hA⟩ := hL.out.chA
        obtain ⟨sB, rB, hB⟩ := hL.out.chB
        have hof : ∀ j, j < wc.heap.size → tv.ownBlock ≠ some j → tv'.ownBlock ≠ some j := hL.out.trow
        have hoff : ∀ j, w.heap.size ≤ j → j < wc.heap.size → tv'.ownBlock ≠ some j := fun j h1 h2 => hof j h2 (fun e => by have := htl.out j e; omega)
        have hAl := lt_of_block hM.out.ca
        have hBl := lt_of_block hM.out.cb
        have hbd := hid (body_try wr (n + 2) (n + 1) A B _ tv' _ r.1[k] (tagsB xs (r.1.take k)) false hkc hL.out.tab (Nat.le_trans (tagsB_len _ xs hxs) (by omega)) (by omega) (hof _ (by omega) (fun e => by have := htr.out _ e; omega)) hu (fun j hj => ⟨by have := hub j hj; omega, hoff j (hub j hj).1 (by have := hub j hj; omega)⟩) (hbl.out _ (List.getElem_mem hkl)) hA hB (by simp; omega) (by simp; omega) hnew.out.2.2.2.1 ⟨by have := hnew.out; omega, hoff A (by have := hnew.out; omega) hAl⟩ ⟨by have := hnew.out; omega, hoff B (by have := hnew.out; omega) hBl⟩)
        have htk := hid (List.take_succ_eq_append_getElem hkl)
        generalize r.1[k] = X at *
        replace hu := hid hu
        replace hub := hid hub
        clear hkg hkc hA hB hkeep hof hoff
        go_wp2_with fail
        refine hbd.out.mono ?_
        rintro e w2 hP
        obtain ⟨rfl, tv2, rs2, vs2, hL2⟩ := hL.out.step hAl hBl (by omega) hP
        rw [← htk.out] at hL2
        replace hL2 := hid hL2
        clear hP hbd
        go_wp2_with fail
        go_roundw
        case rel => exact ⟨k + 1, tv2, rs2, vs2, by omega, by go_num, hL2⟩
        case measure => simp [intOf]; omega
      · obtain rfl : k = r.1.length := by omega
        rw [List.take_length] at hL
        have hl2 := hid (show L2 wr wr A B r.1.length rs vs 0 0 0 0 (.slice none 0 0) (.slice none 0 0) from ⟨⟨Nat.le_refl _, fun _ _ _ => rfl, fun _ _ _ => Below.refl _ _⟩, hL.out.chA, hL.out.chB, RowV.nil _ _ _ _, RowV.nil _ _ _ _, fun k hk => (by cases hk), by omega, by omega, ⟨Nat.lt_of_lt_of_le (lt_of_block hM.out.ca) hL.out.oth.size, Nat.lt_of_lt_of_le (lt_of_block hM.out.cb) hL.out.oth.size, hnew.out.2.2.2.1⟩⟩)
        clear hl0
        obtain ⟨Wa, rfl⟩ : ∃ z, z = wr := ⟨_, rfl⟩
        go_wp2_with fail
        go_loopw [6, 7, 45] (fun s6 s7 s45 wx => ∃ i j : Nat, s45 = .int .i64 ((i + j : Nat) : Int) ∧ Hid (L2 Wa wx A B r.1.length rs vs i j i j s6 s7)) (fun _ _ s45 _ => r.1.length - (intOf s45).toNat)
        case atStart => exact ⟨0, 0, rfl, hl2⟩
        case round =>
          obtain ⟨i, j, rfl, hZ⟩ := hrel
          obtain ⟨aa, ca, rfl⟩ := hZ.out.ra.form
          obtain ⟨ao, co, rfl⟩ := hZ.out.rb.form
          have hli := hZ.out.li
          have hlj := hZ.out.lj
          by_cases hij : i + j < r.1.length
          · obtain ⟨bM, hbM, hEM⟩ := elemM
            have hEb := hid (fun (k : Nat) (hk : k ≤ 2000000) => (Nat.le_trans (Nat.mul_le_mul hk hbM) (by omega) : k * bM ≤ 140737488355328))
            replace hEM := hid hEM
            have hrg := (hL.out.oth.keep g (lt_of_block hM.out.cg) (by have := hnew.out; have := htl.out g; rintro ((e | e) | e | e); (all_goals first | omega | (have := this e; omega)))).trans hM.out.cg
            have hkg : wr.heap[g]? = some (.cells #[.chan (some A), .chan (some B)] 60 (0, 0)) := (hZ.out.oth.keep g (lt_of_block hrg) (by have := hnew.out; omega)).trans hrg
            have d0 := block_cell hkg 0
            have d1 := block_cell hkg 1
            clear hkg hrg
            obtain ⟨sA, rA, hA⟩ := hZ.out.chA
            obtain ⟨sB, rB, hB⟩ := hZ.out.chB
            replace hA := hid hA
            replace hB := hid hB
            go_upto_region 14 with fail
            refine wp_region_comm 0 [] rfl (by decide) ?_
            go_wp2_with fail
            show OpsS _ _ _ [0, 1, 2, 3] _ _
            by_cases hi : i < rs.length
            · by_cases hj : j < vs.length
              · have hA' := hA.out
                have hB' := hB.out
                rw [drop_next hi, List.map_cons] at hA'
                rw [drop_next hj] at hB'
                refine sel_two (z1 := .agg (zeroM.cells (.slice none 0 0) (.slice none 0 0) (.slice none 0 0))) (z2 := .slice none 0 0) rfl (by kernel_rfl) (by kernel_rfl) hA' hB' ?_ ?_
                · clear hA' hB'
                  obtain ⟨X, hX⟩ : ∃ X, X = wr.drew.setChan A r.1.length ((rs.drop (i + 1)).map Value.agg).toArray false sA (rA + 1) false := ⟨_, rfl⟩
                  have hP := hid (hZ.out.drew.popA hi hX)
                  obtain ⟨hR1, hR2, hR3⟩ := hL.out.asks.get i (by have := hL.out.asks.len; omega) hi
                  obtain ⟨_, hRe, _, hRo⟩ := hR2.cells
                  cases hRe
                  have hRt := hid (cellsOf_take hi)
                  generalize rs[i] = R at *
                  have hRb := hid (fun u hu j hj => (hR2.blk u hu j hj).2)
                  replace hRt := hid (hRt.out)
                  have hR1' := hid (fun u hu => Array.all_eq_true_iff_forall_mem.1 hRo u (Array.mem_toList_iff.1 hu))
                  clear hR2 hR3
                  obtain ⟨X1, hX1⟩ : ∃ Y, Y = X.alloc (.cells (zeroM.cells (.slice none 0 0) (.slice none 0 0) (.slice none 0 0)) 41) := ⟨_, rfl⟩
                  have hn := hid (show X1.heap[X.heap.size]? = some (.cells (zeroM.cells (.slice none 0 0) (.slice none 0 0) (.slice none 0 0)) 41 (0, 0)) by rw [hX1]; exact heap_alloc_new _ _)
                  rw [nil_cells] at hn hX1
                  obtain ⟨X2, hX2⟩ : ∃ Y, Y = X1.setRow X.heap.size R := ⟨_, rfl⟩
                  have hx2 := hid (show X2.heap[X.heap.size]? = some (.cells R 41 (0, 0)) by rw [hX2]; exact setRow_heap _ _ _ R _ _ hn.out)
                  have hB2 := hid (show Below X.heap.size X X2 by rw [hX2, hX1]; exact below_setRow ((Below.refl _ _).alloc (Nat.le_refl _) _) (Nat.le_refl _) _)
                  obtain ⟨X3, hX3⟩ : ∃ Y, Y = X2.alloc (.cells R 41) := ⟨_, rfl⟩
                  have hB3 := hid (show Below X.heap.size X X3 by rw [hX3]; exact hB2.out.alloc hB2.out.size _)
                  have hra := hid (hP.out.ra.kept hB3.out.size (fun j hj => hB3.out.block j (hP.out.ra.lt hj).2))
                  have hsr := hid (show RowAt X3 36 (.slice (some ⟨X2.heap.size, 0, none⟩) 1 1) 1 R.toList by rw [hX3]; exact RowAt.of_new R 1 36 (by rw [hR1]) (by unfold maxLen; omega))
                  have hz3 := hid (Nat.le_trans hP.out.oth.size hB3.out.size)
                  rw [← hX]
                  replace hX := hid hX
                  refine opsS_list (k := 1) (m := 3) rfl rfl ?_
                  go_wp2_with (first | (rw [← hX1]; replace hX1 := hid hX1) | (rw [← hX3]; replace hX3 := hid hX3) | (refine wpList_store_row (by rfl) 41 (.tmp 12) (.tmp 55) (by rfl) X.heap.size _ (by rfl) (by rfl) 41 _ hn.out (by rw [hR1]; kernel_rfl) (by rw [hR1]; rfl) hRo ?_; rw [← hX2]; replace hX2 := hid hX2) | (refine wpList_load_row (by rfl) 41 (.tmp 12) (by rfl) X.heap.size (by rfl) 41 R (0, 0) _ hx2.out Tryz.underlying41 (by rfl) (by rw [hR1]; kernel_rfl) ?_) | (refine wpList_slice1 _ (by rfl) (.tmp 57) (by rfl) R (by rfl) hR1 ?_) | (at_builtin; refine wpList_pushK hEM.out _ rfl (.tmp 56) (.tmp 58) rfl rfl rfl hra.out hsr.out hR1'.out (fun u hu j hj => ⟨Nat.lt_of_lt_of_le (hRb.out u hu j hj) hz3.out, fun e => by have := (hP.out.ra.lt e).1; have := hRb.out u hu j hj; omega⟩) (by unfold maxLen; omega) (hEb.out _ (by omega)) hz3.out (fun a' c' w' h2 h3 => ?_)))
                  have hZ' := hid (hP.out.pushA hB3.out h3 (i' := i + 1) (by rw [hRt.out]; exact h2))
                  clear h2 h3 hX1 hX2 hX3 hX hn hx2 hB2 hra hsr
                  go_wp2_with fail
                  go_roundw
                  case rel => exact ⟨i + 1, j, by go_num, hZ'⟩
                  case measure => simp [intOf]; omega
                · clear hA' hB'
                  obtain ⟨Y, hY⟩ : ∃ X, X = wr.drew.setChan B r.1.length (vs.drop (j + 1)).toArray false sB (rB + 1) false := ⟨_, rfl⟩
                  have hQ := hid (hZ.out.drew.popB hj hY)
                  have hvg := hL.out.outs.get j (by have := hL.out.outs.len; omega) hj
                  obtain ⟨ay, cy, hye, _⟩ := hvg.1.form
                  have hyb := hid (fun k hk => hvg.1.lt (j := k) hk)
                  have hyt := hid (List.take_succ_eq_append_getElem hj)
                  clear hvg
                  generalize vs[j] = y at *
                  subst hye
                  generalize ((outsB xs r.1)[j]'(by have := hL.out.outs.len; omega)).length = ly at *
                  obtain ⟨Y1, hY1⟩ : ∃ Z, Z = Y.alloc (.cells #[.slice ay ly cy] 29) := ⟨_, rfl⟩
                  have hC1 := hid (show Below Y.heap.size Y Y1 by rw [hY1]; exact (Below.refl _ _).alloc (Nat.le_refl _) _)
                  have hrb := hid (hQ.out.rb.kept hC1.out.size (fun k hk => hC1.out.block k (hQ.out.rb.lt hk).2))
                  have hsy := hid (show RowAt Y1 1 (.slice (some ⟨Y.heap.size, 0, none⟩) 1 1) 1 [.slice ay ly cy] by rw [hY1]; exact RowAt.of_new #[.slice ay ly cy] 1 1 rfl (by unfold maxLen; omega))
                  have hz1' := hid (Nat.le_trans hQ.out.oth.size hC1.out.size)
                  rw [← hY]
                  replace hY := hid hY
                  refine opsS_list (k := 1) (m := 3) rfl rfl ?_
                  go_wp2_with (first | (rw [← hY1]; replace hY1 := hid hY1) | (at_builtin; refine wpList_pushK elemB _ rfl (.tmp 61) (.tmp 63) rfl rfl rfl hrb.out hsy.out (fun u hu => by rw [List.mem_singleton] at hu; subst hu; rfl) (fun u hu k hk => by rw [List.mem_singleton] at hu; subst hu; exact ⟨Nat.lt_of_lt_of_le (hyb.out k hk) hz1'.out, fun e => by have := (hQ.out.rb.lt e).1; have := hyb.out k hk; omega⟩) (by unfold maxLen; omega) (by omega) hz1'.out (fun a' c' w' h2 h3 => ?_)))
                  have hZ' := hid (hQ.out.pushB hC1.out h3 (j' := j + 1) (by rw [hyt.out]; exact h2))
                  clear h2 h3 hY1 hY hrb hsy
                  go_wp2_with fail
                  go_roundw
                  case rel => exact ⟨i, j + 1, by go_num, hZ'⟩
                  case measure => simp [intOf]; omega
              · have hA' := hA.out
                have hB' := hB.out
                rw [drop_next hi, List.map_cons] at hA'
                rw [List.drop_of_length_le (by omega)] at hB'
                refine sel_first (z1 := .agg (zeroM.cells (.slice none 0 0) (.slice none 0 0) (.slice none 0 0))) (z2 := .slice none 0 0) rfl (by kernel_rfl) (by kernel_rfl) hA' hB' ?_
                clear hA' hB'
                obtain ⟨X, hX⟩ : ∃ X, X = wr.setChan A r.1.length ((rs.drop (i + 1)).map Value.agg).toArray false sA (rA + 1) false := ⟨_, rfl⟩
                have hP := hid (hZ.out.popA hi hX)
                obtain ⟨hR1, hR2, hR3⟩ := hL.out.asks.get i (by have := hL.out.asks.len; omega) hi
                obtain ⟨_, hRe, _, hRo⟩ := hR2.cells
                cases hRe
                have hRt := hid (cellsOf_take hi)
                generalize rs[i] = R at *
                have hRb := hid (fun u hu j hj => (hR2.blk u hu j hj).2)
                replace hRt := hid (hRt.out)
                have hR1' := hid (fun u hu => Array.all_eq_true_iff_forall_mem.1 hRo u (Array.mem_toList_iff.1 hu))
                clear hR2 hR3
                obtain ⟨X1, hX1⟩ : ∃ Y, Y = X.alloc (.cells (zeroM.cells (.slice none 0 0) (.slice none 0 0) (.slice none 0 0)) 41) := ⟨_, rfl⟩
                have hn := hid (show X1.heap[X.heap.size]? = some (.cells (zeroM.cells (.slice none 0 0) (.slice none 0 0) (.slice none 0 0)) 41 (0, 0)) by rw [hX1]; exact heap_alloc_new _ _)
                rw [nil_cells] at hn hX1
                obtain ⟨X2, hX2⟩ : ∃ Y, Y = X1.setRow X.heap.size R := ⟨_, rfl⟩
                have hx2 := hid (show X2.heap[X.heap.size]? = some (.cells R 41 (0, 0)) by rw [hX2]; exact setRow_heap _ _ _ R _ _ hn.out)
                have hB2 := hid (show Below X.heap.size X X2 by rw [hX2, hX1]; exact below_setRow ((Below.refl _ _).alloc (Nat.le_refl _) _) (Nat.le_refl _) _)
                obtain ⟨X3, hX3⟩ : ∃ Y, Y = X2.alloc (.cells R 41) := ⟨_, rfl⟩
                have hB3 := hid (show Below X.heap.size X X3 by rw [hX3]; exact hB2.out.alloc hB2.out.size _)
                have hra := hid (hP.out.ra.kept hB3.out.size (fun j hj => hB3.out.block j (hP.out.ra.lt hj).2))
                have hsr := hid (show RowAt X3 36 (.slice (some ⟨X2.heap.size, 0, none⟩) 1 1) 1 R.toList by rw [hX3]; exact RowAt.of_new R 1 36 (by rw [hR1]) (by unfold maxLen; omega))
                have hz3 := hid (Nat.le_trans hP.out.oth.size hB3.out.size)
                rw [← hX]
                replace hX := hid hX
                refine opsS_list (k := 1) (m := 3) rfl rfl ?_
                go_wp2_with (first | (rw [← hX1]; replace hX1 := hid hX1) | (rw [← hX3]; replace hX3 := hid hX3) | (refine wpList_store_row (by rfl) 41 (.tmp 12) (.tmp 55) (by rfl) X.heap.size _ (by rfl) (by rfl) 41 _ hn.out (by rw [hR1]; kernel_rfl) (by rw [hR1]; rfl) hRo ?_; rw [← hX2]; replace hX2 := hid hX2) | (refine wpList_load_row (by rfl) 41 (.tmp 12) (by rfl) X.heap.size (by rfl) 41 R (0, 0) _ hx2.out Tryz.underlying41 (by rfl) (by rw [hR1]; kernel_rfl) ?_) | (refine wpList_slice1 _ (by rfl) (.tmp 57) (by rfl) R (by rfl) hR1 ?_) | (at_builtin; refine wpList_pushK hEM.out _ rfl (.tmp 56) (.tmp 58) rfl rfl rfl hra.out hsr.out hR1'.out (fun u hu j hj => ⟨Nat.lt_of_lt_of_le (hRb.out u hu j hj) hz3.out, fun e => by have := (hP.out.ra.lt e).1; have := hRb.out u hu j hj; omega⟩) (by unfold maxLen; omega) (hEb.out _ (by omega)) hz3.out (fun a' c' w' h2 h3 => ?_)))
                have hZ' := hid (hP.out.pushA hB3.out h3 (i' := i + 1) (by rw [hRt.out]; exact h2))
                clear h2 h3 hX1 hX2 hX3 hX hn hx2 hB2 hra hsr
                go_wp2_with fail
                go_roundw
                case rel => exact ⟨i + 1, j, by go_num, hZ'⟩
                case measure => simp [intOf]; omega
            · have hj : j < vs.length := by omega
              have hA' := hA.out
              have hB' := hB.out
              rw [drop_next hj] at hB'
              rw [List.drop_of_length_le (by omega)] at hA'
              refine sel_second (z1 := .agg (zeroM.cells (.slice none 0 0) (.slice none 0 0) (.slice none 0 0))) (z2 := .slice none 0 0) rfl (by kernel_rfl) (by kernel_rfl) hA' hB' ?_
              clear hA' hB'
              obtain ⟨Y, hY⟩ : ∃ X, X = wr.setChan B r.1.length (vs.drop (j + 1)).toArray false sB (rB + 1) false := ⟨_, rfl⟩
              have hQ := hid (hZ.out.popB hj hY)
              have hvg := hL.out.outs.get j (by have := hL.out.outs.len; omega) hj
              obtain ⟨ay, cy, hye, _⟩ := hvg.1.form
              have hyb := hid (fun k hk => hvg.1.lt (j := k) hk)
              have hyt := hid (List.take_succ_eq_append_getElem hj)
              clear hvg
              generalize vs[j] = y at *
              subst hye
              generalize ((outsB xs r.1)[j]'(by have := hL.out.outs.len; omega)).length = ly at *
              obtain ⟨Y1, hY1⟩ : ∃ Z, Z = Y.alloc (.cells #[.slice ay ly cy] 29) := ⟨_, rfl⟩
              have hC1 := hid (show Below Y.heap.size Y Y1 by rw [hY1]; exact (Below.refl _ _).alloc (Nat.le_refl _) _)
              have hrb := hid (hQ.out.rb.kept hC1.out.size (fun k hk => hC1.out.block k (hQ.out.rb.lt hk).2))
              have hsy := hid (show RowAt Y1 1 (.slice (some ⟨Y.heap.size, 0, none⟩) 1 1) 1 [.slice ay ly cy] by rw [hY1]; exact RowAt.of_new #[.slice ay ly cy] 1 1 rfl (by unfold maxLen; omega))
              have hz1' := hid (Nat.le_trans hQ.out.oth.size hC1.out.size)
              rw [← hY]
              replace hY := hid hY
              refine opsS_list (k := 1) (m := 3) rfl rfl ?_
              go_wp2_with (first | (rw [← hY1]; replace hY1 := hid hY1) | (at_builtin; refine wpList_pushK elemB _ rfl (.tmp 61) (.tmp 63) rfl rfl rfl hrb.out hsy.out (fun u hu => by rw [List.mem_singleton] at hu; subst hu; rfl) (fun u hu k hk => by rw [List.mem_singleton] at hu; subst hu; exact ⟨Nat.lt_of_lt_of_le (hyb.out k hk) hz1'.out, fun e => by have := (hQ.out.rb.lt e).1; have := hyb.out k hk; omega⟩) (by unfold maxLen; omega) (by omega) hz1'.out (fun a' c' w' h2 h3 => ?_)))
              have hZ' := hid (hQ.out.pushB hC1.out h3 (j' := j + 1) (by rw [hyt.out]; exact h2))
              clear h2 h3 hY1 hY hrb hsy
              go_wp2_with fail
              go_roundw
              case rel => exact ⟨i, j + 1, by go_num, hZ'⟩
              case measure => simp [intOf]; omega
          · have ei : i = rs.length := by omega
            have ej : j = vs.length := by omega
            subst ei
            subst ej
            have hra := hZ.out.ra
            have hrb := hZ.out.rb
            rw [List.take_length] at hra hrb
            have hrow6 := hra.at
            have hrow7 := hrb.at
            obtain ⟨q6, _, _, e6, g6, g6', p6⟩ := id hrow6
            cases e6
            obtain ⟨q7, _, _, e7, g7, g7', p7⟩ := id hrow7
            cases e7
            clear q6 q7 p6 p7
            have hcl6 := hid (fun W => clipm_any aa rs.length ca W g6 g6')
            have hcl7 := hid (fun W => clipf_any ao vs.length co W g7 g7')
            have hza := hL.out.oth.size
            have hzr := hZ.out.oth.size
            have hn := hnew.out
            have hAl := lt_of_block hM.out.ca
            have hBl := lt_of_block hM.out.cb
            have hk1 : ∀ j, j < wc.heap.size → j ≠ n + 1 → tv.ownBlock ≠ some j → j ≠ A → j ≠ B → wr.heap[j]? = wc.heap[j]? := fun j h1 h2 h3 h4 h5 => (hZ.out.oth.keep j (by omega) (by omega)).trans (hL.out.oth.keep j h1 (by rintro ((e | e) | e | e); (all_goals first | omega | exact h3 e)))
            have hk2 : ∀ j, wc.heap.size ≤ j → j < Wa.heap.size → wr.heap[j]? = Wa.heap[j]? := fun j h1 h2 => hZ.out.oth.keep j h2 (by omega)
            have hkc : wr.heap[n + 2]? = some (.cells #[.pointer (some ⟨n, 0, none⟩), .pointer (some ⟨n + 1, 0, none⟩), .bool false] 55 (0, 0)) := (hk1 (n + 2) (by omega) (by omega) (fun e => by have := htr.out _ e; omega) (by omega) (by omega)).trans hblk.out
            have hn0 : wr.heap[n]? = wc.heap[n]? := hk1 n (by omega) (by omega) (fun e => by have := htr.out _ e; omega) (by omega) (by omega)
            have hhl := hhv.out
            have hpA : tv'.ownBlock ≠ some A := hL.out.trow _ hAl (fun e => by have := htl.out _ e; omega)
            have hpB : tv'.ownBlock ≠ some B := hL.out.trow _ hBl (fun e => by have := htl.out _ e; omega)
            have htl2 := fun j (hj : tv'.ownBlock = some j) => (hL.out.tab.row hj)
            obtain ⟨W', hW'⟩ : ∃ Z, Z = wr.setCell ⟨n + 2, 2, none⟩ (.bool r.2.isNone) := ⟨_, rfl⟩
            have kW : ∀ j, j ≠ n + 2 → W'.heap[j]? = wr.heap[j]? := fun j hj => by rw [hW']; exact block_set_other hj
            have sW : W'.heap.size = wr.heap.size := by rw [hW']; simp [World.setCell]
            have hpn : tv'.ownBlock ≠ some (n + 2) := hL.out.trow _ (by omega) (fun e => by have := htr.out _ e; omega)
            have hfin : CFeedP w n tv xs r (.returned (.tuple #[.slice aa rs.length rs.length, .slice ao vs.length vs.length])) W' := by
              refine ⟨_, _, hv', tv', rfl, ⟨rs, ?_, fun j hj => ?_, ?_⟩, ⟨vs, ?_, fun j hj => ?_, ?_⟩, ⟨?_, ?_, ?_, ?_, ?_⟩, ?_, hf.out, ?_⟩
              · rw [hL.out.asks.len]
                exact RowAt.other hrow6.clip (by omega) (fun j hj => kW j (by have := (hra.lt (own_cap hj)).1; omega))
              · have h1 := (hra.lt (own_cap hj)).1
                exact ⟨by omega, fun e => by have := (htl2 j e).2; omega⟩
              · exact hL.out.asks.imp fun m u hu => hu.keep (by omega) (fun j h1 h2 h3 => ⟨(kW j (by omega)).trans (hk2 j h1 h2), h3⟩) (by omega)
              · rw [hL.out.outs.len]
                exact RowAt.other hrow7.clip (by omega) (fun j hj => kW j (by have := (hrb.lt (own_cap hj)).1; omega))
              · have h1 := (hrb.lt (own_cap hj)).1
                exact ⟨by omega, fun e => by have := (htl2 j e).2; omega⟩
              · exact hL.out.outs.imp fun m u hu => hu.keep (by omega) (fun j h1 h2 h3 => ⟨(kW j (by omega)).trans (hk2 j h1 h2), h3⟩) (by omega)
              · rw [hW']; exact block_set hkc 2 _
              · exact ⟨(kW n (by omega)).trans (hn0.trans hstr.out.blk), RowAt.other hstr.out.row (by omega) (fun j hj => (kW j (by have := hf.out j hj; omega)).trans (hk1 j (by have := hhl j hj; omega) (by have := hf.out j hj; omega) (fun e => by have := htl.out j e; have := hf.out j hj; omega) (by have := hhl j hj; omega) (by have := hhl j hj; omega))), hstr.out.own⟩
              · exact hL.out.tab.other fun j hj => by
                  have h2 := hL.out.tab.lt
                  rcases hj with rfl | hj
                  · exact (kW _ (by omega)).trans (hZ.out.oth.keep _ (by omega) (by omega))
                  · exact (kW _ (fun e => hpn (e ▸ hj))).trans (hZ.out.oth.keep _ (htl2 j hj).2 (fun e => by rcases e with rfl | rfl; exact hpA hj; exact hpB hj))
              · exact fun j hj => ⟨by have := hf.out j hj; omega, hL.out.trow j (by have := hhl j hj; omega) (fun e => by have := htl.out j e; have := hf.out j hj; omega)⟩
              · exact fun j hj => by
                  have h1 := (htl2 j hj).1
                  have : j ≠ n + 2 := fun e => hpn (e ▸ hj)
                  omega
              · exact fun j h1 h2 => hL.out.trow j (by omega) h2
              · have o1 : Oth (fun j => (j = n ∨ j = n + 1 ∨ j = n + 2) ∨ tv.ownBlock = some j) w wc := hO1.out.wide fun j hj => .inl (.inl hj)
                have o2 := o1.trans2 hL.out.oth (fun j hj hp => by rcases hp with (e | e) | e | e; exact .inl (.inr (.inl e)); exact .inr e; all_goals omega)
                have o3 := o2.trans2 hZ.out.oth (fun j hj hp => by omega)
                refine o3.trans2 (P' := fun j => j = n + 2) ⟨by omega, fun j _ hn => kW j hn, fun N h1 h2 => by rw [hW']; exact (Below.refl N wr).setCell (h2 (n + 2) rfl) _⟩ (fun j _ e => .inl (.inr (.inr e)))
            have hde := hid (fdead_any wr n hv' (r.2.getD []) r.2.isNone ⟨hn0.trans hstr.out.blk, RowAt.other hstr.out.row (by omega) (fun j hj => hk1 j (by have := hhl j hj; omega) (by have := hf.out j hj; omega) (fun e => by have := htl.out j e; have := hf.out j hj; omega) (by have := hhl j hj; omega) (by have := hhl j hj; omega)), hstr.out.own⟩)
            have e0 := block_cell hkc 0
            have e2 := block_cell hkc 2
            have f2 := block_free hkc 2
            replace hfin := hid hfin
            replace hW' := hid hW'
            have hij2 : ¬ ((rs.length : Int) + (vs.length : Int) < (r.1.length : Int)) := by omega
            clear hrow6 hrow7 hra hrb hk1 hk2 hkc hn0 hhl hpA hpB htl2 kW sW hpn hza hzr hn hAl hBl hlens hli hlj hij hkl hk
            go_wp2_with fail
            refine hde.out.mono ?_
            rintro e w5 ⟨rfl, rfl⟩
            go_wp2_with (rw [← hW'.out])
            try rw [← hW'.out]
            refine (hcl6.out _).mono ?_
            rintro e w6 ⟨rfl, rfl⟩
            go_wp2_with fail
            refine (hcl7.out _).mono ?_
            rintro e w7 ⟨rfl, rfl⟩
            go_wp2_with fail
            refine bodyPost_ret (results_tmp2 rfl _ _ _) rfl ?_
            exact hfin.out
end
end Go.Proofs.YtcbglcebdkpcfaaGreat

namespace Go.Proofs.YtcbglcebdkpcfaaGreat
section
open Go.RowKit
set_option maxRecDepth 100000
set_option linter.unusedVariables false

def ByM (w : World) (base : Nat) (v : Value) (l : List UInt8) : Prop :=
  ∃ g cur fz, v = .slice (some ⟨g, 0, none⟩) l.length cur.size ∧ base ≤ g ∧ w.heap[g]? = some (.cells cur 5 fz) ∧ (∀ j, j < cur.size → (decide (fz.1 ≤ j) && decide (j < fz.2)) = false) ∧ l.length ≤ cur.size ∧ cur.size ≤ maxLen ∧ cur.toList.take l.length = l.map byteV
theorem ByM.below {w w' : World} {base : Nat} {v : Value} {l : List UInt8} (h : ByM w base v l) (hb : Below w.heap.size w w') : ByM w' base v l := by
  obtain ⟨g, cur, fz, h1, h2, h3, h4⟩ := h
  exact ⟨g, cur, fz, h1, h2, (hb.block _ (lt_of_block h3)).trans h3, h4⟩
theorem block_cellM {w : World} {g j : Nat} {cur : Array Value} {e : TypeId} {fz : Nat × Nat} (h : w.heap[g]? = some (.cells cur e fz)) : w.cell? ⟨g, j, none⟩ = cur[j]? := by simp [World.cell?, h]
theorem block_frozenM {w : World} {g j : Nat} {cur : Array Value} {e : TypeId} {fz : Nat × Nat} (h : w.heap[g]? = some (.cells cur e fz)) : w.frozen? ⟨g, j, none⟩ = (decide (fz.1 ≤ j) && decide (j < fz.2)) := by simp [World.frozen?, h]
theorem ByM.cells {w : World} {base g n c : Nat} {l : List UInt8} (h : ByM w base (.slice (some ⟨g, 0, none⟩) n c) l) : n = l.length ∧ l.length ≤ c ∧ c ≤ maxLen ∧ base ≤ g ∧ g < w.heap.size ∧ (∀ j (hj : j < l.length), w.cell? ⟨g, j, none⟩ = some (.int .u8 (l[j].toNat : Int))) ∧ ∀ j, j < c → w.frozen? ⟨g, j, none⟩ = false ∧ (w.cell? ⟨g, j, none⟩).isSome = true := by
  obtain ⟨g', cur, fz, h1, h2, h3, h4, h5, h6, h7⟩ := h
  cases h1
  refine ⟨rfl, h5, h6, h2, lt_of_block h3, fun j hj => ?_, fun j hj => ⟨?_, ?_⟩⟩
  · rw [block_cellM h3]
    have : (cur.toList.take l.length)[j]? = (l.map byteV)[j]? := by rw [h7]
    rw [List.getElem?_take_of_lt hj, Array.getElem?_toList] at this
    rw [this]
    simp [hj, byteV]
  · rw [block_frozenM h3]; exact h4 j hj
  · rw [block_cellM h3]; simp [hj]
theorem ByM.at {w : World} {base : Nat} {v : Value} {l : List UInt8} (h : ByM w base v l) : BytesAt w v l := by
  obtain ⟨g, cur, fz, rfl, h2, h3, h4, h5, h6, h7⟩ := h
  refine ⟨by simp, _, _, rfl, h5, h6, (fun h => (by cases h)), (fun ad ha => (by cases ha; exact ⟨rfl, lt_of_block h3⟩)), fun i u hu => ⟨g, 0, rfl, ?_⟩⟩
  rw [Nat.zero_add, block_cellM h3, ← Array.getElem?_toList]
  rw [← h7, List.getElem?_take] at hu
  split at hu
  · exact hu
  · cases hu
theorem ByM.form {w : World} {base : Nat} {v : Value} {l : List UInt8} (h : ByM w base v l) : ∃ g c, v = .slice (some ⟨g, 0, none⟩) l.length c ∧ l.length ≤ c ∧ c ≤ maxLen ∧ base ≤ g := by
  obtain ⟨g, cur, fz, rfl, h2, h3, h4, h5, h6, h7⟩ := h
  exact ⟨g, _, rfl, h5, h6, h2⟩
theorem run_bytes (w : World) (s : ByteArray) (hs : s.size ≤ maxLen) (base : Nat) (hb : base ≤ w.heap.size) : ∃ c w', (convert 9 29 (.string s)).run Tryz.prog w = .ok (.slice (some ⟨w.heap.size, 0, none⟩) s.size c) w' ∧ ByM w' base (.slice (some ⟨w.heap.size, 0, none⟩) s.size c) s.data.toList ∧ Below w.heap.size w w' := by
  refine ⟨_, _, run_bytes_of_string w _ _ 5 s Tryz.underlying9 Tryz.underlying29 Tryz.underlying5, ?_, ((Below.refl w.heap.size w).drew).alloc (Nat.le_refl _) _⟩
  have hge := grownCap_ge w s.size 0 5
  have hle := grownCap_le_maxLen w s.size 0 5 hs
  have hsz : (bytesRow s (grownCap w s.size 0 5)).size = grownCap w s.size 0 5 := by
    unfold bytesRow
    have : s.data.size = s.size := rfl
    simp
    omega
  refine ⟨w.heap.size, bytesRow s (grownCap w s.size 0 5), _, by rw [hsz]; rfl, hb, heap_alloc_new w.drew _, fun j hj => ?_, ?_, ?_, ?_⟩
  · have : decide ((bytesRow s (grownCap w s.size 0 5)).size ≤ j) = false := decide_eq_false (by omega)
    simp only [this, Bool.false_and]
  · rw [hsz]; exact hge
  · rw [hsz]; exact hle
  · apply List.ext_getElem?
    intro j
    have hlen : s.data.toList.length = s.size := by simp
    by_cases hj : j < s.data.toList.length
    · rw [List.getElem?_take_of_lt hj, Array.getElem?_toList, bytesRow_at s _ j (by simpa using hj), List.getElem?_map, List.getElem?_eq_getElem hj, Option.map_some, Array.getElem_toList]
      rfl
    · rw [List.getElem?_eq_none (by rw [List.length_take]; omega), List.getElem?_eq_none (by rw [List.length_map]; omega)]
theorem ByM.set {w : World} {base g c i : Nat} {l : List UInt8} {b : UInt8} (h : ByM w base (.slice (some ⟨g, 0, none⟩) l.length c) l) (hi : i < l.length) : ByM (w.setCell ⟨g, i, none⟩ (byteV b)) base (.slice (some ⟨g, 0, none⟩) l.length c) (l.set i b) := by
  obtain ⟨g', cur, fz, h1, h2, h3, h4, h5, h6, h7⟩ := h
  cases h1
  have hb : (w.setCell ⟨g, i, none⟩ (byteV b)).heap[g]? = some (.cells (cur.setIfInBounds i (byteV b)) 5 fz) := block_set h3 i _
  refine ⟨g, cur.setIfInBounds i (byteV b), fz, by simp, h2, hb, by simpa using h4, by simpa using h5, by simpa using h6, ?_⟩
  rw [List.length_set, Array.toList_setIfInBounds, List.take_set, h7, List.map_set]
end
end Go.Proofs.YtcbglcebdkpcfaaGreat
