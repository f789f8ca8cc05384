/- What body of the reference's out writes, for walks, reads and writes. Conditions: numbers in their types, bounds on lengths.
What body of the reference's out writes, for each type but walks, reads and writes. Conditions: numbers in their types, bounds on lengths. -/
import Derived.Test.YtlmojhlacfjmaaaGreatBunS
namespace Go.Proofs.YtlmojhlacfjmaaaGreat
section
open Go.RowKit
set_option maxRecDepth 100000
set_option linter.unusedVariables false

theorem run_append_strl {P : Program} (w : World) (base : Nat) (t u ty e : TypeId) (i : TypeInfo) (ht : P.underlying t = some (.slice e)) (hu : P.underlying u = some .string) (hi : P.info? e = some i) (hz : i.zero = some (.int .u8 0))
  (hsize : i.size = 1) (hby : i.bytes = 1) (v : Value) (n : Nat) (xs : List Value) (hown : w.ownsRow base e 1 v n xs) (s : ByteArray)
  (h63 : n + s.size ≤ maxLen) (hbytes : n + s.size ≤ 140737488355328) (hbase : base ≤ w.heap.size) :
  ∃ a' c' w', (Builtin.append_ #[t, u] ty #[v, .string s]).run P w = .ok (.slice a' (n + s.size) c') w' ∧ w'.ownsRow base e 1 (.slice a' (n + s.size) c') (n + s.size) (xs ++ Lib.strCells s) ∧ w.grownBy w' v.ownBlock ∧
   (∀ k, (Value.slice a' (n + s.size) c').ownBlock = some k → v.ownBlock = some k ∨ w.heap.size ≤ k) := by
 obtain ⟨v', w', hr, h2, h3, h4⟩ := Lib.run_append_own_string (P := P) w base t u ty e i ht hu hi hz hsize hby v n xs hown s h63 hbytes hbase
 have hsmall : n + s.size ≤ 9223372036854775807 := by simp only [maxLen] at h63; omega
 have hxl : xs.length = n := by simpa using hown.1
 have hl : ∀ k, v'.ownBlock = some k → v.ownBlock = some k ∨ w.heap.size ≤ k := by
  intro k hk
  rcases hown.2 with ⟨rfl, rfl⟩ | ⟨g, cap, cur, rfl, hbg, hg, hnc, hcm, hcs, htake⟩
  ·by_cases hm : s.size = 0
   ·rw [h4.mpr ⟨rfl, hm⟩] at hk; cases hk
   ·have hr2 := run_append_nil_string (P := P) w t u ty e i (.int .u8 0) ht hu hi hz s (by omega) (by omega) (by rw [hby]; omega)
    rw [hr2] at hr
    injection hr with e1 e2
    rw [← e1] at hk
    cases hk
    exact .inr (Nat.le_refl _)
  ·by_cases hroom : n + s.size ≤ cap
   ·have hr2 := Lib.run_append_room_string (P := P) w t u ty e i ht hu hi hsize g n cap cur hg s hroom (by have : cur.size = cap := (by simpa using hcs); omega)
    rw [hr2] at hr
    injection hr with e1 e2
    rw [← e1] at hk
    exact .inl hk
   ·have holds : ∀ j u, xs[j]? = some u → w.cell? ((⟨g, 0, none⟩ : Addr).add j) = some u := hown.cells (g := g) rfl
    have hr2 := Lib.run_append_grow_string (P := P) w t u ty e i (.int .u8 0) ht hu hi hz ⟨g, 0, none⟩ n cap xs (by rw [hsize]; simpa using hxl) holds s (by omega) (by omega) (by rw [hby]; exact growslice_fits (by omega) (by omega))
    rw [hr2] at hr
    injection hr with e1 e2
    rw [← e1] at hk
    cases hk
    exact .inr (Nat.le_refl _)
 obtain ⟨a', c', rfl⟩ := own_form h2
 exact ⟨a', c', w', hr, h2, h3, hl⟩
theorem step_append_strl {P : Program} {ops : Array Oper} {o : Oper} {a : Act} {K : Act → World → Prop} {Q : Exit → Act → World → Prop} {F : Prop} (w : World) (hgd : o.guard = none) (sl x : Operand) (t u : TypeId)
  (ho : o.op = .call { callee := .builtin .append, args := #[sl, x], argTypes := #[t, u] })
  (base : Nat) (e : TypeId) (i : TypeInfo) (ht : P.underlying t = some (.slice e)) (hu : P.underlying u = some .string) (hi : P.info? e = some i) (hz : i.zero = some (.int .u8 0))
  (hsize : i.size = 1) (hby : i.bytes = 1)
  (v : Value) (n : Nat) (xs : List Value) (hs : a.eval sl = v) (hown : w.ownsRow base e 1 v n xs) (s : ByteArray) (hx : a.eval x = .string s)
  (h63 : n + s.size ≤ maxLen) (hbytes : n + s.size ≤ 140737488355328) (hbase : base ≤ w.heap.size)
  (h : ∀ a' c' w', w'.ownsRow base e 1 (.slice a' (n + s.size) c') (n + s.size) (xs ++ Lib.strCells s) → w.grownBy w' v.ownBlock → (∀ k, (Value.slice a' (n + s.size) c').ownBlock = some k → v.ownBlock = some k ∨ w.heap.size ≤ k) → K (a.put o.dst (.slice a' (n + s.size) c')) w') :
  if Region.wanted o (yielded ops a.tmps) = true then Oper.wp P o a w K Q else F := by
 have hw : Region.wanted o (yielded ops a.tmps) = true := by simp [Region.wanted, hgd]
 rw [if_pos hw]
 obtain ⟨a', c', w', hr, h2, h3, h4⟩ := run_append_strl (P := P) w base t u o.type e i ht hu hi hz hsize hby v n xs hown s h63 hbytes hbase
 unfold Oper.wp execOp
 simp only [ho, resolve, invoke, builtin, Sem.run_bind, Sem.run_pure, Result.andThen_ok, List.map_toArray, List.map_cons, List.map_nil, hs, hx, hr]
 exact h a' c' w' h2 h3 h4
theorem textsR_snoc (L : List ByteArray) (k : Nat) (h : k < L.length) : (L.take (k + 1)).flatMap putTextR = (L.take k).flatMap putTextR ++ putTextR L[k] := by
 rw [List.take_succ_eq_append_getElem h, List.flatMap_append]; simp
theorem errs_snoc (L : List ByteArray) (k e : Nat) (h : k < L.length) : ((L.take (k + 1)).map mayN).foldl firstE e = firstE (((L.take k).map mayN).foldl firstE e) (mayN L[k]) := by
 rw [List.take_succ_eq_append_getElem h, List.map_append, List.foldl_append]; rfl
theorem firstE_assoc (a b c : Nat) : firstE a (firstE b c) = firstE (firstE a b) c := by
 unfold firstE
 by_cases ha : a = 0 <;> by_cases hb : b = 0 <;> simp [ha, hb]
theorem errs_from (l : List Nat) : ∀ e : Nat, l.foldl firstE e = firstE e (l.foldl firstE 0) := by
 induction l with
 | nil => intro e; exact (firstE_zero e).symm
 | cons x l ih =>
  intro e
  show l.foldl firstE (firstE e x) = firstE e (l.foldl firstE (firstE 0 x))
  rw [ih (firstE e x), ih (firstE 0 x), firstE_new, firstE_assoc]
theorem texts_take_len (L : List ByteArray) (h : ∀ s ∈ L, s.size ≤ 1000) (k : Nat) (hk : L.length ≤ 30) : ((L.take k).flatMap putTextR).length ≤ 31000 := by
 have := texts_len (L.take k) fun s hs => h s (List.mem_of_mem_take hs)
 have h2 : (L.take k).length ≤ 30 := by rw [List.length_take]; omega
 omega

set_option maxHeartbeats 3200000 in
theorem rbody_110 (b : Nat) (xs : List UInt8) (e : Nat) (m : M) (vN vQ : Value) (d : ByteArray) (w : World) (hm : MOk m) (hf : RFew m) (hx : xs.length ≤ 1000) (h : RA0 w b m vN vQ d xs e) (ht : m.ty = 110) :
  Calls Tryz.prog 26 #[.pointer (some ⟨b, 0, none⟩), .agg (m.rcells vN vQ d)] w (RGood b (xs ++ ([.fid, .new, .names] : List Slot).flatMap (Slot.r m)) ((([.fid, .new, .names] : List Slot).map (Slot.re m)).foldl firstE e) w) := by
 obtain ⟨a, c, rfl, g1, g2⟩ := StrsAt.form h.names
 obtain ⟨W, hW⟩ : ∃ W, W = w.alloc (.cells (m.rcells (.slice a m.names.length c) vQ d) 46) := ⟨_, rfl⟩
 have hA := hid (show RA w W b w.heap.size m (.slice a m.names.length c) vQ d xs e by rw [hW]; exact h.start)
 have c0 : W.cell? ⟨w.heap.size, 0, none⟩ = some (.int .u8 110) := by rw [hA.out.cell 0]; show some (Value.int .u8 (m.ty : Int)) = _; rw [ht]; rfl
 replace h := hid h
 clear ht
 unfold maxLen at g2
 have hnl := hf.names
 have e_fid : IntKind.u64.wrap (m.fid : Int) = (m.fid : Int) := IntWalk.u64_in _ (by have := hm.fid; omega)
 have e_new : IntKind.u64.wrap (m.new : Int) = (m.new : Int) := IntWalk.u64_in _ (by have := hm.new; omega)
 have e_len : IntKind.u64.wrap (m.names.length : Int) = (m.names.length : Int) := IntWalk.u64_in _ (by omega)
 simp only [M.rcells, M.cells] at hW ⊢
 go_enter Tryz.func26, Tryz.ntmps26
 have c4 : W.cell? ⟨w.heap.size, 4, none⟩ = some (.int .u32 (m.fid : Int)) := hA.out.cell 4
 go_wp2_with (rw [← hW]; replace hW := hid hW)
 try (rw [← hW]; replace hW := hid hW)
 refine (ra_num4 m.fid (by have := hm.fid; omega) (by omega) hA.out).mono ?_
 rintro en w0 ⟨rfl, hA0⟩
 replace hA0 := hid hA0
 clear c0 c4
 have c6 : w0.cell? ⟨w.heap.size, 6, none⟩ = some (.int .u32 (m.new : Int)) := hA0.out.cell 6
 go_wp2_with fail
 refine (ra_num4 m.new (by have := hm.new; omega) (by simp [numBytes_length]; omega) hA0.out).mono ?_
 rintro en w1 ⟨rfl, hA1⟩
 replace hA1 := hid hA1
 clear c6
 have c11 : w1.cell? ⟨w.heap.size, 11, none⟩ = some (.slice a m.names.length c) := hA1.out.cell 11
 go_wp2_with fail
 refine (ra_num2 m.names.length (by omega) (by simp [numBytes_length]; omega) hA1.out).mono ?_
 rintro en w2 ⟨rfl, hA2⟩
 have hX : (xs ++ numBytes m.fid 4 ++ numBytes m.new 4 ++ numBytes m.names.length 2).length ≤ 1010 := by simp [numBytes_length]; omega
 generalize hXX : xs ++ numBytes m.fid 4 ++ numBytes m.new 4 ++ numBytes m.names.length 2 = X at hA2 hX
 replace hXX := hid hXX
 replace hX := hid hX
 replace hA2 := hid hA2
 clear c11
 go_wp2_with fail
 go_loopw [4] (fun kv wr => ∃ k : Nat, k ≤ m.names.length ∧ kv = .int .i64 (k : Int) ∧ Hid (RA w wr b w.heap.size m (.slice a m.names.length c) vQ d (X ++ (m.names.take k).flatMap putTextR) (((m.names.take k).map mayN).foldl firstE e))) (fun kv _ => m.names.length - (intOf kv).toNat)
 case atStart => exact ⟨0, by omega, rfl, by simpa using hA2⟩
 case round =>
  obtain ⟨k, hk, rfl, hR⟩ := hrel
  have c11 : wr.cell? ⟨w.heap.size, 11, none⟩ = some (.slice a m.names.length c) := hR.out.cell 11
  by_cases hkl : k < m.names.length
  ·obtain ⟨bb, o, rfl, hcell⟩ := StrsAt.cell hR.out.names k hkl
   have hsz := hf.few.names m.names[k] (List.getElem_mem _)
   have hsn := hid (textsR_snoc m.names k hkl)
   have hed := hid (errs_snoc m.names k e hkl)
   have hll := hid (show (X ++ (m.names.take k).flatMap putTextR).length ≤ 40000 by have := hX.out; have := texts_take_len m.names hf.few.names k hf.names; rw [List.length_append]; omega)
   generalize m.names[k] = x at hcell hsz hsn hed
   go_wp2_with fail
   refine (ra_text x (by omega) (by have := hll.out; omega) hR.out).mono ?_
   rintro en w3 ⟨rfl, hA3⟩
   replace hA3 := hid hA3
   clear c11 hcell
   go_wp2_with fail
   go_roundw
   case rel => exact ⟨k + 1, by omega, by go_num, by rw [hsn.out, ← List.append_assoc, hed.out]; exact hA3⟩
   case measure => simp [intOf]; omega
  ·obtain rfl : k = m.names.length := by omega
   go_wp2_with fail
   go_end0
   have h9 := hR.out.out
   rw [List.take_length, errs_from, ← hXX.out] at h9
   exact ⟨rfl, by simpa [Slot.r, Slot.re, firstE_zero] using h9, hR.out.st⟩

theorem qids_take_len (Q : List QidV) (k : Nat) (h : Q.length ≤ 30) : (qidsBytes (Q.take k)).length ≤ 390 := by
 rw [qidsBytes_len, List.length_take]; omega
set_option maxHeartbeats 3200000 in
theorem rbody_111 (b : Nat) (xs : List UInt8) (e : Nat) (m : M) (vN vQ : Value) (d : ByteArray) (w : World) (hm : MOk m) (hf : RFew m) (hx : xs.length ≤ 1000) (h : RA0 w b m vN vQ d xs e) (ht : m.ty = 111) :
  Calls Tryz.prog 26 #[.pointer (some ⟨b, 0, none⟩), .agg (m.rcells vN vQ d)] w (RGood b (xs ++ ([.qids] : List Slot).flatMap (Slot.r m)) ((([.qids] : List Slot).map (Slot.re m)).foldl firstE e) w) := by
 obtain ⟨a, c, rfl, g1, g2⟩ := QidsAt.form h.qids
 obtain ⟨W, hW⟩ : ∃ W, W = w.alloc (.cells (m.rcells vN (.slice a m.qids.length c) d) 46) := ⟨_, rfl⟩
 have hA := hid (show RA w W b w.heap.size m vN (.slice a m.qids.length c) d xs e by rw [hW]; exact h.start)
 have c0 : W.cell? ⟨w.heap.size, 0, none⟩ = some (.int .u8 111) := by rw [hA.out.cell 0]; show some (Value.int .u8 (m.ty : Int)) = _; rw [ht]; rfl
 replace h := hid h
 clear ht
 unfold maxLen at g2
 have hnl := hf.qids
 have e_len : IntKind.u64.wrap (m.qids.length : Int) = (m.qids.length : Int) := IntWalk.u64_in _ (by omega)
 simp only [M.rcells, M.cells] at hW ⊢
 go_enter Tryz.func26, Tryz.ntmps26
 have c12 : W.cell? ⟨w.heap.size, 12, none⟩ = some (.slice a m.qids.length c) := hA.out.cell 12
 go_wp2_with (rw [← hW]; replace hW := hid hW)
 try (rw [← hW]; replace hW := hid hW)
 refine (ra_num2 m.qids.length (by omega) (by omega) hA.out).mono ?_
 rintro en w2 ⟨rfl, hA2⟩
 have hX : (xs ++ numBytes m.qids.length 2).length ≤ 1002 := by simp [numBytes_length]; omega
 generalize hXX : xs ++ numBytes m.qids.length 2 = X at hA2 hX
 replace hXX := hid hXX
 replace hX := hid hX
 replace hA2 := hid hA2
 clear c0 c12
 go_wp2_with fail
 go_loopw [5] (fun kv wr => ∃ k : Nat, k ≤ m.qids.length ∧ kv = .int .i64 (k : Int) ∧ Hid (RA w wr b w.heap.size m vN (.slice a m.qids.length c) d (X ++ qidsBytes (m.qids.take k)) e)) (fun kv _ => m.qids.length - (intOf kv).toNat)
 case atStart => exact ⟨0, by omega, rfl, by simpa [qidsBytes] using hA2⟩
 case round =>
  obtain ⟨k, hk, rfl, hR⟩ := hrel
  have c12 : wr.cell? ⟨w.heap.size, 12, none⟩ = some (.slice a m.qids.length c) := hR.out.cell 12
  by_cases hkl : k < m.qids.length
  ·obtain ⟨bb, o, rfl, hc1, hc2, hc3⟩ := QidsAt.cell hR.out.qids k hkl
   have hok := hid (hm.qids m.qids[k] (List.getElem_mem _))
   have hsn := hid (qidsBytes_snoc m.qids k hkl)
   have hll := hid (show (X ++ qidsBytes (m.qids.take k)).length ≤ 40000 by have := hX.out; have := qids_take_len m.qids k hf.qids; rw [List.length_append]; omega)
   generalize m.qids[k] = x at hc1 hc2 hc3 hok hsn
   go_wp2_with fail
   refine (ra_qid x hok.out (by have := hll.out; omega) hR.out).mono ?_
   rintro en w3 ⟨rfl, hA3⟩
   replace hA3 := hid hA3
   clear c12 hc1 hc2 hc3
   go_wp2_with fail
   go_roundw
   case rel => exact ⟨k + 1, by omega, by go_num, by rw [hsn.out, ← List.append_assoc]; exact hA3⟩
   case measure => simp [intOf]; omega
  ·obtain rfl : k = m.qids.length := by omega
   go_wp2_with fail
   go_end0
   have h9 := hR.out.out
   rw [List.take_length, ← hXX.out] at h9
   exact ⟨rfl, by simpa [Slot.r, Slot.re, firstE_zero] using h9, hR.out.st⟩

set_option maxHeartbeats 3200000 in
theorem rbody_117 (b : Nat) (xs : List UInt8) (e : Nat) (m : M) (vN vQ : Value) (d : ByteArray) (w : World) (hm : MOk m) (hf : RFew m) (hx : xs.length ≤ 1000) (h : RA0 w b m vN vQ d xs e) (ht : m.ty = 117) :
  Calls Tryz.prog 26 #[.pointer (some ⟨b, 0, none⟩), .agg (m.rcells vN vQ d)] w (RGood b (xs ++ ([.data] : List Slot).flatMap (Slot.r m)) ((([.data] : List Slot).map (Slot.re m)).foldl firstE e) w) := by
 obtain ⟨W, hW⟩ : ∃ W, W = w.alloc (.cells (m.rcells vN vQ d) 46) := ⟨_, rfl⟩
 have hA := hid (show RA w W b w.heap.size m vN vQ d xs e by rw [hW]; exact h.start)
 have c0 : W.cell? ⟨w.heap.size, 0, none⟩ = some (.int .u8 117) := by rw [hA.out.cell 0]; show some (Value.int .u8 (m.ty : Int)) = _; rw [ht]; rfl
 have hds := hid (show d.size = m.data.length by rw [← h.data]; exact (Array.length_toList).symm)
 replace h := hid h
 clear ht
 have hdl := hf.data
 have e_len : IntKind.u64.wrap (d.size : Int) = (d.size : Int) := IntWalk.u64_in _ (by have := hds.out; omega)
 obtain ⟨i0, hi, hz0, hz1, hz2⟩ := u8info
 simp only [M.rcells, M.cells] at hW ⊢
 go_enter Tryz.func26, Tryz.ntmps26
 have c22 : W.cell? ⟨w.heap.size, 22, none⟩ = some (.string d) := hA.out.cell 22
 go_wp2_with (rw [← hW]; replace hW := hid hW)
 try (rw [← hW]; replace hW := hid hW)
 refine (ra_num4 d.size (by have := hds.out; omega) (by omega) hA.out).mono ?_
 rintro en w2 ⟨rfl, hA2⟩
 clear c0 c22
 have hX : (xs ++ numBytes d.size 4).length ≤ 1010 := by simp [numBytes_length]; omega
 generalize hXX : xs ++ numBytes d.size 4 = X at hA2 hX
 replace hXX := hid hXX
 replace hX := hid hX
 have hA3 := hid hA2.drew
 obtain ⟨aa, ca, hB⟩ := hA3.out.out.box
 have s0 : w2.drew.cell? ⟨b, 0, none⟩ = some (.slice aa X.length ca) := block_cell hB.blk 0
 have c22 : w2.drew.cell? ⟨w.heap.size, 22, none⟩ = some (.string d) := hA3.out.cell 22
 replace hB := hid hB
 clear hA2
 go_wp2_with fail
 go_region_law (refine step_append_strl _ rfl (.tmp 202) (.tmp 204) 29 9 rfl (b + 1) 5 i0 Tryz.underlying29 Tryz.underlying9 hi hz0 hz1 hz2 (.slice aa X.length ca) X.length (X.map byteV) rfl hB.out.own d rfl (by have := hX.out; have := hds.out; unfold maxLen; omega) (by have := hX.out; have := hds.out; omega) (by have := lt_of_block hB.out.blk; omega) ?_; intro a' c' w' h2 h3 h4; obtain ⟨k1, k2, k3, k4⟩ := rout_set (ys := d.data.toList) hB.out.blk hB.out.own (Below.refl _ _) h3 h2 (by simp [Lib.strCells, byteV]) h4; replace k3 := hid k3; replace k4 := hid k4)
 all_goals
  clear s0 c22 k1 k2 h2 h3 h4 hB
  go_wp2_with fail
  go_end0
  have hE : X ++ d.data.toList = xs ++ ([.data] : List Slot).flatMap (Slot.r m) := by rw [← hXX.out, h.out.data, hds.out]; simp [Slot.r]
  have hE2 : (([.data] : List Slot).map (Slot.re m)).foldl firstE e = e := by simp [Slot.re, firstE_zero]
  rw [← hE, hE2]
  exact ⟨rfl, k3.out, hA3.out.st.trans k4.out⟩

set_option maxHeartbeats 3200000 in
theorem rbody_118 (b : Nat) (xs : List UInt8) (e : Nat) (m : M) (vN vQ : Value) (d : ByteArray) (w : World) (hm : MOk m) (hf : RFew m) (hx : xs.length ≤ 1000) (h : RA0 w b m vN vQ d xs e) (ht : m.ty = 118) :
  Calls Tryz.prog 26 #[.pointer (some ⟨b, 0, none⟩), .agg (m.rcells vN vQ d)] w (RGood b (xs ++ ([.fid, .offset, .data] : List Slot).flatMap (Slot.r m)) ((([.fid, .offset, .data] : List Slot).map (Slot.re m)).foldl firstE e) w) := by
 obtain ⟨W, hW⟩ : ∃ W, W = w.alloc (.cells (m.rcells vN vQ d) 46) := ⟨_, rfl⟩
 have hA := hid (show RA w W b w.heap.size m vN vQ d xs e by rw [hW]; exact h.start)
 have c0 : W.cell? ⟨w.heap.size, 0, none⟩ = some (.int .u8 118) := by rw [hA.out.cell 0]; show some (Value.int .u8 (m.ty : Int)) = _; rw [ht]; rfl
 have hds := hid (show d.size = m.data.length by rw [← h.data]; exact (Array.length_toList).symm)
 replace h := hid h
 clear ht
 have hdl := hf.data
 have e_len : IntKind.u64.wrap (d.size : Int) = (d.size : Int) := IntWalk.u64_in _ (by have := hds.out; omega)
 obtain ⟨i0, hi, hz0, hz1, hz2⟩ := u8info
 have e_fid : IntKind.u64.wrap (m.fid : Int) = (m.fid : Int) := IntWalk.u64_in _ (by have := hm.fid; omega)
 simp only [M.rcells, M.cells] at hW ⊢
 go_enter Tryz.func26, Tryz.ntmps26
 have c4 : W.cell? ⟨w.heap.size, 4, none⟩ = some (.int .u32 (m.fid : Int)) := hA.out.cell 4
 go_wp2_with (rw [← hW]; replace hW := hid hW)
 try (rw [← hW]; replace hW := hid hW)
 refine (ra_num4 m.fid (by have := hm.fid; omega) (by omega) hA.out).mono ?_
 rintro en w0 ⟨rfl, hA0⟩
 replace hA0 := hid hA0
 clear c0 c4
 have c20 : w0.cell? ⟨w.heap.size, 20, none⟩ = some (.int .u64 (m.offset : Int)) := hA0.out.cell 20
 go_wp2_with fail
 refine (ra_num8 m.offset (by have := hm.offset; omega) (by simp [numBytes_length]; omega) hA0.out).mono ?_
 rintro en w1 ⟨rfl, hA1⟩
 replace hA1 := hid hA1
 clear c20
 have c22 : w1.cell? ⟨w.heap.size, 22, none⟩ = some (.string d) := hA1.out.cell 22
 go_wp2_with fail
 refine (ra_num4 d.size (by have := hds.out; omega) (by simp [numBytes_length]; omega) hA1.out).mono ?_
 rintro en w2 ⟨rfl, hA2⟩
 clear c22
 have hX : (xs ++ numBytes m.fid 4 ++ numBytes m.offset 8 ++ numBytes d.size 4).length ≤ 1030 := by simp [numBytes_length]; omega
 generalize hXX : xs ++ numBytes m.fid 4 ++ numBytes m.offset 8 ++ numBytes d.size 4 = X at hA2 hX
 replace hXX := hid hXX
 replace hX := hid hX
 have hA3 := hid hA2.drew
 obtain ⟨aa, ca, hB⟩ := hA3.out.out.box
 have s0 : w2.drew.cell? ⟨b, 0, none⟩ = some (.slice aa X.length ca) := block_cell hB.blk 0
 have c22 : w2.drew.cell? ⟨w.heap.size, 22, none⟩ = some (.string d) := hA3.out.cell 22
 replace hB := hid hB
 clear hA2
 go_wp2_with fail
 go_region_law (refine step_append_strl _ rfl (.tmp 229) (.tmp 231) 29 9 rfl (b + 1) 5 i0 Tryz.underlying29 Tryz.underlying9 hi hz0 hz1 hz2 (.slice aa X.length ca) X.length (X.map byteV) rfl hB.out.own d rfl (by have := hX.out; have := hds.out; unfold maxLen; omega) (by have := hX.out; have := hds.out; omega) (by have := lt_of_block hB.out.blk; omega) ?_; intro a' c' w' h2 h3 h4; obtain ⟨k1, k2, k3, k4⟩ := rout_set (ys := d.data.toList) hB.out.blk hB.out.own (Below.refl _ _) h3 h2 (by simp [Lib.strCells, byteV]) h4; replace k3 := hid k3; replace k4 := hid k4)
 all_goals
  clear s0 c22 k1 k2 h2 h3 h4 hB
  go_wp2_with fail
  go_end0
  have hE : X ++ d.data.toList = xs ++ ([.fid, .offset, .data] : List Slot).flatMap (Slot.r m) := by rw [← hXX.out, h.out.data, hds.out]; simp [Slot.r]
  have hE2 : (([.fid, .offset, .data] : List Slot).map (Slot.re m)).foldl firstE e = e := by simp [Slot.re, firstE_zero]
  rw [← hE, hE2]
  exact ⟨rfl, k3.out, hA3.out.st.trans k4.out⟩
end
end Go.Proofs.YtlmojhlacfjmaaaGreat

namespace Go.Proofs.YtlmojhlacfjmaaaGreat
section
open Go.RowKit
set_option maxRecDepth 100000
set_option linter.unusedVariables false

set_option maxHeartbeats 3200000 in
theorem rbody_100 (b : Nat) (xs : List UInt8) (e : Nat) (m : M) (vN vQ : Value) (d : ByteArray) (w : World) (hm : MOk m) (hf : RFew m) (hx : xs.length ≤ 1000) (h : RA0 w b m vN vQ d xs e) (ht : m.ty = 100) :
  Calls Tryz.prog 26 #[.pointer (some ⟨b, 0, none⟩), .agg (m.rcells vN vQ d)] w (RGood b (xs ++ ([.msize, .version] : List Slot).flatMap (Slot.r m)) ((([.msize, .version] : List Slot).map (Slot.re m)).foldl firstE e) w) := by
 obtain ⟨W, hW⟩ : ∃ W, W = w.alloc (.cells (m.rcells vN vQ d) 46) := ⟨_, rfl⟩
 have hA := hid (show RA w W b w.heap.size m vN vQ d xs e by rw [hW]; exact h.start)
 have c0 : W.cell? ⟨w.heap.size, 0, none⟩ = some (.int .u8 100) := by rw [hA.out.cell 0]; show some (Value.int .u8 (m.ty : Int)) = _; rw [ht]; rfl
 replace h := hid h
 clear ht
 have e_msize : IntKind.u64.wrap (m.msize : Int) = (m.msize : Int) := IntWalk.u64_in _ (by have := hm.msize; omega)
 simp only [M.rcells, M.cells] at hW ⊢
 go_enter Tryz.func26, Tryz.ntmps26
 have c2 : W.cell? ⟨w.heap.size, 2, none⟩ = some (.int .u32 (m.msize : Int)) := hA.out.cell 2
 go_wp2_with (rw [← hW]; replace hW := hid hW)
 try (rw [← hW]; replace hW := hid hW)
 refine (ra_num4 m.msize (by have := hm.msize; omega) (by omega) hA.out).mono ?_
 rintro en w0 ⟨rfl, hA0⟩
 replace hA0 := hid hA0
 have l0 := hid (show (xs ++ Slot.r m .msize).length ≤ 32000 by have h1 := hf.len .msize; simp only [List.length_append] at *; omega)
 clear c0 c2
 have c3 : w0.cell? ⟨w.heap.size, 3, none⟩ = some (.string m.version) := hA0.out.cell 3
 go_wp2_with fail
 refine (ra_text m.version (by have := hf.few.version; omega) (by have h3 := l0.out; simp only [Slot.r] at h3; omega) hA0.out).mono ?_
 rintro en w1 ⟨rfl, hA1⟩
 replace hA1 := hid hA1
 have l1 := hid (show ((xs ++ Slot.r m .msize) ++ Slot.r m .version).length ≤ 63000 by have h1 := hf.len .version; have h2 := l0.out; simp only [List.length_append] at *; omega)
 clear c3
 go_wp2_with fail
 go_end0
 exact ⟨rfl, by have h9 := hA1.out.out; simpa [Slot.r, Slot.re, firstE_zero] using h9, hA1.out.st⟩
set_option maxHeartbeats 3200000 in
theorem rbody_101 (b : Nat) (xs : List UInt8) (e : Nat) (m : M) (vN vQ : Value) (d : ByteArray) (w : World) (hm : MOk m) (hf : RFew m) (hx : xs.length ≤ 1000) (h : RA0 w b m vN vQ d xs e) (ht : m.ty = 101) :
  Calls Tryz.prog 26 #[.pointer (some ⟨b, 0, none⟩), .agg (m.rcells vN vQ d)] w (RGood b (xs ++ ([.msize, .version] : List Slot).flatMap (Slot.r m)) ((([.msize, .version] : List Slot).map (Slot.re m)).foldl firstE e) w) := by
 obtain ⟨W, hW⟩ : ∃ W, W = w.alloc (.cells (m.rcells vN vQ d) 46) := ⟨_, rfl⟩
 have hA := hid (show RA w W b w.heap.size m vN vQ d xs e by rw [hW]; exact h.start)
 have c0 : W.cell? ⟨w.heap.size, 0, none⟩ = some (.int .u8 101) := by rw [hA.out.cell 0]; show some (Value.int .u8 (m.ty : Int)) = _; rw [ht]; rfl
 replace h := hid h
 clear ht
 have e_msize : IntKind.u64.wrap (m.msize : Int) = (m.msize : Int) := IntWalk.u64_in _ (by have := hm.msize; omega)
 simp only [M.rcells, M.cells] at hW ⊢
 go_enter Tryz.func26, Tryz.ntmps26
 have c2 : W.cell? ⟨w.heap.size, 2, none⟩ = some (.int .u32 (m.msize : Int)) := hA.out.cell 2
 go_wp2_with (rw [← hW]; replace hW := hid hW)
 try (rw [← hW]; replace hW := hid hW)
 refine (ra_num4 m.msize (by have := hm.msize; omega) (by omega) hA.out).mono ?_
 rintro en w0 ⟨rfl, hA0⟩
 replace hA0 := hid hA0
 have l0 := hid (show (xs ++ Slot.r m .msize).length ≤ 32000 by have h1 := hf.len .msize; simp only [List.length_append] at *; omega)
 clear c0 c2
 have c3 : w0.cell? ⟨w.heap.size, 3, none⟩ = some (.string m.version) := hA0.out.cell 3
 go_wp2_with fail
 refine (ra_text m.version (by have := hf.few.version; omega) (by have h3 := l0.out; simp only [Slot.r] at h3; omega) hA0.out).mono ?_
 rintro en w1 ⟨rfl, hA1⟩
 replace hA1 := hid hA1
 have l1 := hid (show ((xs ++ Slot.r m .msize) ++ Slot.r m .version).length ≤ 63000 by have h1 := hf.len .version; have h2 := l0.out; simp only [List.length_append] at *; omega)
 clear c3
 go_wp2_with fail
 go_end0
 exact ⟨rfl, by have h9 := hA1.out.out; simpa [Slot.r, Slot.re, firstE_zero] using h9, hA1.out.st⟩
set_option maxHeartbeats 3200000 in
theorem rbody_102 (b : Nat) (xs : List UInt8) (e : Nat) (m : M) (vN vQ : Value) (d : ByteArray) (w : World) (hm : MOk m) (hf : RFew m) (hx : xs.length ≤ 1000) (h : RA0 w b m vN vQ d xs e) (ht : m.ty = 102) :
  Calls Tryz.prog 26 #[.pointer (some ⟨b, 0, none⟩), .agg (m.rcells vN vQ d)] w (RGood b (xs ++ ([.afid, .uname, .aname] : List Slot).flatMap (Slot.r m)) ((([.afid, .uname, .aname] : List Slot).map (Slot.re m)).foldl firstE e) w) := by
 obtain ⟨W, hW⟩ : ∃ W, W = w.alloc (.cells (m.rcells vN vQ d) 46) := ⟨_, rfl⟩
 have hA := hid (show RA w W b w.heap.size m vN vQ d xs e by rw [hW]; exact h.start)
 have c0 : W.cell? ⟨w.heap.size, 0, none⟩ = some (.int .u8 102) := by rw [hA.out.cell 0]; show some (Value.int .u8 (m.ty : Int)) = _; rw [ht]; rfl
 replace h := hid h
 clear ht
 have e_afid : IntKind.u64.wrap (m.afid : Int) = (m.afid : Int) := IntWalk.u64_in _ (by have := hm.afid; omega)
 simp only [M.rcells, M.cells] at hW ⊢
 go_enter Tryz.func26, Tryz.ntmps26
 have c5 : W.cell? ⟨w.heap.size, 5, none⟩ = some (.int .u32 (m.afid : Int)) := hA.out.cell 5
 go_wp2_with (rw [← hW]; replace hW := hid hW)
 try (rw [← hW]; replace hW := hid hW)
 refine (ra_num4 m.afid (by have := hm.afid; omega) (by omega) hA.out).mono ?_
 rintro en w0 ⟨rfl, hA0⟩
 replace hA0 := hid hA0
 have l0 := hid (show (xs ++ Slot.r m .afid).length ≤ 32000 by have h1 := hf.len .afid; simp only [List.length_append] at *; omega)
 clear c0 c5
 have c7 : w0.cell? ⟨w.heap.size, 7, none⟩ = some (.string m.uname) := hA0.out.cell 7
 go_wp2_with fail
 refine (ra_text m.uname (by have := hf.few.uname; omega) (by have h3 := l0.out; simp only [Slot.r] at h3; omega) hA0.out).mono ?_
 rintro en w1 ⟨rfl, hA1⟩
 replace hA1 := hid hA1
 have l1 := hid (show ((xs ++ Slot.r m .afid) ++ Slot.r m .uname).length ≤ 63000 by have h1 := hf.len .uname; have h2 := l0.out; simp only [List.length_append] at *; omega)
 clear c7
 have c8 : w1.cell? ⟨w.heap.size, 8, none⟩ = some (.string m.aname) := hA1.out.cell 8
 go_wp2_with fail
 refine (ra_text m.aname (by have := hf.few.aname; omega) (by have h3 := l1.out; simp only [Slot.r] at h3; omega) hA1.out).mono ?_
 rintro en w2 ⟨rfl, hA2⟩
 replace hA2 := hid hA2
 have l2 := hid (show (((xs ++ Slot.r m .afid) ++ Slot.r m .uname) ++ Slot.r m .aname).length ≤ 94000 by have h1 := hf.len .aname; have h2 := l1.out; simp only [List.length_append] at *; omega)
 clear c8
 go_wp2_with fail
 go_end0
 exact ⟨rfl, by have h9 := hA2.out.out; simpa [Slot.r, Slot.re, firstE_zero] using h9, hA2.out.st⟩
set_option maxHeartbeats 3200000 in
theorem rbody_103 (b : Nat) (xs : List UInt8) (e : Nat) (m : M) (vN vQ : Value) (d : ByteArray) (w : World) (hm : MOk m) (hf : RFew m) (hx : xs.length ≤ 1000) (h : RA0 w b m vN vQ d xs e) (ht : m.ty = 103) :
  Calls Tryz.prog 26 #[.pointer (some ⟨b, 0, none⟩), .agg (m.rcells vN vQ d)] w (RGood b (xs ++ ([.qid] : List Slot).flatMap (Slot.r m)) ((([.qid] : List Slot).map (Slot.re m)).foldl firstE e) w) := by
 obtain ⟨W, hW⟩ : ∃ W, W = w.alloc (.cells (m.rcells vN vQ d) 46) := ⟨_, rfl⟩
 have hA := hid (show RA w W b w.heap.size m vN vQ d xs e by rw [hW]; exact h.start)
 have c0 : W.cell? ⟨w.heap.size, 0, none⟩ = some (.int .u8 103) := by rw [hA.out.cell 0]; show some (Value.int .u8 (m.ty : Int)) = _; rw [ht]; rfl
 replace h := hid h
 clear ht
 simp only [M.rcells, M.cells] at hW ⊢
 go_enter Tryz.func26, Tryz.ntmps26
 have c13 : W.cell? ⟨w.heap.size, 13, none⟩ = some (.int .u8 (m.qid.t : Int)) := hA.out.cell 13
 have c14 : W.cell? ⟨w.heap.size, 14, none⟩ = some (.int .u32 (m.qid.v : Int)) := hA.out.cell 14
 have c15 : W.cell? ⟨w.heap.size, 15, none⟩ = some (.int .u64 (m.qid.p : Int)) := hA.out.cell 15
 go_wp2_with (rw [← hW]; replace hW := hid hW)
 try (rw [← hW]; replace hW := hid hW)
 refine (ra_qid m.qid hm.qid (by omega) hA.out).mono ?_
 rintro en w0 ⟨rfl, hA0⟩
 replace hA0 := hid hA0
 have l0 := hid (show (xs ++ Slot.r m .qid).length ≤ 32000 by have h1 := hf.len .qid; simp only [List.length_append] at *; omega)
 clear c0 c13 c14 c15
 go_wp2_with fail
 go_end0
 exact ⟨rfl, by have h9 := hA0.out.out; simpa [Slot.r, Slot.re, firstE_zero] using h9, hA0.out.st⟩
set_option maxHeartbeats 3200000 in
theorem rbody_104 (b : Nat) (xs : List UInt8) (e : Nat) (m : M) (vN vQ : Value) (d : ByteArray) (w : World) (hm : MOk m) (hf : RFew m) (hx : xs.length ≤ 1000) (h : RA0 w b m vN vQ d xs e) (ht : m.ty = 104) :
  Calls Tryz.prog 26 #[.pointer (some ⟨b, 0, none⟩), .agg (m.rcells vN vQ d)] w (RGood b (xs ++ ([.fid, .afid, .uname, .aname] : List Slot).flatMap (Slot.r m)) ((([.fid, .afid, .uname, .aname] : List Slot).map (Slot.re m)).foldl firstE e) w) := by
 obtain ⟨W, hW⟩ : ∃ W, W = w.alloc (.cells (m.rcells vN vQ d) 46) := ⟨_, rfl⟩
 have hA := hid (show RA w W b w.heap.size m vN vQ d xs e by rw [hW]; exact h.start)
 have c0 : W.cell? ⟨w.heap.size, 0, none⟩ = some (.int .u8 104) := by rw [hA.out.cell 0]; show some (Value.int .u8 (m.ty : Int)) = _; rw [ht]; rfl
 replace h := hid h
 clear ht
 have e_fid : IntKind.u64.wrap (m.fid : Int) = (m.fid : Int) := IntWalk.u64_in _ (by have := hm.fid; omega)
 have e_afid : IntKind.u64.wrap (m.afid : Int) = (m.afid : Int) := IntWalk.u64_in _ (by have := hm.afid; omega)
 simp only [M.rcells, M.cells] at hW ⊢
 go_enter Tryz.func26, Tryz.ntmps26
 have c4 : W.cell? ⟨w.heap.size, 4, none⟩ = some (.int .u32 (m.fid : Int)) := hA.out.cell 4
 go_wp2_with (rw [← hW]; replace hW := hid hW)
 try (rw [← hW]; replace hW := hid hW)
 refine (ra_num4 m.fid (by have := hm.fid; omega) (by omega) hA.out).mono ?_
 rintro en w0 ⟨rfl, hA0⟩
 replace hA0 := hid hA0
 have l0 := hid (show (xs ++ Slot.r m .fid).length ≤ 32000 by have h1 := hf.len .fid; simp only [List.length_append] at *; omega)
 clear c0 c4
 have c5 : w0.cell? ⟨w.heap.size, 5, none⟩ = some (.int .u32 (m.afid : Int)) := hA0.out.cell 5
 go_wp2_with fail
 refine (ra_num4 m.afid (by have := hm.afid; omega) (by have h3 := l0.out; simp only [Slot.r] at h3; omega) hA0.out).mono ?_
 rintro en w1 ⟨rfl, hA1⟩
 replace hA1 := hid hA1
 have l1 := hid (show ((xs ++ Slot.r m .fid) ++ Slot.r m .afid).length ≤ 63000 by have h1 := hf.len .afid; have h2 := l0.out; simp only [List.length_append] at *; omega)
 clear c5
 have c7 : w1.cell? ⟨w.heap.size, 7, none⟩ = some (.string m.uname) := hA1.out.cell 7
 go_wp2_with fail
 refine (ra_text m.uname (by have := hf.few.uname; omega) (by have h3 := l1.out; simp only [Slot.r] at h3; omega) hA1.out).mono ?_
 rintro en w2 ⟨rfl, hA2⟩
 replace hA2 := hid hA2
 have l2 := hid (show (((xs ++ Slot.r m .fid) ++ Slot.r m .afid) ++ Slot.r m .uname).length ≤ 94000 by have h1 := hf.len .uname; have h2 := l1.out; simp only [List.length_append] at *; omega)
 clear c7
 have c8 : w2.cell? ⟨w.heap.size, 8, none⟩ = some (.string m.aname) := hA2.out.cell 8
 go_wp2_with fail
 refine (ra_text m.aname (by have := hf.few.aname; omega) (by have h3 := l2.out; simp only [Slot.r] at h3; omega) hA2.out).mono ?_
 rintro en w3 ⟨rfl, hA3⟩
 replace hA3 := hid hA3
 have l3 := hid (show ((((xs ++ Slot.r m .fid) ++ Slot.r m .afid) ++ Slot.r m .uname) ++ Slot.r m .aname).length ≤ 125000 by have h1 := hf.len .aname; have h2 := l2.out; simp only [List.length_append] at *; omega)
 clear c8
 go_wp2_with fail
 go_end0
 exact ⟨rfl, by have h9 := hA3.out.out; simpa [Slot.r, Slot.re, firstE_zero] using h9, hA3.out.st⟩
set_option maxHeartbeats 3200000 in
theorem rbody_105 (b : Nat) (xs : List UInt8) (e : Nat) (m : M) (vN vQ : Value) (d : ByteArray) (w : World) (hm : MOk m) (hf : RFew m) (hx : xs.length ≤ 1000) (h : RA0 w b m vN vQ d xs e) (ht : m.ty = 105) :
  Calls Tryz.prog 26 #[.pointer (some ⟨b, 0, none⟩), .agg (m.rcells vN vQ d)] w (RGood b (xs ++ ([.qid] : List Slot).flatMap (Slot.r m)) ((([.qid] : List Slot).map (Slot.re m)).foldl firstE e) w) := by
 obtain ⟨W, hW⟩ : ∃ W, W = w.alloc (.cells (m.rcells vN vQ d) 46) := ⟨_, rfl⟩
 have hA := hid (show RA w W b w.heap.size m vN vQ d xs e by rw [hW]; exact h.start)
 have c0 : W.cell? ⟨w.heap.size, 0, none⟩ = some (.int .u8 105) := by rw [hA.out.cell 0]; show some (Value.int .u8 (m.ty : Int)) = _; rw [ht]; rfl
 replace h := hid h
 clear ht
 simp only [M.rcells, M.cells] at hW ⊢
 go_enter Tryz.func26, Tryz.ntmps26
 have c13 : W.cell? ⟨w.heap.size, 13, none⟩ = some (.int .u8 (m.qid.t : Int)) := hA.out.cell 13
 have c14 : W.cell? ⟨w.heap.size, 14, none⟩ = some (.int .u32 (m.qid.v : Int)) := hA.out.cell 14
 have c15 : W.cell? ⟨w.heap.size, 15, none⟩ = some (.int .u64 (m.qid.p : Int)) := hA.out.cell 15
 go_wp2_with (rw [← hW]; replace hW := hid hW)
 try (rw [← hW]; replace hW := hid hW)
 refine (ra_qid m.qid hm.qid (by omega) hA.out).mono ?_
 rintro en w0 ⟨rfl, hA0⟩
 replace hA0 := hid hA0
 have l0 := hid (show (xs ++ Slot.r m .qid).length ≤ 32000 by have h1 := hf.len .qid; simp only [List.length_append] at *; omega)
 clear c0 c13 c14 c15
 go_wp2_with fail
 go_end0
 exact ⟨rfl, by have h9 := hA0.out.out; simpa [Slot.r, Slot.re, firstE_zero] using h9, hA0.out.st⟩
set_option maxHeartbeats 3200000 in
theorem rbody_107 (b : Nat) (xs : List UInt8) (e : Nat) (m : M) (vN vQ : Value) (d : ByteArray) (w : World) (hm : MOk m) (hf : RFew m) (hx : xs.length ≤ 1000) (h : RA0 w b m vN vQ d xs e) (ht : m.ty = 107) :
  Calls Tryz.prog 26 #[.pointer (some ⟨b, 0, none⟩), .agg (m.rcells vN vQ d)] w (RGood b (xs ++ ([.ename] : List Slot).flatMap (Slot.r m)) ((([.ename] : List Slot).map (Slot.re m)).foldl firstE e) w) := by
 obtain ⟨W, hW⟩ : ∃ W, W = w.alloc (.cells (m.rcells vN vQ d) 46) := ⟨_, rfl⟩
 have hA := hid (show RA w W b w.heap.size m vN vQ d xs e by rw [hW]; exact h.start)
 have c0 : W.cell? ⟨w.heap.size, 0, none⟩ = some (.int .u8 107) := by rw [hA.out.cell 0]; show some (Value.int .u8 (m.ty : Int)) = _; rw [ht]; rfl
 replace h := hid h
 clear ht
 simp only [M.rcells, M.cells] at hW ⊢
 go_enter Tryz.func26, Tryz.ntmps26
 have c9 : W.cell? ⟨w.heap.size, 9, none⟩ = some (.string m.ename) := hA.out.cell 9
 go_wp2_with (rw [← hW]; replace hW := hid hW)
 try (rw [← hW]; replace hW := hid hW)
 refine (ra_text m.ename (by have := hf.few.ename; omega) (by omega) hA.out).mono ?_
 rintro en w0 ⟨rfl, hA0⟩
 replace hA0 := hid hA0
 have l0 := hid (show (xs ++ Slot.r m .ename).length ≤ 32000 by have h1 := hf.len .ename; simp only [List.length_append] at *; omega)
 clear c0 c9
 go_wp2_with fail
 go_end0
 exact ⟨rfl, by have h9 := hA0.out.out; simpa [Slot.r, Slot.re, firstE_zero] using h9, hA0.out.st⟩
set_option maxHeartbeats 3200000 in
theorem rbody_108 (b : Nat) (xs : List UInt8) (e : Nat) (m : M) (vN vQ : Value) (d : ByteArray) (w : World) (hm : MOk m) (hf : RFew m) (hx : xs.length ≤ 1000) (h : RA0 w b m vN vQ d xs e) (ht : m.ty = 108) :
  Calls Tryz.prog 26 #[.pointer (some ⟨b, 0, none⟩), .agg (m.rcells vN vQ d)] w (RGood b (xs ++ ([.old] : List Slot).flatMap (Slot.r m)) ((([.old] : List Slot).map (Slot.re m)).foldl firstE e) w) := by
 obtain ⟨W, hW⟩ : ∃ W, W = w.alloc (.cells (m.rcells vN vQ d) 46) := ⟨_, rfl⟩
 have hA := hid (show RA w W b w.heap.size m vN vQ d xs e by rw [hW]; exact h.start)
 have c0 : W.cell? ⟨w.heap.size, 0, none⟩ = some (.int .u8 108) := by rw [hA.out.cell 0]; show some (Value.int .u8 (m.ty : Int)) = _; rw [ht]; rfl
 replace h := hid h
 clear ht
 have e_old : IntKind.u64.wrap (m.old : Int) = (m.old : Int) := IntWalk.u64_in _ (by have := hm.old; omega)
 simp only [M.rcells, M.cells] at hW ⊢
 go_enter Tryz.func26, Tryz.ntmps26
 have c10 : W.cell? ⟨w.heap.size, 10, none⟩ = some (.int .u16 (m.old : Int)) := hA.out.cell 10
 go_wp2_with (rw [← hW]; replace hW := hid hW)
 try (rw [← hW]; replace hW := hid hW)
 refine (ra_num2 m.old (by have := hm.old; omega) (by omega) hA.out).mono ?_
 rintro en w0 ⟨rfl, hA0⟩
 replace hA0 := hid hA0
 have l0 := hid (show (xs ++ Slot.r m .old).length ≤ 32000 by have h1 := hf.len .old; simp only [List.length_append] at *; omega)
 clear c0 c10
 go_wp2_with fail
 go_end0
 exact ⟨rfl, by have h9 := hA0.out.out; simpa [Slot.r, Slot.re, firstE_zero] using h9, hA0.out.st⟩
set_option maxHeartbeats 3200000 in
theorem rbody_109 (b : Nat) (xs : List UInt8) (e : Nat) (m : M) (vN vQ : Value) (d : ByteArray) (w : World) (hm : MOk m) (hf : RFew m) (hx : xs.length ≤ 1000) (h : RA0 w b m vN vQ d xs e) (ht : m.ty = 109) :
  Calls Tryz.prog 26 #[.pointer (some ⟨b, 0, none⟩), .agg (m.rcells vN vQ d)] w (RGood b (xs ++ ([] : List Slot).flatMap (Slot.r m)) ((([] : List Slot).map (Slot.re m)).foldl firstE e) w) := by
 obtain ⟨W, hW⟩ : ∃ W, W = w.alloc (.cells (m.rcells vN vQ d) 46) := ⟨_, rfl⟩
 have hA := hid (show RA w W b w.heap.size m vN vQ d xs e by rw [hW]; exact h.start)
 have c0 : W.cell? ⟨w.heap.size, 0, none⟩ = some (.int .u8 109) := by rw [hA.out.cell 0]; show some (Value.int .u8 (m.ty : Int)) = _; rw [ht]; rfl
 replace h := hid h
 clear ht
 simp only [M.rcells, M.cells] at hW ⊢
 go_enter Tryz.func26, Tryz.ntmps26
 go_wp2_with (rw [← hW]; replace hW := hid hW)
 try (rw [← hW]; replace hW := hid hW)
 go_end0
 exact ⟨rfl, by have := hA.out.out; simpa using this, hA.out.st⟩
set_option maxHeartbeats 3200000 in
theorem rbody_112 (b : Nat) (xs : List UInt8) (e : Nat) (m : M) (vN vQ : Value) (d : ByteArray) (w : World) (hm : MOk m) (hf : RFew m) (hx : xs.length ≤ 1000) (h : RA0 w b m vN vQ d xs e) (ht : m.ty = 112) :
  Calls Tryz.prog 26 #[.pointer (some ⟨b, 0, none⟩), .agg (m.rcells vN vQ d)] w (RGood b (xs ++ ([.fid, .mode] : List Slot).flatMap (Slot.r m)) ((([.fid, .mode] : List Slot).map (Slot.re m)).foldl firstE e) w) := by
 obtain ⟨W, hW⟩ : ∃ W, W = w.alloc (.cells (m.rcells vN vQ d) 46) := ⟨_, rfl⟩
 have hA := hid (show RA w W b w.heap.size m vN vQ d xs e by rw [hW]; exact h.start)
 have c0 : W.cell? ⟨w.heap.size, 0, none⟩ = some (.int .u8 112) := by rw [hA.out.cell 0]; show some (Value.int .u8 (m.ty : Int)) = _; rw [ht]; rfl
 replace h := hid h
 clear ht
 have e_fid : IntKind.u64.wrap (m.fid : Int) = (m.fid : Int) := IntWalk.u64_in _ (by have := hm.fid; omega)
 have e_mode : IntKind.u64.wrap (m.mode : Int) = (m.mode : Int) := IntWalk.u64_in _ (by have := hm.mode; omega)
 simp only [M.rcells, M.cells] at hW ⊢
 go_enter Tryz.func26, Tryz.ntmps26
 have c4 : W.cell? ⟨w.heap.size, 4, none⟩ = some (.int .u32 (m.fid : Int)) := hA.out.cell 4
 go_wp2_with (rw [← hW]; replace hW := hid hW)
 try (rw [← hW]; replace hW := hid hW)
 refine (ra_num4 m.fid (by have := hm.fid; omega) (by omega) hA.out).mono ?_
 rintro en w0 ⟨rfl, hA0⟩
 replace hA0 := hid hA0
 have l0 := hid (show (xs ++ Slot.r m .fid).length ≤ 32000 by have h1 := hf.len .fid; simp only [List.length_append] at *; omega)
 clear c0 c4
 have c17 : w0.cell? ⟨w.heap.size, 17, none⟩ = some (.int .u8 (m.mode : Int)) := hA0.out.cell 17
 go_wp2_with fail
 refine (ra_num1 m.mode (by have := hm.mode; omega) (by have h3 := l0.out; simp only [Slot.r] at h3; omega) hA0.out).mono ?_
 rintro en w1 ⟨rfl, hA1⟩
 replace hA1 := hid hA1
 have l1 := hid (show ((xs ++ Slot.r m .fid) ++ Slot.r m .mode).length ≤ 63000 by have h1 := hf.len .mode; have h2 := l0.out; simp only [List.length_append] at *; omega)
 clear c17
 go_wp2_with fail
 go_end0
 exact ⟨rfl, by have h9 := hA1.out.out; simpa [Slot.r, Slot.re, firstE_zero] using h9, hA1.out.st⟩
set_option maxHeartbeats 3200000 in
theorem rbody_113 (b : Nat) (xs : List UInt8) (e : Nat) (m : M) (vN vQ : Value) (d : ByteArray) (w : World) (hm : MOk m) (hf : RFew m) (hx : xs.length ≤ 1000) (h : RA0 w b m vN vQ d xs e) (ht : m.ty = 113) :
  Calls Tryz.prog 26 #[.pointer (some ⟨b, 0, none⟩), .agg (m.rcells vN vQ d)] w (RGood b (xs ++ ([.qid, .iounit] : List Slot).flatMap (Slot.r m)) ((([.qid, .iounit] : List Slot).map (Slot.re m)).foldl firstE e) w) := by
 obtain ⟨W, hW⟩ : ∃ W, W = w.alloc (.cells (m.rcells vN vQ d) 46) := ⟨_, rfl⟩
 have hA := hid (show RA w W b w.heap.size m vN vQ d xs e by rw [hW]; exact h.start)
 have c0 : W.cell? ⟨w.heap.size, 0, none⟩ = some (.int .u8 113) := by rw [hA.out.cell 0]; show some (Value.int .u8 (m.ty : Int)) = _; rw [ht]; rfl
 replace h := hid h
 clear ht
 have e_iounit : IntKind.u64.wrap (m.iounit : Int) = (m.iounit : Int) := IntWalk.u64_in _ (by have := hm.iounit; omega)
 simp only [M.rcells, M.cells] at hW ⊢
 go_enter Tryz.func26, Tryz.ntmps26
 have c13 : W.cell? ⟨w.heap.size, 13, none⟩ = some (.int .u8 (m.qid.t : Int)) := hA.out.cell 13
 have c14 : W.cell? ⟨w.heap.size, 14, none⟩ = some (.int .u32 (m.qid.v : Int)) := hA.out.cell 14
 have c15 : W.cell? ⟨w.heap.size, 15, none⟩ = some (.int .u64 (m.qid.p : Int)) := hA.out.cell 15
 go_wp2_with (rw [← hW]; replace hW := hid hW)
 try (rw [← hW]; replace hW := hid hW)
 refine (ra_qid m.qid hm.qid (by omega) hA.out).mono ?_
 rintro en w0 ⟨rfl, hA0⟩
 replace hA0 := hid hA0
 have l0 := hid (show (xs ++ Slot.r m .qid).length ≤ 32000 by have h1 := hf.len .qid; simp only [List.length_append] at *; omega)
 clear c0 c13 c14 c15
 have c16 : w0.cell? ⟨w.heap.size, 16, none⟩ = some (.int .u32 (m.iounit : Int)) := hA0.out.cell 16
 go_wp2_with fail
 refine (ra_num4 m.iounit (by have := hm.iounit; omega) (by have h3 := l0.out; simp only [Slot.r] at h3; omega) hA0.out).mono ?_
 rintro en w1 ⟨rfl, hA1⟩
 replace hA1 := hid hA1
 have l1 := hid (show ((xs ++ Slot.r m .qid) ++ Slot.r m .iounit).length ≤ 63000 by have h1 := hf.len .iounit; have h2 := l0.out; simp only [List.length_append] at *; omega)
 clear c16
 go_wp2_with fail
 go_end0
 exact ⟨rfl, by have h9 := hA1.out.out; simpa [Slot.r, Slot.re, firstE_zero] using h9, hA1.out.st⟩
set_option maxHeartbeats 3200000 in
theorem rbody_114 (b : Nat) (xs : List UInt8) (e : Nat) (m : M) (vN vQ : Value) (d : ByteArray) (w : World) (hm : MOk m) (hf : RFew m) (hx : xs.length ≤ 1000) (h : RA0 w b m vN vQ d xs e) (ht : m.ty = 114) :
  Calls Tryz.prog 26 #[.pointer (some ⟨b, 0, none⟩), .agg (m.rcells vN vQ d)] w (RGood b (xs ++ ([.fid, .name, .perm, .mode] : List Slot).flatMap (Slot.r m)) ((([.fid, .name, .perm, .mode] : List Slot).map (Slot.re m)).foldl firstE e) w) := by
 obtain ⟨W, hW⟩ : ∃ W, W = w.alloc (.cells (m.rcells vN vQ d) 46) := ⟨_, rfl⟩
 have hA := hid (show RA w W b w.heap.size m vN vQ d xs e by rw [hW]; exact h.start)
 have c0 : W.cell? ⟨w.heap.size, 0, none⟩ = some (.int .u8 114) := by rw [hA.out.cell 0]; show some (Value.int .u8 (m.ty : Int)) = _; rw [ht]; rfl
 replace h := hid h
 clear ht
 have e_fid : IntKind.u64.wrap (m.fid : Int) = (m.fid : Int) := IntWalk.u64_in _ (by have := hm.fid; omega)
 have e_perm : IntKind.u64.wrap (m.perm : Int) = (m.perm : Int) := IntWalk.u64_in _ (by have := hm.perm; omega)
 have e_mode : IntKind.u64.wrap (m.mode : Int) = (m.mode : Int) := IntWalk.u64_in _ (by have := hm.mode; omega)
 simp only [M.rcells, M.cells] at hW ⊢
 go_enter Tryz.func26, Tryz.ntmps26
 have c4 : W.cell? ⟨w.heap.size, 4, none⟩ = some (.int .u32 (m.fid : Int)) := hA.out.cell 4
 go_wp2_with (rw [← hW]; replace hW := hid hW)
 try (rw [← hW]; replace hW := hid hW)
 refine (ra_num4 m.fid (by have := hm.fid; omega) (by omega) hA.out).mono ?_
 rintro en w0 ⟨rfl, hA0⟩
 replace hA0 := hid hA0
 have l0 := hid (show (xs ++ Slot.r m .fid).length ≤ 32000 by have h1 := hf.len .fid; simp only [List.length_append] at *; omega)
 clear c0 c4
 have c19 : w0.cell? ⟨w.heap.size, 19, none⟩ = some (.string m.name) := hA0.out.cell 19
 go_wp2_with fail
 refine (ra_text m.name (by have := hf.few.name; omega) (by have h3 := l0.out; simp only [Slot.r] at h3; omega) hA0.out).mono ?_
 rintro en w1 ⟨rfl, hA1⟩
 replace hA1 := hid hA1
 have l1 := hid (show ((xs ++ Slot.r m .fid) ++ Slot.r m .name).length ≤ 63000 by have h1 := hf.len .name; have h2 := l0.out; simp only [List.length_append] at *; omega)
 clear c19
 have c18 : w1.cell? ⟨w.heap.size, 18, none⟩ = some (.int .u32 (m.perm : Int)) := hA1.out.cell 18
 go_wp2_with fail
 refine (ra_num4 m.perm (by have := hm.perm; omega) (by have h3 := l1.out; simp only [Slot.r] at h3; omega) hA1.out).mono ?_
 rintro en w2 ⟨rfl, hA2⟩
 replace hA2 := hid hA2
 have l2 := hid (show (((xs ++ Slot.r m .fid) ++ Slot.r m .name) ++ Slot.r m .perm).length ≤ 94000 by have h1 := hf.len .perm; have h2 := l1.out; simp only [List.length_append] at *; omega)
 clear c18
 have c17 : w2.cell? ⟨w.heap.size, 17, none⟩ = some (.int .u8 (m.mode : Int)) := hA2.out.cell 17
 go_wp2_with fail
 refine (ra_num1 m.mode (by have := hm.mode; omega) (by have h3 := l2.out; simp only [Slot.r] at h3; omega) hA2.out).mono ?_
 rintro en w3 ⟨rfl, hA3⟩
 replace hA3 := hid hA3
 have l3 := hid (show ((((xs ++ Slot.r m .fid) ++ Slot.r m .name) ++ Slot.r m .perm) ++ Slot.r m .mode).length ≤ 125000 by have h1 := hf.len .mode; have h2 := l2.out; simp only [List.length_append] at *; omega)
 clear c17
 go_wp2_with fail
 go_end0
 exact ⟨rfl, by have h9 := hA3.out.out; simpa [Slot.r, Slot.re, firstE_zero] using h9, hA3.out.st⟩
set_option maxHeartbeats 3200000 in
theorem rbody_115 (b : Nat) (xs : List UInt8) (e : Nat) (m : M) (vN vQ : Value) (d : ByteArray) (w : World) (hm : MOk m) (hf : RFew m) (hx : xs.length ≤ 1000) (h : RA0 w b m vN vQ d xs e) (ht : m.ty = 115) :
  Calls Tryz.prog 26 #[.pointer (some ⟨b, 0, none⟩), .agg (m.rcells vN vQ d)] w (RGood b (xs ++ ([.qid, .iounit] : List Slot).flatMap (Slot.r m)) ((([.qid, .iounit] : List Slot).map (Slot.re m)).foldl firstE e) w) := by
 obtain ⟨W, hW⟩ : ∃ W, W = w.alloc (.cells (m.rcells vN vQ d) 46) := ⟨_, rfl⟩
 have hA := hid (show RA w W b w.heap.size m vN vQ d xs e by rw [hW]; exact h.start)
 have c0 : W.cell? ⟨w.heap.size, 0, none⟩ = some (.int .u8 115) := by rw [hA.out.cell 0]; show some (Value.int .u8 (m.ty : Int)) = _; rw [ht]; rfl
 replace h := hid h
 clear ht
 have e_iounit : IntKind.u64.wrap (m.iounit : Int) = (m.iounit : Int) := IntWalk.u64_in _ (by have := hm.iounit; omega)
 simp only [M.rcells, M.cells] at hW ⊢
 go_enter Tryz.func26, Tryz.ntmps26
 have c13 : W.cell? ⟨w.heap.size, 13, none⟩ = some (.int .u8 (m.qid.t : Int)) := hA.out.cell 13
 have c14 : W.cell? ⟨w.heap.size, 14, none⟩ = some (.int .u32 (m.qid.v : Int)) := hA.out.cell 14
 have c15 : W.cell? ⟨w.heap.size, 15, none⟩ = some (.int .u64 (m.qid.p : Int)) := hA.out.cell 15
 go_wp2_with (rw [← hW]; replace hW := hid hW)
 try (rw [← hW]; replace hW := hid hW)
 refine (ra_qid m.qid hm.qid (by omega) hA.out).mono ?_
 rintro en w0 ⟨rfl, hA0⟩
 replace hA0 := hid hA0
 have l0 := hid (show (xs ++ Slot.r m .qid).length ≤ 32000 by have h1 := hf.len .qid; simp only [List.length_append] at *; omega)
 clear c0 c13 c14 c15
 have c16 : w0.cell? ⟨w.heap.size, 16, none⟩ = some (.int .u32 (m.iounit : Int)) := hA0.out.cell 16
 go_wp2_with fail
 refine (ra_num4 m.iounit (by have := hm.iounit; omega) (by have h3 := l0.out; simp only [Slot.r] at h3; omega) hA0.out).mono ?_
 rintro en w1 ⟨rfl, hA1⟩
 replace hA1 := hid hA1
 have l1 := hid (show ((xs ++ Slot.r m .qid) ++ Slot.r m .iounit).length ≤ 63000 by have h1 := hf.len .iounit; have h2 := l0.out; simp only [List.length_append] at *; omega)
 clear c16
 go_wp2_with fail
 go_end0
 exact ⟨rfl, by have h9 := hA1.out.out; simpa [Slot.r, Slot.re, firstE_zero] using h9, hA1.out.st⟩
set_option maxHeartbeats 3200000 in
theorem rbody_116 (b : Nat) (xs : List UInt8) (e : Nat) (m : M) (vN vQ : Value) (d : ByteArray) (w : World) (hm : MOk m) (hf : RFew m) (hx : xs.length ≤ 1000) (h : RA0 w b m vN vQ d xs e) (ht : m.ty = 116) :
  Calls Tryz.prog 26 #[.pointer (some ⟨b, 0, none⟩), .agg (m.rcells vN vQ d)] w (RGood b (xs ++ ([.fid, .offset, .count] : List Slot).flatMap (Slot.r m)) ((([.fid, .offset, .count] : List Slot).map (Slot.re m)).foldl firstE e) w) := by
 obtain ⟨W, hW⟩ : ∃ W, W = w.alloc (.cells (m.rcells vN vQ d) 46) := ⟨_, rfl⟩
 have hA := hid (show RA w W b w.heap.size m vN vQ d xs e by rw [hW]; exact h.start)
 have c0 : W.cell? ⟨w.heap.size, 0, none⟩ = some (.int .u8 116) := by rw [hA.out.cell 0]; show some (Value.int .u8 (m.ty : Int)) = _; rw [ht]; rfl
 replace h := hid h
 clear ht
 have e_fid : IntKind.u64.wrap (m.fid : Int) = (m.fid : Int) := IntWalk.u64_in _ (by have := hm.fid; omega)
 have e_count : IntKind.u64.wrap (m.count : Int) = (m.count : Int) := IntWalk.u64_in _ (by have := hm.count; omega)
 simp only [M.rcells, M.cells] at hW ⊢
 go_enter Tryz.func26, Tryz.ntmps26
 have c4 : W.cell? ⟨w.heap.size, 4, none⟩ = some (.int .u32 (m.fid : Int)) := hA.out.cell 4
 go_wp2_with (rw [← hW]; replace hW := hid hW)
 try (rw [← hW]; replace hW := hid hW)
 refine (ra_num4 m.fid (by have := hm.fid; omega) (by omega) hA.out).mono ?_
 rintro en w0 ⟨rfl, hA0⟩
 replace hA0 := hid hA0
 have l0 := hid (show (xs ++ Slot.r m .fid).length ≤ 32000 by have h1 := hf.len .fid; simp only [List.length_append] at *; omega)
 clear c0 c4
 have c20 : w0.cell? ⟨w.heap.size, 20, none⟩ = some (.int .u64 (m.offset : Int)) := hA0.out.cell 20
 go_wp2_with fail
 refine (ra_num8 m.offset (by have := hm.offset; omega) (by have h3 := l0.out; simp only [Slot.r] at h3; omega) hA0.out).mono ?_
 rintro en w1 ⟨rfl, hA1⟩
 replace hA1 := hid hA1
 have l1 := hid (show ((xs ++ Slot.r m .fid) ++ Slot.r m .offset).length ≤ 63000 by have h1 := hf.len .offset; have h2 := l0.out; simp only [List.length_append] at *; omega)
 clear c20
 have c21 : w1.cell? ⟨w.heap.size, 21, none⟩ = some (.int .u32 (m.count : Int)) := hA1.out.cell 21
 go_wp2_with fail
 refine (ra_num4 m.count (by have := hm.count; omega) (by have h3 := l1.out; simp only [Slot.r] at h3; omega) hA1.out).mono ?_
 rintro en w2 ⟨rfl, hA2⟩
 replace hA2 := hid hA2
 have l2 := hid (show (((xs ++ Slot.r m .fid) ++ Slot.r m .offset) ++ Slot.r m .count).length ≤ 94000 by have h1 := hf.len .count; have h2 := l1.out; simp only [List.length_append] at *; omega)
 clear c21
 go_wp2_with fail
 go_end0
 exact ⟨rfl, by have h9 := hA2.out.out; simpa [Slot.r, Slot.re, firstE_zero] using h9, hA2.out.st⟩
set_option maxHeartbeats 3200000 in
theorem rbody_119 (b : Nat) (xs : List UInt8) (e : Nat) (m : M) (vN vQ : Value) (d : ByteArray) (w : World) (hm : MOk m) (hf : RFew m) (hx : xs.length ≤ 1000) (h : RA0 w b m vN vQ d xs e) (ht : m.ty = 119) :
  Calls Tryz.prog 26 #[.pointer (some ⟨b, 0, none⟩), .agg (m.rcells vN vQ d)] w (RGood b (xs ++ ([.count] : List Slot).flatMap (Slot.r m)) ((([.count] : List Slot).map (Slot.re m)).foldl firstE e) w) := by
 obtain ⟨W, hW⟩ : ∃ W, W = w.alloc (.cells (m.rcells vN vQ d) 46) := ⟨_, rfl⟩
 have hA := hid (show RA w W b w.heap.size m vN vQ d xs e by rw [hW]; exact h.start)
 have c0 : W.cell? ⟨w.heap.size, 0, none⟩ = some (.int .u8 119) := by rw [hA.out.cell 0]; show some (Value.int .u8 (m.ty : Int)) = _; rw [ht]; rfl
 replace h := hid h
 clear ht
 have e_count : IntKind.u64.wrap (m.count : Int) = (m.count : Int) := IntWalk.u64_in _ (by have := hm.count; omega)
 simp only [M.rcells, M.cells] at hW ⊢
 go_enter Tryz.func26, Tryz.ntmps26
 have c21 : W.cell? ⟨w.heap.size, 21, none⟩ = some (.int .u32 (m.count : Int)) := hA.out.cell 21
 go_wp2_with (rw [← hW]; replace hW := hid hW)
 try (rw [← hW]; replace hW := hid hW)
 refine (ra_num4 m.count (by have := hm.count; omega) (by omega) hA.out).mono ?_
 rintro en w0 ⟨rfl, hA0⟩
 replace hA0 := hid hA0
 have l0 := hid (show (xs ++ Slot.r m .count).length ≤ 32000 by have h1 := hf.len .count; simp only [List.length_append] at *; omega)
 clear c0 c21
 go_wp2_with fail
 go_end0
 exact ⟨rfl, by have h9 := hA0.out.out; simpa [Slot.r, Slot.re, firstE_zero] using h9, hA0.out.st⟩
set_option maxHeartbeats 3200000 in
theorem rbody_120 (b : Nat) (xs : List UInt8) (e : Nat) (m : M) (vN vQ : Value) (d : ByteArray) (w : World) (hm : MOk m) (hf : RFew m) (hx : xs.length ≤ 1000) (h : RA0 w b m vN vQ d xs e) (ht : m.ty = 120) :
  Calls Tryz.prog 26 #[.pointer (some ⟨b, 0, none⟩), .agg (m.rcells vN vQ d)] w (RGood b (xs ++ ([.fid] : List Slot).flatMap (Slot.r m)) ((([.fid] : List Slot).map (Slot.re m)).foldl firstE e) w) := by
 obtain ⟨W, hW⟩ : ∃ W, W = w.alloc (.cells (m.rcells vN vQ d) 46) := ⟨_, rfl⟩
 have hA := hid (show RA w W b w.heap.size m vN vQ d xs e by rw [hW]; exact h.start)
 have c0 : W.cell? ⟨w.heap.size, 0, none⟩ = some (.int .u8 120) := by rw [hA.out.cell 0]; show some (Value.int .u8 (m.ty : Int)) = _; rw [ht]; rfl
 replace h := hid h
 clear ht
 have e_fid : IntKind.u64.wrap (m.fid : Int) = (m.fid : Int) := IntWalk.u64_in _ (by have := hm.fid; omega)
 simp only [M.rcells, M.cells] at hW ⊢
 go_enter Tryz.func26, Tryz.ntmps26
 have c4 : W.cell? ⟨w.heap.size, 4, none⟩ = some (.int .u32 (m.fid : Int)) := hA.out.cell 4
 go_wp2_with (rw [← hW]; replace hW := hid hW)
 try (rw [← hW]; replace hW := hid hW)
 refine (ra_num4 m.fid (by have := hm.fid; omega) (by omega) hA.out).mono ?_
 rintro en w0 ⟨rfl, hA0⟩
 replace hA0 := hid hA0
 have l0 := hid (show (xs ++ Slot.r m .fid).length ≤ 32000 by have h1 := hf.len .fid; simp only [List.length_append] at *; omega)
 clear c0 c4
 go_wp2_with fail
 go_end0
 exact ⟨rfl, by have h9 := hA0.out.out; simpa [Slot.r, Slot.re, firstE_zero] using h9, hA0.out.st⟩
set_option maxHeartbeats 3200000 in
theorem rbody_121 (b : Nat) (xs : List UInt8) (e : Nat) (m : M) (vN vQ : Value) (d : ByteArray) (w : World) (hm : MOk m) (hf : RFew m) (hx : xs.length ≤ 1000) (h : RA0 w b m vN vQ d xs e) (ht : m.ty = 121) :
  Calls Tryz.prog 26 #[.pointer (some ⟨b, 0, none⟩), .agg (m.rcells vN vQ d)] w (RGood b (xs ++ ([] : List Slot).flatMap (Slot.r m)) ((([] : List Slot).map (Slot.re m)).foldl firstE e) w) := by
 obtain ⟨W, hW⟩ : ∃ W, W = w.alloc (.cells (m.rcells vN vQ d) 46) := ⟨_, rfl⟩
 have hA := hid (show RA w W b w.heap.size m vN vQ d xs e by rw [hW]; exact h.start)
 have c0 : W.cell? ⟨w.heap.size, 0, none⟩ = some (.int .u8 121) := by rw [hA.out.cell 0]; show some (Value.int .u8 (m.ty : Int)) = _; rw [ht]; rfl
 replace h := hid h
 clear ht
 simp only [M.rcells, M.cells] at hW ⊢
 go_enter Tryz.func26, Tryz.ntmps26
 go_wp2_with (rw [← hW]; replace hW := hid hW)
 try (rw [← hW]; replace hW := hid hW)
 go_end0
 exact ⟨rfl, by have := hA.out.out; simpa using this, hA.out.st⟩
set_option maxHeartbeats 3200000 in
theorem rbody_122 (b : Nat) (xs : List UInt8) (e : Nat) (m : M) (vN vQ : Value) (d : ByteArray) (w : World) (hm : MOk m) (hf : RFew m) (hx : xs.length ≤ 1000) (h : RA0 w b m vN vQ d xs e) (ht : m.ty = 122) :
  Calls Tryz.prog 26 #[.pointer (some ⟨b, 0, none⟩), .agg (m.rcells vN vQ d)] w (RGood b (xs ++ ([.fid] : List Slot).flatMap (Slot.r m)) ((([.fid] : List Slot).map (Slot.re m)).foldl firstE e) w) := by
 obtain ⟨W, hW⟩ : ∃ W, W = w.alloc (.cells (m.rcells vN vQ d) 46) := ⟨_, rfl⟩
 have hA := hid (show RA w W b w.heap.size m vN vQ d xs e by rw [hW]; exact h.start)
 have c0 : W.cell? ⟨w.heap.size, 0, none⟩ = some (.int .u8 122) := by rw [hA.out.cell 0]; show some (Value.int .u8 (m.ty : Int)) = _; rw [ht]; rfl
 replace h := hid h
 clear ht
 have e_fid : IntKind.u64.wrap (m.fid : Int) = (m.fid : Int) := IntWalk.u64_in _ (by have := hm.fid; omega)
 simp only [M.rcells, M.cells] at hW ⊢
 go_enter Tryz.func26, Tryz.ntmps26
 have c4 : W.cell? ⟨w.heap.size, 4, none⟩ = some (.int .u32 (m.fid : Int)) := hA.out.cell 4
 go_wp2_with (rw [← hW]; replace hW := hid hW)
 try (rw [← hW]; replace hW := hid hW)
 refine (ra_num4 m.fid (by have := hm.fid; omega) (by omega) hA.out).mono ?_
 rintro en w0 ⟨rfl, hA0⟩
 replace hA0 := hid hA0
 have l0 := hid (show (xs ++ Slot.r m .fid).length ≤ 32000 by have h1 := hf.len .fid; simp only [List.length_append] at *; omega)
 clear c0 c4
 go_wp2_with fail
 go_end0
 exact ⟨rfl, by have h9 := hA0.out.out; simpa [Slot.r, Slot.re, firstE_zero] using h9, hA0.out.st⟩
set_option maxHeartbeats 3200000 in
theorem rbody_123 (b : Nat) (xs : List UInt8) (e : Nat) (m : M) (vN vQ : Value) (d : ByteArray) (w : World) (hm : MOk m) (hf : RFew m) (hx : xs.length ≤ 1000) (h : RA0 w b m vN vQ d xs e) (ht : m.ty = 123) :
  Calls Tryz.prog 26 #[.pointer (some ⟨b, 0, none⟩), .agg (m.rcells vN vQ d)] w (RGood b (xs ++ ([] : List Slot).flatMap (Slot.r m)) ((([] : List Slot).map (Slot.re m)).foldl firstE e) w) := by
 obtain ⟨W, hW⟩ : ∃ W, W = w.alloc (.cells (m.rcells vN vQ d) 46) := ⟨_, rfl⟩
 have hA := hid (show RA w W b w.heap.size m vN vQ d xs e by rw [hW]; exact h.start)
 have c0 : W.cell? ⟨w.heap.size, 0, none⟩ = some (.int .u8 123) := by rw [hA.out.cell 0]; show some (Value.int .u8 (m.ty : Int)) = _; rw [ht]; rfl
 replace h := hid h
 clear ht
 simp only [M.rcells, M.cells] at hW ⊢
 go_enter Tryz.func26, Tryz.ntmps26
 go_wp2_with (rw [← hW]; replace hW := hid hW)
 try (rw [← hW]; replace hW := hid hW)
 go_end0
 exact ⟨rfl, by have := hA.out.out; simpa using this, hA.out.st⟩
set_option maxHeartbeats 3200000 in
theorem rbody_124 (b : Nat) (xs : List UInt8) (e : Nat) (m : M) (vN vQ : Value) (d : ByteArray) (w : World) (hm : MOk m) (hf : RFew m) (hx : xs.length ≤ 1000) (h : RA0 w b m vN vQ d xs e) (ht : m.ty = 124) :
  Calls Tryz.prog 26 #[.pointer (some ⟨b, 0, none⟩), .agg (m.rcells vN vQ d)] w (RGood b (xs ++ ([.fid] : List Slot).flatMap (Slot.r m)) ((([.fid] : List Slot).map (Slot.re m)).foldl firstE e) w) := by
 obtain ⟨W, hW⟩ : ∃ W, W = w.alloc (.cells (m.rcells vN vQ d) 46) := ⟨_, rfl⟩
 have hA := hid (show RA w W b w.heap.size m vN vQ d xs e by rw [hW]; exact h.start)
 have c0 : W.cell? ⟨w.heap.size, 0, none⟩ = some (.int .u8 124) := by rw [hA.out.cell 0]; show some (Value.int .u8 (m.ty : Int)) = _; rw [ht]; rfl
 replace h := hid h
 clear ht
 have e_fid : IntKind.u64.wrap (m.fid : Int) = (m.fid : Int) := IntWalk.u64_in _ (by have := hm.fid; omega)
 simp only [M.rcells, M.cells] at hW ⊢
 go_enter Tryz.func26, Tryz.ntmps26
 have c4 : W.cell? ⟨w.heap.size, 4, none⟩ = some (.int .u32 (m.fid : Int)) := hA.out.cell 4
 go_wp2_with (rw [← hW]; replace hW := hid hW)
 try (rw [← hW]; replace hW := hid hW)
 refine (ra_num4 m.fid (by have := hm.fid; omega) (by omega) hA.out).mono ?_
 rintro en w0 ⟨rfl, hA0⟩
 replace hA0 := hid hA0
 have l0 := hid (show (xs ++ Slot.r m .fid).length ≤ 32000 by have h1 := hf.len .fid; simp only [List.length_append] at *; omega)
 clear c0 c4
 go_wp2_with fail
 go_end0
 exact ⟨rfl, by have h9 := hA0.out.out; simpa [Slot.r, Slot.re, firstE_zero] using h9, hA0.out.st⟩
set_option maxHeartbeats 3200000 in
theorem rbody_125 (b : Nat) (xs : List UInt8) (e : Nat) (m : M) (vN vQ : Value) (d : ByteArray) (w : World) (hm : MOk m) (hf : RFew m) (hx : xs.length ≤ 1000) (h : RA0 w b m vN vQ d xs e) (ht : m.ty = 125) :
  Calls Tryz.prog 26 #[.pointer (some ⟨b, 0, none⟩), .agg (m.rcells vN vQ d)] w (RGood b (xs ++ ([.stat] : List Slot).flatMap (Slot.r m)) ((([.stat] : List Slot).map (Slot.re m)).foldl firstE e) w) := by
 obtain ⟨W, hW⟩ : ∃ W, W = w.alloc (.cells (m.rcells vN vQ d) 46) := ⟨_, rfl⟩
 have hA := hid (show RA w W b w.heap.size m vN vQ d xs e by rw [hW]; exact h.start)
 have c0 : W.cell? ⟨w.heap.size, 0, none⟩ = some (.int .u8 125) := by rw [hA.out.cell 0]; show some (Value.int .u8 (m.ty : Int)) = _; rw [ht]; rfl
 replace h := hid h
 clear ht
 simp only [M.rcells, M.cells] at hW ⊢
 go_enter Tryz.func26, Tryz.ntmps26
 have c23 : W.cell? ⟨w.heap.size, 23, none⟩ = some (.int .u16 (m.stat.kind : Int)) := hA.out.cell 23
 have c24 : W.cell? ⟨w.heap.size, 24, none⟩ = some (.int .u32 (m.stat.dev : Int)) := hA.out.cell 24
 have c25 : W.cell? ⟨w.heap.size, 25, none⟩ = some (.int .u8 (m.stat.qt : Int)) := hA.out.cell 25
 have c26 : W.cell? ⟨w.heap.size, 26, none⟩ = some (.int .u32 (m.stat.qv : Int)) := hA.out.cell 26
 have c27 : W.cell? ⟨w.heap.size, 27, none⟩ = some (.int .u64 (m.stat.qp : Int)) := hA.out.cell 27
 have c28 : W.cell? ⟨w.heap.size, 28, none⟩ = some (.int .u32 (m.stat.mode : Int)) := hA.out.cell 28
 have c29 : W.cell? ⟨w.heap.size, 29, none⟩ = some (.int .u32 (m.stat.atm : Int)) := hA.out.cell 29
 have c30 : W.cell? ⟨w.heap.size, 30, none⟩ = some (.int .u32 (m.stat.mtm : Int)) := hA.out.cell 30
 have c31 : W.cell? ⟨w.heap.size, 31, none⟩ = some (.int .u64 (m.stat.len : Int)) := hA.out.cell 31
 have c32 : W.cell? ⟨w.heap.size, 32, none⟩ = some (.string m.stat.name) := hA.out.cell 32
 have c33 : W.cell? ⟨w.heap.size, 33, none⟩ = some (.string m.stat.uid) := hA.out.cell 33
 have c34 : W.cell? ⟨w.heap.size, 34, none⟩ = some (.string m.stat.gid) := hA.out.cell 34
 have c35 : W.cell? ⟨w.heap.size, 35, none⟩ = some (.string m.stat.muid) := hA.out.cell 35
 go_wp2_with (rw [← hW]; replace hW := hid hW)
 try (rw [← hW]; replace hW := hid hW)
 refine (ra_stat m.stat hm.stat hf.few.stat (by omega) hA.out).mono ?_
 rintro en w0 ⟨rfl, hA0⟩
 replace hA0 := hid hA0
 have l0 := hid (show (xs ++ Slot.r m .stat).length ≤ 32000 by have h1 := hf.len .stat; simp only [List.length_append] at *; omega)
 clear c0 c23 c24 c25 c26 c27 c28 c29 c30 c31 c32 c33 c34 c35
 go_wp2_with fail
 go_end0
 exact ⟨rfl, by have h9 := hA0.out.out; simpa [Slot.r, Slot.re, firstE_zero] using h9, hA0.out.st⟩
set_option maxHeartbeats 3200000 in
theorem rbody_126 (b : Nat) (xs : List UInt8) (e : Nat) (m : M) (vN vQ : Value) (d : ByteArray) (w : World) (hm : MOk m) (hf : RFew m) (hx : xs.length ≤ 1000) (h : RA0 w b m vN vQ d xs e) (ht : m.ty = 126) :
  Calls Tryz.prog 26 #[.pointer (some ⟨b, 0, none⟩), .agg (m.rcells vN vQ d)] w (RGood b (xs ++ ([.fid, .stat] : List Slot).flatMap (Slot.r m)) ((([.fid, .stat] : List Slot).map (Slot.re m)).foldl firstE e) w) := by
 obtain ⟨W, hW⟩ : ∃ W, W = w.alloc (.cells (m.rcells vN vQ d) 46) := ⟨_, rfl⟩
 have hA := hid (show RA w W b w.heap.size m vN vQ d xs e by rw [hW]; exact h.start)
 have c0 : W.cell? ⟨w.heap.size, 0, none⟩ = some (.int .u8 126) := by rw [hA.out.cell 0]; show some (Value.int .u8 (m.ty : Int)) = _; rw [ht]; rfl
 replace h := hid h
 clear ht
 have e_fid : IntKind.u64.wrap (m.fid : Int) = (m.fid : Int) := IntWalk.u64_in _ (by have := hm.fid; omega)
 simp only [M.rcells, M.cells] at hW ⊢
 go_enter Tryz.func26, Tryz.ntmps26
 have c4 : W.cell? ⟨w.heap.size, 4, none⟩ = some (.int .u32 (m.fid : Int)) := hA.out.cell 4
 go_wp2_with (rw [← hW]; replace hW := hid hW)
 try (rw [← hW]; replace hW := hid hW)
 refine (ra_num4 m.fid (by have := hm.fid; omega) (by omega) hA.out).mono ?_
 rintro en w0 ⟨rfl, hA0⟩
 replace hA0 := hid hA0
 have l0 := hid (show (xs ++ Slot.r m .fid).length ≤ 32000 by have h1 := hf.len .fid; simp only [List.length_append] at *; omega)
 clear c0 c4
 have c23 : w0.cell? ⟨w.heap.size, 23, none⟩ = some (.int .u16 (m.stat.kind : Int)) := hA0.out.cell 23
 have c24 : w0.cell? ⟨w.heap.size, 24, none⟩ = some (.int .u32 (m.stat.dev : Int)) := hA0.out.cell 24
 have c25 : w0.cell? ⟨w.heap.size, 25, none⟩ = some (.int .u8 (m.stat.qt : Int)) := hA0.out.cell 25
 have c26 : w0.cell? ⟨w.heap.size, 26, none⟩ = some (.int .u32 (m.stat.qv : Int)) := hA0.out.cell 26
 have c27 : w0.cell? ⟨w.heap.size, 27, none⟩ = some (.int .u64 (m.stat.qp : Int)) := hA0.out.cell 27
 have c28 : w0.cell? ⟨w.heap.size, 28, none⟩ = some (.int .u32 (m.stat.mode : Int)) := hA0.out.cell 28
 have c29 : w0.cell? ⟨w.heap.size, 29, none⟩ = some (.int .u32 (m.stat.atm : Int)) := hA0.out.cell 29
 have c30 : w0.cell? ⟨w.heap.size, 30, none⟩ = some (.int .u32 (m.stat.mtm : Int)) := hA0.out.cell 30
 have c31 : w0.cell? ⟨w.heap.size, 31, none⟩ = some (.int .u64 (m.stat.len : Int)) := hA0.out.cell 31
 have c32 : w0.cell? ⟨w.heap.size, 32, none⟩ = some (.string m.stat.name) := hA0.out.cell 32
 have c33 : w0.cell? ⟨w.heap.size, 33, none⟩ = some (.string m.stat.uid) := hA0.out.cell 33
 have c34 : w0.cell? ⟨w.heap.size, 34, none⟩ = some (.string m.stat.gid) := hA0.out.cell 34
 have c35 : w0.cell? ⟨w.heap.size, 35, none⟩ = some (.string m.stat.muid) := hA0.out.cell 35
 go_wp2_with fail
 refine (ra_stat m.stat hm.stat hf.few.stat (by have h3 := l0.out; simp only [Slot.r] at h3; omega) hA0.out).mono ?_
 rintro en w1 ⟨rfl, hA1⟩
 replace hA1 := hid hA1
 have l1 := hid (show ((xs ++ Slot.r m .fid) ++ Slot.r m .stat).length ≤ 63000 by have h1 := hf.len .stat; have h2 := l0.out; simp only [List.length_append] at *; omega)
 clear c23 c24 c25 c26 c27 c28 c29 c30 c31 c32 c33 c34 c35
 go_wp2_with fail
 go_end0
 exact ⟨rfl, by have h9 := hA1.out.out; simpa [Slot.r, Slot.re, firstE_zero] using h9, hA1.out.st⟩
set_option maxHeartbeats 3200000 in
theorem rbody_127 (b : Nat) (xs : List UInt8) (e : Nat) (m : M) (vN vQ : Value) (d : ByteArray) (w : World) (hm : MOk m) (hf : RFew m) (hx : xs.length ≤ 1000) (h : RA0 w b m vN vQ d xs e) (ht : m.ty = 127) :
  Calls Tryz.prog 26 #[.pointer (some ⟨b, 0, none⟩), .agg (m.rcells vN vQ d)] w (RGood b (xs ++ ([] : List Slot).flatMap (Slot.r m)) ((([] : List Slot).map (Slot.re m)).foldl firstE e) w) := by
 obtain ⟨W, hW⟩ : ∃ W, W = w.alloc (.cells (m.rcells vN vQ d) 46) := ⟨_, rfl⟩
 have hA := hid (show RA w W b w.heap.size m vN vQ d xs e by rw [hW]; exact h.start)
 have c0 : W.cell? ⟨w.heap.size, 0, none⟩ = some (.int .u8 127) := by rw [hA.out.cell 0]; show some (Value.int .u8 (m.ty : Int)) = _; rw [ht]; rfl
 replace h := hid h
 clear ht
 simp only [M.rcells, M.cells] at hW ⊢
 go_enter Tryz.func26, Tryz.ntmps26
 go_wp2_with (rw [← hW]; replace hW := hid hW)
 try (rw [← hW]; replace hW := hid hW)
 go_end0
 exact ⟨rfl, by have := hA.out.out; simpa using this, hA.out.st⟩
end
end Go.Proofs.YtlmojhlacfjmaaaGreat
