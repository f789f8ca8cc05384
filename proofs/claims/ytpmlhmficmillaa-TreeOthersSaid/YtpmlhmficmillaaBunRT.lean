/- The reference's touched, padded, Reap. Conditions: what TrOk asks.
The reference's Take. Conditions: what TrOk asks.
The reference's Cut. Conditions: what TrOk asks. -/
import Derived.Test.YtpmlhmficmillaaRNd3Z
import Derived.Test.YtpmlhmficmillaaBunTB
import Derived.Test.YtpmlhmficmillaaRNd1Z
namespace Go.Proofs.Ytpmlhmficmillaa
section
open Go.RowKit
set_option maxRecDepth 100000
set_option linter.unusedVariables false

structure TrR (p q r x : Nat) (v : Value) (l : List Nod) (n : Nod) (w : World) : Prop where
  tr : w.heap[p]? = some (.cells #[.int .u64 (x : Int), v] 32 (0, 0))
  nd : w.heap[q]? = some (.cells n.cells 71 (0, 0))
  res : w.heap[r]? = some (.cells #[.int .u64 0, .slice none 0 0] 32 (0, 0))
  row : NodsAt w v l
theorem TrR.below {p q r x : Nat} {v : Value} {l : List Nod} {n : Nod} {w w' : World} (h : TrR p q r x v l n w) (hb : Below w.heap.size w w') : TrR p q r x v l n w' :=
  ⟨(hb.block _ (lt_of_block h.tr)).trans h.tr, (hb.block _ (lt_of_block h.nd)).trans h.nd, (hb.block _ (lt_of_block h.res)).trans h.res, h.row.below hb⟩
theorem TrR.t0 {p q r x : Nat} {v : Value} {l : List Nod} {n : Nod} {w : World} (h : TrR p q r x v l n w) : w.cell? ⟨p, 0, none⟩ = some (.int .u64 (x : Int)) := block_cell h.tr 0
theorem TrR.t1 {p q r x : Nat} {v : Value} {l : List Nod} {n : Nod} {w : World} (h : TrR p q r x v l n w) : w.cell? ⟨p, 1, none⟩ = some v := block_cell h.tr 1
theorem TrR.put {p q r x : Nat} {v : Value} {l : List Nod} {n n2 : Nod} {w : World} (h : TrR p q r x v l n w) (hpq : p ≠ q) (hrq : r ≠ q) (i : Nat) (u : Value) (hc : n.cells.setIfInBounds i u = n2.cells) (hrow : NodsAt (w.setCell ⟨q, i, none⟩ u) v l) : TrR p q r x v l n2 (w.setCell ⟨q, i, none⟩ u) :=
  ⟨(block_set_other (by show p ≠ q; exact hpq)).trans h.tr, by rw [← hc]; exact block_set h.nd i u, (block_set_other (by show r ≠ q; exact hrq)).trans h.res, hrow⟩
def boxR (w : World) (n : Nod) : World := (w.alloc (.cells zeroNod.cells 71)).setRow w.heap.size n.cells
theorem boxR_heap (w : World) (n : Nod) : (boxR w n).heap[w.heap.size]? = some (.cells n.cells 71 (0, 0)) := setRow_heap _ _ _ _ _ _ (heap_alloc_new _ _)
theorem boxR_below (w : World) (n : Nod) : Below w.heap.size w (boxR w n) := below_setRow ((Below.refl _ _).alloc (Nat.le_refl _) _) (Nat.le_refl _) _
theorem rown {w : World} {v : Value} {l : List Nod} (h : NodsAt w v l) (hne : l ≠ []) : ∀ k, v.ownBlock = some k → k < w.heap.size := by
  intro k hk
  obtain ⟨a, c, rfl, _, _⟩ := h.form
  obtain ⟨b, o, ha, hr⟩ := h.range 0 (List.length_pos_iff.2 hne)
  subst ha
  simp [Value.ownBlock] at hk
  subst hk
  exact World.block_lt_of_cell? _ _ (hr 0 _ (by rw [nod_cells]; rfl))
def RBool (w : World) (r : Tr × Bool) (e : Ending) (w' : World) : Prop := ∃ v', e = .returned (.tuple #[.agg #[.int .u64 (r.1.next : Int), v'], .bool r.2]) ∧ NodsAt w' v' r.1.n ∧ Below w.heap.size w w'
def RErr (w : World) (r : Tr × Nat) (e : Ending) (w' : World) : Prop := ∃ v', e = .returned (.tuple #[.agg #[.int .u64 (r.1.next : Int), v'], .int .i64 (r.2 : Int)]) ∧ NodsAt w' v' r.1.n ∧ Below w.heap.size w w'
def RTxt (w : World) (r : Tr × ByteArray × Nat) (e : Ending) (w' : World) : Prop := ∃ v', e = .returned (.tuple #[.agg #[.int .u64 (r.1.next : Int), v'], .string r.2.1, .int .i64 (r.2.2 : Int)]) ∧ NodsAt w' v' r.1.n ∧ Below w.heap.size w w'
set_option maxHeartbeats 1600000 in
theorem rtouched_any (n : Nod) (who : ByteArray) (now : Nat) (w : World) (hn : NodOk n) :
    Calls Try.prog 71 #[.agg n.cells, .string who, .int .u32 (now : Int)] w fun e w' => e = .returned (.agg (touchN n who now).cells) ∧ Below w.heap.size w w' := by
  obtain ⟨W, hW⟩ : ∃ W, W = (w.alloc (.cells n.cells 71)).alloc (.cells zeroNod.cells 71) := ⟨_, rfl⟩
  have hb0 : Below w.heap.size w W := by rw [hW]; exact ((Below.refl w.heap.size w).alloc (Nat.le_refl _) _).alloc (by simp) _
  have hx0 : W.heap[w.heap.size]? = some (.cells n.cells 71 (0, 0)) := by rw [hW, heap_alloc_old _ _ (by simp), heap_alloc_new]
  have hy0 : W.heap[w.heap.size + 1]? = some (.cells zeroNod.cells 71 (0, 0)) := by rw [hW]; exact heap2 _ _ _
  have c1 : W.cell? ⟨w.heap.size, 1, none⟩ = some (.int .u32 (n.vers : Int)) := block_cell hx0 1
  have c4 : W.cell? ⟨w.heap.size, 4, none⟩ = some (.int .u32 (n.mtm : Int)) := block_cell hx0 4
  have c8 : W.cell? ⟨w.heap.size, 8, none⟩ = some (.string n.muid) := block_cell hx0 8
  have f1 : W.frozen? ⟨w.heap.size, 1, none⟩ = false := block_free hx0 1
  have f4 : W.frozen? ⟨w.heap.size, 4, none⟩ = false := block_free hx0 4
  have f8 : W.frozen? ⟨w.heap.size, 8, none⟩ = false := block_free hx0 8
  obtain ⟨m, hm⟩ : ∃ m, m = (n.vers + 1) % 4294967296 := ⟨_, rfl⟩
  have kw : ((n.vers : Int) + 1) % 4294967296 = (m : Int) := by omega
  obtain ⟨X, hX⟩ : ∃ X, X = ((W.setCell ⟨w.heap.size, 1, none⟩ (.int .u32 (m : Int))).setCell ⟨w.heap.size, 4, none⟩ (.int .u32 (now : Int))).setCell ⟨w.heap.size, 8, none⟩ (.string who) := ⟨_, rfl⟩
  have hXx : Hid (X.heap[w.heap.size]? = some (.cells (touchN n who now).cells 71 (0, 0))) := hid (by rw [hX, hm]; exact block_set (block_set (block_set hx0 1 _) 4 _) 8 _)
  have hXy : Hid (X.heap[w.heap.size + 1]? = some (.cells zeroNod.cells 71 (0, 0))) := hid (by
    rw [hX]
    exact (block_set_other (by show w.heap.size + 1 ≠ w.heap.size; omega)).trans ((block_set_other (by show w.heap.size + 1 ≠ w.heap.size; omega)).trans ((block_set_other (by show w.heap.size + 1 ≠ w.heap.size; omega)).trans hy0)))
  have hXB : Hid (Below w.heap.size w X) := hid (by rw [hX]; exact ((hb0.setCell (p := ⟨w.heap.size, 1, none⟩) (Nat.le_refl _) _).setCell (p := ⟨w.heap.size, 4, none⟩) (Nat.le_refl _) _).setCell (p := ⟨w.heap.size, 8, none⟩) (Nat.le_refl _) _)
  replace hb0 := hid hb0
  rw [zeroNod_cells] at hW
  clear hx0 hy0 hn
  replace hm := hid hm
  go_enter Try.func71, Try.ntmps71
  go_upto_region 1 with (rw [← hW]; replace hW := hid hW)
  try (rw [← hW]; replace hW := hid hW)
  go_upto_region 4 with (rw [← hX]; replace hX := hid hX)
  try (rw [← hX]; replace hX := hid hX)
  clear c1 c4 c8 f1 f4 f8 kw
  go_wp2_with (first
    | (refine wpList_load_row (by rfl) 71 (.tmp 3) (by rfl) w.heap.size (by rfl) 71 (touchN n who now).cells (0, 0) _ hXx.out Try.underlying71 (by rfl) (by kernel_rfl) ?_)
    | (refine wpList_store_row (by rfl) 71 (.tmp 6) (.tmp 15) (by rfl) (w.heap.size + 1) (touchN n who now).cells (by rfl) (by rfl) 71 _ hXy.out (by kernel_rfl) (by kernel_rfl) (nod_one _) ?_))
  refine bodyPost_ret (results_cell_row rfl _ _ (w.heap.size + 1) _ _ _ _ rfl (setRow_heap _ _ _ (touchN n who now).cells _ _ hXy.out) Try.underlying71 rfl (by kernel_rfl)) rfl ?_
  exact ⟨rfl, below_setRow hXB.out (by omega) _⟩
set_option maxHeartbeats 1600000 in
theorem rpadded_any (s : ByteArray) (n : Nat) (w : World) (hs : s.size ≤ 1000000) (hn : n ≤ 1000000) :
    Calls Try.prog 72 #[.string s, .int .i64 (n : Int)] w fun e w' => e = .returned (.string (strL (padL s.data.toList n))) ∧ Below w.heap.size w w' := by
  by_cases h : n ≤ s.size
  · have hE := hid (extract_pad h)
    have k1 : decide ((n : Int) ≤ (s.size : Int)) = true := by simp; omega
    go_enter Try.func72, Try.ntmps72
    go_wp2_with fail
    go_ret
    exact ⟨by rw [← hE.out]; rfl, Below.refl _ _⟩
  · have hE := hid (append_pad (s := s) (n := n) (by omega))
    have k1 : decide ((n : Int) ≤ (s.size : Int)) = false := by simp; omega
    obtain ⟨m, hm⟩ : ∃ m, m = n - s.size := ⟨_, rfl⟩
    have km : (n : Int) - (s.size : Int) = (m : Int) := by omega
    have hmk := run_make_row' (P := Try.prog) 53 5 (.int .u8 0) 1 Try.underlying53 (by kernel_rfl) rfl .i64 .i64 m (by omega) (by omega) w
    obtain ⟨X, hX⟩ : ∃ X, X = w.alloc (.cells (madeCells #[.int .u8 0] m) 5) := ⟨_, rfl⟩
    have hB := hid (show Below w.heap.size w X by rw [hX]; exact (Below.refl _ _).alloc (Nat.le_refl _) _)
    have hz : BytesAt X (.slice (some ⟨w.heap.size, 0, none⟩) m m) (List.replicate m 0) := by
      have h := RowAt.of_block (k := 1) (n := m) (show X.heap[w.heap.size]? = some (.cells (madeCells #[.int .u8 0] m) 5 (0, 0)) by rw [hX, heap_alloc_new]) (by simp [madeCells]) (by unfold maxLen; omega)
      rw [toList_madeCells_one] at h
      have e : List.replicate m (Value.int .u8 0) = (List.replicate m (0 : UInt8)).map byteV := by rw [List.map_replicate]; rfl
      rw [e] at h
      unfold BytesAt
      rw [List.length_replicate]; exact h
    have hc := conv_string _ _ _ hz
    obtain ⟨z, hzz⟩ : ∃ z, z = strL (List.replicate m 0) := ⟨_, rfl⟩
    rw [← hzz] at hc
    rw [← hm, ← hzz] at hE
    have hzs : z.size = m := by rw [hzz, strL_size, List.length_replicate]
    have ks : ¬ 9223372036854775807 < s.size + z.size := by omega
    clear hzs
    replace hm := hid hm
    replace hzz := hid hzz
    replace hX := hid hX
    rw [← hX.out] at hmk
    clear hz
    go_enter Try.func72, Try.ntmps72
    go_wp2_with fail
    go_ret
    exact ⟨by rw [← hE.out]; rfl, hB.out⟩
set_option maxHeartbeats 3200000 in
theorem rreap_any (v : Value) (x : Nat) (l : List Nod) (p : Nat) (w : World) (hv : NodsAt w v l) (ht : TrOk l) (hne : l ≠ []) :
    Calls Try.prog 40 #[.agg #[.int .u64 (x : Int), v], .int .u64 (p : Int)] w (RBool w (reapT ⟨x, l⟩ p)) := by
  obtain ⟨a, c, rfl, g1, g2⟩ := hv.form
  unfold maxLen at g2
  have hvo := hid (rown hv hne)
  obtain ⟨W, hW⟩ : ∃ W, W = (w.alloc (.cells #[.int .u64 (x : Int), .slice a l.length c] 32)).alloc (.cells #[.int .u64 0, .slice none 0 0] 32) := ⟨_, rfl⟩
  have hb0 : Below w.heap.size w W := by rw [hW]; exact ((Below.refl w.heap.size w).alloc (Nat.le_refl _) _).alloc (by simp) _
  have hx0 : W.heap[w.heap.size]? = some (.cells #[.int .u64 (x : Int), .slice a l.length c] 32 (0, 0)) := by rw [hW, heap_alloc_old _ _ (by simp), heap_alloc_new]
  have hy0 : W.heap[w.heap.size + 1]? = some (.cells #[.int .u64 0, .slice none 0 0] 32 (0, 0)) := by rw [hW]; exact heap2 _ _ _
  have hfi := hid (rget_any _ x l p W (hv.below hb0) (by have := ht.few; omega))
  have e0 := block_cell hx0 0
  have e1 := block_cell hx0 1
  have hv0 := hid (hv.below hb0)
  replace hb0 := hid hb0
  replace hx0 := hid hx0
  replace hy0 := hid hy0
  go_enter Try.func40, Try.ntmps40
  go_upto_region 1 with (rw [← hW]; replace hW := hid hW)
  try (rw [← hW]; replace hW := hid hW)
  go_wp2_with fail
  refine hfi.out.mono ?_
  rintro e w2 ⟨rfl, hb2⟩
  have hB2 := hid (sn hb0.out hb2)
  have hs2 := hid (lt_of_block ((hb2.block _ (lt_of_block hy0.out)).trans hy0.out))
  obtain ⟨n, hn⟩ : ∃ n, n = getN l p := ⟨_, rfl⟩
  have hnew := hid (heap_alloc_new w2 (.cells zeroNod.cells 71))
  obtain ⟨X, hX⟩ : ∃ W, W = boxR w2 n := ⟨_, rfl⟩
  have hbX : Below w2.heap.size w2 X := by rw [hX]; exact boxR_below _ _
  have hBX := hid (sn hB2.out hbX)
  have hA : TrR w.heap.size w2.heap.size (w.heap.size + 1) x (.slice a l.length c) l n X :=
    ⟨(hbX.block _ (by have := hs2.out; omega)).trans ((hb2.block _ (lt_of_block hx0.out)).trans hx0.out), by rw [hX]; exact boxR_heap _ _, (hbX.block _ hs2.out).trans ((hb2.block _ (lt_of_block hy0.out)).trans hy0.out), (hv0.out.below hb2).below hbX⟩
  have q0 := hA.t0
  have q1 := hA.t1
  unfold boxR at hX
  rw [zeroNod_cells] at hX hnew
  rw [← hn]
  clear hb2 hbX hfi e0 e1 hB2 hx0 hy0 hv0 hb0
  replace hA := hid hA
  replace hn := hid hn
  go_upto_region 2 with (first
    | (rw [← hX]; replace hX := hid hX)
    | (refine wpList_store_row (by rfl) 71 (.tmp 6) (.tmp 12) (by rfl) w2.heap.size n.cells (by rfl) (by rfl) 71 _ hnew.out (by kernel_rfl) (by kernel_rfl) (nod_one n) ?_))
  try (rw [← hX]; replace hX := hid hX)
  clear hnew
  generalize w2.heap.size = z at *
  have q10 : X.cell? ⟨z, 10, none⟩ = some (.bool n.gone) := block_cell hA.out.nd 10
  cases hg : getL l p with
  | none =>
    have hdE := hid (show reapT ⟨x, l⟩ p = (⟨x, l⟩, false) by unfold reapT; rw [hg])
    simp only [Option.isSome_none]
    clear hg
    have hres := hid hA.out.res
    have hlt := hid (lt_of_block hA.out.res)
    have hN := hid (NodsAt.other (w' := X.setRow (w.heap.size + 1) #[.int .u64 (x : Int), .slice a l.length c]) hA.out.row (w.heap.size + 1) (fun e => by have := hvo.out _ e; omega) (by simp) (fun k hk => setRow_other _ _ _ _ hk))
    go_wp2_with (refine wpList_store_row (by rfl) 32 (.tmp 4) (.tmp 21) (by rfl) (w.heap.size + 1) #[.int .u64 (x : Int), .slice a l.length c] (by rfl) (by rfl) 32 _ hres.out (by kernel_rfl) (by kernel_rfl) (by kernel_rfl) ?_)
    refine bodyPost_ret (results_cs rfl _ _ (w.heap.size + 1) _ _ _ _ _ rfl rfl (setRow_heap _ _ _ #[.int .u64 (x : Int), .slice a l.length c] _ _ hres.out) Try.underlying32 rfl (by kernel_rfl)) rfl ?_
    refine ⟨.slice a l.length c, ?_, ?_, below_setRow hBX.out (by omega) _⟩
    · rw [hdE.out]; rfl
    · rw [hdE.out]; exact hN.out
  | some y =>
    have hny : n = y := by rw [hn.out]; unfold getN; rw [hg]; rfl
    subst hny
    simp only [Option.isSome_some]
    cases hgn : n.gone with
    | false =>
      have hdE := hid (show reapT ⟨x, l⟩ p = (⟨x, l⟩, false) by unfold reapT; rw [hg]; simp only; rw [hgn]; rfl)
      rw [hgn] at q10
      clear hg hgn
      have hres := hid hA.out.res
      have hlt := hid (lt_of_block hA.out.res)
      have hN := hid (NodsAt.other (w' := X.setRow (w.heap.size + 1) #[.int .u64 (x : Int), .slice a l.length c]) hA.out.row (w.heap.size + 1) (fun e => by have := hvo.out _ e; omega) (by simp) (fun k hk => setRow_other _ _ _ _ hk))
      go_wp2_with (refine wpList_store_row (by rfl) 32 (.tmp 4) (.tmp 21) (by rfl) (w.heap.size + 1) #[.int .u64 (x : Int), .slice a l.length c] (by rfl) (by rfl) 32 _ hres.out (by kernel_rfl) (by kernel_rfl) (by kernel_rfl) ?_)
      refine bodyPost_ret (results_cs rfl _ _ (w.heap.size + 1) _ _ _ _ _ rfl rfl (setRow_heap _ _ _ #[.int .u64 (x : Int), .slice a l.length c] _ _ hres.out) Try.underlying32 rfl (by kernel_rfl)) rfl ?_
      refine ⟨.slice a l.length c, ?_, ?_, below_setRow hBX.out (by omega) _⟩
      · rw [hdE.out]; rfl
      · rw [hdE.out]; exact hN.out
    | true =>
      have hdE := hid (show reapT ⟨x, l⟩ p = (⟨x, dropL l p⟩, true) by unfold reapT; rw [hg]; simp only; rw [hgn]; rfl)
      rw [hgn] at q10
      have hdrp := hid (rdrop_any _ x l p X hA.out.row (by have := ht.few; omega))
      clear hg hgn
      go_wp2_with fail
      refine hdrp.out.mono ?_
      rintro e w9 ⟨v9, rfl, hv9, hf9, hb9⟩
      have hres := hid (hA.out.below hb9).res
      have hB9 := hid (sn hBX.out hb9)
      have hsz := hid hBX.out.size
      have hlt := hid (lt_of_block hA.out.res)
      have hN := hid (NodsAt.other (w' := w9.setRow (w.heap.size + 1) #[.int .u64 (x : Int), v9]) hv9 (w.heap.size + 1) (fun e => by have := hf9 _ e; have := hlt.out; omega) (by simp) (fun k hk => setRow_other _ _ _ _ hk))
      obtain ⟨a9, c9, rfl, _, _⟩ := hv9.form
      clear hb9 hv9 hf9 q0 q1 q10
      go_wp2_with (refine wpList_store_row (by rfl) 32 (.tmp 4) (.tmp 24) (by rfl) (w.heap.size + 1) #[.int .u64 (x : Int), .slice a9 (dropL l p).length c9] (by rfl) (by rfl) 32 _ hres.out (by kernel_rfl) (by kernel_rfl) (by kernel_rfl) ?_)
      refine bodyPost_ret (results_cs rfl _ _ (w.heap.size + 1) _ _ _ _ _ rfl rfl (setRow_heap _ _ _ #[.int .u64 (x : Int), .slice a9 (dropL l p).length c9] _ _ hres.out) Try.underlying32 rfl (by kernel_rfl)) rfl ?_
      refine ⟨.slice a9 (dropL l p).length c9, ?_, ?_, below_setRow hB9.out (by omega) _⟩
      · rw [hdE.out]; rfl
      · rw [hdE.out]; exact hN.out
end
end Go.Proofs.Ytpmlhmficmillaa

namespace Go.Proofs.Ytpmlhmficmillaa
section
open Go.RowKit
set_option maxRecDepth 100000
set_option linter.unusedVariables false

theorem toListInj2 {s t : ByteArray} (h : s.data.toList = t.data.toList) : s = t := by
  cases s; cases t
  simpa using h
theorem extract_whole (s : ByteArray) : s.extract 0 s.size = s := by
  have : (s.extract 0 s.size).data.toList = s.data.toList := by simp
  exact toListInj2 this
set_option maxHeartbeats 6400000 in
theorem rtake_any (v : Value) (x : Nat) (l : List Nod) (p off k now : Nat) (w : World) (hv : NodsAt w v l) (ht : TrOk l) (hne : l ≠ []) (hoff : off < 18446744073709551616) (hk : k < 4294967296) :
    Calls Try.prog 38 #[.agg #[.int .u64 (x : Int), v], .int .u64 (p : Int), .int .u64 (off : Int), .int .u32 (k : Int), .int .u32 (now : Int)] w (RTxt w (takeT ⟨x, l⟩ p off k now)) := by
  obtain ⟨a, c, rfl, g1, g2⟩ := hv.form
  unfold maxLen at g2
  have hvo := hid (rown hv hne)
  obtain ⟨W, hW⟩ : ∃ W, W = (w.alloc (.cells #[.int .u64 (x : Int), .slice a l.length c] 32)).alloc (.cells #[.int .u64 0, .slice none 0 0] 32) := ⟨_, rfl⟩
  have hb0 : Below w.heap.size w W := by rw [hW]; exact ((Below.refl w.heap.size w).alloc (Nat.le_refl _) _).alloc (by simp) _
  have hx0 : W.heap[w.heap.size]? = some (.cells #[.int .u64 (x : Int), .slice a l.length c] 32 (0, 0)) := by rw [hW, heap_alloc_old _ _ (by simp), heap_alloc_new]
  have hy0 : W.heap[w.heap.size + 1]? = some (.cells #[.int .u64 0, .slice none 0 0] 32 (0, 0)) := by rw [hW]; exact heap2 _ _ _
  have hfi := hid (rget_any _ x l p W (hv.below hb0) (by have := ht.few; omega))
  have e0 := block_cell hx0 0
  have e1 := block_cell hx0 1
  have hv0 := hid (hv.below hb0)
  replace hb0 := hid hb0
  replace hx0 := hid hx0
  replace hy0 := hid hy0
  go_enter Try.func38, Try.ntmps38
  go_upto_region 1 with (rw [← hW]; replace hW := hid hW)
  try (rw [← hW]; replace hW := hid hW)
  go_wp2_with fail
  refine hfi.out.mono ?_
  rintro e w2 ⟨rfl, hb2⟩
  have hB2 := hid (sn hb0.out hb2)
  have hs2 := hid (lt_of_block ((hb2.block _ (lt_of_block hy0.out)).trans hy0.out))
  obtain ⟨n, hn⟩ : ∃ n, n = getN l p := ⟨_, rfl⟩
  have hnew := hid (heap_alloc_new w2 (.cells zeroNod.cells 71))
  obtain ⟨X, hX⟩ : ∃ W, W = boxR w2 n := ⟨_, rfl⟩
  have hbX : Below w2.heap.size w2 X := by rw [hX]; exact boxR_below _ _
  have hBX := hid (sn hB2.out hbX)
  have hA : TrR w.heap.size w2.heap.size (w.heap.size + 1) x (.slice a l.length c) l n X :=
    ⟨(hbX.block _ (by have := hs2.out; omega)).trans ((hb2.block _ (lt_of_block hx0.out)).trans hx0.out), by rw [hX]; exact boxR_heap _ _, (hbX.block _ hs2.out).trans ((hb2.block _ (lt_of_block hy0.out)).trans hy0.out), (hv0.out.below hb2).below hbX⟩
  have q0 := hA.t0
  have q1 := hA.t1
  unfold boxR at hX
  rw [zeroNod_cells] at hX hnew
  rw [← hn]
  clear hb2 hbX hfi e0 e1 hB2 hx0 hy0 hv0 hb0
  replace hA := hid hA
  replace hn := hid hn
  go_upto_region 2 with (first
    | (rw [← hX]; replace hX := hid hX)
    | (refine wpList_store_row (by rfl) 71 (.tmp 13) (.tmp 20) (by rfl) w2.heap.size n.cells (by rfl) (by rfl) 71 _ hnew.out (by kernel_rfl) (by kernel_rfl) (nod_one n) ?_))
  try (rw [← hX]; replace hX := hid hX)
  clear hnew
  generalize w2.heap.size = z at *
  cases hg : getL l p with
  | none =>
    have hdE := hid (show takeT ⟨x, l⟩ p off k now = (⟨x, l⟩, ⟨#[]⟩, 6) by unfold takeT; rw [hg])
    simp only [Option.isSome_none]
    clear hg
    have hres := hid hA.out.res
    have hlt := hid (lt_of_block hA.out.res)
    have hN := hid (NodsAt.other (w' := X.setRow (w.heap.size + 1) #[.int .u64 (x : Int), .slice a l.length c]) hA.out.row (w.heap.size + 1) (fun e => by have := hvo.out _ e; omega) (by simp) (fun k hk => setRow_other _ _ _ _ hk))
    go_wp2_with (refine wpList_store_row (by rfl) 32 (.tmp 10) (.tmp 25) (by rfl) (w.heap.size + 1) #[.int .u64 (x : Int), .slice a l.length c] (by rfl) (by rfl) 32 _ hres.out (by kernel_rfl) (by kernel_rfl) (by kernel_rfl) ?_)
    refine bodyPost_ret (results_css rfl _ _ (w.heap.size + 1) _ _ _ _ _ _ rfl rfl rfl (setRow_heap _ _ _ #[.int .u64 (x : Int), .slice a l.length c] _ _ hres.out) Try.underlying32 rfl (by kernel_rfl)) rfl ?_
    refine ⟨.slice a l.length c, ?_, ?_, below_setRow hBX.out (by omega) _⟩
    · rw [hdE.out]; rfl
    · rw [hdE.out]; exact hN.out
  | some y =>
    have hny : n = y := by rw [hn.out]; unfold getN; rw [hg]; rfl
    subst hny
    simp only [Option.isSome_some]
    obtain ⟨hmem, hpath⟩ := getL_some hg
    have hnok := hid (ht.ok n hmem)
    have hdir := hid (rdir_any n X hnok.out)
    have hnd := hid hA.out.nd
    go_wp2_with (refine wpList_load_row (by rfl) 71 (.tmp 13) (by rfl) z (by rfl) 71 n.cells (0, 0) _ hnd.out Try.underlying71 (by rfl) (by kernel_rfl) ?_)
    refine hdir.out.mono ?_
    rintro e w3 ⟨rfl, hb3⟩
    have hA0 := hA.out.below hb3
    have hBX0 := hid (sn hBX.out hb3)
    clear hA hBX q0 q1 hb3 hdir hnd
    have hA := hid hA0
    have hBX := hBX0
    clear hBX0
    have q0 := hA0.t0
    have q1 := hA0.t1
    clear hA0
    cases hdb : dirB n with
    | true =>
      have hdE := hid (show takeT ⟨x, l⟩ p off k now = (⟨x, l⟩, ⟨#[]⟩, 12) by unfold takeT; rw [hg]; simp only; rw [hdb]; rfl)
      clear hg hdb
      have hres := hid hA.out.res
      have hlt := hid (lt_of_block hA.out.res)
      have hN := hid (NodsAt.other (w' := w3.setRow (w.heap.size + 1) #[.int .u64 (x : Int), .slice a l.length c]) hA.out.row (w.heap.size + 1) (fun e => by have := hvo.out _ e; omega) (by simp) (fun k hk => setRow_other _ _ _ _ hk))
      go_wp2_with (refine wpList_store_row (by rfl) 32 (.tmp 10) (.tmp 29) (by rfl) (w.heap.size + 1) #[.int .u64 (x : Int), .slice a l.length c] (by rfl) (by rfl) 32 _ hres.out (by kernel_rfl) (by kernel_rfl) (by kernel_rfl) ?_)
      refine bodyPost_ret (results_css rfl _ _ (w.heap.size + 1) _ _ _ _ _ _ rfl rfl rfl (setRow_heap _ _ _ #[.int .u64 (x : Int), .slice a l.length c] _ _ hres.out) Try.underlying32 rfl (by kernel_rfl)) rfl ?_
      refine ⟨.slice a l.length c, ?_, ?_, below_setRow hBX.out (by omega) _⟩
      · rw [hdE.out]; rfl
      · rw [hdE.out]; exact hN.out
    | false =>
      have hdT := hid (show takeT ⟨x, l⟩ p off k now = (⟨x, setL l { n with atm := now }⟩, strL ((n.data.data.toList.drop off).take k), 0) by unfold takeT; rw [hg]; simp only; rw [hdb]; rfl)
      have hnl := ht.len n hmem
      have c11 : w3.cell? ⟨z, 11, none⟩ = some (.string n.data) := block_cell hA.out.nd 11
      have k2 : IntKind.u64.wrap (n.data.size : Int) = (n.data.size : Int) := IntWalk.u64_in _ (by omega)
      have k9 : IntKind.u64.wrap (k : Int) = (k : Int) := IntWalk.u64_in _ (by omega)
      have k10 : IntKind.i64.wrap (k : Int) = (k : Int) := IntWalk.i64_in _ (by omega)
      clear hg hdb
      replace hmem := hid hmem
      replace hpath := hid hpath
      by_cases ho : off < n.data.size
      · have hoz : (off : Int) < (n.data.size : Int) := by omega
        have hoz2 : (off : Int) ≤ (n.data.size : Int) := by omega
        have k3 : IntKind.i64.wrap (off : Int) = (off : Int) := IntWalk.i64_in _ (by omega)
        obtain ⟨s1, hs1⟩ : ∃ s, s = n.data.extract off n.data.size := ⟨_, rfl⟩
        have hs1s : s1.size ≤ 5000 := by rw [hs1, ByteArray.size_extract]; omega
        have k4 : IntKind.u64.wrap (s1.size : Int) = (s1.size : Int) := IntWalk.u64_in _ (by omega)
        have k7 : n.data.extract off n.data.size = s1 := hs1.symm
        by_cases hk2 : k < s1.size
        · have hkz : (k : Int) < (s1.size : Int) := by omega
          have hkz2 : (k : Int) ≤ (s1.size : Int) := by omega
          obtain ⟨s2, hs2'⟩ : ∃ s, s = s1.extract 0 k := ⟨_, rfl⟩
          have htxt := hid (show s2 = strL ((n.data.data.toList.drop off).take k) by rw [hs2', hs1]; exact take_str n.data off k off k (by omega) (by rw [← hs1]; omega))
          have k8 : s1.extract 0 k = s2 := hs2'.symm
          replace hs1 := hid hs1
          replace hs2' := hid hs2'
          obtain ⟨n2, hn2⟩ : ∃ n2 : Nod, n2 = { n with atm := now } := ⟨_, rfl⟩
          have hdE := hid (show takeT ⟨x, l⟩ p off k now = (⟨x, setL l n2⟩, s2, 0) by rw [hdT.out, hn2, ← htxt.out])
          have c3 : w3.cell? ⟨z, 3, none⟩ = some (.int .u32 (n.atm : Int)) := block_cell hA.out.nd 3
          have f3 : w3.frozen? ⟨z, 3, none⟩ = false := block_free hA.out.nd 3
          obtain ⟨Y, hY⟩ : ∃ Y, Y = w3.setCell ⟨z, 3, none⟩ (.int .u32 (now : Int)) := ⟨_, rfl⟩
          have hBY : Below w.heap.size w Y := by rw [hY]; exact hBX.out.setCell (by show w.heap.size ≤ z; have := hs2.out; omega) _
          have hAY : TrR w.heap.size z (w.heap.size + 1) x (.slice a l.length c) l n2 Y := by
            have hrow := hv.below hBY
            rw [hY] at hrow ⊢
            exact hA.out.put (by have := hs2.out; omega) (by have := hs2.out; omega) 3 (.int .u32 (now : Int)) (by rw [hn2]; rfl) hrow
          have hst := hid (show Calls Try.prog 70 #[.agg #[.int .u64 (x : Int), .slice a l.length c], .agg n2.cells] Y (SetPost Y x (setL l n2)) by rw [← setR_eq ht.sort]; exact rset_any _ x l n2 Y hAY.row (by have := ht.few; omega))
          clear hdT
          go_upto_region 12 with (rw [← hY]; replace hY := hid hY)
          try (rw [← hY]; replace hY := hid hY)
          have hnd := hid hAY.nd
          clear q0 q1 hA hBX c3 f3
          have q0 := hAY.t0
          have q1 := hAY.t1
          have hA := hid hAY
          have hBX := hid hBY
          clear hAY hBY
          replace hn2 := hid hn2
          go_wp2_with (refine wpList_load_row (by rfl) 71 (.tmp 13) (by rfl) z (by rfl) 71 n2.cells (0, 0) _ hnd.out Try.underlying71 (by rfl) (by kernel_rfl) ?_)
          refine hst.out.mono ?_
          rintro e w9 ⟨v9, rfl, hv9, hf9, hb9⟩
          have hres := hid (hA.out.below hb9).res
          have hB9 := hid (sn hBX.out hb9)
          have hsz := hid hBX.out.size
          have hlt := hid (lt_of_block hA.out.res)
          have hN := hid (NodsAt.other (w' := w9.setRow (w.heap.size + 1) #[.int .u64 (x : Int), v9]) hv9 (w.heap.size + 1) (fun e => by have := hf9 _ e; have := hlt.out; omega) (by simp) (fun k hk => setRow_other _ _ _ _ hk))
          obtain ⟨a9, c9, rfl, _, _⟩ := hv9.form
          clear hb9 hv9 hf9 hst q0 q1
          go_wp2_with (refine wpList_store_row (by rfl) 32 (.tmp 10) (.tmp 55) (by rfl) (w.heap.size + 1) #[.int .u64 (x : Int), .slice a9 (setL l n2).length c9] (by rfl) (by rfl) 32 _ hres.out (by kernel_rfl) (by kernel_rfl) (by kernel_rfl) ?_)
          refine bodyPost_ret (results_css rfl _ _ (w.heap.size + 1) _ _ _ _ _ _ rfl rfl rfl (setRow_heap _ _ _ #[.int .u64 (x : Int), .slice a9 (setL l n2).length c9] _ _ hres.out) Try.underlying32 rfl (by kernel_rfl)) rfl ?_
          refine ⟨.slice a9 (setL l n2).length c9, ?_, ?_, below_setRow hB9.out (by omega) _⟩
          · rw [hdE.out]; rfl
          · rw [hdE.out]; exact hN.out
        · have hkz : ¬ (k : Int) < (s1.size : Int) := by omega
          have hkz2 : (s1.size : Int) ≤ (k : Int) := by omega
          obtain ⟨s2, hs2'⟩ : ∃ s, s = s1 := ⟨_, rfl⟩
          have htxt := hid (show s2 = strL ((n.data.data.toList.drop off).take k) by
            rw [hs2', ← take_str n.data off k off s1.size (by omega) (by rw [← hs1]; omega), ← hs1, extract_whole])
          replace hs1 := hid hs1
          subst hs2'
          obtain ⟨n2, hn2⟩ : ∃ n2 : Nod, n2 = { n with atm := now } := ⟨_, rfl⟩
          have hdE := hid (show takeT ⟨x, l⟩ p off k now = (⟨x, setL l n2⟩, s2, 0) by rw [hdT.out, hn2, ← htxt.out])
          have c3 : w3.cell? ⟨z, 3, none⟩ = some (.int .u32 (n.atm : Int)) := block_cell hA.out.nd 3
          have f3 : w3.frozen? ⟨z, 3, none⟩ = false := block_free hA.out.nd 3
          obtain ⟨Y, hY⟩ : ∃ Y, Y = w3.setCell ⟨z, 3, none⟩ (.int .u32 (now : Int)) := ⟨_, rfl⟩
          have hBY : Below w.heap.size w Y := by rw [hY]; exact hBX.out.setCell (by show w.heap.size ≤ z; have := hs2.out; omega) _
          have hAY : TrR w.heap.size z (w.heap.size + 1) x (.slice a l.length c) l n2 Y := by
            have hrow := hv.below hBY
            rw [hY] at hrow ⊢
            exact hA.out.put (by have := hs2.out; omega) (by have := hs2.out; omega) 3 (.int .u32 (now : Int)) (by rw [hn2]; rfl) hrow
          have hst := hid (show Calls Try.prog 70 #[.agg #[.int .u64 (x : Int), .slice a l.length c], .agg n2.cells] Y (SetPost Y x (setL l n2)) by rw [← setR_eq ht.sort]; exact rset_any _ x l n2 Y hAY.row (by have := ht.few; omega))
          clear hdT
          go_upto_region 12 with (rw [← hY]; replace hY := hid hY)
          try (rw [← hY]; replace hY := hid hY)
          have hnd := hid hAY.nd
          clear q0 q1 hA hBX c3 f3
          have q0 := hAY.t0
          have q1 := hAY.t1
          have hA := hid hAY
          have hBX := hid hBY
          clear hAY hBY
          replace hn2 := hid hn2
          go_wp2_with (refine wpList_load_row (by rfl) 71 (.tmp 13) (by rfl) z (by rfl) 71 n2.cells (0, 0) _ hnd.out Try.underlying71 (by rfl) (by kernel_rfl) ?_)
          refine hst.out.mono ?_
          rintro e w9 ⟨v9, rfl, hv9, hf9, hb9⟩
          have hres := hid (hA.out.below hb9).res
          have hB9 := hid (sn hBX.out hb9)
          have hsz := hid hBX.out.size
          have hlt := hid (lt_of_block hA.out.res)
          have hN := hid (NodsAt.other (w' := w9.setRow (w.heap.size + 1) #[.int .u64 (x : Int), v9]) hv9 (w.heap.size + 1) (fun e => by have := hf9 _ e; have := hlt.out; omega) (by simp) (fun k hk => setRow_other _ _ _ _ hk))
          obtain ⟨a9, c9, rfl, _, _⟩ := hv9.form
          clear hb9 hv9 hf9 hst q0 q1
          go_wp2_with (refine wpList_store_row (by rfl) 32 (.tmp 10) (.tmp 55) (by rfl) (w.heap.size + 1) #[.int .u64 (x : Int), .slice a9 (setL l n2).length c9] (by rfl) (by rfl) 32 _ hres.out (by kernel_rfl) (by kernel_rfl) (by kernel_rfl) ?_)
          refine bodyPost_ret (results_css rfl _ _ (w.heap.size + 1) _ _ _ _ _ _ rfl rfl rfl (setRow_heap _ _ _ #[.int .u64 (x : Int), .slice a9 (setL l n2).length c9] _ _ hres.out) Try.underlying32 rfl (by kernel_rfl)) rfl ?_
          refine ⟨.slice a9 (setL l n2).length c9, ?_, ?_, below_setRow hB9.out (by omega) _⟩
          · rw [hdE.out]; rfl
          · rw [hdE.out]; exact hN.out
      · have hoz : ¬ (off : Int) < (n.data.size : Int) := by omega
        have hkz : ¬ (k : Int) < 0 := by omega
        have hkz2 : (0 : Int) ≤ (k : Int) := by omega
        obtain ⟨s2, hs2'⟩ : ∃ s : ByteArray, s = ⟨#[]⟩ := ⟨_, rfl⟩
        have htxt := hid (show s2 = strL ((n.data.data.toList.drop off).take k) by
          rw [hs2', List.drop_of_length_le (by have : n.data.data.toList.length = n.data.size := by simp
                                               omega), List.take_nil]; rfl)
        subst hs2'
        obtain ⟨n2, hn2⟩ : ∃ n2 : Nod, n2 = { n with atm := now } := ⟨_, rfl⟩
        have hdE := hid (show takeT ⟨x, l⟩ p off k now = (⟨x, setL l n2⟩, ⟨#[]⟩, 0) by rw [hdT.out, hn2, ← htxt.out])
        have c3 : w3.cell? ⟨z, 3, none⟩ = some (.int .u32 (n.atm : Int)) := block_cell hA.out.nd 3
        have f3 : w3.frozen? ⟨z, 3, none⟩ = false := block_free hA.out.nd 3
        obtain ⟨Y, hY⟩ : ∃ Y, Y = w3.setCell ⟨z, 3, none⟩ (.int .u32 (now : Int)) := ⟨_, rfl⟩
        have hBY : Below w.heap.size w Y := by rw [hY]; exact hBX.out.setCell (by show w.heap.size ≤ z; have := hs2.out; omega) _
        have hAY : TrR w.heap.size z (w.heap.size + 1) x (.slice a l.length c) l n2 Y := by
          have hrow := hv.below hBY
          rw [hY] at hrow ⊢
          exact hA.out.put (by have := hs2.out; omega) (by have := hs2.out; omega) 3 (.int .u32 (now : Int)) (by rw [hn2]; rfl) hrow
        have hst := hid (show Calls Try.prog 70 #[.agg #[.int .u64 (x : Int), .slice a l.length c], .agg n2.cells] Y (SetPost Y x (setL l n2)) by rw [← setR_eq ht.sort]; exact rset_any _ x l n2 Y hAY.row (by have := ht.few; omega))
        clear hdT
        go_upto_region 12 with (rw [← hY]; replace hY := hid hY)
        try (rw [← hY]; replace hY := hid hY)
        have hnd := hid hAY.nd
        clear q0 q1 hA hBX c3 f3
        have q0 := hAY.t0
        have q1 := hAY.t1
        have hA := hid hAY
        have hBX := hid hBY
        clear hAY hBY
        replace hn2 := hid hn2
        go_wp2_with (refine wpList_load_row (by rfl) 71 (.tmp 13) (by rfl) z (by rfl) 71 n2.cells (0, 0) _ hnd.out Try.underlying71 (by rfl) (by kernel_rfl) ?_)
        refine hst.out.mono ?_
        rintro e w9 ⟨v9, rfl, hv9, hf9, hb9⟩
        have hres := hid (hA.out.below hb9).res
        have hB9 := hid (sn hBX.out hb9)
        have hsz := hid hBX.out.size
        have hlt := hid (lt_of_block hA.out.res)
        have hN := hid (NodsAt.other (w' := w9.setRow (w.heap.size + 1) #[.int .u64 (x : Int), v9]) hv9 (w.heap.size + 1) (fun e => by have := hf9 _ e; have := hlt.out; omega) (by simp) (fun k hk => setRow_other _ _ _ _ hk))
        obtain ⟨a9, c9, rfl, _, _⟩ := hv9.form
        clear hb9 hv9 hf9 hst q0 q1
        go_wp2_with (refine wpList_store_row (by rfl) 32 (.tmp 10) (.tmp 55) (by rfl) (w.heap.size + 1) #[.int .u64 (x : Int), .slice a9 (setL l n2).length c9] (by rfl) (by rfl) 32 _ hres.out (by kernel_rfl) (by kernel_rfl) (by kernel_rfl) ?_)
        refine bodyPost_ret (results_css rfl _ _ (w.heap.size + 1) _ _ _ _ _ _ rfl rfl rfl (setRow_heap _ _ _ #[.int .u64 (x : Int), .slice a9 (setL l n2).length c9] _ _ hres.out) Try.underlying32 rfl (by kernel_rfl)) rfl ?_
        refine ⟨.slice a9 (setL l n2).length c9, ?_, ?_, below_setRow hB9.out (by omega) _⟩
        · rw [hdE.out]; rfl
        · rw [hdE.out]; exact hN.out
end
end Go.Proofs.Ytpmlhmficmillaa

namespace Go.Proofs.Ytpmlhmficmillaa
section
open Go.RowKit
set_option maxRecDepth 100000
set_option linter.unusedVariables false

theorem nodSR {n : Nod} {X : World} {k : Nat} {T : TypeId} {fr : Nat × Nat} (h : X.heap[k]? = some (.cells n.cells T fr)) : X.cell? ⟨k, 0, none⟩ = some (.int .u64 (n.path : Int)) ∧ X.cell? ⟨k, 1, none⟩ = some (.int .u32 (n.vers : Int)) ∧ X.cell? ⟨k, 2, none⟩ = some (.int .u32 (n.mode : Int)) ∧ X.cell? ⟨k, 3, none⟩ = some (.int .u32 (n.atm : Int)) ∧ X.cell? ⟨k, 4, none⟩ = some (.int .u32 (n.mtm : Int)) ∧ X.cell? ⟨k, 5, none⟩ = some (.string n.name) ∧ X.cell? ⟨k, 6, none⟩ = some (.string n.uid) ∧ X.cell? ⟨k, 7, none⟩ = some (.string n.gid) ∧ X.cell? ⟨k, 8, none⟩ = some (.string n.muid) ∧ X.cell? ⟨k, 9, none⟩ = some (.int .u64 (n.up : Int)) ∧ X.cell? ⟨k, 10, none⟩ = some (.bool n.gone) ∧ X.cell? ⟨k, 11, none⟩ = some (.string n.data) := ⟨block_cell h 0, block_cell h 1, block_cell h 2, block_cell h 3, block_cell h 4, block_cell h 5, block_cell h 6, block_cell h 7, block_cell h 8, block_cell h 9, block_cell h 10, block_cell h 11⟩
set_option maxHeartbeats 12800000 in
theorem rcut_any (v : Value) (x : Nat) (l : List Nod) (p size : Nat) (who : ByteArray) (now : Nat) (w : World) (hv : NodsAt w v l) (ht : TrOk l) (hne : l ≠ []) (hsz : size < 18446744073709551616) :
    Calls Try.prog 37 #[.agg #[.int .u64 (x : Int), v], .int .u64 (p : Int), .int .u64 (size : Int), .string who, .int .u32 (now : Int)] w (RErr w (cutT ⟨x, l⟩ p size who now)) := by
  obtain ⟨a, c, rfl, g1, g2⟩ := hv.form
  unfold maxLen at g2
  have hvo := hid (rown hv hne)
  obtain ⟨W, hW⟩ : ∃ W, W = (w.alloc (.cells #[.int .u64 (x : Int), .slice a l.length c] 32)).alloc (.cells #[.int .u64 0, .slice none 0 0] 32) := ⟨_, rfl⟩
  have hb0 : Below w.heap.size w W := by rw [hW]; exact ((Below.refl w.heap.size w).alloc (Nat.le_refl _) _).alloc (by simp) _
  have hx0 : W.heap[w.heap.size]? = some (.cells #[.int .u64 (x : Int), .slice a l.length c] 32 (0, 0)) := by rw [hW, heap_alloc_old _ _ (by simp), heap_alloc_new]
  have hy0 : W.heap[w.heap.size + 1]? = some (.cells #[.int .u64 0, .slice none 0 0] 32 (0, 0)) := by rw [hW]; exact heap2 _ _ _
  have hfi := hid (rget_any _ x l p W (hv.below hb0) (by have := ht.few; omega))
  have e0 := block_cell hx0 0
  have e1 := block_cell hx0 1
  have hv0 := hid (hv.below hb0)
  replace hb0 := hid hb0
  replace hx0 := hid hx0
  replace hy0 := hid hy0
  go_enter Try.func37, Try.ntmps37
  go_upto_region 1 with (rw [← hW]; replace hW := hid hW)
  try (rw [← hW]; replace hW := hid hW)
  go_wp2_with fail
  refine hfi.out.mono ?_
  rintro e w2 ⟨rfl, hb2⟩
  have hB2 := hid (sn hb0.out hb2)
  have hs2 := hid (lt_of_block ((hb2.block _ (lt_of_block hy0.out)).trans hy0.out))
  obtain ⟨n, hn⟩ : ∃ n, n = getN l p := ⟨_, rfl⟩
  have hnew := hid (heap_alloc_new w2 (.cells zeroNod.cells 71))
  obtain ⟨X, hX⟩ : ∃ W, W = boxR w2 n := ⟨_, rfl⟩
  have hbX : Below w2.heap.size w2 X := by rw [hX]; exact boxR_below _ _
  have hBX := hid (sn hB2.out hbX)
  have hA : TrR w.heap.size w2.heap.size (w.heap.size + 1) x (.slice a l.length c) l n X :=
    ⟨(hbX.block _ (by have := hs2.out; omega)).trans ((hb2.block _ (lt_of_block hx0.out)).trans hx0.out), by rw [hX]; exact boxR_heap _ _, (hbX.block _ hs2.out).trans ((hb2.block _ (lt_of_block hy0.out)).trans hy0.out), (hv0.out.below hb2).below hbX⟩
  have q0 := hA.t0
  have q1 := hA.t1
  unfold boxR at hX
  rw [zeroNod_cells] at hX hnew
  rw [← hn]
  clear hb2 hbX hfi e0 e1 hB2 hx0 hy0 hv0 hb0
  replace hA := hid hA
  replace hn := hid hn
  go_upto_region 2 with (first
    | (rw [← hX]; replace hX := hid hX)
    | (refine wpList_store_row (by rfl) 71 (.tmp 12) (.tmp 19) (by rfl) w2.heap.size n.cells (by rfl) (by rfl) 71 _ hnew.out (by kernel_rfl) (by kernel_rfl) (nod_one n) ?_))
  try (rw [← hX]; replace hX := hid hX)
  clear hnew
  generalize w2.heap.size = z at *
  cases hg : getL l p with
  | none =>
    have hdE := hid (show cutT ⟨x, l⟩ p size who now = (⟨x, l⟩, 6) by unfold cutT; rw [hg])
    simp only [Option.isSome_none]
    clear hg
    have hres := hid hA.out.res
    have hlt := hid (lt_of_block hA.out.res)
    have hN := hid (NodsAt.other (w' := X.setRow (w.heap.size + 1) #[.int .u64 (x : Int), .slice a l.length c]) hA.out.row (w.heap.size + 1) (fun e => by have := hvo.out _ e; omega) (by simp) (fun k hk => setRow_other _ _ _ _ hk))
    go_wp2_with (refine wpList_store_row (by rfl) 32 (.tmp 10) (.tmp 24) (by rfl) (w.heap.size + 1) #[.int .u64 (x : Int), .slice a l.length c] (by rfl) (by rfl) 32 _ hres.out (by kernel_rfl) (by kernel_rfl) (by kernel_rfl) ?_)
    refine bodyPost_ret (results_cs rfl _ _ (w.heap.size + 1) _ _ _ _ _ rfl rfl (setRow_heap _ _ _ #[.int .u64 (x : Int), .slice a l.length c] _ _ hres.out) Try.underlying32 rfl (by kernel_rfl)) rfl ?_
    refine ⟨.slice a l.length c, ?_, ?_, below_setRow hBX.out (by omega) _⟩
    · rw [hdE.out]; rfl
    · rw [hdE.out]; exact hN.out
  | some y =>
    have hny : n = y := by rw [hn.out]; unfold getN; rw [hg]; rfl
    subst hny
    simp only [Option.isSome_some]
    obtain ⟨hmem, hpath⟩ := getL_some hg
    have hnok := hid (ht.ok n hmem)
    have hdir := hid (rdir_any n X hnok.out)
    have hnd := hid hA.out.nd
    go_wp2_with (refine wpList_load_row (by rfl) 71 (.tmp 12) (by rfl) z (by rfl) 71 n.cells (0, 0) _ hnd.out Try.underlying71 (by rfl) (by kernel_rfl) ?_)
    refine hdir.out.mono ?_
    rintro e w3 ⟨rfl, hb3⟩
    have hA0 := hA.out.below hb3
    have hBX0 := hid (sn hBX.out hb3)
    clear hA hBX q0 q1 hb3 hdir hnd
    have hA := hid hA0
    have hBX := hBX0
    clear hBX0
    have q0 := hA0.t0
    have q1 := hA0.t1
    clear hA0
    cases hdb : dirB n with
    | true =>
      have hdE := hid (show cutT ⟨x, l⟩ p size who now = (⟨x, l⟩, 12) by unfold cutT; rw [hg]; simp only; rw [hdb]; rfl)
      clear hg hdb
      have hres := hid hA.out.res
      have hlt := hid (lt_of_block hA.out.res)
      have hN := hid (NodsAt.other (w' := w3.setRow (w.heap.size + 1) #[.int .u64 (x : Int), .slice a l.length c]) hA.out.row (w.heap.size + 1) (fun e => by have := hvo.out _ e; omega) (by simp) (fun k hk => setRow_other _ _ _ _ hk))
      go_wp2_with (refine wpList_store_row (by rfl) 32 (.tmp 10) (.tmp 28) (by rfl) (w.heap.size + 1) #[.int .u64 (x : Int), .slice a l.length c] (by rfl) (by rfl) 32 _ hres.out (by kernel_rfl) (by kernel_rfl) (by kernel_rfl) ?_)
      refine bodyPost_ret (results_cs rfl _ _ (w.heap.size + 1) _ _ _ _ _ rfl rfl (setRow_heap _ _ _ #[.int .u64 (x : Int), .slice a l.length c] _ _ hres.out) Try.underlying32 rfl (by kernel_rfl)) rfl ?_
      refine ⟨.slice a l.length c, ?_, ?_, below_setRow hBX.out (by omega) _⟩
      · rw [hdE.out]; rfl
      · rw [hdE.out]; exact hN.out
    | false =>
      have hdT0 := hid (show cutT ⟨x, l⟩ p size who now = if 4096 < size then (⟨x, l⟩, 3) else dataT ⟨x, l⟩ n (strL (padL n.data.data.toList size)) who now by unfold cutT; rw [hg]; simp only; rw [hdb]; rfl)
      clear hg hdb
      by_cases h4 : 4096 < size
      · have hdE := hid (show cutT ⟨x, l⟩ p size who now = (⟨x, l⟩, 3) by rw [hdT0.out, if_pos h4])
        have h5 : (4096 : Int) < (size : Int) := by omega
        have hres := hid hA.out.res
        have hlt := hid (lt_of_block hA.out.res)
        have hN := hid (NodsAt.other (w' := w3.setRow (w.heap.size + 1) #[.int .u64 (x : Int), .slice a l.length c]) hA.out.row (w.heap.size + 1) (fun e => by have := hvo.out _ e; omega) (by simp) (fun k hk => setRow_other _ _ _ _ hk))
        go_wp2_with (refine wpList_store_row (by rfl) 32 (.tmp 10) (.tmp 32) (by rfl) (w.heap.size + 1) #[.int .u64 (x : Int), .slice a l.length c] (by rfl) (by rfl) 32 _ hres.out (by kernel_rfl) (by kernel_rfl) (by kernel_rfl) ?_)
        refine bodyPost_ret (results_cs rfl _ _ (w.heap.size + 1) _ _ _ _ _ rfl rfl (setRow_heap _ _ _ #[.int .u64 (x : Int), .slice a l.length c] _ _ hres.out) Try.underlying32 rfl (by kernel_rfl)) rfl ?_
        refine ⟨.slice a l.length c, ?_, ?_, below_setRow hBX.out (by omega) _⟩
        · rw [hdE.out]; rfl
        · rw [hdE.out]; exact hN.out
      have hnl := ht.len n hmem
      have h5 : ¬ (4096 : Int) < (size : Int) := by omega
      have ksz : IntKind.i64.wrap (size : Int) = (size : Int) := IntWalk.i64_in _ (by omega)
      have c11 : w3.cell? ⟨z, 11, none⟩ = some (.string n.data) := block_cell hA.out.nd 11
      have hnbs : (strL (padL n.data.data.toList size)).size ≤ 10000 := by rw [strL_size, padL_length]; omega
      have hpad := hid (rpadded_any n.data size w3 (by omega) (by omega))
      obtain ⟨nb, hnb⟩ : ∃ nb, nb = strL (padL n.data.data.toList size) := ⟨_, rfl⟩
      have hdT := hid (show cutT ⟨x, l⟩ p size who now = dataT ⟨x, l⟩ n nb who now by rw [hdT0.out, if_neg h4, hnb])
      rw [← hnb] at hpad hnbs
      replace hnb := hid hnb
      replace hpath := hid hpath
      clear hdT0 h4
      go_wp2_with fail
      refine hpad.out.mono ?_
      rintro e w4 ⟨rfl, hb4⟩
      have hA0 := hA.out.below hb4
      have hBX0 := hid (sn hBX.out hb4)
      clear hA hBX q0 q1 c11 hb4 hpad h5 ksz
      have hA := hid hA0
      have hBX := hBX0
      clear hBX0
      have q0 := hA0.t0
      have q1 := hA0.t1
      have c11 : w4.cell? ⟨z, 11, none⟩ = some (.string n.data) := block_cell hA0.nd 11
      clear hA0
      have hB19 := bytesL_le (l := l) (fun m hm => show m.data.size ≤ 1000000 by have := ht.len m hm; omega)
      have hby := hid (fun Z (h : NodsAt Z (.slice a l.length c) l) => rbytes_any _ x l Z h (by have := ht.few; omega) (fun m hm => by have := ht.len m hm; omega))
      have hnB := bytes_mem hmem
      obtain ⟨B, hB⟩ : ∃ B, B = bytesL l := ⟨_, rfl⟩
      rw [← hB] at hby hB19 hnB
      have hBle : B ≤ 1000000000 := by have := ht.few; omega
      obtain ⟨D, hD⟩ : ∃ D, D = B - n.data.size := ⟨_, rfl⟩
      obtain ⟨E, hE⟩ : ∃ E, E = D + nb.size := ⟨_, rfl⟩
      have k1 : IntKind.i64.wrap ((B : Int) - (n.data.size : Int)) = (D : Int) := by rw [show (B : Int) - (n.data.size : Int) = (D : Int) by omega]; exact IntWalk.i64_in _ (by omega)
      have k2 : IntKind.i64.wrap ((D : Int) + (nb.size : Int)) = (E : Int) := by rw [show (D : Int) + (nb.size : Int) = (E : Int) by omega]; exact IntWalk.i64_in _ (by omega)
      replace hdT := hid (show cutT ⟨x, l⟩ p size who now = if 16384 < E then (⟨x, l⟩, 14) else (⟨x, setL l (touchN { n with data := nb } who now)⟩, 0) by rw [hdT.out, hE, hD, hB]; rfl)
      have hnok2 := hid (show NodOk { n with data := nb } from ⟨hnok.out.path, hnok.out.vers, hnok.out.mode, hnok.out.atm, hnok.out.mtm, hnok.out.name, hnok.out.uid, hnok.out.gid, hnok.out.muid, hnok.out.up, by show nb.size ≤ maxLen; unfold maxLen; omega⟩)
      replace hB := hid hB
      replace hD := hid hD
      replace hE := hid hE
      replace hmem := hid hmem
      clear hB19 hnB
      go_wp2_with fail
      have hZX := hid (lt_of_block hA.out.res)
      have hA1 := hA.out.below ((Below.refl w4.heap.size w4).drew)
      have hBd := sn hBX.out ((Below.refl w4.heap.size w4).drew)
      clear hA hBX q0 q1 c11
      have q0 := hA1.t0
      have q1 := hA1.t1
      have q11 := nodS' hA1.nd
      go_region_held3 (fun w' => w'.cell? ⟨w.heap.size, 0, none⟩ = some (.int .u64 (x : Int)) ∧ w'.cell? ⟨w.heap.size, 1, none⟩ = some (.slice a l.length c) ∧ w'.cell? ⟨z, 11, none⟩ = some (.string n.data))
        (first | exact ⟨hA1.t0, hA1.t1, nodS' hA1.nd⟩ | go_keep)
        ((go_at_call 44; (with_reducible refine (hby.out _ hA1.row).mono ?_); rintro e w5 ⟨rfl, hb5⟩; replace hA1 := hA1.below hb5; replace hBd := sn hBd hb5))
      have hA := hid hA1
      have hBX := hid hBd
      clear hA1 hBd q0 q1 q11 k1 k2 hb5 hby
      have q0 := hA.out.t0
      have q1 := hA.out.t1
      by_cases hE1 : 16384 < E
      · have hdE := hid (show cutT ⟨x, l⟩ p size who now = (⟨x, l⟩, 14) by rw [hdT.out, if_pos hE1])
        have k3 : decide ((16384 : Int) < (E : Int)) = true := by simp; omega
        have k4 : decide (16384 < E) = true := by simp; omega
        have k5 : (16384 : Int) < (E : Int) := by omega
        have hres := hid hA.out.res
        have hlt := hid (lt_of_block hA.out.res)
        have hN := hid (NodsAt.other (w' := w5.setRow (w.heap.size + 1) #[.int .u64 (x : Int), .slice a l.length c]) hA.out.row (w.heap.size + 1) (fun e => by have := hvo.out _ e; omega) (by simp) (fun k hk => setRow_other _ _ _ _ hk))
        go_wp2_with (refine wpList_store_row (by rfl) 32 (.tmp 10) (.tmp 48) (by rfl) (w.heap.size + 1) #[.int .u64 (x : Int), .slice a l.length c] (by rfl) (by rfl) 32 _ hres.out (by kernel_rfl) (by kernel_rfl) (by kernel_rfl) ?_)
        refine bodyPost_ret (results_cs rfl _ _ (w.heap.size + 1) _ _ _ _ _ rfl rfl (setRow_heap _ _ _ #[.int .u64 (x : Int), .slice a l.length c] _ _ hres.out) Try.underlying32 rfl (by kernel_rfl)) rfl ?_
        refine ⟨.slice a l.length c, ?_, ?_, below_setRow hBX.out (by omega) _⟩
        · rw [hdE.out]; rfl
        · rw [hdE.out]; exact hN.out
      have k3 : decide ((16384 : Int) < (E : Int)) = false := by simp; omega
      have k4 : decide (16384 < E) = false := by simp; omega
      have k5 : ¬ (16384 : Int) < (E : Int) := by omega
      obtain ⟨n2, hn2⟩ : ∃ n2 : Nod, n2 = { n with data := nb } := ⟨_, rfl⟩
      rw [← hn2] at hdT hnok2
      obtain ⟨n3, hn3⟩ : ∃ n3 : Nod, n3 = touchN n2 who now := ⟨_, rfl⟩
      have hdE := hid (show cutT ⟨x, l⟩ p size who now = (⟨x, setL l n3⟩, 0) by rw [hdT.out, if_neg hE1, hn3])
      have c11 : w5.cell? ⟨z, 11, none⟩ = some (.string n.data) := block_cell hA.out.nd 11
      have f11 : w5.frozen? ⟨z, 11, none⟩ = false := block_free hA.out.nd 11
      obtain ⟨Y, hY⟩ : ∃ Y, Y = w5.setCell ⟨z, 11, none⟩ (.string nb) := ⟨_, rfl⟩
      have hBY : Below w.heap.size w Y := by rw [hY]; exact hBX.out.setCell (by show w.heap.size ≤ z; have := hs2.out; omega) _
      have hAY : TrR w.heap.size z (w.heap.size + 1) x (.slice a l.length c) l n2 Y := by
        have hrow := hv.below hBY
        rw [hY] at hrow ⊢
        exact hA.out.put (by have := hs2.out; omega) (by have := hs2.out; omega) 11 (.string nb) (by rw [hn2]; rfl) hrow
      have htc : Hid (∀ Z, Calls Try.prog 71 #[.agg #[.int .u64 (n2.path : Int), .int .u32 (n2.vers : Int), .int .u32 (n2.mode : Int), .int .u32 (n2.atm : Int), .int .u32 (n2.mtm : Int), .string n2.name, .string n2.uid, .string n2.gid, .string n2.muid, .int .u64 (n2.up : Int), .bool n2.gone, .string n2.data], .string who, .int .u32 (now : Int)] Z fun e w' => e = .returned (.agg n3.cells) ∧ Below Z.heap.size Z w') := hid (fun Z => by rw [hn3]; exact rtouched_any n2 who now Z hnok2.out)
      have hst : Hid (∀ Z, NodsAt Z (.slice a l.length c) l → Calls Try.prog 70 #[.agg #[.int .u64 (x : Int), .slice a l.length c], .agg n3.cells] Z (SetPost Z x (setL l n3))) := hid (fun Z hZ => by rw [← setR_eq ht.sort]; exact rset_any _ x l n3 Z hZ (by have := ht.few; omega))
      clear hdT
      go_upto_region 12 with (rw [← hY]; replace hY := hid hY)
      try (rw [← hY]; replace hY := hid hY)
      clear q0 q1 hA hBX c11 f11 k3 k4 k5 hE1
      replace hn2 := hid hn2
      replace hn3 := hid hn3
      replace ht := hid ht
      replace hv := hid hv
      go_wp2_with fail
      have hZY := hid (lt_of_block hAY.res)
      have hT := hAY.below ((Below.refl Y.heap.size Y).drew)
      have hBd := (sn hBY ((Below.refl Y.heap.size Y).drew))
      clear hAY hBY
      have q0 := hT.t0
      have q1 := hT.t1
      obtain ⟨d0, d1, d2, d3, d4, d5, d6, d7, d8, d9, d10, d11⟩ := nodSR hT.nd
      go_region_with (first
        | (go_at_call 71; (with_reducible refine (htc.out _).mono ?_); rintro e wt ⟨rfl, hbt⟩; replace hT := hT.below hbt; have q8 := hid hT.tr; replace hBd := sn hBd hbt; have q2 := hT.t0; have q3 := hT.t1)
        | (go_at_call 70; (with_reducible refine (hst.out _ hT.row).mono ?_); rintro e w6 ⟨v6, rfl, hv6, hf6, hb6⟩; obtain ⟨a6, c6, rfl, _, _⟩ := hv6.form; replace hT := hT.below hb6; replace hBd := sn hBd hb6; have g0 := block_cell hT.res 0; have g1 := block_cell hT.res 1; have e0 := block_free hT.res 0; have e1 := block_free hT.res 1))
      all_goals
        obtain ⟨Y9, hY9⟩ : ∃ Z, Z = (w6.setCell ⟨w.heap.size + 1, 0, none⟩ (.int .u64 (x : Int))).setCell ⟨w.heap.size + 1, 1, none⟩ (.slice a6 (setL l n3).length c6) := ⟨_, rfl⟩
        rw [← hY9]
        have hlq := lt_of_block q8.out
        have hzq := hZX.out
        have hres := hid (show Y9.heap[w.heap.size + 1]? = some (.cells #[.int .u64 (x : Int), .slice a6 (setL l n3).length c6] 32 (0, 0)) by rw [hY9]; exact block_set (block_set hT.res 0 _) 1 _)
        have hszt := hbt.size
        have hszd := hid hBd.size
        have hN9 := hid (show NodsAt Y9 (.slice a6 (setL l n3).length c6) (setL l n3) by
          rw [hY9]; exact NodsAt.other hv6 (w.heap.size + 1) (fun e => by have := hf6 _ e; have := hZY.out; simp at hszt; omega) (by simp) (fun k hk => (block_set_other (by show k ≠ w.heap.size + 1; exact hk)).trans (block_set_other (by show k ≠ w.heap.size + 1; exact hk))))
        have hB9 := hid (show Below w.heap.size w Y9 by rw [hY9]; exact (hBd.setCell (by show w.heap.size ≤ w.heap.size + 1; omega) _).setCell (by show w.heap.size ≤ w.heap.size + 1; omega) _)
        replace hY9 := hid hY9
        clear hT hBd hbt hb6 hv6 hf6 g0 g1 e0 e1 q0 q1 q2 q3 d0 d1 d2 d3 d4 d5 d6 d7 d8 d9 d10 d11 hlq hzq hszt
        go_wp2_with fail
        refine bodyPost_ret (results_cs rfl _ _ (w.heap.size + 1) _ _ _ _ _ rfl rfl hres.out Try.underlying32 rfl (by kernel_rfl)) rfl ?_
        refine ⟨.slice a6 (setL l n3).length c6, ?_, ?_, hB9.out⟩
        · rw [hdE.out]; rfl
        · rw [hdE.out]; exact hN9.out
end
end Go.Proofs.Ytpmlhmficmillaa
