/- What the reference's Decode of a message returns, for any bytes. No further condition. -/
import Derived.Test.YtlmojhlacfjmaaaGreatRDecPZ
import Derived.Test.YtlmojhlacfjmaaaGreatBunK
import Derived.Test.YtlmojhlacfjmaaaGreatBunL
namespace Go.Proofs.YtlmojhlacfjmaaaGreat
open Go.RowKit
set_option maxRecDepth 100000
set_option linter.unusedVariables false

theorem rfill_any (b : Nat) (p : List UInt8 × Nat) (m : M) (w : World) (hk : knownT m.ty = true) (hN : m.names = []) (hQ : m.qids = []) (h : RInAt w b p) :
  Calls Tryz.prog 37 #[.pointer (some ⟨b, 0, none⟩), .agg (m.rcells (.slice none 0 0) (.slice none 0 0) (strL m.data))] w (RFillPost w b (rins (slots m.ty) p m)) := by
 have hc : m.ty = 100 ∨ m.ty = 101 ∨ m.ty = 102 ∨ m.ty = 103 ∨ m.ty = 104 ∨ m.ty = 105 ∨ m.ty = 107 ∨ m.ty = 108 ∨ m.ty = 109 ∨ m.ty = 110 ∨ m.ty = 111 ∨ m.ty = 112 ∨ m.ty = 113 ∨ m.ty = 114 ∨ m.ty = 115 ∨ m.ty = 116 ∨ m.ty = 117 ∨ m.ty = 118 ∨ m.ty = 119 ∨ m.ty = 120 ∨ m.ty = 121 ∨ m.ty = 122 ∨ m.ty = 123 ∨ m.ty = 124 ∨ m.ty = 125 ∨ m.ty = 126 ∨ m.ty = 127 := by
  unfold knownT at hk; simp at hk; omega
 rcases hc with h0 | h0 | h0 | h0 | h0 | h0 | h0 | h0 | h0 | h0 | h0 | h0 | h0 | h0 | h0 | h0 | h0 | h0 | h0 | h0 | h0 | h0 | h0 | h0 | h0 | h0 | h0
 ·rw [h0]; exact rfill_100 b p m w h0 hN hQ h
 ·rw [h0]; exact rfill_101 b p m w h0 hN hQ h
 ·rw [h0]; exact rfill_102 b p m w h0 hN hQ h
 ·rw [h0]; exact rfill_103 b p m w h0 hN hQ h
 ·rw [h0]; exact rfill_104 b p m w h0 hN hQ h
 ·rw [h0]; exact rfill_105 b p m w h0 hN hQ h
 ·rw [h0]; exact rfill_107 b p m w h0 hN hQ h
 ·rw [h0]; exact rfill_108 b p m w h0 hN hQ h
 ·rw [h0]; exact rfill_109 b p m w h0 hN hQ h
 ·rw [h0]; exact rfill_110 b p m w h0 hN hQ h
 ·rw [h0]; exact rfill_111 b p m w h0 hN hQ h
 ·rw [h0]; exact rfill_112 b p m w h0 hN hQ h
 ·rw [h0]; exact rfill_113 b p m w h0 hN hQ h
 ·rw [h0]; exact rfill_114 b p m w h0 hN hQ h
 ·rw [h0]; exact rfill_115 b p m w h0 hN hQ h
 ·rw [h0]; exact rfill_116 b p m w h0 hN hQ h
 ·rw [h0]; exact rfill_117 b p m w h0 hN hQ h
 ·rw [h0]; exact rfill_118 b p m w h0 hN hQ h
 ·rw [h0]; exact rfill_119 b p m w h0 hN hQ h
 ·rw [h0]; exact rfill_120 b p m w h0 hN hQ h
 ·rw [h0]; exact rfill_121 b p m w h0 hN hQ h
 ·rw [h0]; exact rfill_122 b p m w h0 hN hQ h
 ·rw [h0]; exact rfill_123 b p m w h0 hN hQ h
 ·rw [h0]; exact rfill_124 b p m w h0 hN hQ h
 ·rw [h0]; exact rfill_125 b p m w h0 hN hQ h
 ·rw [h0]; exact rfill_126 b p m w h0 hN hQ h
 ·rw [h0]; exact rfill_127 b p m w h0 hN hQ h

theorem isM_ref (l : List UInt8) : (isM l = true → (headR l).2 = 0 ∧ knownT (headM l).ty = true ∧ (rins (slots (headM l).ty) (headR l) (headM l)).1.2 = 0 ∧ lt (rins (slots (headM l).ty) (headR l) (headM l)).1 = 0 ∧ (rins (slots (headM l).ty) (headR l) (headM l)).2 = decM l) ∧
  (isM l = false → (headR l).2 = 0 → knownT (headM l).ty = true → (rins (slots (headM l).ty) (headR l) (headM l)).1.2 = 0 → lt (rins (slots (headM l).ty) (headR l) (headM l)).1 ≠ 0) := by
 unfold isM
 refine ⟨fun h => ?_, fun h h0 hk hr hl => ?_⟩
 ·simp only [Bool.and_eq_true, decide_eq_true_eq] at h
  obtain ⟨⟨⟨g2, hk⟩, hf⟩, hl⟩ := h
  obtain ⟨e, e2⟩ := (rins_alike (slots (headM l).ty) (headR l) (headM l) g2).1 hf
  rw [e]
  exact ⟨g2, hk, e2, hl, rfl⟩
 ·have hf : (fieldsR l).1 = 0 := by
   by_cases hh : (fieldsR l).1 = 0
   ·exact hh
   ·exact absurd hr ((rins_alike (slots (headM l).ty) (headR l) (headM l) h0).2 hh)
  obtain ⟨e, e2⟩ := (rins_alike (slots (headM l).ty) (headR l) (headM l) h0).1 hf
  rw [e] at hl
  have hl2 : lt (fieldsR l).2.1 = 0 := hl
  simp [h0, hk, hf, hl2] at h

structure RDA (w0 w : World) (b q : Nat) (cs : Array Value) (p : List UInt8 × Nat) : Prop where
 inn : RInAt w b p
 blk : w.heap[q]? = some (.cells cs 46 (0, 0))
 foot : ¬ Foot w b q
 res : w.heap[w0.heap.size]? = some (.cells zeroR 46 (0, 0))
 rfoot : ¬ Foot w b w0.heap.size
 below : Below w0.heap.size w0 w
 lt : w0.heap.size < b ∧ b < q
theorem RDA.step {w0 w w2 : World} {b q : Nat} {cs : Array Value} {p p2 : List UInt8 × Nat} (h : RDA w0 w b q cs p) (hi : RInAt w2 b p2) (hs : OStep b w w2) : RDA w0 w2 b q cs p2 := by
 have h1 := hs.block q (lt_of_block h.blk) h.foot
 have h2 := hs.block w0.heap.size (lt_of_block h.res) h.rfoot
 exact ⟨hi, h1.1.trans h.blk, h1.2, h2.1.trans h.res, h2.2, h.below.trans (hs.below.mono (Nat.le_of_lt h.lt.1)), h.lt⟩
theorem RDA.pure {w0 w w2 : World} {b q : Nat} {cs : Array Value} {p : List UInt8 × Nat} (h : RDA w0 w b q cs p) (hb : Below w.heap.size w w2) : RDA w0 w2 b q cs p :=
 h.step (h.inn.below hb) (OStep.pure h.inn.lt hb)
theorem RDA.row {w0 w : World} {b q : Nat} {cs cs2 : Array Value} {p : List UInt8 × Nat} (h : RDA w0 w b q cs p) : RDA w0 (w.setRow q cs2) b q cs2 p := by
 have hbq : q ≠ b := by have := h.lt; omega
 exact ⟨h.inn.row cs2 h.foot, setRow_heap _ _ _ _ _ _ h.blk, fun hf => h.foot (foot_row hbq hf), (setRow_other _ _ _ _ (by have := h.lt; omega)).trans h.res, fun hf => h.rfoot (foot_row hbq hf), below_setRow h.below (by have := h.lt; omega) _, h.lt⟩
theorem RDA.set {w0 w : World} {b q : Nat} {cs cs2 : Array Value} {p : List UInt8 × Nat} (h : RDA w0 w b q cs p) (i : Nat) (v : Value) (hc : cs.setIfInBounds i v = cs2) : RDA w0 (w.setCell ⟨q, i, none⟩ v) b q cs2 p := by
 have hbq : q ≠ b := by have := h.lt; omega
 have hbl : ∀ k, k ≠ q → (w.setCell ⟨q, i, none⟩ v).heap[k]? = w.heap[k]? := fun k hk => block_set_other hk
 have hf : ∀ k, Foot (w.setCell ⟨q, i, none⟩ v) b k → Foot w b k := fun k => foot_keep (hbl b (fun e => hbq e.symm))
 exact ⟨h.inn.store v h.foot, by rw [← hc]; exact block_set h.blk i v, fun k => h.foot (hf _ k), (hbl _ (by have := h.lt; omega)).trans h.res, fun k => h.rfoot (hf _ k), h.below.setCell (by have := h.lt; show w0.heap.size ≤ q; omega) _, h.lt⟩
theorem RDA.start {w0 w : World} {b : Nat} {p : List UInt8 × Nat} (cs cs2 : Array Value) (hi : RInAt w b p) (hr : w.heap[w0.heap.size]? = some (.cells zeroR 46 (0, 0))) (hf : ¬ Foot w b w0.heap.size) (hB : Below w0.heap.size w0 w) (hlt : w0.heap.size < b) :
  RDA w0 ((w.alloc (.cells cs 46)).setRow w.heap.size cs2) b w.heap.size cs2 p := by
 have hb : Below w.heap.size w (w.alloc (.cells cs 46)) := (Below.refl _ _).alloc (Nat.le_refl _) _
 have h : RDA w0 (w.alloc (.cells cs 46)) b w.heap.size cs p :=
  ⟨hi.below hb, heap_alloc_new _ _, hi.new _, (hb.block _ (lt_of_block hr)).trans hr, ((OStep.pure hi.lt hb).block _ (lt_of_block hr) hf).2, hB.trans (hb.mono (Nat.le_of_lt (lt_of_block hr))), hlt, hi.lt⟩
 exact h.row
def RDecode (w : World) (l : List UInt8) (e : Ending) (w' : World) : Prop :=
 ∃ (m : M) (vN vQ : Value), m = (if isM l then decM l else zeroM) ∧ e = .returned (.tuple #[.agg (m.rcells vN vQ (strL m.data)), .int .i64 (if isM l then 0 else 2)]) ∧ StrsAt w' vN m.names ∧ QidsAt w' vQ m.qids ∧ Below w.heap.size w w'
theorem rhead_cells (t g : Nat) : ({ zeroM with ty := t, tag := g } : M).rcells (.slice none 0 0) (.slice none 0 0) (strL []) = (({ zeroM with ty := t } : M).rcells (.slice none 0 0) (.slice none 0 0) (strL [])).setIfInBounds 1 (.int .u16 (g : Int)) := rfl
theorem rdecode_results {tmps : Array Value} {w : World} {g : Nat} {cs : Array Value} {x : Value} (h2 : tmps.getD 2 undef = .pointer (some ⟨g, 0, none⟩)) (h4 : tmps.getD 3 undef = x)
  (hg : w.heap[g]? = some (.cells cs 46 (0, 0))) (hs : cs.size = 36) : (results Tryz.f14 tmps).run Tryz.prog w = .ok (.tuple #[.agg cs, x]) w := by
 have hi : (Tryz.prog.info? 46).map (·.size) = some cs.size := by rw [hs]; kernel_rfl
 have h2' : tmps[2]?.getD undef = .pointer (some ⟨g, 0, none⟩) := by simpa using h2
 have h4' : tmps[3]?.getD undef = x := by simpa using h4
 simp [results, Tryz.results14, h2', h4', asAddr, run_loadVar_row w g 46 46 cs (0, 0) _ hg Tryz.underlying46 rfl hi]
theorem rdecode_no {w X : World} {l : List UInt8} (hM : isM l = false) (hB : Below w.heap.size w X) : RDecode w l (.returned (.tuple #[.agg zeroR, .int .i64 2])) (X.setRow w.heap.size zeroR) :=
 ⟨zeroM, .slice none 0 0, .slice none 0 0, by rw [hM]; rfl, by rw [hM]; rfl, RowAt.nil, RowAt.nil, below_setRow hB (Nat.le_refl _) _⟩
theorem rdecode_yes {w X : World} {l : List UInt8} {m : M} {vN vQ : Value} (hM : isM l = true) (hm : m = decM l) (hN : StrsAt X vN m.names) (hNb : ∀ k, vN.ownBlock = some k → w.heap.size < k) (hQ : QidsAt X vQ m.qids) (hQb : ∀ k, vQ.ownBlock = some k → w.heap.size < k) (hB : Below w.heap.size w X) :
  RDecode w l (.returned (.tuple #[.agg (m.rcells vN vQ (strL m.data)), .int .i64 0])) (X.setRow w.heap.size (m.rcells vN vQ (strL m.data))) :=
 ⟨m, vN, vQ, by rw [hM, hm]; rfl, by rw [hM]; rfl, RowAt.other hN (by simp) fun j hj => setRow_other _ _ _ _ (by have := hNb j hj; omega), RowAt.other hQ (by simp) fun j hj => setRow_other _ _ _ _ (by have := hQb j hj; omega), below_setRow hB (Nat.le_refl _) _⟩

set_option maxHeartbeats 3200000 in
theorem rdecode_any (v : Value) (l : List UInt8) (w : World) (hv : BytesAt w v l) (hl : l.length ≤ 1000000000) : Calls Tryz.prog 14 #[v] w (RDecode w l) := by
 obtain ⟨a, c, rfl, _, _, _⟩ := hv.form
 obtain ⟨ty, hty⟩ : ∃ t, t = tv 1 (l, 0) := ⟨_, rfl⟩
 obtain ⟨tg, htg⟩ : ∃ t, t = tv 2 (rd 1 (l, 0)) := ⟨_, rfl⟩
 have hty2 : ty < 256 := by rw [hty]; exact tv_lt 1 (l, 0) (by omega)
 have htg2 : tg < 65536 := by rw [htg]; exact tv_lt 2 (rd 1 (l, 0)) (by omega)
 have c1 : IntKind.u8.wrap (ty : Int) = (ty : Int) := IntWalk.u8_in _ (by omega)
 have c2 : IntKind.u16.wrap (tg : Int) = (tg : Int) := IntWalk.u16_in _ (by omega)
 have hM := hid (show headM l = { zeroM with ty := ty, tag := tg } by rw [hty, htg]; rfl)
 obtain ⟨W1, hW1⟩ : ∃ W, W = (w.alloc (.cells zeroR 46)).alloc (.cells #[.slice a l.length c, .int .i64 0, .int .i64 0] 86) := ⟨_, rfl⟩
 have hb1 := (Below.refl w.heap.size w).alloc (Nat.le_refl _) (.cells zeroR 46)
 have hb2 := (Below.refl (w.alloc (.cells zeroR 46)).heap.size (w.alloc (.cells zeroR 46))).alloc (Nat.le_refl _) (.cells #[.slice a l.length c, .int .i64 0, .int .i64 0] 86)
 have hz : (w.alloc (.cells zeroR 46)).heap.size = w.heap.size + 1 := by simp
 have hi1 : RInAt W1 (w.heap.size + 1) (l, 0) := by
  have h := rin_new (w.alloc (.cells zeroR 46)) _ l (hv.below hb1) hl
  rw [hz] at h
  rw [hW1]; exact h
 have hr1 : W1.heap[w.heap.size]? = some (.cells zeroR 46 (0, 0)) := by rw [hW1, heap_alloc_old _ _ (by simp), heap_alloc_new]
 have hf1 : ¬ Foot W1 (w.heap.size + 1) w.heap.size := by
  intro hf
  rcases hf with he | ⟨v', hv', hk⟩
  ·omega
  ·rw [hW1, block_cell (heap2 _ _ _) 0] at hv'
   cases hv'
   exact Nat.lt_irrefl _ (hv.lt hk)
 have hB1 : Below w.heap.size w W1 := by rw [hW1]; exact hb1.trans (hb2.mono (by simp))
 rw [zeroR_lit] at hW1
 replace hr1 := hid hr1
 replace hf1 := hid hf1
 replace hB1 := hid hB1
 have ht1 := hid (rtake_at _ 1 (l, 0) _ (by omega) (by omega) hi1)
 rw [← hty] at ht1
 clear hb1 hb2 hz hi1 hv
 replace hty := hid hty
 go_enter Tryz.func14, Tryz.ntmps14
 go_wp2_with (rw [← hW1]; replace hW1 := hid hW1)
 try (rw [← hW1]; replace hW1 := hid hW1)
 refine ht1.out.mono ?_
 rintro e w2 ⟨rfl, hi2, hs2⟩
 have hr2 := hid (hs2.block _ (lt_of_block hr1.out) hf1.out)
 obtain ⟨W3, hW3⟩ : ∃ W, W = (w2.alloc (.cells zeroR 46)).setRow w2.heap.size (({ zeroM with ty := ty } : M).rcells (.slice none 0 0) (.slice none 0 0) (strL [])) := ⟨_, rfl⟩
 have hA3 : RDA w W3 (w.heap.size + 1) w2.heap.size (({ zeroM with ty := ty } : M).rcells (.slice none 0 0) (.slice none 0 0) (strL [])) (rd 1 (l, 0)) := by
  rw [hW3]
  exact RDA.start (w0 := w) zeroR _ hi2 (hr2.out.1.trans hr1.out) hr2.out.2 (hB1.out.trans (hs2.below.mono (by omega))) (by omega)
 have hnew := hid (heap_alloc_new w2 (.cells zeroR 46))
 have ht3 := hid (rtake_at _ 2 (rd 1 (l, 0)) _ (by omega) (by omega) hA3.inn)
 rw [← htg] at ht3
 replace hA3 := hid hA3
 replace htg := hid htg
 clear hi2 hs2 hr1 hf1 ht1 hB1 hr2
 rw [zeroR_lit] at hnew hW3
 go_upto_region 3 with (first
  | (refine wpList_store_row (by rfl) 46 (.tmp 5) (.tmp 12) (by rfl) w2.heap.size (({ zeroM with ty := ty } : M).rcells (.slice none 0 0) (.slice none 0 0) (strL [])) (by rfl) (by rfl) 46 _ hnew.out (by kernel_rfl) (by kernel_rfl) (by kernel_rfl) ?_)
  | (rw [← hW3]; replace hW3 := hid hW3))
 try (rw [← hW3]; replace hW3 := hid hW3)
 clear hnew
 generalize w2.heap.size = q at *
 go_wp2_with fail
 refine ht3.out.mono ?_
 rintro e w4 ⟨rfl, hi4, hs4⟩
 have hA4 := hid (hA3.out.step hi4 hs4)
 have q1 : w4.cell? ⟨q, 1, none⟩ = some (.int .u16 0) := (block_cell hA4.out.blk 1).trans rfl
 have f1 := block_free hA4.out.blk 1
 have hA5 := hid (hA4.out.set 1 (.int .u16 (tg : Int)) (rhead_cells ty tg).symm)
 obtain ⟨W5, hW5⟩ : ∃ W, W = w4.setCell ⟨q, 1, none⟩ (.int .u16 (tg : Int)) := ⟨_, rfl⟩
 rw [← hW5] at hA5
 clear hA3 ht3 hi4 hs4
 have hE : ({ zeroM with ty := ty, tag := tg } : M).rcells (.slice none 0 0) (.slice none 0 0) (strL []) = (headM l).rcells (.slice none 0 0) (.slice none 0 0) (strL (headM l).data) := by rw [hM.out]; rfl
 have hA6 : Hid (RDA w W5 (w.heap.size + 1) q ((headM l).rcells (.slice none 0 0) (.slice none 0 0) (strL (headM l).data)) (headR l)) := hid (by rw [← hE]; exact hA5.out)
 have hmt : Hid ((headM l).ty = ty) := hid (by rw [hM.out])
 have hmN : Hid ((headM l).names = []) := hid (by rw [hM.out]; rfl)
 have hmQ : Hid ((headM l).qids = []) := hid (by rw [hM.out]; rfl)
 have hIs := hid (isM_ref l)
 have hNo1 : Hid ((headR l).2 ≠ 0 → isM l = false) := hid (fun h => by unfold isM; simp [h])
 have hNo2 : Hid (knownT ty = false → isM l = false) := hid (fun h => by unfold isM; rw [hmt.out, h]; simp)
 have q0 : W5.cell? ⟨q, 0, none⟩ = some (.int .u8 (ty : Int)) := by rw [block_cell hA6.out.blk 0, hM.out]; rfl
 have i2 := hA6.out.inn.bad2.1
 have hkn := hid (rknown_any ty W5 hty2)
 clear hE hA5 hA4 hM
 generalize headM l = m0 at *
 generalize headR l = p0 at *
 have hzr := hid hA6.out.res
 go_upto_region 4 with (rw [← hW5]; replace hW5 := hid hW5)
 try (rw [← hW5]; replace hW5 := hid hW5)
 clear q1 f1
 by_cases g0 : p0.2 = 0
 case neg =>
  have k0 : ((p0.2 : Int) != 0) = true := by simpa using g0
  have hno := hid (hNo1.out g0)
  clear g0
  rw [zeroR_lit] at hzr
  go_wp2_with (refine wpList_store_row (by rfl) 46 (.tmp 2) (.tmp 28) (by rfl) w.heap.size zeroR (by rfl) (by rfl) 46 _ hzr.out (by kernel_rfl) (by kernel_rfl) (by kernel_rfl) ?_)
  refine bodyPost_ret (rdecode_results rfl rfl (setRow_heap _ _ _ zeroR _ _ hzr.out) rfl) rfl ?_
  exact rdecode_no hno.out hA6.out.below
 have k0 : ((p0.2 : Int) != 0) = false := by simpa using g0
 go_wp2_with fail
 refine hkn.out.mono ?_
 rintro e w6 ⟨rfl, rfl⟩
 rcases hk : knownT ty with _ | _
 ·have hno := hid (hNo2.out hk)
  rw [zeroR_lit] at hzr
  go_wp2_with (refine wpList_store_row (by rfl) 46 (.tmp 2) (.tmp 28) (by rfl) w.heap.size zeroR (by rfl) (by rfl) 46 _ hzr.out (by kernel_rfl) (by kernel_rfl) (by kernel_rfl) ?_)
  refine bodyPost_ret (rdecode_results rfl rfl (setRow_heap _ _ _ zeroR _ _ hzr.out) rfl) rfl ?_
  exact rdecode_no hno.out hA6.out.below
 have hkm : Hid (knownT m0.ty = true) := hid (by rw [hmt.out]; exact hk)
 have hblk := hid hA6.out.blk
 have hfill := hid (rfill_any (w.heap.size + 1) p0 m0 W5 hkm.out hmN.out hmQ.out hA6.out.inn)
 clear i2 q0 hkn
 replace g0 := hid g0
 replace hk := hid hk
 go_wp2_with (refine wpList_load_row (by rfl) 46 (.tmp 5) (by rfl) q (by rfl) 46 (m0.rcells (.slice none 0 0) (.slice none 0 0) (strL m0.data)) (0, 0) _ hblk.out Tryz.underlying46 (by rfl) (by kernel_rfl) ?_)
 refine hfill.out.mono ?_
 rintro e w7 ⟨vN, vQ, rfl, ⟨hN7, hNb⟩, ⟨hQ7, hQb⟩, hi7, hs7⟩
 have hA7 := hid (hA6.out.step hi7 hs7)
 have hblk7 := hid hA7.out.blk
 obtain ⟨m1, hm1⟩ : ∃ m, m = (rins (slots m0.ty) p0 m0).2 := ⟨_, rfl⟩
 obtain ⟨p1, hp1⟩ : ∃ m, m = (rins (slots m0.ty) p0 m0).1 := ⟨_, rfl⟩
 rw [← hm1] at hN7 hQ7 hIs ⊢
 rw [← hp1] at hA7 hIs
 have hlq : q < W5.heap.size := lt_of_block hblk.out
 have hlw : w.heap.size < W5.heap.size := lt_of_block hA6.out.res
 have hM1 : m1.rcells vN vQ (strL m1.data) = m1.rcells vN vQ (strL m1.data) := rfl
 have hS1 : Hid ((m1.rcells vN vQ (strL m1.data)).size = 36 ∧ (m1.rcells vN vQ (strL m1.data)).all (·.oneCell') = true) := hid ⟨rfl, by
  obtain ⟨aN, cN, eN⟩ : ∃ a c, vN = .slice a m1.names.length c := by obtain ⟨_, a, c, h, _⟩ := hN7; exact ⟨a, c, h⟩
  obtain ⟨aQ, cQ, eQ⟩ : ∃ a c, vQ = .slice a m1.qids.length c := by obtain ⟨_, a, c, h, _⟩ := hQ7; exact ⟨a, c, h⟩
  rw [eN, eQ]; kernel_rfl⟩
 obtain ⟨W8, hW8⟩ : ∃ W, W = w7.setRow q (m1.rcells vN vQ (strL m1.data)) := ⟨_, rfl⟩
 have hA8 : Hid (RDA w W8 (w.heap.size + 1) q (m1.rcells vN vQ (strL m1.data)) p1) := hid (by rw [hW8]; exact hA7.out.row)
 have hN8 := hid (show StrsAt W8 vN m1.names by rw [hW8]; exact RowAt.other hN7 (by simp) fun j hj => setRow_other _ _ _ _ (by have := (hNb j hj).1; omega))
 have hQ8 := hid (show QidsAt W8 vQ m1.qids by rw [hW8]; exact RowAt.other hQ7 (by simp) fun j hj => setRow_other _ _ _ _ (by have := (hQb j hj).1; omega))
 have hNb8 := hid (show ∀ k, vN.ownBlock = some k → w.heap.size < k from fun k hk => by have := (hNb k hk).1; omega)
 have hQb8 := hid (show ∀ k, vQ.ownBlock = some k → w.heap.size < k from fun k hk => by have := (hQb k hk).1; omega)
 have hlen1 := hA8.out.inn.len
 clear hM1 hN7 hQ7 hNb hQb hi7 hs7 hA7 hlq hlw hfill hblk
 replace hm1 := hid hm1
 replace hp1 := hid hp1
 go_upto_region 7 with (first
  | (refine wpList_store_row (by rfl) 46 (.tmp 5) (.tmp 31) (by rfl) q (m1.rcells vN vQ (strL m1.data)) (by rfl) (by rfl) 46 _ hblk7.out (by rw [hS1.out.1]; kernel_rfl) (by rw [hS1.out.1]; kernel_rfl) hS1.out.2 ?_)
  | (rw [← hW8]; replace hW8 := hid hW8))
 try (rw [← hW8]; replace hW8 := hid hW8)
 clear hblk7
 have i2 := hA8.out.inn.bad2.1
 have hz8 := hid hA8.out.res
 by_cases g1 : p1.2 = 0
 case neg =>
  have k1 : ((p1.2 : Int) != 0) = true := by simpa using g1
  have hno : Hid (isM l = false) := hid (by
   cases hh : isM l
   ·rfl
   ·exact absurd (hIs.out.1 hh).2.2.1 g1)
  clear g1
  rw [zeroR_lit] at hz8
  go_wp2_with (refine wpList_store_row (by rfl) 46 (.tmp 2) (.tmp 42) (by rfl) w.heap.size zeroR (by rfl) (by rfl) 46 _ hz8.out (by kernel_rfl) (by kernel_rfl) (by kernel_rfl) ?_)
  refine bodyPost_ret (rdecode_results rfl rfl (setRow_heap _ _ _ zeroR _ _ hz8.out) rfl) rfl ?_
  exact rdecode_no hno.out hA8.out.below
 have k1 : ((p1.2 : Int) != 0) = false := by simpa using g1
 have hleft := hid (rleft_at _ _ _ hA8.out.inn)
 go_wp2_with fail
 refine hleft.out.mono ?_
 rintro e w9 ⟨rfl, hb9⟩
 have hA9 := hid (hA8.out.pure hb9)
 have hN9 := hid (RowAt.below hN8.out hb9)
 have hQ9 := hid (RowAt.below hQ8.out hb9)
 have hz9 := hid hA9.out.res
 have hblk9 := hid hA9.out.blk
 clear i2 hb9 hleft
 replace g1 := hid g1
 obtain ⟨r, hr⟩ : ∃ r, r = lt p1 := ⟨_, rfl⟩
 rw [← hr] at hIs ⊢
 replace hr := hid hr
 by_cases g2 : r = 0
 ·subst g2
  have hM : isM l = true := by
   cases hh : isM l
   ·exact absurd rfl (hIs.out.2 hh g0.out hkm.out g1.out)
   ·rfl
  have hmd := hid (hIs.out.1 hM).2.2.2.2
  replace hM := hid hM
  rw [zeroR_lit] at hz9
  go_wp2_with (first
   | (refine wpList_load_row (by rfl) 46 (.tmp 5) (by rfl) q (by rfl) 46 (m1.rcells vN vQ (strL m1.data)) (0, 0) _ hblk9.out Tryz.underlying46 (by rfl) (by kernel_rfl) ?_)
   | (refine wpList_store_row (by rfl) 46 (.tmp 2) (.tmp 43) (by rfl) w.heap.size (m1.rcells vN vQ (strL m1.data)) (by rfl) (by rfl) 46 _ hz9.out (by rw [hS1.out.1]; kernel_rfl) (by rw [hS1.out.1]; kernel_rfl) hS1.out.2 ?_))
  refine bodyPost_ret (rdecode_results rfl rfl (setRow_heap _ _ _ _ _ _ hz9.out) hS1.out.1) rfl ?_
  exact rdecode_yes hM.out hmd.out hN9.out hNb8.out hQ9.out hQb8.out hA9.out.below
 ·have k2 : decide ((0 : Int) < (r : Int)) = true := by simp; omega
  have k3 : decide (0 < r) = true := by simp; omega
  have hno : Hid (isM l = false) := hid (by
   cases hh : isM l
   ·rfl
   ·exact absurd (hIs.out.1 hh).2.2.2.1 g2)
  replace g2 := hid g2
  rw [zeroR_lit] at hz9
  go_wp2_with (refine wpList_store_row (by rfl) 46 (.tmp 2) (.tmp 42) (by rfl) w.heap.size zeroR (by rfl) (by rfl) 46 _ hz9.out (by kernel_rfl) (by kernel_rfl) (by kernel_rfl) ?_)
  refine bodyPost_ret (rdecode_results rfl rfl (setRow_heap _ _ _ zeroR _ _ hz9.out) rfl) rfl ?_
  exact rdecode_no hno.out hA9.out.below
end Go.Proofs.YtlmojhlacfjmaaaGreat
