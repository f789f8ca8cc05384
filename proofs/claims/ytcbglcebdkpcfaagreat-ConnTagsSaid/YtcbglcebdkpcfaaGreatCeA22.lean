/- What qid and stat of the reference's out write; the state of body along a message's fields. Conditions: bounds on lengths, numbers in their types.
What body of the reference's out writes, for walks, reads and writes. Conditions: numbers in their types, bounds on lengths.
Texts are equal byte by byte. No condition. -/
import Derived.Test.YtcbglcebdkpcfaaGreatCeA21
import Derived.Test.YtcbglcebdkpcfaaGreatCeA09
import Derived.Test.YtcbglcebdkpcfaaGreatCeA01
namespace Go.Proofs.YtcbglcebdkpcfaaGreat
section
open Go.RowKit
set_option maxRecDepth 100000
set_option linter.unusedVariables false

def Slot.r (m : M) : Slot → List UInt8
  | .msize => numBytes m.msize 4
  | .version => putTextR m.version
  | .fid => numBytes m.fid 4
  | .afid => numBytes m.afid 4
  | .new => numBytes m.new 4
  | .uname => putTextR m.uname
  | .aname => putTextR m.aname
  | .ename => putTextR m.ename
  | .old => numBytes m.old 2
  | .names => numBytes m.names.length 2 ++ m.names.flatMap putTextR
  | .qids => numBytes m.qids.length 2 ++ qidsBytes m.qids
  | .qid => m.qid.bytes
  | .iounit => numBytes m.iounit 4
  | .mode => numBytes m.mode 1
  | .perm => numBytes m.perm 4
  | .name => putTextR m.name
  | .offset => numBytes m.offset 8
  | .count => numBytes m.count 4
  | .data => numBytes m.data.length 4 ++ m.data
  | .stat => numBytes m.stat.bytes.length 2 ++ m.stat.bytes
def Slot.re (m : M) : Slot → Nat
  | .version => mayN m.version
  | .uname => mayN m.uname
  | .aname => mayN m.aname
  | .ename => mayN m.ename
  | .names => (m.names.map mayN).foldl firstE 0
  | .name => mayN m.name
  | .stat => m.stat.err
  | _ => 0
def M.rcells (m : M) (vN vQ : Value) (d : ByteArray) : Array Value := m.cells vN vQ (.string d)
structure RFew (m : M) : Prop where
  few : MFew m
  names : m.names.length ≤ 30
  qids : m.qids.length ≤ 30
  data : m.data.length ≤ 10000
theorem texts_len : ∀ (L : List ByteArray), (∀ s ∈ L, s.size ≤ 1000) → (L.flatMap putTextR).length ≤ L.length * 1002
  | [], _ => by simp
  | s :: l, h => by
    have h1 := texts_len l fun t ht => h t (by simp [ht])
    have h2 := putTextR_len s
    have h3 := h s (by simp)
    simp only [List.flatMap_cons, List.length_append, List.length_cons]
    omega
theorem stat_bytes_len {s : Stat} (h : Few s) : s.bytes.length ≤ 4200 := by
  rw [bytes_len]
  obtain ⟨h1, h2, h3, h4⟩ := h
  split
  · unfold Stat.size; omega
  · omega
theorem RFew.len {m : M} (h : RFew m) (s : Slot) : (Slot.r m s).length ≤ 31000 := by
  have h1 := putTextR_len m.version
  have h2 := putTextR_len m.uname
  have h3 := putTextR_len m.aname
  have h4 := putTextR_len m.ename
  have h5 := putTextR_len m.name
  have h6 := h.few.version
  have h7 := h.few.uname
  have h8 := h.few.aname
  have h9 := h.few.ename
  have h10 := h.few.name
  have h11 := texts_len m.names h.few.names
  have h12 := qidsBytes_len m.qids
  have h13 := stat_bytes_len h.few.stat
  obtain ⟨_, i1, i2, i3⟩ := h
  cases s <;> simp only [Slot.r, QidV.bytes, qidBytes, List.length_append, numBytes_length] <;> omega

theorem RowAt.rstep {w w' : World} {b k n : Nat} {v : Value} {xs : List Value} (h : RowAt w k v n xs) (hs : RStep b w w') (hf : ∀ j, v.ownBlock = some j → ¬ Foot w b j) : RowAt w' k v n xs :=
  RowAt.other h hs.below.size fun j hj => (hs.block j (h.blk hj) (hf j hj)).1

structure RA0 (w : World) (b : Nat) (m : M) (vN vQ : Value) (d : ByteArray) (xs : List UInt8) (e : Nat) : Prop where
  out : ROut w b xs e
  names : StrsAt w vN m.names
  nf : ∀ k, vN.ownBlock = some k → ¬ Foot w b k
  qids : QidsAt w vQ m.qids
  qf : ∀ k, vQ.ownBlock = some k → ¬ Foot w b k
  data : d.data.toList = m.data
structure RA (w0 w : World) (b q : Nat) (m : M) (vN vQ : Value) (d : ByteArray) (xs : List UInt8) (e : Nat) : Prop where
  out : ROut w b xs e
  blk : w.heap[q]? = some (.cells (m.rcells vN vQ d) 70 (0, 0))
  foot : ¬ Foot w b q
  names : StrsAt w vN m.names
  nf : ∀ k, vN.ownBlock = some k → ¬ Foot w b k
  qids : QidsAt w vQ m.qids
  qf : ∀ k, vQ.ownBlock = some k → ¬ Foot w b k
  data : d.data.toList = m.data
  st : RStep b w0 w
theorem RA.step {w0 w w2 : World} {b q : Nat} {m : M} {vN vQ : Value} {d : ByteArray} {xs ys : List UInt8} {e e2 : Nat} (h : RA w0 w b q m vN vQ d xs e) (ho : ROut w2 b ys e2) (hs : RStep b w w2) : RA w0 w2 b q m vN vQ d ys e2 :=
  have hq := hs.block q (lt_of_block h.blk) h.foot
  ⟨ho, hq.1.trans h.blk, hq.2, RowAt.rstep h.names hs h.nf, fun k hk => (hs.block k (RowAt.blk h.names hk) (h.nf k hk)).2,
    RowAt.rstep h.qids hs h.qf, fun k hk => (hs.block k (RowAt.blk h.qids hk) (h.qf k hk)).2, h.data, h.st.trans hs⟩
theorem RA.drew {w0 w : World} {b q : Nat} {m : M} {vN vQ : Value} {d : ByteArray} {xs : List UInt8} {e : Nat} (h : RA w0 w b q m vN vQ d xs e) : RA w0 w.drew b q m vN vQ d xs e :=
  h.step (h.out.below (Below.refl _ _).drew) (RStep.pure h.out.lt (Below.refl _ _).drew)
theorem RA.cell {w0 w : World} {b q : Nat} {m : M} {vN vQ : Value} {d : ByteArray} {xs : List UInt8} {e : Nat} (h : RA w0 w b q m vN vQ d xs e) (i : Nat) : w.cell? ⟨q, i, none⟩ = (m.rcells vN vQ d)[i]? := block_cell h.blk i
theorem RA0.start {w : World} {b : Nat} {m : M} {vN vQ : Value} {d : ByteArray} {xs : List UInt8} {e : Nat} (h : RA0 w b m vN vQ d xs e) :
    RA w (w.alloc (.cells (m.rcells vN vQ d) 70)) b w.heap.size m vN vQ d xs e := by
  have hb : Below w.heap.size w (w.alloc (.cells (m.rcells vN vQ d) 70)) := (Below.refl _ _).alloc (Nat.le_refl _) _
  have hs := RStep.pure h.out.lt hb
  exact ⟨h.out.below hb, heap_alloc_new _ _, h.out.new hb (Nat.le_refl _), RowAt.rstep h.names hs h.nf, fun k hk => (hs.block k (RowAt.blk h.names hk) (h.nf k hk)).2,
    RowAt.rstep h.qids hs h.qf, fun k hk => (hs.block k (RowAt.blk h.qids hk) (h.qf k hk)).2, h.data, hs⟩

def RAGood (w0 : World) (b q : Nat) (m : M) (vN vQ : Value) (d : ByteArray) (xs : List UInt8) (e : Nat) (en : Ending) (w' : World) : Prop :=
  en = .returned (.tuple #[]) ∧ RA w0 w' b q m vN vQ d xs e
theorem RA.good {w0 w : World} {b q : Nat} {m : M} {vN vQ : Value} {d : ByteArray} {xs ys : List UInt8} {e e2 : Nat} (h : RA w0 w b q m vN vQ d xs e) {en : Ending} {w' : World} (hg : RGood b ys e2 w en w') : RAGood w0 b q m vN vQ d ys e2 en w' :=
  ⟨hg.1, h.step hg.2.1 hg.2.2⟩

theorem rstaS {w : World} {k : Nat} {s : Stat} {t : TypeId} (h : w.heap[k]? = some (.cells s.cells t (0, 0))) :
    w.cell? ⟨k, 0, none⟩ = some (.int .u16 (s.kind : Int)) ∧ w.cell? ⟨k, 1, none⟩ = some (.int .u32 (s.dev : Int)) ∧ w.cell? ⟨k, 2, none⟩ = some (.int .u8 (s.qt : Int)) ∧ w.cell? ⟨k, 3, none⟩ = some (.int .u32 (s.qv : Int)) ∧ w.cell? ⟨k, 4, none⟩ = some (.int .u64 (s.qp : Int)) ∧ w.cell? ⟨k, 5, none⟩ = some (.int .u32 (s.mode : Int)) ∧ w.cell? ⟨k, 6, none⟩ = some (.int .u32 (s.atm : Int)) ∧ w.cell? ⟨k, 7, none⟩ = some (.int .u32 (s.mtm : Int)) ∧ w.cell? ⟨k, 8, none⟩ = some (.int .u64 (s.len : Int)) ∧ w.cell? ⟨k, 9, none⟩ = some (.string s.name) ∧ w.cell? ⟨k, 10, none⟩ = some (.string s.uid) ∧ w.cell? ⟨k, 11, none⟩ = some (.string s.gid) ∧ w.cell? ⟨k, 12, none⟩ = some (.string s.muid) :=
  ⟨block_cell h 0, block_cell h 1, block_cell h 2, block_cell h 3, block_cell h 4, block_cell h 5, block_cell h 6, block_cell h 7, block_cell h 8, block_cell h 9, block_cell h 10, block_cell h 11, block_cell h 12⟩

set_option maxHeartbeats 3200000 in
theorem rout_qid (b : Nat) (xs : List UInt8) (e : Nat) (q : QidV) (w : World) (hq : QidOk q) (hx : xs.length ≤ 1000000) (h : ROut w b xs e) :
    Calls Tryz.prog 79 #[.pointer (some ⟨b, 0, none⟩), .agg q.cells] w (RGood b (xs ++ q.bytes) e w) := by
  obtain ⟨aa, ca, hbx⟩ := h.box
  obtain ⟨W, hW⟩ : ∃ W, W = w.alloc (.cells q.cells 66) := ⟨_, rfl⟩
  have hqb := hid (fun W => qidbytes_any q.t q.v q.p W hq.t hq.v hq.p)
  have hB := hid (show Below w.heap.size w W.drew from by rw [hW]; exact ((Below.refl w.heap.size w).alloc (Nat.le_refl _) _).drew)
  have hwr := hid (show W.heap[w.heap.size]? = some (.cells q.cells 66 (0, 0)) by rw [hW, heap_alloc_new])
  have s0 : W.drew.cell? ⟨b, 0, none⟩ = some (.slice aa xs.length ca) := (hB.out.cell (p := ⟨b, 0, none⟩) h.lt).trans (block_cell hbx.blk 0)
  have s1 : W.drew.cell? ⟨w.heap.size, 0, none⟩ = some (.int .u8 (q.t : Int)) := block_cell hwr.out 0
  have s2 : W.drew.cell? ⟨w.heap.size, 1, none⟩ = some (.int .u32 (q.v : Int)) := block_cell hwr.out 1
  have s3 : W.drew.cell? ⟨w.heap.size, 2, none⟩ = some (.int .u64 (q.p : Int)) := block_cell hwr.out 2
  have hwd := hid (show w.heap.size < W.drew.heap.size by rw [hW]; simp [World.drew])
  obtain ⟨l, hl⟩ : ∃ l, l = q.bytes := ⟨_, rfl⟩
  have hnl := hid (show l.length ≤ 13 by rw [hl]; simp [QidV.bytes, qidBytes, numBytes_length])
  rw [show qidBytes q.t q.v q.p = q.bytes from rfl, ← hl] at hqb
  rw [← hl]
  have hlt := hid h.lt
  replace hbx := hid hbx
  clear hl h hwr hq
  simp only [QidV.cells] at hW ⊢
  go_enter Tryz.func79, Tryz.ntmps79
  go_wp2_with (rw [← hW]; replace hW := hid hW)
  try (rw [← hW]; replace hW := hid hW)
  go_region_law (first | (refine step_append_rowl elemU8 _ rfl (.tmp 8) (.tmp 10) rfl (b + 1) (.slice aa xs.length ca) xs.length (xs.map byteV) rfl (own_below hbx.out.own hbn.out) _ l.length (l.map byteV) rfl (RowAt.of_own hr.out) (bytes_oneCell _) (by have := hnl.out; unfold maxLen; omega) (by have := hnl.out; omega) (by have := hlt.out; have := hbn.out.size; omega) ?_; intro a' c' w' h2 h3 h4; obtain ⟨k1, k2, k3, k4⟩ := rout_set (ys := l) hbx.out.blk hbx.out.own hbn.out h3 h2 (by simp) h4; replace k3 := hid k3; replace k4 := hid k4) | (go_simp; ((go_at_call 86); (with_reducible refine (hqb.out _).mono ?_); rintro e wn ⟨v', rfl, hr, hbm⟩; obtain ⟨a9, c9, rfl⟩ := own_form hr; replace s0 := (hbm.cell (p := ⟨b, 0, none⟩) (Nat.lt_of_lt_of_le hlt.out hB.out.size)).trans s0; have hbn := hid (sn hB.out hbm); replace hr := hid hr)))
  all_goals
    clear s0 s1 s2 s3 k1 k2 h2 h3 h4 hbn hbm hr hbx hqb hnl
    go_wp2_with fail
    go_end0
    exact ⟨rfl, k3.out, k4.out⟩

set_option maxHeartbeats 3200000 in
theorem rout_stat (b : Nat) (xs : List UInt8) (e : Nat) (s : Stat) (w : World) (hok : StatOk s) (hf : Few s) (hx : xs.length ≤ 900000) (h : ROut w b xs e) :
    Calls Tryz.prog 80 #[.pointer (some ⟨b, 0, none⟩), .agg s.cells] w (RGood b (xs ++ (numBytes s.bytes.length 2 ++ s.bytes)) (firstE e s.err) w) := by
  have hc := hid (fun W => statbytes_new s W hok hf)
  have hll := hid (bytes_le s hf)
  obtain ⟨W, hW⟩ : ∃ W, W = w.alloc (.cells s.cells 68) := ⟨_, rfl⟩
  have hB0 := hid (show Below w.heap.size w W by rw [hW]; exact (Below.refl w.heap.size w).alloc (Nat.le_refl _) _)
  have hwr : W.heap[w.heap.size]? = some (.cells s.cells 68 (0, 0)) := by rw [hW, heap_alloc_new]
  have hst := hid hwr
  obtain ⟨t, ht⟩ : ∃ t, t = s.err := ⟨_, rfl⟩
  obtain ⟨l, hl⟩ : ∃ l, l = s.bytes := ⟨_, rfl⟩
  have hc2 : Hid (∀ W, Calls Tryz.prog 87 #[.agg s.cells] W fun e w' => ∃ v', e = .returned (.tuple #[v', .int .i64 (t : Int)]) ∧ (BytesAt w' v' l ∧ ∀ k, v'.ownBlock = some k → W.heap.size ≤ k) ∧ Below W.heap.size W w') := hid (fun W => by rw [ht, hl]; exact hc.out W)
  rw [← hl] at hll
  rw [← ht, ← hl]
  clear hc ht hl hwr hok hf
  have hR0 := hid (h.below hB0.out)
  have hlt0 := hid h.lt
  obtain ⟨s0, s1, s2, s3, s4, s5, s6, s7, s8, s9, s10, s11, s12⟩ := rstaS hst.out
  simp only [Stat.cells] at hW hc2 ⊢
  clear hst
  replace h := hid h
  have hnum := hid (fun (xs : List UInt8) (e : Nat) (W : World) (h : ROut W b xs e) (hx : xs.length ≤ 1000000) => rout_num b xs e 2 l.length W (by have := hll.out; omega) (by omega) (by omega) hx h)
  have hcv : IntKind.u64.wrap (l.length : Int) = (l.length : Int) := IntWalk.u64_in _ (by have := hll.out; omega)
  have htail : Hid (∀ (W0 w1 w3 : World) (v' : Value), True) := hid (fun _ _ _ _ => trivial)
  clear htail
  by_cases h0 : t = 0
  · subst h0
    rw [firstE_zero]
    go_enter Tryz.func80, Tryz.ntmps80
    go_wp2_with (rw [← hW]; replace hW := hid hW)
    try (rw [← hW]; replace hW := hid hW)
    refine (hc2.out _).mono ?_
    rintro en w1 ⟨v', rfl, ⟨hv, hn⟩, hb1⟩
    clear s0 s1 s2 s3 s4 s5 s6 s7 s8 s9 s10 s11 s12
    obtain ⟨av, cv, rfl, _, _⟩ := hv.form
    have hR1 := hR0.out.below hb1
    have hv1 := hid (show ∀ k, (Value.slice av l.length cv).ownBlock = some k → ¬ Foot w1 b k from fun k hk => hR0.out.new hb1 (hn k hk))
    have hs1 := hid (RStep.pure hlt0.out (sn hB0.out hb1))
    replace hv := hid hv
    clear hn hb1
    replace hR1 := hid hR1
    go_wp2_with fail
    refine (hnum.out xs e w1 hR1.out (by omega)).mono ?_
    rintro en w3 ⟨rfl, hR3, hs3⟩
    have hv3 := hid (RowAt.rstep hv.out hs3 hv1.out)
    obtain ⟨aa, ca, hB⟩ := hR3.box
    have s0 : w3.cell? ⟨b, 0, none⟩ = some (.slice aa (xs ++ numBytes l.length 2).length ca) := block_cell hB.blk 0
    have hxl := hid (show (xs ++ numBytes l.length 2).length ≤ 900002 by simp [numBytes_length]; omega)
    replace hB := hid hB
    replace hs3 := hid hs3
    clear hR3
    generalize hzz : xs ++ numBytes l.length 2 = zs at s0 hxl hB
    replace hzz := hid hzz
    go_wp2_with (refine wpList_append_rowl elemU8 _ rfl (.tmp 33) (.tmp 34) rfl (b + 1) (.slice aa zs.length ca) zs.length (zs.map byteV) rfl hB.out.own _ l.length (l.map byteV) rfl hv3.out (bytes_oneCell _) (by have := hll.out; have := hxl.out; unfold maxLen; omega) (by have := hll.out; have := hxl.out; omega) (by have := lt_of_block hB.out.blk; omega) ?_; intro a' c' w' h2 h3 h4; obtain ⟨k1, k2, k3, k4⟩ := rout_set (ys := l) hB.out.blk hB.out.own (Below.refl _ _) h3 h2 (by simp) h4; replace k3 := hid k3; replace k4 := hid k4; clear h2 h3 h4 s0)
    go_end0
    exact ⟨rfl, by rw [← List.append_assoc, hzz.out]; exact k3.out, (hs1.out.trans hs3.out).trans k4.out⟩
  · have q0 := mayN_ne h0
    by_cases he : e = 0
    · subst he
      rw [firstE_new]
      go_enter Tryz.func80, Tryz.ntmps80
      go_wp2_with (rw [← hW]; replace hW := hid hW)
      try (rw [← hW]; replace hW := hid hW)
      refine (hc2.out _).mono ?_
      rintro en w1 ⟨v', rfl, ⟨hv, hn⟩, hb1⟩
      clear s0 s1 s2 s3 s4 s5 s6 s7 s8 s9 s10 s11 s12
      obtain ⟨av, cv, rfl, _, _⟩ := hv.form
      have hR1 := hR0.out.below hb1
      obtain ⟨aa1, ca1, hB1⟩ := hR1.box
      have s1 : w1.cell? ⟨b, 1, none⟩ = some (.int .i64 0) := block_cell hB1.blk 1
      have s2 : w1.frozen? ⟨b, 1, none⟩ = false := block_free hB1.blk 1
      have hv1 := hid (show ∀ k, (Value.slice av l.length cv).ownBlock = some k → ¬ Foot w1 b k from fun k hk => hR0.out.new hb1 (hn k hk))
      have hs1 := hid (RStep.pure hlt0.out (sn hB0.out hb1))
      obtain ⟨r1, r2⟩ := rout_bad (e2 := t) hR1
      obtain ⟨W2, hW2⟩ : ∃ W2, W2 = w1.setCell ⟨b, 1, none⟩ (.int .i64 (t : Int)) := ⟨_, rfl⟩
      rw [← hW2] at r1 r2
      have hv2 := hid (show ∀ k, (Value.slice av l.length cv).ownBlock = some k → ¬ Foot W2 b k from fun k hk => (r2.block k (RowAt.blk hv hk) (hv1.out k hk)).2)
      replace hv := hid (RowAt.rstep hv r2 hv1.out)
      replace r1 := hid r1
      replace r2 := hid r2
      clear hn hb1 hR1 hB1 hv1
      go_upto_region 4 with (rw [← hW2]; replace hW2 := hid hW2)
      try (rw [← hW2]; replace hW2 := hid hW2)
      clear s1 s2
      go_wp2_with fail
      refine (hnum.out xs t W2 r1.out (by omega)).mono ?_
      rintro en w3 ⟨rfl, hR3, hs3⟩
      have hv3 := hid (RowAt.rstep hv.out hs3 hv2.out)
      obtain ⟨aa, ca, hB⟩ := hR3.box
      have s0 : w3.cell? ⟨b, 0, none⟩ = some (.slice aa (xs ++ numBytes l.length 2).length ca) := block_cell hB.blk 0
      have hxl := hid (show (xs ++ numBytes l.length 2).length ≤ 900002 by simp [numBytes_length]; omega)
      replace hB := hid hB
      replace hs3 := hid hs3
      clear hR3
      generalize hzz : xs ++ numBytes l.length 2 = zs at s0 hxl hB
      replace hzz := hid hzz
      go_wp2_with (refine wpList_append_rowl elemU8 _ rfl (.tmp 33) (.tmp 34) rfl (b + 1) (.slice aa zs.length ca) zs.length (zs.map byteV) rfl hB.out.own _ l.length (l.map byteV) rfl hv3.out (bytes_oneCell _) (by have := hll.out; have := hxl.out; unfold maxLen; omega) (by have := hll.out; have := hxl.out; omega) (by have := lt_of_block hB.out.blk; omega) ?_; intro a' c' w' h2 h3 h4; obtain ⟨k1, k2, k3, k4⟩ := rout_set (ys := l) hB.out.blk hB.out.own (Below.refl _ _) h3 h2 (by simp) h4; replace k3 := hid k3; replace k4 := hid k4; clear h2 h3 h4 s0)
      go_end0
      exact ⟨rfl, by rw [← List.append_assoc, hzz.out]; exact k3.out, ((hs1.out.trans r2.out).trans hs3.out).trans k4.out⟩
    · rw [firstE_old _ he]
      have q1 : ((e : Int) == 0) = false := by simp; omega
      go_enter Tryz.func80, Tryz.ntmps80
      go_wp2_with (rw [← hW]; replace hW := hid hW)
      try (rw [← hW]; replace hW := hid hW)
      refine (hc2.out _).mono ?_
      rintro en w1 ⟨v', rfl, ⟨hv, hn⟩, hb1⟩
      clear s0 s1 s2 s3 s4 s5 s6 s7 s8 s9 s10 s11 s12
      obtain ⟨av, cv, rfl, _, _⟩ := hv.form
      have hR1 := hR0.out.below hb1
      obtain ⟨aa1, ca1, hB1⟩ := hR1.box
      have s1 : w1.cell? ⟨b, 1, none⟩ = some (.int .i64 (e : Int)) := block_cell hB1.blk 1
      have hv1 := hid (show ∀ k, (Value.slice av l.length cv).ownBlock = some k → ¬ Foot w1 b k from fun k hk => hR0.out.new hb1 (hn k hk))
      have hs1 := hid (RStep.pure hlt0.out (sn hB0.out hb1))
      replace hv := hid hv
      clear hn hb1 hB1
      replace hR1 := hid hR1
      go_wp2_with fail
      refine (hnum.out xs e w1 hR1.out (by omega)).mono ?_
      rintro en w3 ⟨rfl, hR3, hs3⟩
      have hv3 := hid (RowAt.rstep hv.out hs3 hv1.out)
      obtain ⟨aa, ca, hB⟩ := hR3.box
      have s0 : w3.cell? ⟨b, 0, none⟩ = some (.slice aa (xs ++ numBytes l.length 2).length ca) := block_cell hB.blk 0
      have hxl := hid (show (xs ++ numBytes l.length 2).length ≤ 900002 by simp [numBytes_length]; omega)
      replace hB := hid hB
      replace hs3 := hid hs3
      clear hR3 s1
      generalize hzz : xs ++ numBytes l.length 2 = zs at s0 hxl hB
      replace hzz := hid hzz
      go_wp2_with (refine wpList_append_rowl elemU8 _ rfl (.tmp 33) (.tmp 34) rfl (b + 1) (.slice aa zs.length ca) zs.length (zs.map byteV) rfl hB.out.own _ l.length (l.map byteV) rfl hv3.out (bytes_oneCell _) (by have := hll.out; have := hxl.out; unfold maxLen; omega) (by have := hll.out; have := hxl.out; omega) (by have := lt_of_block hB.out.blk; omega) ?_; intro a' c' w' h2 h3 h4; obtain ⟨k1, k2, k3, k4⟩ := rout_set (ys := l) hB.out.blk hB.out.own (Below.refl _ _) h3 h2 (by simp) h4; replace k3 := hid k3; replace k4 := hid k4; clear h2 h3 h4 s0)
      go_end0
      exact ⟨rfl, by rw [← List.append_assoc, hzz.out]; exact k3.out, (hs1.out.trans hs3.out).trans k4.out⟩
theorem ra_stat (s : Stat) {w0 w : World} {b q : Nat} {m : M} {vN vQ : Value} {d : ByteArray} {xs : List UInt8} {e : Nat} (hok : StatOk s) (hf : Few s) (hx : xs.length ≤ 900000) (h : RA w0 w b q m vN vQ d xs e) :
    Calls Tryz.prog 80 #[.pointer (some ⟨b, 0, none⟩), .agg s.cells] w (RAGood w0 b q m vN vQ d (xs ++ (numBytes s.bytes.length 2 ++ s.bytes)) (firstE e s.err)) :=
  (rout_stat b xs e s w hok hf hx h.out).mono fun _ _ hg => h.good hg
theorem ra_num (n v : Nat) {w0 w : World} {b q : Nat} {m : M} {vN vQ : Value} {d : ByteArray} {xs : List UInt8} {e : Nat} (hv : v < 18446744073709551616) (hn1 : 1 ≤ n) (hn : n ≤ 8) (hx : xs.length ≤ 1000000) (h : RA w0 w b q m vN vQ d xs e) :
    Calls Tryz.prog 61 #[.pointer (some ⟨b, 0, none⟩), .int .i64 (n : Int), .int .u64 (v : Int)] w (RAGood w0 b q m vN vQ d (xs ++ numBytes v n) e) :=
  (rout_num b xs e n v w hv hn1 hn hx h.out).mono fun _ _ hg => h.good hg
theorem ra_num1 (v : Nat) {w0 w : World} {b q : Nat} {m : M} {vN vQ : Value} {d : ByteArray} {xs : List UInt8} {e : Nat} (hv : v < 18446744073709551616) (hx : xs.length ≤ 1000000) (h : RA w0 w b q m vN vQ d xs e) :
    Calls Tryz.prog 61 #[.pointer (some ⟨b, 0, none⟩), .int .i64 1, .int .u64 (v : Int)] w (RAGood w0 b q m vN vQ d (xs ++ numBytes v 1) e) := ra_num 1 v hv (by omega) (by omega) hx h
theorem ra_num2 (v : Nat) {w0 w : World} {b q : Nat} {m : M} {vN vQ : Value} {d : ByteArray} {xs : List UInt8} {e : Nat} (hv : v < 18446744073709551616) (hx : xs.length ≤ 1000000) (h : RA w0 w b q m vN vQ d xs e) :
    Calls Tryz.prog 61 #[.pointer (some ⟨b, 0, none⟩), .int .i64 2, .int .u64 (v : Int)] w (RAGood w0 b q m vN vQ d (xs ++ numBytes v 2) e) := ra_num 2 v hv (by omega) (by omega) hx h
theorem ra_num4 (v : Nat) {w0 w : World} {b q : Nat} {m : M} {vN vQ : Value} {d : ByteArray} {xs : List UInt8} {e : Nat} (hv : v < 18446744073709551616) (hx : xs.length ≤ 1000000) (h : RA w0 w b q m vN vQ d xs e) :
    Calls Tryz.prog 61 #[.pointer (some ⟨b, 0, none⟩), .int .i64 4, .int .u64 (v : Int)] w (RAGood w0 b q m vN vQ d (xs ++ numBytes v 4) e) := ra_num 4 v hv (by omega) (by omega) hx h
theorem ra_num8 (v : Nat) {w0 w : World} {b q : Nat} {m : M} {vN vQ : Value} {d : ByteArray} {xs : List UInt8} {e : Nat} (hv : v < 18446744073709551616) (hx : xs.length ≤ 1000000) (h : RA w0 w b q m vN vQ d xs e) :
    Calls Tryz.prog 61 #[.pointer (some ⟨b, 0, none⟩), .int .i64 8, .int .u64 (v : Int)] w (RAGood w0 b q m vN vQ d (xs ++ numBytes v 8) e) := ra_num 8 v hv (by omega) (by omega) hx h
theorem ra_text (s : ByteArray) {w0 w : World} {b q : Nat} {m : M} {vN vQ : Value} {d : ByteArray} {xs : List UInt8} {e : Nat} (hs : s.size ≤ 1000000) (hx : xs.length ≤ 1000000) (h : RA w0 w b q m vN vQ d xs e) :
    Calls Tryz.prog 78 #[.pointer (some ⟨b, 0, none⟩), .string s] w (RAGood w0 b q m vN vQ d (xs ++ putTextR s) (firstE e (mayN s))) :=
  (rout_text b xs e s w hs hx h.out).mono fun _ _ hg => h.good hg
theorem ra_qid (r : QidV) {w0 w : World} {b q : Nat} {m : M} {vN vQ : Value} {d : ByteArray} {xs : List UInt8} {e : Nat} (hr : QidOk r) (hx : xs.length ≤ 1000000) (h : RA w0 w b q m vN vQ d xs e) :
    Calls Tryz.prog 79 #[.pointer (some ⟨b, 0, none⟩), .agg r.cells] w (RAGood w0 b q m vN vQ d (xs ++ r.bytes) e) :=
  (rout_qid b xs e r w hr hx h.out).mono fun _ _ hg => h.good hg
end
end Go.Proofs.YtcbglcebdkpcfaaGreat

namespace Go.Proofs.YtcbglcebdkpcfaaGreat
section
open Go.RowKit
set_option maxRecDepth 100000
set_option linter.unusedVariables false

theorem run_append_strl {P : Program} (w : World) (base : Nat) (t u ty e : TypeId) (i : TypeInfo) (ht : P.underlying t = some (.slice e)) (hu : P.underlying u = some .string) (hi : P.info? e = some i) (hz : i.zero = some (.int .u8 0))
    (hsize : i.size = 1) (hby : i.bytes = 1) (v : Value) (n : Nat) (xs : List Value) (hown : w.ownsRow base e 1 v n xs) (s : ByteArray)
    (h63 : n + s.size ≤ maxLen) (hbytes : n + s.size ≤ 140737488355328) (hbase : base ≤ w.heap.size) :
    ∃ a' c' w', (Builtin.append_ #[t, u] ty #[v, .string s]).run P w = .ok (.slice a' (n + s.size) c') w' ∧ w'.ownsRow base e 1 (.slice a' (n + s.size) c') (n + s.size) (xs ++ Lib.strCells s) ∧ w.grownBy w' v.ownBlock ∧
      (∀ k, (Value.slice a' (n + s.size) c').ownBlock = some k → v.ownBlock = some k ∨ w.heap.size ≤ k) := by
  obtain ⟨v', w', hr, h2, h3, h4⟩ := Lib.run_append_own_string (P := P) w base t u ty e i ht hu hi hz hsize hby v n xs hown s h63 hbytes hbase
  have hsmall : n + s.size ≤ 9223372036854775807 := by simp only [maxLen] at h63; omega
  have hxl : xs.length = n := by simpa using hown.1
  have hl : ∀ k, v'.ownBlock = some k → v.ownBlock = some k ∨ w.heap.size ≤ k := by
    intro k hk
    rcases hown.2 with ⟨rfl, rfl⟩ | ⟨g, cap, cur, rfl, hbg, hg, hnc, hcm, hcs, htake⟩
    · by_cases hm : s.size = 0
      · rw [h4.mpr ⟨rfl, hm⟩] at hk; cases hk
      · have hr2 := run_append_nil_string (P := P) w t u ty e i (.int .u8 0) ht hu hi hz s (by omega) (by omega) (by rw [hby]; omega)
        rw [hr2] at hr
        injection hr with e1 e2
        rw [← e1] at hk
        cases hk
        exact .inr (Nat.le_refl _)
    · by_cases hroom : n + s.size ≤ cap
      · have hr2 := Lib.run_append_room_string (P := P) w t u ty e i ht hu hi hsize g n cap cur hg s hroom (by have : cur.size = cap := (by simpa using hcs); omega)
        rw [hr2] at hr
        injection hr with e1 e2
        rw [← e1] at hk
        exact .inl hk
      · have holds : ∀ j u, xs[j]? = some u → w.cell? ((⟨g, 0, none⟩ : Addr).add j) = some u := hown.cells (g := g) rfl
        have hr2 := Lib.run_append_grow_string (P := P) w t u ty e i (.int .u8 0) ht hu hi hz ⟨g, 0, none⟩ n cap xs (by rw [hsize]; simpa using hxl) holds s (by omega) (by omega) (by rw [hby]; exact growslice_fits (by omega) (by omega))
        rw [hr2] at hr
        injection hr with e1 e2
        rw [← e1] at hk
        cases hk
        exact .inr (Nat.le_refl _)
  obtain ⟨a', c', rfl⟩ := own_form h2
  exact ⟨a', c', w', hr, h2, h3, hl⟩
theorem step_append_strl {P : Program} {ops : Array Oper} {o : Oper} {a : Act} {K : Act → World → Prop} {Q : Exit → Act → World → Prop} {F : Prop} (w : World) (hgd : o.guard = none) (sl x : Operand) (t u : TypeId)
    (ho : o.op = .call { callee := .builtin .append, args := #[sl, x], argTypes := #[t, u] })
    (base : Nat) (e : TypeId) (i : TypeInfo) (ht : P.underlying t = some (.slice e)) (hu : P.underlying u = some .string) (hi : P.info? e = some i) (hz : i.zero = some (.int .u8 0))
    (hsize : i.size = 1) (hby : i.bytes = 1)
    (v : Value) (n : Nat) (xs : List Value) (hs : a.eval sl = v) (hown : w.ownsRow base e 1 v n xs) (s : ByteArray) (hx : a.eval x = .string s)
    (h63 : n + s.size ≤ maxLen) (hbytes : n + s.size ≤ 140737488355328) (hbase : base ≤ w.heap.size)
    (h : ∀ a' c' w', w'.ownsRow base e 1 (.slice a' (n + s.size) c') (n + s.size) (xs ++ Lib.strCells s) → w.grownBy w' v.ownBlock → (∀ k, (Value.slice a' (n + s.size) c').ownBlock = some k → v.ownBlock = some k ∨ w.heap.size ≤ k) → K (a.put o.dst (.slice a' (n + s.size) c')) w') :
    if Region.wanted o (yielded ops a.tmps) = true then Oper.wp P o a w K Q else F := by
  have hw : Region.wanted o (yielded ops a.tmps) = true := by simp [Region.wanted, hgd]
  rw [if_pos hw]
  obtain ⟨a', c', w', hr, h2, h3, h4⟩ := run_append_strl (P := P) w base t u o.type e i ht hu hi hz hsize hby v n xs hown s h63 hbytes hbase
  unfold Oper.wp execOp
  simp only [ho, resolve, invoke, builtin, Sem.run_bind, Sem.run_pure, Result.andThen_ok, List.map_toArray, List.map_cons, List.map_nil, hs, hx, hr]
  exact h a' c' w' h2 h3 h4
theorem textsR_snoc (L : List ByteArray) (k : Nat) (h : k < L.length) : (L.take (k + 1)).flatMap putTextR = (L.take k).flatMap putTextR ++ putTextR L[k] := by
  rw [List.take_succ_eq_append_getElem h, List.flatMap_append]; simp
theorem errs_snoc (L : List ByteArray) (k e : Nat) (h : k < L.length) : ((L.take (k + 1)).map mayN).foldl firstE e = firstE (((L.take k).map mayN).foldl firstE e) (mayN L[k]) := by
  rw [List.take_succ_eq_append_getElem h, List.map_append, List.foldl_append]; rfl
theorem firstE_assoc (a b c : Nat) : firstE a (firstE b c) = firstE (firstE a b) c := by
  unfold firstE
  by_cases ha : a = 0 <;> by_cases hb : b = 0 <;> simp [ha, hb]
theorem errs_from (l : List Nat) : ∀ e : Nat, l.foldl firstE e = firstE e (l.foldl firstE 0) := by
  induction l with
  | nil => intro e; exact (firstE_zero e).symm
  | cons x l ih =>
    intro e
    show l.foldl firstE (firstE e x) = firstE e (l.foldl firstE (firstE 0 x))
    rw [ih (firstE e x), ih (firstE 0 x), firstE_new, firstE_assoc]
theorem texts_take_len (L : List ByteArray) (h : ∀ s ∈ L, s.size ≤ 1000) (k : Nat) (hk : L.length ≤ 30) : ((L.take k).flatMap putTextR).length ≤ 31000 := by
  have := texts_len (L.take k) fun s hs => h s (List.mem_of_mem_take hs)
  have h2 : (L.take k).length ≤ 30 := by rw [List.length_take]; omega
  omega

set_option maxHeartbeats 3200000 in
theorem rbody_110 (b : Nat) (xs : List UInt8) (e : Nat) (m : M) (vN vQ : Value) (d : ByteArray) (w : World) (hm : MOk m) (hf : RFew m) (hx : xs.length ≤ 1000) (h : RA0 w b m vN vQ d xs e) (ht : m.ty = 110) :
    Calls Tryz.prog 62 #[.pointer (some ⟨b, 0, none⟩), .agg (m.rcells vN vQ d)] w (RGood b (xs ++ ([.fid, .new, .names] : List Slot).flatMap (Slot.r m)) ((([.fid, .new, .names] : List Slot).map (Slot.re m)).foldl firstE e) w) := by
  obtain ⟨a, c, rfl, g1, g2⟩ := StrsAt.form h.names
  obtain ⟨W, hW⟩ : ∃ W, W = w.alloc (.cells (m.rcells (.slice a m.names.length c) vQ d) 70) := ⟨_, rfl⟩
  have hA := hid (show RA w W b w.heap.size m (.slice a m.names.length c) vQ d xs e by rw [hW]; exact h.start)
  have c0 : W.cell? ⟨w.heap.size, 0, none⟩ = some (.int .u8 110) := by rw [hA.out.cell 0]; show some (Value.int .u8 (m.ty : Int)) = _; rw [ht]; rfl
  replace h := hid h
  clear ht
  unfold maxLen at g2
  have hnl := hf.names
  have e_fid : IntKind.u64.wrap (m.fid : Int) = (m.fid : Int) := IntWalk.u64_in _ (by have := hm.fid; omega)
  have e_new : IntKind.u64.wrap (m.new : Int) = (m.new : Int) := IntWalk.u64_in _ (by have := hm.new; omega)
  have e_len : IntKind.u64.wrap (m.names.length : Int) = (m.names.length : Int) := IntWalk.u64_in _ (by omega)
  simp only [M.rcells, M.cells] at hW ⊢
  go_enter Tryz.func62, Tryz.ntmps62
  have c4 : W.cell? ⟨w.heap.size, 4, none⟩ = some (.int .u32 (m.fid : Int)) := hA.out.cell 4
  go_wp2_with (rw [← hW]; replace hW := hid hW)
  try (rw [← hW]; replace hW := hid hW)
  refine (ra_num4 m.fid (by have := hm.fid; omega) (by omega) hA.out).mono ?_
  rintro en w0 ⟨rfl, hA0⟩
  replace hA0 := hid hA0
  clear c0 c4
  have c6 : w0.cell? ⟨w.heap.size, 6, none⟩ = some (.int .u32 (m.new : Int)) := hA0.out.cell 6
  go_wp2_with fail
  refine (ra_num4 m.new (by have := hm.new; omega) (by simp [numBytes_length]; omega) hA0.out).mono ?_
  rintro en w1 ⟨rfl, hA1⟩
  replace hA1 := hid hA1
  clear c6
  have c11 : w1.cell? ⟨w.heap.size, 11, none⟩ = some (.slice a m.names.length c) := hA1.out.cell 11
  go_wp2_with fail
  refine (ra_num2 m.names.length (by omega) (by simp [numBytes_length]; omega) hA1.out).mono ?_
  rintro en w2 ⟨rfl, hA2⟩
  have hX : (xs ++ numBytes m.fid 4 ++ numBytes m.new 4 ++ numBytes m.names.length 2).length ≤ 1010 := by simp [numBytes_length]; omega
  generalize hXX : xs ++ numBytes m.fid 4 ++ numBytes m.new 4 ++ numBytes m.names.length 2 = X at hA2 hX
  replace hXX := hid hXX
  replace hX := hid hX
  replace hA2 := hid hA2
  clear c11
  go_wp2_with fail
  go_loopw [4] (fun kv wr => ∃ k : Nat, k ≤ m.names.length ∧ kv = .int .i64 (k : Int) ∧ Hid (RA w wr b w.heap.size m (.slice a m.names.length c) vQ d (X ++ (m.names.take k).flatMap putTextR) (((m.names.take k).map mayN).foldl firstE e))) (fun kv _ => m.names.length - (intOf kv).toNat)
  case atStart => exact ⟨0, by omega, rfl, by simpa using hA2⟩
  case round =>
    obtain ⟨k, hk, rfl, hR⟩ := hrel
    have c11 : wr.cell? ⟨w.heap.size, 11, none⟩ = some (.slice a m.names.length c) := hR.out.cell 11
    by_cases hkl : k < m.names.length
    · obtain ⟨bb, o, rfl, hcell⟩ := StrsAt.cell hR.out.names k hkl
      have hsz := hf.few.names m.names[k] (List.getElem_mem _)
      have hsn := hid (textsR_snoc m.names k hkl)
      have hed := hid (errs_snoc m.names k e hkl)
      have hll := hid (show (X ++ (m.names.take k).flatMap putTextR).length ≤ 40000 by have := hX.out; have := texts_take_len m.names hf.few.names k hf.names; rw [List.length_append]; omega)
      generalize m.names[k] = x at hcell hsz hsn hed
      go_wp2_with fail
      refine (ra_text x (by omega) (by have := hll.out; omega) hR.out).mono ?_
      rintro en w3 ⟨rfl, hA3⟩
      replace hA3 := hid hA3
      clear c11 hcell
      go_wp2_with fail
      go_roundw
      case rel => exact ⟨k + 1, by omega, by go_num, by rw [hsn.out, ← List.append_assoc, hed.out]; exact hA3⟩
      case measure => simp [intOf]; omega
    · obtain rfl : k = m.names.length := by omega
      go_wp2_with fail
      go_end0
      have h9 := hR.out.out
      rw [List.take_length, errs_from, ← hXX.out] at h9
      exact ⟨rfl, by simpa [Slot.r, Slot.re, firstE_zero] using h9, hR.out.st⟩

theorem qids_take_len (Q : List QidV) (k : Nat) (h : Q.length ≤ 30) : (qidsBytes (Q.take k)).length ≤ 390 := by
  rw [qidsBytes_len, List.length_take]; omega
set_option maxHeartbeats 3200000 in
theorem rbody_111 (b : Nat) (xs : List UInt8) (e : Nat) (m : M) (vN vQ : Value) (d : ByteArray) (w : World) (hm : MOk m) (hf : RFew m) (hx : xs.length ≤ 1000) (h : RA0 w b m vN vQ d xs e) (ht : m.ty = 111) :
    Calls Tryz.prog 62 #[.pointer (some ⟨b, 0, none⟩), .agg (m.rcells vN vQ d)] w (RGood b (xs ++ ([.qids] : List Slot).flatMap (Slot.r m)) ((([.qids] : List Slot).map (Slot.re m)).foldl firstE e) w) := by
  obtain ⟨a, c, rfl, g1, g2⟩ := QidsAt.form h.qids
  obtain ⟨W, hW⟩ : ∃ W, W = w.alloc (.cells (m.rcells vN (.slice a m.qids.length c) d) 70) := ⟨_, rfl⟩
  have hA := hid (show RA w W b w.heap.size m vN (.slice a m.qids.length c) d xs e by rw [hW]; exact h.start)
  have c0 : W.cell? ⟨w.heap.size, 0, none⟩ = some (.int .u8 111) := by rw [hA.out.cell 0]; show some (Value.int .u8 (m.ty : Int)) = _; rw [ht]; rfl
  replace h := hid h
  clear ht
  unfold maxLen at g2
  have hnl := hf.qids
  have e_len : IntKind.u64.wrap (m.qids.length : Int) = (m.qids.length : Int) := IntWalk.u64_in _ (by omega)
  simp only [M.rcells, M.cells] at hW ⊢
  go_enter Tryz.func62, Tryz.ntmps62
  have c12 : W.cell? ⟨w.heap.size, 12, none⟩ = some (.slice a m.qids.length c) := hA.out.cell 12
  go_wp2_with (rw [← hW]; replace hW := hid hW)
  try (rw [← hW]; replace hW := hid hW)
  refine (ra_num2 m.qids.length (by omega) (by omega) hA.out).mono ?_
  rintro en w2 ⟨rfl, hA2⟩
  have hX : (xs ++ numBytes m.qids.length 2).length ≤ 1002 := by simp [numBytes_length]; omega
  generalize hXX : xs ++ numBytes m.qids.length 2 = X at hA2 hX
  replace hXX := hid hXX
  replace hX := hid hX
  replace hA2 := hid hA2
  clear c0 c12
  go_wp2_with fail
  go_loopw [5] (fun kv wr => ∃ k : Nat, k ≤ m.qids.length ∧ kv = .int .i64 (k : Int) ∧ Hid (RA w wr b w.heap.size m vN (.slice a m.qids.length c) d (X ++ qidsBytes (m.qids.take k)) e)) (fun kv _ => m.qids.length - (intOf kv).toNat)
  case atStart => exact ⟨0, by omega, rfl, by simpa [qidsBytes] using hA2⟩
  case round =>
    obtain ⟨k, hk, rfl, hR⟩ := hrel
    have c12 : wr.cell? ⟨w.heap.size, 12, none⟩ = some (.slice a m.qids.length c) := hR.out.cell 12
    by_cases hkl : k < m.qids.length
    · obtain ⟨bb, o, rfl, hc1, hc2, hc3⟩ := QidsAt.cell hR.out.qids k hkl
      have hok := hid (hm.qids m.qids[k] (List.getElem_mem _))
      have hsn := hid (qidsBytes_snoc m.qids k hkl)
      have hll := hid (show (X ++ qidsBytes (m.qids.take k)).length ≤ 40000 by have := hX.out; have := qids_take_len m.qids k hf.qids; rw [List.length_append]; omega)
      generalize m.qids[k] = x at hc1 hc2 hc3 hok hsn
      go_wp2_with fail
      refine (ra_qid x hok.out (by have := hll.out; omega) hR.out).mono ?_
      rintro en w3 ⟨rfl, hA3⟩
      replace hA3 := hid hA3
      clear c12 hc1 hc2 hc3
      go_wp2_with fail
      go_roundw
      case rel => exact ⟨k + 1, by omega, by go_num, by rw [hsn.out, ← List.append_assoc]; exact hA3⟩
      case measure => simp [intOf]; omega
    · obtain rfl : k = m.qids.length := by omega
      go_wp2_with fail
      go_end0
      have h9 := hR.out.out
      rw [List.take_length, ← hXX.out] at h9
      exact ⟨rfl, by simpa [Slot.r, Slot.re, firstE_zero] using h9, hR.out.st⟩

set_option maxHeartbeats 3200000 in
theorem rbody_117 (b : Nat) (xs : List UInt8) (e : Nat) (m : M) (vN vQ : Value) (d : ByteArray) (w : World) (hm : MOk m) (hf : RFew m) (hx : xs.length ≤ 1000) (h : RA0 w b m vN vQ d xs e) (ht : m.ty = 117) :
    Calls Tryz.prog 62 #[.pointer (some ⟨b, 0, none⟩), .agg (m.rcells vN vQ d)] w (RGood b (xs ++ ([.data] : List Slot).flatMap (Slot.r m)) ((([.data] : List Slot).map (Slot.re m)).foldl firstE e) w) := by
  obtain ⟨W, hW⟩ : ∃ W, W = w.alloc (.cells (m.rcells vN vQ d) 70) := ⟨_, rfl⟩
  have hA := hid (show RA w W b w.heap.size m vN vQ d xs e by rw [hW]; exact h.start)
  have c0 : W.cell? ⟨w.heap.size, 0, none⟩ = some (.int .u8 117) := by rw [hA.out.cell 0]; show some (Value.int .u8 (m.ty : Int)) = _; rw [ht]; rfl
  have hds := hid (show d.size = m.data.length by rw [← h.data]; exact (Array.length_toList).symm)
  replace h := hid h
  clear ht
  have hdl := hf.data
  have e_len : IntKind.u64.wrap (d.size : Int) = (d.size : Int) := IntWalk.u64_in _ (by have := hds.out; omega)
  obtain ⟨i0, hi, hz0, hz1, hz2⟩ := u8info
  simp only [M.rcells, M.cells] at hW ⊢
  go_enter Tryz.func62, Tryz.ntmps62
  have c22 : W.cell? ⟨w.heap.size, 22, none⟩ = some (.string d) := hA.out.cell 22
  go_wp2_with (rw [← hW]; replace hW := hid hW)
  try (rw [← hW]; replace hW := hid hW)
  refine (ra_num4 d.size (by have := hds.out; omega) (by omega) hA.out).mono ?_
  rintro en w2 ⟨rfl, hA2⟩
  clear c0 c22
  have hX : (xs ++ numBytes d.size 4).length ≤ 1010 := by simp [numBytes_length]; omega
  generalize hXX : xs ++ numBytes d.size 4 = X at hA2 hX
  replace hXX := hid hXX
  replace hX := hid hX
  have hA3 := hid hA2.drew
  obtain ⟨aa, ca, hB⟩ := hA3.out.out.box
  have s0 : w2.drew.cell? ⟨b, 0, none⟩ = some (.slice aa X.length ca) := block_cell hB.blk 0
  have c22 : w2.drew.cell? ⟨w.heap.size, 22, none⟩ = some (.string d) := hA3.out.cell 22
  replace hB := hid hB
  clear hA2
  go_wp2_with fail
  go_region_law (refine step_append_strl _ rfl (.tmp 202) (.tmp 204) 29 9 rfl (b + 1) 5 i0 Tryz.underlying29 Tryz.underlying9 hi hz0 hz1 hz2 (.slice aa X.length ca) X.length (X.map byteV) rfl hB.out.own d rfl (by have := hX.out; have := hds.out; unfold maxLen; omega) (by have := hX.out; have := hds.out; omega) (by have := lt_of_block hB.out.blk; omega) ?_; intro a' c' w' h2 h3 h4; obtain ⟨k1, k2, k3, k4⟩ := rout_set (ys := d.data.toList) hB.out.blk hB.out.own (Below.refl _ _) h3 h2 (by simp [Lib.strCells, byteV]) h4; replace k3 := hid k3; replace k4 := hid k4)
  all_goals
    clear s0 c22 k1 k2 h2 h3 h4 hB
    go_wp2_with fail
    go_end0
    have hE : X ++ d.data.toList = xs ++ ([.data] : List Slot).flatMap (Slot.r m) := by rw [← hXX.out, h.out.data, hds.out]; simp [Slot.r]
    have hE2 : (([.data] : List Slot).map (Slot.re m)).foldl firstE e = e := by simp [Slot.re, firstE_zero]
    rw [← hE, hE2]
    exact ⟨rfl, k3.out, hA3.out.st.trans k4.out⟩

set_option maxHeartbeats 3200000 in
theorem rbody_118 (b : Nat) (xs : List UInt8) (e : Nat) (m : M) (vN vQ : Value) (d : ByteArray) (w : World) (hm : MOk m) (hf : RFew m) (hx : xs.length ≤ 1000) (h : RA0 w b m vN vQ d xs e) (ht : m.ty = 118) :
    Calls Tryz.prog 62 #[.pointer (some ⟨b, 0, none⟩), .agg (m.rcells vN vQ d)] w (RGood b (xs ++ ([.fid, .offset, .data] : List Slot).flatMap (Slot.r m)) ((([.fid, .offset, .data] : List Slot).map (Slot.re m)).foldl firstE e) w) := by
  obtain ⟨W, hW⟩ : ∃ W, W = w.alloc (.cells (m.rcells vN vQ d) 70) := ⟨_, rfl⟩
  have hA := hid (show RA w W b w.heap.size m vN vQ d xs e by rw [hW]; exact h.start)
  have c0 : W.cell? ⟨w.heap.size, 0, none⟩ = some (.int .u8 118) := by rw [hA.out.cell 0]; show some (Value.int .u8 (m.ty : Int)) = _; rw [ht]; rfl
  have hds := hid (show d.size = m.data.length by rw [← h.data]; exact (Array.length_toList).symm)
  replace h := hid h
  clear ht
  have hdl := hf.data
  have e_len : IntKind.u64.wrap (d.size : Int) = (d.size : Int) := IntWalk.u64_in _ (by have := hds.out; omega)
  obtain ⟨i0, hi, hz0, hz1, hz2⟩ := u8info
  have e_fid : IntKind.u64.wrap (m.fid : Int) = (m.fid : Int) := IntWalk.u64_in _ (by have := hm.fid; omega)
  simp only [M.rcells, M.cells] at hW ⊢
  go_enter Tryz.func62, Tryz.ntmps62
  have c4 : W.cell? ⟨w.heap.size, 4, none⟩ = some (.int .u32 (m.fid : Int)) := hA.out.cell 4
  go_wp2_with (rw [← hW]; replace hW := hid hW)
  try (rw [← hW]; replace hW := hid hW)
  refine (ra_num4 m.fid (by have := hm.fid; omega) (by omega) hA.out).mono ?_
  rintro en w0 ⟨rfl, hA0⟩
  replace hA0 := hid hA0
  clear c0 c4
  have c20 : w0.cell? ⟨w.heap.size, 20, none⟩ = some (.int .u64 (m.offset : Int)) := hA0.out.cell 20
  go_wp2_with fail
  refine (ra_num8 m.offset (by have := hm.offset; omega) (by simp [numBytes_length]; omega) hA0.out).mono ?_
  rintro en w1 ⟨rfl, hA1⟩
  replace hA1 := hid hA1
  clear c20
  have c22 : w1.cell? ⟨w.heap.size, 22, none⟩ = some (.string d) := hA1.out.cell 22
  go_wp2_with fail
  refine (ra_num4 d.size (by have := hds.out; omega) (by simp [numBytes_length]; omega) hA1.out).mono ?_
  rintro en w2 ⟨rfl, hA2⟩
  clear c22
  have hX : (xs ++ numBytes m.fid 4 ++ numBytes m.offset 8 ++ numBytes d.size 4).length ≤ 1030 := by simp [numBytes_length]; omega
  generalize hXX : xs ++ numBytes m.fid 4 ++ numBytes m.offset 8 ++ numBytes d.size 4 = X at hA2 hX
  replace hXX := hid hXX
  replace hX := hid hX
  have hA3 := hid hA2.drew
  obtain ⟨aa, ca, hB⟩ := hA3.out.out.box
  have s0 : w2.drew.cell? ⟨b, 0, none⟩ = some (.slice aa X.length ca) := block_cell hB.blk 0
  have c22 : w2.drew.cell? ⟨w.heap.size, 22, none⟩ = some (.string d) := hA3.out.cell 22
  replace hB := hid hB
  clear hA2
  go_wp2_with fail
  go_region_law (refine step_append_strl _ rfl (.tmp 229) (.tmp 231) 29 9 rfl (b + 1) 5 i0 Tryz.underlying29 Tryz.underlying9 hi hz0 hz1 hz2 (.slice aa X.length ca) X.length (X.map byteV) rfl hB.out.own d rfl (by have := hX.out; have := hds.out; unfold maxLen; omega) (by have := hX.out; have := hds.out; omega) (by have := lt_of_block hB.out.blk; omega) ?_; intro a' c' w' h2 h3 h4; obtain ⟨k1, k2, k3, k4⟩ := rout_set (ys := d.data.toList) hB.out.blk hB.out.own (Below.refl _ _) h3 h2 (by simp [Lib.strCells, byteV]) h4; replace k3 := hid k3; replace k4 := hid k4)
  all_goals
    clear s0 c22 k1 k2 h2 h3 h4 hB
    go_wp2_with fail
    go_end0
    have hE : X ++ d.data.toList = xs ++ ([.fid, .offset, .data] : List Slot).flatMap (Slot.r m) := by rw [← hXX.out, h.out.data, hds.out]; simp [Slot.r]
    have hE2 : (([.fid, .offset, .data] : List Slot).map (Slot.re m)).foldl firstE e = e := by simp [Slot.re, firstE_zero]
    rw [← hE, hE2]
    exact ⟨rfl, k3.out, hA3.out.st.trans k4.out⟩
end
end Go.Proofs.YtcbglcebdkpcfaaGreat

namespace Go.Proofs.YtcbglcebdkpcfaaGreat
section
end
end Go.Proofs.YtcbglcebdkpcfaaGreat
