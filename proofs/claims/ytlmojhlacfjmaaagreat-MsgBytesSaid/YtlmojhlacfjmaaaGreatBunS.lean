/- An out of the reference's messages: what num, text, qid, stat write into it, and what they leave as it was. Conditions: bounds on lengths, numbers in their types.
What qid and stat of the reference's out write; the state of body along a message's fields. Conditions: bounds on lengths, numbers in their types. -/
import Derived.Test.YtlmojhlacfjmaaaGreatBunR
import Derived.Deep.DeepCutAuto
import Derived.Test.YtlmojhlacfjmaaaGreatBunG
namespace Go.Proofs.YtlmojhlacfjmaaaGreat
section
open Go.RowKit
set_option maxRecDepth 100000
set_option linter.unusedVariables false

def ROut (w : World) (b : Nat) (xs : List UInt8) (e : Nat) : Prop :=
 ∃ v, w.heap[b]? = some (.cells #[v, .int .i64 (e : Int)] 74 (0, 0)) ∧ w.ownsRow (b + 1) 5 1 v xs.length (xs.map byteV)
structure RStep (b : Nat) (w w' : World) : Prop where
 below : Below b w w'
 block : ∀ k, k < w.heap.size → ¬ Foot w b k → w'.heap[k]? = w.heap[k]? ∧ ¬ Foot w' b k

theorem RStep.refl (b : Nat) (w : World) : RStep b w w := ⟨Below.refl _ _, fun _ _ h => ⟨rfl, h⟩⟩
theorem RStep.trans {b : Nat} {w w1 w2 : World} (h : RStep b w w1) (k : RStep b w1 w2) : RStep b w w2 :=
 ⟨h.below.trans k.below, fun j hj hn => by
  obtain ⟨e1, n1⟩ := h.block j hj hn
  obtain ⟨e2, n2⟩ := k.block j (Nat.lt_of_lt_of_le hj h.below.size) n1
  exact ⟨e2.trans e1, n2⟩⟩
theorem RStep.pure {b : Nat} {w w' : World} (hb : b < w.heap.size) (h : Below w.heap.size w w') : RStep b w w' :=
 have hf : ∀ k, Foot w' b k → Foot w b k := fun k hf => by
  rcases hf with hf | ⟨v, hv, hk⟩
  ·exact .inl hf
  ·exact .inr ⟨v, by rw [h.cell (p := ⟨b, 0, none⟩) hb] at hv; exact hv, hk⟩
 ⟨h.mono (Nat.le_of_lt hb), fun j hj hn => ⟨h.block j hj, fun h => hn (hf j h)⟩⟩
theorem ROut.lt {w : World} {b : Nat} {xs : List UInt8} {e : Nat} (h : ROut w b xs e) : b < w.heap.size := by
 obtain ⟨v, h1, _⟩ := h; exact lt_of_block h1
theorem ROut.below {w w' : World} {b : Nat} {xs : List UInt8} {e : Nat} (h : ROut w b xs e) (hb : Below w.heap.size w w') : ROut w' b xs e := by
 obtain ⟨v, h1, h2⟩ := h
 exact ⟨v, (hb.block _ (lt_of_block h1)).trans h1, own_below h2 hb⟩
theorem ROut.new {w : World} {b : Nat} {xs : List UInt8} {e : Nat} (h : ROut w b xs e) {w' : World} (hb : Below w.heap.size w w') {k : Nat} (hk : w.heap.size ≤ k) : ¬ Foot w' b k := by
 obtain ⟨v, h1, h2⟩ := h
 have hlt := lt_of_block h1
 rintro (he | ⟨u, hu, hku⟩)
 ·omega
 ·rw [hb.cell (p := ⟨b, 0, none⟩) hlt, block_cell h1 0] at hu
  cases hu
  have := (h2.lt _ hku).2
  omega
theorem ROut.other {w w' : World} {b c : Nat} {xs : List UInt8} {e : Nat} (h : ROut w b xs e) (hs : RStep c w w') (hn : ∀ k, Foot w b k → ¬ Foot w c k) : ROut w' b xs e := by
 obtain ⟨v, h1, h2⟩ := h
 refine ⟨v, ((hs.block b (lt_of_block h1) (hn b (.inl rfl))).1).trans h1, ?_⟩
 exact own_keep h2 fun k hk => (hs.block k (h2.lt _ hk).2 (hn k (.inr ⟨v, block_cell h1 0, hk⟩))).1

theorem rout_set {b n : Nat} {w W w' : World} {va v2 : Value} {e : Nat} {xs ys : List UInt8} {us : List Value}
  (hb : w.heap[b]? = some (.cells #[va, .int .i64 (e : Int)] 74 (0, 0))) (hown : w.ownsRow (b + 1) 5 1 va xs.length (xs.map byteV))
  (hbw : Below w.heap.size w W) (hg : W.grownBy w' va.ownBlock) (h2 : w'.ownsRow (b + 1) 5 1 v2 n us) (hus : us = (xs ++ ys).map byteV)
  (hlies : ∀ k, v2.ownBlock = some k → va.ownBlock = some k ∨ W.heap.size ≤ k) :
  w'.cell? ⟨b, 0, none⟩ = some va ∧ w'.frozen? ⟨b, 0, none⟩ = false ∧ ROut (w'.setCell ⟨b, 0, none⟩ v2) b (xs ++ ys) e ∧ RStep b w (w'.setCell ⟨b, 0, none⟩ v2) := by
 subst hus
 obtain rfl : n = (xs ++ ys).length := by have := h2.1; simp at this; simp; omega
 have hlt := lt_of_block hb
 have hne : some b ≠ va.ownBlock := fun he => by have := (hown.lt _ he.symm).1; omega
 have hb' : w'.heap[b]? = some (.cells #[va, .int .i64 (e : Int)] 74 (0, 0)) := (hg.block b (Nat.lt_of_lt_of_le hlt hbw.size) hne).trans ((hbw.block b hlt).trans hb)
 have hbo : ∀ k, va.ownBlock = some k → b ≤ k := fun k hk => by have := (hown.lt k hk).1; omega
 refine ⟨block_cell hb' 0, block_free hb' 0, ⟨v2, block_set hb' 0 v2, ownsRow_setCell_below h2 (by show b < b + 1; omega) _⟩, ⟨((hbw.mono (Nat.le_of_lt hlt)).grown hg (Nat.le_trans (Nat.le_of_lt hlt) hbw.size) hbo).setCell (Nat.le_refl _) _, fun k hk hn => ?_⟩⟩
 have hkb : k ≠ b := fun e => hn (.inl e)
 have hko : some k ≠ va.ownBlock := fun e => hn (.inr ⟨va, block_cell hb 0, e.symm⟩)
 refine ⟨?_, ?_⟩
 ·rw [block_set_other hkb]
  exact (hg.block k (Nat.lt_of_lt_of_le hk hbw.size) hko).trans (hbw.block k hk)
 ·rintro (he | ⟨u, hu, hk2⟩)
  ·exact hkb he
  ·rw [block_cell (block_set hb' 0 v2) 0] at hu
   cases hu
   rcases hlies k hk2 with h | h
   ·exact hko h.symm
   ·have := hbw.size; omega
theorem rout_bad {b : Nat} {w : World} {e e2 : Nat} {xs : List UInt8} (h : ROut w b xs e) : ROut (w.setCell ⟨b, 1, none⟩ (.int .i64 (e2 : Int))) b xs e2 ∧ RStep b w (w.setCell ⟨b, 1, none⟩ (.int .i64 (e2 : Int))) := by
 obtain ⟨v, h1, h2⟩ := h
 refine ⟨⟨v, block_set h1 1 _, ownsRow_setCell_below h2 (by show b < b + 1; omega) _⟩, (Below.refl b w).setCell (p := ⟨b, 1, none⟩) (Nat.le_refl _) _, fun k hk hn => ?_⟩
 have hkb : k ≠ b := fun e => hn (.inl e)
 refine ⟨block_set_other hkb, ?_⟩
 rintro (he | ⟨u, hu, hk2⟩)
 ·exact hkb he
 ·rw [block_cell (block_set h1 1 _) 0] at hu
  cases hu
  exact hn (.inr ⟨v, block_cell h1 0, hk2⟩)

theorem step_append_rowl {P : Program} {t e size bytes : Nat} (E : ElemOk P t e size bytes) {ops : Array Oper} {o : Oper} {a : Act} {K : Act → World → Prop} {Q : Exit → Act → World → Prop} {F : Prop} (w : World) (hgd : o.guard = none) (s x : Operand)
  (ho : o.op = .call { callee := .builtin .append, args := #[s, x], argTypes := #[t, t] })
  (base : Nat) (v : Value) (n : Nat) (xs : List Value) (hs : a.eval s = v) (hown : w.ownsRow base e size v n xs)
  (sv : Value) (m : Nat) (news : List Value) (hx : a.eval x = sv) (hsrc : RowAt w size sv m news) (h1 : ∀ u ∈ news, u.oneCell' = true)
  (h63 : n + m ≤ maxLen) (hbytes : (n + m) * bytes ≤ 140737488355328) (hbase : base ≤ w.heap.size)
  (h : ∀ a' c' w', w'.ownsRow base e size (.slice a' (n + m) c') (n + m) (xs ++ news) → w.grownBy w' v.ownBlock → (∀ k, (Value.slice a' (n + m) c').ownBlock = some k → v.ownBlock = some k ∨ w.heap.size ≤ k) → K (a.put o.dst (.slice a' (n + m) c')) w') :
  if Region.wanted o (yielded ops a.tmps) = true then Oper.wp P o a w K Q else F := by
 have hw : Region.wanted o (yielded ops a.tmps) = true := by simp [Region.wanted, hgd]
 rw [if_pos hw]
 obtain ⟨i, z, hi, hz, hsize, hby, hzs⟩ := E.hi
 refine wp_append_run s x t ho hs hx (R := fun v' w' => ∃ a' c', v' = .slice a' (n + m) c' ∧ w'.ownsRow base e size (.slice a' (n + m) c') (n + m) (xs ++ news) ∧ w.grownBy w' v.ownBlock ∧ (∀ k, (Value.slice a' (n + m) c').ownBlock = some k → v.ownBlock = some k ∨ w.heap.size ≤ k)) ?_ ?_
 ·obtain ⟨a', c', w', hr, h2, h3, h4⟩ := run_append_rowl E w base o.type v n xs hown sv m news hsrc h1 h63 hbytes hbase
  exact ⟨_, w', hr, a', c', rfl, h2, h3, h4⟩
 ·rintro _ w' ⟨a', c', rfl, h2, h3, h4⟩
  exact h a' c' w' h2 h3 h4

def RGood (b : Nat) (xs : List UInt8) (e : Nat) (w : World) (en : Ending) (w' : World) : Prop := en = .returned (.tuple #[]) ∧ ROut w' b xs e ∧ RStep b w w'

set_option maxHeartbeats 3200000 in
theorem rout_num (b : Nat) (xs : List UInt8) (e n v : Nat) (w : World) (hv : v < 18446744073709551616) (hn1 : 1 ≤ n) (hn : n ≤ 8) (hx : xs.length ≤ 1000000) (h : ROut w b xs e) :
  Calls Tryz.prog 25 #[.pointer (some ⟨b, 0, none⟩), .int .i64 (n : Int), .int .u64 (v : Int)] w (RGood b (xs ++ numBytes v n) e w) := by
 obtain ⟨va, hb, hown⟩ := h
 obtain ⟨aa, ca, rfl⟩ := own_form hown
 have hnum := hid (fun W => ref_num_any n v W hv hn1 hn)
 have hnl := hid (numBytes_length v n)
 have s1 : w.drew.cell? ⟨b, 0, none⟩ = some (.slice aa xs.length ca) := block_cell hb 0
 have hB := hid (show Below w.heap.size w w.drew from (Below.refl _ _).drew)
 replace hb := hid hb
 replace hown := hid hown
 go_enter Tryz.func25, Tryz.ntmps25
 go_wp2_with fail
 go_region_law (first | (refine step_append_rowl elemU8 _ rfl (.tmp 10) (.tmp 13) rfl (b + 1) (.slice aa xs.length ca) xs.length (xs.map byteV) rfl (own_below hown.out hbn.out) _ (numBytes v n).length ((numBytes v n).map byteV) rfl (RowAt.of_own hr.out) (bytes_oneCell _) (by have := hnl.out; unfold maxLen; omega) (by have := hnl.out; omega) (by have := lt_of_block hb.out; have := hbn.out.size; omega) ?_; intro a' c' w' h2 h3 h4; obtain ⟨k1, k2, k3, k4⟩ := rout_set (ys := numBytes v n) hb.out hown.out hbn.out h3 h2 (by simp) h4; replace k3 := hid k3; replace k4 := hid k4) | (go_simp; ((go_at_call 44); (with_reducible refine (hnum.out _).mono ?_); rintro e wn ⟨v', rfl, hr, hbm⟩; obtain ⟨a9, c9, rfl⟩ := own_form hr; replace s1 := (hbm.cell (p := ⟨b, 0, none⟩) (lt_of_block hb.out)).trans s1; have hbn := hid (sn hB.out hbm); replace hr := hid hr)))
 all_goals
  clear s1 k1 k2 h2 h3 h4 hbn hbm hr hb hown hnum hnl
  go_wp2_with fail
  go_end0
  exact ⟨rfl, k3.out, k4.out⟩

def firstE (e f : Nat) : Nat := if e = 0 then f else e
theorem firstE_zero (e : Nat) : firstE e 0 = e := by unfold firstE; split <;> simp_all
theorem firstE_new (f : Nat) : firstE 0 f = f := rfl
theorem firstE_old {e : Nat} (f : Nat) (h : e ≠ 0) : firstE e f = e := if_neg h
theorem mayN_ne {t : Nat} (h : t ≠ 0) : ((t : Int) != 0) = true := by simp; omega
theorem putTextR_len (s : ByteArray) : (putTextR s).length ≤ s.size + 2 := by
 unfold putTextR
 split
 ·unfold putText; simp [numBytes_length]; omega
 ·simp
theorem RowAt.none_in {w w' : World} {k : Nat} {v : Value} (h : RowAt w k v 0 []) (hsz : w.heap.size ≤ w'.heap.size) : RowAt w' k v 0 [] := by
 obtain ⟨hl, a, c, hv, h1, h2, h3, h5, h4⟩ := h
 exact ⟨hl, a, c, hv, h1, h2, h3, fun ad ha => ⟨(h5 ad ha).1, Nat.lt_of_lt_of_le (h5 ad ha).2 hsz⟩, fun i u hu => by simp at hu⟩
structure RBox (w : World) (b : Nat) (va : Value) (e : Nat) (xs : List UInt8) : Prop where
 blk : w.heap[b]? = some (.cells #[va, .int .i64 (e : Int)] 74 (0, 0))
 own : w.ownsRow (b + 1) 5 1 va xs.length (xs.map byteV)
theorem ROut.box {w : World} {b : Nat} {xs : List UInt8} {e : Nat} (h : ROut w b xs e) : ∃ a c, RBox w b (.slice a xs.length c) e xs := by
 obtain ⟨v, h1, h2⟩ := h
 obtain ⟨a, c, rfl⟩ := own_form h2
 exact ⟨a, c, h1, h2⟩

set_option maxHeartbeats 3200000 in
theorem rout_text (b : Nat) (xs : List UInt8) (e : Nat) (s : ByteArray) (w : World) (hs : s.size ≤ 1000000) (hx : xs.length ≤ 1000000) (h : ROut w b xs e) :
  Calls Tryz.prog 45 #[.pointer (some ⟨b, 0, none⟩), .string s] w (RGood b (xs ++ putTextR s) (firstE e (mayN s)) w) := by
 obtain ⟨t, ht⟩ : ∃ t, t = mayN s := ⟨_, rfl⟩
 have hc := hid (fun W => ref_text_any s W hs)
 have hll := hid (putTextR_len s)
 obtain ⟨l, hl⟩ : ∃ l, l = putTextR s := ⟨_, rfl⟩
 rw [← ht, ← hl] at hc
 rw [← hl] at hll
 have hz := hid (show t ≠ 0 → l = [] from fun h => by rw [hl]; exact putTextR_no (by rw [← ht]; exact h))
 rw [← ht, ← hl]
 clear ht hl
 replace h := hid h
 by_cases h0 : t = 0
 ·subst h0
  rw [firstE_zero]
  go_enter Tryz.func45, Tryz.ntmps45
  go_wp2_with fail
  refine (hc.out _).mono ?_
  rintro en w1 ⟨v', rfl, hv, hb1⟩
  obtain ⟨aa, ca, hB⟩ := (h.out.below hb1).box
  have s0 : w1.cell? ⟨b, 0, none⟩ = some (.slice aa xs.length ca) := block_cell hB.blk 0
  replace hB := hid hB
  replace hv := hid hv
  replace hb1 := hid hb1
  go_wp2_with (refine wpList_append_rowl elemU8 _ rfl (.tmp 28) (.tmp 29) rfl (b + 1) (.slice aa xs.length ca) xs.length (xs.map byteV) rfl hB.out.own _ l.length (l.map byteV) rfl hv.out (bytes_oneCell _) (by have := hll.out; unfold maxLen; omega) (by have := hll.out; omega) (by have := lt_of_block hB.out.blk; omega) ?_; intro a' c' w' h2 h3 h4; obtain ⟨k1, k2, k3, k4⟩ := rout_set (ys := l) hB.out.blk hB.out.own (Below.refl _ _) h3 h2 (by simp) h4; replace k3 := hid k3; replace k4 := hid k4; clear h2 h3 h4 s0)
  go_end0
  exact ⟨rfl, k3.out, (RStep.pure h.out.lt hb1.out).trans k4.out⟩
 ·have q0 := mayN_ne h0
  by_cases he : e = 0
  ·subst he
   rw [firstE_new]
   go_enter Tryz.func45, Tryz.ntmps45
   go_wp2_with fail
   refine (hc.out _).mono ?_
   rintro en w1 ⟨v', rfl, hv, hb1⟩
   obtain ⟨aa, ca, hB⟩ := (h.out.below hb1).box
   have s1 : w1.cell? ⟨b, 1, none⟩ = some (.int .i64 0) := block_cell hB.blk 1
   have s2 : w1.frozen? ⟨b, 1, none⟩ = false := block_free hB.blk 1
   obtain ⟨r1, r2⟩ := rout_bad (e2 := t) ⟨_, hB.blk, hB.own⟩
   have hvs : BytesAt (w1.setCell ⟨b, 1, none⟩ (.int .i64 (t : Int))) v' l := by
    obtain rfl := hz.out h0
    exact RowAt.none_in hv r2.below.size
   obtain ⟨W, hW⟩ : ∃ W, W = w1.setCell ⟨b, 1, none⟩ (.int .i64 (t : Int)) := ⟨_, rfl⟩
   rw [← hW] at r1 r2 hvs
   obtain ⟨aa2, ca2, hB2⟩ := r1.box
   replace hv := hid hvs
   clear hvs
   replace hb1 := hid hb1
   replace r2 := hid r2
   clear hB r1
   go_upto_region 3 with (rw [← hW]; replace hW := hid hW)
   try (rw [← hW]; replace hW := hid hW)
   clear s1 s2
   have s0 : W.cell? ⟨b, 0, none⟩ = some (.slice aa2 xs.length ca2) := block_cell hB2.blk 0
   replace hB2 := hid hB2
   go_wp2_with (refine wpList_append_rowl elemU8 _ rfl (.tmp 28) (.tmp 29) rfl (b + 1) (.slice aa2 xs.length ca2) xs.length (xs.map byteV) rfl hB2.out.own _ l.length (l.map byteV) rfl hv.out (bytes_oneCell _) (by have := hll.out; unfold maxLen; omega) (by have := hll.out; omega) (by have := lt_of_block hB2.out.blk; omega) ?_; intro a' c' w' h2 h3 h4; obtain ⟨k1, k2, k3, k4⟩ := rout_set (ys := l) hB2.out.blk hB2.out.own (Below.refl _ _) h3 h2 (by simp) h4; replace k3 := hid k3; replace k4 := hid k4; clear h2 h3 h4 s0)
   go_end0
   exact ⟨rfl, k3.out, ((RStep.pure h.out.lt hb1.out).trans r2.out).trans k4.out⟩
  ·rw [firstE_old _ he]
   have q1 : ((e : Int) == 0) = false := by simp; omega
   go_enter Tryz.func45, Tryz.ntmps45
   go_wp2_with fail
   refine (hc.out _).mono ?_
   rintro en w1 ⟨v', rfl, hv, hb1⟩
   obtain ⟨aa, ca, hB⟩ := (h.out.below hb1).box
   have s0 : w1.cell? ⟨b, 0, none⟩ = some (.slice aa xs.length ca) := block_cell hB.blk 0
   have s1 : w1.cell? ⟨b, 1, none⟩ = some (.int .i64 (e : Int)) := block_cell hB.blk 1
   replace hB := hid hB
   replace hv := hid hv
   replace hb1 := hid hb1
   go_wp2_with (refine wpList_append_rowl elemU8 _ rfl (.tmp 28) (.tmp 29) rfl (b + 1) (.slice aa xs.length ca) xs.length (xs.map byteV) rfl hB.out.own _ l.length (l.map byteV) rfl hv.out (bytes_oneCell _) (by have := hll.out; unfold maxLen; omega) (by have := hll.out; omega) (by have := lt_of_block hB.out.blk; omega) ?_; intro a' c' w' h2 h3 h4; obtain ⟨k1, k2, k3, k4⟩ := rout_set (ys := l) hB.out.blk hB.out.own (Below.refl _ _) h3 h2 (by simp) h4; replace k3 := hid k3; replace k4 := hid k4; clear h2 h3 h4 s0 s1)
   go_end0
   exact ⟨rfl, k3.out, (RStep.pure h.out.lt hb1.out).trans k4.out⟩
end
end Go.Proofs.YtlmojhlacfjmaaaGreat

namespace Go.Proofs.YtlmojhlacfjmaaaGreat
section
open Go.RowKit
set_option maxRecDepth 100000
set_option linter.unusedVariables false

def Slot.r (m : M) : Slot → List UInt8
 | .msize => numBytes m.msize 4
 | .version => putTextR m.version
 | .fid => numBytes m.fid 4
 | .afid => numBytes m.afid 4
 | .new => numBytes m.new 4
 | .uname => putTextR m.uname
 | .aname => putTextR m.aname
 | .ename => putTextR m.ename
 | .old => numBytes m.old 2
 | .names => numBytes m.names.length 2 ++ m.names.flatMap putTextR
 | .qids => numBytes m.qids.length 2 ++ qidsBytes m.qids
 | .qid => m.qid.bytes
 | .iounit => numBytes m.iounit 4
 | .mode => numBytes m.mode 1
 | .perm => numBytes m.perm 4
 | .name => putTextR m.name
 | .offset => numBytes m.offset 8
 | .count => numBytes m.count 4
 | .data => numBytes m.data.length 4 ++ m.data
 | .stat => numBytes m.stat.bytes.length 2 ++ m.stat.bytes
def Slot.re (m : M) : Slot → Nat
 | .version => mayN m.version
 | .uname => mayN m.uname
 | .aname => mayN m.aname
 | .ename => mayN m.ename
 | .names => (m.names.map mayN).foldl firstE 0
 | .name => mayN m.name
 | .stat => m.stat.err
 | _ => 0
def M.rcells (m : M) (vN vQ : Value) (d : ByteArray) : Array Value := m.cells vN vQ (.string d)
structure RFew (m : M) : Prop where
 few : MFew m
 names : m.names.length ≤ 30
 qids : m.qids.length ≤ 30
 data : m.data.length ≤ 10000
theorem texts_len : ∀ (L : List ByteArray), (∀ s ∈ L, s.size ≤ 1000) → (L.flatMap putTextR).length ≤ L.length * 1002
 | [], _ => by simp
 | s :: l, h => by
  have h1 := texts_len l fun t ht => h t (by simp [ht])
  have h2 := putTextR_len s
  have h3 := h s (by simp)
  simp only [List.flatMap_cons, List.length_append, List.length_cons]
  omega
theorem stat_bytes_len {s : Stat} (h : Few s) : s.bytes.length ≤ 4200 := by
 rw [bytes_len]
 obtain ⟨h1, h2, h3, h4⟩ := h
 split
 ·unfold Stat.size; omega
 ·omega
theorem RFew.len {m : M} (h : RFew m) (s : Slot) : (Slot.r m s).length ≤ 31000 := by
 have h1 := putTextR_len m.version
 have h2 := putTextR_len m.uname
 have h3 := putTextR_len m.aname
 have h4 := putTextR_len m.ename
 have h5 := putTextR_len m.name
 have h6 := h.few.version
 have h7 := h.few.uname
 have h8 := h.few.aname
 have h9 := h.few.ename
 have h10 := h.few.name
 have h11 := texts_len m.names h.few.names
 have h12 := qidsBytes_len m.qids
 have h13 := stat_bytes_len h.few.stat
 obtain ⟨_, i1, i2, i3⟩ := h
 cases s <;> simp only [Slot.r, QidV.bytes, qidBytes, List.length_append, numBytes_length] <;> omega

theorem RowAt.rstep {w w' : World} {b k n : Nat} {v : Value} {xs : List Value} (h : RowAt w k v n xs) (hs : RStep b w w') (hf : ∀ j, v.ownBlock = some j → ¬ Foot w b j) : RowAt w' k v n xs :=
 RowAt.other h hs.below.size fun j hj => (hs.block j (h.blk hj) (hf j hj)).1

structure RA0 (w : World) (b : Nat) (m : M) (vN vQ : Value) (d : ByteArray) (xs : List UInt8) (e : Nat) : Prop where
 out : ROut w b xs e
 names : StrsAt w vN m.names
 nf : ∀ k, vN.ownBlock = some k → ¬ Foot w b k
 qids : QidsAt w vQ m.qids
 qf : ∀ k, vQ.ownBlock = some k → ¬ Foot w b k
 data : d.data.toList = m.data
structure RA (w0 w : World) (b q : Nat) (m : M) (vN vQ : Value) (d : ByteArray) (xs : List UInt8) (e : Nat) : Prop where
 out : ROut w b xs e
 blk : w.heap[q]? = some (.cells (m.rcells vN vQ d) 46 (0, 0))
 foot : ¬ Foot w b q
 names : StrsAt w vN m.names
 nf : ∀ k, vN.ownBlock = some k → ¬ Foot w b k
 qids : QidsAt w vQ m.qids
 qf : ∀ k, vQ.ownBlock = some k → ¬ Foot w b k
 data : d.data.toList = m.data
 st : RStep b w0 w
theorem RA.step {w0 w w2 : World} {b q : Nat} {m : M} {vN vQ : Value} {d : ByteArray} {xs ys : List UInt8} {e e2 : Nat} (h : RA w0 w b q m vN vQ d xs e) (ho : ROut w2 b ys e2) (hs : RStep b w w2) : RA w0 w2 b q m vN vQ d ys e2 :=
 have hq := hs.block q (lt_of_block h.blk) h.foot
 ⟨ho, hq.1.trans h.blk, hq.2, RowAt.rstep h.names hs h.nf, fun k hk => (hs.block k (RowAt.blk h.names hk) (h.nf k hk)).2,
  RowAt.rstep h.qids hs h.qf, fun k hk => (hs.block k (RowAt.blk h.qids hk) (h.qf k hk)).2, h.data, h.st.trans hs⟩
theorem RA.drew {w0 w : World} {b q : Nat} {m : M} {vN vQ : Value} {d : ByteArray} {xs : List UInt8} {e : Nat} (h : RA w0 w b q m vN vQ d xs e) : RA w0 w.drew b q m vN vQ d xs e :=
 h.step (h.out.below (Below.refl _ _).drew) (RStep.pure h.out.lt (Below.refl _ _).drew)
theorem RA.cell {w0 w : World} {b q : Nat} {m : M} {vN vQ : Value} {d : ByteArray} {xs : List UInt8} {e : Nat} (h : RA w0 w b q m vN vQ d xs e) (i : Nat) : w.cell? ⟨q, i, none⟩ = (m.rcells vN vQ d)[i]? := block_cell h.blk i
theorem RA0.start {w : World} {b : Nat} {m : M} {vN vQ : Value} {d : ByteArray} {xs : List UInt8} {e : Nat} (h : RA0 w b m vN vQ d xs e) :
  RA w (w.alloc (.cells (m.rcells vN vQ d) 46)) b w.heap.size m vN vQ d xs e := by
 have hb : Below w.heap.size w (w.alloc (.cells (m.rcells vN vQ d) 46)) := (Below.refl _ _).alloc (Nat.le_refl _) _
 have hs := RStep.pure h.out.lt hb
 exact ⟨h.out.below hb, heap_alloc_new _ _, h.out.new hb (Nat.le_refl _), RowAt.rstep h.names hs h.nf, fun k hk => (hs.block k (RowAt.blk h.names hk) (h.nf k hk)).2,
  RowAt.rstep h.qids hs h.qf, fun k hk => (hs.block k (RowAt.blk h.qids hk) (h.qf k hk)).2, h.data, hs⟩

def RAGood (w0 : World) (b q : Nat) (m : M) (vN vQ : Value) (d : ByteArray) (xs : List UInt8) (e : Nat) (en : Ending) (w' : World) : Prop :=
 en = .returned (.tuple #[]) ∧ RA w0 w' b q m vN vQ d xs e
theorem RA.good {w0 w : World} {b q : Nat} {m : M} {vN vQ : Value} {d : ByteArray} {xs ys : List UInt8} {e e2 : Nat} (h : RA w0 w b q m vN vQ d xs e) {en : Ending} {w' : World} (hg : RGood b ys e2 w en w') : RAGood w0 b q m vN vQ d ys e2 en w' :=
 ⟨hg.1, h.step hg.2.1 hg.2.2⟩

theorem rstaS {w : World} {k : Nat} {s : Stat} {t : TypeId} (h : w.heap[k]? = some (.cells s.cells t (0, 0))) :
  w.cell? ⟨k, 0, none⟩ = some (.int .u16 (s.kind : Int)) ∧ w.cell? ⟨k, 1, none⟩ = some (.int .u32 (s.dev : Int)) ∧ w.cell? ⟨k, 2, none⟩ = some (.int .u8 (s.qt : Int)) ∧ w.cell? ⟨k, 3, none⟩ = some (.int .u32 (s.qv : Int)) ∧ w.cell? ⟨k, 4, none⟩ = some (.int .u64 (s.qp : Int)) ∧ w.cell? ⟨k, 5, none⟩ = some (.int .u32 (s.mode : Int)) ∧ w.cell? ⟨k, 6, none⟩ = some (.int .u32 (s.atm : Int)) ∧ w.cell? ⟨k, 7, none⟩ = some (.int .u32 (s.mtm : Int)) ∧ w.cell? ⟨k, 8, none⟩ = some (.int .u64 (s.len : Int)) ∧ w.cell? ⟨k, 9, none⟩ = some (.string s.name) ∧ w.cell? ⟨k, 10, none⟩ = some (.string s.uid) ∧ w.cell? ⟨k, 11, none⟩ = some (.string s.gid) ∧ w.cell? ⟨k, 12, none⟩ = some (.string s.muid) :=
 ⟨block_cell h 0, block_cell h 1, block_cell h 2, block_cell h 3, block_cell h 4, block_cell h 5, block_cell h 6, block_cell h 7, block_cell h 8, block_cell h 9, block_cell h 10, block_cell h 11, block_cell h 12⟩

set_option maxHeartbeats 3200000 in
theorem rout_qid (b : Nat) (xs : List UInt8) (e : Nat) (q : QidV) (w : World) (hq : QidOk q) (hx : xs.length ≤ 1000000) (h : ROut w b xs e) :
  Calls Tryz.prog 46 #[.pointer (some ⟨b, 0, none⟩), .agg q.cells] w (RGood b (xs ++ q.bytes) e w) := by
 obtain ⟨aa, ca, hbx⟩ := h.box
 obtain ⟨W, hW⟩ : ∃ W, W = w.alloc (.cells q.cells 42) := ⟨_, rfl⟩
 have hqb := hid (fun W => qidbytes_any q.t q.v q.p W hq.t hq.v hq.p)
 have hB := hid (show Below w.heap.size w W.drew from by rw [hW]; exact ((Below.refl w.heap.size w).alloc (Nat.le_refl _) _).drew)
 have hwr := hid (show W.heap[w.heap.size]? = some (.cells q.cells 42 (0, 0)) by rw [hW, heap_alloc_new])
 have s0 : W.drew.cell? ⟨b, 0, none⟩ = some (.slice aa xs.length ca) := (hB.out.cell (p := ⟨b, 0, none⟩) h.lt).trans (block_cell hbx.blk 0)
 have s1 : W.drew.cell? ⟨w.heap.size, 0, none⟩ = some (.int .u8 (q.t : Int)) := block_cell hwr.out 0
 have s2 : W.drew.cell? ⟨w.heap.size, 1, none⟩ = some (.int .u32 (q.v : Int)) := block_cell hwr.out 1
 have s3 : W.drew.cell? ⟨w.heap.size, 2, none⟩ = some (.int .u64 (q.p : Int)) := block_cell hwr.out 2
 have hwd := hid (show w.heap.size < W.drew.heap.size by rw [hW]; simp [World.drew])
 obtain ⟨l, hl⟩ : ∃ l, l = q.bytes := ⟨_, rfl⟩
 have hnl := hid (show l.length ≤ 13 by rw [hl]; simp [QidV.bytes, qidBytes, numBytes_length])
 rw [show qidBytes q.t q.v q.p = q.bytes from rfl, ← hl] at hqb
 rw [← hl]
 have hlt := hid h.lt
 replace hbx := hid hbx
 clear hl h hwr hq
 simp only [QidV.cells] at hW ⊢
 go_enter Tryz.func46, Tryz.ntmps46
 go_wp2_with (rw [← hW]; replace hW := hid hW)
 try (rw [← hW]; replace hW := hid hW)
 go_region_law (first | (refine step_append_rowl elemU8 _ rfl (.tmp 8) (.tmp 10) rfl (b + 1) (.slice aa xs.length ca) xs.length (xs.map byteV) rfl (own_below hbx.out.own hbn.out) _ l.length (l.map byteV) rfl (RowAt.of_own hr.out) (bytes_oneCell _) (by have := hnl.out; unfold maxLen; omega) (by have := hnl.out; omega) (by have := hlt.out; have := hbn.out.size; omega) ?_; intro a' c' w' h2 h3 h4; obtain ⟨k1, k2, k3, k4⟩ := rout_set (ys := l) hbx.out.blk hbx.out.own hbn.out h3 h2 (by simp) h4; replace k3 := hid k3; replace k4 := hid k4) | (go_simp; ((go_at_call 55); (with_reducible refine (hqb.out _).mono ?_); rintro e wn ⟨v', rfl, hr, hbm⟩; obtain ⟨a9, c9, rfl⟩ := own_form hr; replace s0 := (hbm.cell (p := ⟨b, 0, none⟩) (Nat.lt_of_lt_of_le hlt.out hB.out.size)).trans s0; have hbn := hid (sn hB.out hbm); replace hr := hid hr)))
 all_goals
  clear s0 s1 s2 s3 k1 k2 h2 h3 h4 hbn hbm hr hbx hqb hnl
  go_wp2_with fail
  go_end0
  exact ⟨rfl, k3.out, k4.out⟩

set_option maxHeartbeats 3200000 in
theorem rout_stat (b : Nat) (xs : List UInt8) (e : Nat) (s : Stat) (w : World) (hok : StatOk s) (hf : Few s) (hx : xs.length ≤ 900000) (h : ROut w b xs e) :
  Calls Tryz.prog 47 #[.pointer (some ⟨b, 0, none⟩), .agg s.cells] w (RGood b (xs ++ (numBytes s.bytes.length 2 ++ s.bytes)) (firstE e s.err) w) := by
 have hc := hid (fun W => statbytes_new s W hok hf)
 have hll := hid (bytes_le s hf)
 obtain ⟨W, hW⟩ : ∃ W, W = w.alloc (.cells s.cells 44) := ⟨_, rfl⟩
 have hB0 := hid (show Below w.heap.size w W by rw [hW]; exact (Below.refl w.heap.size w).alloc (Nat.le_refl _) _)
 have hwr : W.heap[w.heap.size]? = some (.cells s.cells 44 (0, 0)) := by rw [hW, heap_alloc_new]
 have hst := hid hwr
 obtain ⟨t, ht⟩ : ∃ t, t = s.err := ⟨_, rfl⟩
 obtain ⟨l, hl⟩ : ∃ l, l = s.bytes := ⟨_, rfl⟩
 have hc2 : Hid (∀ W, Calls Tryz.prog 56 #[.agg s.cells] W fun e w' => ∃ v', e = .returned (.tuple #[v', .int .i64 (t : Int)]) ∧ (BytesAt w' v' l ∧ ∀ k, v'.ownBlock = some k → W.heap.size ≤ k) ∧ Below W.heap.size W w') := hid (fun W => by rw [ht, hl]; exact hc.out W)
 rw [← hl] at hll
 rw [← ht, ← hl]
 clear hc ht hl hwr hok hf
 have hR0 := hid (h.below hB0.out)
 have hlt0 := hid h.lt
 obtain ⟨s0, s1, s2, s3, s4, s5, s6, s7, s8, s9, s10, s11, s12⟩ := rstaS hst.out
 simp only [Stat.cells] at hW hc2 ⊢
 clear hst
 replace h := hid h
 have hnum := hid (fun (xs : List UInt8) (e : Nat) (W : World) (h : ROut W b xs e) (hx : xs.length ≤ 1000000) => rout_num b xs e 2 l.length W (by have := hll.out; omega) (by omega) (by omega) hx h)
 have hcv : IntKind.u64.wrap (l.length : Int) = (l.length : Int) := IntWalk.u64_in _ (by have := hll.out; omega)
 have htail : Hid (∀ (W0 w1 w3 : World) (v' : Value), True) := hid (fun _ _ _ _ => trivial)
 clear htail
 by_cases h0 : t = 0
 ·subst h0
  rw [firstE_zero]
  go_enter Tryz.func47, Tryz.ntmps47
  go_wp2_with (rw [← hW]; replace hW := hid hW)
  try (rw [← hW]; replace hW := hid hW)
  refine (hc2.out _).mono ?_
  rintro en w1 ⟨v', rfl, ⟨hv, hn⟩, hb1⟩
  clear s0 s1 s2 s3 s4 s5 s6 s7 s8 s9 s10 s11 s12
  obtain ⟨av, cv, rfl, _, _⟩ := hv.form
  have hR1 := hR0.out.below hb1
  have hv1 := hid (show ∀ k, (Value.slice av l.length cv).ownBlock = some k → ¬ Foot w1 b k from fun k hk => hR0.out.new hb1 (hn k hk))
  have hs1 := hid (RStep.pure hlt0.out (sn hB0.out hb1))
  replace hv := hid hv
  clear hn hb1
  replace hR1 := hid hR1
  go_wp2_with fail
  refine (hnum.out xs e w1 hR1.out (by omega)).mono ?_
  rintro en w3 ⟨rfl, hR3, hs3⟩
  have hv3 := hid (RowAt.rstep hv.out hs3 hv1.out)
  obtain ⟨aa, ca, hB⟩ := hR3.box
  have s0 : w3.cell? ⟨b, 0, none⟩ = some (.slice aa (xs ++ numBytes l.length 2).length ca) := block_cell hB.blk 0
  have hxl := hid (show (xs ++ numBytes l.length 2).length ≤ 900002 by simp [numBytes_length]; omega)
  replace hB := hid hB
  replace hs3 := hid hs3
  clear hR3
  generalize hzz : xs ++ numBytes l.length 2 = zs at s0 hxl hB
  replace hzz := hid hzz
  go_wp2_with (refine wpList_append_rowl elemU8 _ rfl (.tmp 33) (.tmp 34) rfl (b + 1) (.slice aa zs.length ca) zs.length (zs.map byteV) rfl hB.out.own _ l.length (l.map byteV) rfl hv3.out (bytes_oneCell _) (by have := hll.out; have := hxl.out; unfold maxLen; omega) (by have := hll.out; have := hxl.out; omega) (by have := lt_of_block hB.out.blk; omega) ?_; intro a' c' w' h2 h3 h4; obtain ⟨k1, k2, k3, k4⟩ := rout_set (ys := l) hB.out.blk hB.out.own (Below.refl _ _) h3 h2 (by simp) h4; replace k3 := hid k3; replace k4 := hid k4; clear h2 h3 h4 s0)
  go_end0
  exact ⟨rfl, by rw [← List.append_assoc, hzz.out]; exact k3.out, (hs1.out.trans hs3.out).trans k4.out⟩
 ·have q0 := mayN_ne h0
  by_cases he : e = 0
  ·subst he
   rw [firstE_new]
   go_enter Tryz.func47, Tryz.ntmps47
   go_wp2_with (rw [← hW]; replace hW := hid hW)
   try (rw [← hW]; replace hW := hid hW)
   refine (hc2.out _).mono ?_
   rintro en w1 ⟨v', rfl, ⟨hv, hn⟩, hb1⟩
   clear s0 s1 s2 s3 s4 s5 s6 s7 s8 s9 s10 s11 s12
   obtain ⟨av, cv, rfl, _, _⟩ := hv.form
   have hR1 := hR0.out.below hb1
   obtain ⟨aa1, ca1, hB1⟩ := hR1.box
   have s1 : w1.cell? ⟨b, 1, none⟩ = some (.int .i64 0) := block_cell hB1.blk 1
   have s2 : w1.frozen? ⟨b, 1, none⟩ = false := block_free hB1.blk 1
   have hv1 := hid (show ∀ k, (Value.slice av l.length cv).ownBlock = some k → ¬ Foot w1 b k from fun k hk => hR0.out.new hb1 (hn k hk))
   have hs1 := hid (RStep.pure hlt0.out (sn hB0.out hb1))
   obtain ⟨r1, r2⟩ := rout_bad (e2 := t) hR1
   obtain ⟨W2, hW2⟩ : ∃ W2, W2 = w1.setCell ⟨b, 1, none⟩ (.int .i64 (t : Int)) := ⟨_, rfl⟩
   rw [← hW2] at r1 r2
   have hv2 := hid (show ∀ k, (Value.slice av l.length cv).ownBlock = some k → ¬ Foot W2 b k from fun k hk => (r2.block k (RowAt.blk hv hk) (hv1.out k hk)).2)
   replace hv := hid (RowAt.rstep hv r2 hv1.out)
   replace r1 := hid r1
   replace r2 := hid r2
   clear hn hb1 hR1 hB1 hv1
   go_upto_region 4 with (rw [← hW2]; replace hW2 := hid hW2)
   try (rw [← hW2]; replace hW2 := hid hW2)
   clear s1 s2
   go_wp2_with fail
   refine (hnum.out xs t W2 r1.out (by omega)).mono ?_
   rintro en w3 ⟨rfl, hR3, hs3⟩
   have hv3 := hid (RowAt.rstep hv.out hs3 hv2.out)
   obtain ⟨aa, ca, hB⟩ := hR3.box
   have s0 : w3.cell? ⟨b, 0, none⟩ = some (.slice aa (xs ++ numBytes l.length 2).length ca) := block_cell hB.blk 0
   have hxl := hid (show (xs ++ numBytes l.length 2).length ≤ 900002 by simp [numBytes_length]; omega)
   replace hB := hid hB
   replace hs3 := hid hs3
   clear hR3
   generalize hzz : xs ++ numBytes l.length 2 = zs at s0 hxl hB
   replace hzz := hid hzz
   go_wp2_with (refine wpList_append_rowl elemU8 _ rfl (.tmp 33) (.tmp 34) rfl (b + 1) (.slice aa zs.length ca) zs.length (zs.map byteV) rfl hB.out.own _ l.length (l.map byteV) rfl hv3.out (bytes_oneCell _) (by have := hll.out; have := hxl.out; unfold maxLen; omega) (by have := hll.out; have := hxl.out; omega) (by have := lt_of_block hB.out.blk; omega) ?_; intro a' c' w' h2 h3 h4; obtain ⟨k1, k2, k3, k4⟩ := rout_set (ys := l) hB.out.blk hB.out.own (Below.refl _ _) h3 h2 (by simp) h4; replace k3 := hid k3; replace k4 := hid k4; clear h2 h3 h4 s0)
   go_end0
   exact ⟨rfl, by rw [← List.append_assoc, hzz.out]; exact k3.out, ((hs1.out.trans r2.out).trans hs3.out).trans k4.out⟩
  ·rw [firstE_old _ he]
   have q1 : ((e : Int) == 0) = false := by simp; omega
   go_enter Tryz.func47, Tryz.ntmps47
   go_wp2_with (rw [← hW]; replace hW := hid hW)
   try (rw [← hW]; replace hW := hid hW)
   refine (hc2.out _).mono ?_
   rintro en w1 ⟨v', rfl, ⟨hv, hn⟩, hb1⟩
   clear s0 s1 s2 s3 s4 s5 s6 s7 s8 s9 s10 s11 s12
   obtain ⟨av, cv, rfl, _, _⟩ := hv.form
   have hR1 := hR0.out.below hb1
   obtain ⟨aa1, ca1, hB1⟩ := hR1.box
   have s1 : w1.cell? ⟨b, 1, none⟩ = some (.int .i64 (e : Int)) := block_cell hB1.blk 1
   have hv1 := hid (show ∀ k, (Value.slice av l.length cv).ownBlock = some k → ¬ Foot w1 b k from fun k hk => hR0.out.new hb1 (hn k hk))
   have hs1 := hid (RStep.pure hlt0.out (sn hB0.out hb1))
   replace hv := hid hv
   clear hn hb1 hB1
   replace hR1 := hid hR1
   go_wp2_with fail
   refine (hnum.out xs e w1 hR1.out (by omega)).mono ?_
   rintro en w3 ⟨rfl, hR3, hs3⟩
   have hv3 := hid (RowAt.rstep hv.out hs3 hv1.out)
   obtain ⟨aa, ca, hB⟩ := hR3.box
   have s0 : w3.cell? ⟨b, 0, none⟩ = some (.slice aa (xs ++ numBytes l.length 2).length ca) := block_cell hB.blk 0
   have hxl := hid (show (xs ++ numBytes l.length 2).length ≤ 900002 by simp [numBytes_length]; omega)
   replace hB := hid hB
   replace hs3 := hid hs3
   clear hR3 s1
   generalize hzz : xs ++ numBytes l.length 2 = zs at s0 hxl hB
   replace hzz := hid hzz
   go_wp2_with (refine wpList_append_rowl elemU8 _ rfl (.tmp 33) (.tmp 34) rfl (b + 1) (.slice aa zs.length ca) zs.length (zs.map byteV) rfl hB.out.own _ l.length (l.map byteV) rfl hv3.out (bytes_oneCell _) (by have := hll.out; have := hxl.out; unfold maxLen; omega) (by have := hll.out; have := hxl.out; omega) (by have := lt_of_block hB.out.blk; omega) ?_; intro a' c' w' h2 h3 h4; obtain ⟨k1, k2, k3, k4⟩ := rout_set (ys := l) hB.out.blk hB.out.own (Below.refl _ _) h3 h2 (by simp) h4; replace k3 := hid k3; replace k4 := hid k4; clear h2 h3 h4 s0)
   go_end0
   exact ⟨rfl, by rw [← List.append_assoc, hzz.out]; exact k3.out, (hs1.out.trans hs3.out).trans k4.out⟩
theorem ra_stat (s : Stat) {w0 w : World} {b q : Nat} {m : M} {vN vQ : Value} {d : ByteArray} {xs : List UInt8} {e : Nat} (hok : StatOk s) (hf : Few s) (hx : xs.length ≤ 900000) (h : RA w0 w b q m vN vQ d xs e) :
  Calls Tryz.prog 47 #[.pointer (some ⟨b, 0, none⟩), .agg s.cells] w (RAGood w0 b q m vN vQ d (xs ++ (numBytes s.bytes.length 2 ++ s.bytes)) (firstE e s.err)) :=
 (rout_stat b xs e s w hok hf hx h.out).mono fun _ _ hg => h.good hg
theorem ra_num (n v : Nat) {w0 w : World} {b q : Nat} {m : M} {vN vQ : Value} {d : ByteArray} {xs : List UInt8} {e : Nat} (hv : v < 18446744073709551616) (hn1 : 1 ≤ n) (hn : n ≤ 8) (hx : xs.length ≤ 1000000) (h : RA w0 w b q m vN vQ d xs e) :
  Calls Tryz.prog 25 #[.pointer (some ⟨b, 0, none⟩), .int .i64 (n : Int), .int .u64 (v : Int)] w (RAGood w0 b q m vN vQ d (xs ++ numBytes v n) e) :=
 (rout_num b xs e n v w hv hn1 hn hx h.out).mono fun _ _ hg => h.good hg
theorem ra_num1 (v : Nat) {w0 w : World} {b q : Nat} {m : M} {vN vQ : Value} {d : ByteArray} {xs : List UInt8} {e : Nat} (hv : v < 18446744073709551616) (hx : xs.length ≤ 1000000) (h : RA w0 w b q m vN vQ d xs e) :
  Calls Tryz.prog 25 #[.pointer (some ⟨b, 0, none⟩), .int .i64 1, .int .u64 (v : Int)] w (RAGood w0 b q m vN vQ d (xs ++ numBytes v 1) e) := ra_num 1 v hv (by omega) (by omega) hx h
theorem ra_num2 (v : Nat) {w0 w : World} {b q : Nat} {m : M} {vN vQ : Value} {d : ByteArray} {xs : List UInt8} {e : Nat} (hv : v < 18446744073709551616) (hx : xs.length ≤ 1000000) (h : RA w0 w b q m vN vQ d xs e) :
  Calls Tryz.prog 25 #[.pointer (some ⟨b, 0, none⟩), .int .i64 2, .int .u64 (v : Int)] w (RAGood w0 b q m vN vQ d (xs ++ numBytes v 2) e) := ra_num 2 v hv (by omega) (by omega) hx h
theorem ra_num4 (v : Nat) {w0 w : World} {b q : Nat} {m : M} {vN vQ : Value} {d : ByteArray} {xs : List UInt8} {e : Nat} (hv : v < 18446744073709551616) (hx : xs.length ≤ 1000000) (h : RA w0 w b q m vN vQ d xs e) :
  Calls Tryz.prog 25 #[.pointer (some ⟨b, 0, none⟩), .int .i64 4, .int .u64 (v : Int)] w (RAGood w0 b q m vN vQ d (xs ++ numBytes v 4) e) := ra_num 4 v hv (by omega) (by omega) hx h
theorem ra_num8 (v : Nat) {w0 w : World} {b q : Nat} {m : M} {vN vQ : Value} {d : ByteArray} {xs : List UInt8} {e : Nat} (hv : v < 18446744073709551616) (hx : xs.length ≤ 1000000) (h : RA w0 w b q m vN vQ d xs e) :
  Calls Tryz.prog 25 #[.pointer (some ⟨b, 0, none⟩), .int .i64 8, .int .u64 (v : Int)] w (RAGood w0 b q m vN vQ d (xs ++ numBytes v 8) e) := ra_num 8 v hv (by omega) (by omega) hx h
theorem ra_text (s : ByteArray) {w0 w : World} {b q : Nat} {m : M} {vN vQ : Value} {d : ByteArray} {xs : List UInt8} {e : Nat} (hs : s.size ≤ 1000000) (hx : xs.length ≤ 1000000) (h : RA w0 w b q m vN vQ d xs e) :
  Calls Tryz.prog 45 #[.pointer (some ⟨b, 0, none⟩), .string s] w (RAGood w0 b q m vN vQ d (xs ++ putTextR s) (firstE e (mayN s))) :=
 (rout_text b xs e s w hs hx h.out).mono fun _ _ hg => h.good hg
theorem ra_qid (r : QidV) {w0 w : World} {b q : Nat} {m : M} {vN vQ : Value} {d : ByteArray} {xs : List UInt8} {e : Nat} (hr : QidOk r) (hx : xs.length ≤ 1000000) (h : RA w0 w b q m vN vQ d xs e) :
  Calls Tryz.prog 46 #[.pointer (some ⟨b, 0, none⟩), .agg r.cells] w (RAGood w0 b q m vN vQ d (xs ++ r.bytes) e) :=
 (rout_qid b xs e r w hr hx h.out).mono fun _ _ hg => h.good hg
end
end Go.Proofs.YtlmojhlacfjmaaaGreat
