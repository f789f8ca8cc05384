/- The reference's Wrap and Framed, and the law's framed, at messages that are well. Conditions: sizes of the machine. And the texts behind it. -/
import Derived.Test.YtcbglcebdkpcfaaGreatCeA19
import Derived.Test.YtcbglcebdkpcfaaGreatCtA32
import Derived.Test.YtcbglcebdkpcfaaGreatCtA34
import Derived.Test.YtcbglcebdkpcfaaGreatCeA16
import Derived.Test.YtcbglcebdkpcfaaGreatCeA17
import Derived.Test.YtcbglcebdkpcfaaGreatCeA22
import Derived.Test.YtcbglcebdkpcfaaGreatCtA30
import Derived.Test.YtcbglcebdkpcfaaGreatCeA07
import Derived.Deep.RegionHeld3
import Derived.Test.YtcbglcebdkpcfaaGreatCeA01
namespace Go.Proofs.YtcbglcebdkpcfaaGreat
section
open Go.RowKit
set_option maxRecDepth 100000
set_option linter.unusedVariables false

theorem rwrap_any (v : Value) (l : List UInt8) (w : World) (hv : BytesAt w v l) (hl : l.length ≤ 8188) :
    Calls Tryz.prog 39 #[v] w fun e w' => ∃ v', e = .returned (.tuple #[v', .int .i64 0]) ∧ BytesAt w' v' (frmB l) ∧ Below w.heap.size w w' := by
  obtain ⟨a, c, rfl, h1, h2, _⟩ := hv.form
  have hk1 : IntKind.i64.wrap ((l.length : Int) + 4) = (l.length : Int) + 4 := IntWalk.i64_in _ (by omega)
  have hk2 : IntKind.u64.wrap ((l.length : Int) + 4) = (l.length : Int) + 4 := IntWalk.u64_in _ (by omega)
  have h3 : ¬ ((8188 : Int) < (l.length : Int)) := by omega
  have hp := hid (ref_num_any 4 (l.length + 4) w (by omega) (by omega) (by omega))
  rw [show ((l.length + 4 : Nat) : Int) = (l.length : Int) + 4 by omega] at hp
  replace hv := hid hv
  unfold maxLen at h2
  go_enter Tryz.func39, Tryz.ntmps39
  go_wp2_with fail
  refine hp.out.mono ?_
  rintro e w1 ⟨v1, rfl, hown, hb1⟩
  have hv1 := hid (hv.out.below hb1)
  have hz := hid hb1.size
  replace hb1 := hid hb1
  have hnl : (numBytes (l.length + 4) 4).length = 4 := numBytes_length _ _
  rw [hnl] at hown
  replace hown := hid hown
  clear hp hnl
  go_wp2_with (at_builtin; refine wpList_append_row elemU8 _ rfl (.tmp 12) (.tmp 13) rfl w.heap.size _ 4 _ rfl hown.out _ l.length _ rfl hv1.out (bytes_oneCell l) (by unfold maxLen; omega) (by omega) (by have := hz.out; omega) (fun a' c' w' h2 h3 => ?_))
  replace h2 := hid h2
  replace h3 := hid h3
  go_wp2_with fail
  refine bodyPost_ret (results_tmp2 rfl _ _ _) rfl ?_
  refine ⟨_, rfl, ?_, hb1.out.grown h3.out (by have := hz.out; omega) (fun k hk => (hown.out.lt k hk).1)⟩
  have h4 := h2.out
  have hlen : (frmB l).length = 4 + l.length := by simp [frmB, numBytes_length]
  rw [← List.map_append] at h4
  unfold BytesAt
  rw [hlen]
  exact RowAt.of_own h4
theorem rframed_any (m : M) (vN vQ : Value) (d : ByteArray) (w : World) (hm : MOk m) (hf : RFew m) (hN : StrsAt w vN m.names) (hQ : QidsAt w vQ m.qids) (hD : d.data.toList = m.data) (he : m.err = 0) (hl : m.bytes.length ≤ 8188) :
    Calls Tryz.prog 21 #[.agg (m.rcells vN vQ d)] w fun e w' => e = .returned (.string (strL (frmB m.bytes))) ∧ Below w.heap.size w w' := by
  obtain ⟨cs, hcs⟩ : ∃ cs, cs = m.rcells vN vQ d := ⟨_, rfl⟩
  obtain ⟨W, hW⟩ : ∃ W, W = w.alloc (.cells cs 70) := ⟨_, rfl⟩
  have hB : Below w.heap.size w W := by rw [hW]; exact (Below.refl _ _).alloc (Nat.le_refl _) _
  have hq : W.heap[w.heap.size]? = some (.cells cs 70 (0, 0)) := by rw [hW]; exact heap_alloc_new _ _
  have hs : cs.size = 36 := by rw [hcs]; rfl
  have hen := rencode_any m vN vQ d W hm hf (RowAt.below hN hB) (RowAt.below hQ hB) hD
  unfold REncPost at hen
  rw [he, ← hcs] at hen
  rw [← hcs]
  replace hen := hid hen
  replace hcs := hid hcs
  generalize m.bytes = b at *
  replace hB := hid hB
  replace hq := hid hq
  replace hs := hid hs
  clear hN hQ hD hm hf
  go_enter Tryz.func21, Tryz.ntmps21
  go_wp2_with (first | (rw [← hW]; replace hW := hid hW) | (refine wpList_load_row (by rfl) 70 (.tmp 1) (by rfl) w.heap.size (by rfl) 70 cs (0, 0) _ hq.out Tryz.underlying70 (by rfl) (by rw [hs.out]; kernel_rfl) ?_))
  refine hen.out.mono ?_
  rintro e w1 ⟨v1, rfl, hv1, hb1⟩
  have hw := hid (rwrap_any v1 b w1 hv1 hl)
  have hB1 := hid (sn hB.out hb1)
  clear hen hv1 hb1 hq
  go_wp2_with fail
  refine hw.out.mono ?_
  rintro e w2 ⟨v2, rfl, hv2, hb2⟩
  have hB2 := hid (sn hB1.out hb2)
  have hcv : (convert 29 9 v2).run Tryz.prog w2 = .ok (.string (strL (frmB b))) w2 := conv_string _ _ _ hv2
  obtain ⟨st, hst⟩ : ∃ st, st = strL (frmB b) := ⟨_, rfl⟩
  rw [← hst] at hcv
  replace hst := hid hst
  clear hw hb2 hv2
  go_wp2_with fail
  go_ret
  exact ⟨by rw [hst.out]; rfl, hB2.out⟩
theorem lframed_any (a : MV) (w : World) (ha : a.At w) (hm : MOk a.m) (hf : RFew a.m) (he : a.m.err = 0) (hl : a.m.bytes.length ≤ 8188) :
    Calls Tryz.prog 8 #[.agg a.cells] w fun e w' => ∃ v, e = .returned v ∧ ByM w' w.heap.size v (frmB a.m.bytes) ∧ Below w.heap.size w w' := by
  obtain ⟨cs, hcs⟩ : ∃ cs, cs = a.cells := ⟨_, rfl⟩
  obtain ⟨W, hW⟩ : ∃ W, W = w.alloc (.cells cs 41) := ⟨_, rfl⟩
  have hB : Below w.heap.size w W := by rw [hW]; exact (Below.refl _ _).alloc (Nat.le_refl _) _
  have hq : W.heap[w.heap.size]? = some (.cells cs 41 (0, 0)) := by rw [hW]; exact heap_alloc_new _ _
  have hs : cs.size = 36 := by rw [hcs]; rfl
  have hof := of5_any a W (ha.below hB) (by have := hf.qids; omega)
  rw [← hcs] at hof
  rw [← hcs]
  replace hcs := hid hcs
  replace hof := hid hof
  replace hB := hid hB
  replace hq := hid hq
  replace hs := hid hs
  go_enter Tryz.func8, Tryz.ntmps8
  go_wp2_with (first | (rw [← hW]; replace hW := hid hW) | (refine wpList_load_row (by rfl) 41 (.tmp 1) (by rfl) w.heap.size (by rfl) 41 cs (0, 0) _ hq.out Tryz.underlying41 (by rfl) (by rw [hs.out]; kernel_rfl) ?_))
  refine hof.out.mono ?_
  rintro e w1 ⟨vQ, rfl, hvQ, hb1⟩
  have hB1 := hid (sn hB.out hb1)
  have hfr := hid (rframed_any a.m a.n vQ (strL a.m.data) w1 hm hf ((ha.below hB1.out).1) hvQ rfl he hl)
  obtain ⟨b, hbq⟩ : ∃ b, b = a.m.bytes := ⟨_, rfl⟩
  rw [← hbq] at hfr hl
  replace hbq := hid hbq
  clear hof hvQ hb1 hq
  go_wp2_with fail
  refine hfr.out.mono ?_
  rintro e w2 ⟨rfl, hb2⟩
  have hB2 := hid (sn hB1.out hb2)
  have hsz : (strL (frmB b)).size = b.length + 4 := by
    show (frmB b).toArray.size = _
    simp [frmB, numBytes_length]; omega
  obtain ⟨cc, w3, hr, hby, hb3⟩ := run_bytes w2 (strL (frmB b)) (by rw [hsz]; unfold maxLen; omega) w.heap.size (by exact hB2.out.size)
  rw [hsz] at hby hr
  replace hby := hid hby
  have hB3 := hid (sn hB2.out hb3)
  clear hb2 hb3 hfr
  go_wp2_with fail
  go_ret
  exact ⟨_, rfl, by rw [← hbq.out]; exact hby.out, hB3.out⟩
end
end Go.Proofs.YtcbglcebdkpcfaaGreat

namespace Go.Proofs.YtcbglcebdkpcfaaGreat
section
open Go.RowKit
set_option maxRecDepth 100000
set_option linter.unusedVariables false

def clunkM (ty t f : Nat) : M := { zeroM with ty := ty, tag := t, fid := f }
theorem clunk_ok {ty t f : Nat} (h0 : ty < 256) (ht : t < 65536) (hf : f < 4294967296) : MOk (clunkM ty t f) :=
  have z := zeroM_ok
  { z with ty := h0, tag := ht, fid := hf }
theorem clunk_few (ty t f : Nat) : RFew (clunkM ty t f) :=
  have z := zeroM_few
  { few := { z with }, names := (by show 0 ≤ 30; omega), qids := (by show 0 ≤ 30; omega), data := (by show 0 ≤ 10000; omega) }
theorem clunk_bytes (t f : Nat) : (clunkM 120 t f).err = 0 ∧ (clunkM 120 t f).bytes = numBytes 120 1 ++ numBytes t 2 ++ numBytes f 4 := by
  have e : (clunkM 120 t f).err = 0 := by kernel_rfl
  refine ⟨e, ?_⟩
  unfold M.bytes
  rw [if_pos e]
  have : (outs (clunkM 120 t f) (slots (clunkM 120 t f).ty)).2 = numBytes f 4 := by
    show (outs (clunkM 120 t f) [Slot.fid]).2 = _
    simp [outs, Slot.o, clunkM]
  rw [this]
  rfl
theorem clunk_len (t f : Nat) : (clunkM 120 t f).bytes.length = 7 := by
  rw [(clunk_bytes t f).2]; simp [numBytes_length]
theorem feed_frame {most : Nat} {l : List UInt8} (h3 : 3 ≤ l.length) (hm : l.length + 4 ≤ most) (hl : l.length ≤ 8188) : feedF most ((frmB l).length + 1) (frmB l) = ([l], some []) := by
  have hlen : (frmB l).length = l.length + 4 := by simp [frmB, numBytes_length]; omega
  have hlead : leadN (frmB l) = l.length + 4 := by
    unfold leadN frmB
    rw [List.take_left' (numBytes_length _ _), leN_num, Nat.mod_eq_of_lt (by omega)]
  have h2 : nextN (frmB l) most = 2 := by
    unfold nextN
    rw [hlead, if_neg (by omega), if_neg (by omega)]
  rw [feedF, if_neg (by omega), if_neg (by omega), if_neg (by omega), hlead]
  have e1 : (frmB l).take (l.length + 4) = frmB l := List.take_of_length_le (by omega)
  have e2 : (frmB l).drop (l.length + 4) = [] := List.drop_of_length_le (by omega)
  rw [e1, e2]
  have e3 : (frmB l).drop 4 = l := by unfold frmB; rw [List.drop_left' (numBytes_length _ _)]
  have e4 : feedF most (frmB l).length [] = ([], some []) := by
    obtain ⟨k, hk⟩ : ∃ k, (frmB l).length = k + 1 := ⟨l.length + 3, by omega⟩
    rw [hk, feedF, if_pos (by decide)]
  rw [e3, e4]
theorem clunk_is (t : Nat) (ht : t < 65536) : isM (clunkM 120 t 0).bytes = true ∧ decM (clunkM 120 t 0).bytes = (clunkM 120 t 0).named ∧ (decM (clunkM 120 t 0).bytes).ty = 120 ∧ (decM (clunkM 120 t 0).bytes).tag = t ∧ tagB (clunkM 120 t 0).bytes = t := by
  obtain ⟨h1, h2⟩ := back_is (clunk_ok (ty := 120) (t := t) (f := 0) (by omega) ht (by omega)) (clunk_few 120 t 0).few (clunk_bytes t 0).1
  refine ⟨h1, h2, ?_, ?_, ?_⟩
  · rw [h2]; exact (named_ty _).1
  · rw [h2]; exact (named_ty _).2
  · unfold tagB
    rw [if_neg (by rw [clunk_len]; omega), (clunk_bytes t 0).2, List.append_assoc, List.drop_left' (numBytes_length _ _), List.take_left' (numBytes_length _ _), leN_num, Nat.mod_eq_of_lt (by omega)]
theorem clunk_body (xs : List Nat) (t : Nat) (ht : t < 65536) : bodyE xs (clunkM 120 t 0).bytes = (askF xs t).1 ∧ bodyT xs (clunkM 120 t 0).bytes = (askF xs t).2 := by
  obtain ⟨h1, _, h3, h4, _⟩ := clunk_is t ht
  unfold bodyE bodyT
  rw [if_pos h1, if_pos h1, h3, h4, if_pos (by decide), if_pos (by decide)]
  exact ⟨rfl, rfl⟩
end
end Go.Proofs.YtcbglcebdkpcfaaGreat

namespace Go.Proofs.YtcbglcebdkpcfaaGreat
section
open Go.RowKit
set_option maxRecDepth 100000
set_option linter.unusedVariables false

theorem setCells_below {b : Nat} : ∀ (us : List Value) (w : World) (base k : Nat), base ≤ b → Below base w (w.setCells b k us) := by
  intro us
  induction us with
  | nil => intro w base k h; exact Below.refl _ _
  | cons u us ih =>
    intro w base k h
    have h1 := (Below.refl base w).setCell (p := ⟨b, k, none⟩) h u
    exact h1.trans (ih _ base (k + 1) h)
theorem setCells_block {g : Nat} {e : TypeId} {fz : Nat × Nat} : ∀ (us : List Value) (w : World) (k : Nat) (cur : Array Value), w.heap[g]? = some (.cells cur e fz) → k + us.length ≤ cur.size → ∃ cur' : Array Value, (w.setCells g k us).heap[g]? = some (.cells cur' e fz) ∧ cur'.size = cur.size ∧ cur'.toList.take (k + us.length) = cur.toList.take k ++ us
  | [], w, k, cur, h, hk => ⟨cur, h, rfl, by simp⟩
  | u :: us, w, k, cur, h, hk => by
    simp only [List.length_cons] at hk
    obtain ⟨cur', h1, h2, h3⟩ := setCells_block us (w.setCell ⟨g, k, none⟩ u) (k + 1) (cur.setIfInBounds k u) (block_set h k u) (by simp; omega)
    refine ⟨cur', h1, by simpa using h2, ?_⟩
    rw [List.length_cons, show k + (us.length + 1) = k + 1 + us.length by omega, h3, Array.toList_setIfInBounds, List.take_add_one, List.take_set_of_le (Nat.le_refl _), List.getElem?_set_self (by simp; omega)]
    simp
theorem run_append_bytes (w : World) (ty : TypeId) (base : Nat) (g n c : Nat) (l : List UInt8) (h : ByM w base (.slice (some ⟨g, 0, none⟩) n c) l) (B : List UInt8) (ad : Addr) (cc : Nat) (hsrc : ∀ j u, (B.map byteV)[j]? = some u → w.cell? (ad.add j) = some u) (hl : l.length + B.length ≤ 1000000) (hB : 0 < B.length) (hbase : base ≤ w.heap.size) :
    ∃ a' c' w', (Builtin.append_ #[29, 29] ty #[.slice (some ⟨g, 0, none⟩) n c, .slice (some ad) B.length cc]).run Tryz.prog w = .ok (.slice (some ⟨a', 0, none⟩) (n + B.length) c') w' ∧ BytesAt w' (.slice (some ⟨a', 0, none⟩) (n + B.length) c') (l ++ B) ∧ Below base w w' := by
  obtain ⟨i, z, hi, hz, hsize, hby, hzs⟩ := (elemU8 : ElemOk Tryz.prog 29 5 1 1).hi
  obtain ⟨g', cur, fz, h1, h2, h3, h4, h5, h6, h7⟩ := h
  cases h1
  by_cases hroom : l.length + B.length ≤ cur.size
  · refine ⟨g, cur.size, w.setCells g l.length (B.map byteV), ?_, ?_, setCells_below _ _ _ _ h2⟩
    · have hf := run_firstCells_some (P := Tryz.prog) w i.size B.length ad B.length cc (B.map byteV) (by simp [hsize]) hsrc
      have hst := run_storeCells_cells (P := Tryz.prog) g (l.length * i.size) (B.map byteV) 0 w (fun j hj => by rw [hsize]; simp at hj; rw [block_cellM h3]; simp; omega) (fun j hj => by rw [hsize]; simp at hj; rw [block_frozenM h3]; exact h4 _ (by omega)) (bytes_oneCell B)
      simp only [Nat.add_zero] at hst
      rw [hsize] at hst hf
      simp only [Nat.mul_one] at hst
      simp [Builtin.append_, run_underlying Tryz.underlying29, sizeOf, typeInfo, hi, Builtin.lenOf, hroom, hsize, hf, Addr.add_lit, hst]
    · obtain ⟨cur', e1, e2, e3⟩ := setCells_block (B.map byteV) w l.length cur h3 (by simpa using hroom)
      rw [List.length_map] at e3
      have : ByM (w.setCells g l.length (B.map byteV)) base (.slice (some ⟨g, 0, none⟩) (l ++ B).length cur'.size) (l ++ B) := ⟨g, cur', fz, rfl, h2, e1, by rw [e2]; exact h4, by rw [e2]; simpa using hroom, by rw [e2]; exact h6, by rw [List.length_append, e3, h7, List.map_append]⟩
      rw [e2, List.length_append] at this
      exact this.at
  · have holds : ∀ j u, (l.map byteV)[j]? = some u → w.cell? ((⟨g, 0, none⟩ : Addr).add j) = some u := fun j u hu => by
      rw [add_plain', Nat.zero_add, block_cellM h3, ← Array.getElem?_toList]
      rw [← h7, List.getElem?_take] at hu
      split at hu
      · exact hu
      · cases hu
    have hr := run_append_grow (P := Tryz.prog) w 29 ty 5 i z Tryz.underlying29 hi hz ⟨g, 0, none⟩ l.length cur.size (l.map byteV) (by simp [hsize]) holds ad B.length cc (B.map byteV) (by simp [hsize]) hsrc (by omega) (by omega) (growslice_fits (by omega) (by rw [hby]; omega))
    have hge := grownCap_ge w (l.length + B.length) cur.size 5
    have hle := grownCap_le_maxLen w (l.length + B.length) cur.size 5 (by unfold maxLen; omega)
    refine ⟨_, _, _, hr, ?_, ?_⟩
    · have hsz : ((l.map byteV).toArray ++ (B.map byteV).toArray ++ Builtin.zeroCells z.cells (grownCap w (l.length + B.length) cur.size 5 - (l.length + B.length))).size = grownCap w (l.length + B.length) cur.size 5 := by
        simp only [Array.size_append, List.size_toArray, size_zeroCells, hzs, List.length_map]
        omega
      obtain ⟨Z, hZ⟩ : ∃ Z : Array Value, Z = (l.map byteV).toArray ++ (B.map byteV).toArray ++ Builtin.zeroCells z.cells (grownCap w (l.length + B.length) cur.size 5 - (l.length + B.length)) := ⟨_, rfl⟩
      rw [← hZ] at hsz ⊢
      have : ByM (w.drew.alloc (.cells Z 5)) base (.slice (some ⟨w.heap.size, 0, none⟩) (l ++ B).length Z.size) (l ++ B) := ⟨w.heap.size, Z, (0, 0), rfl, hbase, heap_alloc_new w.drew _, fun j hj => by simp, by rw [hsz]; simpa using hge, by rw [hsz]; exact hle, by
        rw [hZ]
        simp only [Array.toList_append, List.append_assoc]
        rw [← List.append_assoc, ← List.map_append]
        have : (l ++ B).length = ((l ++ B).map byteV).length := by simp
        rw [this]
        exact List.take_left⟩
      rw [hsz, List.length_append] at this
      exact this.at
    · exact ((Below.refl base w).drew).alloc hbase _
theorem wpList_append_bytes {ops : Array Oper} {rest : List Oper} {o : Oper} {a : Act} {Q : Exit → Act → World → Prop} (w : World) (hgd : o.guard = none) (s x : Operand)
    (ho : o.op = .call { callee := .builtin .append, args := #[s, x], argTypes := #[29, 29] })
    (base : Nat) {v sv : Value} (l B : List UInt8) (hs : a.eval s = v) (hown : ByM w base v l) (hx : a.eval x = sv) (hsrc : BytesAt w sv B) (hl : l.length + B.length ≤ 1000000) (hB : 0 < B.length) (hbase : base ≤ w.heap.size)
    (h : ∀ v' w', BytesAt w' v' (l ++ B) → Below base w w' → wpList Tryz.prog ops Q rest (a.put o.dst v') w') : wpList Tryz.prog ops Q (o :: rest) a w :=
  wpList_plain hgd fun K hK => by
    obtain ⟨g, c, rfl, _, _, _⟩ := hown.form
    obtain ⟨_, ax, cx, rfl, _, _, hn, _, h4⟩ := hsrc
    cases ax with
    | none => exfalso; have := hn rfl; omega
    | some ad =>
      obtain ⟨ab, ao, asp⟩ := ad
      refine wp_append_run s x _ ho hs hx (R := fun v' w' => BytesAt w' v' (l ++ B) ∧ Below base w w') ?_ ?_
      · obtain ⟨a', c', w', hr, h2, h3⟩ := run_append_bytes w o.type base g _ c l hown B ⟨ab, ao, asp⟩ cx (fun j u hu => by
          obtain ⟨b, o2, hb, hcc⟩ := h4 j u hu
          cases hb
          rw [add_plain']; exact hcc) hl hB hbase
        exact ⟨_, w', hr, h2, h3⟩
      · rintro v' w' ⟨h2, h3⟩
        exact hK _ _ (h v' w' h2 h3)
end
end Go.Proofs.YtcbglcebdkpcfaaGreat

namespace Go.Proofs.YtcbglcebdkpcfaaGreat
section
set_option maxRecDepth 100000
set_option linter.unusedVariables false
theorem wpAnyH_weak {P : Program} {md : Region.Mode} {ops : Array Oper} {Q : Exit → Act → World → Prop} {S S' : World → Prop} (hs : ∀ w, S' w → S w) : ∀ (fuel : Nat) (listed : Array Bool) (a : Act) (w : World), wpAnyH P md ops Q S' fuel listed a w → wpAnyH P md ops Q S fuel listed a w
  | 0, _, _, _, h => h
  | fuel + 1, _, _, _, h => ⟨h.1, fun i hi => wpOp_mono (fun a' w' h' => ⟨hs w' h'.1, wpAnyH_weak hs fuel _ a' w' h'.2⟩) (h.2 i hi)⟩
theorem held_switch {P : Program} {md : Region.Mode} {ops : Array Oper} {Q : Exit → Act → World → Prop} {S S' : World → Prop} {fuel : Nat} {listed : Array Bool} {K : Act → World → Prop} (hK : Shut (∀ a w, S w → (S w → wpAnyH P md ops Q S fuel listed a w) → K a w)) (hs : ∀ w, S' w → S w) : Shut (∀ a w, S' w → (S' w → wpAnyH P md ops Q S' fuel listed a w) → K a w) :=
  fun a w h1 h2 => hK a w (hs w h1) (fun _ => wpAnyH_weak hs fuel listed a w (h2 h1))
theorem take_list {l : List Oper} {i : Nat} {o : Oper} (h : l[i]? = some o) : l.toArray[i]? = some o := by simpa using h
end
end Go.Proofs.YtcbglcebdkpcfaaGreat
