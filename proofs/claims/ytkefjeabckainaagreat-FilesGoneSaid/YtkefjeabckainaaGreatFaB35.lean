/- Stat of package fsys. Conditions: in the statements. And the texts behind it. -/
import Derived.Test.YtkefjeabckainaaGreatFaB34
import Derived.Test.YtkefjeabckainaaGreatFaB31
import Derived.Test.YtkefjeabckainaaGreatFaB30
import Derived.Test.YtkefjeabckainaaGreatFaB33
import Derived.Test.YtkefjeabckainaaGreatFaB26
import Derived.Test.YtkefjeabckainaaGreatFaB01
import Derived.ProofKit
import Derived.OpenShut
import Derived.ChangeOld
namespace Go.Proofs.YtkefjeabckainaaGreat
section
open Go.RowKit Go.Maps
set_option maxRecDepth 100000
set_option linter.unusedVariables false

theorem fresults_cc {P : Program} {fn : Func} {p q : Tmp} {ty ty2 : TypeId} (h : fn.results = #[.cell p ty, .cell q ty2]) (tmps : Array Value) (w : World) (g g2 : Nat) (t : TypeId) (cs : Array Value) (fr : Nat × Nat) (d : TypeDesc) (x : Value)
    (hp : tmps.getD p undef = .pointer (some ⟨g, 0, none⟩)) (hq : tmps.getD q undef = .pointer (some ⟨g2, 0, none⟩)) (hg : w.heap[g]? = some (.cells cs t fr))
    (hu : P.underlying ty = some d) (hd : (match d with | .struct _ | .array _ _ => true | _ => false) = true) (hi : (P.info? ty).map (·.size) = some cs.size) (hx : (loadVar ty2 ⟨g2, 0, none⟩).run P w = .ok x w) :
    (results fn tmps).run P w = .ok (.tuple #[.agg cs, x]) w := by
  have hp' : tmps[p]?.getD undef = .pointer (some ⟨g, 0, none⟩) := by simpa using hp
  have hq' : tmps[q]?.getD undef = .pointer (some ⟨g2, 0, none⟩) := by simpa using hq
  simp [results, h, hp', hq', asAddr, run_loadVar_row w g t ty cs fr d hg hu hd hi, hx]
def statZ : Array Value := #[.int .u16 0, .int .u32 0, .int .u8 0, .int .u32 0, .int .u64 0, .int .u32 0, .int .u32 0, .int .u32 0, .int .u64 0, .string ⟨#[]⟩, .string ⟨#[]⟩, .string ⟨#[]⟩, .string ⟨#[]⟩]
def statF (f : FsV) (q : Nat) : Array Value × Nat := match getL f.t.n q with | none => (statZ, 6) | some x => (statC x (lenN x), 0)
theorem back_other {w : World} {b k j next E : Nat} {v : Value} (hj : j < w.heap.size) (h1 : j ≠ b) (h2 : j ≠ k) : (backW w b k next v E).heap[j]? = w.heap[j]? := by
  unfold backW
  rw [block_set_other (show j ≠ k from h2), block_set_other (show j ≠ b from h1), block_set_other (show j ≠ b from h1), heap_alloc_old _ _ hj]
set_option maxHeartbeats 3200000 in
theorem fstat_any (b m p n : Nat) (v : Value) (f : FsV) (u : Usr) (q : Nat) (w : World) (h : FSo w b m v p f u n) (ht : TrOk f.t.n) (hne : f.t.n ≠ []) :
    Calls Tryz.prog 19 #[.pointer (some ⟨b, 0, none⟩), .int .u64 (q : Int)] w (FPair b m p n f u (.agg (statF f q).1) (statF f q).2 w) := by
  obtain ⟨a0, c0, rfl, g1, g2⟩ := h.row.form
  obtain ⟨W, hW⟩ : ∃ W, W = (w.alloc (.cells statZ 53)).alloc (.cells #[.int .i64 0] 33) := ⟨_, rfl⟩
  have hb0 : Below w.heap.size w W := by rw [hW]; exact ((Below.refl _ _).alloc (Nat.le_refl _) _).alloc (by simp) _
  have hK0 := hid (show W.heap[w.heap.size + 1]? = some (.cells #[.int .i64 0] 33 (0, 0)) by rw [hW]; exact heap2 _ _ _)
  have hR0 := hid (show W.heap[w.heap.size]? = some (.cells statZ 53 (0, 0)) by rw [hW, heap_alloc_old _ _ (by simp)]; exact heap_alloc_new _ _)
  have hF0 := hid (h.below hb0)
  have hS0 := hid (FStep.pure (b := b) (m := m) hb0)
  have hbw := lt_of_block h.blk
  have hmw := h.map.lt
  have q0 := block_cell hF0.out.blk 0
  have q1 := block_cell hF0.out.blk 1
  have hlt0 := hid (lt_of_block hK0.out)
  have hlr0 := hid (lt_of_block hR0.out)
  replace hne := hid hne
  replace h := hid h
  replace hb0 := hid hb0
  cases hg : getL f.t.n q with
  | none =>
    have hE : Hid (statF f q = (statZ, 6)) := hid (by unfold statF; rw [hg])
    have hli := hid (fget_no b m p n _ f u q W hF0.out ht hg)
    clear hg
    unfold statZ at hW
    go_enter_defers Tryz.func19, Tryz.ntmps19
    go_wp2_with (rw [← hW]; replace hW := hid hW)
    try (rw [← hW]; replace hW := hid hW)
    refine hli.out.mono ?_
    rintro e w1 ⟨rfl, hb1⟩
    have hK1 := (hb1.block _ hlt0.out).trans hK0.out
    have hR1 := (hb1.block _ hlr0.out).trans hR0.out
    have hF1 := hF0.out.below hb1
    have hS1 := hS0.out.trans (FStep.pure hb1)
    replace hK1 := hid hK1
    replace hR1 := hid hR1
    replace hF1 := hid hF1
    replace hS1 := hid hS1
    go_wp2_with fail
    rw [hE.out]
    exact fend_bad hF1.out hK1.out (by omega) (by simp [go_sem]) ⟨_, fresults_cc rfl _ _ w.heap.size (w.heap.size + 1) _ statZ _ _ _ rfl rfl ((back_other (lt_of_block hR1.out) (by omega) (by omega)).trans hR1.out) Tryz.underlying53 rfl (by kernel_rfl) (frld_errno (back_cell hK1.out (by omega))), rfl, ⟨_, hF1.out.back hne.out hK1.out (by omega) (by omega)⟩, hS1.out.back (by omega) _ _ _⟩
  | some x =>
    have hxm := (getL_some hg).1
    have hE : Hid (statF f q = (statC x (lenN x), 0)) := hid (by unfold statF; rw [hg])
    have hli := hid (fget_ok b m p n _ f u q x W hF0.out ht hg)
    have hst := hid (fun X => nstat_any x X (ht.ok x hxm) (by have := ht.len x hxm; omega))
    clear hg hxm
    unfold statZ at hW
    go_enter_defers Tryz.func19, Tryz.ntmps19
    go_wp2_with (rw [← hW]; replace hW := hid hW)
    try (rw [← hW]; replace hW := hid hW)
    refine hli.out.mono ?_
    rintro e w1 ⟨rfl, hb1⟩
    go_wp2_with fail
    refine (hst.out _).mono ?_
    rintro e w2 ⟨rfl, hb2⟩
    have hbb := sn hb1 hb2
    have hK2 := (hbb.block _ hlt0.out).trans hK0.out
    have hR2 := hid ((hbb.block _ hlr0.out).trans hR0.out)
    have hB2 := sn hb0.out hbb
    obtain ⟨Y, hY⟩ : ∃ Y, Y = w2.setRow w.heap.size (statC x (lenN x)) := ⟨_, rfl⟩
    have hRY := hid (show Y.heap[w.heap.size]? = some (.cells (statC x (lenN x)) 53 (0, 0)) by rw [hY]; exact setRow_heap _ _ _ _ _ _ hR2.out)
    have hKY : Y.heap[w.heap.size + 1]? = some (.cells #[.int .i64 0] 33 (0, 0)) := by rw [hY]; exact (setRow_other _ _ _ _ (by omega)).trans hK2
    have hBY : Below w.heap.size w Y := by rw [hY]; exact below_setRow hB2 (Nat.le_refl _) _
    have k0 : Y.cell? ⟨w.heap.size + 1, 0, none⟩ = some (.int .i64 0) := block_cell hKY 0
    have k1 : Y.frozen? ⟨w.heap.size + 1, 0, none⟩ = false := block_free hKY 0
    have hKZ := hid (show (Y.setCell ⟨w.heap.size + 1, 0, none⟩ (.int .i64 0)).heap[w.heap.size + 1]? = some (.cells #[.int .i64 0] 33 (0, 0)) from block_set hKY 0 _)
    have hRZ := hid (show (Y.setCell ⟨w.heap.size + 1, 0, none⟩ (.int .i64 0)).heap[w.heap.size]? = some (.cells (statC x (lenN x)) 53 (0, 0)) from (block_set_other (by show w.heap.size ≠ w.heap.size + 1; omega)).trans hRY.out)
    have hBZ := hid (show Below w.heap.size w (Y.setCell ⟨w.heap.size + 1, 0, none⟩ (.int .i64 0)) from hBY.setCell (p := ⟨w.heap.size + 1, 0, none⟩) (by show w.heap.size ≤ w.heap.size + 1; omega) _)
    clear hb1 hb2 hbb hK2 hB2 hKY hBY hli hst
    go_wp2_with (first
      | (rw [← hY]; replace hY := hid hY)
      | (refine wpList_store_row (by rfl) 53 (.tmp 4) (.tmp 14) (by rfl) w.heap.size (statC x (lenN x)) (by rfl) (by rfl) 53 _ hR2.out (by kernel_rfl) (by kernel_rfl) (by kernel_rfl) ?_))
    rw [hE.out]
    have hA := (Below.refl (Y.setCell ⟨w.heap.size + 1, 0, none⟩ (.int .i64 0)).heap.size (Y.setCell ⟨w.heap.size + 1, 0, none⟩ (.int .i64 0))).alloc (Nat.le_refl _) (.cells #[.int .u64 (f.t.next : Int), .slice a0 f.t.n.length c0] 30)
    exact fend_ok (by simp [go_sem]) ⟨_, fresults_cc rfl _ _ w.heap.size (w.heap.size + 1) _ (statC x (lenN x)) _ _ _ rfl rfl ((hA.block _ (lt_of_block hRZ.out)).trans hRZ.out) Tryz.underlying53 rfl (by kernel_rfl) (frld_errno (block_cell ((hA.block _ (lt_of_block hKZ.out)).trans hKZ.out) 0)), rfl, ⟨_, h.out.below (sn hBZ.out hA)⟩, FStep.pure (sn hBZ.out hA)⟩
end
end Go.Proofs.YtkefjeabckainaaGreat

namespace Go.Proofs.YtkefjeabckainaaGreat
section
open Go.RowKit Go.Maps
set_option maxRecDepth 100000
set_option linter.unusedVariables false
variable {V : ByteArray → Bool}

def U0 : Usr := ⟨US0, GS0⟩
theorem may_same {gs : List Grp} (h : SameG GS0 gs) : (⟨US0, gs⟩ : Usr).may = U0.may := by
  funext who n want
  unfold Usr.may
  rw [← h.inB]
  rfl
theorem above_same {gs : List Grp} (h : SameG GS0 gs) : aboveF ⟨US0, gs⟩ = aboveF U0 := by
  funext f who n
  unfold aboveF
  rw [may_same h]
theorem openN_same {gs : List Grp} (h : SameG GS0 gs) : openN US0 gs = openN US0 GS0 := by
  funext who n mode
  unfold openN
  rw [← h.inB]
theorem createF_same {gs : List Grp} (h : SameG GS0 gs) : createF ⟨US0, gs⟩ = createF U0 := by
  funext f who q name mode o
  unfold createF
  rw [may_same h]
theorem stepF_same {gs : List Grp} (h : SameG GS0 gs) : stepF ⟨US0, gs⟩ = stepF U0 := by
  funext f who q name
  unfold stepF
  rw [may_same h]
theorem removeF_same {gs : List Grp} (h : SameG GS0 gs) : removeF ⟨US0, gs⟩ = removeF U0 := by
  funext f who q
  unfold removeF
  rw [above_same h]
theorem openF_same {gs : List Grp} (h : SameG GS0 gs) : openF ⟨US0, gs⟩ = openF U0 := by
  funext f who q mode
  unfold openF
  simp only
  rw [above_same h, openN_same h]
  rfl
structure FAtV (V : ByteArray → Bool) (w0 w : World) (b m p : Nat) (f : FsV) (gs : List Grp) (n : Nat) : Prop where
  fs : ∃ v, FSo w b m v p f ⟨US0, gs⟩ n
  below : Below w0.heap.size w0 w
  lb : w0.heap.size ≤ b
  lm : w0.heap.size ≤ m
  ok : FOkV V f
  sg : SameG GS0 gs
abbrev FAt := FAtV validB
theorem FAtV.mono {w0 w : World} {b m p n n' : Nat} {f : FsV} {gs : List Grp} (h : FAtV V w0 w b m p f gs n) (hn : n ≤ n') : FAtV V w0 w b m p f gs n' := by
  obtain ⟨v, hv⟩ := h.fs
  exact ⟨⟨v, hv.mono hn⟩, h.below, h.lb, h.lm, h.ok, h.sg⟩
theorem FAtV.on {w0 w w' : World} {b m p n : Nat} {f : FsV} {gs : List Grp} (h : FAtV V w0 w b m p f gs n) (hb : Below w.heap.size w w') : FAtV V w0 w' b m p f gs n := by
  obtain ⟨v, hv⟩ := h.fs
  exact ⟨⟨v, hv.below hb⟩, sn h.below hb, h.lb, h.lm, h.ok, h.sg⟩
theorem FAtV.step {w0 w w' : World} {b m p n n' : Nat} {f f' : FsV} {gs : List Grp} (h : FAtV V w0 w b m p f gs n) (hs : FStep b m w w') (hf : ∃ v, FSo w' b m v p f' ⟨US0, gs⟩ n') (hok : FOkV V f') : FAtV V w0 w' b m p f' gs n' :=
  ⟨hf, h.below.trans (hs.below _ h.lb h.lm h.below.size), h.lb, h.lm, hok, h.sg⟩
section
variable {w0 w : World} {b m p n : Nat} {f f' : FsV} {gs : List Grp}
theorem FAtV.create (h : FAtV V w0 w b m p f gs n) {who : ByteArray} {q : Nat} {name : ByteArray} {mode o pp E : Nat} (he : createF U0 f who q name mode o = (f', pp, E)) (hname : name.size ≤ maxLen) (hmode : mode < 4294967296) (ho : o < 256) (hw : V who = true) (h2 : who.size ≤ maxLen) (hx : f.t.next + 1 < 9223372036854775808) (hn : n < 1000000) :
    Calls Tryz.prog 10 #[.pointer (some ⟨b, 0, none⟩), .string who, .int .u64 (q : Int), .string name, .int .u32 (mode : Int), .int .u8 (o : Int)] w fun e w' => e = .returned (.tuple #[.int .u64 (pp : Int), .int .i64 (E : Int)]) ∧ FAtV V w0 w' b m p f' gs (n + 1) := by
  obtain ⟨v, hv⟩ := h.fs
  refine (fcreate_any b m p n v f ⟨US0, gs⟩ who q name mode o w hv h.ok (gs0_ub h.sg) hname hmode ho hn).mono ?_
  rintro e w' ⟨rfl, hf, hs⟩
  have hok := createF_ok U0 h.ok who q name mode o hw h2 hname hmode hx
  rw [createF_same h.sg, he] at hf
  rw [he] at hok
  refine ⟨by rw [createF_same h.sg, he], h.step hs hf hok⟩
theorem FAtV.hold (h : FAtV V w0 w b m p f gs n) {q : Nat} {r : Bool} (he : holdF f q = (f', r)) (hq : q < 18446744073709551616) (hn : n < 1000000) :
    Calls Tryz.prog 11 #[.pointer (some ⟨b, 0, none⟩), .int .u64 (q : Int)] w fun e w' => e = .returned (.bool r) ∧ FAtV V w0 w' b m p f' gs (n + 1) := by
  obtain ⟨v, hv⟩ := h.fs
  refine (fhold_any b m p n v f ⟨US0, gs⟩ q w hv h.ok.tr hq hn).mono ?_
  rintro e w' ⟨rfl, hf, hs⟩
  have hok := holdF_ok h.ok q
  rw [he] at hf hok
  exact ⟨by rw [he], h.step hs ⟨_, hf⟩ hok⟩
theorem FAtV.let_ (h : FAtV V w0 w b m p f gs n) {q : Nat} (he : letF f q = f') (hq : q < 18446744073709551616) (hn : n < 1000000) :
    Calls Tryz.prog 16 #[.pointer (some ⟨b, 0, none⟩), .int .u64 (q : Int)] w fun e w' => e = .returned (.tuple #[]) ∧ FAtV V w0 w' b m p f' gs (n + 1) := by
  obtain ⟨v, hv⟩ := h.fs
  refine (flet_any b m p n v f ⟨US0, gs⟩ q w hv h.ok.tr hq hn).mono ?_
  rintro e w' ⟨rfl, ⟨v', hf, _⟩, hs⟩
  have hok := letF_ok h.ok q
  rw [he] at hf hok
  exact ⟨rfl, h.step hs ⟨_, hf⟩ hok⟩
theorem FAtV.close (h : FAtV V w0 w b m p f gs n) {q mode : Nat} (he : closeF f q mode = f') (hq : q < 18446744073709551616) (hm : mode < 256) (hn : n < 1000000) :
    Calls Tryz.prog 24 #[.pointer (some ⟨b, 0, none⟩), .int .u64 (q : Int), .int .u8 (mode : Int)] w fun e w' => e = .returned (.tuple #[]) ∧ FAtV V w0 w' b m p f' gs (n + 1) := by
  obtain ⟨v, hv⟩ := h.fs
  refine (fclose_any b m p n v f ⟨US0, gs⟩ q mode w hv h.ok hq hm hn).mono ?_
  rintro e w' ⟨rfl, hf, hs⟩
  have hok := closeF_ok h.ok q mode
  rw [he] at hf hok
  exact ⟨rfl, h.step hs hf hok⟩
theorem FAtV.read (h : FAtV V w0 w b m p f gs n) {q off kk E : Nat} {s : ByteArray} (he : readF f q off kk = (f', s, E)) (hoff : off < 18446744073709551616) (hkk : kk < 4294967296) :
    Calls Tryz.prog 14 #[.pointer (some ⟨b, 0, none⟩), .int .u64 (q : Int), .int .u64 (off : Int), .int .u32 (kk : Int)] w fun e w' => e = .returned (.tuple #[.string s, .int .i64 (E : Int)]) ∧ FAtV V w0 w' b m p f' gs n := by
  obtain ⟨v, hv⟩ := h.fs
  refine (fread_any b m p n v f ⟨US0, gs⟩ q off kk w hv h.ok.tr h.ok.ne hoff hkk).mono ?_
  rintro e w' ⟨rfl, hf, hs⟩
  have hok := readF_ok h.ok q off kk
  rw [he] at hf hok
  exact ⟨by rw [he], h.step hs hf hok⟩
theorem FAtV.write (h : FAtV V w0 w b m p f gs n) {who : ByteArray} {q off k E : Nat} {data : ByteArray} (he : writeF f who q off data = (f', k, E)) (hoff : off < 18446744073709551616) (hda : data.size ≤ 1000000) (hw : V who = true) (h2 : who.size ≤ maxLen) :
    Calls Tryz.prog 12 #[.pointer (some ⟨b, 0, none⟩), .string who, .int .u64 (q : Int), .int .u64 (off : Int), .string data] w fun e w' => e = .returned (.tuple #[.int .u32 (k : Int), .int .i64 (E : Int)]) ∧ FAtV V w0 w' b m p f' gs n := by
  obtain ⟨v, hv⟩ := h.fs
  refine (fwrite_any b m p n v f ⟨US0, gs⟩ who q off data w hv h.ok.tr h.ok.ne hoff hda).mono ?_
  rintro e w' ⟨rfl, hf, hs⟩
  have hok := writeF_ok h.ok who q off data hw h2
  rw [he] at hf hok
  exact ⟨by rw [he], h.step hs hf hok⟩
theorem FAtV.remove (h : FAtV V w0 w b m p f gs n) {who : ByteArray} {q E : Nat} (he : removeF U0 f who q = (f', E)) (hq : q < 18446744073709551616) (hw : V who = true) (h2 : who.size ≤ maxLen) :
    Calls Tryz.prog 13 #[.pointer (some ⟨b, 0, none⟩), .string who, .int .u64 (q : Int)] w fun e w' => e = .returned (.int .i64 (E : Int)) ∧ FAtV V w0 w' b m p f' gs n := by
  obtain ⟨v, hv⟩ := h.fs
  refine (fremove_any b m p n v f ⟨US0, gs⟩ who q w hv h.ok.tr h.ok.ne (gs0_ub h.sg) hq h.ok.now (unlinkT_good h.ok.good q who f.now hw h.ok.now h2).tr).mono ?_
  rintro e w' ⟨rfl, hf, hs⟩
  have hok := removeF_ok U0 h.ok who q hw h2
  rw [removeF_same h.sg, he] at hf
  rw [he] at hok
  exact ⟨by rw [removeF_same h.sg, he], h.step hs hf hok⟩
theorem FAtV.open_ (h : FAtV V w0 w b m p f gs n) {who : ByteArray} {q mode E : Nat} (he : openF U0 f who q mode = (f', E)) (hq : q < 18446744073709551616) (hm : mode < 256) (hw : V who = true) (h2 : who.size ≤ maxLen) (hn : n < 1000000) :
    Calls Tryz.prog 23 #[.pointer (some ⟨b, 0, none⟩), .string who, .int .u64 (q : Int), .int .u8 (mode : Int)] w fun e w' => e = .returned (.int .i64 (E : Int)) ∧ FAtV V w0 w' b m p f' gs (n + 1) := by
  obtain ⟨v, hv⟩ := h.fs
  refine (fopen_any b m p n v f ⟨US0, gs⟩ who q mode w hv h.ok (gs0_ub h.sg) hq hm hn).mono ?_
  rintro e w' ⟨rfl, hf, hs⟩
  have hok := openF_ok U0 h.ok who q mode hw h2
  rw [openF_same h.sg, he] at hf
  rw [he] at hok
  exact ⟨by rw [openF_same h.sg, he], h.step hs hf hok⟩
theorem FAtV.stepIn (h : FAtV V w0 w b m p f gs n) {who : ByteArray} {q : Nat} {name : ByteArray} {pp E : Nat} (he : stepF U0 f who q name = (pp, E)) :
    Calls Tryz.prog 20 #[.pointer (some ⟨b, 0, none⟩), .string who, .int .u64 (q : Int), .string name] w fun e w' => e = .returned (.tuple #[.int .u64 (pp : Int), .int .i64 (E : Int)]) ∧ FAtV V w0 w' b m p f gs n := by
  obtain ⟨v, hv⟩ := h.fs
  refine (fstep_any b m p n v f ⟨US0, gs⟩ who q name w hv h.ok.tr h.ok.ne (gs0_ub h.sg)).mono ?_
  rintro e w' ⟨rfl, hf, hs⟩
  exact ⟨by rw [stepF_same h.sg, he], h.step hs hf h.ok⟩
theorem FAtV.stat (h : FAtV V w0 w b m p f gs n) {q E : Nat} {x : Array Value} (he : statF f q = (x, E)) :
    Calls Tryz.prog 19 #[.pointer (some ⟨b, 0, none⟩), .int .u64 (q : Int)] w fun e w' => e = .returned (.tuple #[.agg x, .int .i64 (E : Int)]) ∧ FAtV V w0 w' b m p f gs n := by
  obtain ⟨v, hv⟩ := h.fs
  refine (fstat_any b m p n v f ⟨US0, gs⟩ q w hv h.ok.tr h.ok.ne).mono ?_
  rintro e w' ⟨rfl, hf, hs⟩
  exact ⟨by rw [he], h.step hs hf h.ok⟩
theorem FAtV.has (h : FAtV V w0 w b m p f gs n) {s : ByteArray} {r : Bool} (he : hasS US0 s = r) :
    Calls Tryz.prog 29 #[.pointer (some ⟨b, 0, none⟩), .string s] w fun e w' => e = .returned (.bool r) ∧ w' = w := by
  obtain ⟨v, hv⟩ := h.fs
  refine (fhas_any b m p n v f ⟨US0, gs⟩ s w hv (gs0_ub h.sg).users).mono ?_
  rintro e w' ⟨rfl, hw⟩
  exact ⟨by rw [← he], hw⟩
theorem FAtV.tree (h : FAtV V w0 w b m p f gs n) :
    Calls Tryz.prog 17 #[.pointer (some ⟨b, 0, none⟩)] w fun e w' => ∃ v', e = .returned (.agg #[.int .u64 (f.t.next : Int), v']) ∧ NodsAt w' v' f.t.n ∧ (∀ k, v'.ownBlock = some k → w.heap.size ≤ k) ∧ FAtV V w0 w' b m p f gs n ∧ Below w.heap.size w w' := by
  obtain ⟨v, hv⟩ := h.fs
  refine (ftree_any b m p n v f ⟨US0, gs⟩ w hv h.ok.tr).mono ?_
  rintro e w' ⟨v', rfl, h1, h3, h2⟩
  exact ⟨v', rfl, h1, h3, h.on h2, h2⟩
theorem FAtV.list (h : FAtV V w0 w b m p f gs n) {q : Nat} :
    Calls Tryz.prog 15 #[.pointer (some ⟨b, 0, none⟩), .int .u64 (q : Int)] w fun e w' => ∃ v ks, e = .returned (.tuple #[v, .int .i64 (listE f q : Int)]) ∧ FAtV V w0 w' b m p f gs n ∧ ((listE f q = 0 ∧ FstsAt w' v ks ∧ Srt leNP ks ∧ ks.Perm (kidsOf f.t.n q)) ∨ (listE f q ≠ 0 ∧ v = .slice none 0 0)) := by
  obtain ⟨v, hv⟩ := h.fs
  refine (flist_any b m p n v f ⟨US0, gs⟩ q w hv h.ok.tr h.ok.ne).mono ?_
  rintro e w' ⟨v2, ks, rfl, hf, hs, h3⟩
  exact ⟨v2, ks, rfl, h.step hs hf h.ok, h3⟩
end
theorem BothAt.fat {w0 w : World} {b m p g : Nat} {v vr vu vg : Value} {gs1 gs2 : List Grp} {t : Tr} (h : BothAt w0 w b m p g v vr vu vg gs1 gs2 t) (hg : GoodV V t) : FAtV V w0 w b m p (newF t) gs1 0 :=
  ⟨⟨v, h.fs⟩, h.below, h.lb, h.lm, newF_ok hg, h.s1⟩
end
end Go.Proofs.YtkefjeabckainaaGreat

namespace Go.Proofs.YtkefjeabckainaaGreat
section
open Go.RowKit
set_option maxRecDepth 100000
set_option linter.unusedVariables false
theorem sz1 (b : UInt8) : (⟨#[b]⟩ : ByteArray).size ≤ maxLen := by show (1 : Nat) ≤ maxLen; unfold maxLen; omega
end
end Go.Proofs.YtkefjeabckainaaGreat

namespace Go.Proofs.YtkefjeabckainaaGreat
section
open Go.RowKit Go.Maps
set_option maxRecDepth 100000
set_option linter.unusedVariables false

noncomputable def T0 : Tr := ⟨2, [rootN ⟨#[117, 49]⟩ 0]⟩
noncomputable def J0 : FsV := newF T0
noncomputable def J1 : FsV := (createF U0 J0 ⟨#[117, 49]⟩ 1 ⟨#[97]⟩ 438 2).1
noncomputable def J2 : FsV := (holdF J1 2).1
noncomputable def J3 : FsV := (writeF J2 ⟨#[117, 49]⟩ 2 0 ⟨#[120, 121]⟩).1
noncomputable def J4 : FsV := (removeF U0 J3 ⟨#[117, 49]⟩ 2).1
noncomputable def J5 : FsV := (readF J4 2 0 9).1
noncomputable def J6 : FsV := closeF J5 2 2
noncomputable def J7 : FsV := letF J6 2
theorem J1_is : createF U0 J0 ⟨#[117, 49]⟩ 1 ⟨#[97]⟩ 438 2 = (J1, 2, 0) := by kernel_rfl
theorem J2_is : holdF J1 2 = (J2, true) := by kernel_rfl
theorem J3_is : writeF J2 ⟨#[117, 49]⟩ 2 0 ⟨#[120, 121]⟩ = (J3, 2, 0) := by kernel_rfl
theorem J4_is : removeF U0 J3 ⟨#[117, 49]⟩ 2 = (J4, 0) := by kernel_rfl
theorem J5_is : readF J4 2 0 9 = (J5, ⟨#[120, 121]⟩, 0) := by kernel_rfl
theorem J5_step : stepF U0 J5 ⟨#[117, 49]⟩ 1 ⟨#[97]⟩ = (0, 6) := by kernel_rfl
theorem J7_stat : statF J7 2 = (statZ, 6) := by kernel_rfl
theorem J7_len : J7.t.n.length = 1 := by kernel_rfl
theorem J0_next : J0.t.next = 2 := by kernel_rfl
theorem has_u3 : hasS US0 ⟨#[117, 51]⟩ = true := by kernel_rfl
theorem has_g1 : hasS US0 ⟨#[103, 49]⟩ = false := by kernel_rfl
theorem vW1 : validB ⟨#[117, 49]⟩ = true := by kernel_rfl
theorem sz2 (a b : UInt8) : (⟨#[a, b]⟩ : ByteArray).size ≤ maxLen := by show (2 : Nat) ≤ maxLen; unfold maxLen; omega
theorem ftree_1 (x y : Value) (w : World) : (Instr.field 30 (.agg #[x, y]) 1).run Tryz.prog w = .ok y w := by kernel_rfl
theorem T0_good : Good T0 := root_good _ _ vW1 (sz2 _ _) (by omega)
set_option maxHeartbeats 6400000 in
theorem known18_any (w : World) : Calls Tryz.prog 7 #[] w fun e w' => e = .returned (.bool true) ∧ Below w.heap.size w w' := by
  have hc1 := hid (new_any ⟨#[117, 49]⟩ 0 w)
  go_enter Tryz.func7, Tryz.ntmps7
  go_wp2_with fail
  refine hc1.out.mono ?_
  rintro e w1 ⟨v1, rfl, hv1, hb1⟩
  obtain ⟨a1, c1, rfl, _, _⟩ := hv1.form
  have hbo : Calls Tryz.prog 8 #[.agg #[.int .u64 2, .slice a1 1 c1]] w1 (BothP T0 w1) := both_any _ T0 w1 hv1 T0_good.w
  replace hbo := hid hbo
  have hB1 := hid hb1
  clear hc1 hv1 hb1
  go_wp2_with fail
  refine hbo.out.mono ?_
  rintro e w2 ⟨b, m, p, g, v, vr, vu, vg, gs, gs2, rfl, hbt⟩
  have hA0 := hid (hbt.fat T0_good)
  clear hbo hbt
  go_wp2_with fail
  have hc := hid (hA0.out.create J1_is (sz1 _) (by omega) (by omega) vW1 (sz2 _ _) (by show J0.t.next + 1 < 9223372036854775808; rw [J0_next]; omega) (by omega))
  refine hc.out.mono ?_
  rintro e x1 ⟨rfl, hA⟩
  have hA1 := hid hA
  clear hc hA
  go_wp2_with fail
  have hc := hid (hA1.out.hold J2_is (by omega) (by omega))
  refine hc.out.mono ?_
  rintro e x2 ⟨rfl, hA⟩
  have hA2 := hid hA
  clear hc hA
  go_wp2_with fail
  have hc := hid (hA2.out.write J3_is (by omega) (by show 2 ≤ 1000000; omega) vW1 (sz2 _ _))
  refine hc.out.mono ?_
  rintro e x3 ⟨rfl, hA⟩
  have hA3 := hid hA
  clear hc hA
  go_wp2_with fail
  have hc := hid (hA3.out.remove J4_is (by omega) vW1 (sz2 _ _))
  refine hc.out.mono ?_
  rintro e x4 ⟨rfl, hA⟩
  have hA4 := hid hA
  clear hc hA
  go_wp2_with fail
  have hc := hid (hA4.out.read J5_is (by omega) (by omega))
  refine hc.out.mono ?_
  rintro e x5 ⟨rfl, hA⟩
  have hA5 := hid hA
  clear hc hA
  go_wp2_with fail
  have hc := hid (hA5.out.stepIn J5_step)
  refine hc.out.mono ?_
  rintro e x6 ⟨rfl, hA⟩
  have hA6 := hid hA
  clear hc hA
  go_wp2_with fail
  have hc := hid (hA6.out.close (f' := J6) (mode := 2) (q := 2) rfl (by omega) (by omega) (by omega))
  refine hc.out.mono ?_
  rintro e x7 ⟨rfl, hA⟩
  have hA7 := hid hA
  clear hc hA
  go_wp2_with fail
  have hc := hid (hA7.out.let_ (f' := J7) (q := 2) rfl (by omega) (by omega))
  refine hc.out.mono ?_
  rintro e x8 ⟨rfl, hA⟩
  have hA8 := hid hA
  clear hc hA
  go_wp2_with fail
  have hc := hid (hA8.out.stat J7_stat)
  refine hc.out.mono ?_
  rintro e xs ⟨rfl, hA⟩
  obtain ⟨Z, hZ⟩ : ∃ Z, Z = (xs.alloc (.cells #[.int .u16 0, .int .u32 0, .int .u8 0, .int .u32 0, .int .u64 0, .int .u32 0, .int .u32 0, .int .u32 0, .int .u64 0, .string ⟨#[]⟩, .string ⟨#[]⟩, .string ⟨#[]⟩, .string ⟨#[]⟩] 53)).setRow xs.heap.size statZ := ⟨_, rfl⟩
  have hbZ : Below xs.heap.size xs Z := by rw [hZ]; exact below_setRow ((Below.refl _ _).alloc (Nat.le_refl _) _) (Nat.le_refl _) _
  have hnew := hid (heap_alloc_new xs (.cells #[.int .u16 0, .int .u32 0, .int .u8 0, .int .u32 0, .int .u64 0, .int .u32 0, .int .u32 0, .int .u32 0, .int .u64 0, .string ⟨#[]⟩, .string ⟨#[]⟩, .string ⟨#[]⟩, .string ⟨#[]⟩] 53))
  have hAZ := hid (hA.on hbZ)
  have ht := hid hAZ.out.tree
  clear hc hA hbZ
  go_wp2_with (first
    | (rw [← hZ]; replace hZ := hid hZ)
    | (refine wpList_store_row (by rfl) 53 (.tmp 13) (.tmp 61) (by rfl) xs.heap.size statZ (by rfl) (by rfl) 53 _ hnew.out (by kernel_rfl) (by kernel_rfl) (by kernel_rfl) ?_))
  refine ht.out.mono ?_
  rintro e xt ⟨vt, rfl, hvt, _, hAt, _⟩
  obtain ⟨at_, ct, rfl, _, _⟩ := hvt.form
  rw [J7_len]
  have hAt := hid hAt
  have h3 := hid (hAt.out.has has_u3)
  have h4 := hid (hAt.out.has has_g1)
  clear ht hvt
  have hft := ftree_1
  go_wp2_with fail
  refine h3.out.mono ?_
  rintro e xh ⟨rfl, rfl⟩
  go_wp2_with fail
  refine h4.out.mono ?_
  rintro e xh2 ⟨rfl, rfl⟩
  go_wp2_with fail
  go_ret
  exact ⟨rfl, sn hB1.out hAt.out.below⟩
end
end Go.Proofs.YtkefjeabckainaaGreat

namespace Go.Proofs.YtkefjeabckainaaGreat
section
open Go.RowKit Go.Maps
set_option maxRecDepth 100000
set_option linter.unusedVariables false

theorem upd_back (F : Nat → Nat × Nat) (p : Nat) (x : Nat × Nat) : upd (upd F p x) p (F p) = F := by
  funext q
  unfold upd
  split
  · rename_i h; rw [h]
  · rfl
noncomputable def A1 : FsV := (createF U0 J0 ⟨#[117, 49]⟩ 1 ⟨#[102]⟩ 536871350 0).1
noncomputable def A2 : FsV := (holdF A1 2).1
noncomputable def A3 : FsV := closeF A2 2 0
theorem A1_is : createF U0 J0 ⟨#[117, 49]⟩ 1 ⟨#[102]⟩ 536871350 0 = (A1, 2, 0) := by kernel_rfl
theorem A2_is : holdF A1 2 = (A2, true) := by kernel_rfl
theorem A2_open : openF U0 A2 ⟨#[117, 49]⟩ 2 0 = (A2, 20) := by kernel_rfl
theorem A3_back : openedF A3 2 = A2 := by
  have h : openedF A3 2 = ⟨A2.t, A2.now, upd (upd A2.by_ 2 (1, 0)) 2 (A2.by_ 2)⟩ := by kernel_rfl
  rw [h, upd_back]
theorem A3_open : openF U0 A3 ⟨#[117, 49]⟩ 2 0 = (A2, 0) := by
  have h : openF U0 A3 ⟨#[117, 49]⟩ 2 0 = (openedF A3 2, 0) := by kernel_rfl
  rw [h, A3_back]
set_option maxHeartbeats 3200000 in
theorem law_FilesAlone (n : Nat) (w : World) (hn : n < 256) :
    Calls Tryz.prog 5 #[.int .u8 (n : Int)] w (Holds w) := by
  have hk := hid (known18_any w)
  obtain ⟨r, hr⟩ : ∃ r, r = n % 10 := ⟨_, rfl⟩
  have hr10 : r < 10 := by omega
  have hrem : Int.tmod (n : Int) 10 = (r : Int) := by rw [hr]; exact rfl
  have hcv : IntKind.i64.wrap (r : Int) = (r : Int) := IntWalk.i64_in _ (by omega)
  have hcv8 : IntKind.u8.wrap (r : Int) = (r : Int) := by unfold IntKind.wrap; simp [IntKind.bits, IntKind.signed]; omega
  replace hr := hid hr
  go_enter Tryz.func5, Tryz.ntmps5
  go_wp2_with fail
  refine hk.out.mono ?_
  rintro e w0 ⟨rfl, hb0⟩
  have hc1 := hid (new_any ⟨#[117, 49]⟩ 0 w0)
  go_wp2_with fail
  refine hc1.out.mono ?_
  rintro e w1 ⟨v1, rfl, hv1, hb1⟩
  obtain ⟨a1, c1, rfl, _, _⟩ := hv1.form
  have hbo : Calls Tryz.prog 8 #[.agg #[.int .u64 2, .slice a1 1 c1]] w1 (BothP T0 w1) := both_any _ T0 w1 hv1 T0_good.w
  replace hbo := hid hbo
  have hB1 := hid (sn hb0 hb1)
  clear hc1 hv1 hb1 hk hb0
  go_wp2_with fail
  refine hbo.out.mono ?_
  rintro e w2 ⟨b, m, p, g, v, vr, vu, vg, gs, gs2, rfl, hbt⟩
  have hA0 := hid (hbt.fat T0_good)
  clear hbo hbt
  go_wp2_with fail
  have hc := hid (hA0.out.create A1_is (sz1 _) (by omega) (by omega) vW1 (sz2 _ _) (by show J0.t.next + 1 < 9223372036854775808; rw [J0_next]; omega) (by omega))
  refine hc.out.mono ?_
  rintro e w3 ⟨rfl, hA⟩
  have hA1 := hid hA
  clear hc hA
  go_wp2_with fail
  have hc := hid (hA1.out.hold A2_is (by omega) (by omega))
  refine hc.out.mono ?_
  rintro e w4 ⟨rfl, hA⟩
  have hA2 := hid hA
  clear hc hA hA0 hA1
  go_wp2_with fail
  go_loopw [8] (fun kv wr => ∃ k : Nat, k ≤ r ∧ kv = .int .i64 (k : Int) ∧ Hid (FAt w1 wr b m p A2 gs (2 + k * 3))) (fun kv _ => r - (intOf kv).toNat)
  case atStart => exact ⟨0, by omega, rfl, hA2⟩
  case round =>
    obtain ⟨k, hkr, rfl, hA⟩ := hrel
    clear hA2
    by_cases hkl : k < r
    · have hc := hid (hA.out.open_ A2_open (by omega) (by omega) vW1 (sz2 _ _) (by omega))
      go_wp2_with fail
      refine hc.out.mono ?_
      rintro e x1 ⟨rfl, hA1⟩
      clear hc
      have hc := hid (hA1.close (f' := A3) (mode := 0) (q := 2) rfl (by omega) (by omega) (by omega))
      clear hA1
      go_wp2_with fail
      refine hc.out.mono ?_
      rintro e x2 ⟨rfl, hA1⟩
      clear hc
      have hc := hid (hA1.open_ A3_open (by omega) (by omega) vW1 (sz2 _ _) (by omega))
      clear hA1
      go_wp2_with fail
      refine hc.out.mono ?_
      rintro e x3 ⟨rfl, hA1⟩
      have hA3 := hid hA1
      clear hc hA1 hA
      go_wp2_with fail
      go_roundw
      case rel => exact ⟨k + 1, by omega, by go_num, hid (hA3.out.mono (by omega))⟩
      case measure => simp [intOf]; omega
    · obtain rfl : k = r := by omega
      have hc := hid (hA.out.open_ A2_open (by omega) (by omega) vW1 (sz2 _ _) (by omega))
      go_wp2_with fail
      refine hc.out.mono ?_
      rintro e x1 ⟨rfl, hA1⟩
      have hA3 := hid hA1
      clear hc hA1 hA
      go_wp2_with fail
      go_ret
      exact ⟨rfl, sn hB1.out hA3.out.below⟩
theorem law_FilesAloneI (i : Int) (w : World) (hi : 0 ≤ i ∧ i ≤ 255) : Calls Tryz.prog 5 #[.int .u8 i] w (Holds w) := by
  obtain ⟨n, rfl⟩ := Int.eq_ofNat_of_zero_le hi.1
  exact law_FilesAlone n w (by omega)
end
end Go.Proofs.YtkefjeabckainaaGreat

namespace Go.Proofs.YtkefjeabckainaaGreat
section
open Go.ChangeShapes Go.WideShapes Go.ChangeAt Go.RowKit
set_option maxRecDepth 100000
end
end Go.Proofs.YtkefjeabckainaaGreat
