/- The program's files in a law of layer 18: each call on them, in one shape. Conditions: in the statements. And the texts behind it. -/
import Derived.Test.YtkefjeabckainaaGreatFaB27
import Derived.Test.YtkefjeabckainaaGreatFaB28
import Derived.Test.YtkefjeabckainaaGreatFaB30
import Derived.Test.YtkefjeabckainaaGreatFaB31
import Derived.Test.YtkefjeabckainaaGreatFaB23
import Derived.Test.YtkefjeabckainaaGreatFaB01
import Derived.ProofKit
import Derived.OpenShut
import Derived.ChangeOld
namespace Go.Proofs.YtkefjeabckainaaGreat
section
open Go.RowKit Go.Maps
set_option maxRecDepth 100000
set_option linter.unusedVariables false

def U0 : Usr := ⟨US0, GS0⟩
theorem may_same {gs : List Grp} (h : SameG GS0 gs) : (⟨US0, gs⟩ : Usr).may = U0.may := by
  funext who n want
  unfold Usr.may
  rw [← h.inB]
  rfl
theorem above_same {gs : List Grp} (h : SameG GS0 gs) : aboveF ⟨US0, gs⟩ = aboveF U0 := by
  funext f who n
  unfold aboveF
  rw [may_same h]
theorem openN_same {gs : List Grp} (h : SameG GS0 gs) : openN US0 gs = openN US0 GS0 := by
  funext who n mode
  unfold openN
  rw [← h.inB]
theorem createF_same {gs : List Grp} (h : SameG GS0 gs) : createF ⟨US0, gs⟩ = createF U0 := by
  funext f who q name mode o
  unfold createF
  rw [may_same h]
theorem stepF_same {gs : List Grp} (h : SameG GS0 gs) : stepF ⟨US0, gs⟩ = stepF U0 := by
  funext f who q name
  unfold stepF
  rw [may_same h]
theorem removeF_same {gs : List Grp} (h : SameG GS0 gs) : removeF ⟨US0, gs⟩ = removeF U0 := by
  funext f who q
  unfold removeF
  rw [above_same h]
theorem openF_same {gs : List Grp} (h : SameG GS0 gs) : openF ⟨US0, gs⟩ = openF U0 := by
  funext f who q mode
  unfold openF
  simp only
  rw [above_same h, openN_same h]
  rfl
structure FAt (w0 w : World) (b m p : Nat) (f : FsV) (gs : List Grp) (n : Nat) : Prop where
  fs : ∃ v, FSo w b m v p f ⟨US0, gs⟩ n
  below : Below w0.heap.size w0 w
  lb : w0.heap.size ≤ b
  lm : w0.heap.size ≤ m
  ok : FOk f
  sg : SameG GS0 gs
theorem FAt.mono {w0 w : World} {b m p n n' : Nat} {f : FsV} {gs : List Grp} (h : FAt w0 w b m p f gs n) (hn : n ≤ n') : FAt w0 w b m p f gs n' := by
  obtain ⟨v, hv⟩ := h.fs
  exact ⟨⟨v, hv.mono hn⟩, h.below, h.lb, h.lm, h.ok, h.sg⟩
theorem FAt.on {w0 w w' : World} {b m p n : Nat} {f : FsV} {gs : List Grp} (h : FAt w0 w b m p f gs n) (hb : Below w.heap.size w w') : FAt w0 w' b m p f gs n := by
  obtain ⟨v, hv⟩ := h.fs
  exact ⟨⟨v, hv.below hb⟩, sn h.below hb, h.lb, h.lm, h.ok, h.sg⟩
theorem FAt.step {w0 w w' : World} {b m p n n' : Nat} {f f' : FsV} {gs : List Grp} (h : FAt w0 w b m p f gs n) (hs : FStep b m w w') (hf : ∃ v, FSo w' b m v p f' ⟨US0, gs⟩ n') (hok : FOk f') : FAt w0 w' b m p f' gs n' :=
  ⟨hf, h.below.trans (hs.below _ h.lb h.lm h.below.size), h.lb, h.lm, hok, h.sg⟩
section
variable {w0 w : World} {b m p n : Nat} {f f' : FsV} {gs : List Grp}
theorem FAt.create (h : FAt w0 w b m p f gs n) {who : ByteArray} {q : Nat} {name : ByteArray} {mode o pp E : Nat} (he : createF U0 f who q name mode o = (f', pp, E)) (hname : name.size ≤ maxLen) (hmode : mode < 4294967296) (ho : o < 256) (hw : validB who = true) (h2 : who.size ≤ maxLen) (hx : f.t.next + 1 < 9223372036854775808) (hn : n < 1000000) :
    Calls Tryz.prog 10 #[.pointer (some ⟨b, 0, none⟩), .string who, .int .u64 (q : Int), .string name, .int .u32 (mode : Int), .int .u8 (o : Int)] w fun e w' => e = .returned (.tuple #[.int .u64 (pp : Int), .int .i64 (E : Int)]) ∧ FAt w0 w' b m p f' gs (n + 1) := by
  obtain ⟨v, hv⟩ := h.fs
  refine (fcreate_any b m p n v f ⟨US0, gs⟩ who q name mode o w hv h.ok (gs0_ub h.sg) hname hmode ho hn).mono ?_
  rintro e w' ⟨rfl, hf, hs⟩
  have hok := createF_ok U0 h.ok who q name mode o hw h2 hname hmode hx
  rw [createF_same h.sg, he] at hf
  rw [he] at hok
  refine ⟨by rw [createF_same h.sg, he], h.step hs hf hok⟩
theorem FAt.hold (h : FAt w0 w b m p f gs n) {q : Nat} {r : Bool} (he : holdF f q = (f', r)) (hq : q < 18446744073709551616) (hn : n < 1000000) :
    Calls Tryz.prog 11 #[.pointer (some ⟨b, 0, none⟩), .int .u64 (q : Int)] w fun e w' => e = .returned (.bool r) ∧ FAt w0 w' b m p f' gs (n + 1) := by
  obtain ⟨v, hv⟩ := h.fs
  refine (fhold_any b m p n v f ⟨US0, gs⟩ q w hv h.ok.tr hq hn).mono ?_
  rintro e w' ⟨rfl, hf, hs⟩
  have hok := holdF_ok h.ok q
  rw [he] at hf hok
  exact ⟨by rw [he], h.step hs ⟨_, hf⟩ hok⟩
theorem FAt.let_ (h : FAt w0 w b m p f gs n) {q : Nat} (he : letF f q = f') (hq : q < 18446744073709551616) (hn : n < 1000000) :
    Calls Tryz.prog 16 #[.pointer (some ⟨b, 0, none⟩), .int .u64 (q : Int)] w fun e w' => e = .returned (.tuple #[]) ∧ FAt w0 w' b m p f' gs (n + 1) := by
  obtain ⟨v, hv⟩ := h.fs
  refine (flet_any b m p n v f ⟨US0, gs⟩ q w hv h.ok.tr hq hn).mono ?_
  rintro e w' ⟨rfl, ⟨v', hf, _⟩, hs⟩
  have hok := letF_ok h.ok q
  rw [he] at hf hok
  exact ⟨rfl, h.step hs ⟨_, hf⟩ hok⟩
theorem FAt.close (h : FAt w0 w b m p f gs n) {q mode : Nat} (he : closeF f q mode = f') (hq : q < 18446744073709551616) (hm : mode < 256) (hn : n < 1000000) :
    Calls Tryz.prog 24 #[.pointer (some ⟨b, 0, none⟩), .int .u64 (q : Int), .int .u8 (mode : Int)] w fun e w' => e = .returned (.tuple #[]) ∧ FAt w0 w' b m p f' gs (n + 1) := by
  obtain ⟨v, hv⟩ := h.fs
  refine (fclose_any b m p n v f ⟨US0, gs⟩ q mode w hv h.ok hq hm hn).mono ?_
  rintro e w' ⟨rfl, hf, hs⟩
  have hok := closeF_ok h.ok q mode
  rw [he] at hf hok
  exact ⟨rfl, h.step hs hf hok⟩
theorem FAt.read (h : FAt w0 w b m p f gs n) {q off kk E : Nat} {s : ByteArray} (he : readF f q off kk = (f', s, E)) (hoff : off < 18446744073709551616) (hkk : kk < 4294967296) :
    Calls Tryz.prog 14 #[.pointer (some ⟨b, 0, none⟩), .int .u64 (q : Int), .int .u64 (off : Int), .int .u32 (kk : Int)] w fun e w' => e = .returned (.tuple #[.string s, .int .i64 (E : Int)]) ∧ FAt w0 w' b m p f' gs n := by
  obtain ⟨v, hv⟩ := h.fs
  refine (fread_any b m p n v f ⟨US0, gs⟩ q off kk w hv h.ok.tr h.ok.ne hoff hkk).mono ?_
  rintro e w' ⟨rfl, hf, hs⟩
  have hok := readF_ok h.ok q off kk
  rw [he] at hf hok
  exact ⟨by rw [he], h.step hs hf hok⟩
theorem FAt.write (h : FAt w0 w b m p f gs n) {who : ByteArray} {q off k E : Nat} {data : ByteArray} (he : writeF f who q off data = (f', k, E)) (hoff : off < 18446744073709551616) (hda : data.size ≤ 1000000) (hw : validB who = true) (h2 : who.size ≤ maxLen) :
    Calls Tryz.prog 12 #[.pointer (some ⟨b, 0, none⟩), .string who, .int .u64 (q : Int), .int .u64 (off : Int), .string data] w fun e w' => e = .returned (.tuple #[.int .u32 (k : Int), .int .i64 (E : Int)]) ∧ FAt w0 w' b m p f' gs n := by
  obtain ⟨v, hv⟩ := h.fs
  refine (fwrite_any b m p n v f ⟨US0, gs⟩ who q off data w hv h.ok.tr h.ok.ne hoff hda).mono ?_
  rintro e w' ⟨rfl, hf, hs⟩
  have hok := writeF_ok h.ok who q off data hw h2
  rw [he] at hf hok
  exact ⟨by rw [he], h.step hs hf hok⟩
theorem FAt.remove (h : FAt w0 w b m p f gs n) {who : ByteArray} {q E : Nat} (he : removeF U0 f who q = (f', E)) (hq : q < 18446744073709551616) (hw : validB who = true) (h2 : who.size ≤ maxLen) :
    Calls Tryz.prog 13 #[.pointer (some ⟨b, 0, none⟩), .string who, .int .u64 (q : Int)] w fun e w' => e = .returned (.int .i64 (E : Int)) ∧ FAt w0 w' b m p f' gs n := by
  obtain ⟨v, hv⟩ := h.fs
  refine (fremove_any b m p n v f ⟨US0, gs⟩ who q w hv h.ok.tr h.ok.ne (gs0_ub h.sg) hq h.ok.now (unlinkT_good h.ok.good q who f.now hw h.ok.now h2).tr).mono ?_
  rintro e w' ⟨rfl, hf, hs⟩
  have hok := removeF_ok U0 h.ok who q hw h2
  rw [removeF_same h.sg, he] at hf
  rw [he] at hok
  exact ⟨by rw [removeF_same h.sg, he], h.step hs hf hok⟩
theorem FAt.open_ (h : FAt w0 w b m p f gs n) {who : ByteArray} {q mode E : Nat} (he : openF U0 f who q mode = (f', E)) (hq : q < 18446744073709551616) (hm : mode < 256) (hw : validB who = true) (h2 : who.size ≤ maxLen) (hn : n < 1000000) :
    Calls Tryz.prog 23 #[.pointer (some ⟨b, 0, none⟩), .string who, .int .u64 (q : Int), .int .u8 (mode : Int)] w fun e w' => e = .returned (.int .i64 (E : Int)) ∧ FAt w0 w' b m p f' gs (n + 1) := by
  obtain ⟨v, hv⟩ := h.fs
  refine (fopen_any b m p n v f ⟨US0, gs⟩ who q mode w hv h.ok (gs0_ub h.sg) hq hm hn).mono ?_
  rintro e w' ⟨rfl, hf, hs⟩
  have hok := openF_ok U0 h.ok who q mode hw h2
  rw [openF_same h.sg, he] at hf
  rw [he] at hok
  exact ⟨by rw [openF_same h.sg, he], h.step hs hf hok⟩
theorem FAt.stepIn (h : FAt w0 w b m p f gs n) {who : ByteArray} {q : Nat} {name : ByteArray} {pp E : Nat} (he : stepF U0 f who q name = (pp, E)) :
    Calls Tryz.prog 20 #[.pointer (some ⟨b, 0, none⟩), .string who, .int .u64 (q : Int), .string name] w fun e w' => e = .returned (.tuple #[.int .u64 (pp : Int), .int .i64 (E : Int)]) ∧ FAt w0 w' b m p f gs n := by
  obtain ⟨v, hv⟩ := h.fs
  refine (fstep_any b m p n v f ⟨US0, gs⟩ who q name w hv h.ok.tr h.ok.ne (gs0_ub h.sg)).mono ?_
  rintro e w' ⟨rfl, hf, hs⟩
  exact ⟨by rw [stepF_same h.sg, he], h.step hs hf h.ok⟩
theorem FAt.stat (h : FAt w0 w b m p f gs n) {q E : Nat} {x : Array Value} (he : statF f q = (x, E)) :
    Calls Tryz.prog 19 #[.pointer (some ⟨b, 0, none⟩), .int .u64 (q : Int)] w fun e w' => e = .returned (.tuple #[.agg x, .int .i64 (E : Int)]) ∧ FAt w0 w' b m p f gs n := by
  obtain ⟨v, hv⟩ := h.fs
  refine (fstat_any b m p n v f ⟨US0, gs⟩ q w hv h.ok.tr h.ok.ne).mono ?_
  rintro e w' ⟨rfl, hf, hs⟩
  exact ⟨by rw [he], h.step hs hf h.ok⟩
theorem FAt.has (h : FAt w0 w b m p f gs n) {s : ByteArray} {r : Bool} (he : hasS US0 s = r) :
    Calls Tryz.prog 29 #[.pointer (some ⟨b, 0, none⟩), .string s] w fun e w' => e = .returned (.bool r) ∧ w' = w := by
  obtain ⟨v, hv⟩ := h.fs
  refine (fhas_any b m p n v f ⟨US0, gs⟩ s w hv (gs0_ub h.sg).users).mono ?_
  rintro e w' ⟨rfl, hw⟩
  exact ⟨by rw [← he], hw⟩
theorem FAt.tree (h : FAt w0 w b m p f gs n) :
    Calls Tryz.prog 17 #[.pointer (some ⟨b, 0, none⟩)] w fun e w' => ∃ v', e = .returned (.agg #[.int .u64 (f.t.next : Int), v']) ∧ NodsAt w' v' f.t.n ∧ (∀ k, v'.ownBlock = some k → w.heap.size ≤ k) ∧ FAt w0 w' b m p f gs n ∧ Below w.heap.size w w' := by
  obtain ⟨v, hv⟩ := h.fs
  refine (ftree_any b m p n v f ⟨US0, gs⟩ w hv h.ok.tr).mono ?_
  rintro e w' ⟨v', rfl, h1, h3, h2⟩
  exact ⟨v', rfl, h1, h3, h.on h2, h2⟩
theorem FAt.list (h : FAt w0 w b m p f gs n) {q : Nat} :
    Calls Tryz.prog 15 #[.pointer (some ⟨b, 0, none⟩), .int .u64 (q : Int)] w fun e w' => ∃ v ks, e = .returned (.tuple #[v, .int .i64 (listE f q : Int)]) ∧ FAt w0 w' b m p f gs n ∧ ((listE f q = 0 ∧ FstsAt w' v ks ∧ Srt leNP ks ∧ ks.Perm (kidsOf f.t.n q)) ∨ (listE f q ≠ 0 ∧ v = .slice none 0 0)) := by
  obtain ⟨v, hv⟩ := h.fs
  refine (flist_any b m p n v f ⟨US0, gs⟩ q w hv h.ok.tr h.ok.ne).mono ?_
  rintro e w' ⟨v2, ks, rfl, hf, hs, h3⟩
  exact ⟨v2, ks, rfl, h.step hs hf h.ok, h3⟩
end
theorem BothAt.fat {w0 w : World} {b m p g : Nat} {v vr vu vg : Value} {gs1 gs2 : List Grp} {t : Tr} (h : BothAt w0 w b m p g v vr vu vg gs1 gs2 t) (hg : Good t) : FAt w0 w b m p (newF t) gs1 0 :=
  ⟨⟨v, h.fs⟩, h.below, h.lb, h.lm, newF_ok hg, h.s1⟩
end
end Go.Proofs.YtkefjeabckainaaGreat

namespace Go.Proofs.YtkefjeabckainaaGreat
section
open Go.RowKit
set_option maxRecDepth 100000
set_option linter.unusedVariables false
theorem sz1 (b : UInt8) : (⟨#[b]⟩ : ByteArray).size ≤ maxLen := by show (1 : Nat) ≤ maxLen; unfold maxLen; omega
end
end Go.Proofs.YtkefjeabckainaaGreat

namespace Go.Proofs.YtkefjeabckainaaGreat
section
open Go.RowKit Go.Maps
set_option maxRecDepth 100000
set_option linter.unusedVariables false

noncomputable def T0 : Tr := ⟨2, [rootN ⟨#[117, 49]⟩ 0]⟩
noncomputable def J0 : FsV := newF T0
noncomputable def J1 : FsV := (createF U0 J0 ⟨#[117, 49]⟩ 1 ⟨#[97]⟩ 438 2).1
noncomputable def J2 : FsV := (holdF J1 2).1
noncomputable def J3 : FsV := (writeF J2 ⟨#[117, 49]⟩ 2 0 ⟨#[120, 121]⟩).1
noncomputable def J4 : FsV := (removeF U0 J3 ⟨#[117, 49]⟩ 2).1
noncomputable def J5 : FsV := (readF J4 2 0 9).1
noncomputable def J6 : FsV := closeF J5 2 2
noncomputable def J7 : FsV := letF J6 2
theorem J1_is : createF U0 J0 ⟨#[117, 49]⟩ 1 ⟨#[97]⟩ 438 2 = (J1, 2, 0) := by kernel_rfl
theorem J2_is : holdF J1 2 = (J2, true) := by kernel_rfl
theorem J3_is : writeF J2 ⟨#[117, 49]⟩ 2 0 ⟨#[120, 121]⟩ = (J3, 2, 0) := by kernel_rfl
theorem J4_is : removeF U0 J3 ⟨#[117, 49]⟩ 2 = (J4, 0) := by kernel_rfl
theorem J5_is : readF J4 2 0 9 = (J5, ⟨#[120, 121]⟩, 0) := by kernel_rfl
theorem J5_step : stepF U0 J5 ⟨#[117, 49]⟩ 1 ⟨#[97]⟩ = (0, 6) := by kernel_rfl
theorem J7_stat : statF J7 2 = (statZ, 6) := by kernel_rfl
theorem J7_len : J7.t.n.length = 1 := by kernel_rfl
theorem J0_next : J0.t.next = 2 := by kernel_rfl
theorem has_u3 : hasS US0 ⟨#[117, 51]⟩ = true := by kernel_rfl
theorem has_g1 : hasS US0 ⟨#[103, 49]⟩ = false := by kernel_rfl
theorem vW1 : validB ⟨#[117, 49]⟩ = true := by kernel_rfl
theorem sz2 (a b : UInt8) : (⟨#[a, b]⟩ : ByteArray).size ≤ maxLen := by show (2 : Nat) ≤ maxLen; unfold maxLen; omega
theorem ftree_1 (x y : Value) (w : World) : (Instr.field 30 (.agg #[x, y]) 1).run Tryz.prog w = .ok y w := by kernel_rfl
theorem T0_good : Good T0 := root_good _ _ vW1 (sz2 _ _) (by omega)
set_option maxHeartbeats 6400000 in
theorem known18_any (w : World) : Calls Tryz.prog 7 #[] w fun e w' => e = .returned (.bool true) ∧ Below w.heap.size w w' := by
  have hc1 := hid (new_any ⟨#[117, 49]⟩ 0 w)
  go_enter Tryz.func7, Tryz.ntmps7
  go_wp2_with fail
  refine hc1.out.mono ?_
  rintro e w1 ⟨v1, rfl, hv1, hb1⟩
  obtain ⟨a1, c1, rfl, _, _⟩ := hv1.form
  have hbo : Calls Tryz.prog 8 #[.agg #[.int .u64 2, .slice a1 1 c1]] w1 (BothP T0 w1) := both_any _ T0 w1 hv1 T0_good.w
  replace hbo := hid hbo
  have hB1 := hid hb1
  clear hc1 hv1 hb1
  go_wp2_with fail
  refine hbo.out.mono ?_
  rintro e w2 ⟨b, m, p, g, v, vr, vu, vg, gs, gs2, rfl, hbt⟩
  have hA0 := hid (hbt.fat T0_good)
  clear hbo hbt
  go_wp2_with fail
  have hc := hid (hA0.out.create J1_is (sz1 _) (by omega) (by omega) vW1 (sz2 _ _) (by show J0.t.next + 1 < 9223372036854775808; rw [J0_next]; omega) (by omega))
  refine hc.out.mono ?_
  rintro e x1 ⟨rfl, hA⟩
  have hA1 := hid hA
  clear hc hA
  go_wp2_with fail
  have hc := hid (hA1.out.hold J2_is (by omega) (by omega))
  refine hc.out.mono ?_
  rintro e x2 ⟨rfl, hA⟩
  have hA2 := hid hA
  clear hc hA
  go_wp2_with fail
  have hc := hid (hA2.out.write J3_is (by omega) (by show 2 ≤ 1000000; omega) vW1 (sz2 _ _))
  refine hc.out.mono ?_
  rintro e x3 ⟨rfl, hA⟩
  have hA3 := hid hA
  clear hc hA
  go_wp2_with fail
  have hc := hid (hA3.out.remove J4_is (by omega) vW1 (sz2 _ _))
  refine hc.out.mono ?_
  rintro e x4 ⟨rfl, hA⟩
  have hA4 := hid hA
  clear hc hA
  go_wp2_with fail
  have hc := hid (hA4.out.read J5_is (by omega) (by omega))
  refine hc.out.mono ?_
  rintro e x5 ⟨rfl, hA⟩
  have hA5 := hid hA
  clear hc hA
  go_wp2_with fail
  have hc := hid (hA5.out.stepIn J5_step)
  refine hc.out.mono ?_
  rintro e x6 ⟨rfl, hA⟩
  have hA6 := hid hA
  clear hc hA
  go_wp2_with fail
  have hc := hid (hA6.out.close (f' := J6) (mode := 2) (q := 2) rfl (by omega) (by omega) (by omega))
  refine hc.out.mono ?_
  rintro e x7 ⟨rfl, hA⟩
  have hA7 := hid hA
  clear hc hA
  go_wp2_with fail
  have hc := hid (hA7.out.let_ (f' := J7) (q := 2) rfl (by omega) (by omega))
  refine hc.out.mono ?_
  rintro e x8 ⟨rfl, hA⟩
  have hA8 := hid hA
  clear hc hA
  go_wp2_with fail
  have hc := hid (hA8.out.stat J7_stat)
  refine hc.out.mono ?_
  rintro e xs ⟨rfl, hA⟩
  obtain ⟨Z, hZ⟩ : ∃ Z, Z = (xs.alloc (.cells #[.int .u16 0, .int .u32 0, .int .u8 0, .int .u32 0, .int .u64 0, .int .u32 0, .int .u32 0, .int .u32 0, .int .u64 0, .string ⟨#[]⟩, .string ⟨#[]⟩, .string ⟨#[]⟩, .string ⟨#[]⟩] 53)).setRow xs.heap.size statZ := ⟨_, rfl⟩
  have hbZ : Below xs.heap.size xs Z := by rw [hZ]; exact below_setRow ((Below.refl _ _).alloc (Nat.le_refl _) _) (Nat.le_refl _) _
  have hnew := hid (heap_alloc_new xs (.cells #[.int .u16 0, .int .u32 0, .int .u8 0, .int .u32 0, .int .u64 0, .int .u32 0, .int .u32 0, .int .u32 0, .int .u64 0, .string ⟨#[]⟩, .string ⟨#[]⟩, .string ⟨#[]⟩, .string ⟨#[]⟩] 53))
  have hAZ := hid (hA.on hbZ)
  have ht := hid hAZ.out.tree
  clear hc hA hbZ
  go_wp2_with (first
    | (rw [← hZ]; replace hZ := hid hZ)
    | (refine wpList_store_row (by rfl) 53 (.tmp 13) (.tmp 61) (by rfl) xs.heap.size statZ (by rfl) (by rfl) 53 _ hnew.out (by kernel_rfl) (by kernel_rfl) (by kernel_rfl) ?_))
  refine ht.out.mono ?_
  rintro e xt ⟨vt, rfl, hvt, _, hAt, _⟩
  obtain ⟨at_, ct, rfl, _, _⟩ := hvt.form
  rw [J7_len]
  have hAt := hid hAt
  have h3 := hid (hAt.out.has has_u3)
  have h4 := hid (hAt.out.has has_g1)
  clear ht hvt
  have hft := ftree_1
  go_wp2_with fail
  refine h3.out.mono ?_
  rintro e xh ⟨rfl, rfl⟩
  go_wp2_with fail
  refine h4.out.mono ?_
  rintro e xh2 ⟨rfl, rfl⟩
  go_wp2_with fail
  go_ret
  exact ⟨rfl, sn hB1.out hAt.out.below⟩
end
end Go.Proofs.YtkefjeabckainaaGreat

namespace Go.Proofs.YtkefjeabckainaaGreat
section
open Go.RowKit Go.Maps
set_option maxRecDepth 100000
set_option linter.unusedVariables false

theorem upd_back (F : Nat → Nat × Nat) (p : Nat) (x : Nat × Nat) : upd (upd F p x) p (F p) = F := by
  funext q
  unfold upd
  split
  · rename_i h; rw [h]
  · rfl
noncomputable def A1 : FsV := (createF U0 J0 ⟨#[117, 49]⟩ 1 ⟨#[102]⟩ 536871350 0).1
noncomputable def A2 : FsV := (holdF A1 2).1
noncomputable def A3 : FsV := closeF A2 2 0
theorem A1_is : createF U0 J0 ⟨#[117, 49]⟩ 1 ⟨#[102]⟩ 536871350 0 = (A1, 2, 0) := by kernel_rfl
theorem A2_is : holdF A1 2 = (A2, true) := by kernel_rfl
theorem A2_open : openF U0 A2 ⟨#[117, 49]⟩ 2 0 = (A2, 20) := by kernel_rfl
theorem A3_back : openedF A3 2 = A2 := by
  have h : openedF A3 2 = ⟨A2.t, A2.now, upd (upd A2.by_ 2 (1, 0)) 2 (A2.by_ 2)⟩ := by kernel_rfl
  rw [h, upd_back]
theorem A3_open : openF U0 A3 ⟨#[117, 49]⟩ 2 0 = (A2, 0) := by
  have h : openF U0 A3 ⟨#[117, 49]⟩ 2 0 = (openedF A3 2, 0) := by kernel_rfl
  rw [h, A3_back]
set_option maxHeartbeats 3200000 in
theorem law_FilesAlone (n : Nat) (w : World) (hn : n < 256) :
    Calls Tryz.prog 5 #[.int .u8 (n : Int)] w (Holds w) := by
  have hk := hid (known18_any w)
  obtain ⟨r, hr⟩ : ∃ r, r = n % 10 := ⟨_, rfl⟩
  have hr10 : r < 10 := by omega
  have hrem : Int.tmod (n : Int) 10 = (r : Int) := by rw [hr]; exact rfl
  have hcv : IntKind.i64.wrap (r : Int) = (r : Int) := IntWalk.i64_in _ (by omega)
  have hcv8 : IntKind.u8.wrap (r : Int) = (r : Int) := by unfold IntKind.wrap; simp [IntKind.bits, IntKind.signed]; omega
  replace hr := hid hr
  go_enter Tryz.func5, Tryz.ntmps5
  go_wp2_with fail
  refine hk.out.mono ?_
  rintro e w0 ⟨rfl, hb0⟩
  have hc1 := hid (new_any ⟨#[117, 49]⟩ 0 w0)
  go_wp2_with fail
  refine hc1.out.mono ?_
  rintro e w1 ⟨v1, rfl, hv1, hb1⟩
  obtain ⟨a1, c1, rfl, _, _⟩ := hv1.form
  have hbo : Calls Tryz.prog 8 #[.agg #[.int .u64 2, .slice a1 1 c1]] w1 (BothP T0 w1) := both_any _ T0 w1 hv1 T0_good.w
  replace hbo := hid hbo
  have hB1 := hid (sn hb0 hb1)
  clear hc1 hv1 hb1 hk hb0
  go_wp2_with fail
  refine hbo.out.mono ?_
  rintro e w2 ⟨b, m, p, g, v, vr, vu, vg, gs, gs2, rfl, hbt⟩
  have hA0 := hid (hbt.fat T0_good)
  clear hbo hbt
  go_wp2_with fail
  have hc := hid (hA0.out.create A1_is (sz1 _) (by omega) (by omega) vW1 (sz2 _ _) (by show J0.t.next + 1 < 9223372036854775808; rw [J0_next]; omega) (by omega))
  refine hc.out.mono ?_
  rintro e w3 ⟨rfl, hA⟩
  have hA1 := hid hA
  clear hc hA
  go_wp2_with fail
  have hc := hid (hA1.out.hold A2_is (by omega) (by omega))
  refine hc.out.mono ?_
  rintro e w4 ⟨rfl, hA⟩
  have hA2 := hid hA
  clear hc hA hA0 hA1
  go_wp2_with fail
  go_loopw [8] (fun kv wr => ∃ k : Nat, k ≤ r ∧ kv = .int .i64 (k : Int) ∧ Hid (FAt w1 wr b m p A2 gs (2 + k * 3))) (fun kv _ => r - (intOf kv).toNat)
  case atStart => exact ⟨0, by omega, rfl, hA2⟩
  case round =>
    obtain ⟨k, hkr, rfl, hA⟩ := hrel
    clear hA2
    by_cases hkl : k < r
    · have hc := hid (hA.out.open_ A2_open (by omega) (by omega) vW1 (sz2 _ _) (by omega))
      go_wp2_with fail
      refine hc.out.mono ?_
      rintro e x1 ⟨rfl, hA1⟩
      clear hc
      have hc := hid (hA1.close (f' := A3) (mode := 0) (q := 2) rfl (by omega) (by omega) (by omega))
      clear hA1
      go_wp2_with fail
      refine hc.out.mono ?_
      rintro e x2 ⟨rfl, hA1⟩
      clear hc
      have hc := hid (hA1.open_ A3_open (by omega) (by omega) vW1 (sz2 _ _) (by omega))
      clear hA1
      go_wp2_with fail
      refine hc.out.mono ?_
      rintro e x3 ⟨rfl, hA1⟩
      have hA3 := hid hA1
      clear hc hA1 hA
      go_wp2_with fail
      go_roundw
      case rel => exact ⟨k + 1, by omega, by go_num, hid (hA3.out.mono (by omega))⟩
      case measure => simp [intOf]; omega
    · obtain rfl : k = r := by omega
      have hc := hid (hA.out.open_ A2_open (by omega) (by omega) vW1 (sz2 _ _) (by omega))
      go_wp2_with fail
      refine hc.out.mono ?_
      rintro e x1 ⟨rfl, hA1⟩
      have hA3 := hid hA1
      clear hc hA1 hA
      go_wp2_with fail
      go_ret
      exact ⟨rfl, sn hB1.out hA3.out.below⟩
theorem law_FilesAloneI (i : Int) (w : World) (hi : 0 ≤ i ∧ i ≤ 255) : Calls Tryz.prog 5 #[.int .u8 i] w (Holds w) := by
  obtain ⟨n, rfl⟩ := Int.eq_ofNat_of_zero_le hi.1
  exact law_FilesAlone n w (by omega)
end
end Go.Proofs.YtkefjeabckainaaGreat

namespace Go.Proofs.YtkefjeabckainaaGreat
section
open Go.ChangeShapes Go.WideShapes Go.ChangeAt Go.RowKit
set_option maxRecDepth 100000
end
end Go.Proofs.YtkefjeabckainaaGreat

namespace Go.Proofs.YtkefjeabckainaaGreat
section
set_option maxRecDepth 100000
set_option linter.unusedVariables false

theorem upd_upd (F : Nat → Nat × Nat) (p : Nat) (x y : Nat × Nat) : upd (upd F p x) p y = upd F p y := by
  funext q
  unfold upd
  split <;> rfl
def Kf (i o : Nat) : Nat → Nat × Nat := upd (fun _ => (0, 0)) 2 (i, o)
theorem Kf_at (i o : Nat) : Kf i o 2 = (i, o) := upd_at _ _ _
theorem Kf_upd (i o : Nat) (x : Nat × Nat) : upd (Kf i o) 2 x = Kf x.1 x.2 := by unfold Kf; rw [upd_upd]
def SF (r x : Nod) (i o : Nat) : FsV := ⟨⟨3, [r, x]⟩, 0, Kf i o⟩
structure RootOk (r : Nod) : Prop where
  path : r.path = 1
  gone : r.gone = false
  mode : r.mode = 2147484157
  uid : r.uid = ⟨#[117, 49]⟩
  gid : r.gid = ⟨#[117, 49]⟩
  data : r.data.size = 0
structure FilOk (x : Nod) (d : ByteArray) (g : Bool) : Prop where
  path : x.path = 2
  gone : x.gone = g
  mode : x.mode = 436
  data : x.data = d
  up : x.up = if g then 0 else 1
theorem getL_1 {r x : Nod} (h : r.path = 1) : getL [r, x] 1 = some r := by simp [getL, h]
theorem getL_2 {r x : Nod} (h : r.path = 1) (h2 : x.path = 2) : getL [r, x] 2 = some x := by simp [getL, h, h2]
theorem setL_2 {r x y : Nod} (h : r.path = 1) (h2 : x.path = 2) (h3 : y.path = 2) : setL [r, x] y = [r, y] := by simp [setL, h, h2, h3]
theorem setL_1 {r x y : Nod} (h : r.path = 1) (h2 : x.path = 2) (h3 : y.path = 1) : setL [r, x] y = [y, x] := by simp [setL, h, h2, h3]
theorem FilOk.notdir {x : Nod} {d : ByteArray} {g : Bool} (h : FilOk x d g) : dirB x = false := by unfold dirB; rw [h.mode]; rfl
theorem FilOk.notapp {x : Nod} {d : ByteArray} {g : Bool} (h : FilOk x d g) : appB x = false := by unfold appB; rw [h.mode]; rfl
theorem RootOk.dir {r : Nod} (h : RootOk r) : dirB r = true := by unfold dirB; rw [h.mode]; rfl
theorem sf_hold {r x : Nod} {i o : Nat} {d : ByteArray} {g : Bool} (hr : RootOk r) (hx : FilOk x d g) : holdF (SF r x i o) 2 = (SF r x (i + 1) o, true) := by
  unfold holdF SF
  simp only
  rw [getL_2 hr.path hx.path, Kf_at, Kf_upd]
  rfl
theorem putD_end (d a : ByteArray) : putD d d.size a = strL (d.data.toList ++ a.data.toList) := by
  unfold putD padL
  have h : d.data.toList.length = d.size := by rw [Array.length_toList]; rfl
  rw [h, Nat.sub_self, List.replicate_zero, List.append_nil, List.take_of_length_le (by omega), List.drop_eq_nil_of_le (by omega), List.append_nil]
theorem strL_cat (d a : ByteArray) : strL (d.data.toList ++ a.data.toList) = d ++ a := by
  unfold strL
  apply ByteArray.ext
  rw [ByteArray.data_append]
  apply Array.toList_inj.1
  simp
theorem cat_empty (d a : ByteArray) (h : a.size = 0) : d ++ a = d := by
  apply ByteArray.ext
  rw [ByteArray.data_append]
  have : a.data = #[] := Array.eq_empty_of_size_eq_zero h
  rw [this]
  simp
theorem sf_write {r x : Nod} {i o : Nat} {d a : ByteArray} {g : Bool} (hr : RootOk r) (hx : FilOk x d g) (hs : d.size + a.size ≤ 4096) : ∃ x', FilOk x' (d ++ a) g ∧ writeF (SF r x i o) ⟨#[117, 49]⟩ 2 d.size a = (SF r x' i o, a.size, 0) := by
  have hp : ∃ x', FilOk x' (d ++ a) g ∧ putT ⟨3, [r, x]⟩ 2 d.size a ⟨#[117, 49]⟩ 0 = (⟨3, [r, x']⟩, 0) := by
    unfold putT
    simp only
    rw [getL_2 hr.path hx.path]
    simp only
    rw [if_neg (by rw [hx.notdir]; decide), hx.notapp]
    simp only [Bool.false_eq_true, if_false]
    rw [if_neg (by omega)]
    by_cases h0 : a.size = 0
    · rw [if_pos h0]
      exact ⟨x, by rw [cat_empty d a h0]; exact hx, rfl⟩
    · rw [if_neg h0]
      unfold dataT
      have hsz : (strL (d.data.toList ++ a.data.toList)).size = d.size + a.size := by
        rw [strL_cat]; exact ByteArray.size_append
      rw [hx.data, putD_end, if_neg (by
        rw [hsz]
        unfold bytesL
        simp only [List.map_cons, List.map_nil, List.sum_cons, List.sum_nil]
        rw [hr.data, hx.data]
        omega)]
      refine ⟨{ touchN x ⟨#[117, 49]⟩ 0 with data := strL (d.data.toList ++ a.data.toList) }, ⟨hx.path, hx.gone, hx.mode, strL_cat d a, hx.up⟩, ?_⟩
      rw [setL_2 hr.path hx.path (by exact hx.path)]
  obtain ⟨x', h1, h2⟩ := hp
  refine ⟨x', h1, ?_⟩
  unfold writeF
  rw [show (SF r x i o).t = ⟨3, [r, x]⟩ from rfl, show (SF r x i o).now = 0 from rfl, h2]
  rfl
theorem may_root {r : Nod} (h : RootOk r) : U0.may ⟨#[117, 49]⟩ r 2 = true := by
  unfold Usr.may
  rw [h.uid, h.gid, h.mode]
  kernel_rfl
theorem sf_remove {r x : Nod} {i o : Nat} {d : ByteArray} (hr : RootOk r) (hx : FilOk x d false) (hi : 0 < i) : ∃ r' x', RootOk r' ∧ FilOk x' d true ∧ removeF U0 (SF r x i o) ⟨#[117, 49]⟩ 2 = (SF r' x' i o, 0) := by
  have hup : x.up = 1 := hx.up
  refine ⟨touchN r ⟨#[117, 49]⟩ 0, goneN x, ⟨hr.path, hr.gone, hr.mode, hr.uid, hr.gid, hr.data⟩, ⟨hx.path, rfl, hx.mode, hx.data, rfl⟩, ?_⟩
  have hu : unlinkT ⟨3, [r, x]⟩ 2 ⟨#[117, 49]⟩ 0 = (⟨3, [touchN r ⟨#[117, 49]⟩ 0, goneN x]⟩, 0) := by
    unfold unlinkT
    simp only
    rw [getL_2 hr.path hx.path]
    simp only
    rw [if_neg (by decide), if_neg (by rw [hx.gone]; decide), if_neg (by simp [kidsOf, kidB, hr.path, hup]), hup, getL_1 hr.path]
    simp only
    rw [setL_2 hr.path hx.path (by exact hx.path), setL_1 hr.path (by exact hx.path) (by exact hr.path)]
  unfold removeF
  rw [show (SF r x i o).t = ⟨3, [r, x]⟩ from rfl, show (SF r x i o).now = 0 from rfl]
  simp only
  rw [getL_2 hr.path hx.path]
  simp only
  rw [if_neg (by rw [hx.gone]; decide), if_neg (by
    unfold aboveF
    rw [show (SF r x i o).t = ⟨3, [r, x]⟩ from rfl, hup]
    simp only
    rw [getL_1 hr.path]
    simp only
    rw [may_root hr, hx.path]
    decide), hu]
  simp only [ne_eq, not_true_eq_false, if_false]
  unfold reapF
  rw [if_pos (by show 0 < (Kf i o 2).1; rw [Kf_at]; exact hi)]
  rfl
theorem sf_remove2 {r x : Nod} {i o : Nat} {d : ByteArray} (hr : RootOk r) (hx : FilOk x d true) : removeF U0 (SF r x i o) ⟨#[117, 49]⟩ 2 = (SF r x i o, 6) := by
  unfold removeF
  rw [show (SF r x i o).t = ⟨3, [r, x]⟩ from rfl]
  simp only
  rw [getL_2 hr.path hx.path]
  simp only
  rw [if_pos hx.gone]
theorem sf_read {r x : Nod} {i o k : Nat} {d : ByteArray} {g : Bool} (hr : RootOk r) (hx : FilOk x d g) (hk : d.size ≤ k) : ∃ x', FilOk x' d g ∧ readF (SF r x i o) 2 0 k = (SF r x' i o, d, 0) := by
  refine ⟨{ x with atm := 0 }, ⟨hx.path, hx.gone, hx.mode, hx.data, hx.up⟩, ?_⟩
  have ht : takeT ⟨3, [r, x]⟩ 2 0 k 0 = (⟨3, [r, { x with atm := 0 }]⟩, d, 0) := by
    unfold takeT
    simp only
    rw [getL_2 hr.path hx.path]
    simp only
    rw [if_neg (by rw [hx.notdir]; decide), setL_2 hr.path hx.path (by exact hx.path), hx.data, List.drop_zero, List.take_of_length_le (by rw [Array.length_toList]; exact hk)]
    rw [show strL d.data.toList = d from rfl]
  unfold readF
  rw [show (SF r x i o).t = ⟨3, [r, x]⟩ from rfl, show (SF r x i o).now = 0 from rfl, ht]
  rfl
theorem sf_list {r x : Nod} {i o : Nat} {d : ByteArray} (hr : RootOk r) (hx : FilOk x d true) : listE (SF r x i o) 1 = 0 ∧ kidsOf (SF r x i o).t.n 1 = [] := by
  rw [show (SF r x i o).t = ⟨3, [r, x]⟩ from rfl]
  refine ⟨?_, by simp [kidsOf, kidB, hr.path, hx.gone]⟩
  unfold listE
  rw [show (SF r x i o).t = ⟨3, [r, x]⟩ from rfl]
  simp only
  rw [getL_1 hr.path]
  simp only
  rw [if_neg (by rw [hr.gone]; decide), if_neg (by rw [hr.dir]; decide)]
theorem sf_let {r x : Nod} {i o : Nat} {d : ByteArray} {g : Bool} (hr : RootOk r) (hx : FilOk x d g) (hi : 0 < i) : letF (SF r x (i + 1) o) 2 = SF r x i o := by
  unfold letF reapF
  rw [show (SF r x (i + 1) o).t = ⟨3, [r, x]⟩ from rfl, show (SF r x (i + 1) o).now = 0 from rfl, show (SF r x (i + 1) o).by_ = Kf (i + 1) o from rfl, Kf_at, Kf_upd]
  simp only [Nat.add_sub_cancel]
  rw [Kf_at, if_pos hi]
  rfl
def SE (r : Nod) : FsV := ⟨⟨3, [r]⟩, 0, Kf 0 0⟩
theorem sf_last {r x : Nod} {o : Nat} {d : ByteArray} (hr : RootOk r) (hx : FilOk x d true) : letF (SF r x 1 o) 2 = SE r := by
  unfold letF reapF
  rw [show (SF r x 1 o).t = ⟨3, [r, x]⟩ from rfl, show (SF r x 1 o).now = 0 from rfl, show (SF r x 1 o).by_ = Kf 1 o from rfl, Kf_at, Kf_upd]
  simp only [Nat.sub_self]
  rw [Kf_at, if_neg (Nat.lt_irrefl 0)]
  have ht : reapT ⟨3, [r, x]⟩ 2 = (⟨3, [r]⟩, true) := by
    unfold reapT
    simp only
    rw [getL_2 hr.path hx.path]
    simp only
    rw [if_pos hx.gone]
    simp [dropL, hr.path, hx.path]
  rw [ht]
  simp only [if_true]
  rw [Kf_upd]
  rfl
theorem se_read {r : Nod} (hr : RootOk r) : readF (SE r) 2 0 1 = (SE r, ⟨#[]⟩, 6) := by
  have ht : takeT ⟨3, [r]⟩ 2 0 1 0 = (⟨3, [r]⟩, ⟨#[]⟩, 6) := by
    unfold takeT
    simp [getL, hr.path]
  unfold readF
  rw [show (SE r).t = ⟨3, [r]⟩ from rfl, show (SE r).now = 0 from rfl, ht]
  rfl
def gr0 : Nod := ⟨1, 1, 2147484157, 0, 0, ⟨#[47]⟩, ⟨#[117, 49]⟩, ⟨#[117, 49]⟩, ⟨#[117, 49]⟩, 1, false, ⟨#[]⟩⟩
def gx0 : Nod := ⟨2, 0, 436, 0, 0, ⟨#[102]⟩, ⟨#[117, 49]⟩, ⟨#[117, 49]⟩, ⟨#[117, 49]⟩, 1, false, ⟨#[]⟩⟩
theorem gr0_ok : RootOk gr0 := ⟨rfl, rfl, rfl, rfl, rfl, rfl⟩
theorem gx0_ok : FilOk gx0 ⟨#[]⟩ false := ⟨rfl, rfl, rfl, rfl, rfl⟩
theorem g0_is : createF U0 J0 ⟨#[117, 49]⟩ 1 ⟨#[102]⟩ 438 2 = (SF gr0 gx0 0 1, 2, 0) := by kernel_rfl
end
end Go.Proofs.YtkefjeabckainaaGreat

namespace Go.Proofs.YtkefjeabckainaaGreat
section
open Go.RowKit Go.Maps
set_option maxRecDepth 100000
set_option linter.unusedVariables false

theorem empty_cat (a : ByteArray) : (⟨#[]⟩ : ByteArray) ++ a = a := by
  apply ByteArray.ext
  rw [ByteArray.data_append]
  simp
set_option maxHeartbeats 6400000 in
theorem law_FilesGone (a b0 : ByteArray) (n : Nat) (w : World) (hn : n < 256) :
    Calls Tryz.prog 3 #[.string a, .string b0, .int .u8 (n : Int)] w (Holds w) := by
  have hk := hid (known18_any w)
  obtain ⟨r, hr⟩ : ∃ r, r = n % 10 := ⟨_, rfl⟩
  have hr10 : r < 10 := by omega
  obtain ⟨c, hcc⟩ : ∃ c, c = r + 1 := ⟨_, rfl⟩
  have hc10 : c ≤ 10 := by omega
  have hc0 : 0 < c := by omega
  have hrem : Int.tmod (n : Int) 10 = (r : Int) := by rw [hr]; exact rfl
  have hcv : IntKind.i64.wrap (r : Int) = (r : Int) := IntWalk.i64_in _ (by omega)
  have hcv8 : IntKind.u8.wrap (r : Int) = (r : Int) := by unfold IntKind.wrap; simp [IntKind.bits, IntKind.signed]; omega
  have hadd : IntKind.i64.wrap (1 + (r : Int)) = (c : Int) := by rw [show (1 + (r : Int)) = (c : Int) by omega]; exact IntWalk.i64_in _ (by omega)
  replace hr := hid hr
  replace hcc := hid hcc
  go_enter Tryz.func3, Tryz.ntmps3
  go_wp2_with fail
  refine hk.out.mono ?_
  rintro e w0 ⟨rfl, hb0⟩
  clear hk
  by_cases ha : 300 < a.size
  · go_wp2_with fail
    go_ret
    exact ⟨rfl, hb0⟩
  by_cases hb : 300 < b0.size
  · go_wp2_with fail
    go_ret
    exact ⟨rfl, hb0⟩
  have hc1 := hid (new_any ⟨#[117, 49]⟩ 0 w0)
  go_wp2_with fail
  refine hc1.out.mono ?_
  rintro e w1 ⟨v1, rfl, hv1, hb1⟩
  obtain ⟨a1, c1, rfl, _, _⟩ := hv1.form
  have hbo : Calls Tryz.prog 8 #[.agg #[.int .u64 2, .slice a1 1 c1]] w1 (BothP T0 w1) := both_any _ T0 w1 hv1 T0_good.w
  replace hbo := hid hbo
  have hB1 := hid (sn hb0 hb1)
  clear hc1 hv1 hb1 hb0
  go_wp2_with fail
  refine hbo.out.mono ?_
  rintro e w2 ⟨b, m, p, g, v, vr, vu, vg, gs, gs2, rfl, hbt⟩
  have hA0 := hid (hbt.fat T0_good)
  clear hbo hbt
  go_wp2_with fail
  have hc := hid (hA0.out.create g0_is (sz1 _) (by omega) (by omega) vW1 (sz2 _ _) (by show J0.t.next + 1 < 9223372036854775808; rw [J0_next]; omega) (by omega))
  refine hc.out.mono ?_
  rintro e w3 ⟨rfl, hA⟩
  have hA1 := hid hA
  clear hc hA hA0
  go_wp2_with fail
  go_loopw [13] (fun kv wr => ∃ k : Nat, k ≤ c ∧ kv = .int .i64 (k : Int) ∧ Hid (FAt w1 wr b m p (SF gr0 gx0 k 1) gs (1 + k))) (fun kv _ => c - (intOf kv).toNat)
  case atStart => exact ⟨0, by omega, rfl, hA1⟩
  case round =>
    obtain ⟨k, hkr, rfl, hA⟩ := hrel
    clear hA1
    by_cases hkl : k < c
    · have hc := hid (hA.out.hold (sf_hold gr0_ok gx0_ok) (by omega) (by omega))
      go_wp2_with fail
      refine hc.out.mono ?_
      rintro e x1 ⟨rfl, hA1⟩
      have hA3 := hid hA1
      clear hc hA1 hA
      go_wp2_with fail
      go_roundw
      case rel => exact ⟨k + 1, by omega, by go_num, hid (hA3.out.mono (by omega))⟩
      case measure => simp [intOf]; omega
    · obtain rfl : k = c := by omega
      obtain ⟨x1, hx1, hw1⟩ := sf_write (i := k) (o := 1) gr0_ok gx0_ok (d := ⟨#[]⟩) (a := a) (by show 0 + a.size ≤ 4096; omega)
      rw [empty_cat] at hx1
      have hc := hid (hA.out.write (off := 0) hw1 (by omega) (by omega) vW1 (sz2 _ _))
      replace hx1 := hid hx1
      clear hw1 hA
      go_wp2_with fail
      refine hc.out.mono ?_
      rintro e y1 ⟨rfl, hA⟩
      obtain ⟨r2, x2, hr2, hx2, hm2⟩ := sf_remove (i := k) (o := 1) gr0_ok hx1.out hc0
      have hA2 := hid hA
      clear hc hA hx1
      have hc := hid (hA2.out.remove hm2 (by omega) vW1 (sz2 _ _))
      replace hr2 := hid hr2
      replace hx2 := hid hx2
      clear hm2
      go_wp2_with fail
      refine hc.out.mono ?_
      rintro e y2 ⟨rfl, hA⟩
      have hA3 := hid hA
      clear hc hA hA2
      have hc := hid (hA3.out.remove (sf_remove2 hr2.out hx2.out) (by omega) vW1 (sz2 _ _))
      go_wp2_with fail
      refine hc.out.mono ?_
      rintro e y3 ⟨rfl, hA⟩
      have hA4 := hid hA
      clear hc hA hA3
      obtain ⟨x3, hx3, hw3⟩ := sf_write (i := k) (o := 1) hr2.out hx2.out (a := b0) (by omega)
      have hc := hid (hA4.out.write hw3 (by omega) (by omega) vW1 (sz2 _ _))
      have hcv64 : IntKind.u64.wrap (a.size : Int) = (a.size : Int) := by unfold IntKind.wrap; simp [IntKind.bits, IntKind.signed]; omega
      replace hx3 := hid hx3
      clear hw3 hx2
      go_wp2_with fail
      refine hc.out.mono ?_
      rintro e y4 ⟨rfl, hA⟩
      have hA5 := hid hA
      clear hc hA hA4
      have hsz : (a ++ b0).size = a.size + b0.size := ByteArray.size_append
      have hs64 : ¬ 9223372036854775807 < a.size + b0.size := by omega
      obtain ⟨D, hD⟩ : ∃ D, D = a ++ b0 := ⟨_, rfl⟩
      have hDz : D.size ≤ 1000 := by rw [hD, hsz]; omega
      rw [← hD] at hx3
      have hDp : D.toList = (a ++ b0).toList := by rw [hD]
      replace hD := hid hD
      clear hsz
      go_wp2_with fail
      go_loopw [14] (fun kv wr => ∃ j : Nat, j ≤ k ∧ kv = .int .i64 (j : Int) ∧ Hid ((j < k ∧ ∃ x, FilOk x D true ∧ FAt w1 wr b m p (SF r2 x (k - j) 1) gs (1 + k + j)) ∨ (j = k ∧ FAt w1 wr b m p (SE r2) gs (1 + k + j)))) (fun kv _ => k - (intOf kv).toNat)
      case atStart => exact ⟨0, by omega, rfl, hid (.inl ⟨hc0, x3, hx3.out, hA5.out⟩)⟩
      case round =>
        obtain ⟨j, hjk, rfl, hA⟩ := hrel
        clear hA5 hx3
        by_cases hjl : j < k
        · rcases hA.out with ⟨_, x, hx, hF⟩ | ⟨h0, _⟩
          case inr => omega
          obtain ⟨x4, hx4, hrd⟩ := sf_read (i := k - j) (o := 1) hr2.out hx hDz
          have hc := hid (hF.read hrd (by omega) (by omega))
          replace hx4 := hid hx4
          clear hrd hx hF hA
          go_wp2_with fail
          refine hc.out.mono ?_
          rintro e z1 ⟨rfl, hA⟩
          have hA6 := hid hA
          clear hc hA
          have hls := hid (sf_list (i := k - j) (o := 1) hr2.out hx4.out)
          have hc := hA6.out.list (q := 1)
          replace hc := hid hc
          go_wp2_with fail
          refine hc.out.mono ?_
          rintro e z2 ⟨vl, ks, rfl, hA, h3⟩
          rw [hls.out.1] at *
          rcases h3 with ⟨_, hst, hsr, hpm⟩ | ⟨h0, _⟩
          case inr => exact absurd rfl h0
          rw [hls.out.2] at hpm
          obtain rfl : ks = [] := hpm.eq_nil
          obtain ⟨_, al, cl, rfl, _, _⟩ := hst
          have hA7 := hid hA
          clear hc hA hA6 hls hsr hpm
          have hE : ∃ f', (letF (SF r2 x4 (k - j) 1) 2 = f') ∧ ((j + 1 < k ∧ f' = SF r2 x4 (k - (j + 1)) 1) ∨ (j + 1 = k ∧ f' = SE r2)) := by
            by_cases hlast : j + 1 = k
            · refine ⟨SE r2, ?_, .inr ⟨hlast, rfl⟩⟩
              rw [show k - j = 1 by omega]
              exact sf_last hr2.out hx4.out
            · refine ⟨SF r2 x4 (k - (j + 1)) 1, ?_, .inl ⟨by omega, rfl⟩⟩
              rw [show k - j = (k - (j + 1)) + 1 by omega]
              exact sf_let hr2.out hx4.out (by omega)
          obtain ⟨f', hlet, hf'⟩ := hE
          have hc := hid (hA7.out.let_ hlet (by omega) (by omega))
          replace hf' := hid hf'
          replace hlet := hid hlet
          go_wp2_with fail
          refine hc.out.mono ?_
          rintro e z3 ⟨rfl, hA⟩
          have hA8 := hid hA
          clear hc hA hA7
          go_wp2_with fail
          go_roundw
          case rel =>
            refine ⟨j + 1, by omega, by go_num, hid ?_⟩
            rcases hf'.out with ⟨h1, h2⟩ | ⟨h1, h2⟩
            · exact .inl ⟨h1, x4, hx4.out, by rw [← h2]; exact hA8.out⟩
            · exact .inr ⟨h1, by rw [← h2]; exact hA8.out⟩
          case measure => simp [intOf]; omega
        · obtain rfl : j = k := by omega
          rcases hA.out with ⟨h0, _⟩ | ⟨_, hF⟩
          case inl => omega
          have hc := hid (hF.read (se_read hr2.out) (by omega) (by omega))
          clear hF hA
          go_wp2_with fail
          refine hc.out.mono ?_
          rintro e z1 ⟨rfl, hA⟩
          have ht := hid hA.tree
          clear hc hA
          go_wp2_with fail
          refine ht.out.mono ?_
          rintro e z2 ⟨vt, rfl, hvt, _, hAt, _⟩
          obtain ⟨at_, ct, rfl, _, _⟩ := hvt.form
          rw [show (SE r2).t.n.length = 1 from rfl]
          have hft := ftree_1
          have hAt := hid hAt
          clear ht hvt
          go_wp2_with fail
          go_ret
          exact ⟨rfl, sn hB1.out hAt.out.below⟩
theorem law_FilesGoneI (a b0 : ByteArray) (i : Int) (w : World) (ha : a.size ≤ maxLen) (hb : b0.size ≤ maxLen) (hi : 0 ≤ i ∧ i ≤ 255) : Calls Tryz.prog 3 #[.string a, .string b0, .int .u8 i] w (Holds w) := by
  obtain ⟨n, rfl⟩ := Int.eq_ofNat_of_zero_le hi.1
  exact law_FilesGone a b0 n w (by omega)
end
end Go.Proofs.YtkefjeabckainaaGreat
