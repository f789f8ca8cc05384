/- A message as a record, the fields that each type names, what they are in bytes, and the state of a writer behind each field. No condition.
What fields of msg writes, helpers. Conditions: texts of at most a thousand bytes each.
What fields of msg writes, types 100, 101, 102, 103, 104, 105, 107, 108, 110, 111. Conditions: texts of at most a thousand bytes each. -/
import Derived.Test.YtcbglcebdkpcfaaGreatCeA08
namespace Go.Proofs.YtcbglcebdkpcfaaGreat
section
open Go.RowKit
set_option maxRecDepth 100000
set_option linter.unusedVariables false

structure M where
  ty : Nat
  tag : Nat
  msize : Nat
  version : ByteArray
  fid : Nat
  afid : Nat
  new : Nat
  uname : ByteArray
  aname : ByteArray
  ename : ByteArray
  old : Nat
  names : List ByteArray
  qids : List QidV
  qid : QidV
  iounit : Nat
  mode : Nat
  perm : Nat
  name : ByteArray
  offset : Nat
  count : Nat
  data : List UInt8
  stat : Stat
def M.cells (m : M) (vN vQ vD : Value) : Array Value := #[.int .u8 (m.ty : Int), .int .u16 (m.tag : Int), .int .u32 (m.msize : Int), .string m.version, .int .u32 (m.fid : Int), .int .u32 (m.afid : Int), .int .u32 (m.new : Int), .string m.uname, .string m.aname, .string m.ename, .int .u16 (m.old : Int), vN, vQ, .int .u8 (m.qid.t : Int), .int .u32 (m.qid.v : Int), .int .u64 (m.qid.p : Int), .int .u32 (m.iounit : Int), .int .u8 (m.mode : Int), .int .u32 (m.perm : Int), .string m.name, .int .u64 (m.offset : Int), .int .u32 (m.count : Int), vD, .int .u16 (m.stat.kind : Int), .int .u32 (m.stat.dev : Int), .int .u8 (m.stat.qt : Int), .int .u32 (m.stat.qv : Int), .int .u64 (m.stat.qp : Int), .int .u32 (m.stat.mode : Int), .int .u32 (m.stat.atm : Int), .int .u32 (m.stat.mtm : Int), .int .u64 (m.stat.len : Int), .string m.stat.name, .string m.stat.uid, .string m.stat.gid, .string m.stat.muid]
structure MOk (m : M) : Prop where
  ty : m.ty < 256
  tag : m.tag < 65536
  msize : m.msize < 4294967296
  fid : m.fid < 4294967296
  afid : m.afid < 4294967296
  new : m.new < 4294967296
  old : m.old < 65536
  qids : ∀ q ∈ m.qids, QidOk q
  qid : QidOk m.qid
  iounit : m.iounit < 4294967296
  mode : m.mode < 256
  perm : m.perm < 4294967296
  offset : m.offset < 18446744073709551616
  count : m.count < 4294967296
  stat : StatOk m.stat
structure MFew (m : M) : Prop where
  version : m.version.size ≤ 1000
  uname : m.uname.size ≤ 1000
  aname : m.aname.size ≤ 1000
  ename : m.ename.size ≤ 1000
  names : ∀ s ∈ m.names, s.size ≤ 1000
  name : m.name.size ≤ 1000
  stat : Few m.stat
inductive Slot where
  | msize
  | version
  | fid
  | afid
  | new
  | uname
  | aname
  | ename
  | old
  | names
  | qids
  | qid
  | iounit
  | mode
  | perm
  | name
  | offset
  | count
  | data
  | stat
def Slot.o (m : M) : Slot → Nat × List UInt8
  | .msize => (0, numBytes m.msize 4)
  | .version => (mayN m.version, putText m.version)
  | .fid => (0, numBytes m.fid 4)
  | .afid => (0, numBytes m.afid 4)
  | .new => (0, numBytes m.new 4)
  | .uname => (mayN m.uname, putText m.uname)
  | .aname => (mayN m.aname, putText m.aname)
  | .ename => (mayN m.ename, putText m.ename)
  | .old => (0, numBytes m.old 2)
  | .names => (if 16 < m.names.length then 3 else textsErr m.names, numBytes m.names.length 2 ++ textsBytes m.names)
  | .qids => (if 16 < m.qids.length then 3 else 0, numBytes m.qids.length 2 ++ qidsBytes m.qids)
  | .qid => (0, m.qid.bytes)
  | .iounit => (0, numBytes m.iounit 4)
  | .mode => (0, numBytes m.mode 1)
  | .perm => (0, numBytes m.perm 4)
  | .name => (mayN m.name, putText m.name)
  | .offset => (0, numBytes m.offset 8)
  | .count => (0, numBytes m.count 4)
  | .data => (if 8192 < m.data.length then 3 else 0, numBytes m.data.length 4 ++ m.data)
  | .stat => (m.stat.err, numBytes m.stat.bytes.length 2 ++ m.stat.bytes)
def slots : Nat → List Slot
  | 100 => [.msize, .version]
  | 101 => [.msize, .version]
  | 102 => [.afid, .uname, .aname]
  | 103 => [.qid]
  | 104 => [.fid, .afid, .uname, .aname]
  | 105 => [.qid]
  | 107 => [.ename]
  | 108 => [.old]
  | 110 => [.fid, .new, .names]
  | 111 => [.qids]
  | 112 => [.fid, .mode]
  | 113 => [.qid, .iounit]
  | 114 => [.fid, .name, .perm, .mode]
  | 115 => [.qid, .iounit]
  | 116 => [.fid, .offset, .count]
  | 117 => [.data]
  | 118 => [.fid, .offset, .data]
  | 119 => [.count]
  | 120 => [.fid]
  | 122 => [.fid]
  | 124 => [.fid]
  | 125 => [.stat]
  | 126 => [.fid, .stat]
  | _ => []
def outs (m : M) : List Slot → Nat × List UInt8
  | [] => (0, [])
  | s :: ss => if (s.o m).1 ≠ 0 then ((s.o m).1, []) else ((outs m ss).1, (s.o m).2 ++ (outs m ss).2)
theorem outs_ok {m : M} {s : Slot} {ss : List Slot} (h : (s.o m).1 = 0) : outs m (s :: ss) = ((outs m ss).1, (s.o m).2 ++ (outs m ss).2) := by
  simp only [outs]; rw [if_neg (by simpa using h)]
theorem outs_bad {m : M} {s : Slot} {ss : List Slot} (h : (s.o m).1 ≠ 0) : outs m (s :: ss) = ((s.o m).1, []) := by
  simp only [outs]; rw [if_pos h]

structure OA (w0 w : World) (b q : Nat) (m : M) (vN vQ vD : Value) (xs : List UInt8) : Prop where
  out : OutIs w b xs
  blk : w.heap[q]? = some (.cells (m.cells vN vQ vD) 41 (0, 0))
  foot : ¬ Foot w b q
  names : StrsAt w vN m.names
  nf : ∀ k, vN.ownBlock = some k → ¬ Foot w b k
  qids : QidsAt w vQ m.qids
  qf : ∀ k, vQ.ownBlock = some k → ¬ Foot w b k
  data : BytesAt w vD m.data
  df : ∀ k, vD.ownBlock = some k → ¬ Foot w b k
  st : OStep b w0 w

theorem OA.step {w0 w w2 : World} {b q : Nat} {m : M} {vN vQ vD : Value} {xs ys : List UInt8} (h : OA w0 w b q m vN vQ vD xs) (ho : OutIs w2 b ys) (hs : OStep b w w2) : OA w0 w2 b q m vN vQ vD ys :=
  have hq := hs.block q (lt_of_block h.blk) h.foot
  ⟨ho, hq.1.trans h.blk, hq.2, RowAt.step h.names hs h.nf, fun k hk => (hs.block k (RowAt.blk h.names hk) (h.nf k hk)).2,
    RowAt.step h.qids hs h.qf, fun k hk => (hs.block k (RowAt.blk h.qids hk) (h.qf k hk)).2,
    RowAt.step h.data hs h.df, fun k hk => (hs.block k (RowAt.blk h.data hk) (h.df k hk)).2, h.st.trans hs⟩
theorem OA.drew {w0 w : World} {b q : Nat} {m : M} {vN vQ vD : Value} {xs : List UInt8} (h : OA w0 w b q m vN vQ vD xs) : OA w0 w.drew b q m vN vQ vD xs :=
  h.step h.out.drew (OStep.pure h.out.lt (Below.refl _ _).drew)
theorem OA.cell {w0 w : World} {b q : Nat} {m : M} {vN vQ vD : Value} {xs : List UInt8} (h : OA w0 w b q m vN vQ vD xs) (i : Nat) : w.cell? ⟨q, i, none⟩ = (m.cells vN vQ vD)[i]? := block_cell h.blk i

def OGood (w0 : World) (b q : Nat) (m : M) (vN vQ vD : Value) (xs : List UInt8) (e : Ending) (w' : World) : Prop :=
  e = .returned (.tuple #[]) ∧ OA w0 w' b q m vN vQ vD xs
def OBad (w0 : World) (b err : Nat) (e : Ending) (w' : World) : Prop := e = .panicked (errChain err) ∧ OStep b w0 w'

theorem o_msize (b q : Nat) (m : M) (vN vQ vD : Value) (xs : List UInt8) (w0 w : World) (hA : OA w0 w b q m vN vQ vD xs) (hm : MOk m) (hf : MFew m) (hx : xs.length ≤ 900000) :
    Calls Tryz.prog 127 #[.pointer (some ⟨b, 0, none⟩), .pointer (some ⟨q, 2, none⟩)] w (OGood w0 b q m vN vQ vD (xs ++ (Slot.o m .msize).2)) := by
  refine (out_u32_any b q 2 m.msize xs w hm.msize (by omega) hA.out hA.foot (hA.cell 2)).mono ?_
  rintro e w1 ⟨rfl, ho1, hs1⟩
  exact ⟨rfl, hA.step ho1 hs1⟩
theorem o_version (b q : Nat) (m : M) (vN vQ vD : Value) (xs : List UInt8) (w0 w : World) (hA : OA w0 w b q m vN vQ vD xs) (hm : MOk m) (hf : MFew m) (hx : xs.length ≤ 900000) (he : (Slot.o m .version).1 = 0) :
    Calls Tryz.prog 125 #[.pointer (some ⟨b, 0, none⟩), .pointer (some ⟨q, 3, none⟩)] w (OGood w0 b q m vN vQ vD (xs ++ (Slot.o m .version).2)) := by
  refine (out_text_ok b q 3 m.version xs w (by have := hf.version; omega) (by omega) he hA.out hA.foot (hA.cell 3)).mono ?_
  rintro e w1 ⟨rfl, ho1, hs1⟩
  exact ⟨rfl, hA.step ho1 hs1⟩
theorem o_version_bad (b q : Nat) (m : M) (vN vQ vD : Value) (xs : List UInt8) (w0 w : World) (hA : OA w0 w b q m vN vQ vD xs) (hm : MOk m) (hf : MFew m) (hx : xs.length ≤ 900000) (he : (Slot.o m .version).1 ≠ 0) :
    Calls Tryz.prog 125 #[.pointer (some ⟨b, 0, none⟩), .pointer (some ⟨q, 3, none⟩)] w (OBad w0 b (Slot.o m .version).1) := by
  refine (out_text_bad b q 3 m.version xs w (by have := hf.version; omega) (by omega) he hA.out hA.foot (hA.cell 3)).mono ?_
  rintro e w1 ⟨rfl, hs1⟩
  exact ⟨rfl, hA.st.trans hs1⟩
theorem o_fid (b q : Nat) (m : M) (vN vQ vD : Value) (xs : List UInt8) (w0 w : World) (hA : OA w0 w b q m vN vQ vD xs) (hm : MOk m) (hf : MFew m) (hx : xs.length ≤ 900000) :
    Calls Tryz.prog 127 #[.pointer (some ⟨b, 0, none⟩), .pointer (some ⟨q, 4, none⟩)] w (OGood w0 b q m vN vQ vD (xs ++ (Slot.o m .fid).2)) := by
  refine (out_u32_any b q 4 m.fid xs w hm.fid (by omega) hA.out hA.foot (hA.cell 4)).mono ?_
  rintro e w1 ⟨rfl, ho1, hs1⟩
  exact ⟨rfl, hA.step ho1 hs1⟩
theorem o_afid (b q : Nat) (m : M) (vN vQ vD : Value) (xs : List UInt8) (w0 w : World) (hA : OA w0 w b q m vN vQ vD xs) (hm : MOk m) (hf : MFew m) (hx : xs.length ≤ 900000) :
    Calls Tryz.prog 127 #[.pointer (some ⟨b, 0, none⟩), .pointer (some ⟨q, 5, none⟩)] w (OGood w0 b q m vN vQ vD (xs ++ (Slot.o m .afid).2)) := by
  refine (out_u32_any b q 5 m.afid xs w hm.afid (by omega) hA.out hA.foot (hA.cell 5)).mono ?_
  rintro e w1 ⟨rfl, ho1, hs1⟩
  exact ⟨rfl, hA.step ho1 hs1⟩
theorem o_new (b q : Nat) (m : M) (vN vQ vD : Value) (xs : List UInt8) (w0 w : World) (hA : OA w0 w b q m vN vQ vD xs) (hm : MOk m) (hf : MFew m) (hx : xs.length ≤ 900000) :
    Calls Tryz.prog 127 #[.pointer (some ⟨b, 0, none⟩), .pointer (some ⟨q, 6, none⟩)] w (OGood w0 b q m vN vQ vD (xs ++ (Slot.o m .new).2)) := by
  refine (out_u32_any b q 6 m.new xs w hm.new (by omega) hA.out hA.foot (hA.cell 6)).mono ?_
  rintro e w1 ⟨rfl, ho1, hs1⟩
  exact ⟨rfl, hA.step ho1 hs1⟩
theorem o_uname (b q : Nat) (m : M) (vN vQ vD : Value) (xs : List UInt8) (w0 w : World) (hA : OA w0 w b q m vN vQ vD xs) (hm : MOk m) (hf : MFew m) (hx : xs.length ≤ 900000) (he : (Slot.o m .uname).1 = 0) :
    Calls Tryz.prog 125 #[.pointer (some ⟨b, 0, none⟩), .pointer (some ⟨q, 7, none⟩)] w (OGood w0 b q m vN vQ vD (xs ++ (Slot.o m .uname).2)) := by
  refine (out_text_ok b q 7 m.uname xs w (by have := hf.uname; omega) (by omega) he hA.out hA.foot (hA.cell 7)).mono ?_
  rintro e w1 ⟨rfl, ho1, hs1⟩
  exact ⟨rfl, hA.step ho1 hs1⟩
theorem o_uname_bad (b q : Nat) (m : M) (vN vQ vD : Value) (xs : List UInt8) (w0 w : World) (hA : OA w0 w b q m vN vQ vD xs) (hm : MOk m) (hf : MFew m) (hx : xs.length ≤ 900000) (he : (Slot.o m .uname).1 ≠ 0) :
    Calls Tryz.prog 125 #[.pointer (some ⟨b, 0, none⟩), .pointer (some ⟨q, 7, none⟩)] w (OBad w0 b (Slot.o m .uname).1) := by
  refine (out_text_bad b q 7 m.uname xs w (by have := hf.uname; omega) (by omega) he hA.out hA.foot (hA.cell 7)).mono ?_
  rintro e w1 ⟨rfl, hs1⟩
  exact ⟨rfl, hA.st.trans hs1⟩
theorem o_aname (b q : Nat) (m : M) (vN vQ vD : Value) (xs : List UInt8) (w0 w : World) (hA : OA w0 w b q m vN vQ vD xs) (hm : MOk m) (hf : MFew m) (hx : xs.length ≤ 900000) (he : (Slot.o m .aname).1 = 0) :
    Calls Tryz.prog 125 #[.pointer (some ⟨b, 0, none⟩), .pointer (some ⟨q, 8, none⟩)] w (OGood w0 b q m vN vQ vD (xs ++ (Slot.o m .aname).2)) := by
  refine (out_text_ok b q 8 m.aname xs w (by have := hf.aname; omega) (by omega) he hA.out hA.foot (hA.cell 8)).mono ?_
  rintro e w1 ⟨rfl, ho1, hs1⟩
  exact ⟨rfl, hA.step ho1 hs1⟩
theorem o_aname_bad (b q : Nat) (m : M) (vN vQ vD : Value) (xs : List UInt8) (w0 w : World) (hA : OA w0 w b q m vN vQ vD xs) (hm : MOk m) (hf : MFew m) (hx : xs.length ≤ 900000) (he : (Slot.o m .aname).1 ≠ 0) :
    Calls Tryz.prog 125 #[.pointer (some ⟨b, 0, none⟩), .pointer (some ⟨q, 8, none⟩)] w (OBad w0 b (Slot.o m .aname).1) := by
  refine (out_text_bad b q 8 m.aname xs w (by have := hf.aname; omega) (by omega) he hA.out hA.foot (hA.cell 8)).mono ?_
  rintro e w1 ⟨rfl, hs1⟩
  exact ⟨rfl, hA.st.trans hs1⟩
theorem o_ename (b q : Nat) (m : M) (vN vQ vD : Value) (xs : List UInt8) (w0 w : World) (hA : OA w0 w b q m vN vQ vD xs) (hm : MOk m) (hf : MFew m) (hx : xs.length ≤ 900000) (he : (Slot.o m .ename).1 = 0) :
    Calls Tryz.prog 125 #[.pointer (some ⟨b, 0, none⟩), .pointer (some ⟨q, 9, none⟩)] w (OGood w0 b q m vN vQ vD (xs ++ (Slot.o m .ename).2)) := by
  refine (out_text_ok b q 9 m.ename xs w (by have := hf.ename; omega) (by omega) he hA.out hA.foot (hA.cell 9)).mono ?_
  rintro e w1 ⟨rfl, ho1, hs1⟩
  exact ⟨rfl, hA.step ho1 hs1⟩
theorem o_ename_bad (b q : Nat) (m : M) (vN vQ vD : Value) (xs : List UInt8) (w0 w : World) (hA : OA w0 w b q m vN vQ vD xs) (hm : MOk m) (hf : MFew m) (hx : xs.length ≤ 900000) (he : (Slot.o m .ename).1 ≠ 0) :
    Calls Tryz.prog 125 #[.pointer (some ⟨b, 0, none⟩), .pointer (some ⟨q, 9, none⟩)] w (OBad w0 b (Slot.o m .ename).1) := by
  refine (out_text_bad b q 9 m.ename xs w (by have := hf.ename; omega) (by omega) he hA.out hA.foot (hA.cell 9)).mono ?_
  rintro e w1 ⟨rfl, hs1⟩
  exact ⟨rfl, hA.st.trans hs1⟩
theorem o_old (b q : Nat) (m : M) (vN vQ vD : Value) (xs : List UInt8) (w0 w : World) (hA : OA w0 w b q m vN vQ vD xs) (hm : MOk m) (hf : MFew m) (hx : xs.length ≤ 900000) :
    Calls Tryz.prog 70 #[.pointer (some ⟨b, 0, none⟩), .pointer (some ⟨q, 10, none⟩)] w (OGood w0 b q m vN vQ vD (xs ++ (Slot.o m .old).2)) := by
  refine (out_u16_any b q 10 m.old xs w hm.old (by omega) hA.out hA.foot (hA.cell 10)).mono ?_
  rintro e w1 ⟨rfl, ho1, hs1⟩
  exact ⟨rfl, hA.step ho1 hs1⟩
theorem o_names (b q : Nat) (m : M) (vN vQ vD : Value) (xs : List UInt8) (w0 w : World) (hA : OA w0 w b q m vN vQ vD xs) (hm : MOk m) (hf : MFew m) (hx : xs.length ≤ 900000) (he : (Slot.o m .names).1 = 0) :
    Calls Tryz.prog 126 #[.pointer (some ⟨b, 0, none⟩), .pointer (some ⟨q, 11, none⟩)] w (OGood w0 b q m vN vQ vD (xs ++ (Slot.o m .names).2)) := by
  have h16 : m.names.length ≤ 16 := by simp only [Slot.o] at he; split at he <;> omega
  have he2 : textsErr m.names = 0 := by simpa [Slot.o, Nat.not_lt.2 h16] using he
  refine (out_texts_any b q 11 vN m.names xs w h16 hf.names hx hA.names (hA.cell 11) hA.out hA.foot hA.nf).mono ?_
  rintro e w1 ⟨h1, hs1⟩
  rcases h1 with ⟨_, rfl, ho1⟩ | ⟨h0, _⟩
  · exact ⟨rfl, hA.step ho1 hs1⟩
  · exact absurd he2 h0
theorem o_names_bad (b q : Nat) (m : M) (vN vQ vD : Value) (xs : List UInt8) (w0 w : World) (hA : OA w0 w b q m vN vQ vD xs) (hm : MOk m) (hf : MFew m) (hx : xs.length ≤ 900000) (he : (Slot.o m .names).1 ≠ 0) :
    Calls Tryz.prog 126 #[.pointer (some ⟨b, 0, none⟩), .pointer (some ⟨q, 11, none⟩)] w (OBad w0 b (Slot.o m .names).1) := by
  by_cases h16 : m.names.length ≤ 16
  · have e2 : (Slot.o m .names).1 = textsErr m.names := by simp [Slot.o, Nat.not_lt.2 h16]
    rw [e2] at he ⊢
    refine (out_texts_any b q 11 vN m.names xs w h16 hf.names hx hA.names (hA.cell 11) hA.out hA.foot hA.nf).mono ?_
    rintro e w1 ⟨h1, hs1⟩
    rcases h1 with ⟨h0, _⟩ | ⟨_, rfl⟩
    · exact absurd h0 he
    · exact ⟨rfl, hA.st.trans hs1⟩
  · have e2 : (Slot.o m .names).1 = 3 := by simp [Slot.o, Nat.not_le.1 h16]
    rw [e2]
    refine (out_texts_long b q 11 vN m.names w (by omega) hA.names (hA.cell 11)).mono ?_
    rintro e w1 ⟨rfl, rfl⟩
    exact ⟨rfl, hA.st⟩
theorem o_qids (b q : Nat) (m : M) (vN vQ vD : Value) (xs : List UInt8) (w0 w : World) (hA : OA w0 w b q m vN vQ vD xs) (hm : MOk m) (hf : MFew m) (hx : xs.length ≤ 900000) (he : (Slot.o m .qids).1 = 0) :
    Calls Tryz.prog 123 #[.pointer (some ⟨b, 0, none⟩), .pointer (some ⟨q, 12, none⟩)] w (OGood w0 b q m vN vQ vD (xs ++ (Slot.o m .qids).2)) := by
  have h16 : m.qids.length ≤ 16 := by simp only [Slot.o] at he; split at he <;> omega
  refine (out_qids_any b q 12 vQ m.qids xs w h16 hm.qids hx hA.qids (hA.cell 12) hA.out hA.foot hA.qf).mono ?_
  rintro e w1 ⟨rfl, ho1, hs1⟩
  exact ⟨rfl, hA.step ho1 hs1⟩
theorem o_qids_bad (b q : Nat) (m : M) (vN vQ vD : Value) (xs : List UInt8) (w0 w : World) (hA : OA w0 w b q m vN vQ vD xs) (hm : MOk m) (hf : MFew m) (hx : xs.length ≤ 900000) (he : (Slot.o m .qids).1 ≠ 0) :
    Calls Tryz.prog 123 #[.pointer (some ⟨b, 0, none⟩), .pointer (some ⟨q, 12, none⟩)] w (OBad w0 b (Slot.o m .qids).1) := by
  have h16 : 16 < m.qids.length := by simp only [Slot.o] at he; split at he <;> omega
  have e2 : (Slot.o m .qids).1 = 3 := by simp [Slot.o, h16]
  rw [e2]
  refine (out_qids_long b q 12 vQ m.qids w h16 hA.qids (hA.cell 12)).mono ?_
  rintro e w1 ⟨rfl, rfl⟩
  exact ⟨rfl, hA.st⟩
theorem o_qid (b q : Nat) (m : M) (vN vQ vD : Value) (xs : List UInt8) (w0 w : World) (hA : OA w0 w b q m vN vQ vD xs) (hm : MOk m) (hf : MFew m) (hx : xs.length ≤ 900000) :
    Calls Tryz.prog 122 #[.pointer (some ⟨b, 0, none⟩), .pointer (some ⟨q, 13, none⟩)] w (OGood w0 b q m vN vQ vD (xs ++ (Slot.o m .qid).2)) := by
  refine (out_qid_any b q 13 m.qid.t m.qid.v m.qid.p xs w hm.qid.t hm.qid.v hm.qid.p (by omega) hA.out hA.foot ⟨hA.cell 13, hA.cell 14, hA.cell 15⟩).mono ?_
  rintro e w1 ⟨rfl, ho1, hs1⟩
  exact ⟨rfl, hA.step ho1 hs1⟩
theorem o_iounit (b q : Nat) (m : M) (vN vQ vD : Value) (xs : List UInt8) (w0 w : World) (hA : OA w0 w b q m vN vQ vD xs) (hm : MOk m) (hf : MFew m) (hx : xs.length ≤ 900000) :
    Calls Tryz.prog 127 #[.pointer (some ⟨b, 0, none⟩), .pointer (some ⟨q, 16, none⟩)] w (OGood w0 b q m vN vQ vD (xs ++ (Slot.o m .iounit).2)) := by
  refine (out_u32_any b q 16 m.iounit xs w hm.iounit (by omega) hA.out hA.foot (hA.cell 16)).mono ?_
  rintro e w1 ⟨rfl, ho1, hs1⟩
  exact ⟨rfl, hA.step ho1 hs1⟩
theorem o_mode (b q : Nat) (m : M) (vN vQ vD : Value) (xs : List UInt8) (w0 w : World) (hA : OA w0 w b q m vN vQ vD xs) (hm : MOk m) (hf : MFew m) (hx : xs.length ≤ 900000) :
    Calls Tryz.prog 69 #[.pointer (some ⟨b, 0, none⟩), .pointer (some ⟨q, 17, none⟩)] w (OGood w0 b q m vN vQ vD (xs ++ (Slot.o m .mode).2)) := by
  refine (out_u8_any b q 17 m.mode xs w hm.mode (by omega) hA.out hA.foot (hA.cell 17)).mono ?_
  rintro e w1 ⟨rfl, ho1, hs1⟩
  exact ⟨rfl, hA.step ho1 hs1⟩
theorem o_perm (b q : Nat) (m : M) (vN vQ vD : Value) (xs : List UInt8) (w0 w : World) (hA : OA w0 w b q m vN vQ vD xs) (hm : MOk m) (hf : MFew m) (hx : xs.length ≤ 900000) :
    Calls Tryz.prog 127 #[.pointer (some ⟨b, 0, none⟩), .pointer (some ⟨q, 18, none⟩)] w (OGood w0 b q m vN vQ vD (xs ++ (Slot.o m .perm).2)) := by
  refine (out_u32_any b q 18 m.perm xs w hm.perm (by omega) hA.out hA.foot (hA.cell 18)).mono ?_
  rintro e w1 ⟨rfl, ho1, hs1⟩
  exact ⟨rfl, hA.step ho1 hs1⟩
theorem o_name (b q : Nat) (m : M) (vN vQ vD : Value) (xs : List UInt8) (w0 w : World) (hA : OA w0 w b q m vN vQ vD xs) (hm : MOk m) (hf : MFew m) (hx : xs.length ≤ 900000) (he : (Slot.o m .name).1 = 0) :
    Calls Tryz.prog 125 #[.pointer (some ⟨b, 0, none⟩), .pointer (some ⟨q, 19, none⟩)] w (OGood w0 b q m vN vQ vD (xs ++ (Slot.o m .name).2)) := by
  refine (out_text_ok b q 19 m.name xs w (by have := hf.name; omega) (by omega) he hA.out hA.foot (hA.cell 19)).mono ?_
  rintro e w1 ⟨rfl, ho1, hs1⟩
  exact ⟨rfl, hA.step ho1 hs1⟩
theorem o_name_bad (b q : Nat) (m : M) (vN vQ vD : Value) (xs : List UInt8) (w0 w : World) (hA : OA w0 w b q m vN vQ vD xs) (hm : MOk m) (hf : MFew m) (hx : xs.length ≤ 900000) (he : (Slot.o m .name).1 ≠ 0) :
    Calls Tryz.prog 125 #[.pointer (some ⟨b, 0, none⟩), .pointer (some ⟨q, 19, none⟩)] w (OBad w0 b (Slot.o m .name).1) := by
  refine (out_text_bad b q 19 m.name xs w (by have := hf.name; omega) (by omega) he hA.out hA.foot (hA.cell 19)).mono ?_
  rintro e w1 ⟨rfl, hs1⟩
  exact ⟨rfl, hA.st.trans hs1⟩
theorem o_offset (b q : Nat) (m : M) (vN vQ vD : Value) (xs : List UInt8) (w0 w : World) (hA : OA w0 w b q m vN vQ vD xs) (hm : MOk m) (hf : MFew m) (hx : xs.length ≤ 900000) :
    Calls Tryz.prog 128 #[.pointer (some ⟨b, 0, none⟩), .pointer (some ⟨q, 20, none⟩)] w (OGood w0 b q m vN vQ vD (xs ++ (Slot.o m .offset).2)) := by
  refine (out_u64_any b q 20 m.offset xs w hm.offset (by omega) hA.out hA.foot (hA.cell 20)).mono ?_
  rintro e w1 ⟨rfl, ho1, hs1⟩
  exact ⟨rfl, hA.step ho1 hs1⟩
theorem o_count (b q : Nat) (m : M) (vN vQ vD : Value) (xs : List UInt8) (w0 w : World) (hA : OA w0 w b q m vN vQ vD xs) (hm : MOk m) (hf : MFew m) (hx : xs.length ≤ 900000) :
    Calls Tryz.prog 127 #[.pointer (some ⟨b, 0, none⟩), .pointer (some ⟨q, 21, none⟩)] w (OGood w0 b q m vN vQ vD (xs ++ (Slot.o m .count).2)) := by
  refine (out_u32_any b q 21 m.count xs w hm.count (by omega) hA.out hA.foot (hA.cell 21)).mono ?_
  rintro e w1 ⟨rfl, ho1, hs1⟩
  exact ⟨rfl, hA.step ho1 hs1⟩
theorem o_data (b q : Nat) (m : M) (vN vQ vD : Value) (xs : List UInt8) (w0 w : World) (hA : OA w0 w b q m vN vQ vD xs) (hm : MOk m) (hf : MFew m) (hx : xs.length ≤ 900000) (he : (Slot.o m .data).1 = 0) :
    Calls Tryz.prog 120 #[.pointer (some ⟨b, 0, none⟩), .pointer (some ⟨q, 22, none⟩)] w (OGood w0 b q m vN vQ vD (xs ++ (Slot.o m .data).2)) := by
  have h16 : m.data.length ≤ 8192 := by simp only [Slot.o] at he; split at he <;> omega
  refine (out_data_ok b q 22 vD m.data xs w h16 (by omega) hA.data (hA.cell 22) hA.out hA.foot hA.df).mono ?_
  rintro e w1 ⟨rfl, ho1, hs1⟩
  exact ⟨rfl, hA.step ho1 hs1⟩
theorem o_data_bad (b q : Nat) (m : M) (vN vQ vD : Value) (xs : List UInt8) (w0 w : World) (hA : OA w0 w b q m vN vQ vD xs) (hm : MOk m) (hf : MFew m) (hx : xs.length ≤ 900000) (he : (Slot.o m .data).1 ≠ 0) :
    Calls Tryz.prog 120 #[.pointer (some ⟨b, 0, none⟩), .pointer (some ⟨q, 22, none⟩)] w (OBad w0 b (Slot.o m .data).1) := by
  have h16 : 8192 < m.data.length := by simp only [Slot.o] at he; split at he <;> omega
  have e2 : (Slot.o m .data).1 = 3 := by simp [Slot.o, h16]
  rw [e2]
  refine (out_data_bad b q 22 vD m.data w h16 hA.data (hA.cell 22)).mono ?_
  rintro e w1 ⟨rfl, rfl⟩
  exact ⟨rfl, hA.st⟩
theorem o_stat (b q : Nat) (m : M) (vN vQ vD : Value) (xs : List UInt8) (w0 w : World) (hA : OA w0 w b q m vN vQ vD xs) (hm : MOk m) (hf : MFew m) (hx : xs.length ≤ 900000) (he : (Slot.o m .stat).1 = 0) :
    Calls Tryz.prog 124 #[.pointer (some ⟨b, 0, none⟩), .pointer (some ⟨q, 23, none⟩)] w (OGood w0 b q m vN vQ vD (xs ++ (Slot.o m .stat).2)) := by
  refine (out_stat_ok b q 23 m.stat xs w hm.stat hf.stat he (by omega) hA.out ⟨hA.cell 23, hA.cell 24, hA.cell 25, hA.cell 26, hA.cell 27, hA.cell 28, hA.cell 29, hA.cell 30, hA.cell 31, hA.cell 32, hA.cell 33, hA.cell 34, hA.cell 35⟩).mono ?_
  rintro e w1 ⟨rfl, ho1, hs1⟩
  exact ⟨rfl, hA.step ho1 hs1⟩
theorem o_stat_bad (b q : Nat) (m : M) (vN vQ vD : Value) (xs : List UInt8) (w0 w : World) (hA : OA w0 w b q m vN vQ vD xs) (hm : MOk m) (hf : MFew m) (hx : xs.length ≤ 900000) (he : (Slot.o m .stat).1 ≠ 0) :
    Calls Tryz.prog 124 #[.pointer (some ⟨b, 0, none⟩), .pointer (some ⟨q, 23, none⟩)] w (OBad w0 b (Slot.o m .stat).1) := by
  refine (out_stat_bad b q 23 m.stat xs w hm.stat hf.stat he hA.out ⟨hA.cell 23, hA.cell 24, hA.cell 25, hA.cell 26, hA.cell 27, hA.cell 28, hA.cell 29, hA.cell 30, hA.cell 31, hA.cell 32, hA.cell 33, hA.cell 34, hA.cell 35⟩).mono ?_
  rintro e w1 ⟨rfl, hs1⟩
  exact ⟨rfl, hA.st.trans hs1⟩
end
end Go.Proofs.YtcbglcebdkpcfaaGreat

namespace Go.Proofs.YtcbglcebdkpcfaaGreat
section
open Go.RowKit
set_option maxRecDepth 100000
set_option linter.unusedVariables false

def ODo (w0 : World) (b q : Nat) (m : M) (vN vQ vD : Value) (xs : List UInt8) (r : Nat × List UInt8) (e : Ending) (w' : World) : Prop :=
  (r.1 = 0 ∧ OGood w0 b q m vN vQ vD (xs ++ r.2) e w') ∨ (r.1 ≠ 0 ∧ OBad w0 b r.1 e w')
theorem ODo_nil {w0 w' : World} {b q : Nat} {m : M} {vN vQ vD : Value} {xs : List UInt8} {e : Ending} (h : OGood w0 b q m vN vQ vD xs e w') : ODo w0 b q m vN vQ vD xs (outs m []) e w' :=
  .inl ⟨rfl, by rw [show (outs m []).2 = [] from rfl, List.append_nil]; exact h⟩
theorem ODo_cons {w0 w' : World} {b q : Nat} {m : M} {vN vQ vD : Value} {xs : List UInt8} {s : Slot} {ss : List Slot} {e : Ending} (he : (s.o m).1 = 0) (h : ODo w0 b q m vN vQ vD (xs ++ (s.o m).2) (outs m ss) e w') : ODo w0 b q m vN vQ vD xs (outs m (s :: ss)) e w' := by
  rw [outs_ok he]
  unfold ODo at h ⊢
  rw [List.append_assoc] at h
  exact h
theorem ODo_bad {w0 w' : World} {b q : Nat} {m : M} {vN vQ vD : Value} {xs : List UInt8} {s : Slot} {ss : List Slot} {e : Ending} (he : (s.o m).1 ≠ 0) (h : OBad w0 b (s.o m).1 e w') : ODo w0 b q m vN vQ vD xs (outs m (s :: ss)) e w' := by
  rw [outs_bad he]
  exact .inr ⟨he, h⟩
theorem textsBytes_len : ∀ L : List ByteArray, (∀ s ∈ L, s.size ≤ 1000) → (textsBytes L).length ≤ 1002 * L.length
  | [], _ => by simp [textsBytes]
  | t :: L, h => by
    have := textsBytes_len L (fun s hs => h s (List.mem_cons_of_mem _ hs))
    have := h t (List.mem_cons_self ..)
    simp only [textsBytes, List.length_append, putText_length, List.length_cons]
    omega
theorem slot_len {m : M} (hf : MFew m) (s : Slot) (he : (s.o m).1 = 0) : (s.o m).2.length ≤ 20000 := by
  cases s <;> simp only [Slot.o, numBytes_length, putText_length, List.length_append, QidV.bytes, qidBytes_length, qidsBytes_len] at he ⊢ <;> try omega
  all_goals first
    | (have := hf.version; omega) | (have := hf.uname; omega) | (have := hf.aname; omega) | (have := hf.ename; omega) | (have := hf.name; omega)
    | (have := textsBytes_len m.names hf.names; split at he <;> omega)
    | (split at he <;> omega)
    | (have := bytes_le m.stat hf.stat; omega)
theorem slots_len {m : M} (hf : MFew m) {xs : List UInt8} {n : Nat} (s : Slot) (he : (s.o m).1 = 0) (h : xs.length ≤ n) : (xs ++ (s.o m).2).length ≤ n + 20000 := by
  rw [List.length_append]; have := slot_len hf s he; omega

end
end Go.Proofs.YtcbglcebdkpcfaaGreat

namespace Go.Proofs.YtcbglcebdkpcfaaGreat
section
open Go.RowKit
set_option maxRecDepth 100000
set_option linter.unusedVariables false

set_option maxHeartbeats 1600000 in
theorem out_fields_100 (b q : Nat) (m : M) (vN vQ vD : Value) (xs : List UInt8) (w0 w : World) (hA : OA w0 w b q m vN vQ vD xs) (hm : MOk m) (hf : MFew m) (hx : xs.length ≤ 1000) (ht : m.ty = 100) :
    Calls Tryz.prog 52 #[.iface 131 (.pointer (some ⟨b, 0, none⟩)), .pointer (some ⟨q, 0, none⟩)] w (ODo w0 b q m vN vQ vD xs (outs m [.msize, .version])) := by
  have n0 := nil_o_u32
  have m0 := met_o_u32
  have n1 := nil_o_text
  have m1 := met_o_text
  have c0 : w.cell? ⟨q, 0, none⟩ = some (.int .u8 100) := by rw [hA.cell 0]; show some (Value.int .u8 (m.ty : Int)) = _; rw [ht]; rfl
  replace hA := hid hA
  replace hm := hid hm
  replace hf := hid hf
  clear ht
  go_enter Tryz.func52, Tryz.ntmps52
  go_wp2_with fail
  have k0 := hid (o_msize b q m vN vQ vD _ w0 w.drew hA.out.drew hm.out hf.out (by omega))
  go_region_with (go_at_call 127; refine k0.out.mono ?_; rintro e w1 ⟨rfl, hA1⟩)
  replace hA1 := hid hA1
  have hx1 := slots_len hf.out .msize rfl hx
  clear k0
  go_wp2_with fail
  by_cases he1 : (Slot.o m .version).1 = 0
  case neg =>
    have k1 := hid (o_version_bad b q m vN vQ vD _ w0 w1.drew hA1.out.drew hm.out hf.out (by omega) he1)
    replace he1 := hid he1
    go_region_with (go_at_call 125; refine k1.out.mono ?_; rintro e w2 ⟨rfl, hs1⟩; refine fakeAny ⟨rfl, ODo_cons rfl (ODo_bad he1.out ⟨rfl, hs1⟩)⟩ ?_)
    all_goals trivial
  have k1 := hid (o_version b q m vN vQ vD _ w0 w1.drew hA1.out.drew hm.out hf.out (by omega) he1)
  replace he1 := hid he1
  go_region_with (go_at_call 125; refine k1.out.mono ?_; rintro e w2 ⟨rfl, hA2⟩)
  replace hA2 := hid hA2
  have hx2 := slots_len hf.out .version he1.out hx1
  clear k1
  go_wp2_with fail
  go_end0
  exact ODo_cons rfl (ODo_cons he1.out (ODo_nil ⟨rfl, hA2.out⟩))

set_option maxHeartbeats 1600000 in
theorem out_fields_101 (b q : Nat) (m : M) (vN vQ vD : Value) (xs : List UInt8) (w0 w : World) (hA : OA w0 w b q m vN vQ vD xs) (hm : MOk m) (hf : MFew m) (hx : xs.length ≤ 1000) (ht : m.ty = 101) :
    Calls Tryz.prog 52 #[.iface 131 (.pointer (some ⟨b, 0, none⟩)), .pointer (some ⟨q, 0, none⟩)] w (ODo w0 b q m vN vQ vD xs (outs m [.msize, .version])) := by
  have n0 := nil_o_u32
  have m0 := met_o_u32
  have n1 := nil_o_text
  have m1 := met_o_text
  have c0 : w.cell? ⟨q, 0, none⟩ = some (.int .u8 101) := by rw [hA.cell 0]; show some (Value.int .u8 (m.ty : Int)) = _; rw [ht]; rfl
  replace hA := hid hA
  replace hm := hid hm
  replace hf := hid hf
  clear ht
  go_enter Tryz.func52, Tryz.ntmps52
  go_wp2_with fail
  have k0 := hid (o_msize b q m vN vQ vD _ w0 w.drew hA.out.drew hm.out hf.out (by omega))
  go_region_with (go_at_call 127; refine k0.out.mono ?_; rintro e w1 ⟨rfl, hA1⟩)
  replace hA1 := hid hA1
  have hx1 := slots_len hf.out .msize rfl hx
  clear k0
  go_wp2_with fail
  by_cases he1 : (Slot.o m .version).1 = 0
  case neg =>
    have k1 := hid (o_version_bad b q m vN vQ vD _ w0 w1.drew hA1.out.drew hm.out hf.out (by omega) he1)
    replace he1 := hid he1
    go_region_with (go_at_call 125; refine k1.out.mono ?_; rintro e w2 ⟨rfl, hs1⟩; refine fakeAny ⟨rfl, ODo_cons rfl (ODo_bad he1.out ⟨rfl, hs1⟩)⟩ ?_)
    all_goals trivial
  have k1 := hid (o_version b q m vN vQ vD _ w0 w1.drew hA1.out.drew hm.out hf.out (by omega) he1)
  replace he1 := hid he1
  go_region_with (go_at_call 125; refine k1.out.mono ?_; rintro e w2 ⟨rfl, hA2⟩)
  replace hA2 := hid hA2
  have hx2 := slots_len hf.out .version he1.out hx1
  clear k1
  go_wp2_with fail
  go_end0
  exact ODo_cons rfl (ODo_cons he1.out (ODo_nil ⟨rfl, hA2.out⟩))

set_option maxHeartbeats 1600000 in
theorem out_fields_102 (b q : Nat) (m : M) (vN vQ vD : Value) (xs : List UInt8) (w0 w : World) (hA : OA w0 w b q m vN vQ vD xs) (hm : MOk m) (hf : MFew m) (hx : xs.length ≤ 1000) (ht : m.ty = 102) :
    Calls Tryz.prog 52 #[.iface 131 (.pointer (some ⟨b, 0, none⟩)), .pointer (some ⟨q, 0, none⟩)] w (ODo w0 b q m vN vQ vD xs (outs m [.afid, .uname, .aname])) := by
  have n0 := nil_o_u32
  have m0 := met_o_u32
  have n1 := nil_o_text
  have m1 := met_o_text
  have c0 : w.cell? ⟨q, 0, none⟩ = some (.int .u8 102) := by rw [hA.cell 0]; show some (Value.int .u8 (m.ty : Int)) = _; rw [ht]; rfl
  replace hA := hid hA
  replace hm := hid hm
  replace hf := hid hf
  clear ht
  go_enter Tryz.func52, Tryz.ntmps52
  go_wp2_with fail
  have k0 := hid (o_afid b q m vN vQ vD _ w0 w.drew hA.out.drew hm.out hf.out (by omega))
  go_region_with (go_at_call 127; refine k0.out.mono ?_; rintro e w1 ⟨rfl, hA1⟩)
  replace hA1 := hid hA1
  have hx1 := slots_len hf.out .afid rfl hx
  clear k0
  go_wp2_with fail
  by_cases he1 : (Slot.o m .uname).1 = 0
  case neg =>
    have k1 := hid (o_uname_bad b q m vN vQ vD _ w0 w1.drew hA1.out.drew hm.out hf.out (by omega) he1)
    replace he1 := hid he1
    go_region_with (go_at_call 125; refine k1.out.mono ?_; rintro e w2 ⟨rfl, hs1⟩; refine fakeAny ⟨rfl, ODo_cons rfl (ODo_bad he1.out ⟨rfl, hs1⟩)⟩ ?_)
    all_goals trivial
  have k1 := hid (o_uname b q m vN vQ vD _ w0 w1.drew hA1.out.drew hm.out hf.out (by omega) he1)
  replace he1 := hid he1
  go_region_with (go_at_call 125; refine k1.out.mono ?_; rintro e w2 ⟨rfl, hA2⟩)
  replace hA2 := hid hA2
  have hx2 := slots_len hf.out .uname he1.out hx1
  clear k1
  go_wp2_with fail
  by_cases he2 : (Slot.o m .aname).1 = 0
  case neg =>
    have k2 := hid (o_aname_bad b q m vN vQ vD _ w0 w2.drew hA2.out.drew hm.out hf.out (by omega) he2)
    replace he2 := hid he2
    go_region_with (go_at_call 125; refine k2.out.mono ?_; rintro e w3 ⟨rfl, hs2⟩; refine fakeAny ⟨rfl, ODo_cons rfl (ODo_cons he1.out (ODo_bad he2.out ⟨rfl, hs2⟩))⟩ ?_)
    all_goals trivial
  have k2 := hid (o_aname b q m vN vQ vD _ w0 w2.drew hA2.out.drew hm.out hf.out (by omega) he2)
  replace he2 := hid he2
  go_region_with (go_at_call 125; refine k2.out.mono ?_; rintro e w3 ⟨rfl, hA3⟩)
  replace hA3 := hid hA3
  have hx3 := slots_len hf.out .aname he2.out hx2
  clear k2
  go_wp2_with fail
  go_end0
  exact ODo_cons rfl (ODo_cons he1.out (ODo_cons he2.out (ODo_nil ⟨rfl, hA3.out⟩)))

set_option maxHeartbeats 1600000 in
theorem out_fields_103 (b q : Nat) (m : M) (vN vQ vD : Value) (xs : List UInt8) (w0 w : World) (hA : OA w0 w b q m vN vQ vD xs) (hm : MOk m) (hf : MFew m) (hx : xs.length ≤ 1000) (ht : m.ty = 103) :
    Calls Tryz.prog 52 #[.iface 131 (.pointer (some ⟨b, 0, none⟩)), .pointer (some ⟨q, 0, none⟩)] w (ODo w0 b q m vN vQ vD xs (outs m [.qid])) := by
  have n0 := nil_o_qid
  have m0 := met_o_qid
  have c0 : w.cell? ⟨q, 0, none⟩ = some (.int .u8 103) := by rw [hA.cell 0]; show some (Value.int .u8 (m.ty : Int)) = _; rw [ht]; rfl
  replace hA := hid hA
  replace hm := hid hm
  replace hf := hid hf
  clear ht
  go_enter Tryz.func52, Tryz.ntmps52
  go_wp2_with fail
  have k0 := hid (o_qid b q m vN vQ vD _ w0 w.drew hA.out.drew hm.out hf.out (by omega))
  go_region_with (go_at_call 122; refine k0.out.mono ?_; rintro e w1 ⟨rfl, hA1⟩)
  replace hA1 := hid hA1
  have hx1 := slots_len hf.out .qid rfl hx
  clear k0
  go_wp2_with fail
  go_end0
  exact ODo_cons rfl (ODo_nil ⟨rfl, hA1.out⟩)

set_option maxHeartbeats 1600000 in
theorem out_fields_104 (b q : Nat) (m : M) (vN vQ vD : Value) (xs : List UInt8) (w0 w : World) (hA : OA w0 w b q m vN vQ vD xs) (hm : MOk m) (hf : MFew m) (hx : xs.length ≤ 1000) (ht : m.ty = 104) :
    Calls Tryz.prog 52 #[.iface 131 (.pointer (some ⟨b, 0, none⟩)), .pointer (some ⟨q, 0, none⟩)] w (ODo w0 b q m vN vQ vD xs (outs m [.fid, .afid, .uname, .aname])) := by
  have n0 := nil_o_u32
  have m0 := met_o_u32
  have n1 := nil_o_text
  have m1 := met_o_text
  have c0 : w.cell? ⟨q, 0, none⟩ = some (.int .u8 104) := by rw [hA.cell 0]; show some (Value.int .u8 (m.ty : Int)) = _; rw [ht]; rfl
  replace hA := hid hA
  replace hm := hid hm
  replace hf := hid hf
  clear ht
  go_enter Tryz.func52, Tryz.ntmps52
  go_wp2_with fail
  have k0 := hid (o_fid b q m vN vQ vD _ w0 w.drew hA.out.drew hm.out hf.out (by omega))
  go_region_with (go_at_call 127; refine k0.out.mono ?_; rintro e w1 ⟨rfl, hA1⟩)
  replace hA1 := hid hA1
  have hx1 := slots_len hf.out .fid rfl hx
  clear k0
  go_wp2_with fail
  have k1 := hid (o_afid b q m vN vQ vD _ w0 w1.drew hA1.out.drew hm.out hf.out (by omega))
  go_region_with (go_at_call 127; refine k1.out.mono ?_; rintro e w2 ⟨rfl, hA2⟩)
  replace hA2 := hid hA2
  have hx2 := slots_len hf.out .afid rfl hx1
  clear k1
  go_wp2_with fail
  by_cases he2 : (Slot.o m .uname).1 = 0
  case neg =>
    have k2 := hid (o_uname_bad b q m vN vQ vD _ w0 w2.drew hA2.out.drew hm.out hf.out (by omega) he2)
    replace he2 := hid he2
    go_region_with (go_at_call 125; refine k2.out.mono ?_; rintro e w3 ⟨rfl, hs2⟩; refine fakeAny ⟨rfl, ODo_cons rfl (ODo_cons rfl (ODo_bad he2.out ⟨rfl, hs2⟩))⟩ ?_)
    all_goals trivial
  have k2 := hid (o_uname b q m vN vQ vD _ w0 w2.drew hA2.out.drew hm.out hf.out (by omega) he2)
  replace he2 := hid he2
  go_region_with (go_at_call 125; refine k2.out.mono ?_; rintro e w3 ⟨rfl, hA3⟩)
  replace hA3 := hid hA3
  have hx3 := slots_len hf.out .uname he2.out hx2
  clear k2
  go_wp2_with fail
  by_cases he3 : (Slot.o m .aname).1 = 0
  case neg =>
    have k3 := hid (o_aname_bad b q m vN vQ vD _ w0 w3.drew hA3.out.drew hm.out hf.out (by omega) he3)
    replace he3 := hid he3
    go_region_with (go_at_call 125; refine k3.out.mono ?_; rintro e w4 ⟨rfl, hs3⟩; refine fakeAny ⟨rfl, ODo_cons rfl (ODo_cons rfl (ODo_cons he2.out (ODo_bad he3.out ⟨rfl, hs3⟩)))⟩ ?_)
    all_goals trivial
  have k3 := hid (o_aname b q m vN vQ vD _ w0 w3.drew hA3.out.drew hm.out hf.out (by omega) he3)
  replace he3 := hid he3
  go_region_with (go_at_call 125; refine k3.out.mono ?_; rintro e w4 ⟨rfl, hA4⟩)
  replace hA4 := hid hA4
  have hx4 := slots_len hf.out .aname he3.out hx3
  clear k3
  go_wp2_with fail
  go_end0
  exact ODo_cons rfl (ODo_cons rfl (ODo_cons he2.out (ODo_cons he3.out (ODo_nil ⟨rfl, hA4.out⟩))))

set_option maxHeartbeats 1600000 in
theorem out_fields_105 (b q : Nat) (m : M) (vN vQ vD : Value) (xs : List UInt8) (w0 w : World) (hA : OA w0 w b q m vN vQ vD xs) (hm : MOk m) (hf : MFew m) (hx : xs.length ≤ 1000) (ht : m.ty = 105) :
    Calls Tryz.prog 52 #[.iface 131 (.pointer (some ⟨b, 0, none⟩)), .pointer (some ⟨q, 0, none⟩)] w (ODo w0 b q m vN vQ vD xs (outs m [.qid])) := by
  have n0 := nil_o_qid
  have m0 := met_o_qid
  have c0 : w.cell? ⟨q, 0, none⟩ = some (.int .u8 105) := by rw [hA.cell 0]; show some (Value.int .u8 (m.ty : Int)) = _; rw [ht]; rfl
  replace hA := hid hA
  replace hm := hid hm
  replace hf := hid hf
  clear ht
  go_enter Tryz.func52, Tryz.ntmps52
  go_wp2_with fail
  have k0 := hid (o_qid b q m vN vQ vD _ w0 w.drew hA.out.drew hm.out hf.out (by omega))
  go_region_with (go_at_call 122; refine k0.out.mono ?_; rintro e w1 ⟨rfl, hA1⟩)
  replace hA1 := hid hA1
  have hx1 := slots_len hf.out .qid rfl hx
  clear k0
  go_wp2_with fail
  go_end0
  exact ODo_cons rfl (ODo_nil ⟨rfl, hA1.out⟩)

set_option maxHeartbeats 1600000 in
theorem out_fields_107 (b q : Nat) (m : M) (vN vQ vD : Value) (xs : List UInt8) (w0 w : World) (hA : OA w0 w b q m vN vQ vD xs) (hm : MOk m) (hf : MFew m) (hx : xs.length ≤ 1000) (ht : m.ty = 107) :
    Calls Tryz.prog 52 #[.iface 131 (.pointer (some ⟨b, 0, none⟩)), .pointer (some ⟨q, 0, none⟩)] w (ODo w0 b q m vN vQ vD xs (outs m [.ename])) := by
  have n0 := nil_o_text
  have m0 := met_o_text
  have c0 : w.cell? ⟨q, 0, none⟩ = some (.int .u8 107) := by rw [hA.cell 0]; show some (Value.int .u8 (m.ty : Int)) = _; rw [ht]; rfl
  replace hA := hid hA
  replace hm := hid hm
  replace hf := hid hf
  clear ht
  go_enter Tryz.func52, Tryz.ntmps52
  go_wp2_with fail
  by_cases he0 : (Slot.o m .ename).1 = 0
  case neg =>
    have k0 := hid (o_ename_bad b q m vN vQ vD _ w0 w.drew hA.out.drew hm.out hf.out (by omega) he0)
    replace he0 := hid he0
    go_region_with (go_at_call 125; refine k0.out.mono ?_; rintro e w1 ⟨rfl, hs0⟩; refine fakeAny ⟨rfl, ODo_bad he0.out ⟨rfl, hs0⟩⟩ ?_)
    all_goals trivial
  have k0 := hid (o_ename b q m vN vQ vD _ w0 w.drew hA.out.drew hm.out hf.out (by omega) he0)
  replace he0 := hid he0
  go_region_with (go_at_call 125; refine k0.out.mono ?_; rintro e w1 ⟨rfl, hA1⟩)
  replace hA1 := hid hA1
  have hx1 := slots_len hf.out .ename he0.out hx
  clear k0
  go_wp2_with fail
  go_end0
  exact ODo_cons he0.out (ODo_nil ⟨rfl, hA1.out⟩)

set_option maxHeartbeats 1600000 in
theorem out_fields_108 (b q : Nat) (m : M) (vN vQ vD : Value) (xs : List UInt8) (w0 w : World) (hA : OA w0 w b q m vN vQ vD xs) (hm : MOk m) (hf : MFew m) (hx : xs.length ≤ 1000) (ht : m.ty = 108) :
    Calls Tryz.prog 52 #[.iface 131 (.pointer (some ⟨b, 0, none⟩)), .pointer (some ⟨q, 0, none⟩)] w (ODo w0 b q m vN vQ vD xs (outs m [.old])) := by
  have n0 := nil_o_u16
  have m0 := met_o_u16
  have c0 : w.cell? ⟨q, 0, none⟩ = some (.int .u8 108) := by rw [hA.cell 0]; show some (Value.int .u8 (m.ty : Int)) = _; rw [ht]; rfl
  replace hA := hid hA
  replace hm := hid hm
  replace hf := hid hf
  clear ht
  go_enter Tryz.func52, Tryz.ntmps52
  go_wp2_with fail
  have k0 := hid (o_old b q m vN vQ vD _ w0 w.drew hA.out.drew hm.out hf.out (by omega))
  go_region_with (go_at_call 70; refine k0.out.mono ?_; rintro e w1 ⟨rfl, hA1⟩)
  replace hA1 := hid hA1
  have hx1 := slots_len hf.out .old rfl hx
  clear k0
  go_wp2_with fail
  go_end0
  exact ODo_cons rfl (ODo_nil ⟨rfl, hA1.out⟩)

set_option maxHeartbeats 1600000 in
theorem out_fields_110 (b q : Nat) (m : M) (vN vQ vD : Value) (xs : List UInt8) (w0 w : World) (hA : OA w0 w b q m vN vQ vD xs) (hm : MOk m) (hf : MFew m) (hx : xs.length ≤ 1000) (ht : m.ty = 110) :
    Calls Tryz.prog 52 #[.iface 131 (.pointer (some ⟨b, 0, none⟩)), .pointer (some ⟨q, 0, none⟩)] w (ODo w0 b q m vN vQ vD xs (outs m [.fid, .new, .names])) := by
  have n0 := nil_o_u32
  have m0 := met_o_u32
  have n1 := nil_o_texts
  have m1 := met_o_texts
  have c0 : w.cell? ⟨q, 0, none⟩ = some (.int .u8 110) := by rw [hA.cell 0]; show some (Value.int .u8 (m.ty : Int)) = _; rw [ht]; rfl
  replace hA := hid hA
  replace hm := hid hm
  replace hf := hid hf
  clear ht
  go_enter Tryz.func52, Tryz.ntmps52
  go_wp2_with fail
  have k0 := hid (o_fid b q m vN vQ vD _ w0 w.drew hA.out.drew hm.out hf.out (by omega))
  go_region_with (go_at_call 127; refine k0.out.mono ?_; rintro e w1 ⟨rfl, hA1⟩)
  replace hA1 := hid hA1
  have hx1 := slots_len hf.out .fid rfl hx
  clear k0
  go_wp2_with fail
  have k1 := hid (o_new b q m vN vQ vD _ w0 w1.drew hA1.out.drew hm.out hf.out (by omega))
  go_region_with (go_at_call 127; refine k1.out.mono ?_; rintro e w2 ⟨rfl, hA2⟩)
  replace hA2 := hid hA2
  have hx2 := slots_len hf.out .new rfl hx1
  clear k1
  go_wp2_with fail
  by_cases he2 : (Slot.o m .names).1 = 0
  case neg =>
    have k2 := hid (o_names_bad b q m vN vQ vD _ w0 w2.drew hA2.out.drew hm.out hf.out (by omega) he2)
    replace he2 := hid he2
    go_region_with (go_at_call 126; refine k2.out.mono ?_; rintro e w3 ⟨rfl, hs2⟩; refine fakeAny ⟨rfl, ODo_cons rfl (ODo_cons rfl (ODo_bad he2.out ⟨rfl, hs2⟩))⟩ ?_)
    all_goals trivial
  have k2 := hid (o_names b q m vN vQ vD _ w0 w2.drew hA2.out.drew hm.out hf.out (by omega) he2)
  replace he2 := hid he2
  go_region_with (go_at_call 126; refine k2.out.mono ?_; rintro e w3 ⟨rfl, hA3⟩)
  replace hA3 := hid hA3
  have hx3 := slots_len hf.out .names he2.out hx2
  clear k2
  go_wp2_with fail
  go_end0
  exact ODo_cons rfl (ODo_cons rfl (ODo_cons he2.out (ODo_nil ⟨rfl, hA3.out⟩)))

set_option maxHeartbeats 1600000 in
theorem out_fields_111 (b q : Nat) (m : M) (vN vQ vD : Value) (xs : List UInt8) (w0 w : World) (hA : OA w0 w b q m vN vQ vD xs) (hm : MOk m) (hf : MFew m) (hx : xs.length ≤ 1000) (ht : m.ty = 111) :
    Calls Tryz.prog 52 #[.iface 131 (.pointer (some ⟨b, 0, none⟩)), .pointer (some ⟨q, 0, none⟩)] w (ODo w0 b q m vN vQ vD xs (outs m [.qids])) := by
  have n0 := nil_o_qids
  have m0 := met_o_qids
  have c0 : w.cell? ⟨q, 0, none⟩ = some (.int .u8 111) := by rw [hA.cell 0]; show some (Value.int .u8 (m.ty : Int)) = _; rw [ht]; rfl
  replace hA := hid hA
  replace hm := hid hm
  replace hf := hid hf
  clear ht
  go_enter Tryz.func52, Tryz.ntmps52
  go_wp2_with fail
  by_cases he0 : (Slot.o m .qids).1 = 0
  case neg =>
    have k0 := hid (o_qids_bad b q m vN vQ vD _ w0 w.drew hA.out.drew hm.out hf.out (by omega) he0)
    replace he0 := hid he0
    go_region_with (go_at_call 123; refine k0.out.mono ?_; rintro e w1 ⟨rfl, hs0⟩; refine fakeAny ⟨rfl, ODo_bad he0.out ⟨rfl, hs0⟩⟩ ?_)
    all_goals trivial
  have k0 := hid (o_qids b q m vN vQ vD _ w0 w.drew hA.out.drew hm.out hf.out (by omega) he0)
  replace he0 := hid he0
  go_region_with (go_at_call 123; refine k0.out.mono ?_; rintro e w1 ⟨rfl, hA1⟩)
  replace hA1 := hid hA1
  have hx1 := slots_len hf.out .qids he0.out hx
  clear k0
  go_wp2_with fail
  go_end0
  exact ODo_cons he0.out (ODo_nil ⟨rfl, hA1.out⟩)
end
end Go.Proofs.YtcbglcebdkpcfaaGreat
