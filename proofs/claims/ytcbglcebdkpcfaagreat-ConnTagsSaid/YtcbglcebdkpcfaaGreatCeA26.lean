/- What a copy of the fields of a message is, and each field along a twin. No condition. And the texts behind it. -/
import Derived.Test.YtcbglcebdkpcfaaGreatCeA25
import Derived.Test.YtcbglcebdkpcfaaGreatCeA08
namespace Go.Proofs.YtcbglcebdkpcfaaGreat
section
open Go.RowKit
set_option maxRecDepth 100000
set_option linter.unusedVariables false

structure MV where
  m : M
  n : Value
  q : Value
  d : Value
def MV.cells (x : MV) : Array Value := x.m.cells x.n x.q x.d
def MV.Ok (x : MV) : Prop := (∃ a n k, x.n = .slice a n k) ∧ (∃ a n k, x.q = .slice a n k) ∧ (∃ a n k, x.d = .slice a n k)
def Slot.copy (a x : MV) : Slot → MV
  | .msize => { x with m := { x.m with msize := a.m.msize } }
  | .version => { x with m := { x.m with version := a.m.version } }
  | .fid => { x with m := { x.m with fid := a.m.fid } }
  | .afid => { x with m := { x.m with afid := a.m.afid } }
  | .new => { x with m := { x.m with new := a.m.new } }
  | .uname => { x with m := { x.m with uname := a.m.uname } }
  | .aname => { x with m := { x.m with aname := a.m.aname } }
  | .ename => { x with m := { x.m with ename := a.m.ename } }
  | .old => { x with m := { x.m with old := a.m.old } }
  | .names => { x with m := { x.m with names := a.m.names }, n := a.n }
  | .qids => { x with m := { x.m with qids := a.m.qids }, q := a.q }
  | .qid => { x with m := { x.m with qid := a.m.qid } }
  | .iounit => { x with m := { x.m with iounit := a.m.iounit } }
  | .mode => { x with m := { x.m with mode := a.m.mode } }
  | .perm => { x with m := { x.m with perm := a.m.perm } }
  | .name => { x with m := { x.m with name := a.m.name } }
  | .offset => { x with m := { x.m with offset := a.m.offset } }
  | .count => { x with m := { x.m with count := a.m.count } }
  | .data => { x with m := { x.m with data := a.m.data }, d := a.d }
  | .stat => { x with m := { x.m with stat := a.m.stat } }
def copies (a : MV) : List Slot → MV → MV
  | [], x => x
  | s :: ss, x => copies a ss (s.copy a x)
def ns32 (m : M) : Nat → Nat := fun o => if o = 2 then m.msize else if o = 4 then m.fid else if o = 5 then m.afid else if o = 6 then m.new else if o = 16 then m.iounit else if o = 18 then m.perm else m.count
def nsT (m : M) : Nat → ByteArray := fun o => if o = 3 then m.version else if o = 7 then m.uname else if o = 8 then m.aname else if o = 9 then m.ename else m.name
theorem ns32_ok (a : MV) : ∀ (o k : Nat), offs32[k]? = some o → a.cells[o]? = some (Value.int .u32 (ns32 a.m o : Int)) := by
  intro o k h
  match k, h with
  | 0, h => cases h; rfl
  | 1, h => cases h; rfl
  | 2, h => cases h; rfl
  | 3, h => cases h; rfl
  | 4, h => cases h; rfl
  | 5, h => cases h; rfl
  | 6, h => cases h; rfl
  | k + 7, h => simp [offs32] at h
theorem nsT_ok (a : MV) : ∀ (o k : Nat), offsT[k]? = some o → a.cells[o]? = some (Value.string (nsT a.m o)) := by
  intro o k h
  match k, h with
  | 0, h => cases h; rfl
  | 1, h => cases h; rfl
  | 2, h => cases h; rfl
  | 3, h => cases h; rfl
  | 4, h => cases h; rfl
  | k + 5, h => simp [offsT] at h
def TA (w0 w : World) (t qm qx : Nat) (a x : MV) : Prop := TwAt w0 w t qm qx a.cells x.cells
def TGood (w0 : World) (t qm qx : Nat) (a x : MV) (e : Ending) (w' : World) : Prop := e = .returned (.tuple #[]) ∧ TA w0 w' t qm qx a x
theorem TA.drew {w0 w : World} {t qm qx : Nat} {a x : MV} (h : TA w0 w t qm qx a x) : TA w0 w.drew t qm qx a x := TwAt.drew h
theorem t_msize (t qm qx : Nat) (a x : MV) (w0 w : World) (hA : TA w0 w t qm qx a x) (hok : a.Ok) :
    Calls Tryz.prog 117 #[.pointer (some ⟨t, 0, none⟩), .pointer (some ⟨qx, 2, none⟩)] w (TGood w0 t qm qx a (Slot.copy a x .msize)) := by
  refine (twin_u32 t qm qx 2 0 a.cells x.cells (ns32 a.m) w0 w hA (by omega) rfl (ns32_ok a) _ rfl).mono ?_
  rintro e w1 ⟨rfl, h1⟩
  exact ⟨rfl, h1⟩
theorem t_version (t qm qx : Nat) (a x : MV) (w0 w : World) (hA : TA w0 w t qm qx a x) (hok : a.Ok) :
    Calls Tryz.prog 114 #[.pointer (some ⟨t, 0, none⟩), .pointer (some ⟨qx, 3, none⟩)] w (TGood w0 t qm qx a (Slot.copy a x .version)) := by
  refine (twin_text t qm qx 3 0 a.cells x.cells (nsT a.m) w0 w hA (by omega) rfl (nsT_ok a) _ rfl).mono ?_
  rintro e w1 ⟨rfl, h1⟩
  exact ⟨rfl, h1⟩
theorem t_fid (t qm qx : Nat) (a x : MV) (w0 w : World) (hA : TA w0 w t qm qx a x) (hok : a.Ok) :
    Calls Tryz.prog 117 #[.pointer (some ⟨t, 0, none⟩), .pointer (some ⟨qx, 4, none⟩)] w (TGood w0 t qm qx a (Slot.copy a x .fid)) := by
  refine (twin_u32 t qm qx 4 1 a.cells x.cells (ns32 a.m) w0 w hA (by omega) rfl (ns32_ok a) _ rfl).mono ?_
  rintro e w1 ⟨rfl, h1⟩
  exact ⟨rfl, h1⟩
theorem t_afid (t qm qx : Nat) (a x : MV) (w0 w : World) (hA : TA w0 w t qm qx a x) (hok : a.Ok) :
    Calls Tryz.prog 117 #[.pointer (some ⟨t, 0, none⟩), .pointer (some ⟨qx, 5, none⟩)] w (TGood w0 t qm qx a (Slot.copy a x .afid)) := by
  refine (twin_u32 t qm qx 5 2 a.cells x.cells (ns32 a.m) w0 w hA (by omega) rfl (ns32_ok a) _ rfl).mono ?_
  rintro e w1 ⟨rfl, h1⟩
  exact ⟨rfl, h1⟩
theorem t_new (t qm qx : Nat) (a x : MV) (w0 w : World) (hA : TA w0 w t qm qx a x) (hok : a.Ok) :
    Calls Tryz.prog 117 #[.pointer (some ⟨t, 0, none⟩), .pointer (some ⟨qx, 6, none⟩)] w (TGood w0 t qm qx a (Slot.copy a x .new)) := by
  refine (twin_u32 t qm qx 6 3 a.cells x.cells (ns32 a.m) w0 w hA (by omega) rfl (ns32_ok a) _ rfl).mono ?_
  rintro e w1 ⟨rfl, h1⟩
  exact ⟨rfl, h1⟩
theorem t_uname (t qm qx : Nat) (a x : MV) (w0 w : World) (hA : TA w0 w t qm qx a x) (hok : a.Ok) :
    Calls Tryz.prog 114 #[.pointer (some ⟨t, 0, none⟩), .pointer (some ⟨qx, 7, none⟩)] w (TGood w0 t qm qx a (Slot.copy a x .uname)) := by
  refine (twin_text t qm qx 7 1 a.cells x.cells (nsT a.m) w0 w hA (by omega) rfl (nsT_ok a) _ rfl).mono ?_
  rintro e w1 ⟨rfl, h1⟩
  exact ⟨rfl, h1⟩
theorem t_aname (t qm qx : Nat) (a x : MV) (w0 w : World) (hA : TA w0 w t qm qx a x) (hok : a.Ok) :
    Calls Tryz.prog 114 #[.pointer (some ⟨t, 0, none⟩), .pointer (some ⟨qx, 8, none⟩)] w (TGood w0 t qm qx a (Slot.copy a x .aname)) := by
  refine (twin_text t qm qx 8 2 a.cells x.cells (nsT a.m) w0 w hA (by omega) rfl (nsT_ok a) _ rfl).mono ?_
  rintro e w1 ⟨rfl, h1⟩
  exact ⟨rfl, h1⟩
theorem t_ename (t qm qx : Nat) (a x : MV) (w0 w : World) (hA : TA w0 w t qm qx a x) (hok : a.Ok) :
    Calls Tryz.prog 114 #[.pointer (some ⟨t, 0, none⟩), .pointer (some ⟨qx, 9, none⟩)] w (TGood w0 t qm qx a (Slot.copy a x .ename)) := by
  refine (twin_text t qm qx 9 3 a.cells x.cells (nsT a.m) w0 w hA (by omega) rfl (nsT_ok a) _ rfl).mono ?_
  rintro e w1 ⟨rfl, h1⟩
  exact ⟨rfl, h1⟩
theorem t_old (t qm qx : Nat) (a x : MV) (w0 w : World) (hA : TA w0 w t qm qx a x) (hok : a.Ok) :
    Calls Tryz.prog 116 #[.pointer (some ⟨t, 0, none⟩), .pointer (some ⟨qx, 10, none⟩)] w (TGood w0 t qm qx a (Slot.copy a x .old)) := by
  refine (twin_u16 t qm qx 10 a.cells x.cells a.m.old _ w0 w hA rfl rfl).mono ?_
  rintro e w1 ⟨rfl, h1⟩
  exact ⟨rfl, h1⟩
theorem t_names (t qm qx : Nat) (a x : MV) (w0 w : World) (hA : TA w0 w t qm qx a x) (hok : a.Ok) :
    Calls Tryz.prog 115 #[.pointer (some ⟨t, 0, none⟩), .pointer (some ⟨qx, 11, none⟩)] w (TGood w0 t qm qx a (Slot.copy a x .names)) := by
  obtain ⟨ad, nn, kk, he⟩ := hok.1
  refine (twin_texts t qm qx 11 a.cells x.cells ad nn kk _ w0 w hA (by show some a.n = _; rw [he]) rfl).mono ?_
  rintro e w1 ⟨rfl, h1⟩
  rw [← he] at h1
  exact ⟨rfl, h1⟩
theorem t_qids (t qm qx : Nat) (a x : MV) (w0 w : World) (hA : TA w0 w t qm qx a x) (hok : a.Ok) :
    Calls Tryz.prog 112 #[.pointer (some ⟨t, 0, none⟩), .pointer (some ⟨qx, 12, none⟩)] w (TGood w0 t qm qx a (Slot.copy a x .qids)) := by
  obtain ⟨ad, nn, kk, he⟩ := hok.2.1
  refine (twin_qids t qm qx 12 a.cells x.cells ad nn kk _ w0 w hA (by show some a.q = _; rw [he]) rfl).mono ?_
  rintro e w1 ⟨rfl, h1⟩
  rw [← he] at h1
  exact ⟨rfl, h1⟩
theorem t_qid (t qm qx : Nat) (a x : MV) (w0 w : World) (hA : TA w0 w t qm qx a x) (hok : a.Ok) :
    Calls Tryz.prog 111 #[.pointer (some ⟨t, 0, none⟩), .pointer (some ⟨qx, 13, none⟩)] w (TGood w0 t qm qx a (Slot.copy a x .qid)) := by
  refine (twin_qid t qm qx 13 a.cells x.cells a.m.qid.t a.m.qid.v a.m.qid.p _ _ _ w0 w hA ⟨rfl, rfl, rfl⟩ ⟨rfl, rfl, rfl⟩).mono ?_
  rintro e w1 ⟨rfl, h1⟩
  exact ⟨rfl, h1⟩
theorem t_iounit (t qm qx : Nat) (a x : MV) (w0 w : World) (hA : TA w0 w t qm qx a x) (hok : a.Ok) :
    Calls Tryz.prog 117 #[.pointer (some ⟨t, 0, none⟩), .pointer (some ⟨qx, 16, none⟩)] w (TGood w0 t qm qx a (Slot.copy a x .iounit)) := by
  refine (twin_u32 t qm qx 16 4 a.cells x.cells (ns32 a.m) w0 w hA (by omega) rfl (ns32_ok a) _ rfl).mono ?_
  rintro e w1 ⟨rfl, h1⟩
  exact ⟨rfl, h1⟩
theorem t_mode (t qm qx : Nat) (a x : MV) (w0 w : World) (hA : TA w0 w t qm qx a x) (hok : a.Ok) :
    Calls Tryz.prog 119 #[.pointer (some ⟨t, 0, none⟩), .pointer (some ⟨qx, 17, none⟩)] w (TGood w0 t qm qx a (Slot.copy a x .mode)) := by
  refine (twin_u8 t qm qx 17 a.cells x.cells a.m.mode _ w0 w hA rfl rfl).mono ?_
  rintro e w1 ⟨rfl, h1⟩
  exact ⟨rfl, h1⟩
theorem t_perm (t qm qx : Nat) (a x : MV) (w0 w : World) (hA : TA w0 w t qm qx a x) (hok : a.Ok) :
    Calls Tryz.prog 117 #[.pointer (some ⟨t, 0, none⟩), .pointer (some ⟨qx, 18, none⟩)] w (TGood w0 t qm qx a (Slot.copy a x .perm)) := by
  refine (twin_u32 t qm qx 18 5 a.cells x.cells (ns32 a.m) w0 w hA (by omega) rfl (ns32_ok a) _ rfl).mono ?_
  rintro e w1 ⟨rfl, h1⟩
  exact ⟨rfl, h1⟩
theorem t_name (t qm qx : Nat) (a x : MV) (w0 w : World) (hA : TA w0 w t qm qx a x) (hok : a.Ok) :
    Calls Tryz.prog 114 #[.pointer (some ⟨t, 0, none⟩), .pointer (some ⟨qx, 19, none⟩)] w (TGood w0 t qm qx a (Slot.copy a x .name)) := by
  refine (twin_text t qm qx 19 4 a.cells x.cells (nsT a.m) w0 w hA (by omega) rfl (nsT_ok a) _ rfl).mono ?_
  rintro e w1 ⟨rfl, h1⟩
  exact ⟨rfl, h1⟩
theorem t_offset (t qm qx : Nat) (a x : MV) (w0 w : World) (hA : TA w0 w t qm qx a x) (hok : a.Ok) :
    Calls Tryz.prog 118 #[.pointer (some ⟨t, 0, none⟩), .pointer (some ⟨qx, 20, none⟩)] w (TGood w0 t qm qx a (Slot.copy a x .offset)) := by
  refine (twin_u64 t qm qx 20 a.cells x.cells a.m.offset _ w0 w hA rfl rfl).mono ?_
  rintro e w1 ⟨rfl, h1⟩
  exact ⟨rfl, h1⟩
theorem t_count (t qm qx : Nat) (a x : MV) (w0 w : World) (hA : TA w0 w t qm qx a x) (hok : a.Ok) :
    Calls Tryz.prog 117 #[.pointer (some ⟨t, 0, none⟩), .pointer (some ⟨qx, 21, none⟩)] w (TGood w0 t qm qx a (Slot.copy a x .count)) := by
  refine (twin_u32 t qm qx 21 6 a.cells x.cells (ns32 a.m) w0 w hA (by omega) rfl (ns32_ok a) _ rfl).mono ?_
  rintro e w1 ⟨rfl, h1⟩
  exact ⟨rfl, h1⟩
theorem t_data (t qm qx : Nat) (a x : MV) (w0 w : World) (hA : TA w0 w t qm qx a x) (hok : a.Ok) :
    Calls Tryz.prog 110 #[.pointer (some ⟨t, 0, none⟩), .pointer (some ⟨qx, 22, none⟩)] w (TGood w0 t qm qx a (Slot.copy a x .data)) := by
  obtain ⟨ad, nn, kk, he⟩ := hok.2.2
  refine (twin_data t qm qx 22 a.cells x.cells ad nn kk _ w0 w hA (by show some a.d = _; rw [he]) rfl).mono ?_
  rintro e w1 ⟨rfl, h1⟩
  rw [← he] at h1
  exact ⟨rfl, h1⟩
theorem t_stat (t qm qx : Nat) (a x : MV) (w0 w : World) (hA : TA w0 w t qm qx a x) (hok : a.Ok) :
    Calls Tryz.prog 113 #[.pointer (some ⟨t, 0, none⟩), .pointer (some ⟨qx, 23, none⟩)] w (TGood w0 t qm qx a (Slot.copy a x .stat)) := by
  refine (twin_stat t qm qx 23 a.cells x.cells a.m.stat.kind a.m.stat.dev a.m.stat.qt a.m.stat.qv a.m.stat.qp a.m.stat.mode a.m.stat.atm a.m.stat.mtm a.m.stat.len a.m.stat.name a.m.stat.uid a.m.stat.gid a.m.stat.muid _ _ _ _ _ _ _ _ _ _ _ _ _ w0 w hA ⟨rfl, rfl, rfl, rfl, rfl, rfl, rfl, rfl, rfl, rfl, rfl, rfl, rfl⟩ ⟨rfl, rfl, rfl, rfl, rfl, rfl, rfl, rfl, rfl, rfl, rfl, rfl, rfl⟩).mono ?_
  rintro e w1 ⟨rfl, rfl⟩
  obtain ⟨s, hs⟩ : ∃ s, s = a.m.stat := ⟨_, rfl⟩
  rw [← hs]
  have e1 : put13 w qx 23 ⟨s.kind, s.dev, s.qt, s.qv, s.qp, s.mode, s.atm, s.mtm, s.len, s.name, s.uid, s.gid, s.muid⟩ = put w qx 23 [.int .u16 (s.kind : Int), .int .u32 (s.dev : Int), .int .u8 (s.qt : Int), .int .u32 (s.qv : Int), .int .u64 (s.qp : Int), .int .u32 (s.mode : Int), .int .u32 (s.atm : Int), .int .u32 (s.mtm : Int), .int .u64 (s.len : Int), .string s.name, .string s.uid, .string s.gid, .string s.muid] := rfl
  rw [e1]
  exact ⟨rfl, (put_other hA.ne.2 _ _ _).trans hA.tw, (put_other hA.ne.1 _ _ _).trans hA.mb, by rw [put_block _ 23 _ _ hA.xb rfl, hs]; rfl, hA.ne, fun k hk => put_below hk _ _ _ _ (hA.below k hk)⟩
end
end Go.Proofs.YtcbglcebdkpcfaaGreat

namespace Go.Proofs.YtcbglcebdkpcfaaGreat
section
open Go.RowKit
set_option maxRecDepth 100000
set_option linter.unusedVariables false

set_option maxHeartbeats 1600000 in
theorem tw_fields_100 (t qm qx : Nat) (a x : MV) (w0 w : World) (hA : TA w0 w t qm qx a x) (hok : a.Ok) (ht : x.m.ty = 100) :
    Calls Tryz.prog 52 #[.iface 107 (.pointer (some ⟨t, 0, none⟩)), .pointer (some ⟨qx, 0, none⟩)] w (TGood w0 t qm qx a (copies a [.msize, .version] x)) := by
  have n0 := nil_t_u32
  have m0 := met_t_u32
  have n1 := nil_t_text
  have m1 := met_t_text
  have c0 : w.cell? ⟨qx, 0, none⟩ = some (.int .u8 100) := by rw [block_cell hA.xb 0]; show some (Value.int .u8 (x.m.ty : Int)) = _; rw [ht]; rfl
  replace hA := hid hA
  replace hok := hid hok
  clear ht
  go_enter Tryz.func52, Tryz.ntmps52
  go_wp2_with fail
  have k0 := hid (t_msize t qm qx a _ w0 w.drew hA.out.drew hok.out)
  go_region_with (go_at_call 117; refine k0.out.mono ?_; rintro e w1 ⟨rfl, hA1⟩)
  replace hA1 := hid hA1
  clear k0
  go_wp2_with fail
  have k1 := hid (t_version t qm qx a _ w0 w1.drew hA1.out.drew hok.out)
  go_region_with (go_at_call 114; refine k1.out.mono ?_; rintro e w2 ⟨rfl, hA2⟩)
  replace hA2 := hid hA2
  clear k1
  go_wp2_with fail
  go_end0
  exact ⟨rfl, hA2.out⟩

set_option maxHeartbeats 1600000 in
theorem tw_fields_101 (t qm qx : Nat) (a x : MV) (w0 w : World) (hA : TA w0 w t qm qx a x) (hok : a.Ok) (ht : x.m.ty = 101) :
    Calls Tryz.prog 52 #[.iface 107 (.pointer (some ⟨t, 0, none⟩)), .pointer (some ⟨qx, 0, none⟩)] w (TGood w0 t qm qx a (copies a [.msize, .version] x)) := by
  have n0 := nil_t_u32
  have m0 := met_t_u32
  have n1 := nil_t_text
  have m1 := met_t_text
  have c0 : w.cell? ⟨qx, 0, none⟩ = some (.int .u8 101) := by rw [block_cell hA.xb 0]; show some (Value.int .u8 (x.m.ty : Int)) = _; rw [ht]; rfl
  replace hA := hid hA
  replace hok := hid hok
  clear ht
  go_enter Tryz.func52, Tryz.ntmps52
  go_wp2_with fail
  have k0 := hid (t_msize t qm qx a _ w0 w.drew hA.out.drew hok.out)
  go_region_with (go_at_call 117; refine k0.out.mono ?_; rintro e w1 ⟨rfl, hA1⟩)
  replace hA1 := hid hA1
  clear k0
  go_wp2_with fail
  have k1 := hid (t_version t qm qx a _ w0 w1.drew hA1.out.drew hok.out)
  go_region_with (go_at_call 114; refine k1.out.mono ?_; rintro e w2 ⟨rfl, hA2⟩)
  replace hA2 := hid hA2
  clear k1
  go_wp2_with fail
  go_end0
  exact ⟨rfl, hA2.out⟩

set_option maxHeartbeats 1600000 in
theorem tw_fields_102 (t qm qx : Nat) (a x : MV) (w0 w : World) (hA : TA w0 w t qm qx a x) (hok : a.Ok) (ht : x.m.ty = 102) :
    Calls Tryz.prog 52 #[.iface 107 (.pointer (some ⟨t, 0, none⟩)), .pointer (some ⟨qx, 0, none⟩)] w (TGood w0 t qm qx a (copies a [.afid, .uname, .aname] x)) := by
  have n0 := nil_t_u32
  have m0 := met_t_u32
  have n1 := nil_t_text
  have m1 := met_t_text
  have c0 : w.cell? ⟨qx, 0, none⟩ = some (.int .u8 102) := by rw [block_cell hA.xb 0]; show some (Value.int .u8 (x.m.ty : Int)) = _; rw [ht]; rfl
  replace hA := hid hA
  replace hok := hid hok
  clear ht
  go_enter Tryz.func52, Tryz.ntmps52
  go_wp2_with fail
  have k0 := hid (t_afid t qm qx a _ w0 w.drew hA.out.drew hok.out)
  go_region_with (go_at_call 117; refine k0.out.mono ?_; rintro e w1 ⟨rfl, hA1⟩)
  replace hA1 := hid hA1
  clear k0
  go_wp2_with fail
  have k1 := hid (t_uname t qm qx a _ w0 w1.drew hA1.out.drew hok.out)
  go_region_with (go_at_call 114; refine k1.out.mono ?_; rintro e w2 ⟨rfl, hA2⟩)
  replace hA2 := hid hA2
  clear k1
  go_wp2_with fail
  have k2 := hid (t_aname t qm qx a _ w0 w2.drew hA2.out.drew hok.out)
  go_region_with (go_at_call 114; refine k2.out.mono ?_; rintro e w3 ⟨rfl, hA3⟩)
  replace hA3 := hid hA3
  clear k2
  go_wp2_with fail
  go_end0
  exact ⟨rfl, hA3.out⟩

set_option maxHeartbeats 1600000 in
theorem tw_fields_103 (t qm qx : Nat) (a x : MV) (w0 w : World) (hA : TA w0 w t qm qx a x) (hok : a.Ok) (ht : x.m.ty = 103) :
    Calls Tryz.prog 52 #[.iface 107 (.pointer (some ⟨t, 0, none⟩)), .pointer (some ⟨qx, 0, none⟩)] w (TGood w0 t qm qx a (copies a [.qid] x)) := by
  have n0 := nil_t_qid
  have m0 := met_t_qid
  have c0 : w.cell? ⟨qx, 0, none⟩ = some (.int .u8 103) := by rw [block_cell hA.xb 0]; show some (Value.int .u8 (x.m.ty : Int)) = _; rw [ht]; rfl
  replace hA := hid hA
  replace hok := hid hok
  clear ht
  go_enter Tryz.func52, Tryz.ntmps52
  go_wp2_with fail
  have k0 := hid (t_qid t qm qx a _ w0 w.drew hA.out.drew hok.out)
  go_region_with (go_at_call 111; refine k0.out.mono ?_; rintro e w1 ⟨rfl, hA1⟩)
  replace hA1 := hid hA1
  clear k0
  go_wp2_with fail
  go_end0
  exact ⟨rfl, hA1.out⟩

set_option maxHeartbeats 1600000 in
theorem tw_fields_104 (t qm qx : Nat) (a x : MV) (w0 w : World) (hA : TA w0 w t qm qx a x) (hok : a.Ok) (ht : x.m.ty = 104) :
    Calls Tryz.prog 52 #[.iface 107 (.pointer (some ⟨t, 0, none⟩)), .pointer (some ⟨qx, 0, none⟩)] w (TGood w0 t qm qx a (copies a [.fid, .afid, .uname, .aname] x)) := by
  have n0 := nil_t_u32
  have m0 := met_t_u32
  have n1 := nil_t_text
  have m1 := met_t_text
  have c0 : w.cell? ⟨qx, 0, none⟩ = some (.int .u8 104) := by rw [block_cell hA.xb 0]; show some (Value.int .u8 (x.m.ty : Int)) = _; rw [ht]; rfl
  replace hA := hid hA
  replace hok := hid hok
  clear ht
  go_enter Tryz.func52, Tryz.ntmps52
  go_wp2_with fail
  have k0 := hid (t_fid t qm qx a _ w0 w.drew hA.out.drew hok.out)
  go_region_with (go_at_call 117; refine k0.out.mono ?_; rintro e w1 ⟨rfl, hA1⟩)
  replace hA1 := hid hA1
  clear k0
  go_wp2_with fail
  have k1 := hid (t_afid t qm qx a _ w0 w1.drew hA1.out.drew hok.out)
  go_region_with (go_at_call 117; refine k1.out.mono ?_; rintro e w2 ⟨rfl, hA2⟩)
  replace hA2 := hid hA2
  clear k1
  go_wp2_with fail
  have k2 := hid (t_uname t qm qx a _ w0 w2.drew hA2.out.drew hok.out)
  go_region_with (go_at_call 114; refine k2.out.mono ?_; rintro e w3 ⟨rfl, hA3⟩)
  replace hA3 := hid hA3
  clear k2
  go_wp2_with fail
  have k3 := hid (t_aname t qm qx a _ w0 w3.drew hA3.out.drew hok.out)
  go_region_with (go_at_call 114; refine k3.out.mono ?_; rintro e w4 ⟨rfl, hA4⟩)
  replace hA4 := hid hA4
  clear k3
  go_wp2_with fail
  go_end0
  exact ⟨rfl, hA4.out⟩

set_option maxHeartbeats 1600000 in
theorem tw_fields_105 (t qm qx : Nat) (a x : MV) (w0 w : World) (hA : TA w0 w t qm qx a x) (hok : a.Ok) (ht : x.m.ty = 105) :
    Calls Tryz.prog 52 #[.iface 107 (.pointer (some ⟨t, 0, none⟩)), .pointer (some ⟨qx, 0, none⟩)] w (TGood w0 t qm qx a (copies a [.qid] x)) := by
  have n0 := nil_t_qid
  have m0 := met_t_qid
  have c0 : w.cell? ⟨qx, 0, none⟩ = some (.int .u8 105) := by rw [block_cell hA.xb 0]; show some (Value.int .u8 (x.m.ty : Int)) = _; rw [ht]; rfl
  replace hA := hid hA
  replace hok := hid hok
  clear ht
  go_enter Tryz.func52, Tryz.ntmps52
  go_wp2_with fail
  have k0 := hid (t_qid t qm qx a _ w0 w.drew hA.out.drew hok.out)
  go_region_with (go_at_call 111; refine k0.out.mono ?_; rintro e w1 ⟨rfl, hA1⟩)
  replace hA1 := hid hA1
  clear k0
  go_wp2_with fail
  go_end0
  exact ⟨rfl, hA1.out⟩

set_option maxHeartbeats 1600000 in
theorem tw_fields_107 (t qm qx : Nat) (a x : MV) (w0 w : World) (hA : TA w0 w t qm qx a x) (hok : a.Ok) (ht : x.m.ty = 107) :
    Calls Tryz.prog 52 #[.iface 107 (.pointer (some ⟨t, 0, none⟩)), .pointer (some ⟨qx, 0, none⟩)] w (TGood w0 t qm qx a (copies a [.ename] x)) := by
  have n0 := nil_t_text
  have m0 := met_t_text
  have c0 : w.cell? ⟨qx, 0, none⟩ = some (.int .u8 107) := by rw [block_cell hA.xb 0]; show some (Value.int .u8 (x.m.ty : Int)) = _; rw [ht]; rfl
  replace hA := hid hA
  replace hok := hid hok
  clear ht
  go_enter Tryz.func52, Tryz.ntmps52
  go_wp2_with fail
  have k0 := hid (t_ename t qm qx a _ w0 w.drew hA.out.drew hok.out)
  go_region_with (go_at_call 114; refine k0.out.mono ?_; rintro e w1 ⟨rfl, hA1⟩)
  replace hA1 := hid hA1
  clear k0
  go_wp2_with fail
  go_end0
  exact ⟨rfl, hA1.out⟩

set_option maxHeartbeats 1600000 in
theorem tw_fields_108 (t qm qx : Nat) (a x : MV) (w0 w : World) (hA : TA w0 w t qm qx a x) (hok : a.Ok) (ht : x.m.ty = 108) :
    Calls Tryz.prog 52 #[.iface 107 (.pointer (some ⟨t, 0, none⟩)), .pointer (some ⟨qx, 0, none⟩)] w (TGood w0 t qm qx a (copies a [.old] x)) := by
  have n0 := nil_t_u16
  have m0 := met_t_u16
  have c0 : w.cell? ⟨qx, 0, none⟩ = some (.int .u8 108) := by rw [block_cell hA.xb 0]; show some (Value.int .u8 (x.m.ty : Int)) = _; rw [ht]; rfl
  replace hA := hid hA
  replace hok := hid hok
  clear ht
  go_enter Tryz.func52, Tryz.ntmps52
  go_wp2_with fail
  have k0 := hid (t_old t qm qx a _ w0 w.drew hA.out.drew hok.out)
  go_region_with (go_at_call 116; refine k0.out.mono ?_; rintro e w1 ⟨rfl, hA1⟩)
  replace hA1 := hid hA1
  clear k0
  go_wp2_with fail
  go_end0
  exact ⟨rfl, hA1.out⟩

set_option maxHeartbeats 1600000 in
theorem tw_fields_110 (t qm qx : Nat) (a x : MV) (w0 w : World) (hA : TA w0 w t qm qx a x) (hok : a.Ok) (ht : x.m.ty = 110) :
    Calls Tryz.prog 52 #[.iface 107 (.pointer (some ⟨t, 0, none⟩)), .pointer (some ⟨qx, 0, none⟩)] w (TGood w0 t qm qx a (copies a [.fid, .new, .names] x)) := by
  have n0 := nil_t_u32
  have m0 := met_t_u32
  have n1 := nil_t_texts
  have m1 := met_t_texts
  have c0 : w.cell? ⟨qx, 0, none⟩ = some (.int .u8 110) := by rw [block_cell hA.xb 0]; show some (Value.int .u8 (x.m.ty : Int)) = _; rw [ht]; rfl
  replace hA := hid hA
  replace hok := hid hok
  clear ht
  go_enter Tryz.func52, Tryz.ntmps52
  go_wp2_with fail
  have k0 := hid (t_fid t qm qx a _ w0 w.drew hA.out.drew hok.out)
  go_region_with (go_at_call 117; refine k0.out.mono ?_; rintro e w1 ⟨rfl, hA1⟩)
  replace hA1 := hid hA1
  clear k0
  go_wp2_with fail
  have k1 := hid (t_new t qm qx a _ w0 w1.drew hA1.out.drew hok.out)
  go_region_with (go_at_call 117; refine k1.out.mono ?_; rintro e w2 ⟨rfl, hA2⟩)
  replace hA2 := hid hA2
  clear k1
  go_wp2_with fail
  have k2 := hid (t_names t qm qx a _ w0 w2.drew hA2.out.drew hok.out)
  go_region_with (go_at_call 115; refine k2.out.mono ?_; rintro e w3 ⟨rfl, hA3⟩)
  replace hA3 := hid hA3
  clear k2
  go_wp2_with fail
  go_end0
  exact ⟨rfl, hA3.out⟩

set_option maxHeartbeats 1600000 in
theorem tw_fields_111 (t qm qx : Nat) (a x : MV) (w0 w : World) (hA : TA w0 w t qm qx a x) (hok : a.Ok) (ht : x.m.ty = 111) :
    Calls Tryz.prog 52 #[.iface 107 (.pointer (some ⟨t, 0, none⟩)), .pointer (some ⟨qx, 0, none⟩)] w (TGood w0 t qm qx a (copies a [.qids] x)) := by
  have n0 := nil_t_qids
  have m0 := met_t_qids
  have c0 : w.cell? ⟨qx, 0, none⟩ = some (.int .u8 111) := by rw [block_cell hA.xb 0]; show some (Value.int .u8 (x.m.ty : Int)) = _; rw [ht]; rfl
  replace hA := hid hA
  replace hok := hid hok
  clear ht
  go_enter Tryz.func52, Tryz.ntmps52
  go_wp2_with fail
  have k0 := hid (t_qids t qm qx a _ w0 w.drew hA.out.drew hok.out)
  go_region_with (go_at_call 112; refine k0.out.mono ?_; rintro e w1 ⟨rfl, hA1⟩)
  replace hA1 := hid hA1
  clear k0
  go_wp2_with fail
  go_end0
  exact ⟨rfl, hA1.out⟩
end
end Go.Proofs.YtcbglcebdkpcfaaGreat

namespace Go.Proofs.YtcbglcebdkpcfaaGreat
section
open Go.RowKit
set_option maxRecDepth 100000
set_option linter.unusedVariables false

set_option maxHeartbeats 1600000 in
theorem tw_files_112 (t qm qx : Nat) (a x : MV) (w0 w : World) (hA : TA w0 w t qm qx a x) (hok : a.Ok) (ht : x.m.ty = 112) :
    Calls Tryz.prog 74 #[.iface 107 (.pointer (some ⟨t, 0, none⟩)), .pointer (some ⟨qx, 0, none⟩)] w (TGood w0 t qm qx a (copies a [.fid, .mode] x)) := by
  have n0 := nil_t_u32
  have m0 := met_t_u32
  have n1 := nil_t_u8
  have m1 := met_t_u8
  have c0 : w.cell? ⟨qx, 0, none⟩ = some (.int .u8 112) := by rw [block_cell hA.xb 0]; show some (Value.int .u8 (x.m.ty : Int)) = _; rw [ht]; rfl
  replace hA := hid hA
  replace hok := hid hok
  clear ht
  go_enter Tryz.func74, Tryz.ntmps74
  go_wp2_with fail
  have k0 := hid (t_fid t qm qx a _ w0 w.drew hA.out.drew hok.out)
  go_region_with (go_at_call 117; refine k0.out.mono ?_; rintro e w1 ⟨rfl, hA1⟩)
  replace hA1 := hid hA1
  clear k0
  go_wp2_with fail
  have k1 := hid (t_mode t qm qx a _ w0 w1.drew hA1.out.drew hok.out)
  go_region_with (go_at_call 119; refine k1.out.mono ?_; rintro e w2 ⟨rfl, hA2⟩)
  replace hA2 := hid hA2
  clear k1
  go_wp2_with fail
  go_end0
  exact ⟨rfl, hA2.out⟩

set_option maxHeartbeats 1600000 in
theorem tw_files_113 (t qm qx : Nat) (a x : MV) (w0 w : World) (hA : TA w0 w t qm qx a x) (hok : a.Ok) (ht : x.m.ty = 113) :
    Calls Tryz.prog 74 #[.iface 107 (.pointer (some ⟨t, 0, none⟩)), .pointer (some ⟨qx, 0, none⟩)] w (TGood w0 t qm qx a (copies a [.qid, .iounit] x)) := by
  have n0 := nil_t_qid
  have m0 := met_t_qid
  have n1 := nil_t_u32
  have m1 := met_t_u32
  have c0 : w.cell? ⟨qx, 0, none⟩ = some (.int .u8 113) := by rw [block_cell hA.xb 0]; show some (Value.int .u8 (x.m.ty : Int)) = _; rw [ht]; rfl
  replace hA := hid hA
  replace hok := hid hok
  clear ht
  go_enter Tryz.func74, Tryz.ntmps74
  go_wp2_with fail
  have k0 := hid (t_qid t qm qx a _ w0 w.drew hA.out.drew hok.out)
  go_region_with (go_at_call 111; refine k0.out.mono ?_; rintro e w1 ⟨rfl, hA1⟩)
  replace hA1 := hid hA1
  clear k0
  go_wp2_with fail
  have k1 := hid (t_iounit t qm qx a _ w0 w1.drew hA1.out.drew hok.out)
  go_region_with (go_at_call 117; refine k1.out.mono ?_; rintro e w2 ⟨rfl, hA2⟩)
  replace hA2 := hid hA2
  clear k1
  go_wp2_with fail
  go_end0
  exact ⟨rfl, hA2.out⟩

set_option maxHeartbeats 1600000 in
theorem tw_files_114 (t qm qx : Nat) (a x : MV) (w0 w : World) (hA : TA w0 w t qm qx a x) (hok : a.Ok) (ht : x.m.ty = 114) :
    Calls Tryz.prog 74 #[.iface 107 (.pointer (some ⟨t, 0, none⟩)), .pointer (some ⟨qx, 0, none⟩)] w (TGood w0 t qm qx a (copies a [.fid, .name, .perm, .mode] x)) := by
  have n0 := nil_t_u32
  have m0 := met_t_u32
  have n1 := nil_t_text
  have m1 := met_t_text
  have n2 := nil_t_u8
  have m2 := met_t_u8
  have c0 : w.cell? ⟨qx, 0, none⟩ = some (.int .u8 114) := by rw [block_cell hA.xb 0]; show some (Value.int .u8 (x.m.ty : Int)) = _; rw [ht]; rfl
  replace hA := hid hA
  replace hok := hid hok
  clear ht
  go_enter Tryz.func74, Tryz.ntmps74
  go_wp2_with fail
  have k0 := hid (t_fid t qm qx a _ w0 w.drew hA.out.drew hok.out)
  go_region_with (go_at_call 117; refine k0.out.mono ?_; rintro e w1 ⟨rfl, hA1⟩)
  replace hA1 := hid hA1
  clear k0
  go_wp2_with fail
  have k1 := hid (t_name t qm qx a _ w0 w1.drew hA1.out.drew hok.out)
  go_region_with (go_at_call 114; refine k1.out.mono ?_; rintro e w2 ⟨rfl, hA2⟩)
  replace hA2 := hid hA2
  clear k1
  go_wp2_with fail
  have k2 := hid (t_perm t qm qx a _ w0 w2.drew hA2.out.drew hok.out)
  go_region_with (go_at_call 117; refine k2.out.mono ?_; rintro e w3 ⟨rfl, hA3⟩)
  replace hA3 := hid hA3
  clear k2
  go_wp2_with fail
  have k3 := hid (t_mode t qm qx a _ w0 w3.drew hA3.out.drew hok.out)
  go_region_with (go_at_call 119; refine k3.out.mono ?_; rintro e w4 ⟨rfl, hA4⟩)
  replace hA4 := hid hA4
  clear k3
  go_wp2_with fail
  go_end0
  exact ⟨rfl, hA4.out⟩

set_option maxHeartbeats 1600000 in
theorem tw_files_115 (t qm qx : Nat) (a x : MV) (w0 w : World) (hA : TA w0 w t qm qx a x) (hok : a.Ok) (ht : x.m.ty = 115) :
    Calls Tryz.prog 74 #[.iface 107 (.pointer (some ⟨t, 0, none⟩)), .pointer (some ⟨qx, 0, none⟩)] w (TGood w0 t qm qx a (copies a [.qid, .iounit] x)) := by
  have n0 := nil_t_qid
  have m0 := met_t_qid
  have n1 := nil_t_u32
  have m1 := met_t_u32
  have c0 : w.cell? ⟨qx, 0, none⟩ = some (.int .u8 115) := by rw [block_cell hA.xb 0]; show some (Value.int .u8 (x.m.ty : Int)) = _; rw [ht]; rfl
  replace hA := hid hA
  replace hok := hid hok
  clear ht
  go_enter Tryz.func74, Tryz.ntmps74
  go_wp2_with fail
  have k0 := hid (t_qid t qm qx a _ w0 w.drew hA.out.drew hok.out)
  go_region_with (go_at_call 111; refine k0.out.mono ?_; rintro e w1 ⟨rfl, hA1⟩)
  replace hA1 := hid hA1
  clear k0
  go_wp2_with fail
  have k1 := hid (t_iounit t qm qx a _ w0 w1.drew hA1.out.drew hok.out)
  go_region_with (go_at_call 117; refine k1.out.mono ?_; rintro e w2 ⟨rfl, hA2⟩)
  replace hA2 := hid hA2
  clear k1
  go_wp2_with fail
  go_end0
  exact ⟨rfl, hA2.out⟩

set_option maxHeartbeats 1600000 in
theorem tw_files_116 (t qm qx : Nat) (a x : MV) (w0 w : World) (hA : TA w0 w t qm qx a x) (hok : a.Ok) (ht : x.m.ty = 116) :
    Calls Tryz.prog 74 #[.iface 107 (.pointer (some ⟨t, 0, none⟩)), .pointer (some ⟨qx, 0, none⟩)] w (TGood w0 t qm qx a (copies a [.fid, .offset, .count] x)) := by
  have n0 := nil_t_u32
  have m0 := met_t_u32
  have n1 := nil_t_u64
  have m1 := met_t_u64
  have c0 : w.cell? ⟨qx, 0, none⟩ = some (.int .u8 116) := by rw [block_cell hA.xb 0]; show some (Value.int .u8 (x.m.ty : Int)) = _; rw [ht]; rfl
  replace hA := hid hA
  replace hok := hid hok
  clear ht
  go_enter Tryz.func74, Tryz.ntmps74
  go_wp2_with fail
  have k0 := hid (t_fid t qm qx a _ w0 w.drew hA.out.drew hok.out)
  go_region_with (go_at_call 117; refine k0.out.mono ?_; rintro e w1 ⟨rfl, hA1⟩)
  replace hA1 := hid hA1
  clear k0
  go_wp2_with fail
  have k1 := hid (t_offset t qm qx a _ w0 w1.drew hA1.out.drew hok.out)
  go_region_with (go_at_call 118; refine k1.out.mono ?_; rintro e w2 ⟨rfl, hA2⟩)
  replace hA2 := hid hA2
  clear k1
  go_wp2_with fail
  have k2 := hid (t_count t qm qx a _ w0 w2.drew hA2.out.drew hok.out)
  go_region_with (go_at_call 117; refine k2.out.mono ?_; rintro e w3 ⟨rfl, hA3⟩)
  replace hA3 := hid hA3
  clear k2
  go_wp2_with fail
  go_end0
  exact ⟨rfl, hA3.out⟩

set_option maxHeartbeats 1600000 in
theorem tw_files_117 (t qm qx : Nat) (a x : MV) (w0 w : World) (hA : TA w0 w t qm qx a x) (hok : a.Ok) (ht : x.m.ty = 117) :
    Calls Tryz.prog 74 #[.iface 107 (.pointer (some ⟨t, 0, none⟩)), .pointer (some ⟨qx, 0, none⟩)] w (TGood w0 t qm qx a (copies a [.data] x)) := by
  have n0 := nil_t_data
  have m0 := met_t_data
  have c0 : w.cell? ⟨qx, 0, none⟩ = some (.int .u8 117) := by rw [block_cell hA.xb 0]; show some (Value.int .u8 (x.m.ty : Int)) = _; rw [ht]; rfl
  replace hA := hid hA
  replace hok := hid hok
  clear ht
  go_enter Tryz.func74, Tryz.ntmps74
  go_wp2_with fail
  have k0 := hid (t_data t qm qx a _ w0 w.drew hA.out.drew hok.out)
  go_region_with (go_at_call 110; refine k0.out.mono ?_; rintro e w1 ⟨rfl, hA1⟩)
  replace hA1 := hid hA1
  clear k0
  go_wp2_with fail
  go_end0
  exact ⟨rfl, hA1.out⟩
end
end Go.Proofs.YtcbglcebdkpcfaaGreat

namespace Go.Proofs.YtcbglcebdkpcfaaGreat
section
open Go.RowKit
set_option maxRecDepth 100000
set_option linter.unusedVariables false

set_option maxHeartbeats 1600000 in
theorem tw_files_118 (t qm qx : Nat) (a x : MV) (w0 w : World) (hA : TA w0 w t qm qx a x) (hok : a.Ok) (ht : x.m.ty = 118) :
    Calls Tryz.prog 74 #[.iface 107 (.pointer (some ⟨t, 0, none⟩)), .pointer (some ⟨qx, 0, none⟩)] w (TGood w0 t qm qx a (copies a [.fid, .offset, .data] x)) := by
  have n0 := nil_t_u32
  have m0 := met_t_u32
  have n1 := nil_t_u64
  have m1 := met_t_u64
  have n2 := nil_t_data
  have m2 := met_t_data
  have c0 : w.cell? ⟨qx, 0, none⟩ = some (.int .u8 118) := by rw [block_cell hA.xb 0]; show some (Value.int .u8 (x.m.ty : Int)) = _; rw [ht]; rfl
  replace hA := hid hA
  replace hok := hid hok
  clear ht
  go_enter Tryz.func74, Tryz.ntmps74
  go_wp2_with fail
  have k0 := hid (t_fid t qm qx a _ w0 w.drew hA.out.drew hok.out)
  go_region_with (go_at_call 117; refine k0.out.mono ?_; rintro e w1 ⟨rfl, hA1⟩)
  replace hA1 := hid hA1
  clear k0
  go_wp2_with fail
  have k1 := hid (t_offset t qm qx a _ w0 w1.drew hA1.out.drew hok.out)
  go_region_with (go_at_call 118; refine k1.out.mono ?_; rintro e w2 ⟨rfl, hA2⟩)
  replace hA2 := hid hA2
  clear k1
  go_wp2_with fail
  have k2 := hid (t_data t qm qx a _ w0 w2.drew hA2.out.drew hok.out)
  go_region_with (go_at_call 110; refine k2.out.mono ?_; rintro e w3 ⟨rfl, hA3⟩)
  replace hA3 := hid hA3
  clear k2
  go_wp2_with fail
  go_end0
  exact ⟨rfl, hA3.out⟩

set_option maxHeartbeats 1600000 in
theorem tw_files_119 (t qm qx : Nat) (a x : MV) (w0 w : World) (hA : TA w0 w t qm qx a x) (hok : a.Ok) (ht : x.m.ty = 119) :
    Calls Tryz.prog 74 #[.iface 107 (.pointer (some ⟨t, 0, none⟩)), .pointer (some ⟨qx, 0, none⟩)] w (TGood w0 t qm qx a (copies a [.count] x)) := by
  have n0 := nil_t_u32
  have m0 := met_t_u32
  have c0 : w.cell? ⟨qx, 0, none⟩ = some (.int .u8 119) := by rw [block_cell hA.xb 0]; show some (Value.int .u8 (x.m.ty : Int)) = _; rw [ht]; rfl
  replace hA := hid hA
  replace hok := hid hok
  clear ht
  go_enter Tryz.func74, Tryz.ntmps74
  go_wp2_with fail
  have k0 := hid (t_count t qm qx a _ w0 w.drew hA.out.drew hok.out)
  go_region_with (go_at_call 117; refine k0.out.mono ?_; rintro e w1 ⟨rfl, hA1⟩)
  replace hA1 := hid hA1
  clear k0
  go_wp2_with fail
  go_end0
  exact ⟨rfl, hA1.out⟩

set_option maxHeartbeats 1600000 in
theorem tw_files_120 (t qm qx : Nat) (a x : MV) (w0 w : World) (hA : TA w0 w t qm qx a x) (hok : a.Ok) (ht : x.m.ty = 120) :
    Calls Tryz.prog 74 #[.iface 107 (.pointer (some ⟨t, 0, none⟩)), .pointer (some ⟨qx, 0, none⟩)] w (TGood w0 t qm qx a (copies a [.fid] x)) := by
  have n0 := nil_t_u32
  have m0 := met_t_u32
  have c0 : w.cell? ⟨qx, 0, none⟩ = some (.int .u8 120) := by rw [block_cell hA.xb 0]; show some (Value.int .u8 (x.m.ty : Int)) = _; rw [ht]; rfl
  replace hA := hid hA
  replace hok := hid hok
  clear ht
  go_enter Tryz.func74, Tryz.ntmps74
  go_wp2_with fail
  have k0 := hid (t_fid t qm qx a _ w0 w.drew hA.out.drew hok.out)
  go_region_with (go_at_call 117; refine k0.out.mono ?_; rintro e w1 ⟨rfl, hA1⟩)
  replace hA1 := hid hA1
  clear k0
  go_wp2_with fail
  go_end0
  exact ⟨rfl, hA1.out⟩

set_option maxHeartbeats 1600000 in
theorem tw_files_122 (t qm qx : Nat) (a x : MV) (w0 w : World) (hA : TA w0 w t qm qx a x) (hok : a.Ok) (ht : x.m.ty = 122) :
    Calls Tryz.prog 74 #[.iface 107 (.pointer (some ⟨t, 0, none⟩)), .pointer (some ⟨qx, 0, none⟩)] w (TGood w0 t qm qx a (copies a [.fid] x)) := by
  have n0 := nil_t_u32
  have m0 := met_t_u32
  have c0 : w.cell? ⟨qx, 0, none⟩ = some (.int .u8 122) := by rw [block_cell hA.xb 0]; show some (Value.int .u8 (x.m.ty : Int)) = _; rw [ht]; rfl
  replace hA := hid hA
  replace hok := hid hok
  clear ht
  go_enter Tryz.func74, Tryz.ntmps74
  go_wp2_with fail
  have k0 := hid (t_fid t qm qx a _ w0 w.drew hA.out.drew hok.out)
  go_region_with (go_at_call 117; refine k0.out.mono ?_; rintro e w1 ⟨rfl, hA1⟩)
  replace hA1 := hid hA1
  clear k0
  go_wp2_with fail
  go_end0
  exact ⟨rfl, hA1.out⟩

set_option maxHeartbeats 1600000 in
theorem tw_files_124 (t qm qx : Nat) (a x : MV) (w0 w : World) (hA : TA w0 w t qm qx a x) (hok : a.Ok) (ht : x.m.ty = 124) :
    Calls Tryz.prog 74 #[.iface 107 (.pointer (some ⟨t, 0, none⟩)), .pointer (some ⟨qx, 0, none⟩)] w (TGood w0 t qm qx a (copies a [.fid] x)) := by
  have n0 := nil_t_u32
  have m0 := met_t_u32
  have c0 : w.cell? ⟨qx, 0, none⟩ = some (.int .u8 124) := by rw [block_cell hA.xb 0]; show some (Value.int .u8 (x.m.ty : Int)) = _; rw [ht]; rfl
  replace hA := hid hA
  replace hok := hid hok
  clear ht
  go_enter Tryz.func74, Tryz.ntmps74
  go_wp2_with fail
  have k0 := hid (t_fid t qm qx a _ w0 w.drew hA.out.drew hok.out)
  go_region_with (go_at_call 117; refine k0.out.mono ?_; rintro e w1 ⟨rfl, hA1⟩)
  replace hA1 := hid hA1
  clear k0
  go_wp2_with fail
  go_end0
  exact ⟨rfl, hA1.out⟩

set_option maxHeartbeats 1600000 in
theorem tw_files_125 (t qm qx : Nat) (a x : MV) (w0 w : World) (hA : TA w0 w t qm qx a x) (hok : a.Ok) (ht : x.m.ty = 125) :
    Calls Tryz.prog 74 #[.iface 107 (.pointer (some ⟨t, 0, none⟩)), .pointer (some ⟨qx, 0, none⟩)] w (TGood w0 t qm qx a (copies a [.stat] x)) := by
  have n0 := nil_t_stat
  have m0 := met_t_stat
  have c0 : w.cell? ⟨qx, 0, none⟩ = some (.int .u8 125) := by rw [block_cell hA.xb 0]; show some (Value.int .u8 (x.m.ty : Int)) = _; rw [ht]; rfl
  replace hA := hid hA
  replace hok := hid hok
  clear ht
  go_enter Tryz.func74, Tryz.ntmps74
  go_wp2_with fail
  have k0 := hid (t_stat t qm qx a _ w0 w.drew hA.out.drew hok.out)
  go_region_with (go_at_call 113; refine k0.out.mono ?_; rintro e w1 ⟨rfl, hA1⟩)
  replace hA1 := hid hA1
  clear k0
  go_wp2_with fail
  go_end0
  exact ⟨rfl, hA1.out⟩

set_option maxHeartbeats 1600000 in
theorem tw_files_126 (t qm qx : Nat) (a x : MV) (w0 w : World) (hA : TA w0 w t qm qx a x) (hok : a.Ok) (ht : x.m.ty = 126) :
    Calls Tryz.prog 74 #[.iface 107 (.pointer (some ⟨t, 0, none⟩)), .pointer (some ⟨qx, 0, none⟩)] w (TGood w0 t qm qx a (copies a [.fid, .stat] x)) := by
  have n0 := nil_t_u32
  have m0 := met_t_u32
  have n1 := nil_t_stat
  have m1 := met_t_stat
  have c0 : w.cell? ⟨qx, 0, none⟩ = some (.int .u8 126) := by rw [block_cell hA.xb 0]; show some (Value.int .u8 (x.m.ty : Int)) = _; rw [ht]; rfl
  replace hA := hid hA
  replace hok := hid hok
  clear ht
  go_enter Tryz.func74, Tryz.ntmps74
  go_wp2_with fail
  have k0 := hid (t_fid t qm qx a _ w0 w.drew hA.out.drew hok.out)
  go_region_with (go_at_call 117; refine k0.out.mono ?_; rintro e w1 ⟨rfl, hA1⟩)
  replace hA1 := hid hA1
  clear k0
  go_wp2_with fail
  have k1 := hid (t_stat t qm qx a _ w0 w1.drew hA1.out.drew hok.out)
  go_region_with (go_at_call 113; refine k1.out.mono ?_; rintro e w2 ⟨rfl, hA2⟩)
  replace hA2 := hid hA2
  clear k1
  go_wp2_with fail
  go_end0
  exact ⟨rfl, hA2.out⟩

set_option maxHeartbeats 1600000 in
theorem tw_files_109 (t qm qx : Nat) (a x : MV) (w0 w : World) (hA : TA w0 w t qm qx a x) (hok : a.Ok) (ht : x.m.ty = 109) :
    Calls Tryz.prog 74 #[.iface 107 (.pointer (some ⟨t, 0, none⟩)), .pointer (some ⟨qx, 0, none⟩)] w (TGood w0 t qm qx a (copies a [] x)) := by
  have c0 : w.cell? ⟨qx, 0, none⟩ = some (.int .u8 109) := by rw [block_cell hA.xb 0]; show some (Value.int .u8 (x.m.ty : Int)) = _; rw [ht]; rfl
  replace hA := hid hA
  replace hok := hid hok
  clear ht
  go_enter Tryz.func74, Tryz.ntmps74
  go_wp2_with fail
  go_end0
  exact ⟨rfl, hA.out⟩

set_option maxHeartbeats 1600000 in
theorem tw_files_121 (t qm qx : Nat) (a x : MV) (w0 w : World) (hA : TA w0 w t qm qx a x) (hok : a.Ok) (ht : x.m.ty = 121) :
    Calls Tryz.prog 74 #[.iface 107 (.pointer (some ⟨t, 0, none⟩)), .pointer (some ⟨qx, 0, none⟩)] w (TGood w0 t qm qx a (copies a [] x)) := by
  have c0 : w.cell? ⟨qx, 0, none⟩ = some (.int .u8 121) := by rw [block_cell hA.xb 0]; show some (Value.int .u8 (x.m.ty : Int)) = _; rw [ht]; rfl
  replace hA := hid hA
  replace hok := hid hok
  clear ht
  go_enter Tryz.func74, Tryz.ntmps74
  go_wp2_with fail
  go_end0
  exact ⟨rfl, hA.out⟩

set_option maxHeartbeats 1600000 in
theorem tw_files_123 (t qm qx : Nat) (a x : MV) (w0 w : World) (hA : TA w0 w t qm qx a x) (hok : a.Ok) (ht : x.m.ty = 123) :
    Calls Tryz.prog 74 #[.iface 107 (.pointer (some ⟨t, 0, none⟩)), .pointer (some ⟨qx, 0, none⟩)] w (TGood w0 t qm qx a (copies a [] x)) := by
  have c0 : w.cell? ⟨qx, 0, none⟩ = some (.int .u8 123) := by rw [block_cell hA.xb 0]; show some (Value.int .u8 (x.m.ty : Int)) = _; rw [ht]; rfl
  replace hA := hid hA
  replace hok := hid hok
  clear ht
  go_enter Tryz.func74, Tryz.ntmps74
  go_wp2_with fail
  go_end0
  exact ⟨rfl, hA.out⟩

set_option maxHeartbeats 1600000 in
theorem tw_files_127 (t qm qx : Nat) (a x : MV) (w0 w : World) (hA : TA w0 w t qm qx a x) (hok : a.Ok) (ht : x.m.ty = 127) :
    Calls Tryz.prog 74 #[.iface 107 (.pointer (some ⟨t, 0, none⟩)), .pointer (some ⟨qx, 0, none⟩)] w (TGood w0 t qm qx a (copies a [] x)) := by
  have c0 : w.cell? ⟨qx, 0, none⟩ = some (.int .u8 127) := by rw [block_cell hA.xb 0]; show some (Value.int .u8 (x.m.ty : Int)) = _; rw [ht]; rfl
  replace hA := hid hA
  replace hok := hid hok
  clear ht
  go_enter Tryz.func74, Tryz.ntmps74
  go_wp2_with fail
  go_end0
  exact ⟨rfl, hA.out⟩
end
end Go.Proofs.YtcbglcebdkpcfaaGreat
