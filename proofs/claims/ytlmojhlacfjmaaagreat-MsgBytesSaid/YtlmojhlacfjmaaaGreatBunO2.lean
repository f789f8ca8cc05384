/- What fields of msg copies, types 100, 101, 102, 103, 104, 105, 107, 108, 110, 111. No condition. And the texts behind it. -/
import Derived.Test.YtlmojhlacfjmaaaGreatBunM
import Derived.Test.YtlmojhlacfjmaaaGreatBunY
namespace Go.Proofs.YtlmojhlacfjmaaaGreat
section
open Go.RowKit
set_option maxRecDepth 100000
set_option linter.unusedVariables false

set_option maxHeartbeats 1600000 in
theorem tw_fields_100 (t qm qx : Nat) (a x : MV) (w0 w : World) (hA : TA w0 w t qm qx a x) (hok : a.Ok) (ht : x.m.ty = 100) :
  Calls Tryz.prog 23 #[.iface 109 (.pointer (some ⟨t, 0, none⟩)), .pointer (some ⟨qx, 0, none⟩)] w (TGood w0 t qm qx a (copies a [.msize, .version] x)) := by
 have n0 := nil_t_u32
 have m0 := met_t_u32
 have n1 := nil_t_text
 have m1 := met_t_text
 have c0 : w.cell? ⟨qx, 0, none⟩ = some (.int .u8 100) := by rw [block_cell hA.xb 0]; show some (Value.int .u8 (x.m.ty : Int)) = _; rw [ht]; rfl
 replace hA := hid hA
 replace hok := hid hok
 clear ht
 go_enter Tryz.func23, Tryz.ntmps23
 go_wp2_with fail
 have k0 := hid (t_msize t qm qx a _ w0 w.drew hA.out.drew hok.out)
 go_region_with (go_at_call 124; refine k0.out.mono ?_; rintro e w1 ⟨rfl, hA1⟩)
 replace hA1 := hid hA1
 clear k0
 go_wp2_with fail
 have k1 := hid (t_version t qm qx a _ w0 w1.drew hA1.out.drew hok.out)
 go_region_with (go_at_call 121; refine k1.out.mono ?_; rintro e w2 ⟨rfl, hA2⟩)
 replace hA2 := hid hA2
 clear k1
 go_wp2_with fail
 go_end0
 exact ⟨rfl, hA2.out⟩

set_option maxHeartbeats 1600000 in
theorem tw_fields_101 (t qm qx : Nat) (a x : MV) (w0 w : World) (hA : TA w0 w t qm qx a x) (hok : a.Ok) (ht : x.m.ty = 101) :
  Calls Tryz.prog 23 #[.iface 109 (.pointer (some ⟨t, 0, none⟩)), .pointer (some ⟨qx, 0, none⟩)] w (TGood w0 t qm qx a (copies a [.msize, .version] x)) := by
 have n0 := nil_t_u32
 have m0 := met_t_u32
 have n1 := nil_t_text
 have m1 := met_t_text
 have c0 : w.cell? ⟨qx, 0, none⟩ = some (.int .u8 101) := by rw [block_cell hA.xb 0]; show some (Value.int .u8 (x.m.ty : Int)) = _; rw [ht]; rfl
 replace hA := hid hA
 replace hok := hid hok
 clear ht
 go_enter Tryz.func23, Tryz.ntmps23
 go_wp2_with fail
 have k0 := hid (t_msize t qm qx a _ w0 w.drew hA.out.drew hok.out)
 go_region_with (go_at_call 124; refine k0.out.mono ?_; rintro e w1 ⟨rfl, hA1⟩)
 replace hA1 := hid hA1
 clear k0
 go_wp2_with fail
 have k1 := hid (t_version t qm qx a _ w0 w1.drew hA1.out.drew hok.out)
 go_region_with (go_at_call 121; refine k1.out.mono ?_; rintro e w2 ⟨rfl, hA2⟩)
 replace hA2 := hid hA2
 clear k1
 go_wp2_with fail
 go_end0
 exact ⟨rfl, hA2.out⟩

set_option maxHeartbeats 1600000 in
theorem tw_fields_102 (t qm qx : Nat) (a x : MV) (w0 w : World) (hA : TA w0 w t qm qx a x) (hok : a.Ok) (ht : x.m.ty = 102) :
  Calls Tryz.prog 23 #[.iface 109 (.pointer (some ⟨t, 0, none⟩)), .pointer (some ⟨qx, 0, none⟩)] w (TGood w0 t qm qx a (copies a [.afid, .uname, .aname] x)) := by
 have n0 := nil_t_u32
 have m0 := met_t_u32
 have n1 := nil_t_text
 have m1 := met_t_text
 have c0 : w.cell? ⟨qx, 0, none⟩ = some (.int .u8 102) := by rw [block_cell hA.xb 0]; show some (Value.int .u8 (x.m.ty : Int)) = _; rw [ht]; rfl
 replace hA := hid hA
 replace hok := hid hok
 clear ht
 go_enter Tryz.func23, Tryz.ntmps23
 go_wp2_with fail
 have k0 := hid (t_afid t qm qx a _ w0 w.drew hA.out.drew hok.out)
 go_region_with (go_at_call 124; refine k0.out.mono ?_; rintro e w1 ⟨rfl, hA1⟩)
 replace hA1 := hid hA1
 clear k0
 go_wp2_with fail
 have k1 := hid (t_uname t qm qx a _ w0 w1.drew hA1.out.drew hok.out)
 go_region_with (go_at_call 121; refine k1.out.mono ?_; rintro e w2 ⟨rfl, hA2⟩)
 replace hA2 := hid hA2
 clear k1
 go_wp2_with fail
 have k2 := hid (t_aname t qm qx a _ w0 w2.drew hA2.out.drew hok.out)
 go_region_with (go_at_call 121; refine k2.out.mono ?_; rintro e w3 ⟨rfl, hA3⟩)
 replace hA3 := hid hA3
 clear k2
 go_wp2_with fail
 go_end0
 exact ⟨rfl, hA3.out⟩

set_option maxHeartbeats 1600000 in
theorem tw_fields_103 (t qm qx : Nat) (a x : MV) (w0 w : World) (hA : TA w0 w t qm qx a x) (hok : a.Ok) (ht : x.m.ty = 103) :
  Calls Tryz.prog 23 #[.iface 109 (.pointer (some ⟨t, 0, none⟩)), .pointer (some ⟨qx, 0, none⟩)] w (TGood w0 t qm qx a (copies a [.qid] x)) := by
 have n0 := nil_t_qid
 have m0 := met_t_qid
 have c0 : w.cell? ⟨qx, 0, none⟩ = some (.int .u8 103) := by rw [block_cell hA.xb 0]; show some (Value.int .u8 (x.m.ty : Int)) = _; rw [ht]; rfl
 replace hA := hid hA
 replace hok := hid hok
 clear ht
 go_enter Tryz.func23, Tryz.ntmps23
 go_wp2_with fail
 have k0 := hid (t_qid t qm qx a _ w0 w.drew hA.out.drew hok.out)
 go_region_with (go_at_call 118; refine k0.out.mono ?_; rintro e w1 ⟨rfl, hA1⟩)
 replace hA1 := hid hA1
 clear k0
 go_wp2_with fail
 go_end0
 exact ⟨rfl, hA1.out⟩

set_option maxHeartbeats 1600000 in
theorem tw_fields_104 (t qm qx : Nat) (a x : MV) (w0 w : World) (hA : TA w0 w t qm qx a x) (hok : a.Ok) (ht : x.m.ty = 104) :
  Calls Tryz.prog 23 #[.iface 109 (.pointer (some ⟨t, 0, none⟩)), .pointer (some ⟨qx, 0, none⟩)] w (TGood w0 t qm qx a (copies a [.fid, .afid, .uname, .aname] x)) := by
 have n0 := nil_t_u32
 have m0 := met_t_u32
 have n1 := nil_t_text
 have m1 := met_t_text
 have c0 : w.cell? ⟨qx, 0, none⟩ = some (.int .u8 104) := by rw [block_cell hA.xb 0]; show some (Value.int .u8 (x.m.ty : Int)) = _; rw [ht]; rfl
 replace hA := hid hA
 replace hok := hid hok
 clear ht
 go_enter Tryz.func23, Tryz.ntmps23
 go_wp2_with fail
 have k0 := hid (t_fid t qm qx a _ w0 w.drew hA.out.drew hok.out)
 go_region_with (go_at_call 124; refine k0.out.mono ?_; rintro e w1 ⟨rfl, hA1⟩)
 replace hA1 := hid hA1
 clear k0
 go_wp2_with fail
 have k1 := hid (t_afid t qm qx a _ w0 w1.drew hA1.out.drew hok.out)
 go_region_with (go_at_call 124; refine k1.out.mono ?_; rintro e w2 ⟨rfl, hA2⟩)
 replace hA2 := hid hA2
 clear k1
 go_wp2_with fail
 have k2 := hid (t_uname t qm qx a _ w0 w2.drew hA2.out.drew hok.out)
 go_region_with (go_at_call 121; refine k2.out.mono ?_; rintro e w3 ⟨rfl, hA3⟩)
 replace hA3 := hid hA3
 clear k2
 go_wp2_with fail
 have k3 := hid (t_aname t qm qx a _ w0 w3.drew hA3.out.drew hok.out)
 go_region_with (go_at_call 121; refine k3.out.mono ?_; rintro e w4 ⟨rfl, hA4⟩)
 replace hA4 := hid hA4
 clear k3
 go_wp2_with fail
 go_end0
 exact ⟨rfl, hA4.out⟩

set_option maxHeartbeats 1600000 in
theorem tw_fields_105 (t qm qx : Nat) (a x : MV) (w0 w : World) (hA : TA w0 w t qm qx a x) (hok : a.Ok) (ht : x.m.ty = 105) :
  Calls Tryz.prog 23 #[.iface 109 (.pointer (some ⟨t, 0, none⟩)), .pointer (some ⟨qx, 0, none⟩)] w (TGood w0 t qm qx a (copies a [.qid] x)) := by
 have n0 := nil_t_qid
 have m0 := met_t_qid
 have c0 : w.cell? ⟨qx, 0, none⟩ = some (.int .u8 105) := by rw [block_cell hA.xb 0]; show some (Value.int .u8 (x.m.ty : Int)) = _; rw [ht]; rfl
 replace hA := hid hA
 replace hok := hid hok
 clear ht
 go_enter Tryz.func23, Tryz.ntmps23
 go_wp2_with fail
 have k0 := hid (t_qid t qm qx a _ w0 w.drew hA.out.drew hok.out)
 go_region_with (go_at_call 118; refine k0.out.mono ?_; rintro e w1 ⟨rfl, hA1⟩)
 replace hA1 := hid hA1
 clear k0
 go_wp2_with fail
 go_end0
 exact ⟨rfl, hA1.out⟩

set_option maxHeartbeats 1600000 in
theorem tw_fields_107 (t qm qx : Nat) (a x : MV) (w0 w : World) (hA : TA w0 w t qm qx a x) (hok : a.Ok) (ht : x.m.ty = 107) :
  Calls Tryz.prog 23 #[.iface 109 (.pointer (some ⟨t, 0, none⟩)), .pointer (some ⟨qx, 0, none⟩)] w (TGood w0 t qm qx a (copies a [.ename] x)) := by
 have n0 := nil_t_text
 have m0 := met_t_text
 have c0 : w.cell? ⟨qx, 0, none⟩ = some (.int .u8 107) := by rw [block_cell hA.xb 0]; show some (Value.int .u8 (x.m.ty : Int)) = _; rw [ht]; rfl
 replace hA := hid hA
 replace hok := hid hok
 clear ht
 go_enter Tryz.func23, Tryz.ntmps23
 go_wp2_with fail
 have k0 := hid (t_ename t qm qx a _ w0 w.drew hA.out.drew hok.out)
 go_region_with (go_at_call 121; refine k0.out.mono ?_; rintro e w1 ⟨rfl, hA1⟩)
 replace hA1 := hid hA1
 clear k0
 go_wp2_with fail
 go_end0
 exact ⟨rfl, hA1.out⟩

set_option maxHeartbeats 1600000 in
theorem tw_fields_108 (t qm qx : Nat) (a x : MV) (w0 w : World) (hA : TA w0 w t qm qx a x) (hok : a.Ok) (ht : x.m.ty = 108) :
  Calls Tryz.prog 23 #[.iface 109 (.pointer (some ⟨t, 0, none⟩)), .pointer (some ⟨qx, 0, none⟩)] w (TGood w0 t qm qx a (copies a [.old] x)) := by
 have n0 := nil_t_u16
 have m0 := met_t_u16
 have c0 : w.cell? ⟨qx, 0, none⟩ = some (.int .u8 108) := by rw [block_cell hA.xb 0]; show some (Value.int .u8 (x.m.ty : Int)) = _; rw [ht]; rfl
 replace hA := hid hA
 replace hok := hid hok
 clear ht
 go_enter Tryz.func23, Tryz.ntmps23
 go_wp2_with fail
 have k0 := hid (t_old t qm qx a _ w0 w.drew hA.out.drew hok.out)
 go_region_with (go_at_call 123; refine k0.out.mono ?_; rintro e w1 ⟨rfl, hA1⟩)
 replace hA1 := hid hA1
 clear k0
 go_wp2_with fail
 go_end0
 exact ⟨rfl, hA1.out⟩

set_option maxHeartbeats 1600000 in
theorem tw_fields_110 (t qm qx : Nat) (a x : MV) (w0 w : World) (hA : TA w0 w t qm qx a x) (hok : a.Ok) (ht : x.m.ty = 110) :
  Calls Tryz.prog 23 #[.iface 109 (.pointer (some ⟨t, 0, none⟩)), .pointer (some ⟨qx, 0, none⟩)] w (TGood w0 t qm qx a (copies a [.fid, .new, .names] x)) := by
 have n0 := nil_t_u32
 have m0 := met_t_u32
 have n1 := nil_t_texts
 have m1 := met_t_texts
 have c0 : w.cell? ⟨qx, 0, none⟩ = some (.int .u8 110) := by rw [block_cell hA.xb 0]; show some (Value.int .u8 (x.m.ty : Int)) = _; rw [ht]; rfl
 replace hA := hid hA
 replace hok := hid hok
 clear ht
 go_enter Tryz.func23, Tryz.ntmps23
 go_wp2_with fail
 have k0 := hid (t_fid t qm qx a _ w0 w.drew hA.out.drew hok.out)
 go_region_with (go_at_call 124; refine k0.out.mono ?_; rintro e w1 ⟨rfl, hA1⟩)
 replace hA1 := hid hA1
 clear k0
 go_wp2_with fail
 have k1 := hid (t_new t qm qx a _ w0 w1.drew hA1.out.drew hok.out)
 go_region_with (go_at_call 124; refine k1.out.mono ?_; rintro e w2 ⟨rfl, hA2⟩)
 replace hA2 := hid hA2
 clear k1
 go_wp2_with fail
 have k2 := hid (t_names t qm qx a _ w0 w2.drew hA2.out.drew hok.out)
 go_region_with (go_at_call 122; refine k2.out.mono ?_; rintro e w3 ⟨rfl, hA3⟩)
 replace hA3 := hid hA3
 clear k2
 go_wp2_with fail
 go_end0
 exact ⟨rfl, hA3.out⟩

set_option maxHeartbeats 1600000 in
theorem tw_fields_111 (t qm qx : Nat) (a x : MV) (w0 w : World) (hA : TA w0 w t qm qx a x) (hok : a.Ok) (ht : x.m.ty = 111) :
  Calls Tryz.prog 23 #[.iface 109 (.pointer (some ⟨t, 0, none⟩)), .pointer (some ⟨qx, 0, none⟩)] w (TGood w0 t qm qx a (copies a [.qids] x)) := by
 have n0 := nil_t_qids
 have m0 := met_t_qids
 have c0 : w.cell? ⟨qx, 0, none⟩ = some (.int .u8 111) := by rw [block_cell hA.xb 0]; show some (Value.int .u8 (x.m.ty : Int)) = _; rw [ht]; rfl
 replace hA := hid hA
 replace hok := hid hok
 clear ht
 go_enter Tryz.func23, Tryz.ntmps23
 go_wp2_with fail
 have k0 := hid (t_qids t qm qx a _ w0 w.drew hA.out.drew hok.out)
 go_region_with (go_at_call 119; refine k0.out.mono ?_; rintro e w1 ⟨rfl, hA1⟩)
 replace hA1 := hid hA1
 clear k0
 go_wp2_with fail
 go_end0
 exact ⟨rfl, hA1.out⟩
end
end Go.Proofs.YtlmojhlacfjmaaaGreat

namespace Go.Proofs.YtlmojhlacfjmaaaGreat
section
open Go.RowKit
set_option maxRecDepth 100000
set_option linter.unusedVariables false

set_option maxHeartbeats 1600000 in
theorem tw_files_112 (t qm qx : Nat) (a x : MV) (w0 w : World) (hA : TA w0 w t qm qx a x) (hok : a.Ok) (ht : x.m.ty = 112) :
  Calls Tryz.prog 41 #[.iface 109 (.pointer (some ⟨t, 0, none⟩)), .pointer (some ⟨qx, 0, none⟩)] w (TGood w0 t qm qx a (copies a [.fid, .mode] x)) := by
 have n0 := nil_t_u32
 have m0 := met_t_u32
 have n1 := nil_t_u8
 have m1 := met_t_u8
 have c0 : w.cell? ⟨qx, 0, none⟩ = some (.int .u8 112) := by rw [block_cell hA.xb 0]; show some (Value.int .u8 (x.m.ty : Int)) = _; rw [ht]; rfl
 replace hA := hid hA
 replace hok := hid hok
 clear ht
 go_enter Tryz.func41, Tryz.ntmps41
 go_wp2_with fail
 have k0 := hid (t_fid t qm qx a _ w0 w.drew hA.out.drew hok.out)
 go_region_with (go_at_call 124; refine k0.out.mono ?_; rintro e w1 ⟨rfl, hA1⟩)
 replace hA1 := hid hA1
 clear k0
 go_wp2_with fail
 have k1 := hid (t_mode t qm qx a _ w0 w1.drew hA1.out.drew hok.out)
 go_region_with (go_at_call 126; refine k1.out.mono ?_; rintro e w2 ⟨rfl, hA2⟩)
 replace hA2 := hid hA2
 clear k1
 go_wp2_with fail
 go_end0
 exact ⟨rfl, hA2.out⟩

set_option maxHeartbeats 1600000 in
theorem tw_files_113 (t qm qx : Nat) (a x : MV) (w0 w : World) (hA : TA w0 w t qm qx a x) (hok : a.Ok) (ht : x.m.ty = 113) :
  Calls Tryz.prog 41 #[.iface 109 (.pointer (some ⟨t, 0, none⟩)), .pointer (some ⟨qx, 0, none⟩)] w (TGood w0 t qm qx a (copies a [.qid, .iounit] x)) := by
 have n0 := nil_t_qid
 have m0 := met_t_qid
 have n1 := nil_t_u32
 have m1 := met_t_u32
 have c0 : w.cell? ⟨qx, 0, none⟩ = some (.int .u8 113) := by rw [block_cell hA.xb 0]; show some (Value.int .u8 (x.m.ty : Int)) = _; rw [ht]; rfl
 replace hA := hid hA
 replace hok := hid hok
 clear ht
 go_enter Tryz.func41, Tryz.ntmps41
 go_wp2_with fail
 have k0 := hid (t_qid t qm qx a _ w0 w.drew hA.out.drew hok.out)
 go_region_with (go_at_call 118; refine k0.out.mono ?_; rintro e w1 ⟨rfl, hA1⟩)
 replace hA1 := hid hA1
 clear k0
 go_wp2_with fail
 have k1 := hid (t_iounit t qm qx a _ w0 w1.drew hA1.out.drew hok.out)
 go_region_with (go_at_call 124; refine k1.out.mono ?_; rintro e w2 ⟨rfl, hA2⟩)
 replace hA2 := hid hA2
 clear k1
 go_wp2_with fail
 go_end0
 exact ⟨rfl, hA2.out⟩

set_option maxHeartbeats 1600000 in
theorem tw_files_114 (t qm qx : Nat) (a x : MV) (w0 w : World) (hA : TA w0 w t qm qx a x) (hok : a.Ok) (ht : x.m.ty = 114) :
  Calls Tryz.prog 41 #[.iface 109 (.pointer (some ⟨t, 0, none⟩)), .pointer (some ⟨qx, 0, none⟩)] w (TGood w0 t qm qx a (copies a [.fid, .name, .perm, .mode] x)) := by
 have n0 := nil_t_u32
 have m0 := met_t_u32
 have n1 := nil_t_text
 have m1 := met_t_text
 have n2 := nil_t_u8
 have m2 := met_t_u8
 have c0 : w.cell? ⟨qx, 0, none⟩ = some (.int .u8 114) := by rw [block_cell hA.xb 0]; show some (Value.int .u8 (x.m.ty : Int)) = _; rw [ht]; rfl
 replace hA := hid hA
 replace hok := hid hok
 clear ht
 go_enter Tryz.func41, Tryz.ntmps41
 go_wp2_with fail
 have k0 := hid (t_fid t qm qx a _ w0 w.drew hA.out.drew hok.out)
 go_region_with (go_at_call 124; refine k0.out.mono ?_; rintro e w1 ⟨rfl, hA1⟩)
 replace hA1 := hid hA1
 clear k0
 go_wp2_with fail
 have k1 := hid (t_name t qm qx a _ w0 w1.drew hA1.out.drew hok.out)
 go_region_with (go_at_call 121; refine k1.out.mono ?_; rintro e w2 ⟨rfl, hA2⟩)
 replace hA2 := hid hA2
 clear k1
 go_wp2_with fail
 have k2 := hid (t_perm t qm qx a _ w0 w2.drew hA2.out.drew hok.out)
 go_region_with (go_at_call 124; refine k2.out.mono ?_; rintro e w3 ⟨rfl, hA3⟩)
 replace hA3 := hid hA3
 clear k2
 go_wp2_with fail
 have k3 := hid (t_mode t qm qx a _ w0 w3.drew hA3.out.drew hok.out)
 go_region_with (go_at_call 126; refine k3.out.mono ?_; rintro e w4 ⟨rfl, hA4⟩)
 replace hA4 := hid hA4
 clear k3
 go_wp2_with fail
 go_end0
 exact ⟨rfl, hA4.out⟩

set_option maxHeartbeats 1600000 in
theorem tw_files_115 (t qm qx : Nat) (a x : MV) (w0 w : World) (hA : TA w0 w t qm qx a x) (hok : a.Ok) (ht : x.m.ty = 115) :
  Calls Tryz.prog 41 #[.iface 109 (.pointer (some ⟨t, 0, none⟩)), .pointer (some ⟨qx, 0, none⟩)] w (TGood w0 t qm qx a (copies a [.qid, .iounit] x)) := by
 have n0 := nil_t_qid
 have m0 := met_t_qid
 have n1 := nil_t_u32
 have m1 := met_t_u32
 have c0 : w.cell? ⟨qx, 0, none⟩ = some (.int .u8 115) := by rw [block_cell hA.xb 0]; show some (Value.int .u8 (x.m.ty : Int)) = _; rw [ht]; rfl
 replace hA := hid hA
 replace hok := hid hok
 clear ht
 go_enter Tryz.func41, Tryz.ntmps41
 go_wp2_with fail
 have k0 := hid (t_qid t qm qx a _ w0 w.drew hA.out.drew hok.out)
 go_region_with (go_at_call 118; refine k0.out.mono ?_; rintro e w1 ⟨rfl, hA1⟩)
 replace hA1 := hid hA1
 clear k0
 go_wp2_with fail
 have k1 := hid (t_iounit t qm qx a _ w0 w1.drew hA1.out.drew hok.out)
 go_region_with (go_at_call 124; refine k1.out.mono ?_; rintro e w2 ⟨rfl, hA2⟩)
 replace hA2 := hid hA2
 clear k1
 go_wp2_with fail
 go_end0
 exact ⟨rfl, hA2.out⟩

set_option maxHeartbeats 1600000 in
theorem tw_files_116 (t qm qx : Nat) (a x : MV) (w0 w : World) (hA : TA w0 w t qm qx a x) (hok : a.Ok) (ht : x.m.ty = 116) :
  Calls Tryz.prog 41 #[.iface 109 (.pointer (some ⟨t, 0, none⟩)), .pointer (some ⟨qx, 0, none⟩)] w (TGood w0 t qm qx a (copies a [.fid, .offset, .count] x)) := by
 have n0 := nil_t_u32
 have m0 := met_t_u32
 have n1 := nil_t_u64
 have m1 := met_t_u64
 have c0 : w.cell? ⟨qx, 0, none⟩ = some (.int .u8 116) := by rw [block_cell hA.xb 0]; show some (Value.int .u8 (x.m.ty : Int)) = _; rw [ht]; rfl
 replace hA := hid hA
 replace hok := hid hok
 clear ht
 go_enter Tryz.func41, Tryz.ntmps41
 go_wp2_with fail
 have k0 := hid (t_fid t qm qx a _ w0 w.drew hA.out.drew hok.out)
 go_region_with (go_at_call 124; refine k0.out.mono ?_; rintro e w1 ⟨rfl, hA1⟩)
 replace hA1 := hid hA1
 clear k0
 go_wp2_with fail
 have k1 := hid (t_offset t qm qx a _ w0 w1.drew hA1.out.drew hok.out)
 go_region_with (go_at_call 125; refine k1.out.mono ?_; rintro e w2 ⟨rfl, hA2⟩)
 replace hA2 := hid hA2
 clear k1
 go_wp2_with fail
 have k2 := hid (t_count t qm qx a _ w0 w2.drew hA2.out.drew hok.out)
 go_region_with (go_at_call 124; refine k2.out.mono ?_; rintro e w3 ⟨rfl, hA3⟩)
 replace hA3 := hid hA3
 clear k2
 go_wp2_with fail
 go_end0
 exact ⟨rfl, hA3.out⟩

set_option maxHeartbeats 1600000 in
theorem tw_files_117 (t qm qx : Nat) (a x : MV) (w0 w : World) (hA : TA w0 w t qm qx a x) (hok : a.Ok) (ht : x.m.ty = 117) :
  Calls Tryz.prog 41 #[.iface 109 (.pointer (some ⟨t, 0, none⟩)), .pointer (some ⟨qx, 0, none⟩)] w (TGood w0 t qm qx a (copies a [.data] x)) := by
 have n0 := nil_t_data
 have m0 := met_t_data
 have c0 : w.cell? ⟨qx, 0, none⟩ = some (.int .u8 117) := by rw [block_cell hA.xb 0]; show some (Value.int .u8 (x.m.ty : Int)) = _; rw [ht]; rfl
 replace hA := hid hA
 replace hok := hid hok
 clear ht
 go_enter Tryz.func41, Tryz.ntmps41
 go_wp2_with fail
 have k0 := hid (t_data t qm qx a _ w0 w.drew hA.out.drew hok.out)
 go_region_with (go_at_call 117; refine k0.out.mono ?_; rintro e w1 ⟨rfl, hA1⟩)
 replace hA1 := hid hA1
 clear k0
 go_wp2_with fail
 go_end0
 exact ⟨rfl, hA1.out⟩
end
end Go.Proofs.YtlmojhlacfjmaaaGreat

namespace Go.Proofs.YtlmojhlacfjmaaaGreat
section
open Go.RowKit
set_option maxRecDepth 100000
set_option linter.unusedVariables false

set_option maxHeartbeats 1600000 in
theorem tw_files_118 (t qm qx : Nat) (a x : MV) (w0 w : World) (hA : TA w0 w t qm qx a x) (hok : a.Ok) (ht : x.m.ty = 118) :
  Calls Tryz.prog 41 #[.iface 109 (.pointer (some ⟨t, 0, none⟩)), .pointer (some ⟨qx, 0, none⟩)] w (TGood w0 t qm qx a (copies a [.fid, .offset, .data] x)) := by
 have n0 := nil_t_u32
 have m0 := met_t_u32
 have n1 := nil_t_u64
 have m1 := met_t_u64
 have n2 := nil_t_data
 have m2 := met_t_data
 have c0 : w.cell? ⟨qx, 0, none⟩ = some (.int .u8 118) := by rw [block_cell hA.xb 0]; show some (Value.int .u8 (x.m.ty : Int)) = _; rw [ht]; rfl
 replace hA := hid hA
 replace hok := hid hok
 clear ht
 go_enter Tryz.func41, Tryz.ntmps41
 go_wp2_with fail
 have k0 := hid (t_fid t qm qx a _ w0 w.drew hA.out.drew hok.out)
 go_region_with (go_at_call 124; refine k0.out.mono ?_; rintro e w1 ⟨rfl, hA1⟩)
 replace hA1 := hid hA1
 clear k0
 go_wp2_with fail
 have k1 := hid (t_offset t qm qx a _ w0 w1.drew hA1.out.drew hok.out)
 go_region_with (go_at_call 125; refine k1.out.mono ?_; rintro e w2 ⟨rfl, hA2⟩)
 replace hA2 := hid hA2
 clear k1
 go_wp2_with fail
 have k2 := hid (t_data t qm qx a _ w0 w2.drew hA2.out.drew hok.out)
 go_region_with (go_at_call 117; refine k2.out.mono ?_; rintro e w3 ⟨rfl, hA3⟩)
 replace hA3 := hid hA3
 clear k2
 go_wp2_with fail
 go_end0
 exact ⟨rfl, hA3.out⟩

set_option maxHeartbeats 1600000 in
theorem tw_files_119 (t qm qx : Nat) (a x : MV) (w0 w : World) (hA : TA w0 w t qm qx a x) (hok : a.Ok) (ht : x.m.ty = 119) :
  Calls Tryz.prog 41 #[.iface 109 (.pointer (some ⟨t, 0, none⟩)), .pointer (some ⟨qx, 0, none⟩)] w (TGood w0 t qm qx a (copies a [.count] x)) := by
 have n0 := nil_t_u32
 have m0 := met_t_u32
 have c0 : w.cell? ⟨qx, 0, none⟩ = some (.int .u8 119) := by rw [block_cell hA.xb 0]; show some (Value.int .u8 (x.m.ty : Int)) = _; rw [ht]; rfl
 replace hA := hid hA
 replace hok := hid hok
 clear ht
 go_enter Tryz.func41, Tryz.ntmps41
 go_wp2_with fail
 have k0 := hid (t_count t qm qx a _ w0 w.drew hA.out.drew hok.out)
 go_region_with (go_at_call 124; refine k0.out.mono ?_; rintro e w1 ⟨rfl, hA1⟩)
 replace hA1 := hid hA1
 clear k0
 go_wp2_with fail
 go_end0
 exact ⟨rfl, hA1.out⟩

set_option maxHeartbeats 1600000 in
theorem tw_files_120 (t qm qx : Nat) (a x : MV) (w0 w : World) (hA : TA w0 w t qm qx a x) (hok : a.Ok) (ht : x.m.ty = 120) :
  Calls Tryz.prog 41 #[.iface 109 (.pointer (some ⟨t, 0, none⟩)), .pointer (some ⟨qx, 0, none⟩)] w (TGood w0 t qm qx a (copies a [.fid] x)) := by
 have n0 := nil_t_u32
 have m0 := met_t_u32
 have c0 : w.cell? ⟨qx, 0, none⟩ = some (.int .u8 120) := by rw [block_cell hA.xb 0]; show some (Value.int .u8 (x.m.ty : Int)) = _; rw [ht]; rfl
 replace hA := hid hA
 replace hok := hid hok
 clear ht
 go_enter Tryz.func41, Tryz.ntmps41
 go_wp2_with fail
 have k0 := hid (t_fid t qm qx a _ w0 w.drew hA.out.drew hok.out)
 go_region_with (go_at_call 124; refine k0.out.mono ?_; rintro e w1 ⟨rfl, hA1⟩)
 replace hA1 := hid hA1
 clear k0
 go_wp2_with fail
 go_end0
 exact ⟨rfl, hA1.out⟩

set_option maxHeartbeats 1600000 in
theorem tw_files_122 (t qm qx : Nat) (a x : MV) (w0 w : World) (hA : TA w0 w t qm qx a x) (hok : a.Ok) (ht : x.m.ty = 122) :
  Calls Tryz.prog 41 #[.iface 109 (.pointer (some ⟨t, 0, none⟩)), .pointer (some ⟨qx, 0, none⟩)] w (TGood w0 t qm qx a (copies a [.fid] x)) := by
 have n0 := nil_t_u32
 have m0 := met_t_u32
 have c0 : w.cell? ⟨qx, 0, none⟩ = some (.int .u8 122) := by rw [block_cell hA.xb 0]; show some (Value.int .u8 (x.m.ty : Int)) = _; rw [ht]; rfl
 replace hA := hid hA
 replace hok := hid hok
 clear ht
 go_enter Tryz.func41, Tryz.ntmps41
 go_wp2_with fail
 have k0 := hid (t_fid t qm qx a _ w0 w.drew hA.out.drew hok.out)
 go_region_with (go_at_call 124; refine k0.out.mono ?_; rintro e w1 ⟨rfl, hA1⟩)
 replace hA1 := hid hA1
 clear k0
 go_wp2_with fail
 go_end0
 exact ⟨rfl, hA1.out⟩

set_option maxHeartbeats 1600000 in
theorem tw_files_124 (t qm qx : Nat) (a x : MV) (w0 w : World) (hA : TA w0 w t qm qx a x) (hok : a.Ok) (ht : x.m.ty = 124) :
  Calls Tryz.prog 41 #[.iface 109 (.pointer (some ⟨t, 0, none⟩)), .pointer (some ⟨qx, 0, none⟩)] w (TGood w0 t qm qx a (copies a [.fid] x)) := by
 have n0 := nil_t_u32
 have m0 := met_t_u32
 have c0 : w.cell? ⟨qx, 0, none⟩ = some (.int .u8 124) := by rw [block_cell hA.xb 0]; show some (Value.int .u8 (x.m.ty : Int)) = _; rw [ht]; rfl
 replace hA := hid hA
 replace hok := hid hok
 clear ht
 go_enter Tryz.func41, Tryz.ntmps41
 go_wp2_with fail
 have k0 := hid (t_fid t qm qx a _ w0 w.drew hA.out.drew hok.out)
 go_region_with (go_at_call 124; refine k0.out.mono ?_; rintro e w1 ⟨rfl, hA1⟩)
 replace hA1 := hid hA1
 clear k0
 go_wp2_with fail
 go_end0
 exact ⟨rfl, hA1.out⟩

set_option maxHeartbeats 1600000 in
theorem tw_files_125 (t qm qx : Nat) (a x : MV) (w0 w : World) (hA : TA w0 w t qm qx a x) (hok : a.Ok) (ht : x.m.ty = 125) :
  Calls Tryz.prog 41 #[.iface 109 (.pointer (some ⟨t, 0, none⟩)), .pointer (some ⟨qx, 0, none⟩)] w (TGood w0 t qm qx a (copies a [.stat] x)) := by
 have n0 := nil_t_stat
 have m0 := met_t_stat
 have c0 : w.cell? ⟨qx, 0, none⟩ = some (.int .u8 125) := by rw [block_cell hA.xb 0]; show some (Value.int .u8 (x.m.ty : Int)) = _; rw [ht]; rfl
 replace hA := hid hA
 replace hok := hid hok
 clear ht
 go_enter Tryz.func41, Tryz.ntmps41
 go_wp2_with fail
 have k0 := hid (t_stat t qm qx a _ w0 w.drew hA.out.drew hok.out)
 go_region_with (go_at_call 120; refine k0.out.mono ?_; rintro e w1 ⟨rfl, hA1⟩)
 replace hA1 := hid hA1
 clear k0
 go_wp2_with fail
 go_end0
 exact ⟨rfl, hA1.out⟩

set_option maxHeartbeats 1600000 in
theorem tw_files_126 (t qm qx : Nat) (a x : MV) (w0 w : World) (hA : TA w0 w t qm qx a x) (hok : a.Ok) (ht : x.m.ty = 126) :
  Calls Tryz.prog 41 #[.iface 109 (.pointer (some ⟨t, 0, none⟩)), .pointer (some ⟨qx, 0, none⟩)] w (TGood w0 t qm qx a (copies a [.fid, .stat] x)) := by
 have n0 := nil_t_u32
 have m0 := met_t_u32
 have n1 := nil_t_stat
 have m1 := met_t_stat
 have c0 : w.cell? ⟨qx, 0, none⟩ = some (.int .u8 126) := by rw [block_cell hA.xb 0]; show some (Value.int .u8 (x.m.ty : Int)) = _; rw [ht]; rfl
 replace hA := hid hA
 replace hok := hid hok
 clear ht
 go_enter Tryz.func41, Tryz.ntmps41
 go_wp2_with fail
 have k0 := hid (t_fid t qm qx a _ w0 w.drew hA.out.drew hok.out)
 go_region_with (go_at_call 124; refine k0.out.mono ?_; rintro e w1 ⟨rfl, hA1⟩)
 replace hA1 := hid hA1
 clear k0
 go_wp2_with fail
 have k1 := hid (t_stat t qm qx a _ w0 w1.drew hA1.out.drew hok.out)
 go_region_with (go_at_call 120; refine k1.out.mono ?_; rintro e w2 ⟨rfl, hA2⟩)
 replace hA2 := hid hA2
 clear k1
 go_wp2_with fail
 go_end0
 exact ⟨rfl, hA2.out⟩

set_option maxHeartbeats 1600000 in
theorem tw_files_109 (t qm qx : Nat) (a x : MV) (w0 w : World) (hA : TA w0 w t qm qx a x) (hok : a.Ok) (ht : x.m.ty = 109) :
  Calls Tryz.prog 41 #[.iface 109 (.pointer (some ⟨t, 0, none⟩)), .pointer (some ⟨qx, 0, none⟩)] w (TGood w0 t qm qx a (copies a [] x)) := by
 have c0 : w.cell? ⟨qx, 0, none⟩ = some (.int .u8 109) := by rw [block_cell hA.xb 0]; show some (Value.int .u8 (x.m.ty : Int)) = _; rw [ht]; rfl
 replace hA := hid hA
 replace hok := hid hok
 clear ht
 go_enter Tryz.func41, Tryz.ntmps41
 go_wp2_with fail
 go_end0
 exact ⟨rfl, hA.out⟩

set_option maxHeartbeats 1600000 in
theorem tw_files_121 (t qm qx : Nat) (a x : MV) (w0 w : World) (hA : TA w0 w t qm qx a x) (hok : a.Ok) (ht : x.m.ty = 121) :
  Calls Tryz.prog 41 #[.iface 109 (.pointer (some ⟨t, 0, none⟩)), .pointer (some ⟨qx, 0, none⟩)] w (TGood w0 t qm qx a (copies a [] x)) := by
 have c0 : w.cell? ⟨qx, 0, none⟩ = some (.int .u8 121) := by rw [block_cell hA.xb 0]; show some (Value.int .u8 (x.m.ty : Int)) = _; rw [ht]; rfl
 replace hA := hid hA
 replace hok := hid hok
 clear ht
 go_enter Tryz.func41, Tryz.ntmps41
 go_wp2_with fail
 go_end0
 exact ⟨rfl, hA.out⟩

set_option maxHeartbeats 1600000 in
theorem tw_files_123 (t qm qx : Nat) (a x : MV) (w0 w : World) (hA : TA w0 w t qm qx a x) (hok : a.Ok) (ht : x.m.ty = 123) :
  Calls Tryz.prog 41 #[.iface 109 (.pointer (some ⟨t, 0, none⟩)), .pointer (some ⟨qx, 0, none⟩)] w (TGood w0 t qm qx a (copies a [] x)) := by
 have c0 : w.cell? ⟨qx, 0, none⟩ = some (.int .u8 123) := by rw [block_cell hA.xb 0]; show some (Value.int .u8 (x.m.ty : Int)) = _; rw [ht]; rfl
 replace hA := hid hA
 replace hok := hid hok
 clear ht
 go_enter Tryz.func41, Tryz.ntmps41
 go_wp2_with fail
 go_end0
 exact ⟨rfl, hA.out⟩

set_option maxHeartbeats 1600000 in
theorem tw_files_127 (t qm qx : Nat) (a x : MV) (w0 w : World) (hA : TA w0 w t qm qx a x) (hok : a.Ok) (ht : x.m.ty = 127) :
  Calls Tryz.prog 41 #[.iface 109 (.pointer (some ⟨t, 0, none⟩)), .pointer (some ⟨qx, 0, none⟩)] w (TGood w0 t qm qx a (copies a [] x)) := by
 have c0 : w.cell? ⟨qx, 0, none⟩ = some (.int .u8 127) := by rw [block_cell hA.xb 0]; show some (Value.int .u8 (x.m.ty : Int)) = _; rw [ht]; rfl
 replace hA := hid hA
 replace hok := hid hok
 clear ht
 go_enter Tryz.func41, Tryz.ntmps41
 go_wp2_with fail
 go_end0
 exact ⟨rfl, hA.out⟩
end
end Go.Proofs.YtlmojhlacfjmaaaGreat

namespace Go.Proofs.YtlmojhlacfjmaaaGreat
section
open Go.RowKit
set_option maxRecDepth 100000
set_option linter.unusedVariables false

set_option maxHeartbeats 1600000 in
theorem tw_fields_112 (t qm qx : Nat) (a x : MV) (w0 w : World) (hA : TA w0 w t qm qx a x) (hok : a.Ok) (ht : x.m.ty = 112) :
  Calls Tryz.prog 23 #[.iface 109 (.pointer (some ⟨t, 0, none⟩)), .pointer (some ⟨qx, 0, none⟩)] w (TGood w0 t qm qx a (copies a [.fid, .mode] x)) := by
 have c0 : w.cell? ⟨qx, 0, none⟩ = some (.int .u8 112) := by rw [block_cell hA.xb 0]; show some (Value.int .u8 (x.m.ty : Int)) = _; rw [ht]; rfl
 have k := hid (tw_files_112 t qm qx a x w0 w hA hok ht)
 replace hA := hid hA
 clear ht
 go_enter Tryz.func23, Tryz.ntmps23
 go_wp2_with fail
 refine k.out.mono ?_
 rintro e w1 ⟨rfl, h2⟩
 go_wp2_with fail
 go_end0
 exact ⟨rfl, h2⟩

set_option maxHeartbeats 1600000 in
theorem tw_fields_113 (t qm qx : Nat) (a x : MV) (w0 w : World) (hA : TA w0 w t qm qx a x) (hok : a.Ok) (ht : x.m.ty = 113) :
  Calls Tryz.prog 23 #[.iface 109 (.pointer (some ⟨t, 0, none⟩)), .pointer (some ⟨qx, 0, none⟩)] w (TGood w0 t qm qx a (copies a [.qid, .iounit] x)) := by
 have c0 : w.cell? ⟨qx, 0, none⟩ = some (.int .u8 113) := by rw [block_cell hA.xb 0]; show some (Value.int .u8 (x.m.ty : Int)) = _; rw [ht]; rfl
 have k := hid (tw_files_113 t qm qx a x w0 w hA hok ht)
 replace hA := hid hA
 clear ht
 go_enter Tryz.func23, Tryz.ntmps23
 go_wp2_with fail
 refine k.out.mono ?_
 rintro e w1 ⟨rfl, h2⟩
 go_wp2_with fail
 go_end0
 exact ⟨rfl, h2⟩

set_option maxHeartbeats 1600000 in
theorem tw_fields_114 (t qm qx : Nat) (a x : MV) (w0 w : World) (hA : TA w0 w t qm qx a x) (hok : a.Ok) (ht : x.m.ty = 114) :
  Calls Tryz.prog 23 #[.iface 109 (.pointer (some ⟨t, 0, none⟩)), .pointer (some ⟨qx, 0, none⟩)] w (TGood w0 t qm qx a (copies a [.fid, .name, .perm, .mode] x)) := by
 have c0 : w.cell? ⟨qx, 0, none⟩ = some (.int .u8 114) := by rw [block_cell hA.xb 0]; show some (Value.int .u8 (x.m.ty : Int)) = _; rw [ht]; rfl
 have k := hid (tw_files_114 t qm qx a x w0 w hA hok ht)
 replace hA := hid hA
 clear ht
 go_enter Tryz.func23, Tryz.ntmps23
 go_wp2_with fail
 refine k.out.mono ?_
 rintro e w1 ⟨rfl, h2⟩
 go_wp2_with fail
 go_end0
 exact ⟨rfl, h2⟩

set_option maxHeartbeats 1600000 in
theorem tw_fields_115 (t qm qx : Nat) (a x : MV) (w0 w : World) (hA : TA w0 w t qm qx a x) (hok : a.Ok) (ht : x.m.ty = 115) :
  Calls Tryz.prog 23 #[.iface 109 (.pointer (some ⟨t, 0, none⟩)), .pointer (some ⟨qx, 0, none⟩)] w (TGood w0 t qm qx a (copies a [.qid, .iounit] x)) := by
 have c0 : w.cell? ⟨qx, 0, none⟩ = some (.int .u8 115) := by rw [block_cell hA.xb 0]; show some (Value.int .u8 (x.m.ty : Int)) = _; rw [ht]; rfl
 have k := hid (tw_files_115 t qm qx a x w0 w hA hok ht)
 replace hA := hid hA
 clear ht
 go_enter Tryz.func23, Tryz.ntmps23
 go_wp2_with fail
 refine k.out.mono ?_
 rintro e w1 ⟨rfl, h2⟩
 go_wp2_with fail
 go_end0
 exact ⟨rfl, h2⟩

set_option maxHeartbeats 1600000 in
theorem tw_fields_116 (t qm qx : Nat) (a x : MV) (w0 w : World) (hA : TA w0 w t qm qx a x) (hok : a.Ok) (ht : x.m.ty = 116) :
  Calls Tryz.prog 23 #[.iface 109 (.pointer (some ⟨t, 0, none⟩)), .pointer (some ⟨qx, 0, none⟩)] w (TGood w0 t qm qx a (copies a [.fid, .offset, .count] x)) := by
 have c0 : w.cell? ⟨qx, 0, none⟩ = some (.int .u8 116) := by rw [block_cell hA.xb 0]; show some (Value.int .u8 (x.m.ty : Int)) = _; rw [ht]; rfl
 have k := hid (tw_files_116 t qm qx a x w0 w hA hok ht)
 replace hA := hid hA
 clear ht
 go_enter Tryz.func23, Tryz.ntmps23
 go_wp2_with fail
 refine k.out.mono ?_
 rintro e w1 ⟨rfl, h2⟩
 go_wp2_with fail
 go_end0
 exact ⟨rfl, h2⟩

set_option maxHeartbeats 1600000 in
theorem tw_fields_117 (t qm qx : Nat) (a x : MV) (w0 w : World) (hA : TA w0 w t qm qx a x) (hok : a.Ok) (ht : x.m.ty = 117) :
  Calls Tryz.prog 23 #[.iface 109 (.pointer (some ⟨t, 0, none⟩)), .pointer (some ⟨qx, 0, none⟩)] w (TGood w0 t qm qx a (copies a [.data] x)) := by
 have c0 : w.cell? ⟨qx, 0, none⟩ = some (.int .u8 117) := by rw [block_cell hA.xb 0]; show some (Value.int .u8 (x.m.ty : Int)) = _; rw [ht]; rfl
 have k := hid (tw_files_117 t qm qx a x w0 w hA hok ht)
 replace hA := hid hA
 clear ht
 go_enter Tryz.func23, Tryz.ntmps23
 go_wp2_with fail
 refine k.out.mono ?_
 rintro e w1 ⟨rfl, h2⟩
 go_wp2_with fail
 go_end0
 exact ⟨rfl, h2⟩

set_option maxHeartbeats 1600000 in
theorem tw_fields_118 (t qm qx : Nat) (a x : MV) (w0 w : World) (hA : TA w0 w t qm qx a x) (hok : a.Ok) (ht : x.m.ty = 118) :
  Calls Tryz.prog 23 #[.iface 109 (.pointer (some ⟨t, 0, none⟩)), .pointer (some ⟨qx, 0, none⟩)] w (TGood w0 t qm qx a (copies a [.fid, .offset, .data] x)) := by
 have c0 : w.cell? ⟨qx, 0, none⟩ = some (.int .u8 118) := by rw [block_cell hA.xb 0]; show some (Value.int .u8 (x.m.ty : Int)) = _; rw [ht]; rfl
 have k := hid (tw_files_118 t qm qx a x w0 w hA hok ht)
 replace hA := hid hA
 clear ht
 go_enter Tryz.func23, Tryz.ntmps23
 go_wp2_with fail
 refine k.out.mono ?_
 rintro e w1 ⟨rfl, h2⟩
 go_wp2_with fail
 go_end0
 exact ⟨rfl, h2⟩

set_option maxHeartbeats 1600000 in
theorem tw_fields_119 (t qm qx : Nat) (a x : MV) (w0 w : World) (hA : TA w0 w t qm qx a x) (hok : a.Ok) (ht : x.m.ty = 119) :
  Calls Tryz.prog 23 #[.iface 109 (.pointer (some ⟨t, 0, none⟩)), .pointer (some ⟨qx, 0, none⟩)] w (TGood w0 t qm qx a (copies a [.count] x)) := by
 have c0 : w.cell? ⟨qx, 0, none⟩ = some (.int .u8 119) := by rw [block_cell hA.xb 0]; show some (Value.int .u8 (x.m.ty : Int)) = _; rw [ht]; rfl
 have k := hid (tw_files_119 t qm qx a x w0 w hA hok ht)
 replace hA := hid hA
 clear ht
 go_enter Tryz.func23, Tryz.ntmps23
 go_wp2_with fail
 refine k.out.mono ?_
 rintro e w1 ⟨rfl, h2⟩
 go_wp2_with fail
 go_end0
 exact ⟨rfl, h2⟩

set_option maxHeartbeats 1600000 in
theorem tw_fields_120 (t qm qx : Nat) (a x : MV) (w0 w : World) (hA : TA w0 w t qm qx a x) (hok : a.Ok) (ht : x.m.ty = 120) :
  Calls Tryz.prog 23 #[.iface 109 (.pointer (some ⟨t, 0, none⟩)), .pointer (some ⟨qx, 0, none⟩)] w (TGood w0 t qm qx a (copies a [.fid] x)) := by
 have c0 : w.cell? ⟨qx, 0, none⟩ = some (.int .u8 120) := by rw [block_cell hA.xb 0]; show some (Value.int .u8 (x.m.ty : Int)) = _; rw [ht]; rfl
 have k := hid (tw_files_120 t qm qx a x w0 w hA hok ht)
 replace hA := hid hA
 clear ht
 go_enter Tryz.func23, Tryz.ntmps23
 go_wp2_with fail
 refine k.out.mono ?_
 rintro e w1 ⟨rfl, h2⟩
 go_wp2_with fail
 go_end0
 exact ⟨rfl, h2⟩

set_option maxHeartbeats 1600000 in
theorem tw_fields_122 (t qm qx : Nat) (a x : MV) (w0 w : World) (hA : TA w0 w t qm qx a x) (hok : a.Ok) (ht : x.m.ty = 122) :
  Calls Tryz.prog 23 #[.iface 109 (.pointer (some ⟨t, 0, none⟩)), .pointer (some ⟨qx, 0, none⟩)] w (TGood w0 t qm qx a (copies a [.fid] x)) := by
 have c0 : w.cell? ⟨qx, 0, none⟩ = some (.int .u8 122) := by rw [block_cell hA.xb 0]; show some (Value.int .u8 (x.m.ty : Int)) = _; rw [ht]; rfl
 have k := hid (tw_files_122 t qm qx a x w0 w hA hok ht)
 replace hA := hid hA
 clear ht
 go_enter Tryz.func23, Tryz.ntmps23
 go_wp2_with fail
 refine k.out.mono ?_
 rintro e w1 ⟨rfl, h2⟩
 go_wp2_with fail
 go_end0
 exact ⟨rfl, h2⟩

set_option maxHeartbeats 1600000 in
theorem tw_fields_124 (t qm qx : Nat) (a x : MV) (w0 w : World) (hA : TA w0 w t qm qx a x) (hok : a.Ok) (ht : x.m.ty = 124) :
  Calls Tryz.prog 23 #[.iface 109 (.pointer (some ⟨t, 0, none⟩)), .pointer (some ⟨qx, 0, none⟩)] w (TGood w0 t qm qx a (copies a [.fid] x)) := by
 have c0 : w.cell? ⟨qx, 0, none⟩ = some (.int .u8 124) := by rw [block_cell hA.xb 0]; show some (Value.int .u8 (x.m.ty : Int)) = _; rw [ht]; rfl
 have k := hid (tw_files_124 t qm qx a x w0 w hA hok ht)
 replace hA := hid hA
 clear ht
 go_enter Tryz.func23, Tryz.ntmps23
 go_wp2_with fail
 refine k.out.mono ?_
 rintro e w1 ⟨rfl, h2⟩
 go_wp2_with fail
 go_end0
 exact ⟨rfl, h2⟩

set_option maxHeartbeats 1600000 in
theorem tw_fields_125 (t qm qx : Nat) (a x : MV) (w0 w : World) (hA : TA w0 w t qm qx a x) (hok : a.Ok) (ht : x.m.ty = 125) :
  Calls Tryz.prog 23 #[.iface 109 (.pointer (some ⟨t, 0, none⟩)), .pointer (some ⟨qx, 0, none⟩)] w (TGood w0 t qm qx a (copies a [.stat] x)) := by
 have c0 : w.cell? ⟨qx, 0, none⟩ = some (.int .u8 125) := by rw [block_cell hA.xb 0]; show some (Value.int .u8 (x.m.ty : Int)) = _; rw [ht]; rfl
 have k := hid (tw_files_125 t qm qx a x w0 w hA hok ht)
 replace hA := hid hA
 clear ht
 go_enter Tryz.func23, Tryz.ntmps23
 go_wp2_with fail
 refine k.out.mono ?_
 rintro e w1 ⟨rfl, h2⟩
 go_wp2_with fail
 go_end0
 exact ⟨rfl, h2⟩

set_option maxHeartbeats 1600000 in
theorem tw_fields_126 (t qm qx : Nat) (a x : MV) (w0 w : World) (hA : TA w0 w t qm qx a x) (hok : a.Ok) (ht : x.m.ty = 126) :
  Calls Tryz.prog 23 #[.iface 109 (.pointer (some ⟨t, 0, none⟩)), .pointer (some ⟨qx, 0, none⟩)] w (TGood w0 t qm qx a (copies a [.fid, .stat] x)) := by
 have c0 : w.cell? ⟨qx, 0, none⟩ = some (.int .u8 126) := by rw [block_cell hA.xb 0]; show some (Value.int .u8 (x.m.ty : Int)) = _; rw [ht]; rfl
 have k := hid (tw_files_126 t qm qx a x w0 w hA hok ht)
 replace hA := hid hA
 clear ht
 go_enter Tryz.func23, Tryz.ntmps23
 go_wp2_with fail
 refine k.out.mono ?_
 rintro e w1 ⟨rfl, h2⟩
 go_wp2_with fail
 go_end0
 exact ⟨rfl, h2⟩

set_option maxHeartbeats 1600000 in
theorem tw_fields_109 (t qm qx : Nat) (a x : MV) (w0 w : World) (hA : TA w0 w t qm qx a x) (hok : a.Ok) (ht : x.m.ty = 109) :
  Calls Tryz.prog 23 #[.iface 109 (.pointer (some ⟨t, 0, none⟩)), .pointer (some ⟨qx, 0, none⟩)] w (TGood w0 t qm qx a (copies a [] x)) := by
 have c0 : w.cell? ⟨qx, 0, none⟩ = some (.int .u8 109) := by rw [block_cell hA.xb 0]; show some (Value.int .u8 (x.m.ty : Int)) = _; rw [ht]; rfl
 have k := hid (tw_files_109 t qm qx a x w0 w hA hok ht)
 replace hA := hid hA
 clear ht
 go_enter Tryz.func23, Tryz.ntmps23
 go_wp2_with fail
 refine k.out.mono ?_
 rintro e w1 ⟨rfl, h2⟩
 go_wp2_with fail
 go_end0
 exact ⟨rfl, h2⟩

set_option maxHeartbeats 1600000 in
theorem tw_fields_121 (t qm qx : Nat) (a x : MV) (w0 w : World) (hA : TA w0 w t qm qx a x) (hok : a.Ok) (ht : x.m.ty = 121) :
  Calls Tryz.prog 23 #[.iface 109 (.pointer (some ⟨t, 0, none⟩)), .pointer (some ⟨qx, 0, none⟩)] w (TGood w0 t qm qx a (copies a [] x)) := by
 have c0 : w.cell? ⟨qx, 0, none⟩ = some (.int .u8 121) := by rw [block_cell hA.xb 0]; show some (Value.int .u8 (x.m.ty : Int)) = _; rw [ht]; rfl
 have k := hid (tw_files_121 t qm qx a x w0 w hA hok ht)
 replace hA := hid hA
 clear ht
 go_enter Tryz.func23, Tryz.ntmps23
 go_wp2_with fail
 refine k.out.mono ?_
 rintro e w1 ⟨rfl, h2⟩
 go_wp2_with fail
 go_end0
 exact ⟨rfl, h2⟩

set_option maxHeartbeats 1600000 in
theorem tw_fields_123 (t qm qx : Nat) (a x : MV) (w0 w : World) (hA : TA w0 w t qm qx a x) (hok : a.Ok) (ht : x.m.ty = 123) :
  Calls Tryz.prog 23 #[.iface 109 (.pointer (some ⟨t, 0, none⟩)), .pointer (some ⟨qx, 0, none⟩)] w (TGood w0 t qm qx a (copies a [] x)) := by
 have c0 : w.cell? ⟨qx, 0, none⟩ = some (.int .u8 123) := by rw [block_cell hA.xb 0]; show some (Value.int .u8 (x.m.ty : Int)) = _; rw [ht]; rfl
 have k := hid (tw_files_123 t qm qx a x w0 w hA hok ht)
 replace hA := hid hA
 clear ht
 go_enter Tryz.func23, Tryz.ntmps23
 go_wp2_with fail
 refine k.out.mono ?_
 rintro e w1 ⟨rfl, h2⟩
 go_wp2_with fail
 go_end0
 exact ⟨rfl, h2⟩

set_option maxHeartbeats 1600000 in
theorem tw_fields_127 (t qm qx : Nat) (a x : MV) (w0 w : World) (hA : TA w0 w t qm qx a x) (hok : a.Ok) (ht : x.m.ty = 127) :
  Calls Tryz.prog 23 #[.iface 109 (.pointer (some ⟨t, 0, none⟩)), .pointer (some ⟨qx, 0, none⟩)] w (TGood w0 t qm qx a (copies a [] x)) := by
 have c0 : w.cell? ⟨qx, 0, none⟩ = some (.int .u8 127) := by rw [block_cell hA.xb 0]; show some (Value.int .u8 (x.m.ty : Int)) = _; rw [ht]; rfl
 have k := hid (tw_files_127 t qm qx a x w0 w hA hok ht)
 replace hA := hid hA
 clear ht
 go_enter Tryz.func23, Tryz.ntmps23
 go_wp2_with fail
 refine k.out.mono ?_
 rintro e w1 ⟨rfl, h2⟩
 go_wp2_with fail
 go_end0
 exact ⟨rfl, h2⟩

theorem tw_fields_any (t qm qx : Nat) (a x : MV) (w0 w : World) (hA : TA w0 w t qm qx a x) (hok : a.Ok) (hk : knownT x.m.ty = true) :
  Calls Tryz.prog 23 #[.iface 109 (.pointer (some ⟨t, 0, none⟩)), .pointer (some ⟨qx, 0, none⟩)] w (TGood w0 t qm qx a (copies a (slots x.m.ty) x)) := by
 have hk' : (100 ≤ x.m.ty ∧ x.m.ty ≤ 127) ∧ x.m.ty ≠ 106 := by simpa [knownT] using hk
 have hr : x.m.ty = 100 ∨ x.m.ty = 101 ∨ x.m.ty = 102 ∨ x.m.ty = 103 ∨ x.m.ty = 104 ∨ x.m.ty = 105 ∨ x.m.ty = 107 ∨ x.m.ty = 108 ∨ x.m.ty = 109 ∨ x.m.ty = 110 ∨ x.m.ty = 111 ∨ x.m.ty = 112 ∨ x.m.ty = 113 ∨ x.m.ty = 114 ∨ x.m.ty = 115 ∨ x.m.ty = 116 ∨ x.m.ty = 117 ∨ x.m.ty = 118 ∨ x.m.ty = 119 ∨ x.m.ty = 120 ∨ x.m.ty = 121 ∨ x.m.ty = 122 ∨ x.m.ty = 123 ∨ x.m.ty = 124 ∨ x.m.ty = 125 ∨ x.m.ty = 126 ∨ x.m.ty = 127 := by omega
 rcases hr with h | h | h | h | h | h | h | h | h | h | h | h | h | h | h | h | h | h | h | h | h | h | h | h | h | h | h
 ·have := tw_fields_100 t qm qx a x w0 w hA hok h
  rw [h]; exact this
 ·have := tw_fields_101 t qm qx a x w0 w hA hok h
  rw [h]; exact this
 ·have := tw_fields_102 t qm qx a x w0 w hA hok h
  rw [h]; exact this
 ·have := tw_fields_103 t qm qx a x w0 w hA hok h
  rw [h]; exact this
 ·have := tw_fields_104 t qm qx a x w0 w hA hok h
  rw [h]; exact this
 ·have := tw_fields_105 t qm qx a x w0 w hA hok h
  rw [h]; exact this
 ·have := tw_fields_107 t qm qx a x w0 w hA hok h
  rw [h]; exact this
 ·have := tw_fields_108 t qm qx a x w0 w hA hok h
  rw [h]; exact this
 ·have := tw_fields_109 t qm qx a x w0 w hA hok h
  rw [h]; exact this
 ·have := tw_fields_110 t qm qx a x w0 w hA hok h
  rw [h]; exact this
 ·have := tw_fields_111 t qm qx a x w0 w hA hok h
  rw [h]; exact this
 ·have := tw_fields_112 t qm qx a x w0 w hA hok h
  rw [h]; exact this
 ·have := tw_fields_113 t qm qx a x w0 w hA hok h
  rw [h]; exact this
 ·have := tw_fields_114 t qm qx a x w0 w hA hok h
  rw [h]; exact this
 ·have := tw_fields_115 t qm qx a x w0 w hA hok h
  rw [h]; exact this
 ·have := tw_fields_116 t qm qx a x w0 w hA hok h
  rw [h]; exact this
 ·have := tw_fields_117 t qm qx a x w0 w hA hok h
  rw [h]; exact this
 ·have := tw_fields_118 t qm qx a x w0 w hA hok h
  rw [h]; exact this
 ·have := tw_fields_119 t qm qx a x w0 w hA hok h
  rw [h]; exact this
 ·have := tw_fields_120 t qm qx a x w0 w hA hok h
  rw [h]; exact this
 ·have := tw_fields_121 t qm qx a x w0 w hA hok h
  rw [h]; exact this
 ·have := tw_fields_122 t qm qx a x w0 w hA hok h
  rw [h]; exact this
 ·have := tw_fields_123 t qm qx a x w0 w hA hok h
  rw [h]; exact this
 ·have := tw_fields_124 t qm qx a x w0 w hA hok h
  rw [h]; exact this
 ·have := tw_fields_125 t qm qx a x w0 w hA hok h
  rw [h]; exact this
 ·have := tw_fields_126 t qm qx a x w0 w hA hok h
  rw [h]; exact this
 ·have := tw_fields_127 t qm qx a x w0 w hA hok h
  rw [h]; exact this
end
end Go.Proofs.YtlmojhlacfjmaaaGreat
