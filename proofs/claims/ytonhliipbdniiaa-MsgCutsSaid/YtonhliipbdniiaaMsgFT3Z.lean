/- What fields of msg copies, types 118, 119, 120, 122, 124, 125, 126, 109, 121, 123, 127. No condition. -/
import Derived.Test.YtonhliipbdniiaaBunM
namespace Go.Proofs.Ytonhliipbdniiaa
open Go.RowKit
set_option maxRecDepth 100000
set_option linter.unusedVariables false

set_option maxHeartbeats 1600000 in
theorem tw_files_118 (t qm qx : Nat) (a x : MV) (w0 w : World) (hA : TA w0 w t qm qx a x) (hok : a.Ok) (ht : x.m.ty = 118) :
    Calls Try.prog 85 #[.iface 155 (.pointer (some ⟨t, 0, none⟩)), .pointer (some ⟨qx, 0, none⟩)] w (TGood w0 t qm qx a (copies a [.fid, .offset, .data] x)) := by
  have n0 := nil_t_u32
  have m0 := met_t_u32
  have n1 := nil_t_u64
  have m1 := met_t_u64
  have n2 := nil_t_data
  have m2 := met_t_data
  have c0 : w.cell? ⟨qx, 0, none⟩ = some (.int .u8 118) := by rw [block_cell hA.xb 0]; show some (Value.int .u8 (x.m.ty : Int)) = _; rw [ht]; rfl
  replace hA := hid hA
  replace hok := hid hok
  clear ht
  go_enter Try.func85, Try.ntmps85
  go_wp2_with fail
  have k0 := hid (t_fid t qm qx a _ w0 w.drew hA.out.drew hok.out)
  go_region_with (go_at_call 159; refine k0.out.mono ?_; rintro e w1 ⟨rfl, hA1⟩)
  replace hA1 := hid hA1
  clear k0
  go_wp2_with fail
  have k1 := hid (t_offset t qm qx a _ w0 w1.drew hA1.out.drew hok.out)
  go_region_with (go_at_call 160; refine k1.out.mono ?_; rintro e w2 ⟨rfl, hA2⟩)
  replace hA2 := hid hA2
  clear k1
  go_wp2_with fail
  have k2 := hid (t_data t qm qx a _ w0 w2.drew hA2.out.drew hok.out)
  go_region_with (go_at_call 152; refine k2.out.mono ?_; rintro e w3 ⟨rfl, hA3⟩)
  replace hA3 := hid hA3
  clear k2
  go_wp2_with fail
  go_end0
  exact ⟨rfl, hA3.out⟩

set_option maxHeartbeats 1600000 in
theorem tw_files_119 (t qm qx : Nat) (a x : MV) (w0 w : World) (hA : TA w0 w t qm qx a x) (hok : a.Ok) (ht : x.m.ty = 119) :
    Calls Try.prog 85 #[.iface 155 (.pointer (some ⟨t, 0, none⟩)), .pointer (some ⟨qx, 0, none⟩)] w (TGood w0 t qm qx a (copies a [.count] x)) := by
  have n0 := nil_t_u32
  have m0 := met_t_u32
  have c0 : w.cell? ⟨qx, 0, none⟩ = some (.int .u8 119) := by rw [block_cell hA.xb 0]; show some (Value.int .u8 (x.m.ty : Int)) = _; rw [ht]; rfl
  replace hA := hid hA
  replace hok := hid hok
  clear ht
  go_enter Try.func85, Try.ntmps85
  go_wp2_with fail
  have k0 := hid (t_count t qm qx a _ w0 w.drew hA.out.drew hok.out)
  go_region_with (go_at_call 159; refine k0.out.mono ?_; rintro e w1 ⟨rfl, hA1⟩)
  replace hA1 := hid hA1
  clear k0
  go_wp2_with fail
  go_end0
  exact ⟨rfl, hA1.out⟩

set_option maxHeartbeats 1600000 in
theorem tw_files_120 (t qm qx : Nat) (a x : MV) (w0 w : World) (hA : TA w0 w t qm qx a x) (hok : a.Ok) (ht : x.m.ty = 120) :
    Calls Try.prog 85 #[.iface 155 (.pointer (some ⟨t, 0, none⟩)), .pointer (some ⟨qx, 0, none⟩)] w (TGood w0 t qm qx a (copies a [.fid] x)) := by
  have n0 := nil_t_u32
  have m0 := met_t_u32
  have c0 : w.cell? ⟨qx, 0, none⟩ = some (.int .u8 120) := by rw [block_cell hA.xb 0]; show some (Value.int .u8 (x.m.ty : Int)) = _; rw [ht]; rfl
  replace hA := hid hA
  replace hok := hid hok
  clear ht
  go_enter Try.func85, Try.ntmps85
  go_wp2_with fail
  have k0 := hid (t_fid t qm qx a _ w0 w.drew hA.out.drew hok.out)
  go_region_with (go_at_call 159; refine k0.out.mono ?_; rintro e w1 ⟨rfl, hA1⟩)
  replace hA1 := hid hA1
  clear k0
  go_wp2_with fail
  go_end0
  exact ⟨rfl, hA1.out⟩

set_option maxHeartbeats 1600000 in
theorem tw_files_122 (t qm qx : Nat) (a x : MV) (w0 w : World) (hA : TA w0 w t qm qx a x) (hok : a.Ok) (ht : x.m.ty = 122) :
    Calls Try.prog 85 #[.iface 155 (.pointer (some ⟨t, 0, none⟩)), .pointer (some ⟨qx, 0, none⟩)] w (TGood w0 t qm qx a (copies a [.fid] x)) := by
  have n0 := nil_t_u32
  have m0 := met_t_u32
  have c0 : w.cell? ⟨qx, 0, none⟩ = some (.int .u8 122) := by rw [block_cell hA.xb 0]; show some (Value.int .u8 (x.m.ty : Int)) = _; rw [ht]; rfl
  replace hA := hid hA
  replace hok := hid hok
  clear ht
  go_enter Try.func85, Try.ntmps85
  go_wp2_with fail
  have k0 := hid (t_fid t qm qx a _ w0 w.drew hA.out.drew hok.out)
  go_region_with (go_at_call 159; refine k0.out.mono ?_; rintro e w1 ⟨rfl, hA1⟩)
  replace hA1 := hid hA1
  clear k0
  go_wp2_with fail
  go_end0
  exact ⟨rfl, hA1.out⟩

set_option maxHeartbeats 1600000 in
theorem tw_files_124 (t qm qx : Nat) (a x : MV) (w0 w : World) (hA : TA w0 w t qm qx a x) (hok : a.Ok) (ht : x.m.ty = 124) :
    Calls Try.prog 85 #[.iface 155 (.pointer (some ⟨t, 0, none⟩)), .pointer (some ⟨qx, 0, none⟩)] w (TGood w0 t qm qx a (copies a [.fid] x)) := by
  have n0 := nil_t_u32
  have m0 := met_t_u32
  have c0 : w.cell? ⟨qx, 0, none⟩ = some (.int .u8 124) := by rw [block_cell hA.xb 0]; show some (Value.int .u8 (x.m.ty : Int)) = _; rw [ht]; rfl
  replace hA := hid hA
  replace hok := hid hok
  clear ht
  go_enter Try.func85, Try.ntmps85
  go_wp2_with fail
  have k0 := hid (t_fid t qm qx a _ w0 w.drew hA.out.drew hok.out)
  go_region_with (go_at_call 159; refine k0.out.mono ?_; rintro e w1 ⟨rfl, hA1⟩)
  replace hA1 := hid hA1
  clear k0
  go_wp2_with fail
  go_end0
  exact ⟨rfl, hA1.out⟩

set_option maxHeartbeats 1600000 in
theorem tw_files_125 (t qm qx : Nat) (a x : MV) (w0 w : World) (hA : TA w0 w t qm qx a x) (hok : a.Ok) (ht : x.m.ty = 125) :
    Calls Try.prog 85 #[.iface 155 (.pointer (some ⟨t, 0, none⟩)), .pointer (some ⟨qx, 0, none⟩)] w (TGood w0 t qm qx a (copies a [.stat] x)) := by
  have n0 := nil_t_stat
  have m0 := met_t_stat
  have c0 : w.cell? ⟨qx, 0, none⟩ = some (.int .u8 125) := by rw [block_cell hA.xb 0]; show some (Value.int .u8 (x.m.ty : Int)) = _; rw [ht]; rfl
  replace hA := hid hA
  replace hok := hid hok
  clear ht
  go_enter Try.func85, Try.ntmps85
  go_wp2_with fail
  have k0 := hid (t_stat t qm qx a _ w0 w.drew hA.out.drew hok.out)
  go_region_with (go_at_call 155; refine k0.out.mono ?_; rintro e w1 ⟨rfl, hA1⟩)
  replace hA1 := hid hA1
  clear k0
  go_wp2_with fail
  go_end0
  exact ⟨rfl, hA1.out⟩

set_option maxHeartbeats 1600000 in
theorem tw_files_126 (t qm qx : Nat) (a x : MV) (w0 w : World) (hA : TA w0 w t qm qx a x) (hok : a.Ok) (ht : x.m.ty = 126) :
    Calls Try.prog 85 #[.iface 155 (.pointer (some ⟨t, 0, none⟩)), .pointer (some ⟨qx, 0, none⟩)] w (TGood w0 t qm qx a (copies a [.fid, .stat] x)) := by
  have n0 := nil_t_u32
  have m0 := met_t_u32
  have n1 := nil_t_stat
  have m1 := met_t_stat
  have c0 : w.cell? ⟨qx, 0, none⟩ = some (.int .u8 126) := by rw [block_cell hA.xb 0]; show some (Value.int .u8 (x.m.ty : Int)) = _; rw [ht]; rfl
  replace hA := hid hA
  replace hok := hid hok
  clear ht
  go_enter Try.func85, Try.ntmps85
  go_wp2_with fail
  have k0 := hid (t_fid t qm qx a _ w0 w.drew hA.out.drew hok.out)
  go_region_with (go_at_call 159; refine k0.out.mono ?_; rintro e w1 ⟨rfl, hA1⟩)
  replace hA1 := hid hA1
  clear k0
  go_wp2_with fail
  have k1 := hid (t_stat t qm qx a _ w0 w1.drew hA1.out.drew hok.out)
  go_region_with (go_at_call 155; refine k1.out.mono ?_; rintro e w2 ⟨rfl, hA2⟩)
  replace hA2 := hid hA2
  clear k1
  go_wp2_with fail
  go_end0
  exact ⟨rfl, hA2.out⟩

set_option maxHeartbeats 1600000 in
theorem tw_files_109 (t qm qx : Nat) (a x : MV) (w0 w : World) (hA : TA w0 w t qm qx a x) (hok : a.Ok) (ht : x.m.ty = 109) :
    Calls Try.prog 85 #[.iface 155 (.pointer (some ⟨t, 0, none⟩)), .pointer (some ⟨qx, 0, none⟩)] w (TGood w0 t qm qx a (copies a [] x)) := by
  have c0 : w.cell? ⟨qx, 0, none⟩ = some (.int .u8 109) := by rw [block_cell hA.xb 0]; show some (Value.int .u8 (x.m.ty : Int)) = _; rw [ht]; rfl
  replace hA := hid hA
  replace hok := hid hok
  clear ht
  go_enter Try.func85, Try.ntmps85
  go_wp2_with fail
  go_end0
  exact ⟨rfl, hA.out⟩

set_option maxHeartbeats 1600000 in
theorem tw_files_121 (t qm qx : Nat) (a x : MV) (w0 w : World) (hA : TA w0 w t qm qx a x) (hok : a.Ok) (ht : x.m.ty = 121) :
    Calls Try.prog 85 #[.iface 155 (.pointer (some ⟨t, 0, none⟩)), .pointer (some ⟨qx, 0, none⟩)] w (TGood w0 t qm qx a (copies a [] x)) := by
  have c0 : w.cell? ⟨qx, 0, none⟩ = some (.int .u8 121) := by rw [block_cell hA.xb 0]; show some (Value.int .u8 (x.m.ty : Int)) = _; rw [ht]; rfl
  replace hA := hid hA
  replace hok := hid hok
  clear ht
  go_enter Try.func85, Try.ntmps85
  go_wp2_with fail
  go_end0
  exact ⟨rfl, hA.out⟩

set_option maxHeartbeats 1600000 in
theorem tw_files_123 (t qm qx : Nat) (a x : MV) (w0 w : World) (hA : TA w0 w t qm qx a x) (hok : a.Ok) (ht : x.m.ty = 123) :
    Calls Try.prog 85 #[.iface 155 (.pointer (some ⟨t, 0, none⟩)), .pointer (some ⟨qx, 0, none⟩)] w (TGood w0 t qm qx a (copies a [] x)) := by
  have c0 : w.cell? ⟨qx, 0, none⟩ = some (.int .u8 123) := by rw [block_cell hA.xb 0]; show some (Value.int .u8 (x.m.ty : Int)) = _; rw [ht]; rfl
  replace hA := hid hA
  replace hok := hid hok
  clear ht
  go_enter Try.func85, Try.ntmps85
  go_wp2_with fail
  go_end0
  exact ⟨rfl, hA.out⟩

set_option maxHeartbeats 1600000 in
theorem tw_files_127 (t qm qx : Nat) (a x : MV) (w0 w : World) (hA : TA w0 w t qm qx a x) (hok : a.Ok) (ht : x.m.ty = 127) :
    Calls Try.prog 85 #[.iface 155 (.pointer (some ⟨t, 0, none⟩)), .pointer (some ⟨qx, 0, none⟩)] w (TGood w0 t qm qx a (copies a [] x)) := by
  have c0 : w.cell? ⟨qx, 0, none⟩ = some (.int .u8 127) := by rw [block_cell hA.xb 0]; show some (Value.int .u8 (x.m.ty : Int)) = _; rw [ht]; rfl
  replace hA := hid hA
  replace hok := hid hok
  clear ht
  go_enter Try.func85, Try.ntmps85
  go_wp2_with fail
  go_end0
  exact ⟨rfl, hA.out⟩
end Go.Proofs.Ytonhliipbdniiaa
