/- What fields of msg copies, types 112, 113, 114, 115, 116, 117. No condition. -/
import Derived.Test.YtonhliipbdniiaaBunM
namespace Go.Proofs.Ytonhliipbdniiaa
open Go.RowKit
set_option maxRecDepth 100000
set_option linter.unusedVariables false

set_option maxHeartbeats 1600000 in
theorem tw_files_112 (t qm qx : Nat) (a x : MV) (w0 w : World) (hA : TA w0 w t qm qx a x) (hok : a.Ok) (ht : x.m.ty = 112) :
    Calls Try.prog 85 #[.iface 155 (.pointer (some ⟨t, 0, none⟩)), .pointer (some ⟨qx, 0, none⟩)] w (TGood w0 t qm qx a (copies a [.fid, .mode] x)) := by
  have n0 := nil_t_u32
  have m0 := met_t_u32
  have n1 := nil_t_u8
  have m1 := met_t_u8
  have c0 : w.cell? ⟨qx, 0, none⟩ = some (.int .u8 112) := by rw [block_cell hA.xb 0]; show some (Value.int .u8 (x.m.ty : Int)) = _; rw [ht]; rfl
  replace hA := hid hA
  replace hok := hid hok
  clear ht
  go_enter Try.func85, Try.ntmps85
  go_wp2_with fail
  have k0 := hid (t_fid t qm qx a _ w0 w.drew hA.out.drew hok.out)
  go_region_with (go_at_call 159; refine k0.out.mono ?_; rintro e w1 ⟨rfl, hA1⟩)
  replace hA1 := hid hA1
  clear k0
  go_wp2_with fail
  have k1 := hid (t_mode t qm qx a _ w0 w1.drew hA1.out.drew hok.out)
  go_region_with (go_at_call 161; refine k1.out.mono ?_; rintro e w2 ⟨rfl, hA2⟩)
  replace hA2 := hid hA2
  clear k1
  go_wp2_with fail
  go_end0
  exact ⟨rfl, hA2.out⟩

set_option maxHeartbeats 1600000 in
theorem tw_files_113 (t qm qx : Nat) (a x : MV) (w0 w : World) (hA : TA w0 w t qm qx a x) (hok : a.Ok) (ht : x.m.ty = 113) :
    Calls Try.prog 85 #[.iface 155 (.pointer (some ⟨t, 0, none⟩)), .pointer (some ⟨qx, 0, none⟩)] w (TGood w0 t qm qx a (copies a [.qid, .iounit] x)) := by
  have n0 := nil_t_qid
  have m0 := met_t_qid
  have n1 := nil_t_u32
  have m1 := met_t_u32
  have c0 : w.cell? ⟨qx, 0, none⟩ = some (.int .u8 113) := by rw [block_cell hA.xb 0]; show some (Value.int .u8 (x.m.ty : Int)) = _; rw [ht]; rfl
  replace hA := hid hA
  replace hok := hid hok
  clear ht
  go_enter Try.func85, Try.ntmps85
  go_wp2_with fail
  have k0 := hid (t_qid t qm qx a _ w0 w.drew hA.out.drew hok.out)
  go_region_with (go_at_call 153; refine k0.out.mono ?_; rintro e w1 ⟨rfl, hA1⟩)
  replace hA1 := hid hA1
  clear k0
  go_wp2_with fail
  have k1 := hid (t_iounit t qm qx a _ w0 w1.drew hA1.out.drew hok.out)
  go_region_with (go_at_call 159; refine k1.out.mono ?_; rintro e w2 ⟨rfl, hA2⟩)
  replace hA2 := hid hA2
  clear k1
  go_wp2_with fail
  go_end0
  exact ⟨rfl, hA2.out⟩

set_option maxHeartbeats 1600000 in
theorem tw_files_114 (t qm qx : Nat) (a x : MV) (w0 w : World) (hA : TA w0 w t qm qx a x) (hok : a.Ok) (ht : x.m.ty = 114) :
    Calls Try.prog 85 #[.iface 155 (.pointer (some ⟨t, 0, none⟩)), .pointer (some ⟨qx, 0, none⟩)] w (TGood w0 t qm qx a (copies a [.fid, .name, .perm, .mode] x)) := by
  have n0 := nil_t_u32
  have m0 := met_t_u32
  have n1 := nil_t_text
  have m1 := met_t_text
  have n2 := nil_t_u8
  have m2 := met_t_u8
  have c0 : w.cell? ⟨qx, 0, none⟩ = some (.int .u8 114) := by rw [block_cell hA.xb 0]; show some (Value.int .u8 (x.m.ty : Int)) = _; rw [ht]; rfl
  replace hA := hid hA
  replace hok := hid hok
  clear ht
  go_enter Try.func85, Try.ntmps85
  go_wp2_with fail
  have k0 := hid (t_fid t qm qx a _ w0 w.drew hA.out.drew hok.out)
  go_region_with (go_at_call 159; refine k0.out.mono ?_; rintro e w1 ⟨rfl, hA1⟩)
  replace hA1 := hid hA1
  clear k0
  go_wp2_with fail
  have k1 := hid (t_name t qm qx a _ w0 w1.drew hA1.out.drew hok.out)
  go_region_with (go_at_call 156; refine k1.out.mono ?_; rintro e w2 ⟨rfl, hA2⟩)
  replace hA2 := hid hA2
  clear k1
  go_wp2_with fail
  have k2 := hid (t_perm t qm qx a _ w0 w2.drew hA2.out.drew hok.out)
  go_region_with (go_at_call 159; refine k2.out.mono ?_; rintro e w3 ⟨rfl, hA3⟩)
  replace hA3 := hid hA3
  clear k2
  go_wp2_with fail
  have k3 := hid (t_mode t qm qx a _ w0 w3.drew hA3.out.drew hok.out)
  go_region_with (go_at_call 161; refine k3.out.mono ?_; rintro e w4 ⟨rfl, hA4⟩)
  replace hA4 := hid hA4
  clear k3
  go_wp2_with fail
  go_end0
  exact ⟨rfl, hA4.out⟩

set_option maxHeartbeats 1600000 in
theorem tw_files_115 (t qm qx : Nat) (a x : MV) (w0 w : World) (hA : TA w0 w t qm qx a x) (hok : a.Ok) (ht : x.m.ty = 115) :
    Calls Try.prog 85 #[.iface 155 (.pointer (some ⟨t, 0, none⟩)), .pointer (some ⟨qx, 0, none⟩)] w (TGood w0 t qm qx a (copies a [.qid, .iounit] x)) := by
  have n0 := nil_t_qid
  have m0 := met_t_qid
  have n1 := nil_t_u32
  have m1 := met_t_u32
  have c0 : w.cell? ⟨qx, 0, none⟩ = some (.int .u8 115) := by rw [block_cell hA.xb 0]; show some (Value.int .u8 (x.m.ty : Int)) = _; rw [ht]; rfl
  replace hA := hid hA
  replace hok := hid hok
  clear ht
  go_enter Try.func85, Try.ntmps85
  go_wp2_with fail
  have k0 := hid (t_qid t qm qx a _ w0 w.drew hA.out.drew hok.out)
  go_region_with (go_at_call 153; refine k0.out.mono ?_; rintro e w1 ⟨rfl, hA1⟩)
  replace hA1 := hid hA1
  clear k0
  go_wp2_with fail
  have k1 := hid (t_iounit t qm qx a _ w0 w1.drew hA1.out.drew hok.out)
  go_region_with (go_at_call 159; refine k1.out.mono ?_; rintro e w2 ⟨rfl, hA2⟩)
  replace hA2 := hid hA2
  clear k1
  go_wp2_with fail
  go_end0
  exact ⟨rfl, hA2.out⟩

set_option maxHeartbeats 1600000 in
theorem tw_files_116 (t qm qx : Nat) (a x : MV) (w0 w : World) (hA : TA w0 w t qm qx a x) (hok : a.Ok) (ht : x.m.ty = 116) :
    Calls Try.prog 85 #[.iface 155 (.pointer (some ⟨t, 0, none⟩)), .pointer (some ⟨qx, 0, none⟩)] w (TGood w0 t qm qx a (copies a [.fid, .offset, .count] x)) := by
  have n0 := nil_t_u32
  have m0 := met_t_u32
  have n1 := nil_t_u64
  have m1 := met_t_u64
  have c0 : w.cell? ⟨qx, 0, none⟩ = some (.int .u8 116) := by rw [block_cell hA.xb 0]; show some (Value.int .u8 (x.m.ty : Int)) = _; rw [ht]; rfl
  replace hA := hid hA
  replace hok := hid hok
  clear ht
  go_enter Try.func85, Try.ntmps85
  go_wp2_with fail
  have k0 := hid (t_fid t qm qx a _ w0 w.drew hA.out.drew hok.out)
  go_region_with (go_at_call 159; refine k0.out.mono ?_; rintro e w1 ⟨rfl, hA1⟩)
  replace hA1 := hid hA1
  clear k0
  go_wp2_with fail
  have k1 := hid (t_offset t qm qx a _ w0 w1.drew hA1.out.drew hok.out)
  go_region_with (go_at_call 160; refine k1.out.mono ?_; rintro e w2 ⟨rfl, hA2⟩)
  replace hA2 := hid hA2
  clear k1
  go_wp2_with fail
  have k2 := hid (t_count t qm qx a _ w0 w2.drew hA2.out.drew hok.out)
  go_region_with (go_at_call 159; refine k2.out.mono ?_; rintro e w3 ⟨rfl, hA3⟩)
  replace hA3 := hid hA3
  clear k2
  go_wp2_with fail
  go_end0
  exact ⟨rfl, hA3.out⟩

set_option maxHeartbeats 1600000 in
theorem tw_files_117 (t qm qx : Nat) (a x : MV) (w0 w : World) (hA : TA w0 w t qm qx a x) (hok : a.Ok) (ht : x.m.ty = 117) :
    Calls Try.prog 85 #[.iface 155 (.pointer (some ⟨t, 0, none⟩)), .pointer (some ⟨qx, 0, none⟩)] w (TGood w0 t qm qx a (copies a [.data] x)) := by
  have n0 := nil_t_data
  have m0 := met_t_data
  have c0 : w.cell? ⟨qx, 0, none⟩ = some (.int .u8 117) := by rw [block_cell hA.xb 0]; show some (Value.int .u8 (x.m.ty : Int)) = _; rw [ht]; rfl
  replace hA := hid hA
  replace hok := hid hok
  clear ht
  go_enter Try.func85, Try.ntmps85
  go_wp2_with fail
  have k0 := hid (t_data t qm qx a _ w0 w.drew hA.out.drew hok.out)
  go_region_with (go_at_call 152; refine k0.out.mono ?_; rintro e w1 ⟨rfl, hA1⟩)
  replace hA1 := hid hA1
  clear k0
  go_wp2_with fail
  go_end0
  exact ⟨rfl, hA1.out⟩
end Go.Proofs.Ytonhliipbdniiaa
