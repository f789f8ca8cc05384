/- What fields of msg copies, types 100, 101, 102, 103, 104, 105, 107, 108, 110, 111. No condition. -/
import Derived.Test.YtonhliipbdniiaaBunM
namespace Go.Proofs.Ytonhliipbdniiaa
open Go.RowKit
set_option maxRecDepth 100000
set_option linter.unusedVariables false

set_option maxHeartbeats 1600000 in
theorem tw_fields_100 (t qm qx : Nat) (a x : MV) (w0 w : World) (hA : TA w0 w t qm qx a x) (hok : a.Ok) (ht : x.m.ty = 100) :
    Calls Try.prog 58 #[.iface 155 (.pointer (some ⟨t, 0, none⟩)), .pointer (some ⟨qx, 0, none⟩)] w (TGood w0 t qm qx a (copies a [.msize, .version] x)) := by
  have n0 := nil_t_u32
  have m0 := met_t_u32
  have n1 := nil_t_text
  have m1 := met_t_text
  have c0 : w.cell? ⟨qx, 0, none⟩ = some (.int .u8 100) := by rw [block_cell hA.xb 0]; show some (Value.int .u8 (x.m.ty : Int)) = _; rw [ht]; rfl
  replace hA := hid hA
  replace hok := hid hok
  clear ht
  go_enter Try.func58, Try.ntmps58
  go_wp2_with fail
  have k0 := hid (t_msize t qm qx a _ w0 w.drew hA.out.drew hok.out)
  go_region_with (go_at_call 159; refine k0.out.mono ?_; rintro e w1 ⟨rfl, hA1⟩)
  replace hA1 := hid hA1
  clear k0
  go_wp2_with fail
  have k1 := hid (t_version t qm qx a _ w0 w1.drew hA1.out.drew hok.out)
  go_region_with (go_at_call 156; refine k1.out.mono ?_; rintro e w2 ⟨rfl, hA2⟩)
  replace hA2 := hid hA2
  clear k1
  go_wp2_with fail
  go_end0
  exact ⟨rfl, hA2.out⟩

set_option maxHeartbeats 1600000 in
theorem tw_fields_101 (t qm qx : Nat) (a x : MV) (w0 w : World) (hA : TA w0 w t qm qx a x) (hok : a.Ok) (ht : x.m.ty = 101) :
    Calls Try.prog 58 #[.iface 155 (.pointer (some ⟨t, 0, none⟩)), .pointer (some ⟨qx, 0, none⟩)] w (TGood w0 t qm qx a (copies a [.msize, .version] x)) := by
  have n0 := nil_t_u32
  have m0 := met_t_u32
  have n1 := nil_t_text
  have m1 := met_t_text
  have c0 : w.cell? ⟨qx, 0, none⟩ = some (.int .u8 101) := by rw [block_cell hA.xb 0]; show some (Value.int .u8 (x.m.ty : Int)) = _; rw [ht]; rfl
  replace hA := hid hA
  replace hok := hid hok
  clear ht
  go_enter Try.func58, Try.ntmps58
  go_wp2_with fail
  have k0 := hid (t_msize t qm qx a _ w0 w.drew hA.out.drew hok.out)
  go_region_with (go_at_call 159; refine k0.out.mono ?_; rintro e w1 ⟨rfl, hA1⟩)
  replace hA1 := hid hA1
  clear k0
  go_wp2_with fail
  have k1 := hid (t_version t qm qx a _ w0 w1.drew hA1.out.drew hok.out)
  go_region_with (go_at_call 156; refine k1.out.mono ?_; rintro e w2 ⟨rfl, hA2⟩)
  replace hA2 := hid hA2
  clear k1
  go_wp2_with fail
  go_end0
  exact ⟨rfl, hA2.out⟩

set_option maxHeartbeats 1600000 in
theorem tw_fields_102 (t qm qx : Nat) (a x : MV) (w0 w : World) (hA : TA w0 w t qm qx a x) (hok : a.Ok) (ht : x.m.ty = 102) :
    Calls Try.prog 58 #[.iface 155 (.pointer (some ⟨t, 0, none⟩)), .pointer (some ⟨qx, 0, none⟩)] w (TGood w0 t qm qx a (copies a [.afid, .uname, .aname] x)) := by
  have n0 := nil_t_u32
  have m0 := met_t_u32
  have n1 := nil_t_text
  have m1 := met_t_text
  have c0 : w.cell? ⟨qx, 0, none⟩ = some (.int .u8 102) := by rw [block_cell hA.xb 0]; show some (Value.int .u8 (x.m.ty : Int)) = _; rw [ht]; rfl
  replace hA := hid hA
  replace hok := hid hok
  clear ht
  go_enter Try.func58, Try.ntmps58
  go_wp2_with fail
  have k0 := hid (t_afid t qm qx a _ w0 w.drew hA.out.drew hok.out)
  go_region_with (go_at_call 159; refine k0.out.mono ?_; rintro e w1 ⟨rfl, hA1⟩)
  replace hA1 := hid hA1
  clear k0
  go_wp2_with fail
  have k1 := hid (t_uname t qm qx a _ w0 w1.drew hA1.out.drew hok.out)
  go_region_with (go_at_call 156; refine k1.out.mono ?_; rintro e w2 ⟨rfl, hA2⟩)
  replace hA2 := hid hA2
  clear k1
  go_wp2_with fail
  have k2 := hid (t_aname t qm qx a _ w0 w2.drew hA2.out.drew hok.out)
  go_region_with (go_at_call 156; refine k2.out.mono ?_; rintro e w3 ⟨rfl, hA3⟩)
  replace hA3 := hid hA3
  clear k2
  go_wp2_with fail
  go_end0
  exact ⟨rfl, hA3.out⟩

set_option maxHeartbeats 1600000 in
theorem tw_fields_103 (t qm qx : Nat) (a x : MV) (w0 w : World) (hA : TA w0 w t qm qx a x) (hok : a.Ok) (ht : x.m.ty = 103) :
    Calls Try.prog 58 #[.iface 155 (.pointer (some ⟨t, 0, none⟩)), .pointer (some ⟨qx, 0, none⟩)] w (TGood w0 t qm qx a (copies a [.qid] x)) := by
  have n0 := nil_t_qid
  have m0 := met_t_qid
  have c0 : w.cell? ⟨qx, 0, none⟩ = some (.int .u8 103) := by rw [block_cell hA.xb 0]; show some (Value.int .u8 (x.m.ty : Int)) = _; rw [ht]; rfl
  replace hA := hid hA
  replace hok := hid hok
  clear ht
  go_enter Try.func58, Try.ntmps58
  go_wp2_with fail
  have k0 := hid (t_qid t qm qx a _ w0 w.drew hA.out.drew hok.out)
  go_region_with (go_at_call 153; refine k0.out.mono ?_; rintro e w1 ⟨rfl, hA1⟩)
  replace hA1 := hid hA1
  clear k0
  go_wp2_with fail
  go_end0
  exact ⟨rfl, hA1.out⟩

set_option maxHeartbeats 1600000 in
theorem tw_fields_104 (t qm qx : Nat) (a x : MV) (w0 w : World) (hA : TA w0 w t qm qx a x) (hok : a.Ok) (ht : x.m.ty = 104) :
    Calls Try.prog 58 #[.iface 155 (.pointer (some ⟨t, 0, none⟩)), .pointer (some ⟨qx, 0, none⟩)] w (TGood w0 t qm qx a (copies a [.fid, .afid, .uname, .aname] x)) := by
  have n0 := nil_t_u32
  have m0 := met_t_u32
  have n1 := nil_t_text
  have m1 := met_t_text
  have c0 : w.cell? ⟨qx, 0, none⟩ = some (.int .u8 104) := by rw [block_cell hA.xb 0]; show some (Value.int .u8 (x.m.ty : Int)) = _; rw [ht]; rfl
  replace hA := hid hA
  replace hok := hid hok
  clear ht
  go_enter Try.func58, Try.ntmps58
  go_wp2_with fail
  have k0 := hid (t_fid t qm qx a _ w0 w.drew hA.out.drew hok.out)
  go_region_with (go_at_call 159; refine k0.out.mono ?_; rintro e w1 ⟨rfl, hA1⟩)
  replace hA1 := hid hA1
  clear k0
  go_wp2_with fail
  have k1 := hid (t_afid t qm qx a _ w0 w1.drew hA1.out.drew hok.out)
  go_region_with (go_at_call 159; refine k1.out.mono ?_; rintro e w2 ⟨rfl, hA2⟩)
  replace hA2 := hid hA2
  clear k1
  go_wp2_with fail
  have k2 := hid (t_uname t qm qx a _ w0 w2.drew hA2.out.drew hok.out)
  go_region_with (go_at_call 156; refine k2.out.mono ?_; rintro e w3 ⟨rfl, hA3⟩)
  replace hA3 := hid hA3
  clear k2
  go_wp2_with fail
  have k3 := hid (t_aname t qm qx a _ w0 w3.drew hA3.out.drew hok.out)
  go_region_with (go_at_call 156; refine k3.out.mono ?_; rintro e w4 ⟨rfl, hA4⟩)
  replace hA4 := hid hA4
  clear k3
  go_wp2_with fail
  go_end0
  exact ⟨rfl, hA4.out⟩

set_option maxHeartbeats 1600000 in
theorem tw_fields_105 (t qm qx : Nat) (a x : MV) (w0 w : World) (hA : TA w0 w t qm qx a x) (hok : a.Ok) (ht : x.m.ty = 105) :
    Calls Try.prog 58 #[.iface 155 (.pointer (some ⟨t, 0, none⟩)), .pointer (some ⟨qx, 0, none⟩)] w (TGood w0 t qm qx a (copies a [.qid] x)) := by
  have n0 := nil_t_qid
  have m0 := met_t_qid
  have c0 : w.cell? ⟨qx, 0, none⟩ = some (.int .u8 105) := by rw [block_cell hA.xb 0]; show some (Value.int .u8 (x.m.ty : Int)) = _; rw [ht]; rfl
  replace hA := hid hA
  replace hok := hid hok
  clear ht
  go_enter Try.func58, Try.ntmps58
  go_wp2_with fail
  have k0 := hid (t_qid t qm qx a _ w0 w.drew hA.out.drew hok.out)
  go_region_with (go_at_call 153; refine k0.out.mono ?_; rintro e w1 ⟨rfl, hA1⟩)
  replace hA1 := hid hA1
  clear k0
  go_wp2_with fail
  go_end0
  exact ⟨rfl, hA1.out⟩

set_option maxHeartbeats 1600000 in
theorem tw_fields_107 (t qm qx : Nat) (a x : MV) (w0 w : World) (hA : TA w0 w t qm qx a x) (hok : a.Ok) (ht : x.m.ty = 107) :
    Calls Try.prog 58 #[.iface 155 (.pointer (some ⟨t, 0, none⟩)), .pointer (some ⟨qx, 0, none⟩)] w (TGood w0 t qm qx a (copies a [.ename] x)) := by
  have n0 := nil_t_text
  have m0 := met_t_text
  have c0 : w.cell? ⟨qx, 0, none⟩ = some (.int .u8 107) := by rw [block_cell hA.xb 0]; show some (Value.int .u8 (x.m.ty : Int)) = _; rw [ht]; rfl
  replace hA := hid hA
  replace hok := hid hok
  clear ht
  go_enter Try.func58, Try.ntmps58
  go_wp2_with fail
  have k0 := hid (t_ename t qm qx a _ w0 w.drew hA.out.drew hok.out)
  go_region_with (go_at_call 156; refine k0.out.mono ?_; rintro e w1 ⟨rfl, hA1⟩)
  replace hA1 := hid hA1
  clear k0
  go_wp2_with fail
  go_end0
  exact ⟨rfl, hA1.out⟩

set_option maxHeartbeats 1600000 in
theorem tw_fields_108 (t qm qx : Nat) (a x : MV) (w0 w : World) (hA : TA w0 w t qm qx a x) (hok : a.Ok) (ht : x.m.ty = 108) :
    Calls Try.prog 58 #[.iface 155 (.pointer (some ⟨t, 0, none⟩)), .pointer (some ⟨qx, 0, none⟩)] w (TGood w0 t qm qx a (copies a [.old] x)) := by
  have n0 := nil_t_u16
  have m0 := met_t_u16
  have c0 : w.cell? ⟨qx, 0, none⟩ = some (.int .u8 108) := by rw [block_cell hA.xb 0]; show some (Value.int .u8 (x.m.ty : Int)) = _; rw [ht]; rfl
  replace hA := hid hA
  replace hok := hid hok
  clear ht
  go_enter Try.func58, Try.ntmps58
  go_wp2_with fail
  have k0 := hid (t_old t qm qx a _ w0 w.drew hA.out.drew hok.out)
  go_region_with (go_at_call 158; refine k0.out.mono ?_; rintro e w1 ⟨rfl, hA1⟩)
  replace hA1 := hid hA1
  clear k0
  go_wp2_with fail
  go_end0
  exact ⟨rfl, hA1.out⟩

set_option maxHeartbeats 1600000 in
theorem tw_fields_110 (t qm qx : Nat) (a x : MV) (w0 w : World) (hA : TA w0 w t qm qx a x) (hok : a.Ok) (ht : x.m.ty = 110) :
    Calls Try.prog 58 #[.iface 155 (.pointer (some ⟨t, 0, none⟩)), .pointer (some ⟨qx, 0, none⟩)] w (TGood w0 t qm qx a (copies a [.fid, .new, .names] x)) := by
  have n0 := nil_t_u32
  have m0 := met_t_u32
  have n1 := nil_t_texts
  have m1 := met_t_texts
  have c0 : w.cell? ⟨qx, 0, none⟩ = some (.int .u8 110) := by rw [block_cell hA.xb 0]; show some (Value.int .u8 (x.m.ty : Int)) = _; rw [ht]; rfl
  replace hA := hid hA
  replace hok := hid hok
  clear ht
  go_enter Try.func58, Try.ntmps58
  go_wp2_with fail
  have k0 := hid (t_fid t qm qx a _ w0 w.drew hA.out.drew hok.out)
  go_region_with (go_at_call 159; refine k0.out.mono ?_; rintro e w1 ⟨rfl, hA1⟩)
  replace hA1 := hid hA1
  clear k0
  go_wp2_with fail
  have k1 := hid (t_new t qm qx a _ w0 w1.drew hA1.out.drew hok.out)
  go_region_with (go_at_call 159; refine k1.out.mono ?_; rintro e w2 ⟨rfl, hA2⟩)
  replace hA2 := hid hA2
  clear k1
  go_wp2_with fail
  have k2 := hid (t_names t qm qx a _ w0 w2.drew hA2.out.drew hok.out)
  go_region_with (go_at_call 157; refine k2.out.mono ?_; rintro e w3 ⟨rfl, hA3⟩)
  replace hA3 := hid hA3
  clear k2
  go_wp2_with fail
  go_end0
  exact ⟨rfl, hA3.out⟩

set_option maxHeartbeats 1600000 in
theorem tw_fields_111 (t qm qx : Nat) (a x : MV) (w0 w : World) (hA : TA w0 w t qm qx a x) (hok : a.Ok) (ht : x.m.ty = 111) :
    Calls Try.prog 58 #[.iface 155 (.pointer (some ⟨t, 0, none⟩)), .pointer (some ⟨qx, 0, none⟩)] w (TGood w0 t qm qx a (copies a [.qids] x)) := by
  have n0 := nil_t_qids
  have m0 := met_t_qids
  have c0 : w.cell? ⟨qx, 0, none⟩ = some (.int .u8 111) := by rw [block_cell hA.xb 0]; show some (Value.int .u8 (x.m.ty : Int)) = _; rw [ht]; rfl
  replace hA := hid hA
  replace hok := hid hok
  clear ht
  go_enter Try.func58, Try.ntmps58
  go_wp2_with fail
  have k0 := hid (t_qids t qm qx a _ w0 w.drew hA.out.drew hok.out)
  go_region_with (go_at_call 154; refine k0.out.mono ?_; rintro e w1 ⟨rfl, hA1⟩)
  replace hA1 := hid hA1
  clear k0
  go_wp2_with fail
  go_end0
  exact ⟨rfl, hA1.out⟩
end Go.Proofs.Ytonhliipbdniiaa
