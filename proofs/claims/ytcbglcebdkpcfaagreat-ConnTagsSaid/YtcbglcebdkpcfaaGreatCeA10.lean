/- What fields of msg writes, types 112, 113, 114, 115, 116, 117. Conditions: texts of at most a thousand bytes each. And the texts behind it. -/
import Derived.Test.YtcbglcebdkpcfaaGreatCeA09
import Derived.Test.YtcbglcebdkpcfaaGreatCeA07
namespace Go.Proofs.YtcbglcebdkpcfaaGreat
section
open Go.RowKit
set_option maxRecDepth 100000
set_option linter.unusedVariables false

set_option maxHeartbeats 1600000 in
theorem out_files_112 (b q : Nat) (m : M) (vN vQ vD : Value) (xs : List UInt8) (w0 w : World) (hA : OA w0 w b q m vN vQ vD xs) (hm : MOk m) (hf : MFew m) (hx : xs.length ≤ 1000) (ht : m.ty = 112) :
    Calls Tryz.prog 74 #[.iface 131 (.pointer (some ⟨b, 0, none⟩)), .pointer (some ⟨q, 0, none⟩)] w (ODo w0 b q m vN vQ vD xs (outs m [.fid, .mode])) := by
  have n0 := nil_o_u32
  have m0 := met_o_u32
  have n1 := nil_o_u8
  have m1 := met_o_u8
  have c0 : w.cell? ⟨q, 0, none⟩ = some (.int .u8 112) := by rw [hA.cell 0]; show some (Value.int .u8 (m.ty : Int)) = _; rw [ht]; rfl
  replace hA := hid hA
  replace hm := hid hm
  replace hf := hid hf
  clear ht
  go_enter Tryz.func74, Tryz.ntmps74
  go_wp2_with fail
  have k0 := hid (o_fid b q m vN vQ vD _ w0 w.drew hA.out.drew hm.out hf.out (by omega))
  go_region_with (go_at_call 127; refine k0.out.mono ?_; rintro e w1 ⟨rfl, hA1⟩)
  replace hA1 := hid hA1
  have hx1 := slots_len hf.out .fid rfl hx
  clear k0
  go_wp2_with fail
  have k1 := hid (o_mode b q m vN vQ vD _ w0 w1.drew hA1.out.drew hm.out hf.out (by omega))
  go_region_with (go_at_call 69; refine k1.out.mono ?_; rintro e w2 ⟨rfl, hA2⟩)
  replace hA2 := hid hA2
  have hx2 := slots_len hf.out .mode rfl hx1
  clear k1
  go_wp2_with fail
  go_end0
  exact ODo_cons rfl (ODo_cons rfl (ODo_nil ⟨rfl, hA2.out⟩))

set_option maxHeartbeats 1600000 in
theorem out_files_113 (b q : Nat) (m : M) (vN vQ vD : Value) (xs : List UInt8) (w0 w : World) (hA : OA w0 w b q m vN vQ vD xs) (hm : MOk m) (hf : MFew m) (hx : xs.length ≤ 1000) (ht : m.ty = 113) :
    Calls Tryz.prog 74 #[.iface 131 (.pointer (some ⟨b, 0, none⟩)), .pointer (some ⟨q, 0, none⟩)] w (ODo w0 b q m vN vQ vD xs (outs m [.qid, .iounit])) := by
  have n0 := nil_o_qid
  have m0 := met_o_qid
  have n1 := nil_o_u32
  have m1 := met_o_u32
  have c0 : w.cell? ⟨q, 0, none⟩ = some (.int .u8 113) := by rw [hA.cell 0]; show some (Value.int .u8 (m.ty : Int)) = _; rw [ht]; rfl
  replace hA := hid hA
  replace hm := hid hm
  replace hf := hid hf
  clear ht
  go_enter Tryz.func74, Tryz.ntmps74
  go_wp2_with fail
  have k0 := hid (o_qid b q m vN vQ vD _ w0 w.drew hA.out.drew hm.out hf.out (by omega))
  go_region_with (go_at_call 122; refine k0.out.mono ?_; rintro e w1 ⟨rfl, hA1⟩)
  replace hA1 := hid hA1
  have hx1 := slots_len hf.out .qid rfl hx
  clear k0
  go_wp2_with fail
  have k1 := hid (o_iounit b q m vN vQ vD _ w0 w1.drew hA1.out.drew hm.out hf.out (by omega))
  go_region_with (go_at_call 127; refine k1.out.mono ?_; rintro e w2 ⟨rfl, hA2⟩)
  replace hA2 := hid hA2
  have hx2 := slots_len hf.out .iounit rfl hx1
  clear k1
  go_wp2_with fail
  go_end0
  exact ODo_cons rfl (ODo_cons rfl (ODo_nil ⟨rfl, hA2.out⟩))

set_option maxHeartbeats 1600000 in
theorem out_files_114 (b q : Nat) (m : M) (vN vQ vD : Value) (xs : List UInt8) (w0 w : World) (hA : OA w0 w b q m vN vQ vD xs) (hm : MOk m) (hf : MFew m) (hx : xs.length ≤ 1000) (ht : m.ty = 114) :
    Calls Tryz.prog 74 #[.iface 131 (.pointer (some ⟨b, 0, none⟩)), .pointer (some ⟨q, 0, none⟩)] w (ODo w0 b q m vN vQ vD xs (outs m [.fid, .name, .perm, .mode])) := by
  have n0 := nil_o_u32
  have m0 := met_o_u32
  have n1 := nil_o_text
  have m1 := met_o_text
  have n2 := nil_o_u8
  have m2 := met_o_u8
  have c0 : w.cell? ⟨q, 0, none⟩ = some (.int .u8 114) := by rw [hA.cell 0]; show some (Value.int .u8 (m.ty : Int)) = _; rw [ht]; rfl
  replace hA := hid hA
  replace hm := hid hm
  replace hf := hid hf
  clear ht
  go_enter Tryz.func74, Tryz.ntmps74
  go_wp2_with fail
  have k0 := hid (o_fid b q m vN vQ vD _ w0 w.drew hA.out.drew hm.out hf.out (by omega))
  go_region_with (go_at_call 127; refine k0.out.mono ?_; rintro e w1 ⟨rfl, hA1⟩)
  replace hA1 := hid hA1
  have hx1 := slots_len hf.out .fid rfl hx
  clear k0
  go_wp2_with fail
  by_cases he1 : (Slot.o m .name).1 = 0
  case neg =>
    have k1 := hid (o_name_bad b q m vN vQ vD _ w0 w1.drew hA1.out.drew hm.out hf.out (by omega) he1)
    replace he1 := hid he1
    go_region_with (go_at_call 125; refine k1.out.mono ?_; rintro e w2 ⟨rfl, hs1⟩; refine fakeAny ⟨rfl, ODo_cons rfl (ODo_bad he1.out ⟨rfl, hs1⟩)⟩ ?_)
    all_goals trivial
  have k1 := hid (o_name b q m vN vQ vD _ w0 w1.drew hA1.out.drew hm.out hf.out (by omega) he1)
  replace he1 := hid he1
  go_region_with (go_at_call 125; refine k1.out.mono ?_; rintro e w2 ⟨rfl, hA2⟩)
  replace hA2 := hid hA2
  have hx2 := slots_len hf.out .name he1.out hx1
  clear k1
  go_wp2_with fail
  have k2 := hid (o_perm b q m vN vQ vD _ w0 w2.drew hA2.out.drew hm.out hf.out (by omega))
  go_region_with (go_at_call 127; refine k2.out.mono ?_; rintro e w3 ⟨rfl, hA3⟩)
  replace hA3 := hid hA3
  have hx3 := slots_len hf.out .perm rfl hx2
  clear k2
  go_wp2_with fail
  have k3 := hid (o_mode b q m vN vQ vD _ w0 w3.drew hA3.out.drew hm.out hf.out (by omega))
  go_region_with (go_at_call 69; refine k3.out.mono ?_; rintro e w4 ⟨rfl, hA4⟩)
  replace hA4 := hid hA4
  have hx4 := slots_len hf.out .mode rfl hx3
  clear k3
  go_wp2_with fail
  go_end0
  exact ODo_cons rfl (ODo_cons he1.out (ODo_cons rfl (ODo_cons rfl (ODo_nil ⟨rfl, hA4.out⟩))))

set_option maxHeartbeats 1600000 in
theorem out_files_115 (b q : Nat) (m : M) (vN vQ vD : Value) (xs : List UInt8) (w0 w : World) (hA : OA w0 w b q m vN vQ vD xs) (hm : MOk m) (hf : MFew m) (hx : xs.length ≤ 1000) (ht : m.ty = 115) :
    Calls Tryz.prog 74 #[.iface 131 (.pointer (some ⟨b, 0, none⟩)), .pointer (some ⟨q, 0, none⟩)] w (ODo w0 b q m vN vQ vD xs (outs m [.qid, .iounit])) := by
  have n0 := nil_o_qid
  have m0 := met_o_qid
  have n1 := nil_o_u32
  have m1 := met_o_u32
  have c0 : w.cell? ⟨q, 0, none⟩ = some (.int .u8 115) := by rw [hA.cell 0]; show some (Value.int .u8 (m.ty : Int)) = _; rw [ht]; rfl
  replace hA := hid hA
  replace hm := hid hm
  replace hf := hid hf
  clear ht
  go_enter Tryz.func74, Tryz.ntmps74
  go_wp2_with fail
  have k0 := hid (o_qid b q m vN vQ vD _ w0 w.drew hA.out.drew hm.out hf.out (by omega))
  go_region_with (go_at_call 122; refine k0.out.mono ?_; rintro e w1 ⟨rfl, hA1⟩)
  replace hA1 := hid hA1
  have hx1 := slots_len hf.out .qid rfl hx
  clear k0
  go_wp2_with fail
  have k1 := hid (o_iounit b q m vN vQ vD _ w0 w1.drew hA1.out.drew hm.out hf.out (by omega))
  go_region_with (go_at_call 127; refine k1.out.mono ?_; rintro e w2 ⟨rfl, hA2⟩)
  replace hA2 := hid hA2
  have hx2 := slots_len hf.out .iounit rfl hx1
  clear k1
  go_wp2_with fail
  go_end0
  exact ODo_cons rfl (ODo_cons rfl (ODo_nil ⟨rfl, hA2.out⟩))

set_option maxHeartbeats 1600000 in
theorem out_files_116 (b q : Nat) (m : M) (vN vQ vD : Value) (xs : List UInt8) (w0 w : World) (hA : OA w0 w b q m vN vQ vD xs) (hm : MOk m) (hf : MFew m) (hx : xs.length ≤ 1000) (ht : m.ty = 116) :
    Calls Tryz.prog 74 #[.iface 131 (.pointer (some ⟨b, 0, none⟩)), .pointer (some ⟨q, 0, none⟩)] w (ODo w0 b q m vN vQ vD xs (outs m [.fid, .offset, .count])) := by
  have n0 := nil_o_u32
  have m0 := met_o_u32
  have n1 := nil_o_u64
  have m1 := met_o_u64
  have c0 : w.cell? ⟨q, 0, none⟩ = some (.int .u8 116) := by rw [hA.cell 0]; show some (Value.int .u8 (m.ty : Int)) = _; rw [ht]; rfl
  replace hA := hid hA
  replace hm := hid hm
  replace hf := hid hf
  clear ht
  go_enter Tryz.func74, Tryz.ntmps74
  go_wp2_with fail
  have k0 := hid (o_fid b q m vN vQ vD _ w0 w.drew hA.out.drew hm.out hf.out (by omega))
  go_region_with (go_at_call 127; refine k0.out.mono ?_; rintro e w1 ⟨rfl, hA1⟩)
  replace hA1 := hid hA1
  have hx1 := slots_len hf.out .fid rfl hx
  clear k0
  go_wp2_with fail
  have k1 := hid (o_offset b q m vN vQ vD _ w0 w1.drew hA1.out.drew hm.out hf.out (by omega))
  go_region_with (go_at_call 128; refine k1.out.mono ?_; rintro e w2 ⟨rfl, hA2⟩)
  replace hA2 := hid hA2
  have hx2 := slots_len hf.out .offset rfl hx1
  clear k1
  go_wp2_with fail
  have k2 := hid (o_count b q m vN vQ vD _ w0 w2.drew hA2.out.drew hm.out hf.out (by omega))
  go_region_with (go_at_call 127; refine k2.out.mono ?_; rintro e w3 ⟨rfl, hA3⟩)
  replace hA3 := hid hA3
  have hx3 := slots_len hf.out .count rfl hx2
  clear k2
  go_wp2_with fail
  go_end0
  exact ODo_cons rfl (ODo_cons rfl (ODo_cons rfl (ODo_nil ⟨rfl, hA3.out⟩)))

set_option maxHeartbeats 1600000 in
theorem out_files_117 (b q : Nat) (m : M) (vN vQ vD : Value) (xs : List UInt8) (w0 w : World) (hA : OA w0 w b q m vN vQ vD xs) (hm : MOk m) (hf : MFew m) (hx : xs.length ≤ 1000) (ht : m.ty = 117) :
    Calls Tryz.prog 74 #[.iface 131 (.pointer (some ⟨b, 0, none⟩)), .pointer (some ⟨q, 0, none⟩)] w (ODo w0 b q m vN vQ vD xs (outs m [.data])) := by
  have n0 := nil_o_data
  have m0 := met_o_data
  have c0 : w.cell? ⟨q, 0, none⟩ = some (.int .u8 117) := by rw [hA.cell 0]; show some (Value.int .u8 (m.ty : Int)) = _; rw [ht]; rfl
  replace hA := hid hA
  replace hm := hid hm
  replace hf := hid hf
  clear ht
  go_enter Tryz.func74, Tryz.ntmps74
  go_wp2_with fail
  by_cases he0 : (Slot.o m .data).1 = 0
  case neg =>
    have k0 := hid (o_data_bad b q m vN vQ vD _ w0 w.drew hA.out.drew hm.out hf.out (by omega) he0)
    replace he0 := hid he0
    go_region_with (go_at_call 120; refine k0.out.mono ?_; rintro e w1 ⟨rfl, hs0⟩; refine fakeAny ⟨rfl, ODo_bad he0.out ⟨rfl, hs0⟩⟩ ?_)
    all_goals trivial
  have k0 := hid (o_data b q m vN vQ vD _ w0 w.drew hA.out.drew hm.out hf.out (by omega) he0)
  replace he0 := hid he0
  go_region_with (go_at_call 120; refine k0.out.mono ?_; rintro e w1 ⟨rfl, hA1⟩)
  replace hA1 := hid hA1
  have hx1 := slots_len hf.out .data he0.out hx
  clear k0
  go_wp2_with fail
  go_end0
  exact ODo_cons he0.out (ODo_nil ⟨rfl, hA1.out⟩)
end
end Go.Proofs.YtcbglcebdkpcfaaGreat

namespace Go.Proofs.YtcbglcebdkpcfaaGreat
section
open Go.RowKit
set_option maxRecDepth 100000
set_option linter.unusedVariables false

set_option maxHeartbeats 1600000 in
theorem out_files_118 (b q : Nat) (m : M) (vN vQ vD : Value) (xs : List UInt8) (w0 w : World) (hA : OA w0 w b q m vN vQ vD xs) (hm : MOk m) (hf : MFew m) (hx : xs.length ≤ 1000) (ht : m.ty = 118) :
    Calls Tryz.prog 74 #[.iface 131 (.pointer (some ⟨b, 0, none⟩)), .pointer (some ⟨q, 0, none⟩)] w (ODo w0 b q m vN vQ vD xs (outs m [.fid, .offset, .data])) := by
  have n0 := nil_o_u32
  have m0 := met_o_u32
  have n1 := nil_o_u64
  have m1 := met_o_u64
  have n2 := nil_o_data
  have m2 := met_o_data
  have c0 : w.cell? ⟨q, 0, none⟩ = some (.int .u8 118) := by rw [hA.cell 0]; show some (Value.int .u8 (m.ty : Int)) = _; rw [ht]; rfl
  replace hA := hid hA
  replace hm := hid hm
  replace hf := hid hf
  clear ht
  go_enter Tryz.func74, Tryz.ntmps74
  go_wp2_with fail
  have k0 := hid (o_fid b q m vN vQ vD _ w0 w.drew hA.out.drew hm.out hf.out (by omega))
  go_region_with (go_at_call 127; refine k0.out.mono ?_; rintro e w1 ⟨rfl, hA1⟩)
  replace hA1 := hid hA1
  have hx1 := slots_len hf.out .fid rfl hx
  clear k0
  go_wp2_with fail
  have k1 := hid (o_offset b q m vN vQ vD _ w0 w1.drew hA1.out.drew hm.out hf.out (by omega))
  go_region_with (go_at_call 128; refine k1.out.mono ?_; rintro e w2 ⟨rfl, hA2⟩)
  replace hA2 := hid hA2
  have hx2 := slots_len hf.out .offset rfl hx1
  clear k1
  go_wp2_with fail
  by_cases he2 : (Slot.o m .data).1 = 0
  case neg =>
    have k2 := hid (o_data_bad b q m vN vQ vD _ w0 w2.drew hA2.out.drew hm.out hf.out (by omega) he2)
    replace he2 := hid he2
    go_region_with (go_at_call 120; refine k2.out.mono ?_; rintro e w3 ⟨rfl, hs2⟩; refine fakeAny ⟨rfl, ODo_cons rfl (ODo_cons rfl (ODo_bad he2.out ⟨rfl, hs2⟩))⟩ ?_)
    all_goals trivial
  have k2 := hid (o_data b q m vN vQ vD _ w0 w2.drew hA2.out.drew hm.out hf.out (by omega) he2)
  replace he2 := hid he2
  go_region_with (go_at_call 120; refine k2.out.mono ?_; rintro e w3 ⟨rfl, hA3⟩)
  replace hA3 := hid hA3
  have hx3 := slots_len hf.out .data he2.out hx2
  clear k2
  go_wp2_with fail
  go_end0
  exact ODo_cons rfl (ODo_cons rfl (ODo_cons he2.out (ODo_nil ⟨rfl, hA3.out⟩)))

set_option maxHeartbeats 1600000 in
theorem out_files_119 (b q : Nat) (m : M) (vN vQ vD : Value) (xs : List UInt8) (w0 w : World) (hA : OA w0 w b q m vN vQ vD xs) (hm : MOk m) (hf : MFew m) (hx : xs.length ≤ 1000) (ht : m.ty = 119) :
    Calls Tryz.prog 74 #[.iface 131 (.pointer (some ⟨b, 0, none⟩)), .pointer (some ⟨q, 0, none⟩)] w (ODo w0 b q m vN vQ vD xs (outs m [.count])) := by
  have n0 := nil_o_u32
  have m0 := met_o_u32
  have c0 : w.cell? ⟨q, 0, none⟩ = some (.int .u8 119) := by rw [hA.cell 0]; show some (Value.int .u8 (m.ty : Int)) = _; rw [ht]; rfl
  replace hA := hid hA
  replace hm := hid hm
  replace hf := hid hf
  clear ht
  go_enter Tryz.func74, Tryz.ntmps74
  go_wp2_with fail
  have k0 := hid (o_count b q m vN vQ vD _ w0 w.drew hA.out.drew hm.out hf.out (by omega))
  go_region_with (go_at_call 127; refine k0.out.mono ?_; rintro e w1 ⟨rfl, hA1⟩)
  replace hA1 := hid hA1
  have hx1 := slots_len hf.out .count rfl hx
  clear k0
  go_wp2_with fail
  go_end0
  exact ODo_cons rfl (ODo_nil ⟨rfl, hA1.out⟩)

set_option maxHeartbeats 1600000 in
theorem out_files_120 (b q : Nat) (m : M) (vN vQ vD : Value) (xs : List UInt8) (w0 w : World) (hA : OA w0 w b q m vN vQ vD xs) (hm : MOk m) (hf : MFew m) (hx : xs.length ≤ 1000) (ht : m.ty = 120) :
    Calls Tryz.prog 74 #[.iface 131 (.pointer (some ⟨b, 0, none⟩)), .pointer (some ⟨q, 0, none⟩)] w (ODo w0 b q m vN vQ vD xs (outs m [.fid])) := by
  have n0 := nil_o_u32
  have m0 := met_o_u32
  have c0 : w.cell? ⟨q, 0, none⟩ = some (.int .u8 120) := by rw [hA.cell 0]; show some (Value.int .u8 (m.ty : Int)) = _; rw [ht]; rfl
  replace hA := hid hA
  replace hm := hid hm
  replace hf := hid hf
  clear ht
  go_enter Tryz.func74, Tryz.ntmps74
  go_wp2_with fail
  have k0 := hid (o_fid b q m vN vQ vD _ w0 w.drew hA.out.drew hm.out hf.out (by omega))
  go_region_with (go_at_call 127; refine k0.out.mono ?_; rintro e w1 ⟨rfl, hA1⟩)
  replace hA1 := hid hA1
  have hx1 := slots_len hf.out .fid rfl hx
  clear k0
  go_wp2_with fail
  go_end0
  exact ODo_cons rfl (ODo_nil ⟨rfl, hA1.out⟩)

set_option maxHeartbeats 1600000 in
theorem out_files_122 (b q : Nat) (m : M) (vN vQ vD : Value) (xs : List UInt8) (w0 w : World) (hA : OA w0 w b q m vN vQ vD xs) (hm : MOk m) (hf : MFew m) (hx : xs.length ≤ 1000) (ht : m.ty = 122) :
    Calls Tryz.prog 74 #[.iface 131 (.pointer (some ⟨b, 0, none⟩)), .pointer (some ⟨q, 0, none⟩)] w (ODo w0 b q m vN vQ vD xs (outs m [.fid])) := by
  have n0 := nil_o_u32
  have m0 := met_o_u32
  have c0 : w.cell? ⟨q, 0, none⟩ = some (.int .u8 122) := by rw [hA.cell 0]; show some (Value.int .u8 (m.ty : Int)) = _; rw [ht]; rfl
  replace hA := hid hA
  replace hm := hid hm
  replace hf := hid hf
  clear ht
  go_enter Tryz.func74, Tryz.ntmps74
  go_wp2_with fail
  have k0 := hid (o_fid b q m vN vQ vD _ w0 w.drew hA.out.drew hm.out hf.out (by omega))
  go_region_with (go_at_call 127; refine k0.out.mono ?_; rintro e w1 ⟨rfl, hA1⟩)
  replace hA1 := hid hA1
  have hx1 := slots_len hf.out .fid rfl hx
  clear k0
  go_wp2_with fail
  go_end0
  exact ODo_cons rfl (ODo_nil ⟨rfl, hA1.out⟩)

set_option maxHeartbeats 1600000 in
theorem out_files_124 (b q : Nat) (m : M) (vN vQ vD : Value) (xs : List UInt8) (w0 w : World) (hA : OA w0 w b q m vN vQ vD xs) (hm : MOk m) (hf : MFew m) (hx : xs.length ≤ 1000) (ht : m.ty = 124) :
    Calls Tryz.prog 74 #[.iface 131 (.pointer (some ⟨b, 0, none⟩)), .pointer (some ⟨q, 0, none⟩)] w (ODo w0 b q m vN vQ vD xs (outs m [.fid])) := by
  have n0 := nil_o_u32
  have m0 := met_o_u32
  have c0 : w.cell? ⟨q, 0, none⟩ = some (.int .u8 124) := by rw [hA.cell 0]; show some (Value.int .u8 (m.ty : Int)) = _; rw [ht]; rfl
  replace hA := hid hA
  replace hm := hid hm
  replace hf := hid hf
  clear ht
  go_enter Tryz.func74, Tryz.ntmps74
  go_wp2_with fail
  have k0 := hid (o_fid b q m vN vQ vD _ w0 w.drew hA.out.drew hm.out hf.out (by omega))
  go_region_with (go_at_call 127; refine k0.out.mono ?_; rintro e w1 ⟨rfl, hA1⟩)
  replace hA1 := hid hA1
  have hx1 := slots_len hf.out .fid rfl hx
  clear k0
  go_wp2_with fail
  go_end0
  exact ODo_cons rfl (ODo_nil ⟨rfl, hA1.out⟩)

set_option maxHeartbeats 1600000 in
theorem out_files_125 (b q : Nat) (m : M) (vN vQ vD : Value) (xs : List UInt8) (w0 w : World) (hA : OA w0 w b q m vN vQ vD xs) (hm : MOk m) (hf : MFew m) (hx : xs.length ≤ 1000) (ht : m.ty = 125) :
    Calls Tryz.prog 74 #[.iface 131 (.pointer (some ⟨b, 0, none⟩)), .pointer (some ⟨q, 0, none⟩)] w (ODo w0 b q m vN vQ vD xs (outs m [.stat])) := by
  have n0 := nil_o_stat
  have m0 := met_o_stat
  have c0 : w.cell? ⟨q, 0, none⟩ = some (.int .u8 125) := by rw [hA.cell 0]; show some (Value.int .u8 (m.ty : Int)) = _; rw [ht]; rfl
  replace hA := hid hA
  replace hm := hid hm
  replace hf := hid hf
  clear ht
  go_enter Tryz.func74, Tryz.ntmps74
  go_wp2_with fail
  by_cases he0 : (Slot.o m .stat).1 = 0
  case neg =>
    have k0 := hid (o_stat_bad b q m vN vQ vD _ w0 w.drew hA.out.drew hm.out hf.out (by omega) he0)
    replace he0 := hid he0
    go_region_with (go_at_call 124; refine k0.out.mono ?_; rintro e w1 ⟨rfl, hs0⟩; refine fakeAny ⟨rfl, ODo_bad he0.out ⟨rfl, hs0⟩⟩ ?_)
    all_goals trivial
  have k0 := hid (o_stat b q m vN vQ vD _ w0 w.drew hA.out.drew hm.out hf.out (by omega) he0)
  replace he0 := hid he0
  go_region_with (go_at_call 124; refine k0.out.mono ?_; rintro e w1 ⟨rfl, hA1⟩)
  replace hA1 := hid hA1
  have hx1 := slots_len hf.out .stat he0.out hx
  clear k0
  go_wp2_with fail
  go_end0
  exact ODo_cons he0.out (ODo_nil ⟨rfl, hA1.out⟩)

set_option maxHeartbeats 1600000 in
theorem out_files_126 (b q : Nat) (m : M) (vN vQ vD : Value) (xs : List UInt8) (w0 w : World) (hA : OA w0 w b q m vN vQ vD xs) (hm : MOk m) (hf : MFew m) (hx : xs.length ≤ 1000) (ht : m.ty = 126) :
    Calls Tryz.prog 74 #[.iface 131 (.pointer (some ⟨b, 0, none⟩)), .pointer (some ⟨q, 0, none⟩)] w (ODo w0 b q m vN vQ vD xs (outs m [.fid, .stat])) := by
  have n0 := nil_o_u32
  have m0 := met_o_u32
  have n1 := nil_o_stat
  have m1 := met_o_stat
  have c0 : w.cell? ⟨q, 0, none⟩ = some (.int .u8 126) := by rw [hA.cell 0]; show some (Value.int .u8 (m.ty : Int)) = _; rw [ht]; rfl
  replace hA := hid hA
  replace hm := hid hm
  replace hf := hid hf
  clear ht
  go_enter Tryz.func74, Tryz.ntmps74
  go_wp2_with fail
  have k0 := hid (o_fid b q m vN vQ vD _ w0 w.drew hA.out.drew hm.out hf.out (by omega))
  go_region_with (go_at_call 127; refine k0.out.mono ?_; rintro e w1 ⟨rfl, hA1⟩)
  replace hA1 := hid hA1
  have hx1 := slots_len hf.out .fid rfl hx
  clear k0
  go_wp2_with fail
  by_cases he1 : (Slot.o m .stat).1 = 0
  case neg =>
    have k1 := hid (o_stat_bad b q m vN vQ vD _ w0 w1.drew hA1.out.drew hm.out hf.out (by omega) he1)
    replace he1 := hid he1
    go_region_with (go_at_call 124; refine k1.out.mono ?_; rintro e w2 ⟨rfl, hs1⟩; refine fakeAny ⟨rfl, ODo_cons rfl (ODo_bad he1.out ⟨rfl, hs1⟩)⟩ ?_)
    all_goals trivial
  have k1 := hid (o_stat b q m vN vQ vD _ w0 w1.drew hA1.out.drew hm.out hf.out (by omega) he1)
  replace he1 := hid he1
  go_region_with (go_at_call 124; refine k1.out.mono ?_; rintro e w2 ⟨rfl, hA2⟩)
  replace hA2 := hid hA2
  have hx2 := slots_len hf.out .stat he1.out hx1
  clear k1
  go_wp2_with fail
  go_end0
  exact ODo_cons rfl (ODo_cons he1.out (ODo_nil ⟨rfl, hA2.out⟩))

set_option maxHeartbeats 1600000 in
theorem out_files_109 (b q : Nat) (m : M) (vN vQ vD : Value) (xs : List UInt8) (w0 w : World) (hA : OA w0 w b q m vN vQ vD xs) (hm : MOk m) (hf : MFew m) (hx : xs.length ≤ 1000) (ht : m.ty = 109) :
    Calls Tryz.prog 74 #[.iface 131 (.pointer (some ⟨b, 0, none⟩)), .pointer (some ⟨q, 0, none⟩)] w (ODo w0 b q m vN vQ vD xs (outs m [])) := by
  have c0 : w.cell? ⟨q, 0, none⟩ = some (.int .u8 109) := by rw [hA.cell 0]; show some (Value.int .u8 (m.ty : Int)) = _; rw [ht]; rfl
  replace hA := hid hA
  replace hm := hid hm
  replace hf := hid hf
  clear ht
  go_enter Tryz.func74, Tryz.ntmps74
  go_wp2_with fail
  go_end0
  exact ODo_nil ⟨rfl, hA.out⟩

set_option maxHeartbeats 1600000 in
theorem out_files_121 (b q : Nat) (m : M) (vN vQ vD : Value) (xs : List UInt8) (w0 w : World) (hA : OA w0 w b q m vN vQ vD xs) (hm : MOk m) (hf : MFew m) (hx : xs.length ≤ 1000) (ht : m.ty = 121) :
    Calls Tryz.prog 74 #[.iface 131 (.pointer (some ⟨b, 0, none⟩)), .pointer (some ⟨q, 0, none⟩)] w (ODo w0 b q m vN vQ vD xs (outs m [])) := by
  have c0 : w.cell? ⟨q, 0, none⟩ = some (.int .u8 121) := by rw [hA.cell 0]; show some (Value.int .u8 (m.ty : Int)) = _; rw [ht]; rfl
  replace hA := hid hA
  replace hm := hid hm
  replace hf := hid hf
  clear ht
  go_enter Tryz.func74, Tryz.ntmps74
  go_wp2_with fail
  go_end0
  exact ODo_nil ⟨rfl, hA.out⟩

set_option maxHeartbeats 1600000 in
theorem out_files_123 (b q : Nat) (m : M) (vN vQ vD : Value) (xs : List UInt8) (w0 w : World) (hA : OA w0 w b q m vN vQ vD xs) (hm : MOk m) (hf : MFew m) (hx : xs.length ≤ 1000) (ht : m.ty = 123) :
    Calls Tryz.prog 74 #[.iface 131 (.pointer (some ⟨b, 0, none⟩)), .pointer (some ⟨q, 0, none⟩)] w (ODo w0 b q m vN vQ vD xs (outs m [])) := by
  have c0 : w.cell? ⟨q, 0, none⟩ = some (.int .u8 123) := by rw [hA.cell 0]; show some (Value.int .u8 (m.ty : Int)) = _; rw [ht]; rfl
  replace hA := hid hA
  replace hm := hid hm
  replace hf := hid hf
  clear ht
  go_enter Tryz.func74, Tryz.ntmps74
  go_wp2_with fail
  go_end0
  exact ODo_nil ⟨rfl, hA.out⟩

set_option maxHeartbeats 1600000 in
theorem out_files_127 (b q : Nat) (m : M) (vN vQ vD : Value) (xs : List UInt8) (w0 w : World) (hA : OA w0 w b q m vN vQ vD xs) (hm : MOk m) (hf : MFew m) (hx : xs.length ≤ 1000) (ht : m.ty = 127) :
    Calls Tryz.prog 74 #[.iface 131 (.pointer (some ⟨b, 0, none⟩)), .pointer (some ⟨q, 0, none⟩)] w (ODo w0 b q m vN vQ vD xs (outs m [])) := by
  have c0 : w.cell? ⟨q, 0, none⟩ = some (.int .u8 127) := by rw [hA.cell 0]; show some (Value.int .u8 (m.ty : Int)) = _; rw [ht]; rfl
  replace hA := hid hA
  replace hm := hid hm
  replace hf := hid hf
  clear ht
  go_enter Tryz.func74, Tryz.ntmps74
  go_wp2_with fail
  go_end0
  exact ODo_nil ⟨rfl, hA.out⟩
end
end Go.Proofs.YtcbglcebdkpcfaaGreat

namespace Go.Proofs.YtcbglcebdkpcfaaGreat
section
open Go.RowKit
set_option maxRecDepth 100000
set_option linter.unusedVariables false

set_option maxHeartbeats 1600000 in
theorem out_fields_112 (b q : Nat) (m : M) (vN vQ vD : Value) (xs : List UInt8) (w0 w : World) (hA : OA w0 w b q m vN vQ vD xs) (hm : MOk m) (hf : MFew m) (hx : xs.length ≤ 1000) (ht : m.ty = 112) :
    Calls Tryz.prog 52 #[.iface 131 (.pointer (some ⟨b, 0, none⟩)), .pointer (some ⟨q, 0, none⟩)] w (ODo w0 b q m vN vQ vD xs (outs m [.fid, .mode])) := by
  have c0 : w.cell? ⟨q, 0, none⟩ = some (.int .u8 112) := by rw [hA.cell 0]; show some (Value.int .u8 (m.ty : Int)) = _; rw [ht]; rfl
  have k := hid (out_files_112 b q m vN vQ vD xs w0 w hA hm hf hx ht)
  replace hA := hid hA
  clear ht
  go_enter Tryz.func52, Tryz.ntmps52
  go_wp2_with fail
  refine k.out.mono ?_
  rintro e w1 (⟨h1, rfl, h2⟩ | ⟨h1, rfl, h2⟩)
  · replace h1 := hid h1
    go_wp2_with fail
    go_end0
    exact .inl ⟨h1.out, rfl, h2⟩
  · replace h1 := hid h1
    go_wp2_with fail
    exact ⟨rfl, .inr ⟨h1.out, rfl, h2⟩⟩

set_option maxHeartbeats 1600000 in
theorem out_fields_113 (b q : Nat) (m : M) (vN vQ vD : Value) (xs : List UInt8) (w0 w : World) (hA : OA w0 w b q m vN vQ vD xs) (hm : MOk m) (hf : MFew m) (hx : xs.length ≤ 1000) (ht : m.ty = 113) :
    Calls Tryz.prog 52 #[.iface 131 (.pointer (some ⟨b, 0, none⟩)), .pointer (some ⟨q, 0, none⟩)] w (ODo w0 b q m vN vQ vD xs (outs m [.qid, .iounit])) := by
  have c0 : w.cell? ⟨q, 0, none⟩ = some (.int .u8 113) := by rw [hA.cell 0]; show some (Value.int .u8 (m.ty : Int)) = _; rw [ht]; rfl
  have k := hid (out_files_113 b q m vN vQ vD xs w0 w hA hm hf hx ht)
  replace hA := hid hA
  clear ht
  go_enter Tryz.func52, Tryz.ntmps52
  go_wp2_with fail
  refine k.out.mono ?_
  rintro e w1 (⟨h1, rfl, h2⟩ | ⟨h1, rfl, h2⟩)
  · replace h1 := hid h1
    go_wp2_with fail
    go_end0
    exact .inl ⟨h1.out, rfl, h2⟩
  · replace h1 := hid h1
    go_wp2_with fail
    exact ⟨rfl, .inr ⟨h1.out, rfl, h2⟩⟩

set_option maxHeartbeats 1600000 in
theorem out_fields_114 (b q : Nat) (m : M) (vN vQ vD : Value) (xs : List UInt8) (w0 w : World) (hA : OA w0 w b q m vN vQ vD xs) (hm : MOk m) (hf : MFew m) (hx : xs.length ≤ 1000) (ht : m.ty = 114) :
    Calls Tryz.prog 52 #[.iface 131 (.pointer (some ⟨b, 0, none⟩)), .pointer (some ⟨q, 0, none⟩)] w (ODo w0 b q m vN vQ vD xs (outs m [.fid, .name, .perm, .mode])) := by
  have c0 : w.cell? ⟨q, 0, none⟩ = some (.int .u8 114) := by rw [hA.cell 0]; show some (Value.int .u8 (m.ty : Int)) = _; rw [ht]; rfl
  have k := hid (out_files_114 b q m vN vQ vD xs w0 w hA hm hf hx ht)
  replace hA := hid hA
  clear ht
  go_enter Tryz.func52, Tryz.ntmps52
  go_wp2_with fail
  refine k.out.mono ?_
  rintro e w1 (⟨h1, rfl, h2⟩ | ⟨h1, rfl, h2⟩)
  · replace h1 := hid h1
    go_wp2_with fail
    go_end0
    exact .inl ⟨h1.out, rfl, h2⟩
  · replace h1 := hid h1
    go_wp2_with fail
    exact ⟨rfl, .inr ⟨h1.out, rfl, h2⟩⟩

set_option maxHeartbeats 1600000 in
theorem out_fields_115 (b q : Nat) (m : M) (vN vQ vD : Value) (xs : List UInt8) (w0 w : World) (hA : OA w0 w b q m vN vQ vD xs) (hm : MOk m) (hf : MFew m) (hx : xs.length ≤ 1000) (ht : m.ty = 115) :
    Calls Tryz.prog 52 #[.iface 131 (.pointer (some ⟨b, 0, none⟩)), .pointer (some ⟨q, 0, none⟩)] w (ODo w0 b q m vN vQ vD xs (outs m [.qid, .iounit])) := by
  have c0 : w.cell? ⟨q, 0, none⟩ = some (.int .u8 115) := by rw [hA.cell 0]; show some (Value.int .u8 (m.ty : Int)) = _; rw [ht]; rfl
  have k := hid (out_files_115 b q m vN vQ vD xs w0 w hA hm hf hx ht)
  replace hA := hid hA
  clear ht
  go_enter Tryz.func52, Tryz.ntmps52
  go_wp2_with fail
  refine k.out.mono ?_
  rintro e w1 (⟨h1, rfl, h2⟩ | ⟨h1, rfl, h2⟩)
  · replace h1 := hid h1
    go_wp2_with fail
    go_end0
    exact .inl ⟨h1.out, rfl, h2⟩
  · replace h1 := hid h1
    go_wp2_with fail
    exact ⟨rfl, .inr ⟨h1.out, rfl, h2⟩⟩

set_option maxHeartbeats 1600000 in
theorem out_fields_116 (b q : Nat) (m : M) (vN vQ vD : Value) (xs : List UInt8) (w0 w : World) (hA : OA w0 w b q m vN vQ vD xs) (hm : MOk m) (hf : MFew m) (hx : xs.length ≤ 1000) (ht : m.ty = 116) :
    Calls Tryz.prog 52 #[.iface 131 (.pointer (some ⟨b, 0, none⟩)), .pointer (some ⟨q, 0, none⟩)] w (ODo w0 b q m vN vQ vD xs (outs m [.fid, .offset, .count])) := by
  have c0 : w.cell? ⟨q, 0, none⟩ = some (.int .u8 116) := by rw [hA.cell 0]; show some (Value.int .u8 (m.ty : Int)) = _; rw [ht]; rfl
  have k := hid (out_files_116 b q m vN vQ vD xs w0 w hA hm hf hx ht)
  replace hA := hid hA
  clear ht
  go_enter Tryz.func52, Tryz.ntmps52
  go_wp2_with fail
  refine k.out.mono ?_
  rintro e w1 (⟨h1, rfl, h2⟩ | ⟨h1, rfl, h2⟩)
  · replace h1 := hid h1
    go_wp2_with fail
    go_end0
    exact .inl ⟨h1.out, rfl, h2⟩
  · replace h1 := hid h1
    go_wp2_with fail
    exact ⟨rfl, .inr ⟨h1.out, rfl, h2⟩⟩

set_option maxHeartbeats 1600000 in
theorem out_fields_117 (b q : Nat) (m : M) (vN vQ vD : Value) (xs : List UInt8) (w0 w : World) (hA : OA w0 w b q m vN vQ vD xs) (hm : MOk m) (hf : MFew m) (hx : xs.length ≤ 1000) (ht : m.ty = 117) :
    Calls Tryz.prog 52 #[.iface 131 (.pointer (some ⟨b, 0, none⟩)), .pointer (some ⟨q, 0, none⟩)] w (ODo w0 b q m vN vQ vD xs (outs m [.data])) := by
  have c0 : w.cell? ⟨q, 0, none⟩ = some (.int .u8 117) := by rw [hA.cell 0]; show some (Value.int .u8 (m.ty : Int)) = _; rw [ht]; rfl
  have k := hid (out_files_117 b q m vN vQ vD xs w0 w hA hm hf hx ht)
  replace hA := hid hA
  clear ht
  go_enter Tryz.func52, Tryz.ntmps52
  go_wp2_with fail
  refine k.out.mono ?_
  rintro e w1 (⟨h1, rfl, h2⟩ | ⟨h1, rfl, h2⟩)
  · replace h1 := hid h1
    go_wp2_with fail
    go_end0
    exact .inl ⟨h1.out, rfl, h2⟩
  · replace h1 := hid h1
    go_wp2_with fail
    exact ⟨rfl, .inr ⟨h1.out, rfl, h2⟩⟩

set_option maxHeartbeats 1600000 in
theorem out_fields_118 (b q : Nat) (m : M) (vN vQ vD : Value) (xs : List UInt8) (w0 w : World) (hA : OA w0 w b q m vN vQ vD xs) (hm : MOk m) (hf : MFew m) (hx : xs.length ≤ 1000) (ht : m.ty = 118) :
    Calls Tryz.prog 52 #[.iface 131 (.pointer (some ⟨b, 0, none⟩)), .pointer (some ⟨q, 0, none⟩)] w (ODo w0 b q m vN vQ vD xs (outs m [.fid, .offset, .data])) := by
  have c0 : w.cell? ⟨q, 0, none⟩ = some (.int .u8 118) := by rw [hA.cell 0]; show some (Value.int .u8 (m.ty : Int)) = _; rw [ht]; rfl
  have k := hid (out_files_118 b q m vN vQ vD xs w0 w hA hm hf hx ht)
  replace hA := hid hA
  clear ht
  go_enter Tryz.func52, Tryz.ntmps52
  go_wp2_with fail
  refine k.out.mono ?_
  rintro e w1 (⟨h1, rfl, h2⟩ | ⟨h1, rfl, h2⟩)
  · replace h1 := hid h1
    go_wp2_with fail
    go_end0
    exact .inl ⟨h1.out, rfl, h2⟩
  · replace h1 := hid h1
    go_wp2_with fail
    exact ⟨rfl, .inr ⟨h1.out, rfl, h2⟩⟩

set_option maxHeartbeats 1600000 in
theorem out_fields_119 (b q : Nat) (m : M) (vN vQ vD : Value) (xs : List UInt8) (w0 w : World) (hA : OA w0 w b q m vN vQ vD xs) (hm : MOk m) (hf : MFew m) (hx : xs.length ≤ 1000) (ht : m.ty = 119) :
    Calls Tryz.prog 52 #[.iface 131 (.pointer (some ⟨b, 0, none⟩)), .pointer (some ⟨q, 0, none⟩)] w (ODo w0 b q m vN vQ vD xs (outs m [.count])) := by
  have c0 : w.cell? ⟨q, 0, none⟩ = some (.int .u8 119) := by rw [hA.cell 0]; show some (Value.int .u8 (m.ty : Int)) = _; rw [ht]; rfl
  have k := hid (out_files_119 b q m vN vQ vD xs w0 w hA hm hf hx ht)
  replace hA := hid hA
  clear ht
  go_enter Tryz.func52, Tryz.ntmps52
  go_wp2_with fail
  refine k.out.mono ?_
  rintro e w1 (⟨h1, rfl, h2⟩ | ⟨h1, rfl, h2⟩)
  · replace h1 := hid h1
    go_wp2_with fail
    go_end0
    exact .inl ⟨h1.out, rfl, h2⟩
  · replace h1 := hid h1
    go_wp2_with fail
    exact ⟨rfl, .inr ⟨h1.out, rfl, h2⟩⟩

set_option maxHeartbeats 1600000 in
theorem out_fields_120 (b q : Nat) (m : M) (vN vQ vD : Value) (xs : List UInt8) (w0 w : World) (hA : OA w0 w b q m vN vQ vD xs) (hm : MOk m) (hf : MFew m) (hx : xs.length ≤ 1000) (ht : m.ty = 120) :
    Calls Tryz.prog 52 #[.iface 131 (.pointer (some ⟨b, 0, none⟩)), .pointer (some ⟨q, 0, none⟩)] w (ODo w0 b q m vN vQ vD xs (outs m [.fid])) := by
  have c0 : w.cell? ⟨q, 0, none⟩ = some (.int .u8 120) := by rw [hA.cell 0]; show some (Value.int .u8 (m.ty : Int)) = _; rw [ht]; rfl
  have k := hid (out_files_120 b q m vN vQ vD xs w0 w hA hm hf hx ht)
  replace hA := hid hA
  clear ht
  go_enter Tryz.func52, Tryz.ntmps52
  go_wp2_with fail
  refine k.out.mono ?_
  rintro e w1 (⟨h1, rfl, h2⟩ | ⟨h1, rfl, h2⟩)
  · replace h1 := hid h1
    go_wp2_with fail
    go_end0
    exact .inl ⟨h1.out, rfl, h2⟩
  · replace h1 := hid h1
    go_wp2_with fail
    exact ⟨rfl, .inr ⟨h1.out, rfl, h2⟩⟩

set_option maxHeartbeats 1600000 in
theorem out_fields_122 (b q : Nat) (m : M) (vN vQ vD : Value) (xs : List UInt8) (w0 w : World) (hA : OA w0 w b q m vN vQ vD xs) (hm : MOk m) (hf : MFew m) (hx : xs.length ≤ 1000) (ht : m.ty = 122) :
    Calls Tryz.prog 52 #[.iface 131 (.pointer (some ⟨b, 0, none⟩)), .pointer (some ⟨q, 0, none⟩)] w (ODo w0 b q m vN vQ vD xs (outs m [.fid])) := by
  have c0 : w.cell? ⟨q, 0, none⟩ = some (.int .u8 122) := by rw [hA.cell 0]; show some (Value.int .u8 (m.ty : Int)) = _; rw [ht]; rfl
  have k := hid (out_files_122 b q m vN vQ vD xs w0 w hA hm hf hx ht)
  replace hA := hid hA
  clear ht
  go_enter Tryz.func52, Tryz.ntmps52
  go_wp2_with fail
  refine k.out.mono ?_
  rintro e w1 (⟨h1, rfl, h2⟩ | ⟨h1, rfl, h2⟩)
  · replace h1 := hid h1
    go_wp2_with fail
    go_end0
    exact .inl ⟨h1.out, rfl, h2⟩
  · replace h1 := hid h1
    go_wp2_with fail
    exact ⟨rfl, .inr ⟨h1.out, rfl, h2⟩⟩

set_option maxHeartbeats 1600000 in
theorem out_fields_124 (b q : Nat) (m : M) (vN vQ vD : Value) (xs : List UInt8) (w0 w : World) (hA : OA w0 w b q m vN vQ vD xs) (hm : MOk m) (hf : MFew m) (hx : xs.length ≤ 1000) (ht : m.ty = 124) :
    Calls Tryz.prog 52 #[.iface 131 (.pointer (some ⟨b, 0, none⟩)), .pointer (some ⟨q, 0, none⟩)] w (ODo w0 b q m vN vQ vD xs (outs m [.fid])) := by
  have c0 : w.cell? ⟨q, 0, none⟩ = some (.int .u8 124) := by rw [hA.cell 0]; show some (Value.int .u8 (m.ty : Int)) = _; rw [ht]; rfl
  have k := hid (out_files_124 b q m vN vQ vD xs w0 w hA hm hf hx ht)
  replace hA := hid hA
  clear ht
  go_enter Tryz.func52, Tryz.ntmps52
  go_wp2_with fail
  refine k.out.mono ?_
  rintro e w1 (⟨h1, rfl, h2⟩ | ⟨h1, rfl, h2⟩)
  · replace h1 := hid h1
    go_wp2_with fail
    go_end0
    exact .inl ⟨h1.out, rfl, h2⟩
  · replace h1 := hid h1
    go_wp2_with fail
    exact ⟨rfl, .inr ⟨h1.out, rfl, h2⟩⟩

set_option maxHeartbeats 1600000 in
theorem out_fields_125 (b q : Nat) (m : M) (vN vQ vD : Value) (xs : List UInt8) (w0 w : World) (hA : OA w0 w b q m vN vQ vD xs) (hm : MOk m) (hf : MFew m) (hx : xs.length ≤ 1000) (ht : m.ty = 125) :
    Calls Tryz.prog 52 #[.iface 131 (.pointer (some ⟨b, 0, none⟩)), .pointer (some ⟨q, 0, none⟩)] w (ODo w0 b q m vN vQ vD xs (outs m [.stat])) := by
  have c0 : w.cell? ⟨q, 0, none⟩ = some (.int .u8 125) := by rw [hA.cell 0]; show some (Value.int .u8 (m.ty : Int)) = _; rw [ht]; rfl
  have k := hid (out_files_125 b q m vN vQ vD xs w0 w hA hm hf hx ht)
  replace hA := hid hA
  clear ht
  go_enter Tryz.func52, Tryz.ntmps52
  go_wp2_with fail
  refine k.out.mono ?_
  rintro e w1 (⟨h1, rfl, h2⟩ | ⟨h1, rfl, h2⟩)
  · replace h1 := hid h1
    go_wp2_with fail
    go_end0
    exact .inl ⟨h1.out, rfl, h2⟩
  · replace h1 := hid h1
    go_wp2_with fail
    exact ⟨rfl, .inr ⟨h1.out, rfl, h2⟩⟩

set_option maxHeartbeats 1600000 in
theorem out_fields_126 (b q : Nat) (m : M) (vN vQ vD : Value) (xs : List UInt8) (w0 w : World) (hA : OA w0 w b q m vN vQ vD xs) (hm : MOk m) (hf : MFew m) (hx : xs.length ≤ 1000) (ht : m.ty = 126) :
    Calls Tryz.prog 52 #[.iface 131 (.pointer (some ⟨b, 0, none⟩)), .pointer (some ⟨q, 0, none⟩)] w (ODo w0 b q m vN vQ vD xs (outs m [.fid, .stat])) := by
  have c0 : w.cell? ⟨q, 0, none⟩ = some (.int .u8 126) := by rw [hA.cell 0]; show some (Value.int .u8 (m.ty : Int)) = _; rw [ht]; rfl
  have k := hid (out_files_126 b q m vN vQ vD xs w0 w hA hm hf hx ht)
  replace hA := hid hA
  clear ht
  go_enter Tryz.func52, Tryz.ntmps52
  go_wp2_with fail
  refine k.out.mono ?_
  rintro e w1 (⟨h1, rfl, h2⟩ | ⟨h1, rfl, h2⟩)
  · replace h1 := hid h1
    go_wp2_with fail
    go_end0
    exact .inl ⟨h1.out, rfl, h2⟩
  · replace h1 := hid h1
    go_wp2_with fail
    exact ⟨rfl, .inr ⟨h1.out, rfl, h2⟩⟩

set_option maxHeartbeats 1600000 in
theorem out_fields_109 (b q : Nat) (m : M) (vN vQ vD : Value) (xs : List UInt8) (w0 w : World) (hA : OA w0 w b q m vN vQ vD xs) (hm : MOk m) (hf : MFew m) (hx : xs.length ≤ 1000) (ht : m.ty = 109) :
    Calls Tryz.prog 52 #[.iface 131 (.pointer (some ⟨b, 0, none⟩)), .pointer (some ⟨q, 0, none⟩)] w (ODo w0 b q m vN vQ vD xs (outs m [])) := by
  have c0 : w.cell? ⟨q, 0, none⟩ = some (.int .u8 109) := by rw [hA.cell 0]; show some (Value.int .u8 (m.ty : Int)) = _; rw [ht]; rfl
  have k := hid (out_files_109 b q m vN vQ vD xs w0 w hA hm hf hx ht)
  replace hA := hid hA
  clear ht
  go_enter Tryz.func52, Tryz.ntmps52
  go_wp2_with fail
  refine k.out.mono ?_
  rintro e w1 (⟨h1, rfl, h2⟩ | ⟨h1, rfl, h2⟩)
  · replace h1 := hid h1
    go_wp2_with fail
    go_end0
    exact .inl ⟨h1.out, rfl, h2⟩
  · replace h1 := hid h1
    go_wp2_with fail
    exact ⟨rfl, .inr ⟨h1.out, rfl, h2⟩⟩

set_option maxHeartbeats 1600000 in
theorem out_fields_121 (b q : Nat) (m : M) (vN vQ vD : Value) (xs : List UInt8) (w0 w : World) (hA : OA w0 w b q m vN vQ vD xs) (hm : MOk m) (hf : MFew m) (hx : xs.length ≤ 1000) (ht : m.ty = 121) :
    Calls Tryz.prog 52 #[.iface 131 (.pointer (some ⟨b, 0, none⟩)), .pointer (some ⟨q, 0, none⟩)] w (ODo w0 b q m vN vQ vD xs (outs m [])) := by
  have c0 : w.cell? ⟨q, 0, none⟩ = some (.int .u8 121) := by rw [hA.cell 0]; show some (Value.int .u8 (m.ty : Int)) = _; rw [ht]; rfl
  have k := hid (out_files_121 b q m vN vQ vD xs w0 w hA hm hf hx ht)
  replace hA := hid hA
  clear ht
  go_enter Tryz.func52, Tryz.ntmps52
  go_wp2_with fail
  refine k.out.mono ?_
  rintro e w1 (⟨h1, rfl, h2⟩ | ⟨h1, rfl, h2⟩)
  · replace h1 := hid h1
    go_wp2_with fail
    go_end0
    exact .inl ⟨h1.out, rfl, h2⟩
  · replace h1 := hid h1
    go_wp2_with fail
    exact ⟨rfl, .inr ⟨h1.out, rfl, h2⟩⟩

set_option maxHeartbeats 1600000 in
theorem out_fields_123 (b q : Nat) (m : M) (vN vQ vD : Value) (xs : List UInt8) (w0 w : World) (hA : OA w0 w b q m vN vQ vD xs) (hm : MOk m) (hf : MFew m) (hx : xs.length ≤ 1000) (ht : m.ty = 123) :
    Calls Tryz.prog 52 #[.iface 131 (.pointer (some ⟨b, 0, none⟩)), .pointer (some ⟨q, 0, none⟩)] w (ODo w0 b q m vN vQ vD xs (outs m [])) := by
  have c0 : w.cell? ⟨q, 0, none⟩ = some (.int .u8 123) := by rw [hA.cell 0]; show some (Value.int .u8 (m.ty : Int)) = _; rw [ht]; rfl
  have k := hid (out_files_123 b q m vN vQ vD xs w0 w hA hm hf hx ht)
  replace hA := hid hA
  clear ht
  go_enter Tryz.func52, Tryz.ntmps52
  go_wp2_with fail
  refine k.out.mono ?_
  rintro e w1 (⟨h1, rfl, h2⟩ | ⟨h1, rfl, h2⟩)
  · replace h1 := hid h1
    go_wp2_with fail
    go_end0
    exact .inl ⟨h1.out, rfl, h2⟩
  · replace h1 := hid h1
    go_wp2_with fail
    exact ⟨rfl, .inr ⟨h1.out, rfl, h2⟩⟩

set_option maxHeartbeats 1600000 in
theorem out_fields_127 (b q : Nat) (m : M) (vN vQ vD : Value) (xs : List UInt8) (w0 w : World) (hA : OA w0 w b q m vN vQ vD xs) (hm : MOk m) (hf : MFew m) (hx : xs.length ≤ 1000) (ht : m.ty = 127) :
    Calls Tryz.prog 52 #[.iface 131 (.pointer (some ⟨b, 0, none⟩)), .pointer (some ⟨q, 0, none⟩)] w (ODo w0 b q m vN vQ vD xs (outs m [])) := by
  have c0 : w.cell? ⟨q, 0, none⟩ = some (.int .u8 127) := by rw [hA.cell 0]; show some (Value.int .u8 (m.ty : Int)) = _; rw [ht]; rfl
  have k := hid (out_files_127 b q m vN vQ vD xs w0 w hA hm hf hx ht)
  replace hA := hid hA
  clear ht
  go_enter Tryz.func52, Tryz.ntmps52
  go_wp2_with fail
  refine k.out.mono ?_
  rintro e w1 (⟨h1, rfl, h2⟩ | ⟨h1, rfl, h2⟩)
  · replace h1 := hid h1
    go_wp2_with fail
    go_end0
    exact .inl ⟨h1.out, rfl, h2⟩
  · replace h1 := hid h1
    go_wp2_with fail
    exact ⟨rfl, .inr ⟨h1.out, rfl, h2⟩⟩

def knownT (t : Nat) : Bool := decide (100 ≤ t) && decide (t ≤ 127) && decide (t ≠ 106)
theorem out_fields_any (b q : Nat) (m : M) (vN vQ vD : Value) (xs : List UInt8) (w0 w : World) (hA : OA w0 w b q m vN vQ vD xs) (hm : MOk m) (hf : MFew m) (hx : xs.length ≤ 1000) (hk : knownT m.ty = true) :
    Calls Tryz.prog 52 #[.iface 131 (.pointer (some ⟨b, 0, none⟩)), .pointer (some ⟨q, 0, none⟩)] w (ODo w0 b q m vN vQ vD xs (outs m (slots m.ty))) := by
  have hk' : (100 ≤ m.ty ∧ m.ty ≤ 127) ∧ m.ty ≠ 106 := by simpa [knownT] using hk
  have hr : m.ty = 100 ∨ m.ty = 101 ∨ m.ty = 102 ∨ m.ty = 103 ∨ m.ty = 104 ∨ m.ty = 105 ∨ m.ty = 107 ∨ m.ty = 108 ∨ m.ty = 109 ∨ m.ty = 110 ∨ m.ty = 111 ∨ m.ty = 112 ∨ m.ty = 113 ∨ m.ty = 114 ∨ m.ty = 115 ∨ m.ty = 116 ∨ m.ty = 117 ∨ m.ty = 118 ∨ m.ty = 119 ∨ m.ty = 120 ∨ m.ty = 121 ∨ m.ty = 122 ∨ m.ty = 123 ∨ m.ty = 124 ∨ m.ty = 125 ∨ m.ty = 126 ∨ m.ty = 127 := by omega
  rcases hr with h | h | h | h | h | h | h | h | h | h | h | h | h | h | h | h | h | h | h | h | h | h | h | h | h | h | h
  · have := out_fields_100 b q m vN vQ vD xs w0 w hA hm hf hx h
    rw [h]; exact this
  · have := out_fields_101 b q m vN vQ vD xs w0 w hA hm hf hx h
    rw [h]; exact this
  · have := out_fields_102 b q m vN vQ vD xs w0 w hA hm hf hx h
    rw [h]; exact this
  · have := out_fields_103 b q m vN vQ vD xs w0 w hA hm hf hx h
    rw [h]; exact this
  · have := out_fields_104 b q m vN vQ vD xs w0 w hA hm hf hx h
    rw [h]; exact this
  · have := out_fields_105 b q m vN vQ vD xs w0 w hA hm hf hx h
    rw [h]; exact this
  · have := out_fields_107 b q m vN vQ vD xs w0 w hA hm hf hx h
    rw [h]; exact this
  · have := out_fields_108 b q m vN vQ vD xs w0 w hA hm hf hx h
    rw [h]; exact this
  · have := out_fields_109 b q m vN vQ vD xs w0 w hA hm hf hx h
    rw [h]; exact this
  · have := out_fields_110 b q m vN vQ vD xs w0 w hA hm hf hx h
    rw [h]; exact this
  · have := out_fields_111 b q m vN vQ vD xs w0 w hA hm hf hx h
    rw [h]; exact this
  · have := out_fields_112 b q m vN vQ vD xs w0 w hA hm hf hx h
    rw [h]; exact this
  · have := out_fields_113 b q m vN vQ vD xs w0 w hA hm hf hx h
    rw [h]; exact this
  · have := out_fields_114 b q m vN vQ vD xs w0 w hA hm hf hx h
    rw [h]; exact this
  · have := out_fields_115 b q m vN vQ vD xs w0 w hA hm hf hx h
    rw [h]; exact this
  · have := out_fields_116 b q m vN vQ vD xs w0 w hA hm hf hx h
    rw [h]; exact this
  · have := out_fields_117 b q m vN vQ vD xs w0 w hA hm hf hx h
    rw [h]; exact this
  · have := out_fields_118 b q m vN vQ vD xs w0 w hA hm hf hx h
    rw [h]; exact this
  · have := out_fields_119 b q m vN vQ vD xs w0 w hA hm hf hx h
    rw [h]; exact this
  · have := out_fields_120 b q m vN vQ vD xs w0 w hA hm hf hx h
    rw [h]; exact this
  · have := out_fields_121 b q m vN vQ vD xs w0 w hA hm hf hx h
    rw [h]; exact this
  · have := out_fields_122 b q m vN vQ vD xs w0 w hA hm hf hx h
    rw [h]; exact this
  · have := out_fields_123 b q m vN vQ vD xs w0 w hA hm hf hx h
    rw [h]; exact this
  · have := out_fields_124 b q m vN vQ vD xs w0 w hA hm hf hx h
    rw [h]; exact this
  · have := out_fields_125 b q m vN vQ vD xs w0 w hA hm hf hx h
    rw [h]; exact this
  · have := out_fields_126 b q m vN vQ vD xs w0 w hA hm hf hx h
    rw [h]; exact this
  · have := out_fields_127 b q m vN vQ vD xs w0 w hA hm hf hx h
    rw [h]; exact this
end
end Go.Proofs.YtcbglcebdkpcfaaGreat

namespace Go.Proofs.YtcbglcebdkpcfaaGreat
section
open Go.RowKit
set_option maxRecDepth 100000
set_option linter.unusedVariables false

theorem known_any (t : Nat) (w : World) (ht : t < 256) : Calls Tryz.prog 59 #[.int .u8 (t : Int)] w fun e w' => e = .returned (.bool (knownT t)) ∧ w = w' := by
  by_cases h1 : 100 ≤ t
  · by_cases h2 : t ≤ 127
    · have hk : Hid (knownT t = decide (t ≠ 106)) := hid (by unfold knownT; simp [h1, h2])
      go_enter Tryz.func59, Tryz.ntmps59
      go_wp2
      all_goals
        go_ret
        rw [hk.out]
        refine ⟨ret_bool ?_, rfl⟩
        first | omega | (simp; omega) | (by_cases h : t = 106 <;> simp [h] <;> omega)
    · have hk : Hid (knownT t = false) := hid (by unfold knownT; simp [h2])
      go_enter Tryz.func59, Tryz.ntmps59
      go_wp2
      all_goals
        go_ret
        rw [hk.out]
        exact ⟨rfl, rfl⟩
  · have hk : Hid (knownT t = false) := hid (by unfold knownT; simp [h1])
    go_enter Tryz.func59, Tryz.ntmps59
    go_wp2
    all_goals
      go_ret
      rw [hk.out]
      exact ⟨rfl, rfl⟩

theorem mcaught_panicking (k : Nat) (e0 : Int) (e : Nat) (w : World) (h : w.heap[k]? = some (.cells #[.int .i64 e0] 43 (0, 0))) :
    CallsD Tryz.prog 68 #[.pointer (some ⟨k, 0, none⟩)] (.panicking (errChain e)) w fun en u' w' =>
      en = .returned (.tuple #[]) ∧ u' = .panicking (errChainR e) ∧ w' = w.setCell ⟨k, 0, none⟩ (.int .i64 (e : Int)) := by
  have hc1 : w.cell? ⟨k, 0, none⟩ = some (.int .i64 e0) := block_cell h 0
  have hf1 : w.frozen? ⟨k, 0, none⟩ = false := block_free h 0
  clear h
  have hta := assert_errno
  refine callsD_of_wpS Tryz.func68 rfl fun c₀ cs hu => ?_
  apply wpS_seq
  apply wpS_region
  simp [wpOpsS, go_sem, recoverD, hu, errChain, Tryz.ntmps68, Exit.thenS, Array.replicate_succ]
  apply wpS_body
  go_wp2
  go_end0
  exact ⟨rfl, rfl, rfl⟩
theorem mcaught_idle (k : Nat) (w : World) :
    CallsD Tryz.prog 68 #[.pointer (some ⟨k, 0, none⟩)] .returning w fun en u' w' => en = .returned (.tuple #[]) ∧ u' = .returning ∧ w = w' := by
  refine callsD_of_wpS Tryz.func68 rfl fun c₀ cs hu => ?_
  apply wpS_seq
  apply wpS_region
  simp [wpOpsS, go_sem, recoverD, hu, Tryz.ntmps68, Exit.thenS, Array.replicate_succ]
  rw [show c₀ = { c₀ with mode := .returning } from by cases c₀; simp_all]
  apply wpS_body
  go_wp2
  go_end0
  exact ⟨rfl, rfl⟩
end
end Go.Proofs.YtcbglcebdkpcfaaGreat
