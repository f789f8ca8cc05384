/- What fields of msg writes, types 112, 113, 114, 115, 116, 117. Conditions: texts of at most a thousand bytes each. -/
import Derived.Test.YtonhliipbdniiaaBunG
namespace Go.Proofs.Ytonhliipbdniiaa
open Go.RowKit
set_option maxRecDepth 100000
set_option linter.unusedVariables false

set_option maxHeartbeats 1600000 in
theorem out_files_112 (b q : Nat) (m : M) (vN vQ vD : Value) (xs : List UInt8) (w0 w : World) (hA : OA w0 w b q m vN vQ vD xs) (hm : MOk m) (hf : MFew m) (hx : xs.length ≤ 1000) (ht : m.ty = 112) :
    Calls Try.prog 85 #[.iface 97 (.pointer (some ⟨b, 0, none⟩)), .pointer (some ⟨q, 0, none⟩)] w (ODo w0 b q m vN vQ vD xs (outs m [.fid, .mode])) := by
  have n0 := nil_o_u32
  have m0 := met_o_u32
  have n1 := nil_o_u8
  have m1 := met_o_u8
  have c0 : w.cell? ⟨q, 0, none⟩ = some (.int .u8 112) := by rw [hA.cell 0]; show some (Value.int .u8 (m.ty : Int)) = _; rw [ht]; rfl
  replace hA := hid hA
  replace hm := hid hm
  replace hf := hid hf
  clear ht
  go_enter Try.func85, Try.ntmps85
  go_wp2_with fail
  have k0 := hid (o_fid b q m vN vQ vD _ w0 w.drew hA.out.drew hm.out hf.out (by omega))
  go_region_with (go_at_call 144; refine k0.out.mono ?_; rintro e w1 ⟨rfl, hA1⟩)
  replace hA1 := hid hA1
  have hx1 := slots_len hf.out .fid rfl hx
  clear k0
  go_wp2_with fail
  have k1 := hid (o_mode b q m vN vQ vD _ w0 w1.drew hA1.out.drew hm.out hf.out (by omega))
  go_region_with (go_at_call 56; refine k1.out.mono ?_; rintro e w2 ⟨rfl, hA2⟩)
  replace hA2 := hid hA2
  have hx2 := slots_len hf.out .mode rfl hx1
  clear k1
  go_wp2_with fail
  go_end0
  exact ODo_cons rfl (ODo_cons rfl (ODo_nil ⟨rfl, hA2.out⟩))

set_option maxHeartbeats 1600000 in
theorem out_files_113 (b q : Nat) (m : M) (vN vQ vD : Value) (xs : List UInt8) (w0 w : World) (hA : OA w0 w b q m vN vQ vD xs) (hm : MOk m) (hf : MFew m) (hx : xs.length ≤ 1000) (ht : m.ty = 113) :
    Calls Try.prog 85 #[.iface 97 (.pointer (some ⟨b, 0, none⟩)), .pointer (some ⟨q, 0, none⟩)] w (ODo w0 b q m vN vQ vD xs (outs m [.qid, .iounit])) := by
  have n0 := nil_o_qid
  have m0 := met_o_qid
  have n1 := nil_o_u32
  have m1 := met_o_u32
  have c0 : w.cell? ⟨q, 0, none⟩ = some (.int .u8 113) := by rw [hA.cell 0]; show some (Value.int .u8 (m.ty : Int)) = _; rw [ht]; rfl
  replace hA := hid hA
  replace hm := hid hm
  replace hf := hid hf
  clear ht
  go_enter Try.func85, Try.ntmps85
  go_wp2_with fail
  have k0 := hid (o_qid b q m vN vQ vD _ w0 w.drew hA.out.drew hm.out hf.out (by omega))
  go_region_with (go_at_call 139; refine k0.out.mono ?_; rintro e w1 ⟨rfl, hA1⟩)
  replace hA1 := hid hA1
  have hx1 := slots_len hf.out .qid rfl hx
  clear k0
  go_wp2_with fail
  have k1 := hid (o_iounit b q m vN vQ vD _ w0 w1.drew hA1.out.drew hm.out hf.out (by omega))
  go_region_with (go_at_call 144; refine k1.out.mono ?_; rintro e w2 ⟨rfl, hA2⟩)
  replace hA2 := hid hA2
  have hx2 := slots_len hf.out .iounit rfl hx1
  clear k1
  go_wp2_with fail
  go_end0
  exact ODo_cons rfl (ODo_cons rfl (ODo_nil ⟨rfl, hA2.out⟩))

set_option maxHeartbeats 1600000 in
theorem out_files_114 (b q : Nat) (m : M) (vN vQ vD : Value) (xs : List UInt8) (w0 w : World) (hA : OA w0 w b q m vN vQ vD xs) (hm : MOk m) (hf : MFew m) (hx : xs.length ≤ 1000) (ht : m.ty = 114) :
    Calls Try.prog 85 #[.iface 97 (.pointer (some ⟨b, 0, none⟩)), .pointer (some ⟨q, 0, none⟩)] w (ODo w0 b q m vN vQ vD xs (outs m [.fid, .name, .perm, .mode])) := by
  have n0 := nil_o_u32
  have m0 := met_o_u32
  have n1 := nil_o_text
  have m1 := met_o_text
  have n2 := nil_o_u8
  have m2 := met_o_u8
  have c0 : w.cell? ⟨q, 0, none⟩ = some (.int .u8 114) := by rw [hA.cell 0]; show some (Value.int .u8 (m.ty : Int)) = _; rw [ht]; rfl
  replace hA := hid hA
  replace hm := hid hm
  replace hf := hid hf
  clear ht
  go_enter Try.func85, Try.ntmps85
  go_wp2_with fail
  have k0 := hid (o_fid b q m vN vQ vD _ w0 w.drew hA.out.drew hm.out hf.out (by omega))
  go_region_with (go_at_call 144; refine k0.out.mono ?_; rintro e w1 ⟨rfl, hA1⟩)
  replace hA1 := hid hA1
  have hx1 := slots_len hf.out .fid rfl hx
  clear k0
  go_wp2_with fail
  by_cases he1 : (Slot.o m .name).1 = 0
  case neg =>
    have k1 := hid (o_name_bad b q m vN vQ vD _ w0 w1.drew hA1.out.drew hm.out hf.out (by omega) he1)
    replace he1 := hid he1
    go_region_with (go_at_call 142; refine k1.out.mono ?_; rintro e w2 ⟨rfl, hs1⟩; refine fakeAny ⟨rfl, ODo_cons rfl (ODo_bad he1.out ⟨rfl, hs1⟩)⟩ ?_)
    all_goals trivial
  have k1 := hid (o_name b q m vN vQ vD _ w0 w1.drew hA1.out.drew hm.out hf.out (by omega) he1)
  replace he1 := hid he1
  go_region_with (go_at_call 142; refine k1.out.mono ?_; rintro e w2 ⟨rfl, hA2⟩)
  replace hA2 := hid hA2
  have hx2 := slots_len hf.out .name he1.out hx1
  clear k1
  go_wp2_with fail
  have k2 := hid (o_perm b q m vN vQ vD _ w0 w2.drew hA2.out.drew hm.out hf.out (by omega))
  go_region_with (go_at_call 144; refine k2.out.mono ?_; rintro e w3 ⟨rfl, hA3⟩)
  replace hA3 := hid hA3
  have hx3 := slots_len hf.out .perm rfl hx2
  clear k2
  go_wp2_with fail
  have k3 := hid (o_mode b q m vN vQ vD _ w0 w3.drew hA3.out.drew hm.out hf.out (by omega))
  go_region_with (go_at_call 56; refine k3.out.mono ?_; rintro e w4 ⟨rfl, hA4⟩)
  replace hA4 := hid hA4
  have hx4 := slots_len hf.out .mode rfl hx3
  clear k3
  go_wp2_with fail
  go_end0
  exact ODo_cons rfl (ODo_cons he1.out (ODo_cons rfl (ODo_cons rfl (ODo_nil ⟨rfl, hA4.out⟩))))

set_option maxHeartbeats 1600000 in
theorem out_files_115 (b q : Nat) (m : M) (vN vQ vD : Value) (xs : List UInt8) (w0 w : World) (hA : OA w0 w b q m vN vQ vD xs) (hm : MOk m) (hf : MFew m) (hx : xs.length ≤ 1000) (ht : m.ty = 115) :
    Calls Try.prog 85 #[.iface 97 (.pointer (some ⟨b, 0, none⟩)), .pointer (some ⟨q, 0, none⟩)] w (ODo w0 b q m vN vQ vD xs (outs m [.qid, .iounit])) := by
  have n0 := nil_o_qid
  have m0 := met_o_qid
  have n1 := nil_o_u32
  have m1 := met_o_u32
  have c0 : w.cell? ⟨q, 0, none⟩ = some (.int .u8 115) := by rw [hA.cell 0]; show some (Value.int .u8 (m.ty : Int)) = _; rw [ht]; rfl
  replace hA := hid hA
  replace hm := hid hm
  replace hf := hid hf
  clear ht
  go_enter Try.func85, Try.ntmps85
  go_wp2_with fail
  have k0 := hid (o_qid b q m vN vQ vD _ w0 w.drew hA.out.drew hm.out hf.out (by omega))
  go_region_with (go_at_call 139; refine k0.out.mono ?_; rintro e w1 ⟨rfl, hA1⟩)
  replace hA1 := hid hA1
  have hx1 := slots_len hf.out .qid rfl hx
  clear k0
  go_wp2_with fail
  have k1 := hid (o_iounit b q m vN vQ vD _ w0 w1.drew hA1.out.drew hm.out hf.out (by omega))
  go_region_with (go_at_call 144; refine k1.out.mono ?_; rintro e w2 ⟨rfl, hA2⟩)
  replace hA2 := hid hA2
  have hx2 := slots_len hf.out .iounit rfl hx1
  clear k1
  go_wp2_with fail
  go_end0
  exact ODo_cons rfl (ODo_cons rfl (ODo_nil ⟨rfl, hA2.out⟩))

set_option maxHeartbeats 1600000 in
theorem out_files_116 (b q : Nat) (m : M) (vN vQ vD : Value) (xs : List UInt8) (w0 w : World) (hA : OA w0 w b q m vN vQ vD xs) (hm : MOk m) (hf : MFew m) (hx : xs.length ≤ 1000) (ht : m.ty = 116) :
    Calls Try.prog 85 #[.iface 97 (.pointer (some ⟨b, 0, none⟩)), .pointer (some ⟨q, 0, none⟩)] w (ODo w0 b q m vN vQ vD xs (outs m [.fid, .offset, .count])) := by
  have n0 := nil_o_u32
  have m0 := met_o_u32
  have n1 := nil_o_u64
  have m1 := met_o_u64
  have c0 : w.cell? ⟨q, 0, none⟩ = some (.int .u8 116) := by rw [hA.cell 0]; show some (Value.int .u8 (m.ty : Int)) = _; rw [ht]; rfl
  replace hA := hid hA
  replace hm := hid hm
  replace hf := hid hf
  clear ht
  go_enter Try.func85, Try.ntmps85
  go_wp2_with fail
  have k0 := hid (o_fid b q m vN vQ vD _ w0 w.drew hA.out.drew hm.out hf.out (by omega))
  go_region_with (go_at_call 144; refine k0.out.mono ?_; rintro e w1 ⟨rfl, hA1⟩)
  replace hA1 := hid hA1
  have hx1 := slots_len hf.out .fid rfl hx
  clear k0
  go_wp2_with fail
  have k1 := hid (o_offset b q m vN vQ vD _ w0 w1.drew hA1.out.drew hm.out hf.out (by omega))
  go_region_with (go_at_call 145; refine k1.out.mono ?_; rintro e w2 ⟨rfl, hA2⟩)
  replace hA2 := hid hA2
  have hx2 := slots_len hf.out .offset rfl hx1
  clear k1
  go_wp2_with fail
  have k2 := hid (o_count b q m vN vQ vD _ w0 w2.drew hA2.out.drew hm.out hf.out (by omega))
  go_region_with (go_at_call 144; refine k2.out.mono ?_; rintro e w3 ⟨rfl, hA3⟩)
  replace hA3 := hid hA3
  have hx3 := slots_len hf.out .count rfl hx2
  clear k2
  go_wp2_with fail
  go_end0
  exact ODo_cons rfl (ODo_cons rfl (ODo_cons rfl (ODo_nil ⟨rfl, hA3.out⟩)))

set_option maxHeartbeats 1600000 in
theorem out_files_117 (b q : Nat) (m : M) (vN vQ vD : Value) (xs : List UInt8) (w0 w : World) (hA : OA w0 w b q m vN vQ vD xs) (hm : MOk m) (hf : MFew m) (hx : xs.length ≤ 1000) (ht : m.ty = 117) :
    Calls Try.prog 85 #[.iface 97 (.pointer (some ⟨b, 0, none⟩)), .pointer (some ⟨q, 0, none⟩)] w (ODo w0 b q m vN vQ vD xs (outs m [.data])) := by
  have n0 := nil_o_data
  have m0 := met_o_data
  have c0 : w.cell? ⟨q, 0, none⟩ = some (.int .u8 117) := by rw [hA.cell 0]; show some (Value.int .u8 (m.ty : Int)) = _; rw [ht]; rfl
  replace hA := hid hA
  replace hm := hid hm
  replace hf := hid hf
  clear ht
  go_enter Try.func85, Try.ntmps85
  go_wp2_with fail
  by_cases he0 : (Slot.o m .data).1 = 0
  case neg =>
    have k0 := hid (o_data_bad b q m vN vQ vD _ w0 w.drew hA.out.drew hm.out hf.out (by omega) he0)
    replace he0 := hid he0
    go_region_with (go_at_call 137; refine k0.out.mono ?_; rintro e w1 ⟨rfl, hs0⟩; refine fakeAny ⟨rfl, ODo_bad he0.out ⟨rfl, hs0⟩⟩ ?_)
    all_goals trivial
  have k0 := hid (o_data b q m vN vQ vD _ w0 w.drew hA.out.drew hm.out hf.out (by omega) he0)
  replace he0 := hid he0
  go_region_with (go_at_call 137; refine k0.out.mono ?_; rintro e w1 ⟨rfl, hA1⟩)
  replace hA1 := hid hA1
  have hx1 := slots_len hf.out .data he0.out hx
  clear k0
  go_wp2_with fail
  go_end0
  exact ODo_cons he0.out (ODo_nil ⟨rfl, hA1.out⟩)
end Go.Proofs.Ytonhliipbdniiaa
