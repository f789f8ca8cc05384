/- What fields of msg writes, types 100, 101, 102, 103, 104, 105, 107, 108, 110, 111. Conditions: texts of at most a thousand bytes each. -/
import Derived.Test.YtonhliipbdniiaaBunG
namespace Go.Proofs.Ytonhliipbdniiaa
open Go.RowKit
set_option maxRecDepth 100000
set_option linter.unusedVariables false

set_option maxHeartbeats 1600000 in
theorem out_fields_100 (b q : Nat) (m : M) (vN vQ vD : Value) (xs : List UInt8) (w0 w : World) (hA : OA w0 w b q m vN vQ vD xs) (hm : MOk m) (hf : MFew m) (hx : xs.length ≤ 1000) (ht : m.ty = 100) :
    Calls Try.prog 58 #[.iface 97 (.pointer (some ⟨b, 0, none⟩)), .pointer (some ⟨q, 0, none⟩)] w (ODo w0 b q m vN vQ vD xs (outs m [.msize, .version])) := by
  have n0 := nil_o_u32
  have m0 := met_o_u32
  have n1 := nil_o_text
  have m1 := met_o_text
  have c0 : w.cell? ⟨q, 0, none⟩ = some (.int .u8 100) := by rw [hA.cell 0]; show some (Value.int .u8 (m.ty : Int)) = _; rw [ht]; rfl
  replace hA := hid hA
  replace hm := hid hm
  replace hf := hid hf
  clear ht
  go_enter Try.func58, Try.ntmps58
  go_wp2_with fail
  have k0 := hid (o_msize b q m vN vQ vD _ w0 w.drew hA.out.drew hm.out hf.out (by omega))
  go_region_with (go_at_call 144; refine k0.out.mono ?_; rintro e w1 ⟨rfl, hA1⟩)
  replace hA1 := hid hA1
  have hx1 := slots_len hf.out .msize rfl hx
  clear k0
  go_wp2_with fail
  by_cases he1 : (Slot.o m .version).1 = 0
  case neg =>
    have k1 := hid (o_version_bad b q m vN vQ vD _ w0 w1.drew hA1.out.drew hm.out hf.out (by omega) he1)
    replace he1 := hid he1
    go_region_with (go_at_call 142; refine k1.out.mono ?_; rintro e w2 ⟨rfl, hs1⟩; refine fakeAny ⟨rfl, ODo_cons rfl (ODo_bad he1.out ⟨rfl, hs1⟩)⟩ ?_)
    all_goals trivial
  have k1 := hid (o_version b q m vN vQ vD _ w0 w1.drew hA1.out.drew hm.out hf.out (by omega) he1)
  replace he1 := hid he1
  go_region_with (go_at_call 142; refine k1.out.mono ?_; rintro e w2 ⟨rfl, hA2⟩)
  replace hA2 := hid hA2
  have hx2 := slots_len hf.out .version he1.out hx1
  clear k1
  go_wp2_with fail
  go_end0
  exact ODo_cons rfl (ODo_cons he1.out (ODo_nil ⟨rfl, hA2.out⟩))

set_option maxHeartbeats 1600000 in
theorem out_fields_101 (b q : Nat) (m : M) (vN vQ vD : Value) (xs : List UInt8) (w0 w : World) (hA : OA w0 w b q m vN vQ vD xs) (hm : MOk m) (hf : MFew m) (hx : xs.length ≤ 1000) (ht : m.ty = 101) :
    Calls Try.prog 58 #[.iface 97 (.pointer (some ⟨b, 0, none⟩)), .pointer (some ⟨q, 0, none⟩)] w (ODo w0 b q m vN vQ vD xs (outs m [.msize, .version])) := by
  have n0 := nil_o_u32
  have m0 := met_o_u32
  have n1 := nil_o_text
  have m1 := met_o_text
  have c0 : w.cell? ⟨q, 0, none⟩ = some (.int .u8 101) := by rw [hA.cell 0]; show some (Value.int .u8 (m.ty : Int)) = _; rw [ht]; rfl
  replace hA := hid hA
  replace hm := hid hm
  replace hf := hid hf
  clear ht
  go_enter Try.func58, Try.ntmps58
  go_wp2_with fail
  have k0 := hid (o_msize b q m vN vQ vD _ w0 w.drew hA.out.drew hm.out hf.out (by omega))
  go_region_with (go_at_call 144; refine k0.out.mono ?_; rintro e w1 ⟨rfl, hA1⟩)
  replace hA1 := hid hA1
  have hx1 := slots_len hf.out .msize rfl hx
  clear k0
  go_wp2_with fail
  by_cases he1 : (Slot.o m .version).1 = 0
  case neg =>
    have k1 := hid (o_version_bad b q m vN vQ vD _ w0 w1.drew hA1.out.drew hm.out hf.out (by omega) he1)
    replace he1 := hid he1
    go_region_with (go_at_call 142; refine k1.out.mono ?_; rintro e w2 ⟨rfl, hs1⟩; refine fakeAny ⟨rfl, ODo_cons rfl (ODo_bad he1.out ⟨rfl, hs1⟩)⟩ ?_)
    all_goals trivial
  have k1 := hid (o_version b q m vN vQ vD _ w0 w1.drew hA1.out.drew hm.out hf.out (by omega) he1)
  replace he1 := hid he1
  go_region_with (go_at_call 142; refine k1.out.mono ?_; rintro e w2 ⟨rfl, hA2⟩)
  replace hA2 := hid hA2
  have hx2 := slots_len hf.out .version he1.out hx1
  clear k1
  go_wp2_with fail
  go_end0
  exact ODo_cons rfl (ODo_cons he1.out (ODo_nil ⟨rfl, hA2.out⟩))

set_option maxHeartbeats 1600000 in
theorem out_fields_102 (b q : Nat) (m : M) (vN vQ vD : Value) (xs : List UInt8) (w0 w : World) (hA : OA w0 w b q m vN vQ vD xs) (hm : MOk m) (hf : MFew m) (hx : xs.length ≤ 1000) (ht : m.ty = 102) :
    Calls Try.prog 58 #[.iface 97 (.pointer (some ⟨b, 0, none⟩)), .pointer (some ⟨q, 0, none⟩)] w (ODo w0 b q m vN vQ vD xs (outs m [.afid, .uname, .aname])) := by
  have n0 := nil_o_u32
  have m0 := met_o_u32
  have n1 := nil_o_text
  have m1 := met_o_text
  have c0 : w.cell? ⟨q, 0, none⟩ = some (.int .u8 102) := by rw [hA.cell 0]; show some (Value.int .u8 (m.ty : Int)) = _; rw [ht]; rfl
  replace hA := hid hA
  replace hm := hid hm
  replace hf := hid hf
  clear ht
  go_enter Try.func58, Try.ntmps58
  go_wp2_with fail
  have k0 := hid (o_afid b q m vN vQ vD _ w0 w.drew hA.out.drew hm.out hf.out (by omega))
  go_region_with (go_at_call 144; refine k0.out.mono ?_; rintro e w1 ⟨rfl, hA1⟩)
  replace hA1 := hid hA1
  have hx1 := slots_len hf.out .afid rfl hx
  clear k0
  go_wp2_with fail
  by_cases he1 : (Slot.o m .uname).1 = 0
  case neg =>
    have k1 := hid (o_uname_bad b q m vN vQ vD _ w0 w1.drew hA1.out.drew hm.out hf.out (by omega) he1)
    replace he1 := hid he1
    go_region_with (go_at_call 142; refine k1.out.mono ?_; rintro e w2 ⟨rfl, hs1⟩; refine fakeAny ⟨rfl, ODo_cons rfl (ODo_bad he1.out ⟨rfl, hs1⟩)⟩ ?_)
    all_goals trivial
  have k1 := hid (o_uname b q m vN vQ vD _ w0 w1.drew hA1.out.drew hm.out hf.out (by omega) he1)
  replace he1 := hid he1
  go_region_with (go_at_call 142; refine k1.out.mono ?_; rintro e w2 ⟨rfl, hA2⟩)
  replace hA2 := hid hA2
  have hx2 := slots_len hf.out .uname he1.out hx1
  clear k1
  go_wp2_with fail
  by_cases he2 : (Slot.o m .aname).1 = 0
  case neg =>
    have k2 := hid (o_aname_bad b q m vN vQ vD _ w0 w2.drew hA2.out.drew hm.out hf.out (by omega) he2)
    replace he2 := hid he2
    go_region_with (go_at_call 142; refine k2.out.mono ?_; rintro e w3 ⟨rfl, hs2⟩; refine fakeAny ⟨rfl, ODo_cons rfl (ODo_cons he1.out (ODo_bad he2.out ⟨rfl, hs2⟩))⟩ ?_)
    all_goals trivial
  have k2 := hid (o_aname b q m vN vQ vD _ w0 w2.drew hA2.out.drew hm.out hf.out (by omega) he2)
  replace he2 := hid he2
  go_region_with (go_at_call 142; refine k2.out.mono ?_; rintro e w3 ⟨rfl, hA3⟩)
  replace hA3 := hid hA3
  have hx3 := slots_len hf.out .aname he2.out hx2
  clear k2
  go_wp2_with fail
  go_end0
  exact ODo_cons rfl (ODo_cons he1.out (ODo_cons he2.out (ODo_nil ⟨rfl, hA3.out⟩)))

set_option maxHeartbeats 1600000 in
theorem out_fields_103 (b q : Nat) (m : M) (vN vQ vD : Value) (xs : List UInt8) (w0 w : World) (hA : OA w0 w b q m vN vQ vD xs) (hm : MOk m) (hf : MFew m) (hx : xs.length ≤ 1000) (ht : m.ty = 103) :
    Calls Try.prog 58 #[.iface 97 (.pointer (some ⟨b, 0, none⟩)), .pointer (some ⟨q, 0, none⟩)] w (ODo w0 b q m vN vQ vD xs (outs m [.qid])) := by
  have n0 := nil_o_qid
  have m0 := met_o_qid
  have c0 : w.cell? ⟨q, 0, none⟩ = some (.int .u8 103) := by rw [hA.cell 0]; show some (Value.int .u8 (m.ty : Int)) = _; rw [ht]; rfl
  replace hA := hid hA
  replace hm := hid hm
  replace hf := hid hf
  clear ht
  go_enter Try.func58, Try.ntmps58
  go_wp2_with fail
  have k0 := hid (o_qid b q m vN vQ vD _ w0 w.drew hA.out.drew hm.out hf.out (by omega))
  go_region_with (go_at_call 139; refine k0.out.mono ?_; rintro e w1 ⟨rfl, hA1⟩)
  replace hA1 := hid hA1
  have hx1 := slots_len hf.out .qid rfl hx
  clear k0
  go_wp2_with fail
  go_end0
  exact ODo_cons rfl (ODo_nil ⟨rfl, hA1.out⟩)

set_option maxHeartbeats 1600000 in
theorem out_fields_104 (b q : Nat) (m : M) (vN vQ vD : Value) (xs : List UInt8) (w0 w : World) (hA : OA w0 w b q m vN vQ vD xs) (hm : MOk m) (hf : MFew m) (hx : xs.length ≤ 1000) (ht : m.ty = 104) :
    Calls Try.prog 58 #[.iface 97 (.pointer (some ⟨b, 0, none⟩)), .pointer (some ⟨q, 0, none⟩)] w (ODo w0 b q m vN vQ vD xs (outs m [.fid, .afid, .uname, .aname])) := by
  have n0 := nil_o_u32
  have m0 := met_o_u32
  have n1 := nil_o_text
  have m1 := met_o_text
  have c0 : w.cell? ⟨q, 0, none⟩ = some (.int .u8 104) := by rw [hA.cell 0]; show some (Value.int .u8 (m.ty : Int)) = _; rw [ht]; rfl
  replace hA := hid hA
  replace hm := hid hm
  replace hf := hid hf
  clear ht
  go_enter Try.func58, Try.ntmps58
  go_wp2_with fail
  have k0 := hid (o_fid b q m vN vQ vD _ w0 w.drew hA.out.drew hm.out hf.out (by omega))
  go_region_with (go_at_call 144; refine k0.out.mono ?_; rintro e w1 ⟨rfl, hA1⟩)
  replace hA1 := hid hA1
  have hx1 := slots_len hf.out .fid rfl hx
  clear k0
  go_wp2_with fail
  have k1 := hid (o_afid b q m vN vQ vD _ w0 w1.drew hA1.out.drew hm.out hf.out (by omega))
  go_region_with (go_at_call 144; refine k1.out.mono ?_; rintro e w2 ⟨rfl, hA2⟩)
  replace hA2 := hid hA2
  have hx2 := slots_len hf.out .afid rfl hx1
  clear k1
  go_wp2_with fail
  by_cases he2 : (Slot.o m .uname).1 = 0
  case neg =>
    have k2 := hid (o_uname_bad b q m vN vQ vD _ w0 w2.drew hA2.out.drew hm.out hf.out (by omega) he2)
    replace he2 := hid he2
    go_region_with (go_at_call 142; refine k2.out.mono ?_; rintro e w3 ⟨rfl, hs2⟩; refine fakeAny ⟨rfl, ODo_cons rfl (ODo_cons rfl (ODo_bad he2.out ⟨rfl, hs2⟩))⟩ ?_)
    all_goals trivial
  have k2 := hid (o_uname b q m vN vQ vD _ w0 w2.drew hA2.out.drew hm.out hf.out (by omega) he2)
  replace he2 := hid he2
  go_region_with (go_at_call 142; refine k2.out.mono ?_; rintro e w3 ⟨rfl, hA3⟩)
  replace hA3 := hid hA3
  have hx3 := slots_len hf.out .uname he2.out hx2
  clear k2
  go_wp2_with fail
  by_cases he3 : (Slot.o m .aname).1 = 0
  case neg =>
    have k3 := hid (o_aname_bad b q m vN vQ vD _ w0 w3.drew hA3.out.drew hm.out hf.out (by omega) he3)
    replace he3 := hid he3
    go_region_with (go_at_call 142; refine k3.out.mono ?_; rintro e w4 ⟨rfl, hs3⟩; refine fakeAny ⟨rfl, ODo_cons rfl (ODo_cons rfl (ODo_cons he2.out (ODo_bad he3.out ⟨rfl, hs3⟩)))⟩ ?_)
    all_goals trivial
  have k3 := hid (o_aname b q m vN vQ vD _ w0 w3.drew hA3.out.drew hm.out hf.out (by omega) he3)
  replace he3 := hid he3
  go_region_with (go_at_call 142; refine k3.out.mono ?_; rintro e w4 ⟨rfl, hA4⟩)
  replace hA4 := hid hA4
  have hx4 := slots_len hf.out .aname he3.out hx3
  clear k3
  go_wp2_with fail
  go_end0
  exact ODo_cons rfl (ODo_cons rfl (ODo_cons he2.out (ODo_cons he3.out (ODo_nil ⟨rfl, hA4.out⟩))))

set_option maxHeartbeats 1600000 in
theorem out_fields_105 (b q : Nat) (m : M) (vN vQ vD : Value) (xs : List UInt8) (w0 w : World) (hA : OA w0 w b q m vN vQ vD xs) (hm : MOk m) (hf : MFew m) (hx : xs.length ≤ 1000) (ht : m.ty = 105) :
    Calls Try.prog 58 #[.iface 97 (.pointer (some ⟨b, 0, none⟩)), .pointer (some ⟨q, 0, none⟩)] w (ODo w0 b q m vN vQ vD xs (outs m [.qid])) := by
  have n0 := nil_o_qid
  have m0 := met_o_qid
  have c0 : w.cell? ⟨q, 0, none⟩ = some (.int .u8 105) := by rw [hA.cell 0]; show some (Value.int .u8 (m.ty : Int)) = _; rw [ht]; rfl
  replace hA := hid hA
  replace hm := hid hm
  replace hf := hid hf
  clear ht
  go_enter Try.func58, Try.ntmps58
  go_wp2_with fail
  have k0 := hid (o_qid b q m vN vQ vD _ w0 w.drew hA.out.drew hm.out hf.out (by omega))
  go_region_with (go_at_call 139; refine k0.out.mono ?_; rintro e w1 ⟨rfl, hA1⟩)
  replace hA1 := hid hA1
  have hx1 := slots_len hf.out .qid rfl hx
  clear k0
  go_wp2_with fail
  go_end0
  exact ODo_cons rfl (ODo_nil ⟨rfl, hA1.out⟩)

set_option maxHeartbeats 1600000 in
theorem out_fields_107 (b q : Nat) (m : M) (vN vQ vD : Value) (xs : List UInt8) (w0 w : World) (hA : OA w0 w b q m vN vQ vD xs) (hm : MOk m) (hf : MFew m) (hx : xs.length ≤ 1000) (ht : m.ty = 107) :
    Calls Try.prog 58 #[.iface 97 (.pointer (some ⟨b, 0, none⟩)), .pointer (some ⟨q, 0, none⟩)] w (ODo w0 b q m vN vQ vD xs (outs m [.ename])) := by
  have n0 := nil_o_text
  have m0 := met_o_text
  have c0 : w.cell? ⟨q, 0, none⟩ = some (.int .u8 107) := by rw [hA.cell 0]; show some (Value.int .u8 (m.ty : Int)) = _; rw [ht]; rfl
  replace hA := hid hA
  replace hm := hid hm
  replace hf := hid hf
  clear ht
  go_enter Try.func58, Try.ntmps58
  go_wp2_with fail
  by_cases he0 : (Slot.o m .ename).1 = 0
  case neg =>
    have k0 := hid (o_ename_bad b q m vN vQ vD _ w0 w.drew hA.out.drew hm.out hf.out (by omega) he0)
    replace he0 := hid he0
    go_region_with (go_at_call 142; refine k0.out.mono ?_; rintro e w1 ⟨rfl, hs0⟩; refine fakeAny ⟨rfl, ODo_bad he0.out ⟨rfl, hs0⟩⟩ ?_)
    all_goals trivial
  have k0 := hid (o_ename b q m vN vQ vD _ w0 w.drew hA.out.drew hm.out hf.out (by omega) he0)
  replace he0 := hid he0
  go_region_with (go_at_call 142; refine k0.out.mono ?_; rintro e w1 ⟨rfl, hA1⟩)
  replace hA1 := hid hA1
  have hx1 := slots_len hf.out .ename he0.out hx
  clear k0
  go_wp2_with fail
  go_end0
  exact ODo_cons he0.out (ODo_nil ⟨rfl, hA1.out⟩)

set_option maxHeartbeats 1600000 in
theorem out_fields_108 (b q : Nat) (m : M) (vN vQ vD : Value) (xs : List UInt8) (w0 w : World) (hA : OA w0 w b q m vN vQ vD xs) (hm : MOk m) (hf : MFew m) (hx : xs.length ≤ 1000) (ht : m.ty = 108) :
    Calls Try.prog 58 #[.iface 97 (.pointer (some ⟨b, 0, none⟩)), .pointer (some ⟨q, 0, none⟩)] w (ODo w0 b q m vN vQ vD xs (outs m [.old])) := by
  have n0 := nil_o_u16
  have m0 := met_o_u16
  have c0 : w.cell? ⟨q, 0, none⟩ = some (.int .u8 108) := by rw [hA.cell 0]; show some (Value.int .u8 (m.ty : Int)) = _; rw [ht]; rfl
  replace hA := hid hA
  replace hm := hid hm
  replace hf := hid hf
  clear ht
  go_enter Try.func58, Try.ntmps58
  go_wp2_with fail
  have k0 := hid (o_old b q m vN vQ vD _ w0 w.drew hA.out.drew hm.out hf.out (by omega))
  go_region_with (go_at_call 57; refine k0.out.mono ?_; rintro e w1 ⟨rfl, hA1⟩)
  replace hA1 := hid hA1
  have hx1 := slots_len hf.out .old rfl hx
  clear k0
  go_wp2_with fail
  go_end0
  exact ODo_cons rfl (ODo_nil ⟨rfl, hA1.out⟩)

set_option maxHeartbeats 1600000 in
theorem out_fields_110 (b q : Nat) (m : M) (vN vQ vD : Value) (xs : List UInt8) (w0 w : World) (hA : OA w0 w b q m vN vQ vD xs) (hm : MOk m) (hf : MFew m) (hx : xs.length ≤ 1000) (ht : m.ty = 110) :
    Calls Try.prog 58 #[.iface 97 (.pointer (some ⟨b, 0, none⟩)), .pointer (some ⟨q, 0, none⟩)] w (ODo w0 b q m vN vQ vD xs (outs m [.fid, .new, .names])) := by
  have n0 := nil_o_u32
  have m0 := met_o_u32
  have n1 := nil_o_texts
  have m1 := met_o_texts
  have c0 : w.cell? ⟨q, 0, none⟩ = some (.int .u8 110) := by rw [hA.cell 0]; show some (Value.int .u8 (m.ty : Int)) = _; rw [ht]; rfl
  replace hA := hid hA
  replace hm := hid hm
  replace hf := hid hf
  clear ht
  go_enter Try.func58, Try.ntmps58
  go_wp2_with fail
  have k0 := hid (o_fid b q m vN vQ vD _ w0 w.drew hA.out.drew hm.out hf.out (by omega))
  go_region_with (go_at_call 144; refine k0.out.mono ?_; rintro e w1 ⟨rfl, hA1⟩)
  replace hA1 := hid hA1
  have hx1 := slots_len hf.out .fid rfl hx
  clear k0
  go_wp2_with fail
  have k1 := hid (o_new b q m vN vQ vD _ w0 w1.drew hA1.out.drew hm.out hf.out (by omega))
  go_region_with (go_at_call 144; refine k1.out.mono ?_; rintro e w2 ⟨rfl, hA2⟩)
  replace hA2 := hid hA2
  have hx2 := slots_len hf.out .new rfl hx1
  clear k1
  go_wp2_with fail
  by_cases he2 : (Slot.o m .names).1 = 0
  case neg =>
    have k2 := hid (o_names_bad b q m vN vQ vD _ w0 w2.drew hA2.out.drew hm.out hf.out (by omega) he2)
    replace he2 := hid he2
    go_region_with (go_at_call 143; refine k2.out.mono ?_; rintro e w3 ⟨rfl, hs2⟩; refine fakeAny ⟨rfl, ODo_cons rfl (ODo_cons rfl (ODo_bad he2.out ⟨rfl, hs2⟩))⟩ ?_)
    all_goals trivial
  have k2 := hid (o_names b q m vN vQ vD _ w0 w2.drew hA2.out.drew hm.out hf.out (by omega) he2)
  replace he2 := hid he2
  go_region_with (go_at_call 143; refine k2.out.mono ?_; rintro e w3 ⟨rfl, hA3⟩)
  replace hA3 := hid hA3
  have hx3 := slots_len hf.out .names he2.out hx2
  clear k2
  go_wp2_with fail
  go_end0
  exact ODo_cons rfl (ODo_cons rfl (ODo_cons he2.out (ODo_nil ⟨rfl, hA3.out⟩)))

set_option maxHeartbeats 1600000 in
theorem out_fields_111 (b q : Nat) (m : M) (vN vQ vD : Value) (xs : List UInt8) (w0 w : World) (hA : OA w0 w b q m vN vQ vD xs) (hm : MOk m) (hf : MFew m) (hx : xs.length ≤ 1000) (ht : m.ty = 111) :
    Calls Try.prog 58 #[.iface 97 (.pointer (some ⟨b, 0, none⟩)), .pointer (some ⟨q, 0, none⟩)] w (ODo w0 b q m vN vQ vD xs (outs m [.qids])) := by
  have n0 := nil_o_qids
  have m0 := met_o_qids
  have c0 : w.cell? ⟨q, 0, none⟩ = some (.int .u8 111) := by rw [hA.cell 0]; show some (Value.int .u8 (m.ty : Int)) = _; rw [ht]; rfl
  replace hA := hid hA
  replace hm := hid hm
  replace hf := hid hf
  clear ht
  go_enter Try.func58, Try.ntmps58
  go_wp2_with fail
  by_cases he0 : (Slot.o m .qids).1 = 0
  case neg =>
    have k0 := hid (o_qids_bad b q m vN vQ vD _ w0 w.drew hA.out.drew hm.out hf.out (by omega) he0)
    replace he0 := hid he0
    go_region_with (go_at_call 140; refine k0.out.mono ?_; rintro e w1 ⟨rfl, hs0⟩; refine fakeAny ⟨rfl, ODo_bad he0.out ⟨rfl, hs0⟩⟩ ?_)
    all_goals trivial
  have k0 := hid (o_qids b q m vN vQ vD _ w0 w.drew hA.out.drew hm.out hf.out (by omega) he0)
  replace he0 := hid he0
  go_region_with (go_at_call 140; refine k0.out.mono ?_; rintro e w1 ⟨rfl, hA1⟩)
  replace hA1 := hid hA1
  have hx1 := slots_len hf.out .qids he0.out hx
  clear k0
  go_wp2_with fail
  go_end0
  exact ODo_cons he0.out (ODo_nil ⟨rfl, hA1.out⟩)
end Go.Proofs.Ytonhliipbdniiaa
