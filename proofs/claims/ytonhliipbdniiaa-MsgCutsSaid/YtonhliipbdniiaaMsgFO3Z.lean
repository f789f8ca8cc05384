/- What fields of msg writes, types 118, 119, 120, 122, 124, 125, 126, 109, 121, 123, 127. Conditions: texts of at most a thousand bytes each. -/
import Derived.Test.YtonhliipbdniiaaBunG
namespace Go.Proofs.Ytonhliipbdniiaa
open Go.RowKit
set_option maxRecDepth 100000
set_option linter.unusedVariables false

set_option maxHeartbeats 1600000 in
theorem out_files_118 (b q : Nat) (m : M) (vN vQ vD : Value) (xs : List UInt8) (w0 w : World) (hA : OA w0 w b q m vN vQ vD xs) (hm : MOk m) (hf : MFew m) (hx : xs.length ≤ 1000) (ht : m.ty = 118) :
    Calls Try.prog 85 #[.iface 97 (.pointer (some ⟨b, 0, none⟩)), .pointer (some ⟨q, 0, none⟩)] w (ODo w0 b q m vN vQ vD xs (outs m [.fid, .offset, .data])) := by
  have n0 := nil_o_u32
  have m0 := met_o_u32
  have n1 := nil_o_u64
  have m1 := met_o_u64
  have n2 := nil_o_data
  have m2 := met_o_data
  have c0 : w.cell? ⟨q, 0, none⟩ = some (.int .u8 118) := by rw [hA.cell 0]; show some (Value.int .u8 (m.ty : Int)) = _; rw [ht]; rfl
  replace hA := hid hA
  replace hm := hid hm
  replace hf := hid hf
  clear ht
  go_enter Try.func85, Try.ntmps85
  go_wp2_with fail
  have k0 := hid (o_fid b q m vN vQ vD _ w0 w.drew hA.out.drew hm.out hf.out (by omega))
  go_region_with (go_at_call 144; refine k0.out.mono ?_; rintro e w1 ⟨rfl, hA1⟩)
  replace hA1 := hid hA1
  have hx1 := slots_len hf.out .fid rfl hx
  clear k0
  go_wp2_with fail
  have k1 := hid (o_offset b q m vN vQ vD _ w0 w1.drew hA1.out.drew hm.out hf.out (by omega))
  go_region_with (go_at_call 145; refine k1.out.mono ?_; rintro e w2 ⟨rfl, hA2⟩)
  replace hA2 := hid hA2
  have hx2 := slots_len hf.out .offset rfl hx1
  clear k1
  go_wp2_with fail
  by_cases he2 : (Slot.o m .data).1 = 0
  case neg =>
    have k2 := hid (o_data_bad b q m vN vQ vD _ w0 w2.drew hA2.out.drew hm.out hf.out (by omega) he2)
    replace he2 := hid he2
    go_region_with (go_at_call 137; refine k2.out.mono ?_; rintro e w3 ⟨rfl, hs2⟩; refine fakeAny ⟨rfl, ODo_cons rfl (ODo_cons rfl (ODo_bad he2.out ⟨rfl, hs2⟩))⟩ ?_)
    all_goals trivial
  have k2 := hid (o_data b q m vN vQ vD _ w0 w2.drew hA2.out.drew hm.out hf.out (by omega) he2)
  replace he2 := hid he2
  go_region_with (go_at_call 137; refine k2.out.mono ?_; rintro e w3 ⟨rfl, hA3⟩)
  replace hA3 := hid hA3
  have hx3 := slots_len hf.out .data he2.out hx2
  clear k2
  go_wp2_with fail
  go_end0
  exact ODo_cons rfl (ODo_cons rfl (ODo_cons he2.out (ODo_nil ⟨rfl, hA3.out⟩)))

set_option maxHeartbeats 1600000 in
theorem out_files_119 (b q : Nat) (m : M) (vN vQ vD : Value) (xs : List UInt8) (w0 w : World) (hA : OA w0 w b q m vN vQ vD xs) (hm : MOk m) (hf : MFew m) (hx : xs.length ≤ 1000) (ht : m.ty = 119) :
    Calls Try.prog 85 #[.iface 97 (.pointer (some ⟨b, 0, none⟩)), .pointer (some ⟨q, 0, none⟩)] w (ODo w0 b q m vN vQ vD xs (outs m [.count])) := by
  have n0 := nil_o_u32
  have m0 := met_o_u32
  have c0 : w.cell? ⟨q, 0, none⟩ = some (.int .u8 119) := by rw [hA.cell 0]; show some (Value.int .u8 (m.ty : Int)) = _; rw [ht]; rfl
  replace hA := hid hA
  replace hm := hid hm
  replace hf := hid hf
  clear ht
  go_enter Try.func85, Try.ntmps85
  go_wp2_with fail
  have k0 := hid (o_count b q m vN vQ vD _ w0 w.drew hA.out.drew hm.out hf.out (by omega))
  go_region_with (go_at_call 144; refine k0.out.mono ?_; rintro e w1 ⟨rfl, hA1⟩)
  replace hA1 := hid hA1
  have hx1 := slots_len hf.out .count rfl hx
  clear k0
  go_wp2_with fail
  go_end0
  exact ODo_cons rfl (ODo_nil ⟨rfl, hA1.out⟩)

set_option maxHeartbeats 1600000 in
theorem out_files_120 (b q : Nat) (m : M) (vN vQ vD : Value) (xs : List UInt8) (w0 w : World) (hA : OA w0 w b q m vN vQ vD xs) (hm : MOk m) (hf : MFew m) (hx : xs.length ≤ 1000) (ht : m.ty = 120) :
    Calls Try.prog 85 #[.iface 97 (.pointer (some ⟨b, 0, none⟩)), .pointer (some ⟨q, 0, none⟩)] w (ODo w0 b q m vN vQ vD xs (outs m [.fid])) := by
  have n0 := nil_o_u32
  have m0 := met_o_u32
  have c0 : w.cell? ⟨q, 0, none⟩ = some (.int .u8 120) := by rw [hA.cell 0]; show some (Value.int .u8 (m.ty : Int)) = _; rw [ht]; rfl
  replace hA := hid hA
  replace hm := hid hm
  replace hf := hid hf
  clear ht
  go_enter Try.func85, Try.ntmps85
  go_wp2_with fail
  have k0 := hid (o_fid b q m vN vQ vD _ w0 w.drew hA.out.drew hm.out hf.out (by omega))
  go_region_with (go_at_call 144; refine k0.out.mono ?_; rintro e w1 ⟨rfl, hA1⟩)
  replace hA1 := hid hA1
  have hx1 := slots_len hf.out .fid rfl hx
  clear k0
  go_wp2_with fail
  go_end0
  exact ODo_cons rfl (ODo_nil ⟨rfl, hA1.out⟩)

set_option maxHeartbeats 1600000 in
theorem out_files_122 (b q : Nat) (m : M) (vN vQ vD : Value) (xs : List UInt8) (w0 w : World) (hA : OA w0 w b q m vN vQ vD xs) (hm : MOk m) (hf : MFew m) (hx : xs.length ≤ 1000) (ht : m.ty = 122) :
    Calls Try.prog 85 #[.iface 97 (.pointer (some ⟨b, 0, none⟩)), .pointer (some ⟨q, 0, none⟩)] w (ODo w0 b q m vN vQ vD xs (outs m [.fid])) := by
  have n0 := nil_o_u32
  have m0 := met_o_u32
  have c0 : w.cell? ⟨q, 0, none⟩ = some (.int .u8 122) := by rw [hA.cell 0]; show some (Value.int .u8 (m.ty : Int)) = _; rw [ht]; rfl
  replace hA := hid hA
  replace hm := hid hm
  replace hf := hid hf
  clear ht
  go_enter Try.func85, Try.ntmps85
  go_wp2_with fail
  have k0 := hid (o_fid b q m vN vQ vD _ w0 w.drew hA.out.drew hm.out hf.out (by omega))
  go_region_with (go_at_call 144; refine k0.out.mono ?_; rintro e w1 ⟨rfl, hA1⟩)
  replace hA1 := hid hA1
  have hx1 := slots_len hf.out .fid rfl hx
  clear k0
  go_wp2_with fail
  go_end0
  exact ODo_cons rfl (ODo_nil ⟨rfl, hA1.out⟩)

set_option maxHeartbeats 1600000 in
theorem out_files_124 (b q : Nat) (m : M) (vN vQ vD : Value) (xs : List UInt8) (w0 w : World) (hA : OA w0 w b q m vN vQ vD xs) (hm : MOk m) (hf : MFew m) (hx : xs.length ≤ 1000) (ht : m.ty = 124) :
    Calls Try.prog 85 #[.iface 97 (.pointer (some ⟨b, 0, none⟩)), .pointer (some ⟨q, 0, none⟩)] w (ODo w0 b q m vN vQ vD xs (outs m [.fid])) := by
  have n0 := nil_o_u32
  have m0 := met_o_u32
  have c0 : w.cell? ⟨q, 0, none⟩ = some (.int .u8 124) := by rw [hA.cell 0]; show some (Value.int .u8 (m.ty : Int)) = _; rw [ht]; rfl
  replace hA := hid hA
  replace hm := hid hm
  replace hf := hid hf
  clear ht
  go_enter Try.func85, Try.ntmps85
  go_wp2_with fail
  have k0 := hid (o_fid b q m vN vQ vD _ w0 w.drew hA.out.drew hm.out hf.out (by omega))
  go_region_with (go_at_call 144; refine k0.out.mono ?_; rintro e w1 ⟨rfl, hA1⟩)
  replace hA1 := hid hA1
  have hx1 := slots_len hf.out .fid rfl hx
  clear k0
  go_wp2_with fail
  go_end0
  exact ODo_cons rfl (ODo_nil ⟨rfl, hA1.out⟩)

set_option maxHeartbeats 1600000 in
theorem out_files_125 (b q : Nat) (m : M) (vN vQ vD : Value) (xs : List UInt8) (w0 w : World) (hA : OA w0 w b q m vN vQ vD xs) (hm : MOk m) (hf : MFew m) (hx : xs.length ≤ 1000) (ht : m.ty = 125) :
    Calls Try.prog 85 #[.iface 97 (.pointer (some ⟨b, 0, none⟩)), .pointer (some ⟨q, 0, none⟩)] w (ODo w0 b q m vN vQ vD xs (outs m [.stat])) := by
  have n0 := nil_o_stat
  have m0 := met_o_stat
  have c0 : w.cell? ⟨q, 0, none⟩ = some (.int .u8 125) := by rw [hA.cell 0]; show some (Value.int .u8 (m.ty : Int)) = _; rw [ht]; rfl
  replace hA := hid hA
  replace hm := hid hm
  replace hf := hid hf
  clear ht
  go_enter Try.func85, Try.ntmps85
  go_wp2_with fail
  by_cases he0 : (Slot.o m .stat).1 = 0
  case neg =>
    have k0 := hid (o_stat_bad b q m vN vQ vD _ w0 w.drew hA.out.drew hm.out hf.out (by omega) he0)
    replace he0 := hid he0
    go_region_with (go_at_call 141; refine k0.out.mono ?_; rintro e w1 ⟨rfl, hs0⟩; refine fakeAny ⟨rfl, ODo_bad he0.out ⟨rfl, hs0⟩⟩ ?_)
    all_goals trivial
  have k0 := hid (o_stat b q m vN vQ vD _ w0 w.drew hA.out.drew hm.out hf.out (by omega) he0)
  replace he0 := hid he0
  go_region_with (go_at_call 141; refine k0.out.mono ?_; rintro e w1 ⟨rfl, hA1⟩)
  replace hA1 := hid hA1
  have hx1 := slots_len hf.out .stat he0.out hx
  clear k0
  go_wp2_with fail
  go_end0
  exact ODo_cons he0.out (ODo_nil ⟨rfl, hA1.out⟩)

set_option maxHeartbeats 1600000 in
theorem out_files_126 (b q : Nat) (m : M) (vN vQ vD : Value) (xs : List UInt8) (w0 w : World) (hA : OA w0 w b q m vN vQ vD xs) (hm : MOk m) (hf : MFew m) (hx : xs.length ≤ 1000) (ht : m.ty = 126) :
    Calls Try.prog 85 #[.iface 97 (.pointer (some ⟨b, 0, none⟩)), .pointer (some ⟨q, 0, none⟩)] w (ODo w0 b q m vN vQ vD xs (outs m [.fid, .stat])) := by
  have n0 := nil_o_u32
  have m0 := met_o_u32
  have n1 := nil_o_stat
  have m1 := met_o_stat
  have c0 : w.cell? ⟨q, 0, none⟩ = some (.int .u8 126) := by rw [hA.cell 0]; show some (Value.int .u8 (m.ty : Int)) = _; rw [ht]; rfl
  replace hA := hid hA
  replace hm := hid hm
  replace hf := hid hf
  clear ht
  go_enter Try.func85, Try.ntmps85
  go_wp2_with fail
  have k0 := hid (o_fid b q m vN vQ vD _ w0 w.drew hA.out.drew hm.out hf.out (by omega))
  go_region_with (go_at_call 144; refine k0.out.mono ?_; rintro e w1 ⟨rfl, hA1⟩)
  replace hA1 := hid hA1
  have hx1 := slots_len hf.out .fid rfl hx
  clear k0
  go_wp2_with fail
  by_cases he1 : (Slot.o m .stat).1 = 0
  case neg =>
    have k1 := hid (o_stat_bad b q m vN vQ vD _ w0 w1.drew hA1.out.drew hm.out hf.out (by omega) he1)
    replace he1 := hid he1
    go_region_with (go_at_call 141; refine k1.out.mono ?_; rintro e w2 ⟨rfl, hs1⟩; refine fakeAny ⟨rfl, ODo_cons rfl (ODo_bad he1.out ⟨rfl, hs1⟩)⟩ ?_)
    all_goals trivial
  have k1 := hid (o_stat b q m vN vQ vD _ w0 w1.drew hA1.out.drew hm.out hf.out (by omega) he1)
  replace he1 := hid he1
  go_region_with (go_at_call 141; refine k1.out.mono ?_; rintro e w2 ⟨rfl, hA2⟩)
  replace hA2 := hid hA2
  have hx2 := slots_len hf.out .stat he1.out hx1
  clear k1
  go_wp2_with fail
  go_end0
  exact ODo_cons rfl (ODo_cons he1.out (ODo_nil ⟨rfl, hA2.out⟩))

set_option maxHeartbeats 1600000 in
theorem out_files_109 (b q : Nat) (m : M) (vN vQ vD : Value) (xs : List UInt8) (w0 w : World) (hA : OA w0 w b q m vN vQ vD xs) (hm : MOk m) (hf : MFew m) (hx : xs.length ≤ 1000) (ht : m.ty = 109) :
    Calls Try.prog 85 #[.iface 97 (.pointer (some ⟨b, 0, none⟩)), .pointer (some ⟨q, 0, none⟩)] w (ODo w0 b q m vN vQ vD xs (outs m [])) := by
  have c0 : w.cell? ⟨q, 0, none⟩ = some (.int .u8 109) := by rw [hA.cell 0]; show some (Value.int .u8 (m.ty : Int)) = _; rw [ht]; rfl
  replace hA := hid hA
  replace hm := hid hm
  replace hf := hid hf
  clear ht
  go_enter Try.func85, Try.ntmps85
  go_wp2_with fail
  go_end0
  exact ODo_nil ⟨rfl, hA.out⟩

set_option maxHeartbeats 1600000 in
theorem out_files_121 (b q : Nat) (m : M) (vN vQ vD : Value) (xs : List UInt8) (w0 w : World) (hA : OA w0 w b q m vN vQ vD xs) (hm : MOk m) (hf : MFew m) (hx : xs.length ≤ 1000) (ht : m.ty = 121) :
    Calls Try.prog 85 #[.iface 97 (.pointer (some ⟨b, 0, none⟩)), .pointer (some ⟨q, 0, none⟩)] w (ODo w0 b q m vN vQ vD xs (outs m [])) := by
  have c0 : w.cell? ⟨q, 0, none⟩ = some (.int .u8 121) := by rw [hA.cell 0]; show some (Value.int .u8 (m.ty : Int)) = _; rw [ht]; rfl
  replace hA := hid hA
  replace hm := hid hm
  replace hf := hid hf
  clear ht
  go_enter Try.func85, Try.ntmps85
  go_wp2_with fail
  go_end0
  exact ODo_nil ⟨rfl, hA.out⟩

set_option maxHeartbeats 1600000 in
theorem out_files_123 (b q : Nat) (m : M) (vN vQ vD : Value) (xs : List UInt8) (w0 w : World) (hA : OA w0 w b q m vN vQ vD xs) (hm : MOk m) (hf : MFew m) (hx : xs.length ≤ 1000) (ht : m.ty = 123) :
    Calls Try.prog 85 #[.iface 97 (.pointer (some ⟨b, 0, none⟩)), .pointer (some ⟨q, 0, none⟩)] w (ODo w0 b q m vN vQ vD xs (outs m [])) := by
  have c0 : w.cell? ⟨q, 0, none⟩ = some (.int .u8 123) := by rw [hA.cell 0]; show some (Value.int .u8 (m.ty : Int)) = _; rw [ht]; rfl
  replace hA := hid hA
  replace hm := hid hm
  replace hf := hid hf
  clear ht
  go_enter Try.func85, Try.ntmps85
  go_wp2_with fail
  go_end0
  exact ODo_nil ⟨rfl, hA.out⟩

set_option maxHeartbeats 1600000 in
theorem out_files_127 (b q : Nat) (m : M) (vN vQ vD : Value) (xs : List UInt8) (w0 w : World) (hA : OA w0 w b q m vN vQ vD xs) (hm : MOk m) (hf : MFew m) (hx : xs.length ≤ 1000) (ht : m.ty = 127) :
    Calls Try.prog 85 #[.iface 97 (.pointer (some ⟨b, 0, none⟩)), .pointer (some ⟨q, 0, none⟩)] w (ODo w0 b q m vN vQ vD xs (outs m [])) := by
  have c0 : w.cell? ⟨q, 0, none⟩ = some (.int .u8 127) := by rw [hA.cell 0]; show some (Value.int .u8 (m.ty : Int)) = _; rw [ht]; rfl
  replace hA := hid hA
  replace hm := hid hm
  replace hf := hid hf
  clear ht
  go_enter Try.func85, Try.ntmps85
  go_wp2_with fail
  go_end0
  exact ODo_nil ⟨rfl, hA.out⟩
end Go.Proofs.Ytonhliipbdniiaa
