/- What fields of msg copies, by every known type. No condition. -/
import Derived.Test.YtonhliipbdniiaaMsgFT1Z
import Derived.Test.YtonhliipbdniiaaMsgFT2Z
import Derived.Test.YtonhliipbdniiaaMsgFT3Z
import Derived.Test.YtonhliipbdniiaaMsgFOZ
namespace Go.Proofs.Ytonhliipbdniiaa
open Go.RowKit
set_option maxRecDepth 100000
set_option linter.unusedVariables false

set_option maxHeartbeats 1600000 in
theorem tw_fields_112 (t qm qx : Nat) (a x : MV) (w0 w : World) (hA : TA w0 w t qm qx a x) (hok : a.Ok) (ht : x.m.ty = 112) :
    Calls Try.prog 58 #[.iface 155 (.pointer (some ⟨t, 0, none⟩)), .pointer (some ⟨qx, 0, none⟩)] w (TGood w0 t qm qx a (copies a [.fid, .mode] x)) := by
  have c0 : w.cell? ⟨qx, 0, none⟩ = some (.int .u8 112) := by rw [block_cell hA.xb 0]; show some (Value.int .u8 (x.m.ty : Int)) = _; rw [ht]; rfl
  have k := hid (tw_files_112 t qm qx a x w0 w hA hok ht)
  replace hA := hid hA
  clear ht
  go_enter Try.func58, Try.ntmps58
  go_wp2_with fail
  refine k.out.mono ?_
  rintro e w1 ⟨rfl, h2⟩
  go_wp2_with fail
  go_end0
  exact ⟨rfl, h2⟩

set_option maxHeartbeats 1600000 in
theorem tw_fields_113 (t qm qx : Nat) (a x : MV) (w0 w : World) (hA : TA w0 w t qm qx a x) (hok : a.Ok) (ht : x.m.ty = 113) :
    Calls Try.prog 58 #[.iface 155 (.pointer (some ⟨t, 0, none⟩)), .pointer (some ⟨qx, 0, none⟩)] w (TGood w0 t qm qx a (copies a [.qid, .iounit] x)) := by
  have c0 : w.cell? ⟨qx, 0, none⟩ = some (.int .u8 113) := by rw [block_cell hA.xb 0]; show some (Value.int .u8 (x.m.ty : Int)) = _; rw [ht]; rfl
  have k := hid (tw_files_113 t qm qx a x w0 w hA hok ht)
  replace hA := hid hA
  clear ht
  go_enter Try.func58, Try.ntmps58
  go_wp2_with fail
  refine k.out.mono ?_
  rintro e w1 ⟨rfl, h2⟩
  go_wp2_with fail
  go_end0
  exact ⟨rfl, h2⟩

set_option maxHeartbeats 1600000 in
theorem tw_fields_114 (t qm qx : Nat) (a x : MV) (w0 w : World) (hA : TA w0 w t qm qx a x) (hok : a.Ok) (ht : x.m.ty = 114) :
    Calls Try.prog 58 #[.iface 155 (.pointer (some ⟨t, 0, none⟩)), .pointer (some ⟨qx, 0, none⟩)] w (TGood w0 t qm qx a (copies a [.fid, .name, .perm, .mode] x)) := by
  have c0 : w.cell? ⟨qx, 0, none⟩ = some (.int .u8 114) := by rw [block_cell hA.xb 0]; show some (Value.int .u8 (x.m.ty : Int)) = _; rw [ht]; rfl
  have k := hid (tw_files_114 t qm qx a x w0 w hA hok ht)
  replace hA := hid hA
  clear ht
  go_enter Try.func58, Try.ntmps58
  go_wp2_with fail
  refine k.out.mono ?_
  rintro e w1 ⟨rfl, h2⟩
  go_wp2_with fail
  go_end0
  exact ⟨rfl, h2⟩

set_option maxHeartbeats 1600000 in
theorem tw_fields_115 (t qm qx : Nat) (a x : MV) (w0 w : World) (hA : TA w0 w t qm qx a x) (hok : a.Ok) (ht : x.m.ty = 115) :
    Calls Try.prog 58 #[.iface 155 (.pointer (some ⟨t, 0, none⟩)), .pointer (some ⟨qx, 0, none⟩)] w (TGood w0 t qm qx a (copies a [.qid, .iounit] x)) := by
  have c0 : w.cell? ⟨qx, 0, none⟩ = some (.int .u8 115) := by rw [block_cell hA.xb 0]; show some (Value.int .u8 (x.m.ty : Int)) = _; rw [ht]; rfl
  have k := hid (tw_files_115 t qm qx a x w0 w hA hok ht)
  replace hA := hid hA
  clear ht
  go_enter Try.func58, Try.ntmps58
  go_wp2_with fail
  refine k.out.mono ?_
  rintro e w1 ⟨rfl, h2⟩
  go_wp2_with fail
  go_end0
  exact ⟨rfl, h2⟩

set_option maxHeartbeats 1600000 in
theorem tw_fields_116 (t qm qx : Nat) (a x : MV) (w0 w : World) (hA : TA w0 w t qm qx a x) (hok : a.Ok) (ht : x.m.ty = 116) :
    Calls Try.prog 58 #[.iface 155 (.pointer (some ⟨t, 0, none⟩)), .pointer (some ⟨qx, 0, none⟩)] w (TGood w0 t qm qx a (copies a [.fid, .offset, .count] x)) := by
  have c0 : w.cell? ⟨qx, 0, none⟩ = some (.int .u8 116) := by rw [block_cell hA.xb 0]; show some (Value.int .u8 (x.m.ty : Int)) = _; rw [ht]; rfl
  have k := hid (tw_files_116 t qm qx a x w0 w hA hok ht)
  replace hA := hid hA
  clear ht
  go_enter Try.func58, Try.ntmps58
  go_wp2_with fail
  refine k.out.mono ?_
  rintro e w1 ⟨rfl, h2⟩
  go_wp2_with fail
  go_end0
  exact ⟨rfl, h2⟩

set_option maxHeartbeats 1600000 in
theorem tw_fields_117 (t qm qx : Nat) (a x : MV) (w0 w : World) (hA : TA w0 w t qm qx a x) (hok : a.Ok) (ht : x.m.ty = 117) :
    Calls Try.prog 58 #[.iface 155 (.pointer (some ⟨t, 0, none⟩)), .pointer (some ⟨qx, 0, none⟩)] w (TGood w0 t qm qx a (copies a [.data] x)) := by
  have c0 : w.cell? ⟨qx, 0, none⟩ = some (.int .u8 117) := by rw [block_cell hA.xb 0]; show some (Value.int .u8 (x.m.ty : Int)) = _; rw [ht]; rfl
  have k := hid (tw_files_117 t qm qx a x w0 w hA hok ht)
  replace hA := hid hA
  clear ht
  go_enter Try.func58, Try.ntmps58
  go_wp2_with fail
  refine k.out.mono ?_
  rintro e w1 ⟨rfl, h2⟩
  go_wp2_with fail
  go_end0
  exact ⟨rfl, h2⟩

set_option maxHeartbeats 1600000 in
theorem tw_fields_118 (t qm qx : Nat) (a x : MV) (w0 w : World) (hA : TA w0 w t qm qx a x) (hok : a.Ok) (ht : x.m.ty = 118) :
    Calls Try.prog 58 #[.iface 155 (.pointer (some ⟨t, 0, none⟩)), .pointer (some ⟨qx, 0, none⟩)] w (TGood w0 t qm qx a (copies a [.fid, .offset, .data] x)) := by
  have c0 : w.cell? ⟨qx, 0, none⟩ = some (.int .u8 118) := by rw [block_cell hA.xb 0]; show some (Value.int .u8 (x.m.ty : Int)) = _; rw [ht]; rfl
  have k := hid (tw_files_118 t qm qx a x w0 w hA hok ht)
  replace hA := hid hA
  clear ht
  go_enter Try.func58, Try.ntmps58
  go_wp2_with fail
  refine k.out.mono ?_
  rintro e w1 ⟨rfl, h2⟩
  go_wp2_with fail
  go_end0
  exact ⟨rfl, h2⟩

set_option maxHeartbeats 1600000 in
theorem tw_fields_119 (t qm qx : Nat) (a x : MV) (w0 w : World) (hA : TA w0 w t qm qx a x) (hok : a.Ok) (ht : x.m.ty = 119) :
    Calls Try.prog 58 #[.iface 155 (.pointer (some ⟨t, 0, none⟩)), .pointer (some ⟨qx, 0, none⟩)] w (TGood w0 t qm qx a (copies a [.count] x)) := by
  have c0 : w.cell? ⟨qx, 0, none⟩ = some (.int .u8 119) := by rw [block_cell hA.xb 0]; show some (Value.int .u8 (x.m.ty : Int)) = _; rw [ht]; rfl
  have k := hid (tw_files_119 t qm qx a x w0 w hA hok ht)
  replace hA := hid hA
  clear ht
  go_enter Try.func58, Try.ntmps58
  go_wp2_with fail
  refine k.out.mono ?_
  rintro e w1 ⟨rfl, h2⟩
  go_wp2_with fail
  go_end0
  exact ⟨rfl, h2⟩

set_option maxHeartbeats 1600000 in
theorem tw_fields_120 (t qm qx : Nat) (a x : MV) (w0 w : World) (hA : TA w0 w t qm qx a x) (hok : a.Ok) (ht : x.m.ty = 120) :
    Calls Try.prog 58 #[.iface 155 (.pointer (some ⟨t, 0, none⟩)), .pointer (some ⟨qx, 0, none⟩)] w (TGood w0 t qm qx a (copies a [.fid] x)) := by
  have c0 : w.cell? ⟨qx, 0, none⟩ = some (.int .u8 120) := by rw [block_cell hA.xb 0]; show some (Value.int .u8 (x.m.ty : Int)) = _; rw [ht]; rfl
  have k := hid (tw_files_120 t qm qx a x w0 w hA hok ht)
  replace hA := hid hA
  clear ht
  go_enter Try.func58, Try.ntmps58
  go_wp2_with fail
  refine k.out.mono ?_
  rintro e w1 ⟨rfl, h2⟩
  go_wp2_with fail
  go_end0
  exact ⟨rfl, h2⟩

set_option maxHeartbeats 1600000 in
theorem tw_fields_122 (t qm qx : Nat) (a x : MV) (w0 w : World) (hA : TA w0 w t qm qx a x) (hok : a.Ok) (ht : x.m.ty = 122) :
    Calls Try.prog 58 #[.iface 155 (.pointer (some ⟨t, 0, none⟩)), .pointer (some ⟨qx, 0, none⟩)] w (TGood w0 t qm qx a (copies a [.fid] x)) := by
  have c0 : w.cell? ⟨qx, 0, none⟩ = some (.int .u8 122) := by rw [block_cell hA.xb 0]; show some (Value.int .u8 (x.m.ty : Int)) = _; rw [ht]; rfl
  have k := hid (tw_files_122 t qm qx a x w0 w hA hok ht)
  replace hA := hid hA
  clear ht
  go_enter Try.func58, Try.ntmps58
  go_wp2_with fail
  refine k.out.mono ?_
  rintro e w1 ⟨rfl, h2⟩
  go_wp2_with fail
  go_end0
  exact ⟨rfl, h2⟩

set_option maxHeartbeats 1600000 in
theorem tw_fields_124 (t qm qx : Nat) (a x : MV) (w0 w : World) (hA : TA w0 w t qm qx a x) (hok : a.Ok) (ht : x.m.ty = 124) :
    Calls Try.prog 58 #[.iface 155 (.pointer (some ⟨t, 0, none⟩)), .pointer (some ⟨qx, 0, none⟩)] w (TGood w0 t qm qx a (copies a [.fid] x)) := by
  have c0 : w.cell? ⟨qx, 0, none⟩ = some (.int .u8 124) := by rw [block_cell hA.xb 0]; show some (Value.int .u8 (x.m.ty : Int)) = _; rw [ht]; rfl
  have k := hid (tw_files_124 t qm qx a x w0 w hA hok ht)
  replace hA := hid hA
  clear ht
  go_enter Try.func58, Try.ntmps58
  go_wp2_with fail
  refine k.out.mono ?_
  rintro e w1 ⟨rfl, h2⟩
  go_wp2_with fail
  go_end0
  exact ⟨rfl, h2⟩

set_option maxHeartbeats 1600000 in
theorem tw_fields_125 (t qm qx : Nat) (a x : MV) (w0 w : World) (hA : TA w0 w t qm qx a x) (hok : a.Ok) (ht : x.m.ty = 125) :
    Calls Try.prog 58 #[.iface 155 (.pointer (some ⟨t, 0, none⟩)), .pointer (some ⟨qx, 0, none⟩)] w (TGood w0 t qm qx a (copies a [.stat] x)) := by
  have c0 : w.cell? ⟨qx, 0, none⟩ = some (.int .u8 125) := by rw [block_cell hA.xb 0]; show some (Value.int .u8 (x.m.ty : Int)) = _; rw [ht]; rfl
  have k := hid (tw_files_125 t qm qx a x w0 w hA hok ht)
  replace hA := hid hA
  clear ht
  go_enter Try.func58, Try.ntmps58
  go_wp2_with fail
  refine k.out.mono ?_
  rintro e w1 ⟨rfl, h2⟩
  go_wp2_with fail
  go_end0
  exact ⟨rfl, h2⟩

set_option maxHeartbeats 1600000 in
theorem tw_fields_126 (t qm qx : Nat) (a x : MV) (w0 w : World) (hA : TA w0 w t qm qx a x) (hok : a.Ok) (ht : x.m.ty = 126) :
    Calls Try.prog 58 #[.iface 155 (.pointer (some ⟨t, 0, none⟩)), .pointer (some ⟨qx, 0, none⟩)] w (TGood w0 t qm qx a (copies a [.fid, .stat] x)) := by
  have c0 : w.cell? ⟨qx, 0, none⟩ = some (.int .u8 126) := by rw [block_cell hA.xb 0]; show some (Value.int .u8 (x.m.ty : Int)) = _; rw [ht]; rfl
  have k := hid (tw_files_126 t qm qx a x w0 w hA hok ht)
  replace hA := hid hA
  clear ht
  go_enter Try.func58, Try.ntmps58
  go_wp2_with fail
  refine k.out.mono ?_
  rintro e w1 ⟨rfl, h2⟩
  go_wp2_with fail
  go_end0
  exact ⟨rfl, h2⟩

set_option maxHeartbeats 1600000 in
theorem tw_fields_109 (t qm qx : Nat) (a x : MV) (w0 w : World) (hA : TA w0 w t qm qx a x) (hok : a.Ok) (ht : x.m.ty = 109) :
    Calls Try.prog 58 #[.iface 155 (.pointer (some ⟨t, 0, none⟩)), .pointer (some ⟨qx, 0, none⟩)] w (TGood w0 t qm qx a (copies a [] x)) := by
  have c0 : w.cell? ⟨qx, 0, none⟩ = some (.int .u8 109) := by rw [block_cell hA.xb 0]; show some (Value.int .u8 (x.m.ty : Int)) = _; rw [ht]; rfl
  have k := hid (tw_files_109 t qm qx a x w0 w hA hok ht)
  replace hA := hid hA
  clear ht
  go_enter Try.func58, Try.ntmps58
  go_wp2_with fail
  refine k.out.mono ?_
  rintro e w1 ⟨rfl, h2⟩
  go_wp2_with fail
  go_end0
  exact ⟨rfl, h2⟩

set_option maxHeartbeats 1600000 in
theorem tw_fields_121 (t qm qx : Nat) (a x : MV) (w0 w : World) (hA : TA w0 w t qm qx a x) (hok : a.Ok) (ht : x.m.ty = 121) :
    Calls Try.prog 58 #[.iface 155 (.pointer (some ⟨t, 0, none⟩)), .pointer (some ⟨qx, 0, none⟩)] w (TGood w0 t qm qx a (copies a [] x)) := by
  have c0 : w.cell? ⟨qx, 0, none⟩ = some (.int .u8 121) := by rw [block_cell hA.xb 0]; show some (Value.int .u8 (x.m.ty : Int)) = _; rw [ht]; rfl
  have k := hid (tw_files_121 t qm qx a x w0 w hA hok ht)
  replace hA := hid hA
  clear ht
  go_enter Try.func58, Try.ntmps58
  go_wp2_with fail
  refine k.out.mono ?_
  rintro e w1 ⟨rfl, h2⟩
  go_wp2_with fail
  go_end0
  exact ⟨rfl, h2⟩

set_option maxHeartbeats 1600000 in
theorem tw_fields_123 (t qm qx : Nat) (a x : MV) (w0 w : World) (hA : TA w0 w t qm qx a x) (hok : a.Ok) (ht : x.m.ty = 123) :
    Calls Try.prog 58 #[.iface 155 (.pointer (some ⟨t, 0, none⟩)), .pointer (some ⟨qx, 0, none⟩)] w (TGood w0 t qm qx a (copies a [] x)) := by
  have c0 : w.cell? ⟨qx, 0, none⟩ = some (.int .u8 123) := by rw [block_cell hA.xb 0]; show some (Value.int .u8 (x.m.ty : Int)) = _; rw [ht]; rfl
  have k := hid (tw_files_123 t qm qx a x w0 w hA hok ht)
  replace hA := hid hA
  clear ht
  go_enter Try.func58, Try.ntmps58
  go_wp2_with fail
  refine k.out.mono ?_
  rintro e w1 ⟨rfl, h2⟩
  go_wp2_with fail
  go_end0
  exact ⟨rfl, h2⟩

set_option maxHeartbeats 1600000 in
theorem tw_fields_127 (t qm qx : Nat) (a x : MV) (w0 w : World) (hA : TA w0 w t qm qx a x) (hok : a.Ok) (ht : x.m.ty = 127) :
    Calls Try.prog 58 #[.iface 155 (.pointer (some ⟨t, 0, none⟩)), .pointer (some ⟨qx, 0, none⟩)] w (TGood w0 t qm qx a (copies a [] x)) := by
  have c0 : w.cell? ⟨qx, 0, none⟩ = some (.int .u8 127) := by rw [block_cell hA.xb 0]; show some (Value.int .u8 (x.m.ty : Int)) = _; rw [ht]; rfl
  have k := hid (tw_files_127 t qm qx a x w0 w hA hok ht)
  replace hA := hid hA
  clear ht
  go_enter Try.func58, Try.ntmps58
  go_wp2_with fail
  refine k.out.mono ?_
  rintro e w1 ⟨rfl, h2⟩
  go_wp2_with fail
  go_end0
  exact ⟨rfl, h2⟩

theorem tw_fields_any (t qm qx : Nat) (a x : MV) (w0 w : World) (hA : TA w0 w t qm qx a x) (hok : a.Ok) (hk : knownT x.m.ty = true) :
    Calls Try.prog 58 #[.iface 155 (.pointer (some ⟨t, 0, none⟩)), .pointer (some ⟨qx, 0, none⟩)] w (TGood w0 t qm qx a (copies a (slots x.m.ty) x)) := by
  have hk' : (100 ≤ x.m.ty ∧ x.m.ty ≤ 127) ∧ x.m.ty ≠ 106 := by simpa [knownT] using hk
  have hr : x.m.ty = 100 ∨ x.m.ty = 101 ∨ x.m.ty = 102 ∨ x.m.ty = 103 ∨ x.m.ty = 104 ∨ x.m.ty = 105 ∨ x.m.ty = 107 ∨ x.m.ty = 108 ∨ x.m.ty = 109 ∨ x.m.ty = 110 ∨ x.m.ty = 111 ∨ x.m.ty = 112 ∨ x.m.ty = 113 ∨ x.m.ty = 114 ∨ x.m.ty = 115 ∨ x.m.ty = 116 ∨ x.m.ty = 117 ∨ x.m.ty = 118 ∨ x.m.ty = 119 ∨ x.m.ty = 120 ∨ x.m.ty = 121 ∨ x.m.ty = 122 ∨ x.m.ty = 123 ∨ x.m.ty = 124 ∨ x.m.ty = 125 ∨ x.m.ty = 126 ∨ x.m.ty = 127 := by omega
  rcases hr with h | h | h | h | h | h | h | h | h | h | h | h | h | h | h | h | h | h | h | h | h | h | h | h | h | h | h
  · have := tw_fields_100 t qm qx a x w0 w hA hok h
    rw [h]; exact this
  · have := tw_fields_101 t qm qx a x w0 w hA hok h
    rw [h]; exact this
  · have := tw_fields_102 t qm qx a x w0 w hA hok h
    rw [h]; exact this
  · have := tw_fields_103 t qm qx a x w0 w hA hok h
    rw [h]; exact this
  · have := tw_fields_104 t qm qx a x w0 w hA hok h
    rw [h]; exact this
  · have := tw_fields_105 t qm qx a x w0 w hA hok h
    rw [h]; exact this
  · have := tw_fields_107 t qm qx a x w0 w hA hok h
    rw [h]; exact this
  · have := tw_fields_108 t qm qx a x w0 w hA hok h
    rw [h]; exact this
  · have := tw_fields_109 t qm qx a x w0 w hA hok h
    rw [h]; exact this
  · have := tw_fields_110 t qm qx a x w0 w hA hok h
    rw [h]; exact this
  · have := tw_fields_111 t qm qx a x w0 w hA hok h
    rw [h]; exact this
  · have := tw_fields_112 t qm qx a x w0 w hA hok h
    rw [h]; exact this
  · have := tw_fields_113 t qm qx a x w0 w hA hok h
    rw [h]; exact this
  · have := tw_fields_114 t qm qx a x w0 w hA hok h
    rw [h]; exact this
  · have := tw_fields_115 t qm qx a x w0 w hA hok h
    rw [h]; exact this
  · have := tw_fields_116 t qm qx a x w0 w hA hok h
    rw [h]; exact this
  · have := tw_fields_117 t qm qx a x w0 w hA hok h
    rw [h]; exact this
  · have := tw_fields_118 t qm qx a x w0 w hA hok h
    rw [h]; exact this
  · have := tw_fields_119 t qm qx a x w0 w hA hok h
    rw [h]; exact this
  · have := tw_fields_120 t qm qx a x w0 w hA hok h
    rw [h]; exact this
  · have := tw_fields_121 t qm qx a x w0 w hA hok h
    rw [h]; exact this
  · have := tw_fields_122 t qm qx a x w0 w hA hok h
    rw [h]; exact this
  · have := tw_fields_123 t qm qx a x w0 w hA hok h
    rw [h]; exact this
  · have := tw_fields_124 t qm qx a x w0 w hA hok h
    rw [h]; exact this
  · have := tw_fields_125 t qm qx a x w0 w hA hok h
    rw [h]; exact this
  · have := tw_fields_126 t qm qx a x w0 w hA hok h
    rw [h]; exact this
  · have := tw_fields_127 t qm qx a x w0 w hA hok h
    rw [h]; exact this
end Go.Proofs.Ytonhliipbdniiaa
