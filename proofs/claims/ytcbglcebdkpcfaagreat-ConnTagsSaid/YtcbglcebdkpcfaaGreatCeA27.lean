/- What fields of msg copies, by every known type. No condition.
What named of msg returns, for any message of a known type. No further condition.
The first drawn region of msg.Same: whatever the order, two blocks hold the two named messages behind it. No further condition. -/
import Derived.Test.YtcbglcebdkpcfaaGreatCeA26
import Derived.Test.YtcbglcebdkpcfaaGreatCeA10
import Derived.Test.YtcbglcebdkpcfaaGreatCeA15
import Derived.Test.YtcbglcebdkpcfaaGreatCeA25
namespace Go.Proofs.YtcbglcebdkpcfaaGreat
section
open Go.RowKit
set_option maxRecDepth 100000
set_option linter.unusedVariables false

set_option maxHeartbeats 1600000 in
theorem tw_fields_112 (t qm qx : Nat) (a x : MV) (w0 w : World) (hA : TA w0 w t qm qx a x) (hok : a.Ok) (ht : x.m.ty = 112) :
    Calls Tryz.prog 52 #[.iface 107 (.pointer (some ⟨t, 0, none⟩)), .pointer (some ⟨qx, 0, none⟩)] w (TGood w0 t qm qx a (copies a [.fid, .mode] x)) := by
  have c0 : w.cell? ⟨qx, 0, none⟩ = some (.int .u8 112) := by rw [block_cell hA.xb 0]; show some (Value.int .u8 (x.m.ty : Int)) = _; rw [ht]; rfl
  have k := hid (tw_files_112 t qm qx a x w0 w hA hok ht)
  replace hA := hid hA
  clear ht
  go_enter Tryz.func52, Tryz.ntmps52
  go_wp2_with fail
  refine k.out.mono ?_
  rintro e w1 ⟨rfl, h2⟩
  go_wp2_with fail
  go_end0
  exact ⟨rfl, h2⟩

set_option maxHeartbeats 1600000 in
theorem tw_fields_113 (t qm qx : Nat) (a x : MV) (w0 w : World) (hA : TA w0 w t qm qx a x) (hok : a.Ok) (ht : x.m.ty = 113) :
    Calls Tryz.prog 52 #[.iface 107 (.pointer (some ⟨t, 0, none⟩)), .pointer (some ⟨qx, 0, none⟩)] w (TGood w0 t qm qx a (copies a [.qid, .iounit] x)) := by
  have c0 : w.cell? ⟨qx, 0, none⟩ = some (.int .u8 113) := by rw [block_cell hA.xb 0]; show some (Value.int .u8 (x.m.ty : Int)) = _; rw [ht]; rfl
  have k := hid (tw_files_113 t qm qx a x w0 w hA hok ht)
  replace hA := hid hA
  clear ht
  go_enter Tryz.func52, Tryz.ntmps52
  go_wp2_with fail
  refine k.out.mono ?_
  rintro e w1 ⟨rfl, h2⟩
  go_wp2_with fail
  go_end0
  exact ⟨rfl, h2⟩

set_option maxHeartbeats 1600000 in
theorem tw_fields_114 (t qm qx : Nat) (a x : MV) (w0 w : World) (hA : TA w0 w t qm qx a x) (hok : a.Ok) (ht : x.m.ty = 114) :
    Calls Tryz.prog 52 #[.iface 107 (.pointer (some ⟨t, 0, none⟩)), .pointer (some ⟨qx, 0, none⟩)] w (TGood w0 t qm qx a (copies a [.fid, .name, .perm, .mode] x)) := by
  have c0 : w.cell? ⟨qx, 0, none⟩ = some (.int .u8 114) := by rw [block_cell hA.xb 0]; show some (Value.int .u8 (x.m.ty : Int)) = _; rw [ht]; rfl
  have k := hid (tw_files_114 t qm qx a x w0 w hA hok ht)
  replace hA := hid hA
  clear ht
  go_enter Tryz.func52, Tryz.ntmps52
  go_wp2_with fail
  refine k.out.mono ?_
  rintro e w1 ⟨rfl, h2⟩
  go_wp2_with fail
  go_end0
  exact ⟨rfl, h2⟩

set_option maxHeartbeats 1600000 in
theorem tw_fields_115 (t qm qx : Nat) (a x : MV) (w0 w : World) (hA : TA w0 w t qm qx a x) (hok : a.Ok) (ht : x.m.ty = 115) :
    Calls Tryz.prog 52 #[.iface 107 (.pointer (some ⟨t, 0, none⟩)), .pointer (some ⟨qx, 0, none⟩)] w (TGood w0 t qm qx a (copies a [.qid, .iounit] x)) := by
  have c0 : w.cell? ⟨qx, 0, none⟩ = some (.int .u8 115) := by rw [block_cell hA.xb 0]; show some (Value.int .u8 (x.m.ty : Int)) = _; rw [ht]; rfl
  have k := hid (tw_files_115 t qm qx a x w0 w hA hok ht)
  replace hA := hid hA
  clear ht
  go_enter Tryz.func52, Tryz.ntmps52
  go_wp2_with fail
  refine k.out.mono ?_
  rintro e w1 ⟨rfl, h2⟩
  go_wp2_with fail
  go_end0
  exact ⟨rfl, h2⟩

set_option maxHeartbeats 1600000 in
theorem tw_fields_116 (t qm qx : Nat) (a x : MV) (w0 w : World) (hA : TA w0 w t qm qx a x) (hok : a.Ok) (ht : x.m.ty = 116) :
    Calls Tryz.prog 52 #[.iface 107 (.pointer (some ⟨t, 0, none⟩)), .pointer (some ⟨qx, 0, none⟩)] w (TGood w0 t qm qx a (copies a [.fid, .offset, .count] x)) := by
  have c0 : w.cell? ⟨qx, 0, none⟩ = some (.int .u8 116) := by rw [block_cell hA.xb 0]; show some (Value.int .u8 (x.m.ty : Int)) = _; rw [ht]; rfl
  have k := hid (tw_files_116 t qm qx a x w0 w hA hok ht)
  replace hA := hid hA
  clear ht
  go_enter Tryz.func52, Tryz.ntmps52
  go_wp2_with fail
  refine k.out.mono ?_
  rintro e w1 ⟨rfl, h2⟩
  go_wp2_with fail
  go_end0
  exact ⟨rfl, h2⟩

set_option maxHeartbeats 1600000 in
theorem tw_fields_117 (t qm qx : Nat) (a x : MV) (w0 w : World) (hA : TA w0 w t qm qx a x) (hok : a.Ok) (ht : x.m.ty = 117) :
    Calls Tryz.prog 52 #[.iface 107 (.pointer (some ⟨t, 0, none⟩)), .pointer (some ⟨qx, 0, none⟩)] w (TGood w0 t qm qx a (copies a [.data] x)) := by
  have c0 : w.cell? ⟨qx, 0, none⟩ = some (.int .u8 117) := by rw [block_cell hA.xb 0]; show some (Value.int .u8 (x.m.ty : Int)) = _; rw [ht]; rfl
  have k := hid (tw_files_117 t qm qx a x w0 w hA hok ht)
  replace hA := hid hA
  clear ht
  go_enter Tryz.func52, Tryz.ntmps52
  go_wp2_with fail
  refine k.out.mono ?_
  rintro e w1 ⟨rfl, h2⟩
  go_wp2_with fail
  go_end0
  exact ⟨rfl, h2⟩

set_option maxHeartbeats 1600000 in
theorem tw_fields_118 (t qm qx : Nat) (a x : MV) (w0 w : World) (hA : TA w0 w t qm qx a x) (hok : a.Ok) (ht : x.m.ty = 118) :
    Calls Tryz.prog 52 #[.iface 107 (.pointer (some ⟨t, 0, none⟩)), .pointer (some ⟨qx, 0, none⟩)] w (TGood w0 t qm qx a (copies a [.fid, .offset, .data] x)) := by
  have c0 : w.cell? ⟨qx, 0, none⟩ = some (.int .u8 118) := by rw [block_cell hA.xb 0]; show some (Value.int .u8 (x.m.ty : Int)) = _; rw [ht]; rfl
  have k := hid (tw_files_118 t qm qx a x w0 w hA hok ht)
  replace hA := hid hA
  clear ht
  go_enter Tryz.func52, Tryz.ntmps52
  go_wp2_with fail
  refine k.out.mono ?_
  rintro e w1 ⟨rfl, h2⟩
  go_wp2_with fail
  go_end0
  exact ⟨rfl, h2⟩

set_option maxHeartbeats 1600000 in
theorem tw_fields_119 (t qm qx : Nat) (a x : MV) (w0 w : World) (hA : TA w0 w t qm qx a x) (hok : a.Ok) (ht : x.m.ty = 119) :
    Calls Tryz.prog 52 #[.iface 107 (.pointer (some ⟨t, 0, none⟩)), .pointer (some ⟨qx, 0, none⟩)] w (TGood w0 t qm qx a (copies a [.count] x)) := by
  have c0 : w.cell? ⟨qx, 0, none⟩ = some (.int .u8 119) := by rw [block_cell hA.xb 0]; show some (Value.int .u8 (x.m.ty : Int)) = _; rw [ht]; rfl
  have k := hid (tw_files_119 t qm qx a x w0 w hA hok ht)
  replace hA := hid hA
  clear ht
  go_enter Tryz.func52, Tryz.ntmps52
  go_wp2_with fail
  refine k.out.mono ?_
  rintro e w1 ⟨rfl, h2⟩
  go_wp2_with fail
  go_end0
  exact ⟨rfl, h2⟩

set_option maxHeartbeats 1600000 in
theorem tw_fields_120 (t qm qx : Nat) (a x : MV) (w0 w : World) (hA : TA w0 w t qm qx a x) (hok : a.Ok) (ht : x.m.ty = 120) :
    Calls Tryz.prog 52 #[.iface 107 (.pointer (some ⟨t, 0, none⟩)), .pointer (some ⟨qx, 0, none⟩)] w (TGood w0 t qm qx a (copies a [.fid] x)) := by
  have c0 : w.cell? ⟨qx, 0, none⟩ = some (.int .u8 120) := by rw [block_cell hA.xb 0]; show some (Value.int .u8 (x.m.ty : Int)) = _; rw [ht]; rfl
  have k := hid (tw_files_120 t qm qx a x w0 w hA hok ht)
  replace hA := hid hA
  clear ht
  go_enter Tryz.func52, Tryz.ntmps52
  go_wp2_with fail
  refine k.out.mono ?_
  rintro e w1 ⟨rfl, h2⟩
  go_wp2_with fail
  go_end0
  exact ⟨rfl, h2⟩

set_option maxHeartbeats 1600000 in
theorem tw_fields_122 (t qm qx : Nat) (a x : MV) (w0 w : World) (hA : TA w0 w t qm qx a x) (hok : a.Ok) (ht : x.m.ty = 122) :
    Calls Tryz.prog 52 #[.iface 107 (.pointer (some ⟨t, 0, none⟩)), .pointer (some ⟨qx, 0, none⟩)] w (TGood w0 t qm qx a (copies a [.fid] x)) := by
  have c0 : w.cell? ⟨qx, 0, none⟩ = some (.int .u8 122) := by rw [block_cell hA.xb 0]; show some (Value.int .u8 (x.m.ty : Int)) = _; rw [ht]; rfl
  have k := hid (tw_files_122 t qm qx a x w0 w hA hok ht)
  replace hA := hid hA
  clear ht
  go_enter Tryz.func52, Tryz.ntmps52
  go_wp2_with fail
  refine k.out.mono ?_
  rintro e w1 ⟨rfl, h2⟩
  go_wp2_with fail
  go_end0
  exact ⟨rfl, h2⟩

set_option maxHeartbeats 1600000 in
theorem tw_fields_124 (t qm qx : Nat) (a x : MV) (w0 w : World) (hA : TA w0 w t qm qx a x) (hok : a.Ok) (ht : x.m.ty = 124) :
    Calls Tryz.prog 52 #[.iface 107 (.pointer (some ⟨t, 0, none⟩)), .pointer (some ⟨qx, 0, none⟩)] w (TGood w0 t qm qx a (copies a [.fid] x)) := by
  have c0 : w.cell? ⟨qx, 0, none⟩ = some (.int .u8 124) := by rw [block_cell hA.xb 0]; show some (Value.int .u8 (x.m.ty : Int)) = _; rw [ht]; rfl
  have k := hid (tw_files_124 t qm qx a x w0 w hA hok ht)
  replace hA := hid hA
  clear ht
  go_enter Tryz.func52, Tryz.ntmps52
  go_wp2_with fail
  refine k.out.mono ?_
  rintro e w1 ⟨rfl, h2⟩
  go_wp2_with fail
  go_end0
  exact ⟨rfl, h2⟩

set_option maxHeartbeats 1600000 in
theorem tw_fields_125 (t qm qx : Nat) (a x : MV) (w0 w : World) (hA : TA w0 w t qm qx a x) (hok : a.Ok) (ht : x.m.ty = 125) :
    Calls Tryz.prog 52 #[.iface 107 (.pointer (some ⟨t, 0, none⟩)), .pointer (some ⟨qx, 0, none⟩)] w (TGood w0 t qm qx a (copies a [.stat] x)) := by
  have c0 : w.cell? ⟨qx, 0, none⟩ = some (.int .u8 125) := by rw [block_cell hA.xb 0]; show some (Value.int .u8 (x.m.ty : Int)) = _; rw [ht]; rfl
  have k := hid (tw_files_125 t qm qx a x w0 w hA hok ht)
  replace hA := hid hA
  clear ht
  go_enter Tryz.func52, Tryz.ntmps52
  go_wp2_with fail
  refine k.out.mono ?_
  rintro e w1 ⟨rfl, h2⟩
  go_wp2_with fail
  go_end0
  exact ⟨rfl, h2⟩

set_option maxHeartbeats 1600000 in
theorem tw_fields_126 (t qm qx : Nat) (a x : MV) (w0 w : World) (hA : TA w0 w t qm qx a x) (hok : a.Ok) (ht : x.m.ty = 126) :
    Calls Tryz.prog 52 #[.iface 107 (.pointer (some ⟨t, 0, none⟩)), .pointer (some ⟨qx, 0, none⟩)] w (TGood w0 t qm qx a (copies a [.fid, .stat] x)) := by
  have c0 : w.cell? ⟨qx, 0, none⟩ = some (.int .u8 126) := by rw [block_cell hA.xb 0]; show some (Value.int .u8 (x.m.ty : Int)) = _; rw [ht]; rfl
  have k := hid (tw_files_126 t qm qx a x w0 w hA hok ht)
  replace hA := hid hA
  clear ht
  go_enter Tryz.func52, Tryz.ntmps52
  go_wp2_with fail
  refine k.out.mono ?_
  rintro e w1 ⟨rfl, h2⟩
  go_wp2_with fail
  go_end0
  exact ⟨rfl, h2⟩

set_option maxHeartbeats 1600000 in
theorem tw_fields_109 (t qm qx : Nat) (a x : MV) (w0 w : World) (hA : TA w0 w t qm qx a x) (hok : a.Ok) (ht : x.m.ty = 109) :
    Calls Tryz.prog 52 #[.iface 107 (.pointer (some ⟨t, 0, none⟩)), .pointer (some ⟨qx, 0, none⟩)] w (TGood w0 t qm qx a (copies a [] x)) := by
  have c0 : w.cell? ⟨qx, 0, none⟩ = some (.int .u8 109) := by rw [block_cell hA.xb 0]; show some (Value.int .u8 (x.m.ty : Int)) = _; rw [ht]; rfl
  have k := hid (tw_files_109 t qm qx a x w0 w hA hok ht)
  replace hA := hid hA
  clear ht
  go_enter Tryz.func52, Tryz.ntmps52
  go_wp2_with fail
  refine k.out.mono ?_
  rintro e w1 ⟨rfl, h2⟩
  go_wp2_with fail
  go_end0
  exact ⟨rfl, h2⟩

set_option maxHeartbeats 1600000 in
theorem tw_fields_121 (t qm qx : Nat) (a x : MV) (w0 w : World) (hA : TA w0 w t qm qx a x) (hok : a.Ok) (ht : x.m.ty = 121) :
    Calls Tryz.prog 52 #[.iface 107 (.pointer (some ⟨t, 0, none⟩)), .pointer (some ⟨qx, 0, none⟩)] w (TGood w0 t qm qx a (copies a [] x)) := by
  have c0 : w.cell? ⟨qx, 0, none⟩ = some (.int .u8 121) := by rw [block_cell hA.xb 0]; show some (Value.int .u8 (x.m.ty : Int)) = _; rw [ht]; rfl
  have k := hid (tw_files_121 t qm qx a x w0 w hA hok ht)
  replace hA := hid hA
  clear ht
  go_enter Tryz.func52, Tryz.ntmps52
  go_wp2_with fail
  refine k.out.mono ?_
  rintro e w1 ⟨rfl, h2⟩
  go_wp2_with fail
  go_end0
  exact ⟨rfl, h2⟩

set_option maxHeartbeats 1600000 in
theorem tw_fields_123 (t qm qx : Nat) (a x : MV) (w0 w : World) (hA : TA w0 w t qm qx a x) (hok : a.Ok) (ht : x.m.ty = 123) :
    Calls Tryz.prog 52 #[.iface 107 (.pointer (some ⟨t, 0, none⟩)), .pointer (some ⟨qx, 0, none⟩)] w (TGood w0 t qm qx a (copies a [] x)) := by
  have c0 : w.cell? ⟨qx, 0, none⟩ = some (.int .u8 123) := by rw [block_cell hA.xb 0]; show some (Value.int .u8 (x.m.ty : Int)) = _; rw [ht]; rfl
  have k := hid (tw_files_123 t qm qx a x w0 w hA hok ht)
  replace hA := hid hA
  clear ht
  go_enter Tryz.func52, Tryz.ntmps52
  go_wp2_with fail
  refine k.out.mono ?_
  rintro e w1 ⟨rfl, h2⟩
  go_wp2_with fail
  go_end0
  exact ⟨rfl, h2⟩

set_option maxHeartbeats 1600000 in
theorem tw_fields_127 (t qm qx : Nat) (a x : MV) (w0 w : World) (hA : TA w0 w t qm qx a x) (hok : a.Ok) (ht : x.m.ty = 127) :
    Calls Tryz.prog 52 #[.iface 107 (.pointer (some ⟨t, 0, none⟩)), .pointer (some ⟨qx, 0, none⟩)] w (TGood w0 t qm qx a (copies a [] x)) := by
  have c0 : w.cell? ⟨qx, 0, none⟩ = some (.int .u8 127) := by rw [block_cell hA.xb 0]; show some (Value.int .u8 (x.m.ty : Int)) = _; rw [ht]; rfl
  have k := hid (tw_files_127 t qm qx a x w0 w hA hok ht)
  replace hA := hid hA
  clear ht
  go_enter Tryz.func52, Tryz.ntmps52
  go_wp2_with fail
  refine k.out.mono ?_
  rintro e w1 ⟨rfl, h2⟩
  go_wp2_with fail
  go_end0
  exact ⟨rfl, h2⟩

theorem tw_fields_any (t qm qx : Nat) (a x : MV) (w0 w : World) (hA : TA w0 w t qm qx a x) (hok : a.Ok) (hk : knownT x.m.ty = true) :
    Calls Tryz.prog 52 #[.iface 107 (.pointer (some ⟨t, 0, none⟩)), .pointer (some ⟨qx, 0, none⟩)] w (TGood w0 t qm qx a (copies a (slots x.m.ty) x)) := by
  have hk' : (100 ≤ x.m.ty ∧ x.m.ty ≤ 127) ∧ x.m.ty ≠ 106 := by simpa [knownT] using hk
  have hr : x.m.ty = 100 ∨ x.m.ty = 101 ∨ x.m.ty = 102 ∨ x.m.ty = 103 ∨ x.m.ty = 104 ∨ x.m.ty = 105 ∨ x.m.ty = 107 ∨ x.m.ty = 108 ∨ x.m.ty = 109 ∨ x.m.ty = 110 ∨ x.m.ty = 111 ∨ x.m.ty = 112 ∨ x.m.ty = 113 ∨ x.m.ty = 114 ∨ x.m.ty = 115 ∨ x.m.ty = 116 ∨ x.m.ty = 117 ∨ x.m.ty = 118 ∨ x.m.ty = 119 ∨ x.m.ty = 120 ∨ x.m.ty = 121 ∨ x.m.ty = 122 ∨ x.m.ty = 123 ∨ x.m.ty = 124 ∨ x.m.ty = 125 ∨ x.m.ty = 126 ∨ x.m.ty = 127 := by omega
  rcases hr with h | h | h | h | h | h | h | h | h | h | h | h | h | h | h | h | h | h | h | h | h | h | h | h | h | h | h
  · have := tw_fields_100 t qm qx a x w0 w hA hok h
    rw [h]; exact this
  · have := tw_fields_101 t qm qx a x w0 w hA hok h
    rw [h]; exact this
  · have := tw_fields_102 t qm qx a x w0 w hA hok h
    rw [h]; exact this
  · have := tw_fields_103 t qm qx a x w0 w hA hok h
    rw [h]; exact this
  · have := tw_fields_104 t qm qx a x w0 w hA hok h
    rw [h]; exact this
  · have := tw_fields_105 t qm qx a x w0 w hA hok h
    rw [h]; exact this
  · have := tw_fields_107 t qm qx a x w0 w hA hok h
    rw [h]; exact this
  · have := tw_fields_108 t qm qx a x w0 w hA hok h
    rw [h]; exact this
  · have := tw_fields_109 t qm qx a x w0 w hA hok h
    rw [h]; exact this
  · have := tw_fields_110 t qm qx a x w0 w hA hok h
    rw [h]; exact this
  · have := tw_fields_111 t qm qx a x w0 w hA hok h
    rw [h]; exact this
  · have := tw_fields_112 t qm qx a x w0 w hA hok h
    rw [h]; exact this
  · have := tw_fields_113 t qm qx a x w0 w hA hok h
    rw [h]; exact this
  · have := tw_fields_114 t qm qx a x w0 w hA hok h
    rw [h]; exact this
  · have := tw_fields_115 t qm qx a x w0 w hA hok h
    rw [h]; exact this
  · have := tw_fields_116 t qm qx a x w0 w hA hok h
    rw [h]; exact this
  · have := tw_fields_117 t qm qx a x w0 w hA hok h
    rw [h]; exact this
  · have := tw_fields_118 t qm qx a x w0 w hA hok h
    rw [h]; exact this
  · have := tw_fields_119 t qm qx a x w0 w hA hok h
    rw [h]; exact this
  · have := tw_fields_120 t qm qx a x w0 w hA hok h
    rw [h]; exact this
  · have := tw_fields_121 t qm qx a x w0 w hA hok h
    rw [h]; exact this
  · have := tw_fields_122 t qm qx a x w0 w hA hok h
    rw [h]; exact this
  · have := tw_fields_123 t qm qx a x w0 w hA hok h
    rw [h]; exact this
  · have := tw_fields_124 t qm qx a x w0 w hA hok h
    rw [h]; exact this
  · have := tw_fields_125 t qm qx a x w0 w hA hok h
    rw [h]; exact this
  · have := tw_fields_126 t qm qx a x w0 w hA hok h
    rw [h]; exact this
  · have := tw_fields_127 t qm qx a x w0 w hA hok h
    rw [h]; exact this
end
end Go.Proofs.YtcbglcebdkpcfaaGreat

namespace Go.Proofs.YtcbglcebdkpcfaaGreat
section
open Go.RowKit
set_option maxRecDepth 100000
set_option linter.unusedVariables false
def headOf (m : M) : MV := ⟨{ zeroM with ty := m.ty, tag := m.tag }, .slice none 0 0, .slice none 0 0, .slice none 0 0⟩
def namedV (a : MV) : MV := copies a (slots a.m.ty) (headOf a.m)
def MV.At (w : World) (x : MV) : Prop := StrsAt w x.n x.m.names ∧ QidsAt w x.q x.m.qids ∧ BytesAt w x.d x.m.data
theorem MV.At.ok {w : World} {x : MV} (h : x.At w) : x.Ok := by
  obtain ⟨h1, h2, h3⟩ := h
  obtain ⟨a1, c1, e1, _⟩ := h1.form
  obtain ⟨a2, c2, e2, _⟩ := h2.form
  obtain ⟨a3, c3, e3, _⟩ := h3.form
  exact ⟨⟨_, _, _, e1⟩, ⟨_, _, _, e2⟩, ⟨_, _, _, e3⟩⟩
theorem MV.At.copy {w : World} {a x : MV} (ha : a.At w) (hx : x.At w) (s : Slot) : (s.copy a x).At w := by
  obtain ⟨a1, a2, a3⟩ := ha
  obtain ⟨x1, x2, x3⟩ := hx
  cases s <;> first | exact ⟨x1, x2, x3⟩ | exact ⟨a1, x2, x3⟩ | exact ⟨x1, a2, x3⟩ | exact ⟨x1, x2, a3⟩
theorem MV.At.copies {w : World} {a : MV} (ha : a.At w) : ∀ (ss : List Slot) (x : MV), x.At w → (Go.Proofs.YtcbglcebdkpcfaaGreat.copies a ss x).At w
  | [], _, h => h
  | s :: ss, x, h => MV.At.copies ha ss _ (ha.copy h s)
theorem MV.At.head {w : World} {m : M} : (headOf m).At w := ⟨RowAt.nil, RowAt.nil, RowAt.nil⟩
theorem MV.At.named {w : World} {a : MV} (ha : a.At w) : (namedV a).At w := ha.copies _ _ MV.At.head
theorem MV.At.below {w w' : World} {a : MV} (ha : a.At w) (hb : Below w.heap.size w w') : a.At w' := ⟨RowAt.below ha.1 hb, RowAt.below ha.2.1 hb, RowAt.below ha.2.2 hb⟩
theorem MV.At.cells {w : World} {x : MV} (h : x.At w) : x.cells.size = 36 ∧ x.cells.all (·.oneCell') = true := by
  obtain ⟨⟨a1, n1, c1, e1⟩, ⟨a2, n2, c2, e2⟩, ⟨a3, n3, c3, e3⟩⟩ := h.ok
  unfold MV.cells
  rw [e1, e2, e3]
  exact ⟨rfl, by kernel_rfl⟩
def NamedPost (w : World) (a : MV) (e : Ending) (w' : World) : Prop := e = .returned (.agg (namedV a).cells) ∧ Below w.heap.size w w'

set_option maxHeartbeats 1600000 in
theorem named_any (a : MV) (w : World) (ha : a.At w) (hk : knownT a.m.ty = true) : Calls Tryz.prog 27 #[.agg a.cells] w (NamedPost w a) := by
  obtain ⟨hsz, hone⟩ := ha.cells
  obtain ⟨cs, hcs⟩ : ∃ cs, cs = a.cells := ⟨_, rfl⟩
  have hx0 : cs[0]? = some (.int .u8 (a.m.ty : Int)) := by rw [hcs]; rfl
  have hx1 : cs[1]? = some (.int .u16 (a.m.tag : Int)) := by rw [hcs]; rfl
  rw [← hcs] at hsz hone ⊢
  replace hcs := hid hcs
  replace hsz := hid hsz
  replace hone := hid hone
  have hok := hid ha.ok
  replace ha := hid ha
  replace hk := hid hk
  go_enter Tryz.func27, Tryz.ntmps27
  obtain ⟨W3, hW3⟩ : ∃ W, W = ((w.alloc (.cells cs 41)).alloc (.cells (zeroM.cells (.slice none 0 0) (.slice none 0 0) (.slice none 0 0)) 41)).alloc (.cells (zeroM.cells (.slice none 0 0) (.slice none 0 0) (.slice none 0 0)) 41) := ⟨_, rfl⟩
  have hz3 : W3.heap.size = w.heap.size + 3 := by rw [hW3]; simp
  have h3 : W3.heap[w.heap.size + 1 + 1]? = some (.cells (zeroM.cells (.slice none 0 0) (.slice none 0 0) (.slice none 0 0)) 41 (0, 0)) := by rw [hW3]; exact heap3 _ _ _ _
  have h1 : W3.heap[w.heap.size + 1]? = some (.cells (zeroM.cells (.slice none 0 0) (.slice none 0 0) (.slice none 0 0)) 41 (0, 0)) := by rw [hW3, heap_alloc_old _ _ (by simp), ]; exact heap2 _ _ _
  have h0 : W3.heap[w.heap.size]? = some (.cells cs 41 (0, 0)) := by rw [hW3, heap_alloc_old _ _ (by simp; omega), heap_alloc_old _ _ (by simp), heap_alloc_new]
  have hb3 : Below w.heap.size w W3 := by rw [hW3]; exact (((Below.refl w.heap.size w).alloc (Nat.le_refl _) _).alloc (by simp) _).alloc (by simp; omega) _
  have h4 := setRow_heap _ _ _ (headOf a.m).cells _ _ h3
  have hz4 : (W3.setRow (w.heap.size + 1 + 1) (headOf a.m).cells).heap.size = w.heap.size + 1 + 1 + 1 := by simp [hz3]
  have h5 := heap_alloc_new (W3.setRow (w.heap.size + 1 + 1) (headOf a.m).cells) (.cells (twinCells w.heap.size (w.heap.size + 1 + 1)) 110)
  rw [hz4] at h5
  have old5 : ∀ k, k < w.heap.size + 1 + 1 → ((W3.setRow (w.heap.size + 1 + 1) (headOf a.m).cells).alloc (.cells (twinCells w.heap.size (w.heap.size + 1 + 1)) 110)).heap[k]? = W3.heap[k]? := fun k hk => (heap_alloc_old _ _ (by omega)).trans (setRow_other _ _ _ _ (by omega))
  have hTA : TA ((W3.setRow (w.heap.size + 1 + 1) (headOf a.m).cells).alloc (.cells (twinCells w.heap.size (w.heap.size + 1 + 1)) 110)) ((W3.setRow (w.heap.size + 1 + 1) (headOf a.m).cells).alloc (.cells (twinCells w.heap.size (w.heap.size + 1 + 1)) 110)) (w.heap.size + 1 + 1 + 1) w.heap.size (w.heap.size + 1 + 1) a (headOf a.m) :=
    ⟨h5, (old5 _ (by omega)).trans (h0.trans (by rw [hcs.out])), (heap_alloc_old _ _ (by omega)).trans h4, ⟨by omega, by omega⟩, fun m _ => Below.refl _ _⟩
  have hb5 : Below w.heap.size w ((W3.setRow (w.heap.size + 1 + 1) (headOf a.m).cells).alloc (.cells (twinCells w.heap.size (w.heap.size + 1 + 1)) 110)) := (below_setRow hb3 (by omega) _).alloc (by omega) _
  have hr5 := (old5 (w.heap.size + 1) (by omega)).trans h1
  replace h3 := hid h3
  rw [nil_cells] at hW3
  replace hTA := hid hTA
  replace hb5 := hid hb5
  replace hr5 := hid hr5
  replace hb3 := hid hb3
  clear h0 h1 h4 h5 old5 hz4
  go_wp2_with (first
    | (refine wpList_store_row (by rfl) 41 (.tmp 3) (.tmp 8) (by rfl) (w.heap.size + 1 + 1) (headOf a.m).cells (by rfl) (by rfl) 41 _ (hW3 ▸ h3.out) (by kernel_rfl) (by kernel_rfl) (by kernel_rfl) ?_)
    | (rw [← hW3]; replace hW3 := hid hW3))
  refine (tw_fields_any _ _ _ a (headOf a.m) _ _ hTA.out hok.out hk.out).mono ?_
  rintro e w6 ⟨rfl, hT⟩
  have hx6 := hid hT.xb
  have hr6 := hid (((hT.below (w.heap.size + 1 + 1) (Nat.le_refl _)).block (w.heap.size + 1) (by omega)).trans hr5.out)
  have hb6 := hid (hb5.out.trans (hT.below w.heap.size (by omega)))
  have hn := hid (ha.out.named.cells)
  have hnv : Hid (copies a (slots (headOf a.m).m.ty) (headOf a.m) = namedV a) := hid rfl
  rw [hnv.out] at hx6
  clear hT
  go_wp2_with (first
    | (refine wpList_load_row (by rfl) 41 (.tmp 3) (by rfl) (w.heap.size + 1 + 1) (by rfl) 41 _ (0, 0) _ hx6.out Tryz.underlying41 (by rfl) (by rw [hn.out.1]; kernel_rfl) ?_)
    | (refine wpList_store_row (by rfl) 41 (.tmp 2) (.tmp 13) (by rfl) (w.heap.size + 1) _ (by rfl) (by rfl) 41 _ hr6.out (by rw [hn.out.1]; kernel_rfl) (by rw [hn.out.1]; rfl) hn.out.2 ?_))
  have hr7 := hid (setRow_heap _ _ _ (namedV a).cells _ _ hr6.out)
  refine bodyPost_ret (results_cell_row rfl _ _ (w.heap.size + 1) _ _ _ _ rfl hr7.out Tryz.underlying41 rfl (by rw [hn.out.1]; kernel_rfl)) rfl ?_
  exact ⟨rfl, below_setRow hb6.out (by omega) _⟩
end
end Go.Proofs.YtcbglcebdkpcfaaGreat

namespace Go.Proofs.YtcbglcebdkpcfaaGreat
section
open Go.RowKit
set_option maxRecDepth 100000
set_option linter.unusedVariables false

def allOps : Code → List (Array Oper)
  | .seq c d => allOps c ++ allOps d
  | .region _ ops _ => [ops]
  | .block _ c => allOps c
  | _ => []
noncomputable def ops_same1 : Array Oper := match Tryz.f13.body with | some c => (allOps c).getD 1 #[] | none => #[]
def zeroCells : Array Value := zeroM.cells (.slice none 0 0) (.slice none 0 0) (.slice none 0 0)
def SmS (p q : Nat) (a b : MV) (w : World) : Prop := w.heap[p]? = some (.cells a.cells 41 (0, 0)) ∧ w.heap[q]? = some (.cells b.cells 41 (0, 0))
theorem SmS.below {p q : Nat} {a b : MV} {w w' : World} (h : SmS p q a b w) (hb : Below w.heap.size w w') : SmS p q a b w' :=
  ⟨(hb.block p (lt_of_block h.1)).trans h.1, (hb.block q (lt_of_block h.2)).trans h.2⟩
def und (n : Nat) : List Value := List.replicate n undef
def act_s (p q : Nat) (a b : MV) (v5 v6 v8 v10 : Value) : Act := { tmps := ([.agg a.cells, .agg b.cells, pt p 0, pt q 0, .bool false, v5, v6, .agg a.cells, v8, .agg b.cells, v10] ++ und 152).toArray, defers := [] }
structure S1 (w0 w : World) (p q : Nat) (a b : MV) : Prop where
  s : SmS p q a b w
  below : Below w0.heap.size w0 w
  lt : p < w0.heap.size ∧ q < w0.heap.size
theorem S1.next {w0 w w' : World} {p q : Nat} {a b : MV} (h : S1 w0 w p q a b) (hb : Below w.heap.size w w') : S1 w0 w' p q a b :=
  ⟨h.s.below hb, h.below.trans (hb.mono h.below.size), h.lt⟩
theorem S1.row {w0 w : World} {p q k : Nat} {a b : MV} (h : S1 w0 w p q a b) (hk : w0.heap.size ≤ k) (cs : Array Value) : S1 w0 (w.setRow k cs) p q a b :=
  ⟨⟨(setRow_other _ _ _ _ (by have := h.lt; omega)).trans h.s.1, (setRow_other _ _ _ _ (by have := h.lt; omega)).trans h.s.2⟩, below_setRow h.below hk _, h.lt⟩
def Box (w0 w : World) (k : Nat) (cs : Array Value) : Prop := w.heap[k]? = some (.cells cs 41 (0, 0)) ∧ w0.heap.size ≤ k
theorem Box.next {w0 w w' : World} {k : Nat} {cs : Array Value} (h : Box w0 w k cs) (hb : Below w.heap.size w w') : Box w0 w' k cs := ⟨(hb.block k (lt_of_block h.1)).trans h.1, h.2⟩
def End1 (Q : Exit → Act → World → Prop) (w0 : World) (p q : Nat) (a b : MV) : Prop :=
  ∀ k5 k6 w', S1 w0 w' p q a b → Box w0 w' k5 (namedV a).cells → Box w0 w' k6 (namedV b).cells → Q .normal (act_s p q a b (pt k5 0) (pt k6 0) (.agg (namedV a).cells) (.agg (namedV b).cells)) w'
structure Pair (w0 : World) (a b : MV) : Prop where
  ha : a.At w0
  hb : b.At w0
  ka : knownT a.m.ty = true
  kb : knownT b.m.ty = true
theorem size_same1 : ops_same1.size = 8 := by kernel_rfl
theorem run_row_load (w : World) (o : Oper) (ev : Operand → Value) (x : Operand) (g : Nat) (cs : Array Value) (ho : o.op = .load 41 x) (hx : ev x = pt g 0) (hg : w.heap[g]? = some (.cells cs 41 (0, 0))) (hs : cs.size = 36) : (execOp ev o).run Tryz.prog w = .ok (.value (.agg cs)) w := by
  have hi : (Tryz.prog.info? 41).map (·.size) = some cs.size := by rw [hs]; kernel_rfl
  have hx' : ev x = .pointer (some ⟨g, 0, none⟩) := hx
  simp only [execOp, ho, hx', Instr.loadAt, Instr.sureAddr, Sem.run_bind, Sem.run_pure, Result.andThen_ok, run_loadVar_row w g 41 41 cs (0, 0) _ hg Tryz.underlying41 rfl hi]
theorem run_row_store (w : World) (o : Oper) (ev : Operand → Value) (x y : Operand) (g : Nat) (old cs : Array Value) (ho : o.op = .store 41 x y) (hx : ev x = pt g 0) (hy : ev y = .agg cs) (hg : w.heap[g]? = some (.cells old 41 (0, 0))) (hold : old.size = 36) (hs : cs.size = 36) (h1 : cs.all (·.oneCell') = true) : (execOp ev o).run Tryz.prog w = .ok .skip (w.setRow g cs) := by
  have hi : (Tryz.prog.info? 41).map (·.size) = some cs.size := by rw [hs]; kernel_rfl
  have hx' : ev x = .pointer (some ⟨g, 0, none⟩) := hx
  simp only [execOp, ho, hx', hy, Instr.storeAt, Instr.sureAddr, Sem.run_bind, Sem.run_pure, Result.andThen_ok, run_storeVar_row w g 41 41 old cs hg hi (by rw [hold, hs]) h1]

set_option maxHeartbeats 800000 in
theorem s1_211 (w0 w : World) (p q : Nat) (a b : MV) (Q : Exit → Act → World → Prop) (hP : Pair w0 a b) (hE : End1 Q w0 p q a b) (h : S1 w0 w p q a b) (k5 : Nat) (h5 : Box w0 w k5 zeroCells) (k6 : Nat) (h6 : Box w0 w k6 zeroCells) (hne : k5 ≠ k6) : wpAnyH Tryz.prog .any ops_same1 Q (SmS p q a b) 2 #[true, true, true, true, true, true, false, false] (act_s p q a b (pt k5 0) (pt k6 0) (.agg (namedV a).cells) (.agg (namedV b).cells)) w := by
  have ca := (hP.ha.below h.below).named.cells
  have cb := (hP.hb.below h.below).named.cells
  refine wpAnyH_ready (rs := [6]) (by kernel_rfl) (by simp) ?_
  refine AllReadyH.cons rfl (fun K hK => ?_) AllReadyH.nil
  rw [if_pos (by kernel_rfl)]
  have hrun : (execOp (act_s p q a b (pt k5 0) (pt k6 0) (.agg (namedV a).cells) (.agg (namedV b).cells)).eval (ops_same1[6]'(by rw [size_same1]; decide))).run Tryz.prog w = .ok .skip (w.setRow k5 (namedV a).cells) := run_row_store w _ _ (.tmp 5) (.tmp 8) k5 zeroCells (namedV a).cells (by kernel_rfl) (by kernel_rfl) (by kernel_rfl) h5.1 rfl ca.1 ca.2
  refine (show Oper.wp Tryz.prog (ops_same1[6]'(by rw [size_same1]; decide)) (act_s p q a b (pt k5 0) (pt k6 0) (.agg (namedV a).cells) (.agg (namedV b).cells)) w K Q → _ from fun h => h) ?_
  unfold Oper.wp
  rw [hrun]
  have h6' : Box w0 (w.setRow k5 (namedV a).cells) k6 zeroCells := ⟨(setRow_other _ _ _ _ (fun e => hne e.symm)).trans h6.1, h6.2⟩
  have h5' : Box w0 (w.setRow k5 (namedV a).cells) k5 (namedV a).cells := ⟨setRow_heap _ _ _ _ _ _ h5.1, h5.2⟩
  have hS := h.row h5.2 (namedV a).cells
  refine hK.out _ _ hS.s (fun _ => ?_)
  refine wpAnyH_ready (rs := [7]) (by kernel_rfl) (by simp) ?_
  refine AllReadyH.cons rfl (fun K hK => ?_) AllReadyH.nil
  rw [if_pos (by kernel_rfl)]
  have hrun2 : (execOp (act_s p q a b (pt k5 0) (pt k6 0) (.agg (namedV a).cells) (.agg (namedV b).cells)).eval (ops_same1[7]'(by rw [size_same1]; decide))).run Tryz.prog (w.setRow k5 (namedV a).cells) = .ok .skip ((w.setRow k5 (namedV a).cells).setRow k6 (namedV b).cells) := run_row_store _ _ _ (.tmp 6) (.tmp 10) k6 zeroCells (namedV b).cells (by kernel_rfl) (by kernel_rfl) (by kernel_rfl) h6'.1 rfl cb.1 cb.2
  refine (show Oper.wp Tryz.prog (ops_same1[7]'(by rw [size_same1]; decide)) (act_s p q a b (pt k5 0) (pt k6 0) (.agg (namedV a).cells) (.agg (namedV b).cells)) (w.setRow k5 (namedV a).cells) K Q → _ from fun h => h) ?_
  unfold Oper.wp
  rw [hrun2]
  have hS2 := hS.row h6.2 (namedV b).cells
  refine hK.out _ _ hS2.s (fun _ => ?_)
  refine wpAnyH_done (by kernel_rfl) ?_ _
  exact hE k5 k6 _ hS2 ⟨(setRow_other _ _ _ _ hne).trans h5'.1, h5.2⟩ ⟨setRow_heap _ _ _ _ _ _ h6'.1, h6.2⟩

set_option maxHeartbeats 800000 in
theorem s1_210 (w0 w : World) (p q : Nat) (a b : MV) (Q : Exit → Act → World → Prop) (hP : Pair w0 a b) (hE : End1 Q w0 p q a b) (h : S1 w0 w p q a b) (k5 : Nat) (h5 : Box w0 w k5 zeroCells) : wpAnyH Tryz.prog .any ops_same1 Q (SmS p q a b) 3 #[true, true, true, true, true, false, false, false] (act_s p q a b (pt k5 0) undef (.agg (namedV a).cells) (.agg (namedV b).cells)) w := by
  refine wpAnyH_ready (rs := [5]) (by kernel_rfl) (by simp) ?_
  refine AllReadyH.cons rfl (fun K hK => ?_) ?_
  · rw [if_pos (by kernel_rfl)]
    refine (show Oper.wp Tryz.prog (ops_same1[5]'(by rw [size_same1]; decide)) (act_s p q a b (pt k5 0) undef (.agg (namedV a).cells) (.agg (namedV b).cells)) w K Q → _ from fun h => h) ?_
    unfold Oper.wp
    rw [show (execOp (act_s p q a b (pt k5 0) undef (.agg (namedV a).cells) (.agg (namedV b).cells)).eval (ops_same1[5]'(by rw [size_same1]; decide))).run Tryz.prog w = .ok (.value (pt w.heap.size 0)) (w.alloc (.cells zeroCells 41)) from by kernel_rfl]
    have hb := (Below.refl w.heap.size w).alloc (Nat.le_refl _) (.cells zeroCells 41)
    exact hK.out _ _ (h.s.below hb) (fun _ => s1_211 w0 _ p q a b Q hP hE (h.next hb) k5 (h5.next hb) w.heap.size (show Box w0 (w.alloc (.cells zeroCells 41)) w.heap.size zeroCells from ⟨heap_alloc_new _ _, h.below.size⟩) (by have := lt_of_block h5.1; omega))
  exact AllReadyH.nil
set_option maxHeartbeats 800000 in
theorem s1_201 (w0 w : World) (p q : Nat) (a b : MV) (Q : Exit → Act → World → Prop) (hP : Pair w0 a b) (hE : End1 Q w0 p q a b) (h : S1 w0 w p q a b) (k6 : Nat) (h6 : Box w0 w k6 zeroCells) : wpAnyH Tryz.prog .any ops_same1 Q (SmS p q a b) 3 #[true, true, true, true, false, true, false, false] (act_s p q a b undef (pt k6 0) (.agg (namedV a).cells) (.agg (namedV b).cells)) w := by
  refine wpAnyH_ready (rs := [4]) (by kernel_rfl) (by simp) ?_
  refine AllReadyH.cons rfl (fun K hK => ?_) ?_
  · rw [if_pos (by kernel_rfl)]
    refine (show Oper.wp Tryz.prog (ops_same1[4]'(by rw [size_same1]; decide)) (act_s p q a b undef (pt k6 0) (.agg (namedV a).cells) (.agg (namedV b).cells)) w K Q → _ from fun h => h) ?_
    unfold Oper.wp
    rw [show (execOp (act_s p q a b undef (pt k6 0) (.agg (namedV a).cells) (.agg (namedV b).cells)).eval (ops_same1[4]'(by rw [size_same1]; decide))).run Tryz.prog w = .ok (.value (pt w.heap.size 0)) (w.alloc (.cells zeroCells 41)) from by kernel_rfl]
    have hb := (Below.refl w.heap.size w).alloc (Nat.le_refl _) (.cells zeroCells 41)
    exact hK.out _ _ (h.s.below hb) (fun _ => s1_211 w0 _ p q a b Q hP hE (h.next hb) w.heap.size (show Box w0 (w.alloc (.cells zeroCells 41)) w.heap.size zeroCells from ⟨heap_alloc_new _ _, h.below.size⟩) k6 (h6.next hb) (by have := lt_of_block h6.1; omega))
  exact AllReadyH.nil
set_option maxHeartbeats 800000 in
theorem s1_200 (w0 w : World) (p q : Nat) (a b : MV) (Q : Exit → Act → World → Prop) (hP : Pair w0 a b) (hE : End1 Q w0 p q a b) (h : S1 w0 w p q a b) : wpAnyH Tryz.prog .any ops_same1 Q (SmS p q a b) 4 #[true, true, true, true, false, false, false, false] (act_s p q a b undef undef (.agg (namedV a).cells) (.agg (namedV b).cells)) w := by
  refine wpAnyH_ready (rs := [4, 5]) (by kernel_rfl) (by simp) ?_
  refine AllReadyH.cons rfl (fun K hK => ?_) ?_
  · rw [if_pos (by kernel_rfl)]
    refine (show Oper.wp Tryz.prog (ops_same1[4]'(by rw [size_same1]; decide)) (act_s p q a b undef undef (.agg (namedV a).cells) (.agg (namedV b).cells)) w K Q → _ from fun h => h) ?_
    unfold Oper.wp
    rw [show (execOp (act_s p q a b undef undef (.agg (namedV a).cells) (.agg (namedV b).cells)).eval (ops_same1[4]'(by rw [size_same1]; decide))).run Tryz.prog w = .ok (.value (pt w.heap.size 0)) (w.alloc (.cells zeroCells 41)) from by kernel_rfl]
    have hb := (Below.refl w.heap.size w).alloc (Nat.le_refl _) (.cells zeroCells 41)
    exact hK.out _ _ (h.s.below hb) (fun _ => s1_210 w0 _ p q a b Q hP hE (h.next hb) w.heap.size (show Box w0 (w.alloc (.cells zeroCells 41)) w.heap.size zeroCells from ⟨heap_alloc_new _ _, h.below.size⟩))
  refine AllReadyH.cons rfl (fun K hK => ?_) ?_
  · rw [if_pos (by kernel_rfl)]
    refine (show Oper.wp Tryz.prog (ops_same1[5]'(by rw [size_same1]; decide)) (act_s p q a b undef undef (.agg (namedV a).cells) (.agg (namedV b).cells)) w K Q → _ from fun h => h) ?_
    unfold Oper.wp
    rw [show (execOp (act_s p q a b undef undef (.agg (namedV a).cells) (.agg (namedV b).cells)).eval (ops_same1[5]'(by rw [size_same1]; decide))).run Tryz.prog w = .ok (.value (pt w.heap.size 0)) (w.alloc (.cells zeroCells 41)) from by kernel_rfl]
    have hb := (Below.refl w.heap.size w).alloc (Nat.le_refl _) (.cells zeroCells 41)
    exact hK.out _ _ (h.s.below hb) (fun _ => s1_201 w0 _ p q a b Q hP hE (h.next hb) w.heap.size (show Box w0 (w.alloc (.cells zeroCells 41)) w.heap.size zeroCells from ⟨heap_alloc_new _ _, h.below.size⟩))
  exact AllReadyH.nil
set_option maxHeartbeats 800000 in
theorem s1_111 (w0 w : World) (p q : Nat) (a b : MV) (Q : Exit → Act → World → Prop) (hP : Pair w0 a b) (hE : End1 Q w0 p q a b) (h : S1 w0 w p q a b) (k5 : Nat) (h5 : Box w0 w k5 zeroCells) (k6 : Nat) (h6 : Box w0 w k6 zeroCells) (hne : k5 ≠ k6) : wpAnyH Tryz.prog .any ops_same1 Q (SmS p q a b) 3 #[true, true, true, false, true, true, false, false] (act_s p q a b (pt k5 0) (pt k6 0) (.agg (namedV a).cells) undef) w := by
  refine wpAnyH_ready (rs := [3]) (by kernel_rfl) (by simp) ?_
  refine AllReadyH.cons rfl (fun K hK => ?_) ?_
  · rw [if_pos (by kernel_rfl)]
    refine (show Oper.wp Tryz.prog (ops_same1[3]'(by rw [size_same1]; decide)) (act_s p q a b (pt k5 0) (pt k6 0) (.agg (namedV a).cells) undef) w K Q → _ from fun h => h) ?_
    unfold Oper.wp
    rw [show (execOp (act_s p q a b (pt k5 0) (pt k6 0) (.agg (namedV a).cells) undef).eval (ops_same1[3]'(by rw [size_same1]; decide))).run Tryz.prog w = .ok (.enter 27 #[.agg b.cells]) w from by kernel_rfl]
    refine (named_any b w (hP.hb.below h.below) hP.kb).mono ?_
    rintro e w2 ⟨rfl, hb⟩
    exact hK.out _ _ (h.s.below hb) (fun _ => s1_211 w0 w2 p q a b Q hP hE (h.next hb) k5 (h5.next hb) k6 (h6.next hb) hne)
  exact AllReadyH.nil
set_option maxHeartbeats 800000 in
theorem s1_110 (w0 w : World) (p q : Nat) (a b : MV) (Q : Exit → Act → World → Prop) (hP : Pair w0 a b) (hE : End1 Q w0 p q a b) (h : S1 w0 w p q a b) (k5 : Nat) (h5 : Box w0 w k5 zeroCells) : wpAnyH Tryz.prog .any ops_same1 Q (SmS p q a b) 4 #[true, true, true, false, true, false, false, false] (act_s p q a b (pt k5 0) undef (.agg (namedV a).cells) undef) w := by
  refine wpAnyH_ready (rs := [3, 5]) (by kernel_rfl) (by simp) ?_
  refine AllReadyH.cons rfl (fun K hK => ?_) ?_
  · rw [if_pos (by kernel_rfl)]
    refine (show Oper.wp Tryz.prog (ops_same1[3]'(by rw [size_same1]; decide)) (act_s p q a b (pt k5 0) undef (.agg (namedV a).cells) undef) w K Q → _ from fun h => h) ?_
    unfold Oper.wp
    rw [show (execOp (act_s p q a b (pt k5 0) undef (.agg (namedV a).cells) undef).eval (ops_same1[3]'(by rw [size_same1]; decide))).run Tryz.prog w = .ok (.enter 27 #[.agg b.cells]) w from by kernel_rfl]
    refine (named_any b w (hP.hb.below h.below) hP.kb).mono ?_
    rintro e w2 ⟨rfl, hb⟩
    exact hK.out _ _ (h.s.below hb) (fun _ => s1_210 w0 w2 p q a b Q hP hE (h.next hb) k5 (h5.next hb))
  refine AllReadyH.cons rfl (fun K hK => ?_) ?_
  · rw [if_pos (by kernel_rfl)]
    refine (show Oper.wp Tryz.prog (ops_same1[5]'(by rw [size_same1]; decide)) (act_s p q a b (pt k5 0) undef (.agg (namedV a).cells) undef) w K Q → _ from fun h => h) ?_
    unfold Oper.wp
    rw [show (execOp (act_s p q a b (pt k5 0) undef (.agg (namedV a).cells) undef).eval (ops_same1[5]'(by rw [size_same1]; decide))).run Tryz.prog w = .ok (.value (pt w.heap.size 0)) (w.alloc (.cells zeroCells 41)) from by kernel_rfl]
    have hb := (Below.refl w.heap.size w).alloc (Nat.le_refl _) (.cells zeroCells 41)
    exact hK.out _ _ (h.s.below hb) (fun _ => s1_111 w0 _ p q a b Q hP hE (h.next hb) k5 (h5.next hb) w.heap.size (show Box w0 (w.alloc (.cells zeroCells 41)) w.heap.size zeroCells from ⟨heap_alloc_new _ _, h.below.size⟩) (by have := lt_of_block h5.1; omega))
  exact AllReadyH.nil
set_option maxHeartbeats 800000 in
theorem s1_101 (w0 w : World) (p q : Nat) (a b : MV) (Q : Exit → Act → World → Prop) (hP : Pair w0 a b) (hE : End1 Q w0 p q a b) (h : S1 w0 w p q a b) (k6 : Nat) (h6 : Box w0 w k6 zeroCells) : wpAnyH Tryz.prog .any ops_same1 Q (SmS p q a b) 4 #[true, true, true, false, false, true, false, false] (act_s p q a b undef (pt k6 0) (.agg (namedV a).cells) undef) w := by
  refine wpAnyH_ready (rs := [3, 4]) (by kernel_rfl) (by simp) ?_
  refine AllReadyH.cons rfl (fun K hK => ?_) ?_
  · rw [if_pos (by kernel_rfl)]
    refine (show Oper.wp Tryz.prog (ops_same1[3]'(by rw [size_same1]; decide)) (act_s p q a b undef (pt k6 0) (.agg (namedV a).cells) undef) w K Q → _ from fun h => h) ?_
    unfold Oper.wp
    rw [show (execOp (act_s p q a b undef (pt k6 0) (.agg (namedV a).cells) undef).eval (ops_same1[3]'(by rw [size_same1]; decide))).run Tryz.prog w = .ok (.enter 27 #[.agg b.cells]) w from by kernel_rfl]
    refine (named_any b w (hP.hb.below h.below) hP.kb).mono ?_
    rintro e w2 ⟨rfl, hb⟩
    exact hK.out _ _ (h.s.below hb) (fun _ => s1_201 w0 w2 p q a b Q hP hE (h.next hb) k6 (h6.next hb))
  refine AllReadyH.cons rfl (fun K hK => ?_) ?_
  · rw [if_pos (by kernel_rfl)]
    refine (show Oper.wp Tryz.prog (ops_same1[4]'(by rw [size_same1]; decide)) (act_s p q a b undef (pt k6 0) (.agg (namedV a).cells) undef) w K Q → _ from fun h => h) ?_
    unfold Oper.wp
    rw [show (execOp (act_s p q a b undef (pt k6 0) (.agg (namedV a).cells) undef).eval (ops_same1[4]'(by rw [size_same1]; decide))).run Tryz.prog w = .ok (.value (pt w.heap.size 0)) (w.alloc (.cells zeroCells 41)) from by kernel_rfl]
    have hb := (Below.refl w.heap.size w).alloc (Nat.le_refl _) (.cells zeroCells 41)
    exact hK.out _ _ (h.s.below hb) (fun _ => s1_111 w0 _ p q a b Q hP hE (h.next hb) w.heap.size (show Box w0 (w.alloc (.cells zeroCells 41)) w.heap.size zeroCells from ⟨heap_alloc_new _ _, h.below.size⟩) k6 (h6.next hb) (by have := lt_of_block h6.1; omega))
  exact AllReadyH.nil
set_option maxHeartbeats 800000 in
theorem s1_100 (w0 w : World) (p q : Nat) (a b : MV) (Q : Exit → Act → World → Prop) (hP : Pair w0 a b) (hE : End1 Q w0 p q a b) (h : S1 w0 w p q a b) : wpAnyH Tryz.prog .any ops_same1 Q (SmS p q a b) 5 #[true, true, true, false, false, false, false, false] (act_s p q a b undef undef (.agg (namedV a).cells) undef) w := by
  refine wpAnyH_ready (rs := [3, 4, 5]) (by kernel_rfl) (by simp) ?_
  refine AllReadyH.cons rfl (fun K hK => ?_) ?_
  · rw [if_pos (by kernel_rfl)]
    refine (show Oper.wp Tryz.prog (ops_same1[3]'(by rw [size_same1]; decide)) (act_s p q a b undef undef (.agg (namedV a).cells) undef) w K Q → _ from fun h => h) ?_
    unfold Oper.wp
    rw [show (execOp (act_s p q a b undef undef (.agg (namedV a).cells) undef).eval (ops_same1[3]'(by rw [size_same1]; decide))).run Tryz.prog w = .ok (.enter 27 #[.agg b.cells]) w from by kernel_rfl]
    refine (named_any b w (hP.hb.below h.below) hP.kb).mono ?_
    rintro e w2 ⟨rfl, hb⟩
    exact hK.out _ _ (h.s.below hb) (fun _ => s1_200 w0 w2 p q a b Q hP hE (h.next hb))
  refine AllReadyH.cons rfl (fun K hK => ?_) ?_
  · rw [if_pos (by kernel_rfl)]
    refine (show Oper.wp Tryz.prog (ops_same1[4]'(by rw [size_same1]; decide)) (act_s p q a b undef undef (.agg (namedV a).cells) undef) w K Q → _ from fun h => h) ?_
    unfold Oper.wp
    rw [show (execOp (act_s p q a b undef undef (.agg (namedV a).cells) undef).eval (ops_same1[4]'(by rw [size_same1]; decide))).run Tryz.prog w = .ok (.value (pt w.heap.size 0)) (w.alloc (.cells zeroCells 41)) from by kernel_rfl]
    have hb := (Below.refl w.heap.size w).alloc (Nat.le_refl _) (.cells zeroCells 41)
    exact hK.out _ _ (h.s.below hb) (fun _ => s1_110 w0 _ p q a b Q hP hE (h.next hb) w.heap.size (show Box w0 (w.alloc (.cells zeroCells 41)) w.heap.size zeroCells from ⟨heap_alloc_new _ _, h.below.size⟩))
  refine AllReadyH.cons rfl (fun K hK => ?_) ?_
  · rw [if_pos (by kernel_rfl)]
    refine (show Oper.wp Tryz.prog (ops_same1[5]'(by rw [size_same1]; decide)) (act_s p q a b undef undef (.agg (namedV a).cells) undef) w K Q → _ from fun h => h) ?_
    unfold Oper.wp
    rw [show (execOp (act_s p q a b undef undef (.agg (namedV a).cells) undef).eval (ops_same1[5]'(by rw [size_same1]; decide))).run Tryz.prog w = .ok (.value (pt w.heap.size 0)) (w.alloc (.cells zeroCells 41)) from by kernel_rfl]
    have hb := (Below.refl w.heap.size w).alloc (Nat.le_refl _) (.cells zeroCells 41)
    exact hK.out _ _ (h.s.below hb) (fun _ => s1_101 w0 _ p q a b Q hP hE (h.next hb) w.heap.size (show Box w0 (w.alloc (.cells zeroCells 41)) w.heap.size zeroCells from ⟨heap_alloc_new _ _, h.below.size⟩))
  exact AllReadyH.nil
set_option maxHeartbeats 800000 in
theorem s1_011 (w0 w : World) (p q : Nat) (a b : MV) (Q : Exit → Act → World → Prop) (hP : Pair w0 a b) (hE : End1 Q w0 p q a b) (h : S1 w0 w p q a b) (k5 : Nat) (h5 : Box w0 w k5 zeroCells) (k6 : Nat) (h6 : Box w0 w k6 zeroCells) (hne : k5 ≠ k6) : wpAnyH Tryz.prog .any ops_same1 Q (SmS p q a b) 4 #[true, false, true, false, true, true, false, false] (act_s p q a b (pt k5 0) (pt k6 0) undef undef) w := by
  refine wpAnyH_ready (rs := [1]) (by kernel_rfl) (by simp) ?_
  refine AllReadyH.cons rfl (fun K hK => ?_) ?_
  · rw [if_pos (by kernel_rfl)]
    refine (show Oper.wp Tryz.prog (ops_same1[1]'(by rw [size_same1]; decide)) (act_s p q a b (pt k5 0) (pt k6 0) undef undef) w K Q → _ from fun h => h) ?_
    unfold Oper.wp
    rw [show (execOp (act_s p q a b (pt k5 0) (pt k6 0) undef undef).eval (ops_same1[1]'(by rw [size_same1]; decide))).run Tryz.prog w = .ok (.enter 27 #[.agg a.cells]) w from by kernel_rfl]
    refine (named_any a w (hP.ha.below h.below) hP.ka).mono ?_
    rintro e w2 ⟨rfl, hb⟩
    exact hK.out _ _ (h.s.below hb) (fun _ => s1_111 w0 w2 p q a b Q hP hE (h.next hb) k5 (h5.next hb) k6 (h6.next hb) hne)
  exact AllReadyH.nil
set_option maxHeartbeats 800000 in
theorem s1_010 (w0 w : World) (p q : Nat) (a b : MV) (Q : Exit → Act → World → Prop) (hP : Pair w0 a b) (hE : End1 Q w0 p q a b) (h : S1 w0 w p q a b) (k5 : Nat) (h5 : Box w0 w k5 zeroCells) : wpAnyH Tryz.prog .any ops_same1 Q (SmS p q a b) 5 #[true, false, true, false, true, false, false, false] (act_s p q a b (pt k5 0) undef undef undef) w := by
  refine wpAnyH_ready (rs := [1, 5]) (by kernel_rfl) (by simp) ?_
  refine AllReadyH.cons rfl (fun K hK => ?_) ?_
  · rw [if_pos (by kernel_rfl)]
    refine (show Oper.wp Tryz.prog (ops_same1[1]'(by rw [size_same1]; decide)) (act_s p q a b (pt k5 0) undef undef undef) w K Q → _ from fun h => h) ?_
    unfold Oper.wp
    rw [show (execOp (act_s p q a b (pt k5 0) undef undef undef).eval (ops_same1[1]'(by rw [size_same1]; decide))).run Tryz.prog w = .ok (.enter 27 #[.agg a.cells]) w from by kernel_rfl]
    refine (named_any a w (hP.ha.below h.below) hP.ka).mono ?_
    rintro e w2 ⟨rfl, hb⟩
    exact hK.out _ _ (h.s.below hb) (fun _ => s1_110 w0 w2 p q a b Q hP hE (h.next hb) k5 (h5.next hb))
  refine AllReadyH.cons rfl (fun K hK => ?_) ?_
  · rw [if_pos (by kernel_rfl)]
    refine (show Oper.wp Tryz.prog (ops_same1[5]'(by rw [size_same1]; decide)) (act_s p q a b (pt k5 0) undef undef undef) w K Q → _ from fun h => h) ?_
    unfold Oper.wp
    rw [show (execOp (act_s p q a b (pt k5 0) undef undef undef).eval (ops_same1[5]'(by rw [size_same1]; decide))).run Tryz.prog w = .ok (.value (pt w.heap.size 0)) (w.alloc (.cells zeroCells 41)) from by kernel_rfl]
    have hb := (Below.refl w.heap.size w).alloc (Nat.le_refl _) (.cells zeroCells 41)
    exact hK.out _ _ (h.s.below hb) (fun _ => s1_011 w0 _ p q a b Q hP hE (h.next hb) k5 (h5.next hb) w.heap.size (show Box w0 (w.alloc (.cells zeroCells 41)) w.heap.size zeroCells from ⟨heap_alloc_new _ _, h.below.size⟩) (by have := lt_of_block h5.1; omega))
  exact AllReadyH.nil
set_option maxHeartbeats 800000 in
theorem s1_001 (w0 w : World) (p q : Nat) (a b : MV) (Q : Exit → Act → World → Prop) (hP : Pair w0 a b) (hE : End1 Q w0 p q a b) (h : S1 w0 w p q a b) (k6 : Nat) (h6 : Box w0 w k6 zeroCells) : wpAnyH Tryz.prog .any ops_same1 Q (SmS p q a b) 5 #[true, false, true, false, false, true, false, false] (act_s p q a b undef (pt k6 0) undef undef) w := by
  refine wpAnyH_ready (rs := [1, 4]) (by kernel_rfl) (by simp) ?_
  refine AllReadyH.cons rfl (fun K hK => ?_) ?_
  · rw [if_pos (by kernel_rfl)]
    refine (show Oper.wp Tryz.prog (ops_same1[1]'(by rw [size_same1]; decide)) (act_s p q a b undef (pt k6 0) undef undef) w K Q → _ from fun h => h) ?_
    unfold Oper.wp
    rw [show (execOp (act_s p q a b undef (pt k6 0) undef undef).eval (ops_same1[1]'(by rw [size_same1]; decide))).run Tryz.prog w = .ok (.enter 27 #[.agg a.cells]) w from by kernel_rfl]
    refine (named_any a w (hP.ha.below h.below) hP.ka).mono ?_
    rintro e w2 ⟨rfl, hb⟩
    exact hK.out _ _ (h.s.below hb) (fun _ => s1_101 w0 w2 p q a b Q hP hE (h.next hb) k6 (h6.next hb))
  refine AllReadyH.cons rfl (fun K hK => ?_) ?_
  · rw [if_pos (by kernel_rfl)]
    refine (show Oper.wp Tryz.prog (ops_same1[4]'(by rw [size_same1]; decide)) (act_s p q a b undef (pt k6 0) undef undef) w K Q → _ from fun h => h) ?_
    unfold Oper.wp
    rw [show (execOp (act_s p q a b undef (pt k6 0) undef undef).eval (ops_same1[4]'(by rw [size_same1]; decide))).run Tryz.prog w = .ok (.value (pt w.heap.size 0)) (w.alloc (.cells zeroCells 41)) from by kernel_rfl]
    have hb := (Below.refl w.heap.size w).alloc (Nat.le_refl _) (.cells zeroCells 41)
    exact hK.out _ _ (h.s.below hb) (fun _ => s1_011 w0 _ p q a b Q hP hE (h.next hb) w.heap.size (show Box w0 (w.alloc (.cells zeroCells 41)) w.heap.size zeroCells from ⟨heap_alloc_new _ _, h.below.size⟩) k6 (h6.next hb) (by have := lt_of_block h6.1; omega))
  exact AllReadyH.nil
set_option maxHeartbeats 800000 in
theorem s1_000 (w0 w : World) (p q : Nat) (a b : MV) (Q : Exit → Act → World → Prop) (hP : Pair w0 a b) (hE : End1 Q w0 p q a b) (h : S1 w0 w p q a b) : wpAnyH Tryz.prog .any ops_same1 Q (SmS p q a b) 6 #[true, false, true, false, false, false, false, false] (act_s p q a b undef undef undef undef) w := by
  refine wpAnyH_ready (rs := [1, 4, 5]) (by kernel_rfl) (by simp) ?_
  refine AllReadyH.cons rfl (fun K hK => ?_) ?_
  · rw [if_pos (by kernel_rfl)]
    refine (show Oper.wp Tryz.prog (ops_same1[1]'(by rw [size_same1]; decide)) (act_s p q a b undef undef undef undef) w K Q → _ from fun h => h) ?_
    unfold Oper.wp
    rw [show (execOp (act_s p q a b undef undef undef undef).eval (ops_same1[1]'(by rw [size_same1]; decide))).run Tryz.prog w = .ok (.enter 27 #[.agg a.cells]) w from by kernel_rfl]
    refine (named_any a w (hP.ha.below h.below) hP.ka).mono ?_
    rintro e w2 ⟨rfl, hb⟩
    exact hK.out _ _ (h.s.below hb) (fun _ => s1_100 w0 w2 p q a b Q hP hE (h.next hb))
  refine AllReadyH.cons rfl (fun K hK => ?_) ?_
  · rw [if_pos (by kernel_rfl)]
    refine (show Oper.wp Tryz.prog (ops_same1[4]'(by rw [size_same1]; decide)) (act_s p q a b undef undef undef undef) w K Q → _ from fun h => h) ?_
    unfold Oper.wp
    rw [show (execOp (act_s p q a b undef undef undef undef).eval (ops_same1[4]'(by rw [size_same1]; decide))).run Tryz.prog w = .ok (.value (pt w.heap.size 0)) (w.alloc (.cells zeroCells 41)) from by kernel_rfl]
    have hb := (Below.refl w.heap.size w).alloc (Nat.le_refl _) (.cells zeroCells 41)
    exact hK.out _ _ (h.s.below hb) (fun _ => s1_010 w0 _ p q a b Q hP hE (h.next hb) w.heap.size (show Box w0 (w.alloc (.cells zeroCells 41)) w.heap.size zeroCells from ⟨heap_alloc_new _ _, h.below.size⟩))
  refine AllReadyH.cons rfl (fun K hK => ?_) ?_
  · rw [if_pos (by kernel_rfl)]
    refine (show Oper.wp Tryz.prog (ops_same1[5]'(by rw [size_same1]; decide)) (act_s p q a b undef undef undef undef) w K Q → _ from fun h => h) ?_
    unfold Oper.wp
    rw [show (execOp (act_s p q a b undef undef undef undef).eval (ops_same1[5]'(by rw [size_same1]; decide))).run Tryz.prog w = .ok (.value (pt w.heap.size 0)) (w.alloc (.cells zeroCells 41)) from by kernel_rfl]
    have hb := (Below.refl w.heap.size w).alloc (Nat.le_refl _) (.cells zeroCells 41)
    exact hK.out _ _ (h.s.below hb) (fun _ => s1_001 w0 _ p q a b Q hP hE (h.next hb) w.heap.size (show Box w0 (w.alloc (.cells zeroCells 41)) w.heap.size zeroCells from ⟨heap_alloc_new _ _, h.below.size⟩))
  exact AllReadyH.nil
theorem region_same1 (w : World) (p q : Nat) (a b : MV) (Q : Exit → Act → World → Prop) (hQ : ∀ c (a : Act) d v w, Q (.panic c) (a.put d v) w → Q (.panic c) a w) (hP : Pair w a b) (hS : SmS p q a b w) (hE : End1 Q w p q a b) :
    (Code.region 1 ops_same1 true).wp Tryz.prog Q { tmps := ([.agg a.cells, .agg b.cells, pt p 0, pt q 0, .bool false] ++ und 158).toArray, defers := [] } w := by
  have ca := hP.ha.cells
  have cb := hP.hb.cells
  refine wp_region_held_drew (S := SmS p q a b) (by kernel_rfl) hS (fun hS => ?_)
  refine (show wpAnyH Tryz.prog .any ops_same1 Q (SmS p q a b) 8 #[false, false, false, false, false, false, false, false] { tmps := ([.agg a.cells, .agg b.cells, pt p 0, pt q 0, .bool false] ++ und 158).toArray, defers := [] } w.drew → _ from fun h => h) ?_
  refine wpAnyH_take (i := 0) (v := .agg a.cells) rfl (by kernel_rfl) (by kernel_rfl) (by kernel_rfl) (fun c a w => hQ c a _ _ w) (Or.inl ⟨by kernel_rfl, fun w hs => run_row_load w _ _ (.tmp 2) p a.cells (by kernel_rfl) (by kernel_rfl) hs.1 ca.1⟩) hS ?_
  refine wpAnyH_take (i := 2) (v := .agg b.cells) rfl (by kernel_rfl) (by kernel_rfl) (by kernel_rfl) (fun c a w => hQ c a _ _ w) (Or.inl ⟨by kernel_rfl, fun w hs => run_row_load w _ _ (.tmp 3) q b.cells (by kernel_rfl) (by kernel_rfl) hs.2 cb.1⟩) hS ?_
  exact s1_000 w w.drew p q a b Q hP hE ⟨hS, (Below.refl _ _).drew, lt_of_block hS.1, lt_of_block hS.2⟩
end
end Go.Proofs.YtcbglcebdkpcfaaGreat
