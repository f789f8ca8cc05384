/- What fields of msg reads, by every known type. Conditions: bounds on lengths. -/
import Derived.Test.YtonhliipbdniiaaMsgFI1Z
import Derived.Test.YtonhliipbdniiaaMsgFI2Z
import Derived.Test.YtonhliipbdniiaaMsgFI3Z
import Derived.Test.YtonhliipbdniiaaMsgFOZ
namespace Go.Proofs.Ytonhliipbdniiaa
open Go.RowKit
set_option maxRecDepth 100000
set_option linter.unusedVariables false

set_option maxHeartbeats 1600000 in
theorem in_fields_112 (B x : Nat) (X : Obj) (b q : Nat) (m : M) (p : List UInt8 × Nat) (w0 w : World) (hA : IA B x X w0 w b q m p) (ht : m.ty = 112) :
    Calls Try.prog 58 #[.iface 167 (.agg #[.pointer (some ⟨b, 0, none⟩)]), .pointer (some ⟨q, 0, none⟩)] w (IDo B x X w0 b q (ins [.fid, .mode] p m)) := by
  have c0 : w.cell? ⟨q, 0, none⟩ = some (.int .u8 112) := by rw [hA.cell 0]; show some (Value.int .u8 (m.ty : Int)) = _; rw [ht]; rfl
  have k := hid (in_files_112 B x X b q m p w0 w hA ht)
  replace hA := hid hA
  clear ht
  go_enter Try.func58, Try.ntmps58
  go_wp2_with fail
  refine k.out.mono ?_
  rintro e w1 (⟨h1, rfl, h2⟩ | ⟨h1, ⟨er, hr, rfl⟩, h2⟩)
  · replace h1 := hid h1
    go_wp2_with fail
    go_end0
    exact .inl ⟨h1.out, rfl, h2⟩
  · replace h1 := hid h1
    replace hr := hid hr
    go_wp2_with fail
    exact ⟨rfl, .inr ⟨h1.out, ⟨_, hr.out, rfl⟩, h2⟩⟩

set_option maxHeartbeats 1600000 in
theorem in_fields_113 (B x : Nat) (X : Obj) (b q : Nat) (m : M) (p : List UInt8 × Nat) (w0 w : World) (hA : IA B x X w0 w b q m p) (ht : m.ty = 113) :
    Calls Try.prog 58 #[.iface 167 (.agg #[.pointer (some ⟨b, 0, none⟩)]), .pointer (some ⟨q, 0, none⟩)] w (IDo B x X w0 b q (ins [.qid, .iounit] p m)) := by
  have c0 : w.cell? ⟨q, 0, none⟩ = some (.int .u8 113) := by rw [hA.cell 0]; show some (Value.int .u8 (m.ty : Int)) = _; rw [ht]; rfl
  have k := hid (in_files_113 B x X b q m p w0 w hA ht)
  replace hA := hid hA
  clear ht
  go_enter Try.func58, Try.ntmps58
  go_wp2_with fail
  refine k.out.mono ?_
  rintro e w1 (⟨h1, rfl, h2⟩ | ⟨h1, ⟨er, hr, rfl⟩, h2⟩)
  · replace h1 := hid h1
    go_wp2_with fail
    go_end0
    exact .inl ⟨h1.out, rfl, h2⟩
  · replace h1 := hid h1
    replace hr := hid hr
    go_wp2_with fail
    exact ⟨rfl, .inr ⟨h1.out, ⟨_, hr.out, rfl⟩, h2⟩⟩

set_option maxHeartbeats 1600000 in
theorem in_fields_114 (B x : Nat) (X : Obj) (b q : Nat) (m : M) (p : List UInt8 × Nat) (w0 w : World) (hA : IA B x X w0 w b q m p) (ht : m.ty = 114) :
    Calls Try.prog 58 #[.iface 167 (.agg #[.pointer (some ⟨b, 0, none⟩)]), .pointer (some ⟨q, 0, none⟩)] w (IDo B x X w0 b q (ins [.fid, .name, .perm, .mode] p m)) := by
  have c0 : w.cell? ⟨q, 0, none⟩ = some (.int .u8 114) := by rw [hA.cell 0]; show some (Value.int .u8 (m.ty : Int)) = _; rw [ht]; rfl
  have k := hid (in_files_114 B x X b q m p w0 w hA ht)
  replace hA := hid hA
  clear ht
  go_enter Try.func58, Try.ntmps58
  go_wp2_with fail
  refine k.out.mono ?_
  rintro e w1 (⟨h1, rfl, h2⟩ | ⟨h1, ⟨er, hr, rfl⟩, h2⟩)
  · replace h1 := hid h1
    go_wp2_with fail
    go_end0
    exact .inl ⟨h1.out, rfl, h2⟩
  · replace h1 := hid h1
    replace hr := hid hr
    go_wp2_with fail
    exact ⟨rfl, .inr ⟨h1.out, ⟨_, hr.out, rfl⟩, h2⟩⟩

set_option maxHeartbeats 1600000 in
theorem in_fields_115 (B x : Nat) (X : Obj) (b q : Nat) (m : M) (p : List UInt8 × Nat) (w0 w : World) (hA : IA B x X w0 w b q m p) (ht : m.ty = 115) :
    Calls Try.prog 58 #[.iface 167 (.agg #[.pointer (some ⟨b, 0, none⟩)]), .pointer (some ⟨q, 0, none⟩)] w (IDo B x X w0 b q (ins [.qid, .iounit] p m)) := by
  have c0 : w.cell? ⟨q, 0, none⟩ = some (.int .u8 115) := by rw [hA.cell 0]; show some (Value.int .u8 (m.ty : Int)) = _; rw [ht]; rfl
  have k := hid (in_files_115 B x X b q m p w0 w hA ht)
  replace hA := hid hA
  clear ht
  go_enter Try.func58, Try.ntmps58
  go_wp2_with fail
  refine k.out.mono ?_
  rintro e w1 (⟨h1, rfl, h2⟩ | ⟨h1, ⟨er, hr, rfl⟩, h2⟩)
  · replace h1 := hid h1
    go_wp2_with fail
    go_end0
    exact .inl ⟨h1.out, rfl, h2⟩
  · replace h1 := hid h1
    replace hr := hid hr
    go_wp2_with fail
    exact ⟨rfl, .inr ⟨h1.out, ⟨_, hr.out, rfl⟩, h2⟩⟩

set_option maxHeartbeats 1600000 in
theorem in_fields_116 (B x : Nat) (X : Obj) (b q : Nat) (m : M) (p : List UInt8 × Nat) (w0 w : World) (hA : IA B x X w0 w b q m p) (ht : m.ty = 116) :
    Calls Try.prog 58 #[.iface 167 (.agg #[.pointer (some ⟨b, 0, none⟩)]), .pointer (some ⟨q, 0, none⟩)] w (IDo B x X w0 b q (ins [.fid, .offset, .count] p m)) := by
  have c0 : w.cell? ⟨q, 0, none⟩ = some (.int .u8 116) := by rw [hA.cell 0]; show some (Value.int .u8 (m.ty : Int)) = _; rw [ht]; rfl
  have k := hid (in_files_116 B x X b q m p w0 w hA ht)
  replace hA := hid hA
  clear ht
  go_enter Try.func58, Try.ntmps58
  go_wp2_with fail
  refine k.out.mono ?_
  rintro e w1 (⟨h1, rfl, h2⟩ | ⟨h1, ⟨er, hr, rfl⟩, h2⟩)
  · replace h1 := hid h1
    go_wp2_with fail
    go_end0
    exact .inl ⟨h1.out, rfl, h2⟩
  · replace h1 := hid h1
    replace hr := hid hr
    go_wp2_with fail
    exact ⟨rfl, .inr ⟨h1.out, ⟨_, hr.out, rfl⟩, h2⟩⟩

set_option maxHeartbeats 1600000 in
theorem in_fields_117 (B x : Nat) (X : Obj) (b q : Nat) (m : M) (p : List UInt8 × Nat) (w0 w : World) (hA : IA B x X w0 w b q m p) (ht : m.ty = 117) :
    Calls Try.prog 58 #[.iface 167 (.agg #[.pointer (some ⟨b, 0, none⟩)]), .pointer (some ⟨q, 0, none⟩)] w (IDo B x X w0 b q (ins [.data] p m)) := by
  have c0 : w.cell? ⟨q, 0, none⟩ = some (.int .u8 117) := by rw [hA.cell 0]; show some (Value.int .u8 (m.ty : Int)) = _; rw [ht]; rfl
  have k := hid (in_files_117 B x X b q m p w0 w hA ht)
  replace hA := hid hA
  clear ht
  go_enter Try.func58, Try.ntmps58
  go_wp2_with fail
  refine k.out.mono ?_
  rintro e w1 (⟨h1, rfl, h2⟩ | ⟨h1, ⟨er, hr, rfl⟩, h2⟩)
  · replace h1 := hid h1
    go_wp2_with fail
    go_end0
    exact .inl ⟨h1.out, rfl, h2⟩
  · replace h1 := hid h1
    replace hr := hid hr
    go_wp2_with fail
    exact ⟨rfl, .inr ⟨h1.out, ⟨_, hr.out, rfl⟩, h2⟩⟩

set_option maxHeartbeats 1600000 in
theorem in_fields_118 (B x : Nat) (X : Obj) (b q : Nat) (m : M) (p : List UInt8 × Nat) (w0 w : World) (hA : IA B x X w0 w b q m p) (ht : m.ty = 118) :
    Calls Try.prog 58 #[.iface 167 (.agg #[.pointer (some ⟨b, 0, none⟩)]), .pointer (some ⟨q, 0, none⟩)] w (IDo B x X w0 b q (ins [.fid, .offset, .data] p m)) := by
  have c0 : w.cell? ⟨q, 0, none⟩ = some (.int .u8 118) := by rw [hA.cell 0]; show some (Value.int .u8 (m.ty : Int)) = _; rw [ht]; rfl
  have k := hid (in_files_118 B x X b q m p w0 w hA ht)
  replace hA := hid hA
  clear ht
  go_enter Try.func58, Try.ntmps58
  go_wp2_with fail
  refine k.out.mono ?_
  rintro e w1 (⟨h1, rfl, h2⟩ | ⟨h1, ⟨er, hr, rfl⟩, h2⟩)
  · replace h1 := hid h1
    go_wp2_with fail
    go_end0
    exact .inl ⟨h1.out, rfl, h2⟩
  · replace h1 := hid h1
    replace hr := hid hr
    go_wp2_with fail
    exact ⟨rfl, .inr ⟨h1.out, ⟨_, hr.out, rfl⟩, h2⟩⟩

set_option maxHeartbeats 1600000 in
theorem in_fields_119 (B x : Nat) (X : Obj) (b q : Nat) (m : M) (p : List UInt8 × Nat) (w0 w : World) (hA : IA B x X w0 w b q m p) (ht : m.ty = 119) :
    Calls Try.prog 58 #[.iface 167 (.agg #[.pointer (some ⟨b, 0, none⟩)]), .pointer (some ⟨q, 0, none⟩)] w (IDo B x X w0 b q (ins [.count] p m)) := by
  have c0 : w.cell? ⟨q, 0, none⟩ = some (.int .u8 119) := by rw [hA.cell 0]; show some (Value.int .u8 (m.ty : Int)) = _; rw [ht]; rfl
  have k := hid (in_files_119 B x X b q m p w0 w hA ht)
  replace hA := hid hA
  clear ht
  go_enter Try.func58, Try.ntmps58
  go_wp2_with fail
  refine k.out.mono ?_
  rintro e w1 (⟨h1, rfl, h2⟩ | ⟨h1, ⟨er, hr, rfl⟩, h2⟩)
  · replace h1 := hid h1
    go_wp2_with fail
    go_end0
    exact .inl ⟨h1.out, rfl, h2⟩
  · replace h1 := hid h1
    replace hr := hid hr
    go_wp2_with fail
    exact ⟨rfl, .inr ⟨h1.out, ⟨_, hr.out, rfl⟩, h2⟩⟩

set_option maxHeartbeats 1600000 in
theorem in_fields_120 (B x : Nat) (X : Obj) (b q : Nat) (m : M) (p : List UInt8 × Nat) (w0 w : World) (hA : IA B x X w0 w b q m p) (ht : m.ty = 120) :
    Calls Try.prog 58 #[.iface 167 (.agg #[.pointer (some ⟨b, 0, none⟩)]), .pointer (some ⟨q, 0, none⟩)] w (IDo B x X w0 b q (ins [.fid] p m)) := by
  have c0 : w.cell? ⟨q, 0, none⟩ = some (.int .u8 120) := by rw [hA.cell 0]; show some (Value.int .u8 (m.ty : Int)) = _; rw [ht]; rfl
  have k := hid (in_files_120 B x X b q m p w0 w hA ht)
  replace hA := hid hA
  clear ht
  go_enter Try.func58, Try.ntmps58
  go_wp2_with fail
  refine k.out.mono ?_
  rintro e w1 (⟨h1, rfl, h2⟩ | ⟨h1, ⟨er, hr, rfl⟩, h2⟩)
  · replace h1 := hid h1
    go_wp2_with fail
    go_end0
    exact .inl ⟨h1.out, rfl, h2⟩
  · replace h1 := hid h1
    replace hr := hid hr
    go_wp2_with fail
    exact ⟨rfl, .inr ⟨h1.out, ⟨_, hr.out, rfl⟩, h2⟩⟩

set_option maxHeartbeats 1600000 in
theorem in_fields_122 (B x : Nat) (X : Obj) (b q : Nat) (m : M) (p : List UInt8 × Nat) (w0 w : World) (hA : IA B x X w0 w b q m p) (ht : m.ty = 122) :
    Calls Try.prog 58 #[.iface 167 (.agg #[.pointer (some ⟨b, 0, none⟩)]), .pointer (some ⟨q, 0, none⟩)] w (IDo B x X w0 b q (ins [.fid] p m)) := by
  have c0 : w.cell? ⟨q, 0, none⟩ = some (.int .u8 122) := by rw [hA.cell 0]; show some (Value.int .u8 (m.ty : Int)) = _; rw [ht]; rfl
  have k := hid (in_files_122 B x X b q m p w0 w hA ht)
  replace hA := hid hA
  clear ht
  go_enter Try.func58, Try.ntmps58
  go_wp2_with fail
  refine k.out.mono ?_
  rintro e w1 (⟨h1, rfl, h2⟩ | ⟨h1, ⟨er, hr, rfl⟩, h2⟩)
  · replace h1 := hid h1
    go_wp2_with fail
    go_end0
    exact .inl ⟨h1.out, rfl, h2⟩
  · replace h1 := hid h1
    replace hr := hid hr
    go_wp2_with fail
    exact ⟨rfl, .inr ⟨h1.out, ⟨_, hr.out, rfl⟩, h2⟩⟩

set_option maxHeartbeats 1600000 in
theorem in_fields_124 (B x : Nat) (X : Obj) (b q : Nat) (m : M) (p : List UInt8 × Nat) (w0 w : World) (hA : IA B x X w0 w b q m p) (ht : m.ty = 124) :
    Calls Try.prog 58 #[.iface 167 (.agg #[.pointer (some ⟨b, 0, none⟩)]), .pointer (some ⟨q, 0, none⟩)] w (IDo B x X w0 b q (ins [.fid] p m)) := by
  have c0 : w.cell? ⟨q, 0, none⟩ = some (.int .u8 124) := by rw [hA.cell 0]; show some (Value.int .u8 (m.ty : Int)) = _; rw [ht]; rfl
  have k := hid (in_files_124 B x X b q m p w0 w hA ht)
  replace hA := hid hA
  clear ht
  go_enter Try.func58, Try.ntmps58
  go_wp2_with fail
  refine k.out.mono ?_
  rintro e w1 (⟨h1, rfl, h2⟩ | ⟨h1, ⟨er, hr, rfl⟩, h2⟩)
  · replace h1 := hid h1
    go_wp2_with fail
    go_end0
    exact .inl ⟨h1.out, rfl, h2⟩
  · replace h1 := hid h1
    replace hr := hid hr
    go_wp2_with fail
    exact ⟨rfl, .inr ⟨h1.out, ⟨_, hr.out, rfl⟩, h2⟩⟩

set_option maxHeartbeats 1600000 in
theorem in_fields_125 (B x : Nat) (X : Obj) (b q : Nat) (m : M) (p : List UInt8 × Nat) (w0 w : World) (hA : IA B x X w0 w b q m p) (ht : m.ty = 125) :
    Calls Try.prog 58 #[.iface 167 (.agg #[.pointer (some ⟨b, 0, none⟩)]), .pointer (some ⟨q, 0, none⟩)] w (IDo B x X w0 b q (ins [.stat] p m)) := by
  have c0 : w.cell? ⟨q, 0, none⟩ = some (.int .u8 125) := by rw [hA.cell 0]; show some (Value.int .u8 (m.ty : Int)) = _; rw [ht]; rfl
  have k := hid (in_files_125 B x X b q m p w0 w hA ht)
  replace hA := hid hA
  clear ht
  go_enter Try.func58, Try.ntmps58
  go_wp2_with fail
  refine k.out.mono ?_
  rintro e w1 (⟨h1, rfl, h2⟩ | ⟨h1, ⟨er, hr, rfl⟩, h2⟩)
  · replace h1 := hid h1
    go_wp2_with fail
    go_end0
    exact .inl ⟨h1.out, rfl, h2⟩
  · replace h1 := hid h1
    replace hr := hid hr
    go_wp2_with fail
    exact ⟨rfl, .inr ⟨h1.out, ⟨_, hr.out, rfl⟩, h2⟩⟩

set_option maxHeartbeats 1600000 in
theorem in_fields_126 (B x : Nat) (X : Obj) (b q : Nat) (m : M) (p : List UInt8 × Nat) (w0 w : World) (hA : IA B x X w0 w b q m p) (ht : m.ty = 126) :
    Calls Try.prog 58 #[.iface 167 (.agg #[.pointer (some ⟨b, 0, none⟩)]), .pointer (some ⟨q, 0, none⟩)] w (IDo B x X w0 b q (ins [.fid, .stat] p m)) := by
  have c0 : w.cell? ⟨q, 0, none⟩ = some (.int .u8 126) := by rw [hA.cell 0]; show some (Value.int .u8 (m.ty : Int)) = _; rw [ht]; rfl
  have k := hid (in_files_126 B x X b q m p w0 w hA ht)
  replace hA := hid hA
  clear ht
  go_enter Try.func58, Try.ntmps58
  go_wp2_with fail
  refine k.out.mono ?_
  rintro e w1 (⟨h1, rfl, h2⟩ | ⟨h1, ⟨er, hr, rfl⟩, h2⟩)
  · replace h1 := hid h1
    go_wp2_with fail
    go_end0
    exact .inl ⟨h1.out, rfl, h2⟩
  · replace h1 := hid h1
    replace hr := hid hr
    go_wp2_with fail
    exact ⟨rfl, .inr ⟨h1.out, ⟨_, hr.out, rfl⟩, h2⟩⟩

set_option maxHeartbeats 1600000 in
theorem in_fields_109 (B x : Nat) (X : Obj) (b q : Nat) (m : M) (p : List UInt8 × Nat) (w0 w : World) (hA : IA B x X w0 w b q m p) (ht : m.ty = 109) :
    Calls Try.prog 58 #[.iface 167 (.agg #[.pointer (some ⟨b, 0, none⟩)]), .pointer (some ⟨q, 0, none⟩)] w (IDo B x X w0 b q (ins [] p m)) := by
  have c0 : w.cell? ⟨q, 0, none⟩ = some (.int .u8 109) := by rw [hA.cell 0]; show some (Value.int .u8 (m.ty : Int)) = _; rw [ht]; rfl
  have k := hid (in_files_109 B x X b q m p w0 w hA ht)
  replace hA := hid hA
  clear ht
  go_enter Try.func58, Try.ntmps58
  go_wp2_with fail
  refine k.out.mono ?_
  rintro e w1 (⟨h1, rfl, h2⟩ | ⟨h1, ⟨er, hr, rfl⟩, h2⟩)
  · replace h1 := hid h1
    go_wp2_with fail
    go_end0
    exact .inl ⟨h1.out, rfl, h2⟩
  · replace h1 := hid h1
    replace hr := hid hr
    go_wp2_with fail
    exact ⟨rfl, .inr ⟨h1.out, ⟨_, hr.out, rfl⟩, h2⟩⟩

set_option maxHeartbeats 1600000 in
theorem in_fields_121 (B x : Nat) (X : Obj) (b q : Nat) (m : M) (p : List UInt8 × Nat) (w0 w : World) (hA : IA B x X w0 w b q m p) (ht : m.ty = 121) :
    Calls Try.prog 58 #[.iface 167 (.agg #[.pointer (some ⟨b, 0, none⟩)]), .pointer (some ⟨q, 0, none⟩)] w (IDo B x X w0 b q (ins [] p m)) := by
  have c0 : w.cell? ⟨q, 0, none⟩ = some (.int .u8 121) := by rw [hA.cell 0]; show some (Value.int .u8 (m.ty : Int)) = _; rw [ht]; rfl
  have k := hid (in_files_121 B x X b q m p w0 w hA ht)
  replace hA := hid hA
  clear ht
  go_enter Try.func58, Try.ntmps58
  go_wp2_with fail
  refine k.out.mono ?_
  rintro e w1 (⟨h1, rfl, h2⟩ | ⟨h1, ⟨er, hr, rfl⟩, h2⟩)
  · replace h1 := hid h1
    go_wp2_with fail
    go_end0
    exact .inl ⟨h1.out, rfl, h2⟩
  · replace h1 := hid h1
    replace hr := hid hr
    go_wp2_with fail
    exact ⟨rfl, .inr ⟨h1.out, ⟨_, hr.out, rfl⟩, h2⟩⟩

set_option maxHeartbeats 1600000 in
theorem in_fields_123 (B x : Nat) (X : Obj) (b q : Nat) (m : M) (p : List UInt8 × Nat) (w0 w : World) (hA : IA B x X w0 w b q m p) (ht : m.ty = 123) :
    Calls Try.prog 58 #[.iface 167 (.agg #[.pointer (some ⟨b, 0, none⟩)]), .pointer (some ⟨q, 0, none⟩)] w (IDo B x X w0 b q (ins [] p m)) := by
  have c0 : w.cell? ⟨q, 0, none⟩ = some (.int .u8 123) := by rw [hA.cell 0]; show some (Value.int .u8 (m.ty : Int)) = _; rw [ht]; rfl
  have k := hid (in_files_123 B x X b q m p w0 w hA ht)
  replace hA := hid hA
  clear ht
  go_enter Try.func58, Try.ntmps58
  go_wp2_with fail
  refine k.out.mono ?_
  rintro e w1 (⟨h1, rfl, h2⟩ | ⟨h1, ⟨er, hr, rfl⟩, h2⟩)
  · replace h1 := hid h1
    go_wp2_with fail
    go_end0
    exact .inl ⟨h1.out, rfl, h2⟩
  · replace h1 := hid h1
    replace hr := hid hr
    go_wp2_with fail
    exact ⟨rfl, .inr ⟨h1.out, ⟨_, hr.out, rfl⟩, h2⟩⟩

set_option maxHeartbeats 1600000 in
theorem in_fields_127 (B x : Nat) (X : Obj) (b q : Nat) (m : M) (p : List UInt8 × Nat) (w0 w : World) (hA : IA B x X w0 w b q m p) (ht : m.ty = 127) :
    Calls Try.prog 58 #[.iface 167 (.agg #[.pointer (some ⟨b, 0, none⟩)]), .pointer (some ⟨q, 0, none⟩)] w (IDo B x X w0 b q (ins [] p m)) := by
  have c0 : w.cell? ⟨q, 0, none⟩ = some (.int .u8 127) := by rw [hA.cell 0]; show some (Value.int .u8 (m.ty : Int)) = _; rw [ht]; rfl
  have k := hid (in_files_127 B x X b q m p w0 w hA ht)
  replace hA := hid hA
  clear ht
  go_enter Try.func58, Try.ntmps58
  go_wp2_with fail
  refine k.out.mono ?_
  rintro e w1 (⟨h1, rfl, h2⟩ | ⟨h1, ⟨er, hr, rfl⟩, h2⟩)
  · replace h1 := hid h1
    go_wp2_with fail
    go_end0
    exact .inl ⟨h1.out, rfl, h2⟩
  · replace h1 := hid h1
    replace hr := hid hr
    go_wp2_with fail
    exact ⟨rfl, .inr ⟨h1.out, ⟨_, hr.out, rfl⟩, h2⟩⟩

theorem in_fields_any (B x : Nat) (X : Obj) (b q : Nat) (m : M) (p : List UInt8 × Nat) (w0 w : World) (hA : IA B x X w0 w b q m p) (hk : knownT m.ty = true) :
    Calls Try.prog 58 #[.iface 167 (.agg #[.pointer (some ⟨b, 0, none⟩)]), .pointer (some ⟨q, 0, none⟩)] w (IDo B x X w0 b q (ins (slots m.ty) p m)) := by
  have hk' : (100 ≤ m.ty ∧ m.ty ≤ 127) ∧ m.ty ≠ 106 := by simpa [knownT] using hk
  have hr : m.ty = 100 ∨ m.ty = 101 ∨ m.ty = 102 ∨ m.ty = 103 ∨ m.ty = 104 ∨ m.ty = 105 ∨ m.ty = 107 ∨ m.ty = 108 ∨ m.ty = 109 ∨ m.ty = 110 ∨ m.ty = 111 ∨ m.ty = 112 ∨ m.ty = 113 ∨ m.ty = 114 ∨ m.ty = 115 ∨ m.ty = 116 ∨ m.ty = 117 ∨ m.ty = 118 ∨ m.ty = 119 ∨ m.ty = 120 ∨ m.ty = 121 ∨ m.ty = 122 ∨ m.ty = 123 ∨ m.ty = 124 ∨ m.ty = 125 ∨ m.ty = 126 ∨ m.ty = 127 := by omega
  rcases hr with h | h | h | h | h | h | h | h | h | h | h | h | h | h | h | h | h | h | h | h | h | h | h | h | h | h | h
  · have := in_fields_100 B x X b q m p w0 w hA h
    rw [h]; exact this
  · have := in_fields_101 B x X b q m p w0 w hA h
    rw [h]; exact this
  · have := in_fields_102 B x X b q m p w0 w hA h
    rw [h]; exact this
  · have := in_fields_103 B x X b q m p w0 w hA h
    rw [h]; exact this
  · have := in_fields_104 B x X b q m p w0 w hA h
    rw [h]; exact this
  · have := in_fields_105 B x X b q m p w0 w hA h
    rw [h]; exact this
  · have := in_fields_107 B x X b q m p w0 w hA h
    rw [h]; exact this
  · have := in_fields_108 B x X b q m p w0 w hA h
    rw [h]; exact this
  · have := in_fields_109 B x X b q m p w0 w hA h
    rw [h]; exact this
  · have := in_fields_110 B x X b q m p w0 w hA h
    rw [h]; exact this
  · have := in_fields_111 B x X b q m p w0 w hA h
    rw [h]; exact this
  · have := in_fields_112 B x X b q m p w0 w hA h
    rw [h]; exact this
  · have := in_fields_113 B x X b q m p w0 w hA h
    rw [h]; exact this
  · have := in_fields_114 B x X b q m p w0 w hA h
    rw [h]; exact this
  · have := in_fields_115 B x X b q m p w0 w hA h
    rw [h]; exact this
  · have := in_fields_116 B x X b q m p w0 w hA h
    rw [h]; exact this
  · have := in_fields_117 B x X b q m p w0 w hA h
    rw [h]; exact this
  · have := in_fields_118 B x X b q m p w0 w hA h
    rw [h]; exact this
  · have := in_fields_119 B x X b q m p w0 w hA h
    rw [h]; exact this
  · have := in_fields_120 B x X b q m p w0 w hA h
    rw [h]; exact this
  · have := in_fields_121 B x X b q m p w0 w hA h
    rw [h]; exact this
  · have := in_fields_122 B x X b q m p w0 w hA h
    rw [h]; exact this
  · have := in_fields_123 B x X b q m p w0 w hA h
    rw [h]; exact this
  · have := in_fields_124 B x X b q m p w0 w hA h
    rw [h]; exact this
  · have := in_fields_125 B x X b q m p w0 w hA h
    rw [h]; exact this
  · have := in_fields_126 B x X b q m p w0 w hA h
    rw [h]; exact this
  · have := in_fields_127 B x X b q m p w0 w hA h
    rw [h]; exact this
end Go.Proofs.Ytonhliipbdniiaa
