/- What fields of msg writes, by every known type. Conditions: texts of at most a thousand bytes each. -/
import Derived.Test.YtonhliipbdniiaaMsgFO1Z
import Derived.Test.YtonhliipbdniiaaMsgFO2Z
import Derived.Test.YtonhliipbdniiaaMsgFO3Z
namespace Go.Proofs.Ytonhliipbdniiaa
open Go.RowKit
set_option maxRecDepth 100000
set_option linter.unusedVariables false

set_option maxHeartbeats 1600000 in
theorem out_fields_112 (b q : Nat) (m : M) (vN vQ vD : Value) (xs : List UInt8) (w0 w : World) (hA : OA w0 w b q m vN vQ vD xs) (hm : MOk m) (hf : MFew m) (hx : xs.length ≤ 1000) (ht : m.ty = 112) :
    Calls Try.prog 58 #[.iface 97 (.pointer (some ⟨b, 0, none⟩)), .pointer (some ⟨q, 0, none⟩)] w (ODo w0 b q m vN vQ vD xs (outs m [.fid, .mode])) := by
  have c0 : w.cell? ⟨q, 0, none⟩ = some (.int .u8 112) := by rw [hA.cell 0]; show some (Value.int .u8 (m.ty : Int)) = _; rw [ht]; rfl
  have k := hid (out_files_112 b q m vN vQ vD xs w0 w hA hm hf hx ht)
  replace hA := hid hA
  clear ht
  go_enter Try.func58, Try.ntmps58
  go_wp2_with fail
  refine k.out.mono ?_
  rintro e w1 (⟨h1, rfl, h2⟩ | ⟨h1, rfl, h2⟩)
  · replace h1 := hid h1
    go_wp2_with fail
    go_end0
    exact .inl ⟨h1.out, rfl, h2⟩
  · replace h1 := hid h1
    go_wp2_with fail
    exact ⟨rfl, .inr ⟨h1.out, rfl, h2⟩⟩

set_option maxHeartbeats 1600000 in
theorem out_fields_113 (b q : Nat) (m : M) (vN vQ vD : Value) (xs : List UInt8) (w0 w : World) (hA : OA w0 w b q m vN vQ vD xs) (hm : MOk m) (hf : MFew m) (hx : xs.length ≤ 1000) (ht : m.ty = 113) :
    Calls Try.prog 58 #[.iface 97 (.pointer (some ⟨b, 0, none⟩)), .pointer (some ⟨q, 0, none⟩)] w (ODo w0 b q m vN vQ vD xs (outs m [.qid, .iounit])) := by
  have c0 : w.cell? ⟨q, 0, none⟩ = some (.int .u8 113) := by rw [hA.cell 0]; show some (Value.int .u8 (m.ty : Int)) = _; rw [ht]; rfl
  have k := hid (out_files_113 b q m vN vQ vD xs w0 w hA hm hf hx ht)
  replace hA := hid hA
  clear ht
  go_enter Try.func58, Try.ntmps58
  go_wp2_with fail
  refine k.out.mono ?_
  rintro e w1 (⟨h1, rfl, h2⟩ | ⟨h1, rfl, h2⟩)
  · replace h1 := hid h1
    go_wp2_with fail
    go_end0
    exact .inl ⟨h1.out, rfl, h2⟩
  · replace h1 := hid h1
    go_wp2_with fail
    exact ⟨rfl, .inr ⟨h1.out, rfl, h2⟩⟩

set_option maxHeartbeats 1600000 in
theorem out_fields_114 (b q : Nat) (m : M) (vN vQ vD : Value) (xs : List UInt8) (w0 w : World) (hA : OA w0 w b q m vN vQ vD xs) (hm : MOk m) (hf : MFew m) (hx : xs.length ≤ 1000) (ht : m.ty = 114) :
    Calls Try.prog 58 #[.iface 97 (.pointer (some ⟨b, 0, none⟩)), .pointer (some ⟨q, 0, none⟩)] w (ODo w0 b q m vN vQ vD xs (outs m [.fid, .name, .perm, .mode])) := by
  have c0 : w.cell? ⟨q, 0, none⟩ = some (.int .u8 114) := by rw [hA.cell 0]; show some (Value.int .u8 (m.ty : Int)) = _; rw [ht]; rfl
  have k := hid (out_files_114 b q m vN vQ vD xs w0 w hA hm hf hx ht)
  replace hA := hid hA
  clear ht
  go_enter Try.func58, Try.ntmps58
  go_wp2_with fail
  refine k.out.mono ?_
  rintro e w1 (⟨h1, rfl, h2⟩ | ⟨h1, rfl, h2⟩)
  · replace h1 := hid h1
    go_wp2_with fail
    go_end0
    exact .inl ⟨h1.out, rfl, h2⟩
  · replace h1 := hid h1
    go_wp2_with fail
    exact ⟨rfl, .inr ⟨h1.out, rfl, h2⟩⟩

set_option maxHeartbeats 1600000 in
theorem out_fields_115 (b q : Nat) (m : M) (vN vQ vD : Value) (xs : List UInt8) (w0 w : World) (hA : OA w0 w b q m vN vQ vD xs) (hm : MOk m) (hf : MFew m) (hx : xs.length ≤ 1000) (ht : m.ty = 115) :
    Calls Try.prog 58 #[.iface 97 (.pointer (some ⟨b, 0, none⟩)), .pointer (some ⟨q, 0, none⟩)] w (ODo w0 b q m vN vQ vD xs (outs m [.qid, .iounit])) := by
  have c0 : w.cell? ⟨q, 0, none⟩ = some (.int .u8 115) := by rw [hA.cell 0]; show some (Value.int .u8 (m.ty : Int)) = _; rw [ht]; rfl
  have k := hid (out_files_115 b q m vN vQ vD xs w0 w hA hm hf hx ht)
  replace hA := hid hA
  clear ht
  go_enter Try.func58, Try.ntmps58
  go_wp2_with fail
  refine k.out.mono ?_
  rintro e w1 (⟨h1, rfl, h2⟩ | ⟨h1, rfl, h2⟩)
  · replace h1 := hid h1
    go_wp2_with fail
    go_end0
    exact .inl ⟨h1.out, rfl, h2⟩
  · replace h1 := hid h1
    go_wp2_with fail
    exact ⟨rfl, .inr ⟨h1.out, rfl, h2⟩⟩

set_option maxHeartbeats 1600000 in
theorem out_fields_116 (b q : Nat) (m : M) (vN vQ vD : Value) (xs : List UInt8) (w0 w : World) (hA : OA w0 w b q m vN vQ vD xs) (hm : MOk m) (hf : MFew m) (hx : xs.length ≤ 1000) (ht : m.ty = 116) :
    Calls Try.prog 58 #[.iface 97 (.pointer (some ⟨b, 0, none⟩)), .pointer (some ⟨q, 0, none⟩)] w (ODo w0 b q m vN vQ vD xs (outs m [.fid, .offset, .count])) := by
  have c0 : w.cell? ⟨q, 0, none⟩ = some (.int .u8 116) := by rw [hA.cell 0]; show some (Value.int .u8 (m.ty : Int)) = _; rw [ht]; rfl
  have k := hid (out_files_116 b q m vN vQ vD xs w0 w hA hm hf hx ht)
  replace hA := hid hA
  clear ht
  go_enter Try.func58, Try.ntmps58
  go_wp2_with fail
  refine k.out.mono ?_
  rintro e w1 (⟨h1, rfl, h2⟩ | ⟨h1, rfl, h2⟩)
  · replace h1 := hid h1
    go_wp2_with fail
    go_end0
    exact .inl ⟨h1.out, rfl, h2⟩
  · replace h1 := hid h1
    go_wp2_with fail
    exact ⟨rfl, .inr ⟨h1.out, rfl, h2⟩⟩

set_option maxHeartbeats 1600000 in
theorem out_fields_117 (b q : Nat) (m : M) (vN vQ vD : Value) (xs : List UInt8) (w0 w : World) (hA : OA w0 w b q m vN vQ vD xs) (hm : MOk m) (hf : MFew m) (hx : xs.length ≤ 1000) (ht : m.ty = 117) :
    Calls Try.prog 58 #[.iface 97 (.pointer (some ⟨b, 0, none⟩)), .pointer (some ⟨q, 0, none⟩)] w (ODo w0 b q m vN vQ vD xs (outs m [.data])) := by
  have c0 : w.cell? ⟨q, 0, none⟩ = some (.int .u8 117) := by rw [hA.cell 0]; show some (Value.int .u8 (m.ty : Int)) = _; rw [ht]; rfl
  have k := hid (out_files_117 b q m vN vQ vD xs w0 w hA hm hf hx ht)
  replace hA := hid hA
  clear ht
  go_enter Try.func58, Try.ntmps58
  go_wp2_with fail
  refine k.out.mono ?_
  rintro e w1 (⟨h1, rfl, h2⟩ | ⟨h1, rfl, h2⟩)
  · replace h1 := hid h1
    go_wp2_with fail
    go_end0
    exact .inl ⟨h1.out, rfl, h2⟩
  · replace h1 := hid h1
    go_wp2_with fail
    exact ⟨rfl, .inr ⟨h1.out, rfl, h2⟩⟩

set_option maxHeartbeats 1600000 in
theorem out_fields_118 (b q : Nat) (m : M) (vN vQ vD : Value) (xs : List UInt8) (w0 w : World) (hA : OA w0 w b q m vN vQ vD xs) (hm : MOk m) (hf : MFew m) (hx : xs.length ≤ 1000) (ht : m.ty = 118) :
    Calls Try.prog 58 #[.iface 97 (.pointer (some ⟨b, 0, none⟩)), .pointer (some ⟨q, 0, none⟩)] w (ODo w0 b q m vN vQ vD xs (outs m [.fid, .offset, .data])) := by
  have c0 : w.cell? ⟨q, 0, none⟩ = some (.int .u8 118) := by rw [hA.cell 0]; show some (Value.int .u8 (m.ty : Int)) = _; rw [ht]; rfl
  have k := hid (out_files_118 b q m vN vQ vD xs w0 w hA hm hf hx ht)
  replace hA := hid hA
  clear ht
  go_enter Try.func58, Try.ntmps58
  go_wp2_with fail
  refine k.out.mono ?_
  rintro e w1 (⟨h1, rfl, h2⟩ | ⟨h1, rfl, h2⟩)
  · replace h1 := hid h1
    go_wp2_with fail
    go_end0
    exact .inl ⟨h1.out, rfl, h2⟩
  · replace h1 := hid h1
    go_wp2_with fail
    exact ⟨rfl, .inr ⟨h1.out, rfl, h2⟩⟩

set_option maxHeartbeats 1600000 in
theorem out_fields_119 (b q : Nat) (m : M) (vN vQ vD : Value) (xs : List UInt8) (w0 w : World) (hA : OA w0 w b q m vN vQ vD xs) (hm : MOk m) (hf : MFew m) (hx : xs.length ≤ 1000) (ht : m.ty = 119) :
    Calls Try.prog 58 #[.iface 97 (.pointer (some ⟨b, 0, none⟩)), .pointer (some ⟨q, 0, none⟩)] w (ODo w0 b q m vN vQ vD xs (outs m [.count])) := by
  have c0 : w.cell? ⟨q, 0, none⟩ = some (.int .u8 119) := by rw [hA.cell 0]; show some (Value.int .u8 (m.ty : Int)) = _; rw [ht]; rfl
  have k := hid (out_files_119 b q m vN vQ vD xs w0 w hA hm hf hx ht)
  replace hA := hid hA
  clear ht
  go_enter Try.func58, Try.ntmps58
  go_wp2_with fail
  refine k.out.mono ?_
  rintro e w1 (⟨h1, rfl, h2⟩ | ⟨h1, rfl, h2⟩)
  · replace h1 := hid h1
    go_wp2_with fail
    go_end0
    exact .inl ⟨h1.out, rfl, h2⟩
  · replace h1 := hid h1
    go_wp2_with fail
    exact ⟨rfl, .inr ⟨h1.out, rfl, h2⟩⟩

set_option maxHeartbeats 1600000 in
theorem out_fields_120 (b q : Nat) (m : M) (vN vQ vD : Value) (xs : List UInt8) (w0 w : World) (hA : OA w0 w b q m vN vQ vD xs) (hm : MOk m) (hf : MFew m) (hx : xs.length ≤ 1000) (ht : m.ty = 120) :
    Calls Try.prog 58 #[.iface 97 (.pointer (some ⟨b, 0, none⟩)), .pointer (some ⟨q, 0, none⟩)] w (ODo w0 b q m vN vQ vD xs (outs m [.fid])) := by
  have c0 : w.cell? ⟨q, 0, none⟩ = some (.int .u8 120) := by rw [hA.cell 0]; show some (Value.int .u8 (m.ty : Int)) = _; rw [ht]; rfl
  have k := hid (out_files_120 b q m vN vQ vD xs w0 w hA hm hf hx ht)
  replace hA := hid hA
  clear ht
  go_enter Try.func58, Try.ntmps58
  go_wp2_with fail
  refine k.out.mono ?_
  rintro e w1 (⟨h1, rfl, h2⟩ | ⟨h1, rfl, h2⟩)
  · replace h1 := hid h1
    go_wp2_with fail
    go_end0
    exact .inl ⟨h1.out, rfl, h2⟩
  · replace h1 := hid h1
    go_wp2_with fail
    exact ⟨rfl, .inr ⟨h1.out, rfl, h2⟩⟩

set_option maxHeartbeats 1600000 in
theorem out_fields_122 (b q : Nat) (m : M) (vN vQ vD : Value) (xs : List UInt8) (w0 w : World) (hA : OA w0 w b q m vN vQ vD xs) (hm : MOk m) (hf : MFew m) (hx : xs.length ≤ 1000) (ht : m.ty = 122) :
    Calls Try.prog 58 #[.iface 97 (.pointer (some ⟨b, 0, none⟩)), .pointer (some ⟨q, 0, none⟩)] w (ODo w0 b q m vN vQ vD xs (outs m [.fid])) := by
  have c0 : w.cell? ⟨q, 0, none⟩ = some (.int .u8 122) := by rw [hA.cell 0]; show some (Value.int .u8 (m.ty : Int)) = _; rw [ht]; rfl
  have k := hid (out_files_122 b q m vN vQ vD xs w0 w hA hm hf hx ht)
  replace hA := hid hA
  clear ht
  go_enter Try.func58, Try.ntmps58
  go_wp2_with fail
  refine k.out.mono ?_
  rintro e w1 (⟨h1, rfl, h2⟩ | ⟨h1, rfl, h2⟩)
  · replace h1 := hid h1
    go_wp2_with fail
    go_end0
    exact .inl ⟨h1.out, rfl, h2⟩
  · replace h1 := hid h1
    go_wp2_with fail
    exact ⟨rfl, .inr ⟨h1.out, rfl, h2⟩⟩

set_option maxHeartbeats 1600000 in
theorem out_fields_124 (b q : Nat) (m : M) (vN vQ vD : Value) (xs : List UInt8) (w0 w : World) (hA : OA w0 w b q m vN vQ vD xs) (hm : MOk m) (hf : MFew m) (hx : xs.length ≤ 1000) (ht : m.ty = 124) :
    Calls Try.prog 58 #[.iface 97 (.pointer (some ⟨b, 0, none⟩)), .pointer (some ⟨q, 0, none⟩)] w (ODo w0 b q m vN vQ vD xs (outs m [.fid])) := by
  have c0 : w.cell? ⟨q, 0, none⟩ = some (.int .u8 124) := by rw [hA.cell 0]; show some (Value.int .u8 (m.ty : Int)) = _; rw [ht]; rfl
  have k := hid (out_files_124 b q m vN vQ vD xs w0 w hA hm hf hx ht)
  replace hA := hid hA
  clear ht
  go_enter Try.func58, Try.ntmps58
  go_wp2_with fail
  refine k.out.mono ?_
  rintro e w1 (⟨h1, rfl, h2⟩ | ⟨h1, rfl, h2⟩)
  · replace h1 := hid h1
    go_wp2_with fail
    go_end0
    exact .inl ⟨h1.out, rfl, h2⟩
  · replace h1 := hid h1
    go_wp2_with fail
    exact ⟨rfl, .inr ⟨h1.out, rfl, h2⟩⟩

set_option maxHeartbeats 1600000 in
theorem out_fields_125 (b q : Nat) (m : M) (vN vQ vD : Value) (xs : List UInt8) (w0 w : World) (hA : OA w0 w b q m vN vQ vD xs) (hm : MOk m) (hf : MFew m) (hx : xs.length ≤ 1000) (ht : m.ty = 125) :
    Calls Try.prog 58 #[.iface 97 (.pointer (some ⟨b, 0, none⟩)), .pointer (some ⟨q, 0, none⟩)] w (ODo w0 b q m vN vQ vD xs (outs m [.stat])) := by
  have c0 : w.cell? ⟨q, 0, none⟩ = some (.int .u8 125) := by rw [hA.cell 0]; show some (Value.int .u8 (m.ty : Int)) = _; rw [ht]; rfl
  have k := hid (out_files_125 b q m vN vQ vD xs w0 w hA hm hf hx ht)
  replace hA := hid hA
  clear ht
  go_enter Try.func58, Try.ntmps58
  go_wp2_with fail
  refine k.out.mono ?_
  rintro e w1 (⟨h1, rfl, h2⟩ | ⟨h1, rfl, h2⟩)
  · replace h1 := hid h1
    go_wp2_with fail
    go_end0
    exact .inl ⟨h1.out, rfl, h2⟩
  · replace h1 := hid h1
    go_wp2_with fail
    exact ⟨rfl, .inr ⟨h1.out, rfl, h2⟩⟩

set_option maxHeartbeats 1600000 in
theorem out_fields_126 (b q : Nat) (m : M) (vN vQ vD : Value) (xs : List UInt8) (w0 w : World) (hA : OA w0 w b q m vN vQ vD xs) (hm : MOk m) (hf : MFew m) (hx : xs.length ≤ 1000) (ht : m.ty = 126) :
    Calls Try.prog 58 #[.iface 97 (.pointer (some ⟨b, 0, none⟩)), .pointer (some ⟨q, 0, none⟩)] w (ODo w0 b q m vN vQ vD xs (outs m [.fid, .stat])) := by
  have c0 : w.cell? ⟨q, 0, none⟩ = some (.int .u8 126) := by rw [hA.cell 0]; show some (Value.int .u8 (m.ty : Int)) = _; rw [ht]; rfl
  have k := hid (out_files_126 b q m vN vQ vD xs w0 w hA hm hf hx ht)
  replace hA := hid hA
  clear ht
  go_enter Try.func58, Try.ntmps58
  go_wp2_with fail
  refine k.out.mono ?_
  rintro e w1 (⟨h1, rfl, h2⟩ | ⟨h1, rfl, h2⟩)
  · replace h1 := hid h1
    go_wp2_with fail
    go_end0
    exact .inl ⟨h1.out, rfl, h2⟩
  · replace h1 := hid h1
    go_wp2_with fail
    exact ⟨rfl, .inr ⟨h1.out, rfl, h2⟩⟩

set_option maxHeartbeats 1600000 in
theorem out_fields_109 (b q : Nat) (m : M) (vN vQ vD : Value) (xs : List UInt8) (w0 w : World) (hA : OA w0 w b q m vN vQ vD xs) (hm : MOk m) (hf : MFew m) (hx : xs.length ≤ 1000) (ht : m.ty = 109) :
    Calls Try.prog 58 #[.iface 97 (.pointer (some ⟨b, 0, none⟩)), .pointer (some ⟨q, 0, none⟩)] w (ODo w0 b q m vN vQ vD xs (outs m [])) := by
  have c0 : w.cell? ⟨q, 0, none⟩ = some (.int .u8 109) := by rw [hA.cell 0]; show some (Value.int .u8 (m.ty : Int)) = _; rw [ht]; rfl
  have k := hid (out_files_109 b q m vN vQ vD xs w0 w hA hm hf hx ht)
  replace hA := hid hA
  clear ht
  go_enter Try.func58, Try.ntmps58
  go_wp2_with fail
  refine k.out.mono ?_
  rintro e w1 (⟨h1, rfl, h2⟩ | ⟨h1, rfl, h2⟩)
  · replace h1 := hid h1
    go_wp2_with fail
    go_end0
    exact .inl ⟨h1.out, rfl, h2⟩
  · replace h1 := hid h1
    go_wp2_with fail
    exact ⟨rfl, .inr ⟨h1.out, rfl, h2⟩⟩

set_option maxHeartbeats 1600000 in
theorem out_fields_121 (b q : Nat) (m : M) (vN vQ vD : Value) (xs : List UInt8) (w0 w : World) (hA : OA w0 w b q m vN vQ vD xs) (hm : MOk m) (hf : MFew m) (hx : xs.length ≤ 1000) (ht : m.ty = 121) :
    Calls Try.prog 58 #[.iface 97 (.pointer (some ⟨b, 0, none⟩)), .pointer (some ⟨q, 0, none⟩)] w (ODo w0 b q m vN vQ vD xs (outs m [])) := by
  have c0 : w.cell? ⟨q, 0, none⟩ = some (.int .u8 121) := by rw [hA.cell 0]; show some (Value.int .u8 (m.ty : Int)) = _; rw [ht]; rfl
  have k := hid (out_files_121 b q m vN vQ vD xs w0 w hA hm hf hx ht)
  replace hA := hid hA
  clear ht
  go_enter Try.func58, Try.ntmps58
  go_wp2_with fail
  refine k.out.mono ?_
  rintro e w1 (⟨h1, rfl, h2⟩ | ⟨h1, rfl, h2⟩)
  · replace h1 := hid h1
    go_wp2_with fail
    go_end0
    exact .inl ⟨h1.out, rfl, h2⟩
  · replace h1 := hid h1
    go_wp2_with fail
    exact ⟨rfl, .inr ⟨h1.out, rfl, h2⟩⟩

set_option maxHeartbeats 1600000 in
theorem out_fields_123 (b q : Nat) (m : M) (vN vQ vD : Value) (xs : List UInt8) (w0 w : World) (hA : OA w0 w b q m vN vQ vD xs) (hm : MOk m) (hf : MFew m) (hx : xs.length ≤ 1000) (ht : m.ty = 123) :
    Calls Try.prog 58 #[.iface 97 (.pointer (some ⟨b, 0, none⟩)), .pointer (some ⟨q, 0, none⟩)] w (ODo w0 b q m vN vQ vD xs (outs m [])) := by
  have c0 : w.cell? ⟨q, 0, none⟩ = some (.int .u8 123) := by rw [hA.cell 0]; show some (Value.int .u8 (m.ty : Int)) = _; rw [ht]; rfl
  have k := hid (out_files_123 b q m vN vQ vD xs w0 w hA hm hf hx ht)
  replace hA := hid hA
  clear ht
  go_enter Try.func58, Try.ntmps58
  go_wp2_with fail
  refine k.out.mono ?_
  rintro e w1 (⟨h1, rfl, h2⟩ | ⟨h1, rfl, h2⟩)
  · replace h1 := hid h1
    go_wp2_with fail
    go_end0
    exact .inl ⟨h1.out, rfl, h2⟩
  · replace h1 := hid h1
    go_wp2_with fail
    exact ⟨rfl, .inr ⟨h1.out, rfl, h2⟩⟩

set_option maxHeartbeats 1600000 in
theorem out_fields_127 (b q : Nat) (m : M) (vN vQ vD : Value) (xs : List UInt8) (w0 w : World) (hA : OA w0 w b q m vN vQ vD xs) (hm : MOk m) (hf : MFew m) (hx : xs.length ≤ 1000) (ht : m.ty = 127) :
    Calls Try.prog 58 #[.iface 97 (.pointer (some ⟨b, 0, none⟩)), .pointer (some ⟨q, 0, none⟩)] w (ODo w0 b q m vN vQ vD xs (outs m [])) := by
  have c0 : w.cell? ⟨q, 0, none⟩ = some (.int .u8 127) := by rw [hA.cell 0]; show some (Value.int .u8 (m.ty : Int)) = _; rw [ht]; rfl
  have k := hid (out_files_127 b q m vN vQ vD xs w0 w hA hm hf hx ht)
  replace hA := hid hA
  clear ht
  go_enter Try.func58, Try.ntmps58
  go_wp2_with fail
  refine k.out.mono ?_
  rintro e w1 (⟨h1, rfl, h2⟩ | ⟨h1, rfl, h2⟩)
  · replace h1 := hid h1
    go_wp2_with fail
    go_end0
    exact .inl ⟨h1.out, rfl, h2⟩
  · replace h1 := hid h1
    go_wp2_with fail
    exact ⟨rfl, .inr ⟨h1.out, rfl, h2⟩⟩

/-- Which types there are. -/
def knownT (t : Nat) : Bool := decide (100 ≤ t) && decide (t ≤ 127) && decide (t ≠ 106)
theorem out_fields_any (b q : Nat) (m : M) (vN vQ vD : Value) (xs : List UInt8) (w0 w : World) (hA : OA w0 w b q m vN vQ vD xs) (hm : MOk m) (hf : MFew m) (hx : xs.length ≤ 1000) (hk : knownT m.ty = true) :
    Calls Try.prog 58 #[.iface 97 (.pointer (some ⟨b, 0, none⟩)), .pointer (some ⟨q, 0, none⟩)] w (ODo w0 b q m vN vQ vD xs (outs m (slots m.ty))) := by
  have hk' : (100 ≤ m.ty ∧ m.ty ≤ 127) ∧ m.ty ≠ 106 := by simpa [knownT] using hk
  have hr : m.ty = 100 ∨ m.ty = 101 ∨ m.ty = 102 ∨ m.ty = 103 ∨ m.ty = 104 ∨ m.ty = 105 ∨ m.ty = 107 ∨ m.ty = 108 ∨ m.ty = 109 ∨ m.ty = 110 ∨ m.ty = 111 ∨ m.ty = 112 ∨ m.ty = 113 ∨ m.ty = 114 ∨ m.ty = 115 ∨ m.ty = 116 ∨ m.ty = 117 ∨ m.ty = 118 ∨ m.ty = 119 ∨ m.ty = 120 ∨ m.ty = 121 ∨ m.ty = 122 ∨ m.ty = 123 ∨ m.ty = 124 ∨ m.ty = 125 ∨ m.ty = 126 ∨ m.ty = 127 := by omega
  rcases hr with h | h | h | h | h | h | h | h | h | h | h | h | h | h | h | h | h | h | h | h | h | h | h | h | h | h | h
  · have := out_fields_100 b q m vN vQ vD xs w0 w hA hm hf hx h
    rw [h]; exact this
  · have := out_fields_101 b q m vN vQ vD xs w0 w hA hm hf hx h
    rw [h]; exact this
  · have := out_fields_102 b q m vN vQ vD xs w0 w hA hm hf hx h
    rw [h]; exact this
  · have := out_fields_103 b q m vN vQ vD xs w0 w hA hm hf hx h
    rw [h]; exact this
  · have := out_fields_104 b q m vN vQ vD xs w0 w hA hm hf hx h
    rw [h]; exact this
  · have := out_fields_105 b q m vN vQ vD xs w0 w hA hm hf hx h
    rw [h]; exact this
  · have := out_fields_107 b q m vN vQ vD xs w0 w hA hm hf hx h
    rw [h]; exact this
  · have := out_fields_108 b q m vN vQ vD xs w0 w hA hm hf hx h
    rw [h]; exact this
  · have := out_fields_109 b q m vN vQ vD xs w0 w hA hm hf hx h
    rw [h]; exact this
  · have := out_fields_110 b q m vN vQ vD xs w0 w hA hm hf hx h
    rw [h]; exact this
  · have := out_fields_111 b q m vN vQ vD xs w0 w hA hm hf hx h
    rw [h]; exact this
  · have := out_fields_112 b q m vN vQ vD xs w0 w hA hm hf hx h
    rw [h]; exact this
  · have := out_fields_113 b q m vN vQ vD xs w0 w hA hm hf hx h
    rw [h]; exact this
  · have := out_fields_114 b q m vN vQ vD xs w0 w hA hm hf hx h
    rw [h]; exact this
  · have := out_fields_115 b q m vN vQ vD xs w0 w hA hm hf hx h
    rw [h]; exact this
  · have := out_fields_116 b q m vN vQ vD xs w0 w hA hm hf hx h
    rw [h]; exact this
  · have := out_fields_117 b q m vN vQ vD xs w0 w hA hm hf hx h
    rw [h]; exact this
  · have := out_fields_118 b q m vN vQ vD xs w0 w hA hm hf hx h
    rw [h]; exact this
  · have := out_fields_119 b q m vN vQ vD xs w0 w hA hm hf hx h
    rw [h]; exact this
  · have := out_fields_120 b q m vN vQ vD xs w0 w hA hm hf hx h
    rw [h]; exact this
  · have := out_fields_121 b q m vN vQ vD xs w0 w hA hm hf hx h
    rw [h]; exact this
  · have := out_fields_122 b q m vN vQ vD xs w0 w hA hm hf hx h
    rw [h]; exact this
  · have := out_fields_123 b q m vN vQ vD xs w0 w hA hm hf hx h
    rw [h]; exact this
  · have := out_fields_124 b q m vN vQ vD xs w0 w hA hm hf hx h
    rw [h]; exact this
  · have := out_fields_125 b q m vN vQ vD xs w0 w hA hm hf hx h
    rw [h]; exact this
  · have := out_fields_126 b q m vN vQ vD xs w0 w hA hm hf hx h
    rw [h]; exact this
  · have := out_fields_127 b q m vN vQ vD xs w0 w hA hm hf hx h
    rw [h]; exact this
end Go.Proofs.Ytonhliipbdniiaa
