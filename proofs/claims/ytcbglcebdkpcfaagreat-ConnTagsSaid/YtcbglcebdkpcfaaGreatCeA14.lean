/- What fields of msg reads, types 118, 119, 120, 122, 124, 125, 126, 109, 121, 123, 127. Conditions: bounds on lengths.
What fields of msg reads, by every known type. Conditions: bounds on lengths.
What read, tried and Decode of msg return, for any bytes. Conditions: the length is at most a thousand million. -/
import Derived.Test.YtcbglcebdkpcfaaGreatCeA12
import Derived.Test.YtcbglcebdkpcfaaGreatCeA13
import Derived.Test.YtcbglcebdkpcfaaGreatCeA10
import Derived.Test.YtcbglcebdkpcfaaGreatCeA11
import Derived.Laws.CopyOwn
namespace Go.Proofs.YtcbglcebdkpcfaaGreat
section
open Go.RowKit
set_option maxRecDepth 100000
set_option linter.unusedVariables false

set_option maxHeartbeats 1600000 in
theorem in_files_118 (B x : Nat) (X : Obj) (b q : Nat) (m : M) (p : List UInt8 × Nat) (w0 w : World) (hA : IA B x X w0 w b q m p) (ht : m.ty = 118) :
    Calls Tryz.prog 74 #[.iface 170 (.agg #[.pointer (some ⟨b, 0, none⟩)]), .pointer (some ⟨q, 0, none⟩)] w (IDo B x X w0 b q (ins [.fid, .offset, .data] p m)) := by
  have n0 := nil_i_u32
  have m0 := met_i_u32
  have n1 := nil_i_u64
  have m1 := met_i_u64
  have n2 := nil_i_data
  have m2 := met_i_data
  have c0 : w.cell? ⟨q, 0, none⟩ = some (.int .u8 118) := by rw [hA.cell 0]; show some (Value.int .u8 (m.ty : Int)) = _; rw [ht]; rfl
  replace hA := hid hA
  clear ht
  go_enter Tryz.func74, Tryz.ntmps74
  go_wp2_with fail
  rcases Nat.eq_zero_or_pos (Slot.i p m .fid).1 with he0 | he0
  case inr =>
    have he0b : (Slot.i p m .fid).1 ≠ 0 := by omega
    clear he0
    have k0 := hid (i_fid_bad B x X b q m p w0 w.drew hA.out.drew he0b)
    replace he0b := hid he0b
    go_region_with (go_at_call 154; refine k0.out.mono ?_; rintro e w1 ⟨⟨er0, hr0, rfl⟩, hs0⟩; refine fakeAny ⟨rfl, IDo_bad he0b.out ⟨⟨_, hr0, rfl⟩, hs0⟩⟩ ?_)
    all_goals trivial
  have k0 := hid (i_fid B x X b q m p w0 w.drew hA.out.drew he0)
  replace he0 := hid he0
  go_region_with (go_at_call 154; refine k0.out.mono ?_; rintro e w1 ⟨rfl, hA1⟩)
  have hB1 := hid (fun e w' (h : IDo B x X w0 b q (ins [.offset, .data] (Slot.i p m .fid).2.1 (Slot.i p m .fid).2.2) e w') => IDo_cons he0.out h)
  replace hA1 := hid hA1
  clear k0
  generalize (Slot.i p m .fid).2.1 = p1 at *
  generalize (Slot.i p m .fid).2.2 = m1 at *
  go_wp2_with fail
  rcases Nat.eq_zero_or_pos (Slot.i p1 m1 .offset).1 with he1 | he1
  case inr =>
    have he1b : (Slot.i p1 m1 .offset).1 ≠ 0 := by omega
    clear he1
    have k1 := hid (i_offset_bad B x X b q m1 p1 w0 w1.drew hA1.out.drew he1b)
    replace he1b := hid he1b
    go_region_with (go_at_call 155; refine k1.out.mono ?_; rintro e w2 ⟨⟨er1, hr1, rfl⟩, hs1⟩; refine fakeAny ⟨rfl, hB1.out _ _ (IDo_bad he1b.out ⟨⟨_, hr1, rfl⟩, hs1⟩)⟩ ?_)
    all_goals trivial
  have k1 := hid (i_offset B x X b q m1 p1 w0 w1.drew hA1.out.drew he1)
  replace he1 := hid he1
  go_region_with (go_at_call 155; refine k1.out.mono ?_; rintro e w2 ⟨rfl, hA2⟩)
  have hB2 := hid (fun e w' (h : IDo B x X w0 b q (ins [.data] (Slot.i p1 m1 .offset).2.1 (Slot.i p1 m1 .offset).2.2) e w') => hB1.out _ _ (IDo_cons he1.out h))
  replace hA2 := hid hA2
  clear k1
  generalize (Slot.i p1 m1 .offset).2.1 = p2 at *
  generalize (Slot.i p1 m1 .offset).2.2 = m2 at *
  go_wp2_with fail
  rcases Nat.eq_zero_or_pos (Slot.i p2 m2 .data).1 with he2 | he2
  case inr =>
    have he2b : (Slot.i p2 m2 .data).1 ≠ 0 := by omega
    clear he2
    have k2 := hid (i_data_bad B x X b q m2 p2 w0 w2.drew hA2.out.drew he2b)
    replace he2b := hid he2b
    go_region_with (go_at_call 148; refine k2.out.mono ?_; rintro e w3 ⟨⟨er2, hr2, rfl⟩, hs2⟩; refine fakeAny ⟨rfl, hB2.out _ _ (IDo_bad he2b.out ⟨⟨_, hr2, rfl⟩, hs2⟩)⟩ ?_)
    all_goals trivial
  have k2 := hid (i_data B x X b q m2 p2 w0 w2.drew hA2.out.drew he2)
  replace he2 := hid he2
  go_region_with (go_at_call 148; refine k2.out.mono ?_; rintro e w3 ⟨rfl, hA3⟩)
  go_wp2_with fail
  go_end0
  exact hB2.out _ _ (IDo_last he2.out ⟨rfl, hA3⟩)

set_option maxHeartbeats 1600000 in
theorem in_files_119 (B x : Nat) (X : Obj) (b q : Nat) (m : M) (p : List UInt8 × Nat) (w0 w : World) (hA : IA B x X w0 w b q m p) (ht : m.ty = 119) :
    Calls Tryz.prog 74 #[.iface 170 (.agg #[.pointer (some ⟨b, 0, none⟩)]), .pointer (some ⟨q, 0, none⟩)] w (IDo B x X w0 b q (ins [.count] p m)) := by
  have n0 := nil_i_u32
  have m0 := met_i_u32
  have c0 : w.cell? ⟨q, 0, none⟩ = some (.int .u8 119) := by rw [hA.cell 0]; show some (Value.int .u8 (m.ty : Int)) = _; rw [ht]; rfl
  replace hA := hid hA
  clear ht
  go_enter Tryz.func74, Tryz.ntmps74
  go_wp2_with fail
  rcases Nat.eq_zero_or_pos (Slot.i p m .count).1 with he0 | he0
  case inr =>
    have he0b : (Slot.i p m .count).1 ≠ 0 := by omega
    clear he0
    have k0 := hid (i_count_bad B x X b q m p w0 w.drew hA.out.drew he0b)
    replace he0b := hid he0b
    go_region_with (go_at_call 154; refine k0.out.mono ?_; rintro e w1 ⟨⟨er0, hr0, rfl⟩, hs0⟩; refine fakeAny ⟨rfl, IDo_bad he0b.out ⟨⟨_, hr0, rfl⟩, hs0⟩⟩ ?_)
    all_goals trivial
  have k0 := hid (i_count B x X b q m p w0 w.drew hA.out.drew he0)
  replace he0 := hid he0
  go_region_with (go_at_call 154; refine k0.out.mono ?_; rintro e w1 ⟨rfl, hA1⟩)
  have hB1 := hid (fun e w' (h : IDo B x X w0 b q (ins [] (Slot.i p m .count).2.1 (Slot.i p m .count).2.2) e w') => IDo_cons he0.out h)
  replace hA1 := hid hA1
  clear k0
  generalize (Slot.i p m .count).2.1 = p1 at *
  generalize (Slot.i p m .count).2.2 = m1 at *
  go_wp2_with fail
  go_end0
  exact hB1.out _ _ (IDo_nil rfl hA1.out)

set_option maxHeartbeats 1600000 in
theorem in_files_120 (B x : Nat) (X : Obj) (b q : Nat) (m : M) (p : List UInt8 × Nat) (w0 w : World) (hA : IA B x X w0 w b q m p) (ht : m.ty = 120) :
    Calls Tryz.prog 74 #[.iface 170 (.agg #[.pointer (some ⟨b, 0, none⟩)]), .pointer (some ⟨q, 0, none⟩)] w (IDo B x X w0 b q (ins [.fid] p m)) := by
  have n0 := nil_i_u32
  have m0 := met_i_u32
  have c0 : w.cell? ⟨q, 0, none⟩ = some (.int .u8 120) := by rw [hA.cell 0]; show some (Value.int .u8 (m.ty : Int)) = _; rw [ht]; rfl
  replace hA := hid hA
  clear ht
  go_enter Tryz.func74, Tryz.ntmps74
  go_wp2_with fail
  rcases Nat.eq_zero_or_pos (Slot.i p m .fid).1 with he0 | he0
  case inr =>
    have he0b : (Slot.i p m .fid).1 ≠ 0 := by omega
    clear he0
    have k0 := hid (i_fid_bad B x X b q m p w0 w.drew hA.out.drew he0b)
    replace he0b := hid he0b
    go_region_with (go_at_call 154; refine k0.out.mono ?_; rintro e w1 ⟨⟨er0, hr0, rfl⟩, hs0⟩; refine fakeAny ⟨rfl, IDo_bad he0b.out ⟨⟨_, hr0, rfl⟩, hs0⟩⟩ ?_)
    all_goals trivial
  have k0 := hid (i_fid B x X b q m p w0 w.drew hA.out.drew he0)
  replace he0 := hid he0
  go_region_with (go_at_call 154; refine k0.out.mono ?_; rintro e w1 ⟨rfl, hA1⟩)
  have hB1 := hid (fun e w' (h : IDo B x X w0 b q (ins [] (Slot.i p m .fid).2.1 (Slot.i p m .fid).2.2) e w') => IDo_cons he0.out h)
  replace hA1 := hid hA1
  clear k0
  generalize (Slot.i p m .fid).2.1 = p1 at *
  generalize (Slot.i p m .fid).2.2 = m1 at *
  go_wp2_with fail
  go_end0
  exact hB1.out _ _ (IDo_nil rfl hA1.out)

set_option maxHeartbeats 1600000 in
theorem in_files_122 (B x : Nat) (X : Obj) (b q : Nat) (m : M) (p : List UInt8 × Nat) (w0 w : World) (hA : IA B x X w0 w b q m p) (ht : m.ty = 122) :
    Calls Tryz.prog 74 #[.iface 170 (.agg #[.pointer (some ⟨b, 0, none⟩)]), .pointer (some ⟨q, 0, none⟩)] w (IDo B x X w0 b q (ins [.fid] p m)) := by
  have n0 := nil_i_u32
  have m0 := met_i_u32
  have c0 : w.cell? ⟨q, 0, none⟩ = some (.int .u8 122) := by rw [hA.cell 0]; show some (Value.int .u8 (m.ty : Int)) = _; rw [ht]; rfl
  replace hA := hid hA
  clear ht
  go_enter Tryz.func74, Tryz.ntmps74
  go_wp2_with fail
  rcases Nat.eq_zero_or_pos (Slot.i p m .fid).1 with he0 | he0
  case inr =>
    have he0b : (Slot.i p m .fid).1 ≠ 0 := by omega
    clear he0
    have k0 := hid (i_fid_bad B x X b q m p w0 w.drew hA.out.drew he0b)
    replace he0b := hid he0b
    go_region_with (go_at_call 154; refine k0.out.mono ?_; rintro e w1 ⟨⟨er0, hr0, rfl⟩, hs0⟩; refine fakeAny ⟨rfl, IDo_bad he0b.out ⟨⟨_, hr0, rfl⟩, hs0⟩⟩ ?_)
    all_goals trivial
  have k0 := hid (i_fid B x X b q m p w0 w.drew hA.out.drew he0)
  replace he0 := hid he0
  go_region_with (go_at_call 154; refine k0.out.mono ?_; rintro e w1 ⟨rfl, hA1⟩)
  have hB1 := hid (fun e w' (h : IDo B x X w0 b q (ins [] (Slot.i p m .fid).2.1 (Slot.i p m .fid).2.2) e w') => IDo_cons he0.out h)
  replace hA1 := hid hA1
  clear k0
  generalize (Slot.i p m .fid).2.1 = p1 at *
  generalize (Slot.i p m .fid).2.2 = m1 at *
  go_wp2_with fail
  go_end0
  exact hB1.out _ _ (IDo_nil rfl hA1.out)

set_option maxHeartbeats 1600000 in
theorem in_files_124 (B x : Nat) (X : Obj) (b q : Nat) (m : M) (p : List UInt8 × Nat) (w0 w : World) (hA : IA B x X w0 w b q m p) (ht : m.ty = 124) :
    Calls Tryz.prog 74 #[.iface 170 (.agg #[.pointer (some ⟨b, 0, none⟩)]), .pointer (some ⟨q, 0, none⟩)] w (IDo B x X w0 b q (ins [.fid] p m)) := by
  have n0 := nil_i_u32
  have m0 := met_i_u32
  have c0 : w.cell? ⟨q, 0, none⟩ = some (.int .u8 124) := by rw [hA.cell 0]; show some (Value.int .u8 (m.ty : Int)) = _; rw [ht]; rfl
  replace hA := hid hA
  clear ht
  go_enter Tryz.func74, Tryz.ntmps74
  go_wp2_with fail
  rcases Nat.eq_zero_or_pos (Slot.i p m .fid).1 with he0 | he0
  case inr =>
    have he0b : (Slot.i p m .fid).1 ≠ 0 := by omega
    clear he0
    have k0 := hid (i_fid_bad B x X b q m p w0 w.drew hA.out.drew he0b)
    replace he0b := hid he0b
    go_region_with (go_at_call 154; refine k0.out.mono ?_; rintro e w1 ⟨⟨er0, hr0, rfl⟩, hs0⟩; refine fakeAny ⟨rfl, IDo_bad he0b.out ⟨⟨_, hr0, rfl⟩, hs0⟩⟩ ?_)
    all_goals trivial
  have k0 := hid (i_fid B x X b q m p w0 w.drew hA.out.drew he0)
  replace he0 := hid he0
  go_region_with (go_at_call 154; refine k0.out.mono ?_; rintro e w1 ⟨rfl, hA1⟩)
  have hB1 := hid (fun e w' (h : IDo B x X w0 b q (ins [] (Slot.i p m .fid).2.1 (Slot.i p m .fid).2.2) e w') => IDo_cons he0.out h)
  replace hA1 := hid hA1
  clear k0
  generalize (Slot.i p m .fid).2.1 = p1 at *
  generalize (Slot.i p m .fid).2.2 = m1 at *
  go_wp2_with fail
  go_end0
  exact hB1.out _ _ (IDo_nil rfl hA1.out)

set_option maxHeartbeats 1600000 in
theorem in_files_125 (B x : Nat) (X : Obj) (b q : Nat) (m : M) (p : List UInt8 × Nat) (w0 w : World) (hA : IA B x X w0 w b q m p) (ht : m.ty = 125) :
    Calls Tryz.prog 74 #[.iface 170 (.agg #[.pointer (some ⟨b, 0, none⟩)]), .pointer (some ⟨q, 0, none⟩)] w (IDo B x X w0 b q (ins [.stat] p m)) := by
  have n0 := nil_i_stat
  have m0 := met_i_stat
  have c0 : w.cell? ⟨q, 0, none⟩ = some (.int .u8 125) := by rw [hA.cell 0]; show some (Value.int .u8 (m.ty : Int)) = _; rw [ht]; rfl
  replace hA := hid hA
  clear ht
  go_enter Tryz.func74, Tryz.ntmps74
  go_wp2_with fail
  rcases Nat.eq_zero_or_pos (Slot.i p m .stat).1 with he0 | he0
  case inr =>
    have he0b : (Slot.i p m .stat).1 ≠ 0 := by omega
    clear he0
    have k0 := hid (i_stat_bad B x X b q m p w0 w.drew hA.out.drew he0b)
    replace he0b := hid he0b
    go_region_with (go_at_call 151; refine k0.out.mono ?_; rintro e w1 ⟨⟨er0, hr0, rfl⟩, hs0⟩; refine fakeAny ⟨rfl, IDo_bad he0b.out ⟨⟨_, hr0, rfl⟩, hs0⟩⟩ ?_)
    all_goals trivial
  have k0 := hid (i_stat B x X b q m p w0 w.drew hA.out.drew he0)
  replace he0 := hid he0
  go_region_with (go_at_call 151; refine k0.out.mono ?_; rintro e w1 ⟨rfl, hA1⟩)
  have hB1 := hid (fun e w' (h : IDo B x X w0 b q (ins [] (Slot.i p m .stat).2.1 (Slot.i p m .stat).2.2) e w') => IDo_cons he0.out h)
  replace hA1 := hid hA1
  clear k0
  generalize (Slot.i p m .stat).2.1 = p1 at *
  generalize (Slot.i p m .stat).2.2 = m1 at *
  go_wp2_with fail
  go_end0
  exact hB1.out _ _ (IDo_nil rfl hA1.out)

set_option maxHeartbeats 1600000 in
theorem in_files_126 (B x : Nat) (X : Obj) (b q : Nat) (m : M) (p : List UInt8 × Nat) (w0 w : World) (hA : IA B x X w0 w b q m p) (ht : m.ty = 126) :
    Calls Tryz.prog 74 #[.iface 170 (.agg #[.pointer (some ⟨b, 0, none⟩)]), .pointer (some ⟨q, 0, none⟩)] w (IDo B x X w0 b q (ins [.fid, .stat] p m)) := by
  have n0 := nil_i_u32
  have m0 := met_i_u32
  have n1 := nil_i_stat
  have m1 := met_i_stat
  have c0 : w.cell? ⟨q, 0, none⟩ = some (.int .u8 126) := by rw [hA.cell 0]; show some (Value.int .u8 (m.ty : Int)) = _; rw [ht]; rfl
  replace hA := hid hA
  clear ht
  go_enter Tryz.func74, Tryz.ntmps74
  go_wp2_with fail
  rcases Nat.eq_zero_or_pos (Slot.i p m .fid).1 with he0 | he0
  case inr =>
    have he0b : (Slot.i p m .fid).1 ≠ 0 := by omega
    clear he0
    have k0 := hid (i_fid_bad B x X b q m p w0 w.drew hA.out.drew he0b)
    replace he0b := hid he0b
    go_region_with (go_at_call 154; refine k0.out.mono ?_; rintro e w1 ⟨⟨er0, hr0, rfl⟩, hs0⟩; refine fakeAny ⟨rfl, IDo_bad he0b.out ⟨⟨_, hr0, rfl⟩, hs0⟩⟩ ?_)
    all_goals trivial
  have k0 := hid (i_fid B x X b q m p w0 w.drew hA.out.drew he0)
  replace he0 := hid he0
  go_region_with (go_at_call 154; refine k0.out.mono ?_; rintro e w1 ⟨rfl, hA1⟩)
  have hB1 := hid (fun e w' (h : IDo B x X w0 b q (ins [.stat] (Slot.i p m .fid).2.1 (Slot.i p m .fid).2.2) e w') => IDo_cons he0.out h)
  replace hA1 := hid hA1
  clear k0
  generalize (Slot.i p m .fid).2.1 = p1 at *
  generalize (Slot.i p m .fid).2.2 = m1 at *
  go_wp2_with fail
  rcases Nat.eq_zero_or_pos (Slot.i p1 m1 .stat).1 with he1 | he1
  case inr =>
    have he1b : (Slot.i p1 m1 .stat).1 ≠ 0 := by omega
    clear he1
    have k1 := hid (i_stat_bad B x X b q m1 p1 w0 w1.drew hA1.out.drew he1b)
    replace he1b := hid he1b
    go_region_with (go_at_call 151; refine k1.out.mono ?_; rintro e w2 ⟨⟨er1, hr1, rfl⟩, hs1⟩; refine fakeAny ⟨rfl, hB1.out _ _ (IDo_bad he1b.out ⟨⟨_, hr1, rfl⟩, hs1⟩)⟩ ?_)
    all_goals trivial
  have k1 := hid (i_stat B x X b q m1 p1 w0 w1.drew hA1.out.drew he1)
  replace he1 := hid he1
  go_region_with (go_at_call 151; refine k1.out.mono ?_; rintro e w2 ⟨rfl, hA2⟩)
  have hB2 := hid (fun e w' (h : IDo B x X w0 b q (ins [] (Slot.i p1 m1 .stat).2.1 (Slot.i p1 m1 .stat).2.2) e w') => hB1.out _ _ (IDo_cons he1.out h))
  replace hA2 := hid hA2
  clear k1
  generalize (Slot.i p1 m1 .stat).2.1 = p2 at *
  generalize (Slot.i p1 m1 .stat).2.2 = m2 at *
  go_wp2_with fail
  go_end0
  exact hB2.out _ _ (IDo_nil rfl hA2.out)

set_option maxHeartbeats 1600000 in
theorem in_files_109 (B x : Nat) (X : Obj) (b q : Nat) (m : M) (p : List UInt8 × Nat) (w0 w : World) (hA : IA B x X w0 w b q m p) (ht : m.ty = 109) :
    Calls Tryz.prog 74 #[.iface 170 (.agg #[.pointer (some ⟨b, 0, none⟩)]), .pointer (some ⟨q, 0, none⟩)] w (IDo B x X w0 b q (ins [] p m)) := by
  have c0 : w.cell? ⟨q, 0, none⟩ = some (.int .u8 109) := by rw [hA.cell 0]; show some (Value.int .u8 (m.ty : Int)) = _; rw [ht]; rfl
  replace hA := hid hA
  clear ht
  go_enter Tryz.func74, Tryz.ntmps74
  go_wp2_with fail
  go_end0
  exact IDo_nil rfl hA.out

set_option maxHeartbeats 1600000 in
theorem in_files_121 (B x : Nat) (X : Obj) (b q : Nat) (m : M) (p : List UInt8 × Nat) (w0 w : World) (hA : IA B x X w0 w b q m p) (ht : m.ty = 121) :
    Calls Tryz.prog 74 #[.iface 170 (.agg #[.pointer (some ⟨b, 0, none⟩)]), .pointer (some ⟨q, 0, none⟩)] w (IDo B x X w0 b q (ins [] p m)) := by
  have c0 : w.cell? ⟨q, 0, none⟩ = some (.int .u8 121) := by rw [hA.cell 0]; show some (Value.int .u8 (m.ty : Int)) = _; rw [ht]; rfl
  replace hA := hid hA
  clear ht
  go_enter Tryz.func74, Tryz.ntmps74
  go_wp2_with fail
  go_end0
  exact IDo_nil rfl hA.out

set_option maxHeartbeats 1600000 in
theorem in_files_123 (B x : Nat) (X : Obj) (b q : Nat) (m : M) (p : List UInt8 × Nat) (w0 w : World) (hA : IA B x X w0 w b q m p) (ht : m.ty = 123) :
    Calls Tryz.prog 74 #[.iface 170 (.agg #[.pointer (some ⟨b, 0, none⟩)]), .pointer (some ⟨q, 0, none⟩)] w (IDo B x X w0 b q (ins [] p m)) := by
  have c0 : w.cell? ⟨q, 0, none⟩ = some (.int .u8 123) := by rw [hA.cell 0]; show some (Value.int .u8 (m.ty : Int)) = _; rw [ht]; rfl
  replace hA := hid hA
  clear ht
  go_enter Tryz.func74, Tryz.ntmps74
  go_wp2_with fail
  go_end0
  exact IDo_nil rfl hA.out

set_option maxHeartbeats 1600000 in
theorem in_files_127 (B x : Nat) (X : Obj) (b q : Nat) (m : M) (p : List UInt8 × Nat) (w0 w : World) (hA : IA B x X w0 w b q m p) (ht : m.ty = 127) :
    Calls Tryz.prog 74 #[.iface 170 (.agg #[.pointer (some ⟨b, 0, none⟩)]), .pointer (some ⟨q, 0, none⟩)] w (IDo B x X w0 b q (ins [] p m)) := by
  have c0 : w.cell? ⟨q, 0, none⟩ = some (.int .u8 127) := by rw [hA.cell 0]; show some (Value.int .u8 (m.ty : Int)) = _; rw [ht]; rfl
  replace hA := hid hA
  clear ht
  go_enter Tryz.func74, Tryz.ntmps74
  go_wp2_with fail
  go_end0
  exact IDo_nil rfl hA.out
end
end Go.Proofs.YtcbglcebdkpcfaaGreat

namespace Go.Proofs.YtcbglcebdkpcfaaGreat
section
open Go.RowKit
set_option maxRecDepth 100000
set_option linter.unusedVariables false

set_option maxHeartbeats 1600000 in
theorem in_fields_112 (B x : Nat) (X : Obj) (b q : Nat) (m : M) (p : List UInt8 × Nat) (w0 w : World) (hA : IA B x X w0 w b q m p) (ht : m.ty = 112) :
    Calls Tryz.prog 52 #[.iface 170 (.agg #[.pointer (some ⟨b, 0, none⟩)]), .pointer (some ⟨q, 0, none⟩)] w (IDo B x X w0 b q (ins [.fid, .mode] p m)) := by
  have c0 : w.cell? ⟨q, 0, none⟩ = some (.int .u8 112) := by rw [hA.cell 0]; show some (Value.int .u8 (m.ty : Int)) = _; rw [ht]; rfl
  have k := hid (in_files_112 B x X b q m p w0 w hA ht)
  replace hA := hid hA
  clear ht
  go_enter Tryz.func52, Tryz.ntmps52
  go_wp2_with fail
  refine k.out.mono ?_
  rintro e w1 (⟨h1, rfl, h2⟩ | ⟨h1, ⟨er, hr, rfl⟩, h2⟩)
  · replace h1 := hid h1
    go_wp2_with fail
    go_end0
    exact .inl ⟨h1.out, rfl, h2⟩
  · replace h1 := hid h1
    replace hr := hid hr
    go_wp2_with fail
    exact ⟨rfl, .inr ⟨h1.out, ⟨_, hr.out, rfl⟩, h2⟩⟩

set_option maxHeartbeats 1600000 in
theorem in_fields_113 (B x : Nat) (X : Obj) (b q : Nat) (m : M) (p : List UInt8 × Nat) (w0 w : World) (hA : IA B x X w0 w b q m p) (ht : m.ty = 113) :
    Calls Tryz.prog 52 #[.iface 170 (.agg #[.pointer (some ⟨b, 0, none⟩)]), .pointer (some ⟨q, 0, none⟩)] w (IDo B x X w0 b q (ins [.qid, .iounit] p m)) := by
  have c0 : w.cell? ⟨q, 0, none⟩ = some (.int .u8 113) := by rw [hA.cell 0]; show some (Value.int .u8 (m.ty : Int)) = _; rw [ht]; rfl
  have k := hid (in_files_113 B x X b q m p w0 w hA ht)
  replace hA := hid hA
  clear ht
  go_enter Tryz.func52, Tryz.ntmps52
  go_wp2_with fail
  refine k.out.mono ?_
  rintro e w1 (⟨h1, rfl, h2⟩ | ⟨h1, ⟨er, hr, rfl⟩, h2⟩)
  · replace h1 := hid h1
    go_wp2_with fail
    go_end0
    exact .inl ⟨h1.out, rfl, h2⟩
  · replace h1 := hid h1
    replace hr := hid hr
    go_wp2_with fail
    exact ⟨rfl, .inr ⟨h1.out, ⟨_, hr.out, rfl⟩, h2⟩⟩

set_option maxHeartbeats 1600000 in
theorem in_fields_114 (B x : Nat) (X : Obj) (b q : Nat) (m : M) (p : List UInt8 × Nat) (w0 w : World) (hA : IA B x X w0 w b q m p) (ht : m.ty = 114) :
    Calls Tryz.prog 52 #[.iface 170 (.agg #[.pointer (some ⟨b, 0, none⟩)]), .pointer (some ⟨q, 0, none⟩)] w (IDo B x X w0 b q (ins [.fid, .name, .perm, .mode] p m)) := by
  have c0 : w.cell? ⟨q, 0, none⟩ = some (.int .u8 114) := by rw [hA.cell 0]; show some (Value.int .u8 (m.ty : Int)) = _; rw [ht]; rfl
  have k := hid (in_files_114 B x X b q m p w0 w hA ht)
  replace hA := hid hA
  clear ht
  go_enter Tryz.func52, Tryz.ntmps52
  go_wp2_with fail
  refine k.out.mono ?_
  rintro e w1 (⟨h1, rfl, h2⟩ | ⟨h1, ⟨er, hr, rfl⟩, h2⟩)
  · replace h1 := hid h1
    go_wp2_with fail
    go_end0
    exact .inl ⟨h1.out, rfl, h2⟩
  · replace h1 := hid h1
    replace hr := hid hr
    go_wp2_with fail
    exact ⟨rfl, .inr ⟨h1.out, ⟨_, hr.out, rfl⟩, h2⟩⟩

set_option maxHeartbeats 1600000 in
theorem in_fields_115 (B x : Nat) (X : Obj) (b q : Nat) (m : M) (p : List UInt8 × Nat) (w0 w : World) (hA : IA B x X w0 w b q m p) (ht : m.ty = 115) :
    Calls Tryz.prog 52 #[.iface 170 (.agg #[.pointer (some ⟨b, 0, none⟩)]), .pointer (some ⟨q, 0, none⟩)] w (IDo B x X w0 b q (ins [.qid, .iounit] p m)) := by
  have c0 : w.cell? ⟨q, 0, none⟩ = some (.int .u8 115) := by rw [hA.cell 0]; show some (Value.int .u8 (m.ty : Int)) = _; rw [ht]; rfl
  have k := hid (in_files_115 B x X b q m p w0 w hA ht)
  replace hA := hid hA
  clear ht
  go_enter Tryz.func52, Tryz.ntmps52
  go_wp2_with fail
  refine k.out.mono ?_
  rintro e w1 (⟨h1, rfl, h2⟩ | ⟨h1, ⟨er, hr, rfl⟩, h2⟩)
  · replace h1 := hid h1
    go_wp2_with fail
    go_end0
    exact .inl ⟨h1.out, rfl, h2⟩
  · replace h1 := hid h1
    replace hr := hid hr
    go_wp2_with fail
    exact ⟨rfl, .inr ⟨h1.out, ⟨_, hr.out, rfl⟩, h2⟩⟩

set_option maxHeartbeats 1600000 in
theorem in_fields_116 (B x : Nat) (X : Obj) (b q : Nat) (m : M) (p : List UInt8 × Nat) (w0 w : World) (hA : IA B x X w0 w b q m p) (ht : m.ty = 116) :
    Calls Tryz.prog 52 #[.iface 170 (.agg #[.pointer (some ⟨b, 0, none⟩)]), .pointer (some ⟨q, 0, none⟩)] w (IDo B x X w0 b q (ins [.fid, .offset, .count] p m)) := by
  have c0 : w.cell? ⟨q, 0, none⟩ = some (.int .u8 116) := by rw [hA.cell 0]; show some (Value.int .u8 (m.ty : Int)) = _; rw [ht]; rfl
  have k := hid (in_files_116 B x X b q m p w0 w hA ht)
  replace hA := hid hA
  clear ht
  go_enter Tryz.func52, Tryz.ntmps52
  go_wp2_with fail
  refine k.out.mono ?_
  rintro e w1 (⟨h1, rfl, h2⟩ | ⟨h1, ⟨er, hr, rfl⟩, h2⟩)
  · replace h1 := hid h1
    go_wp2_with fail
    go_end0
    exact .inl ⟨h1.out, rfl, h2⟩
  · replace h1 := hid h1
    replace hr := hid hr
    go_wp2_with fail
    exact ⟨rfl, .inr ⟨h1.out, ⟨_, hr.out, rfl⟩, h2⟩⟩

set_option maxHeartbeats 1600000 in
theorem in_fields_117 (B x : Nat) (X : Obj) (b q : Nat) (m : M) (p : List UInt8 × Nat) (w0 w : World) (hA : IA B x X w0 w b q m p) (ht : m.ty = 117) :
    Calls Tryz.prog 52 #[.iface 170 (.agg #[.pointer (some ⟨b, 0, none⟩)]), .pointer (some ⟨q, 0, none⟩)] w (IDo B x X w0 b q (ins [.data] p m)) := by
  have c0 : w.cell? ⟨q, 0, none⟩ = some (.int .u8 117) := by rw [hA.cell 0]; show some (Value.int .u8 (m.ty : Int)) = _; rw [ht]; rfl
  have k := hid (in_files_117 B x X b q m p w0 w hA ht)
  replace hA := hid hA
  clear ht
  go_enter Tryz.func52, Tryz.ntmps52
  go_wp2_with fail
  refine k.out.mono ?_
  rintro e w1 (⟨h1, rfl, h2⟩ | ⟨h1, ⟨er, hr, rfl⟩, h2⟩)
  · replace h1 := hid h1
    go_wp2_with fail
    go_end0
    exact .inl ⟨h1.out, rfl, h2⟩
  · replace h1 := hid h1
    replace hr := hid hr
    go_wp2_with fail
    exact ⟨rfl, .inr ⟨h1.out, ⟨_, hr.out, rfl⟩, h2⟩⟩

set_option maxHeartbeats 1600000 in
theorem in_fields_118 (B x : Nat) (X : Obj) (b q : Nat) (m : M) (p : List UInt8 × Nat) (w0 w : World) (hA : IA B x X w0 w b q m p) (ht : m.ty = 118) :
    Calls Tryz.prog 52 #[.iface 170 (.agg #[.pointer (some ⟨b, 0, none⟩)]), .pointer (some ⟨q, 0, none⟩)] w (IDo B x X w0 b q (ins [.fid, .offset, .data] p m)) := by
  have c0 : w.cell? ⟨q, 0, none⟩ = some (.int .u8 118) := by rw [hA.cell 0]; show some (Value.int .u8 (m.ty : Int)) = _; rw [ht]; rfl
  have k := hid (in_files_118 B x X b q m p w0 w hA ht)
  replace hA := hid hA
  clear ht
  go_enter Tryz.func52, Tryz.ntmps52
  go_wp2_with fail
  refine k.out.mono ?_
  rintro e w1 (⟨h1, rfl, h2⟩ | ⟨h1, ⟨er, hr, rfl⟩, h2⟩)
  · replace h1 := hid h1
    go_wp2_with fail
    go_end0
    exact .inl ⟨h1.out, rfl, h2⟩
  · replace h1 := hid h1
    replace hr := hid hr
    go_wp2_with fail
    exact ⟨rfl, .inr ⟨h1.out, ⟨_, hr.out, rfl⟩, h2⟩⟩

set_option maxHeartbeats 1600000 in
theorem in_fields_119 (B x : Nat) (X : Obj) (b q : Nat) (m : M) (p : List UInt8 × Nat) (w0 w : World) (hA : IA B x X w0 w b q m p) (ht : m.ty = 119) :
    Calls Tryz.prog 52 #[.iface 170 (.agg #[.pointer (some ⟨b, 0, none⟩)]), .pointer (some ⟨q, 0, none⟩)] w (IDo B x X w0 b q (ins [.count] p m)) := by
  have c0 : w.cell? ⟨q, 0, none⟩ = some (.int .u8 119) := by rw [hA.cell 0]; show some (Value.int .u8 (m.ty : Int)) = _; rw [ht]; rfl
  have k := hid (in_files_119 B x X b q m p w0 w hA ht)
  replace hA := hid hA
  clear ht
  go_enter Tryz.func52, Tryz.ntmps52
  go_wp2_with fail
  refine k.out.mono ?_
  rintro e w1 (⟨h1, rfl, h2⟩ | ⟨h1, ⟨er, hr, rfl⟩, h2⟩)
  · replace h1 := hid h1
    go_wp2_with fail
    go_end0
    exact .inl ⟨h1.out, rfl, h2⟩
  · replace h1 := hid h1
    replace hr := hid hr
    go_wp2_with fail
    exact ⟨rfl, .inr ⟨h1.out, ⟨_, hr.out, rfl⟩, h2⟩⟩

set_option maxHeartbeats 1600000 in
theorem in_fields_120 (B x : Nat) (X : Obj) (b q : Nat) (m : M) (p : List UInt8 × Nat) (w0 w : World) (hA : IA B x X w0 w b q m p) (ht : m.ty = 120) :
    Calls Tryz.prog 52 #[.iface 170 (.agg #[.pointer (some ⟨b, 0, none⟩)]), .pointer (some ⟨q, 0, none⟩)] w (IDo B x X w0 b q (ins [.fid] p m)) := by
  have c0 : w.cell? ⟨q, 0, none⟩ = some (.int .u8 120) := by rw [hA.cell 0]; show some (Value.int .u8 (m.ty : Int)) = _; rw [ht]; rfl
  have k := hid (in_files_120 B x X b q m p w0 w hA ht)
  replace hA := hid hA
  clear ht
  go_enter Tryz.func52, Tryz.ntmps52
  go_wp2_with fail
  refine k.out.mono ?_
  rintro e w1 (⟨h1, rfl, h2⟩ | ⟨h1, ⟨er, hr, rfl⟩, h2⟩)
  · replace h1 := hid h1
    go_wp2_with fail
    go_end0
    exact .inl ⟨h1.out, rfl, h2⟩
  · replace h1 := hid h1
    replace hr := hid hr
    go_wp2_with fail
    exact ⟨rfl, .inr ⟨h1.out, ⟨_, hr.out, rfl⟩, h2⟩⟩

set_option maxHeartbeats 1600000 in
theorem in_fields_122 (B x : Nat) (X : Obj) (b q : Nat) (m : M) (p : List UInt8 × Nat) (w0 w : World) (hA : IA B x X w0 w b q m p) (ht : m.ty = 122) :
    Calls Tryz.prog 52 #[.iface 170 (.agg #[.pointer (some ⟨b, 0, none⟩)]), .pointer (some ⟨q, 0, none⟩)] w (IDo B x X w0 b q (ins [.fid] p m)) := by
  have c0 : w.cell? ⟨q, 0, none⟩ = some (.int .u8 122) := by rw [hA.cell 0]; show some (Value.int .u8 (m.ty : Int)) = _; rw [ht]; rfl
  have k := hid (in_files_122 B x X b q m p w0 w hA ht)
  replace hA := hid hA
  clear ht
  go_enter Tryz.func52, Tryz.ntmps52
  go_wp2_with fail
  refine k.out.mono ?_
  rintro e w1 (⟨h1, rfl, h2⟩ | ⟨h1, ⟨er, hr, rfl⟩, h2⟩)
  · replace h1 := hid h1
    go_wp2_with fail
    go_end0
    exact .inl ⟨h1.out, rfl, h2⟩
  · replace h1 := hid h1
    replace hr := hid hr
    go_wp2_with fail
    exact ⟨rfl, .inr ⟨h1.out, ⟨_, hr.out, rfl⟩, h2⟩⟩

set_option maxHeartbeats 1600000 in
theorem in_fields_124 (B x : Nat) (X : Obj) (b q : Nat) (m : M) (p : List UInt8 × Nat) (w0 w : World) (hA : IA B x X w0 w b q m p) (ht : m.ty = 124) :
    Calls Tryz.prog 52 #[.iface 170 (.agg #[.pointer (some ⟨b, 0, none⟩)]), .pointer (some ⟨q, 0, none⟩)] w (IDo B x X w0 b q (ins [.fid] p m)) := by
  have c0 : w.cell? ⟨q, 0, none⟩ = some (.int .u8 124) := by rw [hA.cell 0]; show some (Value.int .u8 (m.ty : Int)) = _; rw [ht]; rfl
  have k := hid (in_files_124 B x X b q m p w0 w hA ht)
  replace hA := hid hA
  clear ht
  go_enter Tryz.func52, Tryz.ntmps52
  go_wp2_with fail
  refine k.out.mono ?_
  rintro e w1 (⟨h1, rfl, h2⟩ | ⟨h1, ⟨er, hr, rfl⟩, h2⟩)
  · replace h1 := hid h1
    go_wp2_with fail
    go_end0
    exact .inl ⟨h1.out, rfl, h2⟩
  · replace h1 := hid h1
    replace hr := hid hr
    go_wp2_with fail
    exact ⟨rfl, .inr ⟨h1.out, ⟨_, hr.out, rfl⟩, h2⟩⟩

set_option maxHeartbeats 1600000 in
theorem in_fields_125 (B x : Nat) (X : Obj) (b q : Nat) (m : M) (p : List UInt8 × Nat) (w0 w : World) (hA : IA B x X w0 w b q m p) (ht : m.ty = 125) :
    Calls Tryz.prog 52 #[.iface 170 (.agg #[.pointer (some ⟨b, 0, none⟩)]), .pointer (some ⟨q, 0, none⟩)] w (IDo B x X w0 b q (ins [.stat] p m)) := by
  have c0 : w.cell? ⟨q, 0, none⟩ = some (.int .u8 125) := by rw [hA.cell 0]; show some (Value.int .u8 (m.ty : Int)) = _; rw [ht]; rfl
  have k := hid (in_files_125 B x X b q m p w0 w hA ht)
  replace hA := hid hA
  clear ht
  go_enter Tryz.func52, Tryz.ntmps52
  go_wp2_with fail
  refine k.out.mono ?_
  rintro e w1 (⟨h1, rfl, h2⟩ | ⟨h1, ⟨er, hr, rfl⟩, h2⟩)
  · replace h1 := hid h1
    go_wp2_with fail
    go_end0
    exact .inl ⟨h1.out, rfl, h2⟩
  · replace h1 := hid h1
    replace hr := hid hr
    go_wp2_with fail
    exact ⟨rfl, .inr ⟨h1.out, ⟨_, hr.out, rfl⟩, h2⟩⟩

set_option maxHeartbeats 1600000 in
theorem in_fields_126 (B x : Nat) (X : Obj) (b q : Nat) (m : M) (p : List UInt8 × Nat) (w0 w : World) (hA : IA B x X w0 w b q m p) (ht : m.ty = 126) :
    Calls Tryz.prog 52 #[.iface 170 (.agg #[.pointer (some ⟨b, 0, none⟩)]), .pointer (some ⟨q, 0, none⟩)] w (IDo B x X w0 b q (ins [.fid, .stat] p m)) := by
  have c0 : w.cell? ⟨q, 0, none⟩ = some (.int .u8 126) := by rw [hA.cell 0]; show some (Value.int .u8 (m.ty : Int)) = _; rw [ht]; rfl
  have k := hid (in_files_126 B x X b q m p w0 w hA ht)
  replace hA := hid hA
  clear ht
  go_enter Tryz.func52, Tryz.ntmps52
  go_wp2_with fail
  refine k.out.mono ?_
  rintro e w1 (⟨h1, rfl, h2⟩ | ⟨h1, ⟨er, hr, rfl⟩, h2⟩)
  · replace h1 := hid h1
    go_wp2_with fail
    go_end0
    exact .inl ⟨h1.out, rfl, h2⟩
  · replace h1 := hid h1
    replace hr := hid hr
    go_wp2_with fail
    exact ⟨rfl, .inr ⟨h1.out, ⟨_, hr.out, rfl⟩, h2⟩⟩

set_option maxHeartbeats 1600000 in
theorem in_fields_109 (B x : Nat) (X : Obj) (b q : Nat) (m : M) (p : List UInt8 × Nat) (w0 w : World) (hA : IA B x X w0 w b q m p) (ht : m.ty = 109) :
    Calls Tryz.prog 52 #[.iface 170 (.agg #[.pointer (some ⟨b, 0, none⟩)]), .pointer (some ⟨q, 0, none⟩)] w (IDo B x X w0 b q (ins [] p m)) := by
  have c0 : w.cell? ⟨q, 0, none⟩ = some (.int .u8 109) := by rw [hA.cell 0]; show some (Value.int .u8 (m.ty : Int)) = _; rw [ht]; rfl
  have k := hid (in_files_109 B x X b q m p w0 w hA ht)
  replace hA := hid hA
  clear ht
  go_enter Tryz.func52, Tryz.ntmps52
  go_wp2_with fail
  refine k.out.mono ?_
  rintro e w1 (⟨h1, rfl, h2⟩ | ⟨h1, ⟨er, hr, rfl⟩, h2⟩)
  · replace h1 := hid h1
    go_wp2_with fail
    go_end0
    exact .inl ⟨h1.out, rfl, h2⟩
  · replace h1 := hid h1
    replace hr := hid hr
    go_wp2_with fail
    exact ⟨rfl, .inr ⟨h1.out, ⟨_, hr.out, rfl⟩, h2⟩⟩

set_option maxHeartbeats 1600000 in
theorem in_fields_121 (B x : Nat) (X : Obj) (b q : Nat) (m : M) (p : List UInt8 × Nat) (w0 w : World) (hA : IA B x X w0 w b q m p) (ht : m.ty = 121) :
    Calls Tryz.prog 52 #[.iface 170 (.agg #[.pointer (some ⟨b, 0, none⟩)]), .pointer (some ⟨q, 0, none⟩)] w (IDo B x X w0 b q (ins [] p m)) := by
  have c0 : w.cell? ⟨q, 0, none⟩ = some (.int .u8 121) := by rw [hA.cell 0]; show some (Value.int .u8 (m.ty : Int)) = _; rw [ht]; rfl
  have k := hid (in_files_121 B x X b q m p w0 w hA ht)
  replace hA := hid hA
  clear ht
  go_enter Tryz.func52, Tryz.ntmps52
  go_wp2_with fail
  refine k.out.mono ?_
  rintro e w1 (⟨h1, rfl, h2⟩ | ⟨h1, ⟨er, hr, rfl⟩, h2⟩)
  · replace h1 := hid h1
    go_wp2_with fail
    go_end0
    exact .inl ⟨h1.out, rfl, h2⟩
  · replace h1 := hid h1
    replace hr := hid hr
    go_wp2_with fail
    exact ⟨rfl, .inr ⟨h1.out, ⟨_, hr.out, rfl⟩, h2⟩⟩

set_option maxHeartbeats 1600000 in
theorem in_fields_123 (B x : Nat) (X : Obj) (b q : Nat) (m : M) (p : List UInt8 × Nat) (w0 w : World) (hA : IA B x X w0 w b q m p) (ht : m.ty = 123) :
    Calls Tryz.prog 52 #[.iface 170 (.agg #[.pointer (some ⟨b, 0, none⟩)]), .pointer (some ⟨q, 0, none⟩)] w (IDo B x X w0 b q (ins [] p m)) := by
  have c0 : w.cell? ⟨q, 0, none⟩ = some (.int .u8 123) := by rw [hA.cell 0]; show some (Value.int .u8 (m.ty : Int)) = _; rw [ht]; rfl
  have k := hid (in_files_123 B x X b q m p w0 w hA ht)
  replace hA := hid hA
  clear ht
  go_enter Tryz.func52, Tryz.ntmps52
  go_wp2_with fail
  refine k.out.mono ?_
  rintro e w1 (⟨h1, rfl, h2⟩ | ⟨h1, ⟨er, hr, rfl⟩, h2⟩)
  · replace h1 := hid h1
    go_wp2_with fail
    go_end0
    exact .inl ⟨h1.out, rfl, h2⟩
  · replace h1 := hid h1
    replace hr := hid hr
    go_wp2_with fail
    exact ⟨rfl, .inr ⟨h1.out, ⟨_, hr.out, rfl⟩, h2⟩⟩

set_option maxHeartbeats 1600000 in
theorem in_fields_127 (B x : Nat) (X : Obj) (b q : Nat) (m : M) (p : List UInt8 × Nat) (w0 w : World) (hA : IA B x X w0 w b q m p) (ht : m.ty = 127) :
    Calls Tryz.prog 52 #[.iface 170 (.agg #[.pointer (some ⟨b, 0, none⟩)]), .pointer (some ⟨q, 0, none⟩)] w (IDo B x X w0 b q (ins [] p m)) := by
  have c0 : w.cell? ⟨q, 0, none⟩ = some (.int .u8 127) := by rw [hA.cell 0]; show some (Value.int .u8 (m.ty : Int)) = _; rw [ht]; rfl
  have k := hid (in_files_127 B x X b q m p w0 w hA ht)
  replace hA := hid hA
  clear ht
  go_enter Tryz.func52, Tryz.ntmps52
  go_wp2_with fail
  refine k.out.mono ?_
  rintro e w1 (⟨h1, rfl, h2⟩ | ⟨h1, ⟨er, hr, rfl⟩, h2⟩)
  · replace h1 := hid h1
    go_wp2_with fail
    go_end0
    exact .inl ⟨h1.out, rfl, h2⟩
  · replace h1 := hid h1
    replace hr := hid hr
    go_wp2_with fail
    exact ⟨rfl, .inr ⟨h1.out, ⟨_, hr.out, rfl⟩, h2⟩⟩

theorem in_fields_any (B x : Nat) (X : Obj) (b q : Nat) (m : M) (p : List UInt8 × Nat) (w0 w : World) (hA : IA B x X w0 w b q m p) (hk : knownT m.ty = true) :
    Calls Tryz.prog 52 #[.iface 170 (.agg #[.pointer (some ⟨b, 0, none⟩)]), .pointer (some ⟨q, 0, none⟩)] w (IDo B x X w0 b q (ins (slots m.ty) p m)) := by
  have hk' : (100 ≤ m.ty ∧ m.ty ≤ 127) ∧ m.ty ≠ 106 := by simpa [knownT] using hk
  have hr : m.ty = 100 ∨ m.ty = 101 ∨ m.ty = 102 ∨ m.ty = 103 ∨ m.ty = 104 ∨ m.ty = 105 ∨ m.ty = 107 ∨ m.ty = 108 ∨ m.ty = 109 ∨ m.ty = 110 ∨ m.ty = 111 ∨ m.ty = 112 ∨ m.ty = 113 ∨ m.ty = 114 ∨ m.ty = 115 ∨ m.ty = 116 ∨ m.ty = 117 ∨ m.ty = 118 ∨ m.ty = 119 ∨ m.ty = 120 ∨ m.ty = 121 ∨ m.ty = 122 ∨ m.ty = 123 ∨ m.ty = 124 ∨ m.ty = 125 ∨ m.ty = 126 ∨ m.ty = 127 := by omega
  rcases hr with h | h | h | h | h | h | h | h | h | h | h | h | h | h | h | h | h | h | h | h | h | h | h | h | h | h | h
  · have := in_fields_100 B x X b q m p w0 w hA h
    rw [h]; exact this
  · have := in_fields_101 B x X b q m p w0 w hA h
    rw [h]; exact this
  · have := in_fields_102 B x X b q m p w0 w hA h
    rw [h]; exact this
  · have := in_fields_103 B x X b q m p w0 w hA h
    rw [h]; exact this
  · have := in_fields_104 B x X b q m p w0 w hA h
    rw [h]; exact this
  · have := in_fields_105 B x X b q m p w0 w hA h
    rw [h]; exact this
  · have := in_fields_107 B x X b q m p w0 w hA h
    rw [h]; exact this
  · have := in_fields_108 B x X b q m p w0 w hA h
    rw [h]; exact this
  · have := in_fields_109 B x X b q m p w0 w hA h
    rw [h]; exact this
  · have := in_fields_110 B x X b q m p w0 w hA h
    rw [h]; exact this
  · have := in_fields_111 B x X b q m p w0 w hA h
    rw [h]; exact this
  · have := in_fields_112 B x X b q m p w0 w hA h
    rw [h]; exact this
  · have := in_fields_113 B x X b q m p w0 w hA h
    rw [h]; exact this
  · have := in_fields_114 B x X b q m p w0 w hA h
    rw [h]; exact this
  · have := in_fields_115 B x X b q m p w0 w hA h
    rw [h]; exact this
  · have := in_fields_116 B x X b q m p w0 w hA h
    rw [h]; exact this
  · have := in_fields_117 B x X b q m p w0 w hA h
    rw [h]; exact this
  · have := in_fields_118 B x X b q m p w0 w hA h
    rw [h]; exact this
  · have := in_fields_119 B x X b q m p w0 w hA h
    rw [h]; exact this
  · have := in_fields_120 B x X b q m p w0 w hA h
    rw [h]; exact this
  · have := in_fields_121 B x X b q m p w0 w hA h
    rw [h]; exact this
  · have := in_fields_122 B x X b q m p w0 w hA h
    rw [h]; exact this
  · have := in_fields_123 B x X b q m p w0 w hA h
    rw [h]; exact this
  · have := in_fields_124 B x X b q m p w0 w hA h
    rw [h]; exact this
  · have := in_fields_125 B x X b q m p w0 w hA h
    rw [h]; exact this
  · have := in_fields_126 B x X b q m p w0 w hA h
    rw [h]; exact this
  · have := in_fields_127 B x X b q m p w0 w hA h
    rw [h]; exact this
end
end Go.Proofs.YtcbglcebdkpcfaaGreat

namespace Go.Proofs.YtcbglcebdkpcfaaGreat
section
open Go.RowKit
set_option maxRecDepth 100000
set_option linter.unusedVariables false

def zeroM : M := { ty := 0, tag := 0, msize := 0, version := ⟨#[]⟩, fid := 0, afid := 0, new := 0, uname := ⟨#[]⟩, aname := ⟨#[]⟩, ename := ⟨#[]⟩, old := 0, names := [], qids := [], qid := ⟨0, 0, 0⟩, iounit := 0, mode := 0, perm := 0, name := ⟨#[]⟩, offset := 0, count := 0, data := [], stat := zeroS }
def headM (l : List UInt8) : M := { zeroM with ty := tv 1 (l, 0), tag := tv 2 (rd 1 (l, 0)) }
def headR (l : List UInt8) : List UInt8 × Nat := rd 2 (rd 1 (l, 0))
def fieldsR (l : List UInt8) : Nat × (List UInt8 × Nat) × M := ins (slots (headM l).ty) (headR l) (headM l)
def isM (l : List UInt8) : Bool := decide ((headR l).2 = 0) && knownT (headM l).ty && decide ((fieldsR l).1 = 0) && decide (lt (fieldsR l).2.1 = 0)
def decM (l : List UInt8) : M := (fieldsR l).2.2
def MVal (w : World) (m : M) (v : Value) (B : Nat) : Prop := ∃ vN vQ vD, v = .agg (m.cells vN vQ vD) ∧ (StrsAt w vN m.names ∧ ∀ k, vN.ownBlock = some k → B ≤ k) ∧ (QidsAt w vQ m.qids ∧ ∀ k, vQ.ownBlock = some k → B ≤ k) ∧ (BytesAt w vD m.data ∧ ∀ k, vD.ownBlock = some k → B ≤ k)
def ReadM (w : World) (l : List UInt8) (e : Ending) (w' : World) : Prop :=
  Below w.heap.size w w' ∧ if isM l then ∃ v, e = .returned v ∧ MVal w' (decM l) v w.heap.size else ∃ err, err ≠ 0 ∧ e = .panicked (errChain err)

theorem nil_cells : zeroM.cells (.slice none 0 0) (.slice none 0 0) (.slice none 0 0) = #[.int .u8 0, .int .u16 0, .int .u32 0, .string ⟨#[]⟩, .int .u32 0, .int .u32 0, .int .u32 0, .string ⟨#[]⟩, .string ⟨#[]⟩, .string ⟨#[]⟩, .int .u16 0, .slice none 0 0, .slice none 0 0, .int .u8 0, .int .u32 0, .int .u64 0, .int .u32 0, .int .u8 0, .int .u32 0, .string ⟨#[]⟩, .int .u64 0, .int .u32 0, .slice none 0 0, .int .u16 0, .int .u32 0, .int .u8 0, .int .u32 0, .int .u64 0, .int .u32 0, .int .u32 0, .int .u32 0, .int .u64 0, .string ⟨#[]⟩, .string ⟨#[]⟩, .string ⟨#[]⟩, .string ⟨#[]⟩] := rfl

theorem rd_err2 {n k : Nat} {p : List UInt8 × Nat} (h : (rd k p).2 ≠ 0) : (rd n (rd k p)).2 = (rd k p).2 := by
  unfold rd restE; simp only
  rw [if_pos]
  exact h

theorem in_of_new (v : Value) (l : List UInt8) (w : World) (h : BytesAt w v l) (hl : l.length ≤ 1000000008) :
    Calls Tryz.prog 54 #[v] w fun e w' => ∃ b, e = .returned (.pointer (some ⟨b, 0, none⟩)) ∧ w.heap.size ≤ b ∧ InIs w' b l 0 ∧ Below w.heap.size w w' ∧ ∀ k, Foot w' b k → w.heap.size ≤ k := by
  go_enter Tryz.func54, Tryz.ntmps54
  go_wp2_with fail
  refine (clone_new v l w h hl).mono ?_
  rintro e w1 ⟨v1, rfl, ⟨h1, hnew⟩, hb1⟩
  obtain ⟨a, c, rfl, hc1, hc2, hc3⟩ := h1.form
  replace hnew := hid hnew
  go_wp2
  go_ret
  have h1' := h1.below ((Below.refl w1.heap.size w1).alloc (Nat.le_refl _) (.cells #[.slice a l.length c, .int .i64 0] 155))
  refine ⟨w1.heap.size, rfl, hb1.size, ⟨_, heap_alloc_new _ _, h1', ?_⟩, hb1.alloc hb1.size _, ?_⟩
  · intro he
    exact absurd (h1.lt he) (Nat.lt_irrefl _)
  · rintro k (rfl | ⟨u, hu, hk⟩)
    · exact hb1.size
    · rw [block_cell (heap_alloc_new _ _) 0] at hu
      cases hu
      exact hnew.out k hk

set_option maxHeartbeats 1600000 in
theorem mread_any (v : Value) (l : List UInt8) (w : World) (hv : BytesAt w v l) (hl : l.length ≤ 1000000000) : Calls Tryz.prog 77 #[v] w (ReadM w l) := by
  obtain ⟨a, c, rfl, _, _, _⟩ := hv.form
  obtain ⟨W0, hW0⟩ : ∃ W, W = (w.alloc (.cells (zeroM.cells (.slice none 0 0) (.slice none 0 0) (.slice none 0 0)) 41)).alloc (.cells (zeroM.cells (.slice none 0 0) (.slice none 0 0) (.slice none 0 0)) 41) := ⟨_, rfl⟩
  have hb0 : Below w.heap.size w W0 := by rw [hW0]; exact ((Below.refl w.heap.size w).alloc (Nat.le_refl _) _).alloc (by simp) _
  have hv0 := hv.below hb0
  have hr0 : W0.heap[w.heap.size]? = some (.cells (zeroM.cells (.slice none 0 0) (.slice none 0 0) (.slice none 0 0)) 41 (0, 0)) := by rw [hW0, heap_alloc_old _ _ (by simp), heap_alloc_new]
  have hq0 : W0.heap[w.heap.size + 1]? = some (.cells (zeroM.cells (.slice none 0 0) (.slice none 0 0) (.slice none 0 0)) 41 (0, 0)) := by rw [hW0]; exact heap2 _ _ _
  have hz0 : W0.heap.size = w.heap.size + 2 := by rw [hW0]; simp
  replace hr0 := hid hr0
  replace hq0 := hid hq0
  rw [nil_cells] at hW0
  have h1l := rd_le 1 (l, 0)
  have h2l := rd_le 2 (rd 1 (l, 0))
  go_enter Tryz.func77, Tryz.ntmps77
  go_wp2_with fail
  rw [← hW0]
  replace hW0 := hid hW0
  refine (in_of_new _ l _ hv0 (by omega)).mono ?_
  rintro e w1 ⟨b, rfl, hge, hi1, hb1, hnew⟩
  have hq1 := (hb1.block (w.heap.size + 1) (by omega)).trans hq0.out
  have hfq : ¬ Foot w1 b (w.heap.size + 1) := fun hf => by have := hnew _ hf; omega
  have hbx := (Below.refl w1.heap.size w1).alloc (Nat.le_refl _) (.cells #[.pointer (some ⟨b, 0, none⟩)] 170)
  have hA0 : IA (w.heap.size + 1) w1.heap.size (.cells #[.pointer (some ⟨b, 0, none⟩)] 170 (0, 0)) W0 (w1.alloc (.cells #[.pointer (some ⟨b, 0, none⟩)] 170)) b (w.heap.size + 1) zeroM (l, 0) := by
    have hs := OStep.pure hi1.lt hbx
    have hq2 := hs.block (w.heap.size + 1) (lt_of_block hq1) hfq
    exact ⟨hi1.below hbx, hq2.1.trans hq1, hq2.2, ⟨rfl, rfl, rfl⟩, hl, ⟨by omega, Nat.le_refl _⟩, ((hb1.mono (by omega)).trans (hbx.mono (by have := hb1.size; omega))), heap_alloc_new _ _, InIs.new hi1 _, by have := lt_of_block hq1; omega⟩
  have cx0 : (w1.alloc (.cells #[.pointer (some ⟨b, 0, none⟩)] 170)).cell? ⟨w1.heap.size, 0, none⟩ = some (.pointer (some ⟨b, 0, none⟩)) := block_cell hA0.box 0
  replace hA0 := hid hA0
  replace hbx := hid hbx
  have hltq : w.heap.size + 1 < w1.heap.size := lt_of_block hq1
  replace hq1 := hid hq1
  replace hnew := hid hnew
  have hbig : Hid (Below w.heap.size w W0) := hid hb0
  have hbb := hid (show ∀ w', Below (w.heap.size + 1) W0 w' → Below w.heap.size w w' from fun w' h => hb0.trans (h.mono (by omega)))
  have hno : ∀ w', isM l = false → Below (w.heap.size + 1) W0 w' → ∀ err, err ≠ 0 → ReadM w l (.panicked (errChain err)) w' := fun w' h1 h2 err h3 => ⟨hbb.out _ h2, by rw [h1]; exact ⟨err, h3, rfl⟩⟩
  replace hno := hid hno
  clear hv hv0 hb0 hb1 hi1
  by_cases e1 : (rd 1 (l, 0)).2 = 0
  case neg =>
    have hE : Hid (isM l = false) := hid (by
      have : (headR l).2 ≠ 0 := by unfold headR; rw [rd_err2 e1]; exact e1
      unfold isM; simp [this])
    have hbad := hid (in_u8_bad b (w.heap.size + 1) 0 (l, 0) _ hl hA0.out.inn e1)
    replace e1 := hid e1
    go_wp2_with fail
    refine hbad.out.mono ?_
    rintro e w2 ⟨rfl, hs⟩
    go_wp2_with fail
    exact ⟨rfl, hno.out _ hE.out (hA0.out.below.trans (hs.below.mono hA0.out.le.1)) _ e1.out⟩
  have hgood := hid (in_u8_ok b (w.heap.size + 1) 0 _ (l, 0) _ hl hA0.out.inn e1 hA0.out.foot (hA0.out.cell 0) (hA0.out.free 0))
  replace e1 := hid e1
  go_wp2_with fail
  refine hgood.out.mono ?_
  rintro e w2' ⟨rfl, w2, hs2, ha2, rfl⟩
  have hA1 := (hA0.out.step ha2 hs2 h1l).set (m2 := { zeroM with ty := tv 1 (l, 0) }) 0 (.int .u8 (tv 1 (l, 0) : Int)) rfl ⟨rfl, rfl, rfl⟩
  generalize w2.setCell ⟨w.heap.size + 1, 0, none⟩ (.int .u8 (tv 1 (l, 0) : Int)) = W2 at hA1 ⊢
  have cx1 : W2.cell? ⟨w1.heap.size, 0, none⟩ = some (.pointer (some ⟨b, 0, none⟩)) := block_cell hA1.box 0
  clear hs2 ha2 cx0 hgood
  replace hA1 := hid hA1
  by_cases e2 : (rd 2 (rd 1 (l, 0))).2 = 0
  case neg =>
    have hE : Hid (isM l = false) := hid (by
      have : (headR l).2 ≠ 0 := e2
      unfold isM; simp [this])
    have hbad := hid (in_u16_bad b (w.heap.size + 1) 1 _ _ hA1.out.len hA1.out.inn e2)
    replace e2 := hid e2
    go_wp2_with fail
    refine hbad.out.mono ?_
    rintro e w3 ⟨rfl, hs⟩
    go_wp2_with fail
    exact ⟨rfl, hno.out _ hE.out (hA1.out.below.trans (hs.below.mono hA1.out.le.1)) _ e2.out⟩
  have hgood := hid (in_u16_ok b (w.heap.size + 1) 1 _ _ _ hA1.out.len hA1.out.inn e2 hA1.out.foot (hA1.out.cell 1) (hA1.out.free 1))
  have hR0 : Hid ((headR l).2 = 0) := hid e2
  replace e2 := hid e2
  go_wp2_with fail
  refine hgood.out.mono ?_
  rintro e w3' ⟨rfl, w3, hs3, ha3, rfl⟩
  have hA2 : IA (w.heap.size + 1) w1.heap.size (.cells #[.pointer (some ⟨b, 0, none⟩)] 170 (0, 0)) W0 _ b (w.heap.size + 1) (headM l) (headR l) := (hA1.out.step ha3 hs3 h2l).set (m2 := headM l) 1 (.int .u16 (tv 2 (rd 1 (l, 0)) : Int)) rfl ⟨rfl, rfl, rfl⟩
  generalize w3.setCell ⟨w.heap.size + 1, 1, none⟩ (.int .u16 (tv 2 (rd 1 (l, 0)) : Int)) = W3 at hA2 ⊢
  have cx2 : W3.cell? ⟨w1.heap.size, 0, none⟩ = some (.pointer (some ⟨b, 0, none⟩)) := block_cell hA2.box 0
  have cq2 : W3.cell? ⟨w.heap.size + 1, 0, none⟩ = some (.int .u8 ((headM l).ty : Int)) := hA2.cell 0
  have hty : (headM l).ty < 256 := tv_lt 1 (l, 0) (by omega)
  clear hs3 ha3 cx1 hgood hA1 hA0
  replace hA2 := hid hA2
  by_cases hk : knownT (headM l).ty = true
  case neg =>
    have hk2 : knownT (headM l).ty = false := by simpa using hk
    have hE : Hid (isM l = false) := hid (by unfold isM; simp [hk2])
    have hkn := hid (known_any (headM l).ty W3 hty)
    rw [hk2] at hkn
    clear hk hk2
    go_wp2_with fail
    refine hkn.out.mono ?_
    rintro e w4 ⟨rfl, rfl⟩
    go_wp2_with fail
    exact ⟨rfl, hno.out _ hE.out hA2.out.below 2 (by omega)⟩
  have hkn := hid (known_any (headM l).ty W3 hty)
  have hkk := hid hk
  rw [hk] at hkn
  clear hk
  go_wp2_with fail
  refine hkn.out.mono ?_
  rintro e w4 ⟨rfl, rfl⟩
  go_wp2_with fail
  refine (in_fields_any _ _ _ b _ _ _ W0 _ hA2.out hkk.out).mono ?_
  rintro e w4 (⟨h1, rfl, hIE⟩ | ⟨h1, ⟨er, hr, rfl⟩, hb⟩)
  case inr =>
    have hE : Hid (isM l = false) := hid (by
      have : (fieldsR l).1 ≠ 0 := h1
      unfold isM; simp [this])
    clear h1 hA2
    replace hr := hid hr
    replace hb := hid hb
    go_wp2_with fail
    exact ⟨rfl, hno.out _ hE.out hb.out _ hr.out⟩
  have hF0 : Hid ((fieldsR l).1 = 0) := hid h1
  have hIE2 : IE (w.heap.size + 1) w1.heap.size (.cells #[.pointer (some ⟨b, 0, none⟩)] 170 (0, 0)) W0 w4 b (w.heap.size + 1) (decM l) (fieldsR l).2.1 := hIE
  clear h1 hIE hA2 cx2 cq2
  obtain ⟨vN, vQ, vD, hi4, hq4, ⟨hN, hN2⟩, ⟨hQ, hQ2⟩, ⟨hD, hD2⟩, hpl, hb4, hx4⟩ := hIE2
  have cx4 : w4.cell? ⟨w1.heap.size, 0, none⟩ = some (.pointer (some ⟨b, 0, none⟩)) := block_cell hx4 0
  have hr4 := hid ((hb4.block w.heap.size (by omega)).trans hr0.out)
  replace hq4 := hid hq4
  replace hN2 := hid hN2
  replace hQ2 := hid hQ2
  replace hD2 := hid hD2
  replace hb4 := hid hb4
  replace hx4 := hid hx4
  go_wp2_with fail
  have hlt9 : lt (fieldsR l).2.1 ≤ 1000000000 := by
    have h9 : lt (fieldsR l).2.1 ≤ (fieldsR l).2.1.1.length := by unfold lt leftN; split <;> omega
    omega
  refine (left_at b _ _ hi4).mono ?_
  rintro e w5 ⟨rfl, rfl⟩
  by_cases hl0 : lt (fieldsR l).2.1 = 0
  case neg =>
    have hE : Hid (isM l = false) := hid (by unfold isM; simp [hl0])
    have hl1 : 0 < lt (fieldsR l).2.1 := by omega
    clear hl0
    go_wp2_with fail
    exact ⟨rfl, hno.out _ hE.out hb4.out 2 (by omega)⟩
  have hE : Hid (isM l = true) := hid (by
    unfold isM; rw [hR0.out, hkk.out, hF0.out, hl0]; rfl)
  rw [hl0]
  clear hl0 hlt9
  generalize hmm : decM l = mm at *
  replace hmm := hid hmm
  obtain ⟨aN, cN, rfl, _, _⟩ := hN.form
  obtain ⟨aQ, cQ, rfl, _, _⟩ := hQ.form
  obtain ⟨aD, cD, rfl, _, _, _⟩ := hD.form
  go_wp2_with (first
    | (refine wpList_load_row (by rfl) 41 (.tmp 3) (by rfl) (w.heap.size + 1) (by rfl) 41 _ (0, 0) _ hq4.out Tryz.underlying41 (by rfl) (by kernel_rfl) ?_)
    | (refine wpList_store_row (by rfl) 41 (.tmp 2) (.tmp 27) (by rfl) w.heap.size _ (by rfl) (by rfl) 41 _ hr4.out (by kernel_rfl) (by kernel_rfl) (by kernel_rfl) ?_))
  have hr5 := hid (setRow_heap _ _ _ (mm.cells (.slice aN mm.names.length cN) (.slice aQ mm.qids.length cQ) (.slice aD mm.data.length cD)) _ _ hr4.out)
  refine bodyPost_ret (results_cell_row rfl _ _ w.heap.size _ _ _ _ rfl hr5.out Tryz.underlying41 rfl (by kernel_rfl)) rfl ?_
  have hkeep : ∀ k, w.heap.size + 1 ≤ k → (w4.setRow w.heap.size (mm.cells (.slice aN mm.names.length cN) (.slice aQ mm.qids.length cQ) (.slice aD mm.data.length cD))).heap[k]? = w4.heap[k]? := fun k hk => setRow_other _ _ _ _ (by omega)
  refine ⟨below_setRow (hbb.out _ hb4.out) (Nat.le_refl _) _, ?_⟩
  rw [hE.out, if_pos rfl]
  refine ⟨_, rfl, _, _, _, by rw [hmm.out], ⟨?_, fun k hk => by have := hN2.out k hk; omega⟩, ⟨?_, fun k hk => by have := hQ2.out k hk; omega⟩, ⟨?_, fun k hk => by have := hD2.out k hk; omega⟩⟩
  · rw [hmm.out]; exact RowAt.other hN (by simp) fun j hj => hkeep j (hN2.out j hj)
  · rw [hmm.out]; exact RowAt.other hQ (by simp) fun j hj => hkeep j (hQ2.out j hj)
  · rw [hmm.out]; exact RowAt.other hD (by simp) fun j hj => hkeep j (hD2.out j hj)
end
end Go.Proofs.YtcbglcebdkpcfaaGreat
