/- What fields of msg reads, types 118, 119, 120, 122, 124, 125, 126, 109, 121, 123, 127. Conditions: bounds on lengths. -/
import Derived.Test.YtonhliipbdniiaaBunI
namespace Go.Proofs.Ytonhliipbdniiaa
open Go.RowKit
set_option maxRecDepth 100000
set_option linter.unusedVariables false

set_option maxHeartbeats 1600000 in
theorem in_files_118 (B x : Nat) (X : Obj) (b q : Nat) (m : M) (p : List UInt8 × Nat) (w0 w : World) (hA : IA B x X w0 w b q m p) (ht : m.ty = 118) :
    Calls Try.prog 85 #[.iface 167 (.agg #[.pointer (some ⟨b, 0, none⟩)]), .pointer (some ⟨q, 0, none⟩)] w (IDo B x X w0 b q (ins [.fid, .offset, .data] p m)) := by
  have n0 := nil_i_u32
  have m0 := met_i_u32
  have n1 := nil_i_u64
  have m1 := met_i_u64
  have n2 := nil_i_data
  have m2 := met_i_data
  have c0 : w.cell? ⟨q, 0, none⟩ = some (.int .u8 118) := by rw [hA.cell 0]; show some (Value.int .u8 (m.ty : Int)) = _; rw [ht]; rfl
  replace hA := hid hA
  clear ht
  go_enter Try.func85, Try.ntmps85
  go_wp2_with fail
  rcases Nat.eq_zero_or_pos (Slot.i p m .fid).1 with he0 | he0
  case inr =>
    have he0b : (Slot.i p m .fid).1 ≠ 0 := by omega
    clear he0
    have k0 := hid (i_fid_bad B x X b q m p w0 w.drew hA.out.drew he0b)
    replace he0b := hid he0b
    go_region_with (go_at_call 168; refine k0.out.mono ?_; rintro e w1 ⟨⟨er0, hr0, rfl⟩, hs0⟩; refine fakeAny ⟨rfl, IDo_bad he0b.out ⟨⟨_, hr0, rfl⟩, hs0⟩⟩ ?_)
    all_goals trivial
  have k0 := hid (i_fid B x X b q m p w0 w.drew hA.out.drew he0)
  replace he0 := hid he0
  go_region_with (go_at_call 168; refine k0.out.mono ?_; rintro e w1 ⟨rfl, hA1⟩)
  have hB1 := hid (fun e w' (h : IDo B x X w0 b q (ins [.offset, .data] (Slot.i p m .fid).2.1 (Slot.i p m .fid).2.2) e w') => IDo_cons he0.out h)
  replace hA1 := hid hA1
  clear k0
  generalize (Slot.i p m .fid).2.1 = p1 at *
  generalize (Slot.i p m .fid).2.2 = m1 at *
  go_wp2_with fail
  rcases Nat.eq_zero_or_pos (Slot.i p1 m1 .offset).1 with he1 | he1
  case inr =>
    have he1b : (Slot.i p1 m1 .offset).1 ≠ 0 := by omega
    clear he1
    have k1 := hid (i_offset_bad B x X b q m1 p1 w0 w1.drew hA1.out.drew he1b)
    replace he1b := hid he1b
    go_region_with (go_at_call 169; refine k1.out.mono ?_; rintro e w2 ⟨⟨er1, hr1, rfl⟩, hs1⟩; refine fakeAny ⟨rfl, hB1.out _ _ (IDo_bad he1b.out ⟨⟨_, hr1, rfl⟩, hs1⟩)⟩ ?_)
    all_goals trivial
  have k1 := hid (i_offset B x X b q m1 p1 w0 w1.drew hA1.out.drew he1)
  replace he1 := hid he1
  go_region_with (go_at_call 169; refine k1.out.mono ?_; rintro e w2 ⟨rfl, hA2⟩)
  have hB2 := hid (fun e w' (h : IDo B x X w0 b q (ins [.data] (Slot.i p1 m1 .offset).2.1 (Slot.i p1 m1 .offset).2.2) e w') => hB1.out _ _ (IDo_cons he1.out h))
  replace hA2 := hid hA2
  clear k1
  generalize (Slot.i p1 m1 .offset).2.1 = p2 at *
  generalize (Slot.i p1 m1 .offset).2.2 = m2 at *
  go_wp2_with fail
  rcases Nat.eq_zero_or_pos (Slot.i p2 m2 .data).1 with he2 | he2
  case inr =>
    have he2b : (Slot.i p2 m2 .data).1 ≠ 0 := by omega
    clear he2
    have k2 := hid (i_data_bad B x X b q m2 p2 w0 w2.drew hA2.out.drew he2b)
    replace he2b := hid he2b
    go_region_with (go_at_call 162; refine k2.out.mono ?_; rintro e w3 ⟨⟨er2, hr2, rfl⟩, hs2⟩; refine fakeAny ⟨rfl, hB2.out _ _ (IDo_bad he2b.out ⟨⟨_, hr2, rfl⟩, hs2⟩)⟩ ?_)
    all_goals trivial
  have k2 := hid (i_data B x X b q m2 p2 w0 w2.drew hA2.out.drew he2)
  replace he2 := hid he2
  go_region_with (go_at_call 162; refine k2.out.mono ?_; rintro e w3 ⟨rfl, hA3⟩)
  go_wp2_with fail
  go_end0
  exact hB2.out _ _ (IDo_last he2.out ⟨rfl, hA3⟩)

set_option maxHeartbeats 1600000 in
theorem in_files_119 (B x : Nat) (X : Obj) (b q : Nat) (m : M) (p : List UInt8 × Nat) (w0 w : World) (hA : IA B x X w0 w b q m p) (ht : m.ty = 119) :
    Calls Try.prog 85 #[.iface 167 (.agg #[.pointer (some ⟨b, 0, none⟩)]), .pointer (some ⟨q, 0, none⟩)] w (IDo B x X w0 b q (ins [.count] p m)) := by
  have n0 := nil_i_u32
  have m0 := met_i_u32
  have c0 : w.cell? ⟨q, 0, none⟩ = some (.int .u8 119) := by rw [hA.cell 0]; show some (Value.int .u8 (m.ty : Int)) = _; rw [ht]; rfl
  replace hA := hid hA
  clear ht
  go_enter Try.func85, Try.ntmps85
  go_wp2_with fail
  rcases Nat.eq_zero_or_pos (Slot.i p m .count).1 with he0 | he0
  case inr =>
    have he0b : (Slot.i p m .count).1 ≠ 0 := by omega
    clear he0
    have k0 := hid (i_count_bad B x X b q m p w0 w.drew hA.out.drew he0b)
    replace he0b := hid he0b
    go_region_with (go_at_call 168; refine k0.out.mono ?_; rintro e w1 ⟨⟨er0, hr0, rfl⟩, hs0⟩; refine fakeAny ⟨rfl, IDo_bad he0b.out ⟨⟨_, hr0, rfl⟩, hs0⟩⟩ ?_)
    all_goals trivial
  have k0 := hid (i_count B x X b q m p w0 w.drew hA.out.drew he0)
  replace he0 := hid he0
  go_region_with (go_at_call 168; refine k0.out.mono ?_; rintro e w1 ⟨rfl, hA1⟩)
  have hB1 := hid (fun e w' (h : IDo B x X w0 b q (ins [] (Slot.i p m .count).2.1 (Slot.i p m .count).2.2) e w') => IDo_cons he0.out h)
  replace hA1 := hid hA1
  clear k0
  generalize (Slot.i p m .count).2.1 = p1 at *
  generalize (Slot.i p m .count).2.2 = m1 at *
  go_wp2_with fail
  go_end0
  exact hB1.out _ _ (IDo_nil rfl hA1.out)

set_option maxHeartbeats 1600000 in
theorem in_files_120 (B x : Nat) (X : Obj) (b q : Nat) (m : M) (p : List UInt8 × Nat) (w0 w : World) (hA : IA B x X w0 w b q m p) (ht : m.ty = 120) :
    Calls Try.prog 85 #[.iface 167 (.agg #[.pointer (some ⟨b, 0, none⟩)]), .pointer (some ⟨q, 0, none⟩)] w (IDo B x X w0 b q (ins [.fid] p m)) := by
  have n0 := nil_i_u32
  have m0 := met_i_u32
  have c0 : w.cell? ⟨q, 0, none⟩ = some (.int .u8 120) := by rw [hA.cell 0]; show some (Value.int .u8 (m.ty : Int)) = _; rw [ht]; rfl
  replace hA := hid hA
  clear ht
  go_enter Try.func85, Try.ntmps85
  go_wp2_with fail
  rcases Nat.eq_zero_or_pos (Slot.i p m .fid).1 with he0 | he0
  case inr =>
    have he0b : (Slot.i p m .fid).1 ≠ 0 := by omega
    clear he0
    have k0 := hid (i_fid_bad B x X b q m p w0 w.drew hA.out.drew he0b)
    replace he0b := hid he0b
    go_region_with (go_at_call 168; refine k0.out.mono ?_; rintro e w1 ⟨⟨er0, hr0, rfl⟩, hs0⟩; refine fakeAny ⟨rfl, IDo_bad he0b.out ⟨⟨_, hr0, rfl⟩, hs0⟩⟩ ?_)
    all_goals trivial
  have k0 := hid (i_fid B x X b q m p w0 w.drew hA.out.drew he0)
  replace he0 := hid he0
  go_region_with (go_at_call 168; refine k0.out.mono ?_; rintro e w1 ⟨rfl, hA1⟩)
  have hB1 := hid (fun e w' (h : IDo B x X w0 b q (ins [] (Slot.i p m .fid).2.1 (Slot.i p m .fid).2.2) e w') => IDo_cons he0.out h)
  replace hA1 := hid hA1
  clear k0
  generalize (Slot.i p m .fid).2.1 = p1 at *
  generalize (Slot.i p m .fid).2.2 = m1 at *
  go_wp2_with fail
  go_end0
  exact hB1.out _ _ (IDo_nil rfl hA1.out)

set_option maxHeartbeats 1600000 in
theorem in_files_122 (B x : Nat) (X : Obj) (b q : Nat) (m : M) (p : List UInt8 × Nat) (w0 w : World) (hA : IA B x X w0 w b q m p) (ht : m.ty = 122) :
    Calls Try.prog 85 #[.iface 167 (.agg #[.pointer (some ⟨b, 0, none⟩)]), .pointer (some ⟨q, 0, none⟩)] w (IDo B x X w0 b q (ins [.fid] p m)) := by
  have n0 := nil_i_u32
  have m0 := met_i_u32
  have c0 : w.cell? ⟨q, 0, none⟩ = some (.int .u8 122) := by rw [hA.cell 0]; show some (Value.int .u8 (m.ty : Int)) = _; rw [ht]; rfl
  replace hA := hid hA
  clear ht
  go_enter Try.func85, Try.ntmps85
  go_wp2_with fail
  rcases Nat.eq_zero_or_pos (Slot.i p m .fid).1 with he0 | he0
  case inr =>
    have he0b : (Slot.i p m .fid).1 ≠ 0 := by omega
    clear he0
    have k0 := hid (i_fid_bad B x X b q m p w0 w.drew hA.out.drew he0b)
    replace he0b := hid he0b
    go_region_with (go_at_call 168; refine k0.out.mono ?_; rintro e w1 ⟨⟨er0, hr0, rfl⟩, hs0⟩; refine fakeAny ⟨rfl, IDo_bad he0b.out ⟨⟨_, hr0, rfl⟩, hs0⟩⟩ ?_)
    all_goals trivial
  have k0 := hid (i_fid B x X b q m p w0 w.drew hA.out.drew he0)
  replace he0 := hid he0
  go_region_with (go_at_call 168; refine k0.out.mono ?_; rintro e w1 ⟨rfl, hA1⟩)
  have hB1 := hid (fun e w' (h : IDo B x X w0 b q (ins [] (Slot.i p m .fid).2.1 (Slot.i p m .fid).2.2) e w') => IDo_cons he0.out h)
  replace hA1 := hid hA1
  clear k0
  generalize (Slot.i p m .fid).2.1 = p1 at *
  generalize (Slot.i p m .fid).2.2 = m1 at *
  go_wp2_with fail
  go_end0
  exact hB1.out _ _ (IDo_nil rfl hA1.out)

set_option maxHeartbeats 1600000 in
theorem in_files_124 (B x : Nat) (X : Obj) (b q : Nat) (m : M) (p : List UInt8 × Nat) (w0 w : World) (hA : IA B x X w0 w b q m p) (ht : m.ty = 124) :
    Calls Try.prog 85 #[.iface 167 (.agg #[.pointer (some ⟨b, 0, none⟩)]), .pointer (some ⟨q, 0, none⟩)] w (IDo B x X w0 b q (ins [.fid] p m)) := by
  have n0 := nil_i_u32
  have m0 := met_i_u32
  have c0 : w.cell? ⟨q, 0, none⟩ = some (.int .u8 124) := by rw [hA.cell 0]; show some (Value.int .u8 (m.ty : Int)) = _; rw [ht]; rfl
  replace hA := hid hA
  clear ht
  go_enter Try.func85, Try.ntmps85
  go_wp2_with fail
  rcases Nat.eq_zero_or_pos (Slot.i p m .fid).1 with he0 | he0
  case inr =>
    have he0b : (Slot.i p m .fid).1 ≠ 0 := by omega
    clear he0
    have k0 := hid (i_fid_bad B x X b q m p w0 w.drew hA.out.drew he0b)
    replace he0b := hid he0b
    go_region_with (go_at_call 168; refine k0.out.mono ?_; rintro e w1 ⟨⟨er0, hr0, rfl⟩, hs0⟩; refine fakeAny ⟨rfl, IDo_bad he0b.out ⟨⟨_, hr0, rfl⟩, hs0⟩⟩ ?_)
    all_goals trivial
  have k0 := hid (i_fid B x X b q m p w0 w.drew hA.out.drew he0)
  replace he0 := hid he0
  go_region_with (go_at_call 168; refine k0.out.mono ?_; rintro e w1 ⟨rfl, hA1⟩)
  have hB1 := hid (fun e w' (h : IDo B x X w0 b q (ins [] (Slot.i p m .fid).2.1 (Slot.i p m .fid).2.2) e w') => IDo_cons he0.out h)
  replace hA1 := hid hA1
  clear k0
  generalize (Slot.i p m .fid).2.1 = p1 at *
  generalize (Slot.i p m .fid).2.2 = m1 at *
  go_wp2_with fail
  go_end0
  exact hB1.out _ _ (IDo_nil rfl hA1.out)

set_option maxHeartbeats 1600000 in
theorem in_files_125 (B x : Nat) (X : Obj) (b q : Nat) (m : M) (p : List UInt8 × Nat) (w0 w : World) (hA : IA B x X w0 w b q m p) (ht : m.ty = 125) :
    Calls Try.prog 85 #[.iface 167 (.agg #[.pointer (some ⟨b, 0, none⟩)]), .pointer (some ⟨q, 0, none⟩)] w (IDo B x X w0 b q (ins [.stat] p m)) := by
  have n0 := nil_i_stat
  have m0 := met_i_stat
  have c0 : w.cell? ⟨q, 0, none⟩ = some (.int .u8 125) := by rw [hA.cell 0]; show some (Value.int .u8 (m.ty : Int)) = _; rw [ht]; rfl
  replace hA := hid hA
  clear ht
  go_enter Try.func85, Try.ntmps85
  go_wp2_with fail
  rcases Nat.eq_zero_or_pos (Slot.i p m .stat).1 with he0 | he0
  case inr =>
    have he0b : (Slot.i p m .stat).1 ≠ 0 := by omega
    clear he0
    have k0 := hid (i_stat_bad B x X b q m p w0 w.drew hA.out.drew he0b)
    replace he0b := hid he0b
    go_region_with (go_at_call 165; refine k0.out.mono ?_; rintro e w1 ⟨⟨er0, hr0, rfl⟩, hs0⟩; refine fakeAny ⟨rfl, IDo_bad he0b.out ⟨⟨_, hr0, rfl⟩, hs0⟩⟩ ?_)
    all_goals trivial
  have k0 := hid (i_stat B x X b q m p w0 w.drew hA.out.drew he0)
  replace he0 := hid he0
  go_region_with (go_at_call 165; refine k0.out.mono ?_; rintro e w1 ⟨rfl, hA1⟩)
  have hB1 := hid (fun e w' (h : IDo B x X w0 b q (ins [] (Slot.i p m .stat).2.1 (Slot.i p m .stat).2.2) e w') => IDo_cons he0.out h)
  replace hA1 := hid hA1
  clear k0
  generalize (Slot.i p m .stat).2.1 = p1 at *
  generalize (Slot.i p m .stat).2.2 = m1 at *
  go_wp2_with fail
  go_end0
  exact hB1.out _ _ (IDo_nil rfl hA1.out)

set_option maxHeartbeats 1600000 in
theorem in_files_126 (B x : Nat) (X : Obj) (b q : Nat) (m : M) (p : List UInt8 × Nat) (w0 w : World) (hA : IA B x X w0 w b q m p) (ht : m.ty = 126) :
    Calls Try.prog 85 #[.iface 167 (.agg #[.pointer (some ⟨b, 0, none⟩)]), .pointer (some ⟨q, 0, none⟩)] w (IDo B x X w0 b q (ins [.fid, .stat] p m)) := by
  have n0 := nil_i_u32
  have m0 := met_i_u32
  have n1 := nil_i_stat
  have m1 := met_i_stat
  have c0 : w.cell? ⟨q, 0, none⟩ = some (.int .u8 126) := by rw [hA.cell 0]; show some (Value.int .u8 (m.ty : Int)) = _; rw [ht]; rfl
  replace hA := hid hA
  clear ht
  go_enter Try.func85, Try.ntmps85
  go_wp2_with fail
  rcases Nat.eq_zero_or_pos (Slot.i p m .fid).1 with he0 | he0
  case inr =>
    have he0b : (Slot.i p m .fid).1 ≠ 0 := by omega
    clear he0
    have k0 := hid (i_fid_bad B x X b q m p w0 w.drew hA.out.drew he0b)
    replace he0b := hid he0b
    go_region_with (go_at_call 168; refine k0.out.mono ?_; rintro e w1 ⟨⟨er0, hr0, rfl⟩, hs0⟩; refine fakeAny ⟨rfl, IDo_bad he0b.out ⟨⟨_, hr0, rfl⟩, hs0⟩⟩ ?_)
    all_goals trivial
  have k0 := hid (i_fid B x X b q m p w0 w.drew hA.out.drew he0)
  replace he0 := hid he0
  go_region_with (go_at_call 168; refine k0.out.mono ?_; rintro e w1 ⟨rfl, hA1⟩)
  have hB1 := hid (fun e w' (h : IDo B x X w0 b q (ins [.stat] (Slot.i p m .fid).2.1 (Slot.i p m .fid).2.2) e w') => IDo_cons he0.out h)
  replace hA1 := hid hA1
  clear k0
  generalize (Slot.i p m .fid).2.1 = p1 at *
  generalize (Slot.i p m .fid).2.2 = m1 at *
  go_wp2_with fail
  rcases Nat.eq_zero_or_pos (Slot.i p1 m1 .stat).1 with he1 | he1
  case inr =>
    have he1b : (Slot.i p1 m1 .stat).1 ≠ 0 := by omega
    clear he1
    have k1 := hid (i_stat_bad B x X b q m1 p1 w0 w1.drew hA1.out.drew he1b)
    replace he1b := hid he1b
    go_region_with (go_at_call 165; refine k1.out.mono ?_; rintro e w2 ⟨⟨er1, hr1, rfl⟩, hs1⟩; refine fakeAny ⟨rfl, hB1.out _ _ (IDo_bad he1b.out ⟨⟨_, hr1, rfl⟩, hs1⟩)⟩ ?_)
    all_goals trivial
  have k1 := hid (i_stat B x X b q m1 p1 w0 w1.drew hA1.out.drew he1)
  replace he1 := hid he1
  go_region_with (go_at_call 165; refine k1.out.mono ?_; rintro e w2 ⟨rfl, hA2⟩)
  have hB2 := hid (fun e w' (h : IDo B x X w0 b q (ins [] (Slot.i p1 m1 .stat).2.1 (Slot.i p1 m1 .stat).2.2) e w') => hB1.out _ _ (IDo_cons he1.out h))
  replace hA2 := hid hA2
  clear k1
  generalize (Slot.i p1 m1 .stat).2.1 = p2 at *
  generalize (Slot.i p1 m1 .stat).2.2 = m2 at *
  go_wp2_with fail
  go_end0
  exact hB2.out _ _ (IDo_nil rfl hA2.out)

set_option maxHeartbeats 1600000 in
theorem in_files_109 (B x : Nat) (X : Obj) (b q : Nat) (m : M) (p : List UInt8 × Nat) (w0 w : World) (hA : IA B x X w0 w b q m p) (ht : m.ty = 109) :
    Calls Try.prog 85 #[.iface 167 (.agg #[.pointer (some ⟨b, 0, none⟩)]), .pointer (some ⟨q, 0, none⟩)] w (IDo B x X w0 b q (ins [] p m)) := by
  have c0 : w.cell? ⟨q, 0, none⟩ = some (.int .u8 109) := by rw [hA.cell 0]; show some (Value.int .u8 (m.ty : Int)) = _; rw [ht]; rfl
  replace hA := hid hA
  clear ht
  go_enter Try.func85, Try.ntmps85
  go_wp2_with fail
  go_end0
  exact IDo_nil rfl hA.out

set_option maxHeartbeats 1600000 in
theorem in_files_121 (B x : Nat) (X : Obj) (b q : Nat) (m : M) (p : List UInt8 × Nat) (w0 w : World) (hA : IA B x X w0 w b q m p) (ht : m.ty = 121) :
    Calls Try.prog 85 #[.iface 167 (.agg #[.pointer (some ⟨b, 0, none⟩)]), .pointer (some ⟨q, 0, none⟩)] w (IDo B x X w0 b q (ins [] p m)) := by
  have c0 : w.cell? ⟨q, 0, none⟩ = some (.int .u8 121) := by rw [hA.cell 0]; show some (Value.int .u8 (m.ty : Int)) = _; rw [ht]; rfl
  replace hA := hid hA
  clear ht
  go_enter Try.func85, Try.ntmps85
  go_wp2_with fail
  go_end0
  exact IDo_nil rfl hA.out

set_option maxHeartbeats 1600000 in
theorem in_files_123 (B x : Nat) (X : Obj) (b q : Nat) (m : M) (p : List UInt8 × Nat) (w0 w : World) (hA : IA B x X w0 w b q m p) (ht : m.ty = 123) :
    Calls Try.prog 85 #[.iface 167 (.agg #[.pointer (some ⟨b, 0, none⟩)]), .pointer (some ⟨q, 0, none⟩)] w (IDo B x X w0 b q (ins [] p m)) := by
  have c0 : w.cell? ⟨q, 0, none⟩ = some (.int .u8 123) := by rw [hA.cell 0]; show some (Value.int .u8 (m.ty : Int)) = _; rw [ht]; rfl
  replace hA := hid hA
  clear ht
  go_enter Try.func85, Try.ntmps85
  go_wp2_with fail
  go_end0
  exact IDo_nil rfl hA.out

set_option maxHeartbeats 1600000 in
theorem in_files_127 (B x : Nat) (X : Obj) (b q : Nat) (m : M) (p : List UInt8 × Nat) (w0 w : World) (hA : IA B x X w0 w b q m p) (ht : m.ty = 127) :
    Calls Try.prog 85 #[.iface 167 (.agg #[.pointer (some ⟨b, 0, none⟩)]), .pointer (some ⟨q, 0, none⟩)] w (IDo B x X w0 b q (ins [] p m)) := by
  have c0 : w.cell? ⟨q, 0, none⟩ = some (.int .u8 127) := by rw [hA.cell 0]; show some (Value.int .u8 (m.ty : Int)) = _; rw [ht]; rfl
  replace hA := hid hA
  clear ht
  go_enter Try.func85, Try.ntmps85
  go_wp2_with fail
  go_end0
  exact IDo_nil rfl hA.out
end Go.Proofs.Ytonhliipbdniiaa
