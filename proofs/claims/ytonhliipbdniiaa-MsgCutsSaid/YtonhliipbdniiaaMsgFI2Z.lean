/- What fields of msg reads, types 112, 113, 114, 115, 116, 117. Conditions: bounds on lengths. -/
import Derived.Test.YtonhliipbdniiaaBunI
namespace Go.Proofs.Ytonhliipbdniiaa
open Go.RowKit
set_option maxRecDepth 100000
set_option linter.unusedVariables false

set_option maxHeartbeats 1600000 in
theorem in_files_112 (B x : Nat) (X : Obj) (b q : Nat) (m : M) (p : List UInt8 × Nat) (w0 w : World) (hA : IA B x X w0 w b q m p) (ht : m.ty = 112) :
    Calls Try.prog 85 #[.iface 167 (.agg #[.pointer (some ⟨b, 0, none⟩)]), .pointer (some ⟨q, 0, none⟩)] w (IDo B x X w0 b q (ins [.fid, .mode] p m)) := by
  have n0 := nil_i_u32
  have m0 := met_i_u32
  have n1 := nil_i_u8
  have m1 := met_i_u8
  have c0 : w.cell? ⟨q, 0, none⟩ = some (.int .u8 112) := by rw [hA.cell 0]; show some (Value.int .u8 (m.ty : Int)) = _; rw [ht]; rfl
  replace hA := hid hA
  clear ht
  go_enter Try.func85, Try.ntmps85
  go_wp2_with fail
  rcases Nat.eq_zero_or_pos (Slot.i p m .fid).1 with he0 | he0
  case inr =>
    have he0b : (Slot.i p m .fid).1 ≠ 0 := by omega
    clear he0
    have k0 := hid (i_fid_bad B x X b q m p w0 w.drew hA.out.drew he0b)
    replace he0b := hid he0b
    go_region_with (go_at_call 168; refine k0.out.mono ?_; rintro e w1 ⟨⟨er0, hr0, rfl⟩, hs0⟩; refine fakeAny ⟨rfl, IDo_bad he0b.out ⟨⟨_, hr0, rfl⟩, hs0⟩⟩ ?_)
    all_goals trivial
  have k0 := hid (i_fid B x X b q m p w0 w.drew hA.out.drew he0)
  replace he0 := hid he0
  go_region_with (go_at_call 168; refine k0.out.mono ?_; rintro e w1 ⟨rfl, hA1⟩)
  have hB1 := hid (fun e w' (h : IDo B x X w0 b q (ins [.mode] (Slot.i p m .fid).2.1 (Slot.i p m .fid).2.2) e w') => IDo_cons he0.out h)
  replace hA1 := hid hA1
  clear k0
  generalize (Slot.i p m .fid).2.1 = p1 at *
  generalize (Slot.i p m .fid).2.2 = m1 at *
  go_wp2_with fail
  rcases Nat.eq_zero_or_pos (Slot.i p1 m1 .mode).1 with he1 | he1
  case inr =>
    have he1b : (Slot.i p1 m1 .mode).1 ≠ 0 := by omega
    clear he1
    have k1 := hid (i_mode_bad B x X b q m1 p1 w0 w1.drew hA1.out.drew he1b)
    replace he1b := hid he1b
    go_region_with (go_at_call 100; refine k1.out.mono ?_; rintro e w2 ⟨⟨er1, hr1, rfl⟩, hs1⟩; refine fakeAny ⟨rfl, hB1.out _ _ (IDo_bad he1b.out ⟨⟨_, hr1, rfl⟩, hs1⟩)⟩ ?_)
    all_goals trivial
  have k1 := hid (i_mode B x X b q m1 p1 w0 w1.drew hA1.out.drew he1)
  replace he1 := hid he1
  go_region_with (go_at_call 100; refine k1.out.mono ?_; rintro e w2 ⟨rfl, hA2⟩)
  have hB2 := hid (fun e w' (h : IDo B x X w0 b q (ins [] (Slot.i p1 m1 .mode).2.1 (Slot.i p1 m1 .mode).2.2) e w') => hB1.out _ _ (IDo_cons he1.out h))
  replace hA2 := hid hA2
  clear k1
  generalize (Slot.i p1 m1 .mode).2.1 = p2 at *
  generalize (Slot.i p1 m1 .mode).2.2 = m2 at *
  go_wp2_with fail
  go_end0
  exact hB2.out _ _ (IDo_nil rfl hA2.out)

set_option maxHeartbeats 1600000 in
theorem in_files_113 (B x : Nat) (X : Obj) (b q : Nat) (m : M) (p : List UInt8 × Nat) (w0 w : World) (hA : IA B x X w0 w b q m p) (ht : m.ty = 113) :
    Calls Try.prog 85 #[.iface 167 (.agg #[.pointer (some ⟨b, 0, none⟩)]), .pointer (some ⟨q, 0, none⟩)] w (IDo B x X w0 b q (ins [.qid, .iounit] p m)) := by
  have n0 := nil_i_qid
  have m0 := met_i_qid
  have n1 := nil_i_u32
  have m1 := met_i_u32
  have c0 : w.cell? ⟨q, 0, none⟩ = some (.int .u8 113) := by rw [hA.cell 0]; show some (Value.int .u8 (m.ty : Int)) = _; rw [ht]; rfl
  replace hA := hid hA
  clear ht
  go_enter Try.func85, Try.ntmps85
  go_wp2_with fail
  rcases Nat.eq_zero_or_pos (Slot.i p m .qid).1 with he0 | he0
  case inr =>
    have he0b : (Slot.i p m .qid).1 ≠ 0 := by omega
    clear he0
    have k0 := hid (i_qid_bad B x X b q m p w0 w.drew hA.out.drew he0b)
    replace he0b := hid he0b
    go_region_with (go_at_call 163; refine k0.out.mono ?_; rintro e w1 ⟨⟨er0, hr0, rfl⟩, hs0⟩; refine fakeAny ⟨rfl, IDo_bad he0b.out ⟨⟨_, hr0, rfl⟩, hs0⟩⟩ ?_)
    all_goals trivial
  have k0 := hid (i_qid B x X b q m p w0 w.drew hA.out.drew he0)
  replace he0 := hid he0
  go_region_with (go_at_call 163; refine k0.out.mono ?_; rintro e w1 ⟨rfl, hA1⟩)
  have hB1 := hid (fun e w' (h : IDo B x X w0 b q (ins [.iounit] (Slot.i p m .qid).2.1 (Slot.i p m .qid).2.2) e w') => IDo_cons he0.out h)
  replace hA1 := hid hA1
  clear k0
  generalize (Slot.i p m .qid).2.1 = p1 at *
  generalize (Slot.i p m .qid).2.2 = m1 at *
  go_wp2_with fail
  rcases Nat.eq_zero_or_pos (Slot.i p1 m1 .iounit).1 with he1 | he1
  case inr =>
    have he1b : (Slot.i p1 m1 .iounit).1 ≠ 0 := by omega
    clear he1
    have k1 := hid (i_iounit_bad B x X b q m1 p1 w0 w1.drew hA1.out.drew he1b)
    replace he1b := hid he1b
    go_region_with (go_at_call 168; refine k1.out.mono ?_; rintro e w2 ⟨⟨er1, hr1, rfl⟩, hs1⟩; refine fakeAny ⟨rfl, hB1.out _ _ (IDo_bad he1b.out ⟨⟨_, hr1, rfl⟩, hs1⟩)⟩ ?_)
    all_goals trivial
  have k1 := hid (i_iounit B x X b q m1 p1 w0 w1.drew hA1.out.drew he1)
  replace he1 := hid he1
  go_region_with (go_at_call 168; refine k1.out.mono ?_; rintro e w2 ⟨rfl, hA2⟩)
  have hB2 := hid (fun e w' (h : IDo B x X w0 b q (ins [] (Slot.i p1 m1 .iounit).2.1 (Slot.i p1 m1 .iounit).2.2) e w') => hB1.out _ _ (IDo_cons he1.out h))
  replace hA2 := hid hA2
  clear k1
  generalize (Slot.i p1 m1 .iounit).2.1 = p2 at *
  generalize (Slot.i p1 m1 .iounit).2.2 = m2 at *
  go_wp2_with fail
  go_end0
  exact hB2.out _ _ (IDo_nil rfl hA2.out)

set_option maxHeartbeats 1600000 in
theorem in_files_114 (B x : Nat) (X : Obj) (b q : Nat) (m : M) (p : List UInt8 × Nat) (w0 w : World) (hA : IA B x X w0 w b q m p) (ht : m.ty = 114) :
    Calls Try.prog 85 #[.iface 167 (.agg #[.pointer (some ⟨b, 0, none⟩)]), .pointer (some ⟨q, 0, none⟩)] w (IDo B x X w0 b q (ins [.fid, .name, .perm, .mode] p m)) := by
  have n0 := nil_i_u32
  have m0 := met_i_u32
  have n1 := nil_i_text
  have m1 := met_i_text
  have n2 := nil_i_u8
  have m2 := met_i_u8
  have c0 : w.cell? ⟨q, 0, none⟩ = some (.int .u8 114) := by rw [hA.cell 0]; show some (Value.int .u8 (m.ty : Int)) = _; rw [ht]; rfl
  replace hA := hid hA
  clear ht
  go_enter Try.func85, Try.ntmps85
  go_wp2_with fail
  rcases Nat.eq_zero_or_pos (Slot.i p m .fid).1 with he0 | he0
  case inr =>
    have he0b : (Slot.i p m .fid).1 ≠ 0 := by omega
    clear he0
    have k0 := hid (i_fid_bad B x X b q m p w0 w.drew hA.out.drew he0b)
    replace he0b := hid he0b
    go_region_with (go_at_call 168; refine k0.out.mono ?_; rintro e w1 ⟨⟨er0, hr0, rfl⟩, hs0⟩; refine fakeAny ⟨rfl, IDo_bad he0b.out ⟨⟨_, hr0, rfl⟩, hs0⟩⟩ ?_)
    all_goals trivial
  have k0 := hid (i_fid B x X b q m p w0 w.drew hA.out.drew he0)
  replace he0 := hid he0
  go_region_with (go_at_call 168; refine k0.out.mono ?_; rintro e w1 ⟨rfl, hA1⟩)
  have hB1 := hid (fun e w' (h : IDo B x X w0 b q (ins [.name, .perm, .mode] (Slot.i p m .fid).2.1 (Slot.i p m .fid).2.2) e w') => IDo_cons he0.out h)
  replace hA1 := hid hA1
  clear k0
  generalize (Slot.i p m .fid).2.1 = p1 at *
  generalize (Slot.i p m .fid).2.2 = m1 at *
  go_wp2_with fail
  rcases Nat.eq_zero_or_pos (Slot.i p1 m1 .name).1 with he1 | he1
  case inr =>
    have he1b : (Slot.i p1 m1 .name).1 ≠ 0 := by omega
    clear he1
    have k1 := hid (i_name_bad B x X b q m1 p1 w0 w1.drew hA1.out.drew he1b)
    replace he1b := hid he1b
    go_region_with (go_at_call 166; refine k1.out.mono ?_; rintro e w2 ⟨⟨er1, hr1, rfl⟩, hs1⟩; refine fakeAny ⟨rfl, hB1.out _ _ (IDo_bad he1b.out ⟨⟨_, hr1, rfl⟩, hs1⟩)⟩ ?_)
    all_goals trivial
  have k1 := hid (i_name B x X b q m1 p1 w0 w1.drew hA1.out.drew he1)
  replace he1 := hid he1
  go_region_with (go_at_call 166; refine k1.out.mono ?_; rintro e w2 ⟨rfl, hA2⟩)
  have hB2 := hid (fun e w' (h : IDo B x X w0 b q (ins [.perm, .mode] (Slot.i p1 m1 .name).2.1 (Slot.i p1 m1 .name).2.2) e w') => hB1.out _ _ (IDo_cons he1.out h))
  replace hA2 := hid hA2
  clear k1
  generalize (Slot.i p1 m1 .name).2.1 = p2 at *
  generalize (Slot.i p1 m1 .name).2.2 = m2 at *
  go_wp2_with fail
  rcases Nat.eq_zero_or_pos (Slot.i p2 m2 .perm).1 with he2 | he2
  case inr =>
    have he2b : (Slot.i p2 m2 .perm).1 ≠ 0 := by omega
    clear he2
    have k2 := hid (i_perm_bad B x X b q m2 p2 w0 w2.drew hA2.out.drew he2b)
    replace he2b := hid he2b
    go_region_with (go_at_call 168; refine k2.out.mono ?_; rintro e w3 ⟨⟨er2, hr2, rfl⟩, hs2⟩; refine fakeAny ⟨rfl, hB2.out _ _ (IDo_bad he2b.out ⟨⟨_, hr2, rfl⟩, hs2⟩)⟩ ?_)
    all_goals trivial
  have k2 := hid (i_perm B x X b q m2 p2 w0 w2.drew hA2.out.drew he2)
  replace he2 := hid he2
  go_region_with (go_at_call 168; refine k2.out.mono ?_; rintro e w3 ⟨rfl, hA3⟩)
  have hB3 := hid (fun e w' (h : IDo B x X w0 b q (ins [.mode] (Slot.i p2 m2 .perm).2.1 (Slot.i p2 m2 .perm).2.2) e w') => hB2.out _ _ (IDo_cons he2.out h))
  replace hA3 := hid hA3
  clear k2
  generalize (Slot.i p2 m2 .perm).2.1 = p3 at *
  generalize (Slot.i p2 m2 .perm).2.2 = m3 at *
  go_wp2_with fail
  rcases Nat.eq_zero_or_pos (Slot.i p3 m3 .mode).1 with he3 | he3
  case inr =>
    have he3b : (Slot.i p3 m3 .mode).1 ≠ 0 := by omega
    clear he3
    have k3 := hid (i_mode_bad B x X b q m3 p3 w0 w3.drew hA3.out.drew he3b)
    replace he3b := hid he3b
    go_region_with (go_at_call 100; refine k3.out.mono ?_; rintro e w4 ⟨⟨er3, hr3, rfl⟩, hs3⟩; refine fakeAny ⟨rfl, hB3.out _ _ (IDo_bad he3b.out ⟨⟨_, hr3, rfl⟩, hs3⟩)⟩ ?_)
    all_goals trivial
  have k3 := hid (i_mode B x X b q m3 p3 w0 w3.drew hA3.out.drew he3)
  replace he3 := hid he3
  go_region_with (go_at_call 100; refine k3.out.mono ?_; rintro e w4 ⟨rfl, hA4⟩)
  have hB4 := hid (fun e w' (h : IDo B x X w0 b q (ins [] (Slot.i p3 m3 .mode).2.1 (Slot.i p3 m3 .mode).2.2) e w') => hB3.out _ _ (IDo_cons he3.out h))
  replace hA4 := hid hA4
  clear k3
  generalize (Slot.i p3 m3 .mode).2.1 = p4 at *
  generalize (Slot.i p3 m3 .mode).2.2 = m4 at *
  go_wp2_with fail
  go_end0
  exact hB4.out _ _ (IDo_nil rfl hA4.out)

set_option maxHeartbeats 1600000 in
theorem in_files_115 (B x : Nat) (X : Obj) (b q : Nat) (m : M) (p : List UInt8 × Nat) (w0 w : World) (hA : IA B x X w0 w b q m p) (ht : m.ty = 115) :
    Calls Try.prog 85 #[.iface 167 (.agg #[.pointer (some ⟨b, 0, none⟩)]), .pointer (some ⟨q, 0, none⟩)] w (IDo B x X w0 b q (ins [.qid, .iounit] p m)) := by
  have n0 := nil_i_qid
  have m0 := met_i_qid
  have n1 := nil_i_u32
  have m1 := met_i_u32
  have c0 : w.cell? ⟨q, 0, none⟩ = some (.int .u8 115) := by rw [hA.cell 0]; show some (Value.int .u8 (m.ty : Int)) = _; rw [ht]; rfl
  replace hA := hid hA
  clear ht
  go_enter Try.func85, Try.ntmps85
  go_wp2_with fail
  rcases Nat.eq_zero_or_pos (Slot.i p m .qid).1 with he0 | he0
  case inr =>
    have he0b : (Slot.i p m .qid).1 ≠ 0 := by omega
    clear he0
    have k0 := hid (i_qid_bad B x X b q m p w0 w.drew hA.out.drew he0b)
    replace he0b := hid he0b
    go_region_with (go_at_call 163; refine k0.out.mono ?_; rintro e w1 ⟨⟨er0, hr0, rfl⟩, hs0⟩; refine fakeAny ⟨rfl, IDo_bad he0b.out ⟨⟨_, hr0, rfl⟩, hs0⟩⟩ ?_)
    all_goals trivial
  have k0 := hid (i_qid B x X b q m p w0 w.drew hA.out.drew he0)
  replace he0 := hid he0
  go_region_with (go_at_call 163; refine k0.out.mono ?_; rintro e w1 ⟨rfl, hA1⟩)
  have hB1 := hid (fun e w' (h : IDo B x X w0 b q (ins [.iounit] (Slot.i p m .qid).2.1 (Slot.i p m .qid).2.2) e w') => IDo_cons he0.out h)
  replace hA1 := hid hA1
  clear k0
  generalize (Slot.i p m .qid).2.1 = p1 at *
  generalize (Slot.i p m .qid).2.2 = m1 at *
  go_wp2_with fail
  rcases Nat.eq_zero_or_pos (Slot.i p1 m1 .iounit).1 with he1 | he1
  case inr =>
    have he1b : (Slot.i p1 m1 .iounit).1 ≠ 0 := by omega
    clear he1
    have k1 := hid (i_iounit_bad B x X b q m1 p1 w0 w1.drew hA1.out.drew he1b)
    replace he1b := hid he1b
    go_region_with (go_at_call 168; refine k1.out.mono ?_; rintro e w2 ⟨⟨er1, hr1, rfl⟩, hs1⟩; refine fakeAny ⟨rfl, hB1.out _ _ (IDo_bad he1b.out ⟨⟨_, hr1, rfl⟩, hs1⟩)⟩ ?_)
    all_goals trivial
  have k1 := hid (i_iounit B x X b q m1 p1 w0 w1.drew hA1.out.drew he1)
  replace he1 := hid he1
  go_region_with (go_at_call 168; refine k1.out.mono ?_; rintro e w2 ⟨rfl, hA2⟩)
  have hB2 := hid (fun e w' (h : IDo B x X w0 b q (ins [] (Slot.i p1 m1 .iounit).2.1 (Slot.i p1 m1 .iounit).2.2) e w') => hB1.out _ _ (IDo_cons he1.out h))
  replace hA2 := hid hA2
  clear k1
  generalize (Slot.i p1 m1 .iounit).2.1 = p2 at *
  generalize (Slot.i p1 m1 .iounit).2.2 = m2 at *
  go_wp2_with fail
  go_end0
  exact hB2.out _ _ (IDo_nil rfl hA2.out)

set_option maxHeartbeats 1600000 in
theorem in_files_116 (B x : Nat) (X : Obj) (b q : Nat) (m : M) (p : List UInt8 × Nat) (w0 w : World) (hA : IA B x X w0 w b q m p) (ht : m.ty = 116) :
    Calls Try.prog 85 #[.iface 167 (.agg #[.pointer (some ⟨b, 0, none⟩)]), .pointer (some ⟨q, 0, none⟩)] w (IDo B x X w0 b q (ins [.fid, .offset, .count] p m)) := by
  have n0 := nil_i_u32
  have m0 := met_i_u32
  have n1 := nil_i_u64
  have m1 := met_i_u64
  have c0 : w.cell? ⟨q, 0, none⟩ = some (.int .u8 116) := by rw [hA.cell 0]; show some (Value.int .u8 (m.ty : Int)) = _; rw [ht]; rfl
  replace hA := hid hA
  clear ht
  go_enter Try.func85, Try.ntmps85
  go_wp2_with fail
  rcases Nat.eq_zero_or_pos (Slot.i p m .fid).1 with he0 | he0
  case inr =>
    have he0b : (Slot.i p m .fid).1 ≠ 0 := by omega
    clear he0
    have k0 := hid (i_fid_bad B x X b q m p w0 w.drew hA.out.drew he0b)
    replace he0b := hid he0b
    go_region_with (go_at_call 168; refine k0.out.mono ?_; rintro e w1 ⟨⟨er0, hr0, rfl⟩, hs0⟩; refine fakeAny ⟨rfl, IDo_bad he0b.out ⟨⟨_, hr0, rfl⟩, hs0⟩⟩ ?_)
    all_goals trivial
  have k0 := hid (i_fid B x X b q m p w0 w.drew hA.out.drew he0)
  replace he0 := hid he0
  go_region_with (go_at_call 168; refine k0.out.mono ?_; rintro e w1 ⟨rfl, hA1⟩)
  have hB1 := hid (fun e w' (h : IDo B x X w0 b q (ins [.offset, .count] (Slot.i p m .fid).2.1 (Slot.i p m .fid).2.2) e w') => IDo_cons he0.out h)
  replace hA1 := hid hA1
  clear k0
  generalize (Slot.i p m .fid).2.1 = p1 at *
  generalize (Slot.i p m .fid).2.2 = m1 at *
  go_wp2_with fail
  rcases Nat.eq_zero_or_pos (Slot.i p1 m1 .offset).1 with he1 | he1
  case inr =>
    have he1b : (Slot.i p1 m1 .offset).1 ≠ 0 := by omega
    clear he1
    have k1 := hid (i_offset_bad B x X b q m1 p1 w0 w1.drew hA1.out.drew he1b)
    replace he1b := hid he1b
    go_region_with (go_at_call 169; refine k1.out.mono ?_; rintro e w2 ⟨⟨er1, hr1, rfl⟩, hs1⟩; refine fakeAny ⟨rfl, hB1.out _ _ (IDo_bad he1b.out ⟨⟨_, hr1, rfl⟩, hs1⟩)⟩ ?_)
    all_goals trivial
  have k1 := hid (i_offset B x X b q m1 p1 w0 w1.drew hA1.out.drew he1)
  replace he1 := hid he1
  go_region_with (go_at_call 169; refine k1.out.mono ?_; rintro e w2 ⟨rfl, hA2⟩)
  have hB2 := hid (fun e w' (h : IDo B x X w0 b q (ins [.count] (Slot.i p1 m1 .offset).2.1 (Slot.i p1 m1 .offset).2.2) e w') => hB1.out _ _ (IDo_cons he1.out h))
  replace hA2 := hid hA2
  clear k1
  generalize (Slot.i p1 m1 .offset).2.1 = p2 at *
  generalize (Slot.i p1 m1 .offset).2.2 = m2 at *
  go_wp2_with fail
  rcases Nat.eq_zero_or_pos (Slot.i p2 m2 .count).1 with he2 | he2
  case inr =>
    have he2b : (Slot.i p2 m2 .count).1 ≠ 0 := by omega
    clear he2
    have k2 := hid (i_count_bad B x X b q m2 p2 w0 w2.drew hA2.out.drew he2b)
    replace he2b := hid he2b
    go_region_with (go_at_call 168; refine k2.out.mono ?_; rintro e w3 ⟨⟨er2, hr2, rfl⟩, hs2⟩; refine fakeAny ⟨rfl, hB2.out _ _ (IDo_bad he2b.out ⟨⟨_, hr2, rfl⟩, hs2⟩)⟩ ?_)
    all_goals trivial
  have k2 := hid (i_count B x X b q m2 p2 w0 w2.drew hA2.out.drew he2)
  replace he2 := hid he2
  go_region_with (go_at_call 168; refine k2.out.mono ?_; rintro e w3 ⟨rfl, hA3⟩)
  have hB3 := hid (fun e w' (h : IDo B x X w0 b q (ins [] (Slot.i p2 m2 .count).2.1 (Slot.i p2 m2 .count).2.2) e w') => hB2.out _ _ (IDo_cons he2.out h))
  replace hA3 := hid hA3
  clear k2
  generalize (Slot.i p2 m2 .count).2.1 = p3 at *
  generalize (Slot.i p2 m2 .count).2.2 = m3 at *
  go_wp2_with fail
  go_end0
  exact hB3.out _ _ (IDo_nil rfl hA3.out)

set_option maxHeartbeats 1600000 in
theorem in_files_117 (B x : Nat) (X : Obj) (b q : Nat) (m : M) (p : List UInt8 × Nat) (w0 w : World) (hA : IA B x X w0 w b q m p) (ht : m.ty = 117) :
    Calls Try.prog 85 #[.iface 167 (.agg #[.pointer (some ⟨b, 0, none⟩)]), .pointer (some ⟨q, 0, none⟩)] w (IDo B x X w0 b q (ins [.data] p m)) := by
  have n0 := nil_i_data
  have m0 := met_i_data
  have c0 : w.cell? ⟨q, 0, none⟩ = some (.int .u8 117) := by rw [hA.cell 0]; show some (Value.int .u8 (m.ty : Int)) = _; rw [ht]; rfl
  replace hA := hid hA
  clear ht
  go_enter Try.func85, Try.ntmps85
  go_wp2_with fail
  rcases Nat.eq_zero_or_pos (Slot.i p m .data).1 with he0 | he0
  case inr =>
    have he0b : (Slot.i p m .data).1 ≠ 0 := by omega
    clear he0
    have k0 := hid (i_data_bad B x X b q m p w0 w.drew hA.out.drew he0b)
    replace he0b := hid he0b
    go_region_with (go_at_call 162; refine k0.out.mono ?_; rintro e w1 ⟨⟨er0, hr0, rfl⟩, hs0⟩; refine fakeAny ⟨rfl, IDo_bad he0b.out ⟨⟨_, hr0, rfl⟩, hs0⟩⟩ ?_)
    all_goals trivial
  have k0 := hid (i_data B x X b q m p w0 w.drew hA.out.drew he0)
  replace he0 := hid he0
  go_region_with (go_at_call 162; refine k0.out.mono ?_; rintro e w1 ⟨rfl, hA1⟩)
  go_wp2_with fail
  go_end0
  exact IDo_last he0.out ⟨rfl, hA1⟩
end Go.Proofs.Ytonhliipbdniiaa
