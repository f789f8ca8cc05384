/- What the methods of msg.out write, or which error they raise, under bounds on lengths that each theorem names. No further condition. And the texts behind it. -/
import Derived.Test.YtlmojhlacfjmaaaGreatBunE
import Derived.Deep.RegionHeld3
import Derived.Deep.RegionHeld
namespace Go.Proofs.YtlmojhlacfjmaaaGreat
section
open Go.RowKit
set_option maxRecDepth 100000

theorem OStep.cell {b p i : Nat} {w w' : World} {u : Value} (h : OStep b w w') (hf : ¬ Foot w b p) (hc : w.cell? ⟨p, i, none⟩ = some u) : w'.cell? ⟨p, i, none⟩ = some u := by
 have hlt := World.block_lt_of_cell? w _ hc
 rw [World.cell?_of_block (w := w) ((h.block p hlt hf).1)]; exact hc

theorem fakeAny {G : Prop} (h : G) (_ : wpAny Tryz.prog .any #[] (fun _ _ _ => True) 0 #[] { tmps := #[], defers := [] } default) : G := h

theorem OutIs.foot_lt {w : World} {b k : Nat} {xs : List UInt8} (h : OutIs w b xs) (hf : Foot w b k) : k < w.heap.size := by
 obtain ⟨v, ot, hb, ho⟩ := h
 rcases hf with rfl | ⟨v', hv, hk⟩
 ·exact lt_of_block hb
 ·rw [block_cell hb 0] at hv
  cases hv
  exact (ho.lt k hk).2
theorem Foot.below {w w' : World} {b k : Nat} (h : Foot w' b k) (hb : b < w.heap.size) (hw : Below w.heap.size w w') : Foot w b k := by
 rcases h with h | ⟨v, hv, hk⟩
 ·exact .inl h
 ·exact .inr ⟨v, by rw [hw.cell (p := ⟨b, 0, none⟩) hb] at hv; exact hv, hk⟩

theorem OutIs.drew {w : World} {b : Nat} {xs : List UInt8} (h : OutIs w b xs) : OutIs w.drew b xs := h.below (Below.refl _ _).drew

set_option maxHeartbeats 800000 in
theorem out_u8_any (b p i x : Nat) (xs : List UInt8) (w : World) (hx : x < 256 ^ 1) (hl : xs.length ≤ 1000000) (ho : OutIs w b xs) (hf : ¬ Foot w b p) (hc : w.cell? ⟨p, i, none⟩ = some (.int .u8 (x : Int))) :
  Calls Tryz.prog 21 #[.pointer (some ⟨b, 0, none⟩), .pointer (some ⟨p, i, none⟩)] w fun e w' => e = .returned (.tuple #[]) ∧ OutIs w' b (xs ++ numBytes x 1) ∧ OStep b w w' := by
 have e1 : IntKind.u64.wrap (x : Int) = (x : Int) := IntWalk.u64_in _ (by omega)
 have hst : OStep b w w.drew := OStep.pure ho.lt (Below.refl _ _).drew
 have hput := fun W h => put_step b xs 1 x W (by omega) (by omega) (by omega) (by omega) h
 replace hput := hid hput
 have hoD := hid ho.drew
 have hfD := hid (show ¬ Foot w.drew b p from hf)
 have hcD : w.drew.cell? ⟨p, i, none⟩ = some (.int .u8 (x : Int)) := hc
 replace hf := hid hf
 go_enter Tryz.func21, Tryz.ntmps21
 go_wp2
 go_region_held3 (fun w' => w'.cell? ⟨p, i, none⟩ = some (.int .u8 (x : Int)))
  (first | exact k0 | go_keep)
  ((go_at_call 40; refine (hput.out _ hoD.out).mono ?_; rintro e wn ⟨rfl, hon, hsn⟩; have k0 := hsn.cell hfD.out hcD))
 go_wp2_with fail
 go_end0
 exact ⟨rfl, hon, hst.trans hsn⟩

set_option maxHeartbeats 800000 in
theorem out_u16_any (b p i x : Nat) (xs : List UInt8) (w : World) (hx : x < 256 ^ 2) (hl : xs.length ≤ 1000000) (ho : OutIs w b xs) (hf : ¬ Foot w b p) (hc : w.cell? ⟨p, i, none⟩ = some (.int .u16 (x : Int))) :
  Calls Tryz.prog 22 #[.pointer (some ⟨b, 0, none⟩), .pointer (some ⟨p, i, none⟩)] w fun e w' => e = .returned (.tuple #[]) ∧ OutIs w' b (xs ++ numBytes x 2) ∧ OStep b w w' := by
 have e1 : IntKind.u64.wrap (x : Int) = (x : Int) := IntWalk.u64_in _ (by omega)
 have hst : OStep b w w.drew := OStep.pure ho.lt (Below.refl _ _).drew
 have hput := fun W h => put_step b xs 2 x W (by omega) (by omega) (by omega) (by omega) h
 replace hput := hid hput
 have hoD := hid ho.drew
 have hfD := hid (show ¬ Foot w.drew b p from hf)
 have hcD : w.drew.cell? ⟨p, i, none⟩ = some (.int .u16 (x : Int)) := hc
 replace hf := hid hf
 go_enter Tryz.func22, Tryz.ntmps22
 go_wp2
 go_region_held3 (fun w' => w'.cell? ⟨p, i, none⟩ = some (.int .u16 (x : Int)))
  (first | exact k0 | go_keep)
  ((go_at_call 40; refine (hput.out _ hoD.out).mono ?_; rintro e wn ⟨rfl, hon, hsn⟩; have k0 := hsn.cell hfD.out hcD))
 go_wp2_with fail
 go_end0
 exact ⟨rfl, hon, hst.trans hsn⟩

set_option maxHeartbeats 800000 in
theorem out_u32_any (b p i x : Nat) (xs : List UInt8) (w : World) (hx : x < 256 ^ 4) (hl : xs.length ≤ 1000000) (ho : OutIs w b xs) (hf : ¬ Foot w b p) (hc : w.cell? ⟨p, i, none⟩ = some (.int .u32 (x : Int))) :
  Calls Tryz.prog 95 #[.pointer (some ⟨b, 0, none⟩), .pointer (some ⟨p, i, none⟩)] w fun e w' => e = .returned (.tuple #[]) ∧ OutIs w' b (xs ++ numBytes x 4) ∧ OStep b w w' := by
 have e1 : IntKind.u64.wrap (x : Int) = (x : Int) := IntWalk.u64_in _ (by omega)
 have hst : OStep b w w.drew := OStep.pure ho.lt (Below.refl _ _).drew
 have hput := fun W h => put_step b xs 4 x W (by omega) (by omega) (by omega) (by omega) h
 replace hput := hid hput
 have hoD := hid ho.drew
 have hfD := hid (show ¬ Foot w.drew b p from hf)
 have hcD : w.drew.cell? ⟨p, i, none⟩ = some (.int .u32 (x : Int)) := hc
 replace hf := hid hf
 go_enter Tryz.func95, Tryz.ntmps95
 go_wp2
 go_region_held3 (fun w' => w'.cell? ⟨p, i, none⟩ = some (.int .u32 (x : Int)))
  (first | exact k0 | go_keep)
  ((go_at_call 40; refine (hput.out _ hoD.out).mono ?_; rintro e wn ⟨rfl, hon, hsn⟩; have k0 := hsn.cell hfD.out hcD))
 go_wp2_with fail
 go_end0
 exact ⟨rfl, hon, hst.trans hsn⟩

set_option maxHeartbeats 800000 in
theorem out_u64_any (b p i x : Nat) (xs : List UInt8) (w : World) (hx : x < 256 ^ 8) (hl : xs.length ≤ 1000000) (ho : OutIs w b xs) (hf : ¬ Foot w b p) (hc : w.cell? ⟨p, i, none⟩ = some (.int .u64 (x : Int))) :
  Calls Tryz.prog 96 #[.pointer (some ⟨b, 0, none⟩), .pointer (some ⟨p, i, none⟩)] w fun e w' => e = .returned (.tuple #[]) ∧ OutIs w' b (xs ++ numBytes x 8) ∧ OStep b w w' := by
 have hst : OStep b w w.drew := OStep.pure ho.lt (Below.refl _ _).drew
 have hput := fun W h => put_step b xs 8 x W (by omega) (by omega) (by omega) (by omega) h
 replace hput := hid hput
 have hoD := hid ho.drew
 have hfD := hid (show ¬ Foot w.drew b p from hf)
 have hcD : w.drew.cell? ⟨p, i, none⟩ = some (.int .u64 (x : Int)) := hc
 replace hf := hid hf
 go_enter Tryz.func96, Tryz.ntmps96
 go_wp2
 go_region_held3 (fun w' => w'.cell? ⟨p, i, none⟩ = some (.int .u64 (x : Int)))
  (first | exact k0 | go_keep)
  ((go_at_call 40; refine (hput.out _ hoD.out).mono ?_; rintro e wn ⟨rfl, hon, hsn⟩; have k0 := hsn.cell hfD.out hcD))
 go_wp2_with fail
 go_end0
 exact ⟨rfl, hon, hst.trans hsn⟩

theorem mmust_ok (w : World) : Calls Tryz.prog 68 #[.int .i64 0] w fun e w' => e = .returned (.tuple #[]) ∧ w = w' := by
 go_enter Tryz.func68, Tryz.ntmps68
 go_wp2_with fail
 go_end0
 exact ⟨rfl, rfl⟩
theorem mmust_bad (e : Nat) (he : e ≠ 0) (w : World) : Calls Tryz.prog 68 #[.int .i64 (e : Int)] w fun en w' => en = .panicked (errChain e) ∧ w = w' := by
 have k0 : ((e : Int) != 0) = true := by simpa using he
 clear he
 go_enter Tryz.func68, Tryz.ntmps68
 go_wp2_with fail
 exact ⟨rfl, rfl, rfl⟩

set_option maxHeartbeats 800000 in
theorem out_text_ok (b p i : Nat) (s : ByteArray) (xs : List UInt8) (w : World) (hs : s.size ≤ 1000000) (hl : xs.length ≤ 1000000) (hm : mayN s = 0) (ho : OutIs w b xs) (hf : ¬ Foot w b p) (hc : w.cell? ⟨p, i, none⟩ = some (.string s)) :
  Calls Tryz.prog 93 #[.pointer (some ⟨b, 0, none⟩), .pointer (some ⟨p, i, none⟩)] w fun e w' => e = .returned (.tuple #[]) ∧ OutIs w' b (xs ++ putText s) ∧ OStep b w w' := by
 have hst : OStep b w w.drew := OStep.pure ho.lt (Below.refl _ _).drew
 have hput := fun W h => text_put_step b xs s W hs hl h
 rw [hm, putTextR_ok hm] at hput
 replace hput := hid hput
 have hoD := hid ho.drew
 have hfD := hid (show ¬ Foot w.drew b p from hf)
 have hcD : w.drew.cell? ⟨p, i, none⟩ = some (.string s) := hc
 replace hf := hid hf
 clear hm
 go_enter Tryz.func93, Tryz.ntmps93
 go_wp2
 go_region_held3 (fun w' => w'.cell? ⟨p, i, none⟩ = some (.string s))
  (first | exact k0 | go_keep)
  (first
   | (go_at_call 100; refine (hput.out _ hoD.out).mono ?_; rintro e wn ⟨rfl, hon, hsn⟩; have k0 := hsn.cell hfD.out hcD)
   | (go_at_call 68; (with_reducible refine (mmust_ok _).mono ?_); rintro e wm ⟨rfl, rfl⟩))
 go_wp2_with fail
 go_end0
 exact ⟨rfl, hon, hst.trans hsn⟩

set_option maxHeartbeats 800000 in
theorem out_text_bad (b p i : Nat) (s : ByteArray) (xs : List UInt8) (w : World) (hs : s.size ≤ 1000000) (hl : xs.length ≤ 1000000) (hm : mayN s ≠ 0) (ho : OutIs w b xs) (hf : ¬ Foot w b p) (hc : w.cell? ⟨p, i, none⟩ = some (.string s)) :
  Calls Tryz.prog 93 #[.pointer (some ⟨b, 0, none⟩), .pointer (some ⟨p, i, none⟩)] w fun e w' => e = .panicked (errChain (mayN s)) ∧ OStep b w w' := by
 have hst : OStep b w w.drew := OStep.pure ho.lt (Below.refl _ _).drew
 have hput := fun W h => text_put_step b xs s W hs hl h
 replace hput := hid hput
 have hmb := hid (fun W => mmust_bad (mayN s) hm W)
 have hoD := hid ho.drew
 have hfD := hid (show ¬ Foot w.drew b p from hf)
 have hcD : w.drew.cell? ⟨p, i, none⟩ = some (.string s) := hc
 replace hf := hid hf
 clear hm
 go_enter Tryz.func93, Tryz.ntmps93
 go_wp2
 go_region_with (first
   | (go_at_call 100; refine (hput.out _ hoD.out).mono ?_; rintro e wn ⟨rfl, hon, hsn⟩)
   | (go_at_call 68; (with_reducible refine (hmb.out _).mono ?_); rintro e wm ⟨rfl, rfl⟩; refine fakeAny ⟨rfl, rfl, hst.trans hsn⟩ ?_))
 all_goals trivial

set_option maxHeartbeats 800000 in
theorem out_qid_any (b p i q v r : Nat) (xs : List UInt8) (w : World) (hq : q < 256) (hv : v < 4294967296) (hr : r < 18446744073709551616) (hl : xs.length ≤ 1000000) (ho : OutIs w b xs) (hf : ¬ Foot w b p)
  (hc : w.cell? ⟨p, i, none⟩ = some (.int .u8 (q : Int)) ∧ w.cell? ⟨p, i + 1, none⟩ = some (.int .u32 (v : Int)) ∧ w.cell? ⟨p, i + 2, none⟩ = some (.int .u64 (r : Int))) :
  Calls Tryz.prog 90 #[.pointer (some ⟨b, 0, none⟩), .pointer (some ⟨p, i, none⟩)] w fun e w' => e = .returned (.tuple #[]) ∧ OutIs w' b (xs ++ qidBytes q v r) ∧ OStep b w w' := by
 have hst : OStep b w w.drew := OStep.pure ho.lt (Below.refl _ _).drew
 have hput := hid (fun W h => qid_put_any b xs q v r W hq hv hr hl h)
 have hoD := hid ho.drew
 have hfD := hid (show ¬ Foot w.drew b p from hf)
 have hcD : w.drew.cell? ⟨p, i, none⟩ = some (.int .u8 (q : Int)) ∧ w.drew.cell? ⟨p, i + 1, none⟩ = some (.int .u32 (v : Int)) ∧ w.drew.cell? ⟨p, i + 2, none⟩ = some (.int .u64 (r : Int)) := hc
 obtain ⟨h0, h1, h2⟩ := hc
 replace hcD := hid hcD
 replace hf := hid hf
 go_enter Tryz.func90, Tryz.ntmps90
 go_wp2
 go_region_held3 (fun w' => w'.cell? ⟨p, i, none⟩ = some (.int .u8 (q : Int)) ∧ w'.cell? ⟨p, i + 1, none⟩ = some (.int .u32 (v : Int)) ∧ w'.cell? ⟨p, i + 2, none⟩ = some (.int .u64 (r : Int)))
  (first | exact k0 | go_keep)
  ((go_at_call 98; refine (hput.out _ hoD.out).mono ?_; rintro e wn ⟨rfl, hon, hsn⟩; have k0 : wn.cell? ⟨p, i, none⟩ = some (.int .u8 (q : Int)) ∧ wn.cell? ⟨p, i + 1, none⟩ = some (.int .u32 (v : Int)) ∧ wn.cell? ⟨p, i + 2, none⟩ = some (.int .u64 (r : Int)) := ⟨hsn.cell hfD.out hcD.out.1, hsn.cell hfD.out hcD.out.2.1, hsn.cell hfD.out hcD.out.2.2⟩))
 go_wp2_with fail
 go_end0
 exact ⟨rfl, hon, hst.trans hsn⟩

set_option maxHeartbeats 400000 in
theorem out_many_ok (b n : Nat) (xs : List UInt8) (w : World) (hn : n ≤ 16) (hl : xs.length ≤ 1000000) (ho : OutIs w b xs) :
  Calls Tryz.prog 89 #[.pointer (some ⟨b, 0, none⟩), .int .i64 (n : Int)] w fun e w' => e = .returned (.tuple #[]) ∧ OutIs w' b (xs ++ numBytes n 2) ∧ OStep b w w' := by
 go_enter Tryz.func89, Tryz.ntmps89
 go_wp2_with fail
 refine (put_step b xs 2 n _ (by omega) (by omega) (by omega) (by omega) ho).mono ?_
 rintro e w1 ⟨rfl, ho1, hs1⟩
 go_wp2_with fail
 go_end0
 exact ⟨rfl, ho1, hs1⟩
theorem out_many_bad (b n : Nat) (w : World) (hn : 16 < n) : Calls Tryz.prog 89 #[.pointer (some ⟨b, 0, none⟩), .int .i64 (n : Int)] w fun e w' => e = .panicked (errChain 3) ∧ w = w' := by
 go_enter Tryz.func89, Tryz.ntmps89
 go_wp2_with fail
 exact ⟨rfl, rfl, rfl⟩

theorem out_data_bad (b p i : Nat) (v : Value) (l : List UInt8) (w : World) (hl : 8192 < l.length) (hv : BytesAt w v l) (hc : w.cell? ⟨p, i, none⟩ = some v) :
  Calls Tryz.prog 88 #[.pointer (some ⟨b, 0, none⟩), .pointer (some ⟨p, i, none⟩)] w fun e w' => e = .panicked (errChain 3) ∧ w = w' := by
 obtain ⟨a, c, rfl, _, _, _⟩ := hv.form
 go_enter Tryz.func88, Tryz.ntmps88
 go_wp2_with fail
 exact ⟨rfl, rfl, rfl⟩

set_option maxHeartbeats 800000 in
theorem out_data_ok (b p i : Nat) (v : Value) (l xs : List UInt8) (w : World) (hl : l.length ≤ 8192) (hx : xs.length ≤ 1000000) (hv : BytesAt w v l) (hc : w.cell? ⟨p, i, none⟩ = some v) (ho : OutIs w b xs) (hf : ¬ Foot w b p) (hfv : ∀ k, v.ownBlock = some k → ¬ Foot w b k) :
  Calls Tryz.prog 88 #[.pointer (some ⟨b, 0, none⟩), .pointer (some ⟨p, i, none⟩)] w fun e w' => e = .returned (.tuple #[]) ∧ OutIs w' b (xs ++ (numBytes l.length 4 ++ l)) ∧ OStep b w w' := by
 obtain ⟨a, c, rfl, g1, g2, _⟩ := hv.form
 have hst : OStep b w w.drew := OStep.pure ho.lt (Below.refl _ _).drew
 have hput := hid (fun W h => put_step b xs 4 l.length W (by omega) (by omega) (by omega) (by omega) h)
 have hoD := hid ho.drew
 have hfD := hid (show ¬ Foot w.drew b p from hf)
 have hcD : w.drew.cell? ⟨p, i, none⟩ = some (.slice a l.length c) := hc
 replace hf := hid hf
 replace hfv := hid hfv
 have e1 : IntKind.u64.wrap (l.length : Int) = (l.length : Int) := IntWalk.u64_in _ (by omega)
 have hvD := hid (show BytesAt w.drew (.slice a l.length c) l from hv)
 go_enter Tryz.func88, Tryz.ntmps88
 go_wp2
 go_region_held3 (fun w' => w'.cell? ⟨p, i, none⟩ = some (.slice a l.length c))
  (first | exact k0 | go_keep)
  ((go_at_call 40; refine (hput.out _ hoD.out).mono ?_; rintro e wn ⟨rfl, hon, hsn⟩; have k0 := hsn.cell hfD.out hcD))
 have hv2 : BytesAt wn (.slice a l.length c) l := RowAt.other hvD.out hsn.below.size fun j hj => (hsn.block j (BytesAt.lt hvD.out hj) (hfv.out j hj)).1
 have hfn := (hsn.block p (World.block_lt_of_cell? w.drew _ hcD) hfD.out).2
 have hoN := hid hon.drew
 have hfN := hid (show ¬ Foot wn.drew b p from hfn)
 have hst2 : OStep b wn wn.drew := OStep.pure hon.lt (Below.refl _ _).drew
 have hraw := hid (fun W (h : OutIs W b (xs ++ numBytes l.length 4)) (hB : BytesAt W (.slice a l.length c) l) => raw_step b (xs ++ numBytes l.length 4) l (.slice a l.length c) W hB (by rw [List.length_append, numBytes_length]; omega) h)
 have hvN := hid (show BytesAt wn.drew (.slice a l.length c) l from hv2)
 have hcN : wn.drew.cell? ⟨p, i, none⟩ = some (.slice a l.length c) := k0
 clear hcD hfn
 go_wp2_with fail
 go_region_held3 (fun w' => w'.cell? ⟨p, i, none⟩ = some (.slice a l.length c))
  (first | exact k1 | go_keep)
  ((go_at_call 97; refine (hraw.out _ hoN.out hvN.out).mono ?_; rintro e wm ⟨rfl, hom, hsm⟩; have k1 := hsm.cell hfN.out hcN))
 go_wp2_with fail
 go_end0
 exact ⟨rfl, by rw [← List.append_assoc]; exact hom, ((hst.trans hsn).trans hst2).trans hsm⟩

theorem StatCells.step {b p i : Nat} {w w' : World} {s : Stat} (h : OStep b w w') (hf : ¬ Foot w b p) (hc : StatCells w p i s) : StatCells w' p i s :=
 ⟨h.cell hf hc.1, h.cell hf hc.2.1, h.cell hf hc.2.2.1, h.cell hf hc.2.2.2.1, h.cell hf hc.2.2.2.2.1, h.cell hf hc.2.2.2.2.2.1, h.cell hf hc.2.2.2.2.2.2.1, h.cell hf hc.2.2.2.2.2.2.2.1, h.cell hf hc.2.2.2.2.2.2.2.2.1, h.cell hf hc.2.2.2.2.2.2.2.2.2.1, h.cell hf hc.2.2.2.2.2.2.2.2.2.2.1, h.cell hf hc.2.2.2.2.2.2.2.2.2.2.2.1, h.cell hf hc.2.2.2.2.2.2.2.2.2.2.2.2⟩

set_option maxHeartbeats 800000 in
theorem out_stat_ok (b p i : Nat) (s : Stat) (xs : List UInt8) (w : World) (hok : StatOk s) (hfw : Few s) (he : s.err = 0) (hl : xs.length ≤ 1000000) (ho : OutIs w b xs) (hc : StatCells w p i s) :
  Calls Tryz.prog 92 #[.pointer (some ⟨b, 0, none⟩), .pointer (some ⟨p, i, none⟩)] w fun e w' => e = .returned (.tuple #[]) ∧ OutIs w' b (xs ++ (numBytes s.bytes.length 2 ++ s.bytes)) ∧ OStep b w w' := by
 obtain ⟨C0, C1, C2, C3, C4, C5, C6, C7, C8, C9, C10, C11, C12⟩ := hc
 have henc := fun W => encode_new s W hok hfw
 rw [cells_eq s] at henc
 replace henc := hid henc
 have hbl := bytes_le s hfw
 replace he := hid he
 go_enter Tryz.func92, Tryz.ntmps92
 go_wp2_with fail
 refine (henc.out _).mono ?_
 rintro e w1 ⟨v1, rfl, hv1, hb1⟩
 rw [he.out]
 obtain ⟨hv1, hnew⟩ := hv1
 have ho1 := ho.below hb1
 have st1 := OStep.pure ho.lt hb1
 obtain ⟨a1, c1, rfl, _, _, _⟩ := hv1.form
 have hnf : Hid (∀ k, (Value.slice a1 s.bytes.length c1).ownBlock = some k → ¬ Foot w1 b k) := hid (fun k hk hft => by have := hnew k hk; have := ho.foot_lt (hft.below ho.lt hb1); omega)
 clear hnew hb1 C0 C1 C2 C3 C4 C5 C6 C7 C8 C9 C10 C11 C12
 go_wp2_with fail
 refine (mmust_ok _).mono ?_
 rintro e w2 ⟨rfl, rfl⟩
 go_wp2_with fail
 refine (put_step b xs 2 s.bytes.length _ (by omega) (by omega) (by omega) (by omega) ho1).mono ?_
 rintro e w2 ⟨rfl, ho2, hs2⟩
 have hv2 : BytesAt w2 (.slice a1 s.bytes.length c1) s.bytes := RowAt.other hv1 hs2.below.size fun j hj => (hs2.block j (BytesAt.lt hv1 hj) (hnf.out j hj)).1
 go_wp2_with fail
 refine (raw_step b (xs ++ numBytes s.bytes.length 2) s.bytes _ _ hv2 (by rw [List.length_append, numBytes_length]; omega) ho2).mono ?_
 rintro e w3 ⟨rfl, ho3, hs3⟩
 go_wp2_with fail
 go_end0
 exact ⟨rfl, by rw [← List.append_assoc]; exact ho3, (st1.trans hs2).trans hs3⟩

set_option maxHeartbeats 800000 in
theorem out_stat_bad (b p i : Nat) (s : Stat) (xs : List UInt8) (w : World) (hok : StatOk s) (hfw : Few s) (he : s.err ≠ 0) (ho : OutIs w b xs) (hc : StatCells w p i s) :
  Calls Tryz.prog 92 #[.pointer (some ⟨b, 0, none⟩), .pointer (some ⟨p, i, none⟩)] w fun e w' => e = .panicked (errChain s.err) ∧ OStep b w w' := by
 obtain ⟨C0, C1, C2, C3, C4, C5, C6, C7, C8, C9, C10, C11, C12⟩ := hc
 have henc := fun W => encode_new s W hok hfw
 rw [cells_eq s] at henc
 replace henc := hid henc
 have hmb := hid (fun W => mmust_bad s.err he W)
 clear he
 go_enter Tryz.func92, Tryz.ntmps92
 go_wp2_with fail
 refine (henc.out _).mono ?_
 rintro e w1 ⟨v1, rfl, hv1, hb1⟩
 have st1 := OStep.pure ho.lt hb1
 clear hb1 C0 C1 C2 C3 C4 C5 C6 C7 C8 C9 C10 C11 C12
 go_wp2_with fail
 refine (hmb.out _).mono ?_
 rintro e w2 ⟨rfl, rfl⟩
 go_wp2_with fail
 exact ⟨rfl, rfl, st1⟩

end
end Go.Proofs.YtlmojhlacfjmaaaGreat

namespace Go.Proofs.YtlmojhlacfjmaaaGreat
section
open Go.RowKit
set_option maxRecDepth 100000

def OutDo (w : World) (b : Nat) (xs ys : List UInt8) (err : Nat) (e : Ending) (w' : World) : Prop :=
 (err = 0 ∧ e = .returned (.tuple #[]) ∧ OutIs w' b (xs ++ ys) ∨ err ≠ 0 ∧ e = .panicked (errChain err)) ∧ OStep b w w'

def StrsAt (w : World) (v : Value) (L : List ByteArray) : Prop := RowAt w 1 v L.length (L.map fun s => Value.string s)
theorem StrsAt.cell {w : World} {a : Option Addr} {n c : Nat} {L : List ByteArray} (h : StrsAt w (.slice a n c) L) (i : Nat) (hi : i < L.length) : ∃ b o, a = some ⟨b, o, none⟩ ∧ w.cell? ⟨b, o + i, none⟩ = some (.string L[i]) := by
 obtain ⟨_, a', c', hv, h1, h2, h3, h5, h4⟩ := h
 cases hv
 exact h4 i _ (by simp [hi])
theorem StrsAt.form {w : World} {v : Value} {L : List ByteArray} (h : StrsAt w v L) : ∃ a c, v = .slice a L.length c ∧ L.length ≤ c ∧ c ≤ maxLen := by
 obtain ⟨_, a, c, hv, h1, h2, _⟩ := h
 exact ⟨a, c, hv, h1, h2⟩
theorem RowAt.blk {w : World} {k n j : Nat} {v : Value} {xs : List Value} (h : RowAt w k v n xs) (hj : v.ownBlock = some j) : j < w.heap.size := by
 obtain ⟨_, a, c, rfl, _, _, _, h5, _⟩ := h
 cases a with
 | none => cases hj
 | some ad => cases hj; exact (h5 ad rfl).2
theorem RowAt.step {w w' : World} {b k n : Nat} {v : Value} {xs : List Value} (h : RowAt w k v n xs) (hs : OStep b w w') (hf : ∀ j, v.ownBlock = some j → ¬ Foot w b j) : RowAt w' k v n xs :=
 RowAt.other h hs.below.size fun j hj => (hs.block j (h.blk hj) (hf j hj)).1

set_option maxHeartbeats 1600000 in
theorem out_texts_any (b p i : Nat) (v : Value) (L : List ByteArray) (xs : List UInt8) (w : World) (hL : L.length ≤ 16) (hs : ∀ s ∈ L, s.size ≤ 1000) (hx : xs.length ≤ 900000) (hv : StrsAt w v L) (hc : w.cell? ⟨p, i, none⟩ = some v)
  (ho : OutIs w b xs) (hf : ¬ Foot w b p) (hfv : ∀ k, v.ownBlock = some k → ¬ Foot w b k) :
  Calls Tryz.prog 94 #[.pointer (some ⟨b, 0, none⟩), .pointer (some ⟨p, i, none⟩)] w (OutDo w b xs (numBytes L.length 2 ++ textsBytes L) (textsErr L)) := by
 obtain ⟨a, c, rfl, g1, g2⟩ := hv.form
 have hf' := hid hf
 have hfv' := hid hfv
 have hlt : p < w.heap.size := World.block_lt_of_cell? w _ hc
 have hsum : Hid (∀ k, k ≤ L.length → (textsBytes (L.take k)).length ≤ 1002 * k) := hid (by
  intro k
  induction k with
  | zero => intro _; simp [textsBytes]
  | succ k ih =>
   intro hk
   have hkl : k < L.length := by omega
   rw [textsBytes_snoc L k hkl, List.length_append, putText_length]
   have := hs L[k] (List.getElem_mem _)
   have := ih (by omega)
   omega)
 replace hs := hid hs
 clear hf hfv
 go_enter Tryz.func94, Tryz.ntmps94
 go_wp2_with fail
 refine (out_many_ok b L.length xs _ hL (by omega) ho).mono ?_
 rintro e w1 ⟨rfl, ho1, hs1⟩
 have hc1 := hs1.cell hf'.out hc
 have hv1 : StrsAt w1 (.slice a L.length c) L := RowAt.step hv hs1 hfv'.out
 have hfv1 := hid (fun k (hk : (Value.slice a L.length c).ownBlock = some k) => (hs1.block k (RowAt.blk hv hk) (hfv'.out k hk)).2)
 have lx : (xs ++ numBytes L.length 2).length = xs.length + 2 := by rw [List.length_append, numBytes_length]
 replace lx := hid lx
 unfold maxLen at g2
 clear hv hc
 go_wp2_with fail
 go_loopw [16] (fun kv wr => ∃ k : Nat, k ≤ L.length ∧ kv = .int .i64 (k : Int) ∧ OutIs wr b (xs ++ numBytes L.length 2 ++ textsBytes (L.take k)) ∧ OStep b w1 wr ∧ Hid (textsErr (L.drop k) = textsErr L)) (fun kv _ => L.length - (intOf kv).toNat)
 case atStart => exact ⟨0, by omega, rfl, by simpa [textsBytes] using ho1, OStep.refl _ _, hid rfl⟩
 case round =>
  obtain ⟨k, hk, rfl, hor, hsr, her⟩ := hrel
  by_cases hkl : k < L.length
  ·obtain ⟨bb, o, rfl, hcell⟩ := StrsAt.cell (RowAt.step hv1 hsr hfv1.out : StrsAt wr _ L) k hkl
   have hsz := hs.out L[k] (List.getElem_mem _)
   have hsn := hid (textsBytes_snoc L k hkl)
   have hed := hid (textsErr_drop L k hkl)
   have hll : (xs ++ numBytes L.length 2 ++ textsBytes (L.take k)).length ≤ 950000 := by rw [List.length_append, lx.out]; have := hsum.out k (by omega); omega
   generalize L[k] = x at hcell hsz hsn hed
   generalize hys : xs ++ numBytes L.length 2 ++ textsBytes (L.take k) = ys at hor hll
   replace hys := hid hys
   have hb2 := (Below.refl wr.heap.size wr).alloc (Nat.le_refl _) (.cells #[.string x] 9)
   have ho2 := hor.below hb2
   have hn2 := hid (hor.new (.cells #[.string x] 9))
   have hx2 : (wr.alloc (.cells #[.string x] 9)).cell? ⟨wr.heap.size, 0, none⟩ = some (.string x) := block_cell (heap_alloc_new _ _) 0
   have st2 := hid (hsr.trans (OStep.pure hor.lt hb2))
   replace hx2 := hid hx2
   by_cases hm : mayN x = 0
   ·have htx := out_text_ok b wr.heap.size 0 x ys _ (by omega) (by omega) hm ho2 hn2.out hx2.out
    replace htx := hid htx
    have hed2 : Hid (textsErr (L.drop (k + 1)) = textsErr L) := hid (by rw [← her.out, hed.out, if_pos hm])
    clear hm hed her ho2 hb2
    go_wp2_with fail
    refine htx.out.mono ?_
    rintro e w3 ⟨rfl, ho3, hs3⟩
    go_wp2_with fail
    go_roundw
    case rel => exact ⟨k + 1, by omega, by go_num, by rw [hsn.out, ← List.append_assoc, hys.out]; exact ho3, st2.out.trans hs3, hed2⟩
    case measure => simp [intOf]; omega
   ·have htx := out_text_bad b wr.heap.size 0 x ys _ (by omega) (by omega) hm ho2 hn2.out hx2.out
    have hed2 : Hid (textsErr L = mayN x) := hid (by rw [← her.out, hed.out, if_neg hm])
    replace htx := hid htx
    have hm' := hid hm
    clear hm hed her ho2 hb2
    go_wp2_with fail
    refine htx.out.mono ?_
    rintro e w3 ⟨rfl, hs3⟩
    go_wp2_with fail
    exact ⟨rfl, .inr ⟨by rw [hed2.out]; exact hm'.out, by rw [hed2.out]⟩, (hs1.trans st2.out).trans hs3⟩
  ·obtain rfl : k = L.length := by omega
   have hfin := hid her.out
   rw [List.take_length] at hor
   rw [List.drop_length] at her
   go_wp2_with fail
   go_end0
   exact ⟨.inl ⟨her.out.symm, rfl, by rw [← List.append_assoc]; exact hor⟩, hs1.trans hsr⟩

structure QidV where
 t : Nat
 v : Nat
 p : Nat
def QidV.cells (q : QidV) : Array Value := #[.int .u8 (q.t : Int), .int .u32 (q.v : Int), .int .u64 (q.p : Int)]
structure QidOk (q : QidV) : Prop where
 t : q.t < 256
 v : q.v < 4294967296
 p : q.p < 18446744073709551616
def QidV.bytes (q : QidV) : List UInt8 := qidBytes q.t q.v q.p
def qidsBytes (Q : List QidV) : List UInt8 := Q.flatMap QidV.bytes
theorem qidsBytes_snoc (Q : List QidV) (k : Nat) (h : k < Q.length) : qidsBytes (Q.take (k + 1)) = qidsBytes (Q.take k) ++ Q[k].bytes := by
 unfold qidsBytes; rw [List.take_succ_eq_append_getElem h, List.flatMap_append]; simp
theorem qidsBytes_len : ∀ Q : List QidV, (qidsBytes Q).length = 13 * Q.length
 | [] => rfl
 | q :: Q => by
  have := qidsBytes_len Q
  show (q.bytes ++ qidsBytes Q).length = _
  rw [List.length_append, this]; unfold QidV.bytes; rw [qidBytes_length, List.length_cons]; omega

def QidsAt (w : World) (v : Value) (Q : List QidV) : Prop := RowAt w 3 v Q.length (Q.flatMap fun q => q.cells.toList)
theorem QidsAt.cell {w : World} {a : Option Addr} {n c : Nat} {Q : List QidV} (h : QidsAt w (.slice a n c) Q) (k : Nat) (hk : k < Q.length) : ∃ b o, a = some ⟨b, o, none⟩ ∧ w.cell? ⟨b, o + k * 3, none⟩ = some (.int .u8 (Q[k].t : Int)) ∧ w.cell? ⟨b, o + k * 3 + 1, none⟩ = some (.int .u32 (Q[k].v : Int)) ∧ w.cell? ⟨b, o + k * 3 + 2, none⟩ = some (.int .u64 (Q[k].p : Int)) := by
 obtain ⟨_, a', c', hv, h1, h2, h3, h5, h4⟩ := h
 cases hv
 have hx : ∀ j, j < 3 → (Q.flatMap fun q => q.cells.toList)[k * 3 + j]? = Q[k].cells.toList[j]? := fun j hj => by
  have : ∀ (Q : List QidV) (k : Nat) (hk : k < Q.length), (Q.flatMap fun q => q.cells.toList)[k * 3 + j]? = Q[k].cells.toList[j]? := by
   intro Q
   induction Q with
   | nil => intro k hk; simp at hk
   | cons q Q ih =>
    intro k hk
    cases k with
    | zero =>
     rw [List.flatMap_cons, List.getElem?_append_left (by simp [QidV.cells]; omega)]; simp
    | succ k =>
     rw [List.flatMap_cons, List.getElem?_append_right (by simp [QidV.cells]; omega)]
     have := ih k (by simpa using hk)
     have e : (k + 1) * 3 + j - q.cells.toList.length = k * 3 + j := by simp [QidV.cells]; omega
     rw [e, this]; simp
  exact this Q k hk
 obtain ⟨b, o, ha, q0⟩ := h4 (k * 3 + 0) _ (by rw [hx 0 (by omega)]; rfl)
 obtain ⟨b1, o1, ha1, q1⟩ := h4 (k * 3 + 1) _ (by rw [hx 1 (by omega)]; rfl)
 obtain ⟨b2, o2, ha2, q2⟩ := h4 (k * 3 + 2) _ (by rw [hx 2 (by omega)]; rfl)
 rw [ha] at ha1 ha2
 cases ha1; cases ha2
 exact ⟨b, o, ha, q0, q1, q2⟩
theorem QidsAt.form {w : World} {v : Value} {Q : List QidV} (h : QidsAt w v Q) : ∃ a c, v = .slice a Q.length c ∧ Q.length ≤ c ∧ c ≤ maxLen := by
 obtain ⟨_, a, c, hv, h1, h2, _⟩ := h
 exact ⟨a, c, hv, h1, h2⟩

set_option maxHeartbeats 1600000 in
theorem out_qids_any (b p i : Nat) (v : Value) (Q : List QidV) (xs : List UInt8) (w : World) (hL : Q.length ≤ 16) (hs : ∀ q ∈ Q, QidOk q) (hx : xs.length ≤ 900000) (hv : QidsAt w v Q) (hc : w.cell? ⟨p, i, none⟩ = some v)
  (ho : OutIs w b xs) (hf : ¬ Foot w b p) (hfv : ∀ k, v.ownBlock = some k → ¬ Foot w b k) :
  Calls Tryz.prog 91 #[.pointer (some ⟨b, 0, none⟩), .pointer (some ⟨p, i, none⟩)] w fun e w' => e = .returned (.tuple #[]) ∧ OutIs w' b (xs ++ (numBytes Q.length 2 ++ qidsBytes Q)) ∧ OStep b w w' := by
 obtain ⟨a, c, rfl, g1, g2⟩ := hv.form
 have hf' := hid hf
 have hfv' := hid hfv
 replace hs := hid hs
 clear hf hfv
 go_enter Tryz.func91, Tryz.ntmps91
 go_wp2_with fail
 refine (out_many_ok b Q.length xs _ hL (by omega) ho).mono ?_
 rintro e w1 ⟨rfl, ho1, hs1⟩
 have hc1 := hs1.cell hf'.out hc
 have hv1 : QidsAt w1 (.slice a Q.length c) Q := RowAt.step hv hs1 hfv'.out
 have hfv1 := hid (fun k (hk : (Value.slice a Q.length c).ownBlock = some k) => (hs1.block k (RowAt.blk hv hk) (hfv'.out k hk)).2)
 have lx : (xs ++ numBytes Q.length 2).length = xs.length + 2 := by rw [List.length_append, numBytes_length]
 replace lx := hid lx
 unfold maxLen at g2
 clear hv hc
 go_wp2_with fail
 go_loopw [16] (fun kv wr => ∃ k : Nat, k ≤ Q.length ∧ kv = .int .i64 (k : Int) ∧ OutIs wr b (xs ++ numBytes Q.length 2 ++ qidsBytes (Q.take k)) ∧ OStep b w1 wr) (fun kv _ => Q.length - (intOf kv).toNat)
 case atStart => exact ⟨0, by omega, rfl, by simpa [qidsBytes] using ho1, OStep.refl _ _⟩
 case round =>
  obtain ⟨k, hk, rfl, hor, hsr⟩ := hrel
  by_cases hkl : k < Q.length
  ·obtain ⟨bb, o, rfl, hc0, hc1', hc2⟩ := QidsAt.cell (RowAt.step hv1 hsr hfv1.out : QidsAt wr _ Q) k hkl
   obtain ⟨s1, s2, s3⟩ := hs.out Q[k] (List.getElem_mem _)
   have hsn := hid (qidsBytes_snoc Q k hkl)
   have hll : (xs ++ numBytes Q.length 2 ++ qidsBytes (Q.take k)).length ≤ 950000 := by rw [List.length_append, lx.out, qidsBytes_len, List.length_take]; omega
   generalize Q[k] = x at hc0 hc1' hc2 s1 s2 s3 hsn
   generalize hys : xs ++ numBytes Q.length 2 ++ qidsBytes (Q.take k) = ys at hor hll
   replace hys := hid hys
   have hb2 := (Below.refl wr.heap.size wr).alloc (Nat.le_refl _) (.cells #[.int .u8 (x.t : Int), .int .u32 (x.v : Int), .int .u64 (x.p : Int)] 28)
   have ho2 := hor.below hb2
   have hn2 := hid (hor.new (.cells #[.int .u8 (x.t : Int), .int .u32 (x.v : Int), .int .u64 (x.p : Int)] 28))
   have hblk := heap_alloc_new wr (.cells #[.int .u8 (x.t : Int), .int .u32 (x.v : Int), .int .u64 (x.p : Int)] 28)
   have st2 := hid (hsr.trans (OStep.pure hor.lt hb2))
   have htx := hid (out_qid_any b wr.heap.size 0 x.t x.v x.p ys _ s1 s2 s3 (by omega) ho2 hn2.out ⟨block_cell hblk 0, block_cell hblk 1, block_cell hblk 2⟩)
   replace hblk := hid hblk
   clear ho2 hb2
   go_wp2_with fail
   refine htx.out.mono ?_
   rintro e w3 ⟨rfl, ho3, hs3⟩
   go_wp2_with fail
   go_roundw
   case rel => exact ⟨k + 1, by omega, by go_num, by rw [hsn.out, ← List.append_assoc, hys.out]; exact ho3, st2.out.trans hs3⟩
   case measure => simp [intOf]; omega
  ·obtain rfl : k = Q.length := by omega
   rw [List.take_length] at hor
   go_wp2_with fail
   go_end0
   exact ⟨rfl, by rw [← List.append_assoc]; exact hor, hs1.trans hsr⟩
end
end Go.Proofs.YtlmojhlacfjmaaaGreat

namespace Go.Proofs.YtlmojhlacfjmaaaGreat
section
open Go.RowKit
set_option maxRecDepth 100000

theorem nil_o_u8 (n : Nat) (a : Addr) (w : World) : (nilAhead (n + 1) 60 (.pointer (some a)) "loggia/msg.u8").run Tryz.prog w = .ok (some false) w := by kernel_rfl
theorem met_o_u8 (n : Nat) (a : Addr) (w : World) : (method (n + 1) 60 (.pointer (some a)) "loggia/msg.u8").run Tryz.prog w = .ok (21, (.pointer (some a))) w := by kernel_rfl
theorem nil_o_u16 (n : Nat) (a : Addr) (w : World) : (nilAhead (n + 1) 60 (.pointer (some a)) "loggia/msg.u16").run Tryz.prog w = .ok (some false) w := by kernel_rfl
theorem met_o_u16 (n : Nat) (a : Addr) (w : World) : (method (n + 1) 60 (.pointer (some a)) "loggia/msg.u16").run Tryz.prog w = .ok (22, (.pointer (some a))) w := by kernel_rfl
theorem nil_o_u32 (n : Nat) (a : Addr) (w : World) : (nilAhead (n + 1) 60 (.pointer (some a)) "loggia/msg.u32").run Tryz.prog w = .ok (some false) w := by kernel_rfl
theorem met_o_u32 (n : Nat) (a : Addr) (w : World) : (method (n + 1) 60 (.pointer (some a)) "loggia/msg.u32").run Tryz.prog w = .ok (95, (.pointer (some a))) w := by kernel_rfl
theorem nil_o_u64 (n : Nat) (a : Addr) (w : World) : (nilAhead (n + 1) 60 (.pointer (some a)) "loggia/msg.u64").run Tryz.prog w = .ok (some false) w := by kernel_rfl
theorem met_o_u64 (n : Nat) (a : Addr) (w : World) : (method (n + 1) 60 (.pointer (some a)) "loggia/msg.u64").run Tryz.prog w = .ok (96, (.pointer (some a))) w := by kernel_rfl
theorem nil_o_text (n : Nat) (a : Addr) (w : World) : (nilAhead (n + 1) 60 (.pointer (some a)) "loggia/msg.text").run Tryz.prog w = .ok (some false) w := by kernel_rfl
theorem met_o_text (n : Nat) (a : Addr) (w : World) : (method (n + 1) 60 (.pointer (some a)) "loggia/msg.text").run Tryz.prog w = .ok (93, (.pointer (some a))) w := by kernel_rfl
theorem nil_o_qid (n : Nat) (a : Addr) (w : World) : (nilAhead (n + 1) 60 (.pointer (some a)) "loggia/msg.qid").run Tryz.prog w = .ok (some false) w := by kernel_rfl
theorem met_o_qid (n : Nat) (a : Addr) (w : World) : (method (n + 1) 60 (.pointer (some a)) "loggia/msg.qid").run Tryz.prog w = .ok (90, (.pointer (some a))) w := by kernel_rfl
theorem nil_o_texts (n : Nat) (a : Addr) (w : World) : (nilAhead (n + 1) 60 (.pointer (some a)) "loggia/msg.texts").run Tryz.prog w = .ok (some false) w := by kernel_rfl
theorem met_o_texts (n : Nat) (a : Addr) (w : World) : (method (n + 1) 60 (.pointer (some a)) "loggia/msg.texts").run Tryz.prog w = .ok (94, (.pointer (some a))) w := by kernel_rfl
theorem nil_o_qids (n : Nat) (a : Addr) (w : World) : (nilAhead (n + 1) 60 (.pointer (some a)) "loggia/msg.qids").run Tryz.prog w = .ok (some false) w := by kernel_rfl
theorem met_o_qids (n : Nat) (a : Addr) (w : World) : (method (n + 1) 60 (.pointer (some a)) "loggia/msg.qids").run Tryz.prog w = .ok (91, (.pointer (some a))) w := by kernel_rfl
theorem nil_o_data (n : Nat) (a : Addr) (w : World) : (nilAhead (n + 1) 60 (.pointer (some a)) "loggia/msg.data").run Tryz.prog w = .ok (some false) w := by kernel_rfl
theorem met_o_data (n : Nat) (a : Addr) (w : World) : (method (n + 1) 60 (.pointer (some a)) "loggia/msg.data").run Tryz.prog w = .ok (88, (.pointer (some a))) w := by kernel_rfl
theorem nil_o_stat (n : Nat) (a : Addr) (w : World) : (nilAhead (n + 1) 60 (.pointer (some a)) "loggia/msg.stat").run Tryz.prog w = .ok (some false) w := by kernel_rfl
theorem met_o_stat (n : Nat) (a : Addr) (w : World) : (method (n + 1) 60 (.pointer (some a)) "loggia/msg.stat").run Tryz.prog w = .ok (92, (.pointer (some a))) w := by kernel_rfl
theorem nil_t_u8 (n : Nat) (a : Addr) (w : World) : (nilAhead (n + 1) 109 (.pointer (some a)) "loggia/msg.u8").run Tryz.prog w = .ok (some false) w := by kernel_rfl
theorem met_t_u8 (n : Nat) (a : Addr) (w : World) : (method (n + 1) 109 (.pointer (some a)) "loggia/msg.u8").run Tryz.prog w = .ok (126, (.pointer (some a))) w := by kernel_rfl
theorem nil_t_u16 (n : Nat) (a : Addr) (w : World) : (nilAhead (n + 1) 109 (.pointer (some a)) "loggia/msg.u16").run Tryz.prog w = .ok (some false) w := by kernel_rfl
theorem met_t_u16 (n : Nat) (a : Addr) (w : World) : (method (n + 1) 109 (.pointer (some a)) "loggia/msg.u16").run Tryz.prog w = .ok (123, (.pointer (some a))) w := by kernel_rfl
theorem nil_t_u32 (n : Nat) (a : Addr) (w : World) : (nilAhead (n + 1) 109 (.pointer (some a)) "loggia/msg.u32").run Tryz.prog w = .ok (some false) w := by kernel_rfl
theorem met_t_u32 (n : Nat) (a : Addr) (w : World) : (method (n + 1) 109 (.pointer (some a)) "loggia/msg.u32").run Tryz.prog w = .ok (124, (.pointer (some a))) w := by kernel_rfl
theorem nil_t_u64 (n : Nat) (a : Addr) (w : World) : (nilAhead (n + 1) 109 (.pointer (some a)) "loggia/msg.u64").run Tryz.prog w = .ok (some false) w := by kernel_rfl
theorem met_t_u64 (n : Nat) (a : Addr) (w : World) : (method (n + 1) 109 (.pointer (some a)) "loggia/msg.u64").run Tryz.prog w = .ok (125, (.pointer (some a))) w := by kernel_rfl
theorem nil_t_text (n : Nat) (a : Addr) (w : World) : (nilAhead (n + 1) 109 (.pointer (some a)) "loggia/msg.text").run Tryz.prog w = .ok (some false) w := by kernel_rfl
theorem met_t_text (n : Nat) (a : Addr) (w : World) : (method (n + 1) 109 (.pointer (some a)) "loggia/msg.text").run Tryz.prog w = .ok (121, (.pointer (some a))) w := by kernel_rfl
theorem nil_t_qid (n : Nat) (a : Addr) (w : World) : (nilAhead (n + 1) 109 (.pointer (some a)) "loggia/msg.qid").run Tryz.prog w = .ok (some false) w := by kernel_rfl
theorem met_t_qid (n : Nat) (a : Addr) (w : World) : (method (n + 1) 109 (.pointer (some a)) "loggia/msg.qid").run Tryz.prog w = .ok (118, (.pointer (some a))) w := by kernel_rfl
theorem nil_t_texts (n : Nat) (a : Addr) (w : World) : (nilAhead (n + 1) 109 (.pointer (some a)) "loggia/msg.texts").run Tryz.prog w = .ok (some false) w := by kernel_rfl
theorem met_t_texts (n : Nat) (a : Addr) (w : World) : (method (n + 1) 109 (.pointer (some a)) "loggia/msg.texts").run Tryz.prog w = .ok (122, (.pointer (some a))) w := by kernel_rfl
theorem nil_t_qids (n : Nat) (a : Addr) (w : World) : (nilAhead (n + 1) 109 (.pointer (some a)) "loggia/msg.qids").run Tryz.prog w = .ok (some false) w := by kernel_rfl
theorem met_t_qids (n : Nat) (a : Addr) (w : World) : (method (n + 1) 109 (.pointer (some a)) "loggia/msg.qids").run Tryz.prog w = .ok (119, (.pointer (some a))) w := by kernel_rfl
theorem nil_t_data (n : Nat) (a : Addr) (w : World) : (nilAhead (n + 1) 109 (.pointer (some a)) "loggia/msg.data").run Tryz.prog w = .ok (some false) w := by kernel_rfl
theorem met_t_data (n : Nat) (a : Addr) (w : World) : (method (n + 1) 109 (.pointer (some a)) "loggia/msg.data").run Tryz.prog w = .ok (117, (.pointer (some a))) w := by kernel_rfl
theorem nil_t_stat (n : Nat) (a : Addr) (w : World) : (nilAhead (n + 1) 109 (.pointer (some a)) "loggia/msg.stat").run Tryz.prog w = .ok (some false) w := by kernel_rfl
theorem met_t_stat (n : Nat) (a : Addr) (w : World) : (method (n + 1) 109 (.pointer (some a)) "loggia/msg.stat").run Tryz.prog w = .ok (120, (.pointer (some a))) w := by kernel_rfl
theorem nil_i_u8 (n : Nat) (a : Addr) (w : World) : (nilAhead (n + 1) 127 (.agg #[.pointer (some a)]) "loggia/msg.u8").run Tryz.prog w = .ok (some false) w := by kernel_rfl
theorem met_i_u8 (n : Nat) (a : Addr) (w : World) : (method (n + 1) 127 (.agg #[.pointer (some a)]) "loggia/msg.u8").run Tryz.prog w = .ok (58, (.agg #[.pointer (some a)])) w := by kernel_rfl
theorem nil_i_u16 (n : Nat) (a : Addr) (w : World) : (nilAhead (n + 1) 127 (.agg #[.pointer (some a)]) "loggia/msg.u16").run Tryz.prog w = .ok (some false) w := by kernel_rfl
theorem met_i_u16 (n : Nat) (a : Addr) (w : World) : (method (n + 1) 127 (.agg #[.pointer (some a)]) "loggia/msg.u16").run Tryz.prog w = .ok (59, (.agg #[.pointer (some a)])) w := by kernel_rfl
theorem nil_i_u32 (n : Nat) (a : Addr) (w : World) : (nilAhead (n + 1) 127 (.agg #[.pointer (some a)]) "loggia/msg.u32").run Tryz.prog w = .ok (some false) w := by kernel_rfl
theorem met_i_u32 (n : Nat) (a : Addr) (w : World) : (method (n + 1) 127 (.agg #[.pointer (some a)]) "loggia/msg.u32").run Tryz.prog w = .ok (133, (.agg #[.pointer (some a)])) w := by kernel_rfl
theorem nil_i_u64 (n : Nat) (a : Addr) (w : World) : (nilAhead (n + 1) 127 (.agg #[.pointer (some a)]) "loggia/msg.u64").run Tryz.prog w = .ok (some false) w := by kernel_rfl
theorem met_i_u64 (n : Nat) (a : Addr) (w : World) : (method (n + 1) 127 (.agg #[.pointer (some a)]) "loggia/msg.u64").run Tryz.prog w = .ok (134, (.agg #[.pointer (some a)])) w := by kernel_rfl
theorem nil_i_text (n : Nat) (a : Addr) (w : World) : (nilAhead (n + 1) 127 (.agg #[.pointer (some a)]) "loggia/msg.text").run Tryz.prog w = .ok (some false) w := by kernel_rfl
theorem met_i_text (n : Nat) (a : Addr) (w : World) : (method (n + 1) 127 (.agg #[.pointer (some a)]) "loggia/msg.text").run Tryz.prog w = .ok (131, (.agg #[.pointer (some a)])) w := by kernel_rfl
theorem nil_i_qid (n : Nat) (a : Addr) (w : World) : (nilAhead (n + 1) 127 (.agg #[.pointer (some a)]) "loggia/msg.qid").run Tryz.prog w = .ok (some false) w := by kernel_rfl
theorem met_i_qid (n : Nat) (a : Addr) (w : World) : (method (n + 1) 127 (.agg #[.pointer (some a)]) "loggia/msg.qid").run Tryz.prog w = .ok (128, (.agg #[.pointer (some a)])) w := by kernel_rfl
theorem nil_i_texts (n : Nat) (a : Addr) (w : World) : (nilAhead (n + 1) 127 (.agg #[.pointer (some a)]) "loggia/msg.texts").run Tryz.prog w = .ok (some false) w := by kernel_rfl
theorem met_i_texts (n : Nat) (a : Addr) (w : World) : (method (n + 1) 127 (.agg #[.pointer (some a)]) "loggia/msg.texts").run Tryz.prog w = .ok (132, (.agg #[.pointer (some a)])) w := by kernel_rfl
theorem nil_i_qids (n : Nat) (a : Addr) (w : World) : (nilAhead (n + 1) 127 (.agg #[.pointer (some a)]) "loggia/msg.qids").run Tryz.prog w = .ok (some false) w := by kernel_rfl
theorem met_i_qids (n : Nat) (a : Addr) (w : World) : (method (n + 1) 127 (.agg #[.pointer (some a)]) "loggia/msg.qids").run Tryz.prog w = .ok (129, (.agg #[.pointer (some a)])) w := by kernel_rfl
theorem nil_i_data (n : Nat) (a : Addr) (w : World) : (nilAhead (n + 1) 127 (.agg #[.pointer (some a)]) "loggia/msg.data").run Tryz.prog w = .ok (some false) w := by kernel_rfl
theorem met_i_data (n : Nat) (a : Addr) (w : World) : (method (n + 1) 127 (.agg #[.pointer (some a)]) "loggia/msg.data").run Tryz.prog w = .ok (127, (.agg #[.pointer (some a)])) w := by kernel_rfl
theorem nil_i_stat (n : Nat) (a : Addr) (w : World) : (nilAhead (n + 1) 127 (.agg #[.pointer (some a)]) "loggia/msg.stat").run Tryz.prog w = .ok (some false) w := by kernel_rfl
theorem met_i_stat (n : Nat) (a : Addr) (w : World) : (method (n + 1) 127 (.agg #[.pointer (some a)]) "loggia/msg.stat").run Tryz.prog w = .ok (130, (.agg #[.pointer (some a)])) w := by kernel_rfl
end
end Go.Proofs.YtlmojhlacfjmaaaGreat

namespace Go.Proofs.YtlmojhlacfjmaaaGreat
section
open Go.RowKit
set_option maxRecDepth 100000

theorem out_texts_long (b p i : Nat) (v : Value) (L : List ByteArray) (w : World) (hL : 16 < L.length) (hv : StrsAt w v L) (hc : w.cell? ⟨p, i, none⟩ = some v) :
  Calls Tryz.prog 94 #[.pointer (some ⟨b, 0, none⟩), .pointer (some ⟨p, i, none⟩)] w fun e w' => e = .panicked (errChain 3) ∧ w = w' := by
 obtain ⟨a, c, rfl, g1, g2⟩ := hv.form
 clear hv
 go_enter Tryz.func94, Tryz.ntmps94
 go_wp2_with fail
 refine (out_many_bad b L.length _ hL).mono ?_
 rintro e w1 ⟨rfl, rfl⟩
 go_wp2_with fail
 exact ⟨rfl, rfl, rfl⟩
theorem out_qids_long (b p i : Nat) (v : Value) (L : List QidV) (w : World) (hL : 16 < L.length) (hv : QidsAt w v L) (hc : w.cell? ⟨p, i, none⟩ = some v) :
  Calls Tryz.prog 91 #[.pointer (some ⟨b, 0, none⟩), .pointer (some ⟨p, i, none⟩)] w fun e w' => e = .panicked (errChain 3) ∧ w = w' := by
 obtain ⟨a, c, rfl, g1, g2⟩ := hv.form
 clear hv
 go_enter Tryz.func91, Tryz.ntmps91
 go_wp2_with fail
 refine (out_many_bad b L.length _ hL).mono ?_
 rintro e w1 ⟨rfl, rfl⟩
 go_wp2_with fail
 exact ⟨rfl, rfl, rfl⟩
end
end Go.Proofs.YtlmojhlacfjmaaaGreat
