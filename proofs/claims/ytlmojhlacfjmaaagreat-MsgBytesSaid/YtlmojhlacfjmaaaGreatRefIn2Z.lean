/- What Take, Raw and Text of the reference's In leave as it was, block by block, under bounds on lengths that each theorem names. No further condition. -/
import Derived.Test.YtlmojhlacfjmaaaGreatBunD
import Derived.Test.YtlmojhlacfjmaaaGreatRefInZ
namespace Go.Proofs.YtlmojhlacfjmaaaGreat
open Go.RowKit
set_option maxRecDepth 100000

theorem RInIs.store {w : World} {b : Nat} {l : List UInt8} {e : Nat} (h : RInIs w b l e) {p : Addr} (u : Value) (hf : ¬ Foot w b p.block) : RInIs (w.setCell p u) b l e := by
 obtain ⟨v, at_, L, hb, hl, hr⟩ := h
 have hpb : b ≠ p.block := fun e => hf (.inl e.symm)
 exact ⟨v, at_, L, (block_set_other hpb).trans hb, hl.setCell _ (fun e => hf (.inr ⟨v, block_cell hb 0, e⟩)), hr⟩
theorem RInIs.foot_lt {w : World} {b k : Nat} {l : List UInt8} {e : Nat} (h : RInIs w b l e) (hf : Foot w b k) : k < w.heap.size := by
 obtain ⟨v, at_, L, hb, hl, hne⟩ := h
 rcases hf with rfl | ⟨v', hv, hk⟩
 ·exact lt_of_block hb
 ·rw [block_cell hb 0] at hv
  cases hv
  exact hl.lt hk
theorem RInIs.new {w : World} {b : Nat} {l : List UInt8} {e : Nat} (h : RInIs w b l e) (o : Obj) : ¬ Foot (w.alloc o) b w.heap.size := by
 intro hf
 refine Nat.lt_irrefl w.heap.size (h.foot_lt ?_)
 rcases hf with he | ⟨v, hv, hk⟩
 ·exact .inl he
 ·right
  have hlt := h.lt
  have : (w.alloc o).cell? ⟨b, 0, none⟩ = w.cell? ⟨b, 0, none⟩ := World.cell?_of_block (w := w) (heap_alloc_old w o hlt)
  rw [this] at hv
  exact ⟨v, hv, hk⟩

set_option maxHeartbeats 1200000 in
theorem rin_take_step (b n : Nat) (l : List UInt8) (e : Nat) (w : World) (hn1 : 1 ≤ n) (hn8 : n ≤ 8) (h : RInIs w b l e) :
  Calls Tryz.prog 36 #[.pointer (some ⟨b, 0, none⟩), .int .i64 (n : Int)] w fun en w' => en = .returned (.int .u64 (takeV n l e : Int)) ∧ RInIs w' b (restL n l e) (restE n l e) ∧ OStep b w w' := by
 have hR := h
 obtain ⟨v, at_, L, hb, hv, hne, hat, hLL, rfl⟩ := h
 have hbZ := hid hb
 have hc0 : w.cell? ⟨b, 0, none⟩ = some v := block_cell hb 0
 have hc1 : w.cell? ⟨b, 0 + 1, none⟩ = some (.int .i64 (at_ : Int)) := block_cell hb 1
 have hc2 : w.cell? ⟨b, 0 + 2, none⟩ = some (.int .i64 (e : Int)) := block_cell hb 2
 have hf1 : w.frozen? ⟨b, 0 + 1, none⟩ = false := block_free hb 1
 have hf2 : w.frozen? ⟨b, 0 + 2, none⟩ = false := block_free hb 2
 obtain ⟨a, c, rfl, hcl, hcm, hcn⟩ := hv.form
 unfold maxLen at hcm
 by_cases he : e = 0
 ·subst he
  have hsub : IntKind.i64.wrap ((L.length : Int) - (at_ : Int)) = (L.length : Int) - at_ := IntWalk.i64_in _ (by omega)
  by_cases hs : (L.drop at_).length < n
  ·have E1 := hid (show takeV n (L.drop at_) 0 = 0 by unfold takeV; rw [if_neg (by simp), if_pos hs])
   have E2 := hid (show restL n (L.drop at_) 0 = L.drop at_ by unfold restL; rw [if_neg (by simp), if_pos hs])
   have E3 := hid (show restE n (L.drop at_) 0 = 4 by unfold restE; rw [if_neg (by simp), if_pos hs])
   have hst := hR.setBad 4
   have hs2 : L.length - at_ < n := by simpa using hs
   skip
   replace hb := hid hb
   replace hs := hid hs
   go_enter Tryz.func36, Tryz.ntmps36
   go_wp2_with fail
   go_quiet (fail)
   go_wp2_with fail
   go_ret
   exact ⟨by rw [E1.out]; rfl, by rw [E2.out, E3.out]; exact (hR.drewN nq).setBad 4, (OStep.pure (lt_of_block hbZ.out) (bdrewN (Below.refl _ _) nq)).trans (ostep_cell (w := w.drewN nq) hbZ.out 2 _ (by intro h; cases h))⟩
  ·have E1 := hid (show takeV n (L.drop at_) 0 = leN ((L.drop at_).take n) by unfold takeV; rw [if_neg (by simp), if_neg hs])
   have E2 := hid (show restL n (L.drop at_) 0 = (L.drop at_).drop n by unfold restL; rw [if_neg (by simp), if_neg hs])
   have E3 := hid (show restE n (L.drop at_) 0 = 0 by unfold restE; rw [if_neg (by simp), if_neg hs])
   have hs2 : n ≤ L.length - at_ := by simpa using hs
   have hst := fun m => hid (RInIs.setAt (w := w.drewN m) (n := n) (hb : (w.drewN m).heap[b]? = _) (hv.below (bdrewN (Below.refl _ _) m)) hne (by omega) hLL)
   replace hb := hid hb
   replace hs := hid hs
   go_enter Tryz.func36, Tryz.ntmps36
   go_wp2_with fail
   go_quiet (fail)
   go_wp2_with fail
   go_loopw [5, 6] (fun x i wr => ∃ k m : Nat, k ≤ n ∧ i = .int .i64 (k : Int) ∧ x = .int .u64 (leN ((L.drop at_).take k) : Int) ∧ wr = w.drewN m) (fun _ i _ => n - (intOf i).toNat)
   case atStart => exact ⟨0, nq, by omega, rfl, rfl, rfl⟩
   case round =>
    obtain ⟨k, m, hk, rfl, rfl, rfl⟩ := hrel
    by_cases hlt : k < n
    ·have hil : at_ + k < L.length := by omega
     obtain ⟨bb, o, rfl, hcell⟩ := hv.cell (at_ + k) hil
     have hdl : k < (L.drop at_).length := by simp; omega
     have hge : (L.drop at_)[k] = L[at_ + k] := by simp
     have hsn : (L.drop at_).take (k + 1) = (L.drop at_).take k ++ [L[at_ + k]] := by rw [List.take_succ_eq_append_getElem hdl, hge]
     have hkl : ((L.drop at_).take k).length = k := by simp; omega
     have hb0 := leN_lt ((L.drop at_).take k)
     rw [hkl] at hb0
     have hor := hid (or_take' hb0 L[at_ + k].toNat_lt (show k < 8 by omega))
     have hfin : Hid (leN ((L.drop at_).take (k + 1)) = leN ((L.drop at_).take k) + L[at_ + k].toNat * 256 ^ k) := hid (by rw [hsn, leN_snoc, hkl])
     clear hsn hkl hb0 hge
     have q1 : IntKind.i64.wrap ((at_ : Int) + (k : Int)) = (at_ : Int) + k := IntWalk.i64_in _ (by omega)
     have q2 : IntKind.i64.wrap (8 * (k : Int)) = 8 * (k : Int) := IntWalk.i64_in _ (by omega)
     have q3 : 0 ≤ (at_ : Int) + (k : Int) ∧ (at_ : Int) + (k : Int) < (L.length : Int) := by omega
     have q4 : ((at_ : Int) + (k : Int)).toNat = at_ + k := by omega
     go_wp2_with fail
     go_quiet (fail)
     go_wp2_with fail
     go_roundw
     case rel => exact ⟨k + 1, m + nq, by omega, by go_num, by rw [hor.out, hfin.out], rfl⟩
     case measure => simp [intOf]; omega
    ·obtain rfl : k = n := by omega
     go_wp2_with fail
     go_ret
     exact ⟨by rw [E1.out]; rfl, by rw [E2.out, E3.out]; exact (hst m).out, (OStep.pure (lt_of_block hbZ.out) (bdrewN (Below.refl _ _) m)).trans (ostep_cell (w := w.drewN m) hbZ.out 1 _ (by intro h; cases h))⟩
 ·have E1 := hid (show takeV n (L.drop at_) e = 0 by simp [takeV, he])
  have E2 := hid (show restL n (L.drop at_) e = L.drop at_ by simp [restL, he])
  have E3 := hid (show restE n (L.drop at_) e = e by simp [restE, he])
  have k0 : ((e : Int) != 0) = true := by simpa using he
  replace hb := hid hb
  clear he
  go_enter Tryz.func36, Tryz.ntmps36
  go_wp2_with fail
  go_ret
  exact ⟨by rw [E1.out]; rfl, by rw [E2.out, E3.out]; exact hR, OStep.refl _ _⟩

def RRawPost2 (w : World) (b : Nat) (l : List UInt8) (n e : Nat) (en : Ending) (w' : World) : Prop :=
 ∃ v', en = .returned v' ∧ BytesAt w' v' (rawL n l e) ∧ RInIs w' b (restL n l e) (restE n l e) ∧ OStep b w w'

set_option maxHeartbeats 1600000 in
theorem rin_raw_step (b n : Nat) (l : List UInt8) (e : Nat) (w : World) (hn : n < 9223372036854775808) (h : RInIs w b l e) :
  Calls Tryz.prog 62 #[.pointer (some ⟨b, 0, none⟩), .int .i64 (n : Int)] w (RRawPost2 w b l n e) := by
 have hR := h
 obtain ⟨v, at_, L, hb, hv, hne, hat, hLL, rfl⟩ := h
 have hbZ := hid hb
 have hc0 : w.cell? ⟨b, 0, none⟩ = some v := block_cell hb 0
 have hc1 : w.cell? ⟨b, 0 + 1, none⟩ = some (.int .i64 (at_ : Int)) := block_cell hb 1
 have hc2 : w.cell? ⟨b, 0 + 2, none⟩ = some (.int .i64 (e : Int)) := block_cell hb 2
 have hf1 : w.frozen? ⟨b, 0 + 1, none⟩ = false := block_free hb 1
 have hf2 : w.frozen? ⟨b, 0 + 2, none⟩ = false := block_free hb 2
 have hblt := lt_of_block hb
 obtain ⟨a, c, rfl, hcl, hcm, hcn⟩ := hv.form
 unfold maxLen at hcm
 by_cases he : e = 0
 ·subst he
  have hsub : IntKind.i64.wrap ((L.length : Int) - (at_ : Int)) = (L.length : Int) - at_ := IntWalk.i64_in _ (by omega)
  by_cases hs : (L.drop at_).length < n
  ·have E1 := hid (show rawL n (L.drop at_) 0 = [] by unfold rawL; rw [if_neg (by simp), if_pos hs])
   have E2 := hid (show restL n (L.drop at_) 0 = L.drop at_ by unfold restL; rw [if_neg (by simp), if_pos hs])
   have E3 := hid (show restE n (L.drop at_) 0 = 4 by unfold restE; rw [if_neg (by simp), if_pos hs])
   have hs2 : L.length - at_ < n := by simpa using hs
   replace hb := hid hb
   replace hs := hid hs
   go_enter Tryz.func62, Tryz.ntmps62
   go_wp2_with fail
   go_quiet (fail)
   go_wp2_with fail
   go_ret
   exact ⟨_, rfl, by rw [E1.out]; exact RowAt.nil, by rw [E2.out, E3.out]; exact (hR.drewN nq).setBad 4, (OStep.pure (lt_of_block hbZ.out) (bdrewN (Below.refl _ _) nq)).trans (ostep_cell (w := w.drewN nq) hbZ.out 2 _ (by intro h; cases h))⟩
  ·have E1 := hid (show rawL n (L.drop at_) 0 = (L.drop at_).take n by unfold rawL; rw [if_neg (by simp), if_neg hs])
   have E2 := hid (show restL n (L.drop at_) 0 = (L.drop at_).drop n by unfold restL; rw [if_neg (by simp), if_neg hs])
   have E3 := hid (show restE n (L.drop at_) 0 = 0 by unfold restE; rw [if_neg (by simp), if_neg hs])
   have hs2 : n ≤ L.length - at_ := by simpa using hs
   replace hb := hid hb
   replace hs := hid hs
   go_enter Tryz.func62, Tryz.ntmps62
   go_wp2_with fail
   go_quiet (fail)
   go_wp2_with fail
   have q1 : IntKind.i64.wrap ((at_ : Int) + (n : Int)) = (at_ : Int) + n := IntWalk.i64_in _ (by omega)
   have q4 : ((at_ : Int) + (n : Int)).toNat = at_ + n := by omega
   have hbw : Below w.heap.size w (w.drewN nq) := bdrewN (Below.refl _ _) nq
   have hv1 := hv.below hbw
   have hb1 : (w.drewN nq).heap[b]? = _ := hb.out
   have hsz : (w.drewN nq).heap.size = w.heap.size := rfl
   generalize w.drewN nq = w1 at *
   have hc0' : w1.cell? ⟨b, 0, none⟩ = some (.slice a L.length c) := block_cell hb1 0
   have hc1' : w1.cell? ⟨b, 1, none⟩ = some (.int .i64 (at_ : Int)) := block_cell hb1 1
   have hf1' : w1.frozen? ⟨b, 1, none⟩ = false := block_free hb1 1
   have hblt1 : b < w1.heap.size := lt_of_block hb1
   replace hb1 := hid hb1
   clear hc0 hc1 hc2 hf1 hf2 hsz
   by_cases hcat : c = at_
   ·have hsrc := hid ((hv1.drop0 hcat).take n 0 (by simp; omega) (by omega) (by omega))
    subst hcat
    have b1 : (0 : Int) ≤ (c : Int) := by omega
    have b2 : (c : Int) ≤ (c : Int) + (n : Int) := by omega
    have b3 : (c : Int) + (n : Int) ≤ (c : Int) := by omega
    have b4 : (0 : Int) ≤ (c : Int) + (n : Int) := by omega
    go_region_held3 (fun w' => w'.cell? ⟨b, 0, none⟩ = some (.slice a L.length c) ∧ w'.cell? ⟨b, 1, none⟩ = some (.int .i64 (c : Int)))
     (first | go_keep | exact ⟨k0, k1⟩)
     ((refine step_append_row elemU8 _ (by rfl) (.tmp 34) (.tmp 49) (by rfl) w1.heap.size (.slice (some ⟨w1.heap.size, 0, none⟩) 0 0) 0 [] (by rfl) (own_empty w1 5 1).drew _ ((L.drop c).take n).length (((L.drop c).take n).map byteV) (by rfl) (hsrc.out.below ((((Below.refl _ _).alloc (Nat.le_refl _) _)).drew)) (bytes_oneCell _) (by unfold maxLen; simp; omega) (by simp; omega) (by simp) ?_; intro a' c' w' h2 h3; have hbw' := (((Below.refl w1.heap.size w1).alloc (Nat.le_refl _) (.cells #[] 5)).drew).grown h3 (by simp) (fun k hk => by cases hk; exact Nat.le_refl _); have k0 := (hbw'.cell (p := ⟨b, 0, none⟩) hblt1).trans hc0'; have k1 := (hbw'.cell (p := ⟨b, 1, none⟩) hblt1).trans hc1'; have k2 := (hbw'.frozen (p := ⟨b, 1, none⟩) hblt1).trans hf1'))
    go_wp2_with fail
    go_ret
    obtain rfl : n = 0 := by omega
    have hlen : ((L.drop c).take 0).length = 0 := rfl
    simp only [Nat.zero_add, List.nil_append] at h2
    rw [hlen] at h2
    have hB := BytesAt.of_own h2 rfl
    have hne2 : (Value.slice a' 0 c').ownBlock ≠ some b := fun he => by have := (h2.lt b he).1; omega
    have hb2 := (hbw'.block b hblt1).trans hb1.out
    have hst := RInIs.setAt (n := 0) hb2 (hv1.below hbw') hne (by omega) hLL
    refine ⟨_, rfl, by rw [E1.out]; exact hB.setCell (p := ⟨b, 1, none⟩) _ hne2, by rw [E2.out, E3.out]; exact hst, ?_⟩
    exact ((OStep.pure hblt hbw).trans (OStep.pure hblt1 hbw')).trans (ostep_cell hb2 1 _ (by intro h; cases h))
   ·have hsrc := hid (((hv1.drop1 at_ hat).take n (c - at_) (by simp; omega) (by omega) (Nat.le_refl _)))
    have b1 : (0 : Int) ≤ (at_ : Int) := by omega
    have b2 : (at_ : Int) ≤ (at_ : Int) + (n : Int) := by omega
    have b3 : (at_ : Int) + (n : Int) ≤ (c : Int) := by omega
    have b4 : (0 : Int) ≤ (at_ : Int) + (n : Int) := by omega
    go_region_held3 (fun w' => w'.cell? ⟨b, 0, none⟩ = some (.slice a L.length c) ∧ w'.cell? ⟨b, 1, none⟩ = some (.int .i64 (at_ : Int)))
     (first | go_keep | exact ⟨k0, k1⟩)
     ((refine step_append_row elemU8 _ (by rfl) (.tmp 34) (.tmp 49) (by rfl) w1.heap.size (.slice (some ⟨w1.heap.size, 0, none⟩) 0 0) 0 [] (by rfl) (own_empty w1 5 1).drew _ ((L.drop at_).take n).length (((L.drop at_).take n).map byteV) (by rfl) (hsrc.out.below ((((Below.refl _ _).alloc (Nat.le_refl _) _)).drew)) (bytes_oneCell _) (by unfold maxLen; simp; omega) (by simp; omega) (by simp) ?_; intro a' c' w' h2 h3; have hbw' := (((Below.refl w1.heap.size w1).alloc (Nat.le_refl _) (.cells #[] 5)).drew).grown h3 (by simp) (fun k hk => by cases hk; exact Nat.le_refl _); have k0 := (hbw'.cell (p := ⟨b, 0, none⟩) hblt1).trans hc0'; have k1 := (hbw'.cell (p := ⟨b, 1, none⟩) hblt1).trans hc1'; have k2 := (hbw'.frozen (p := ⟨b, 1, none⟩) hblt1).trans hf1'))
    go_wp2_with fail
    go_ret
    have hlen : ((L.drop at_).take n).length = n := by simp; omega
    simp only [Nat.zero_add, List.nil_append] at h2
    rw [hlen] at h2
    have hB := BytesAt.of_own h2 rfl
    have hne2 : (Value.slice a' n c').ownBlock ≠ some b := fun he => by have := (h2.lt b he).1; omega
    have hb2 := (hbw'.block b hblt1).trans hb1.out
    have hst := RInIs.setAt (n := n) hb2 (hv1.below hbw') hne (by omega) hLL
    refine ⟨_, rfl, by rw [E1.out]; exact hB.setCell (p := ⟨b, 1, none⟩) _ hne2, by rw [E2.out, E3.out]; exact hst, ?_⟩
    exact ((OStep.pure hblt hbw).trans (OStep.pure hblt1 hbw')).trans (ostep_cell hb2 1 _ (by intro h; cases h))
 ·have E1 := hid (show rawL n (L.drop at_) e = [] by simp [rawL, he])
  have E2 := hid (show restL n (L.drop at_) e = L.drop at_ by simp [restL, he])
  have E3 := hid (show restE n (L.drop at_) e = e by simp [restE, he])
  have k0 : ((e : Int) != 0) = true := by simpa using he
  replace hb := hid hb
  clear he
  go_enter Tryz.func62, Tryz.ntmps62
  go_wp2_with fail
  go_ret
  exact ⟨_, rfl, by rw [E1.out]; exact RowAt.nil, by rw [E2.out, E3.out]; exact hR, OStep.refl _ _⟩

set_option maxHeartbeats 800000 in
theorem rin_text_step (b : Nat) (l : List UInt8) (e : Nat) (w : World) (_hl : l.length ≤ 1000000000) (h : RInIs w b l e) :
  Calls Tryz.prog 61 #[.pointer (some ⟨b, 0, none⟩)] w fun en w' => en = .returned (.tuple #[.string (tkStr l e), .int .i64 (tkErr l e : Int)]) ∧ RInIs w' b (tkL l e) (tkE l e) ∧ OStep b w w' := by
 have hv := takeV_lt 2 l e (by omega)
 go_enter Tryz.func61, Tryz.ntmps61
 go_wp2_with fail
 refine (rin_take_step b 2 l e w (by omega) (by omega) h).mono ?_
 rintro en w1 ⟨rfl, h1, hb1⟩
 go_wp2_with fail
 have hl1 := restL_le 2 l e
 refine (rin_raw_step b (takeV 2 l e) (restL 2 l e) (restE 2 l e) w1 (by omega) h1).mono ?_
 rintro en w2 ⟨v2, rfl, hv2, h2, hb2⟩
 have hcv := conv_string w2 v2 _ hv2
 replace h2 : RInIs w2 b (tkL l e) (tkE l e) := h2
 have hrt : tkE l e = 0 → (rawL (takeV 2 l e) (restL 2 l e) (restE 2 l e)).length = takeV 2 l e := fun h => rawL_take h
 have D1 : Hid (tkErr l e = if tkE l e ≠ 0 then tkE l e else mayN (strL (rawL (takeV 2 l e) (restL 2 l e) (restE 2 l e)))) := hid rfl
 have D2 : Hid (tkStr l e = if tkErr l e ≠ 0 then ByteArray.empty else strL (rawL (takeV 2 l e) (restL 2 l e) (restE 2 l e))) := hid rfl
 have hrl := rawL_le (takeV 2 l e) (restL 2 l e) (restE 2 l e)
 have hb := hb1.trans hb2
 obtain ⟨vv, at_, L, hbb, _⟩ := id h2
 have hc2 : w2.cell? ⟨b, 0 + 2, none⟩ = some (.int .i64 (tkE l e : Int)) := block_cell hbb 2
 clear hv2 hb2 hb1 h1 h hbb
 generalize rawL (takeV 2 l e) (restL 2 l e) (restE 2 l e) = r at *
 generalize takeV 2 l e = n at *
 generalize hE2 : tkE l e = e2 at *
 replace hE2 := hid hE2
 by_cases he : e2 = 0
 ·subst he
  rw [if_neg (by simp)] at D1
  obtain rfl : r.length = n := hrt rfl
  clear hrt
  have hm2 : mayN (strL r) = if 64 < r.length then 3 else if !validB (strL r) then 2 else 0 := by
   unfold mayN S.may; rw [strL_data]; rfl
  by_cases h64 : 64 < r.length
  ·rw [if_pos h64] at hm2
   have D4 := hid (D1.out.trans hm2)
   have D3 := D2.out
   rw [D4.out, if_pos (by omega)] at D3
   replace D3 := hid D3
   clear D1 D2 hm2
   go_wp2_with fail
   go_ret2
   exact ⟨by rw [D4.out, D3.out]; rfl, by rw [hE2.out]; exact h2, hb⟩
  ·rw [if_neg h64] at hm2
   cases hvb : validB (strL r) with
   | false =>
    rw [hvb] at hm2
    have D4 := hid (D1.out.trans hm2)
    have D3 := D2.out
    rw [D4.out] at D3
    rw [if_pos (by simp)] at D3
    replace D3 := hid D3
    replace hvb := hid hvb
    clear D1 D2 hm2
    go_wp2_with fail
    refine (ref_valid_any (strL r) w2 (by rw [strL_size]; unfold maxLen; omega)).mono ?_
    rw [hvb.out]
    rintro en w3 ⟨rfl, rfl⟩
    go_wp2_with fail
    go_ret2
    exact ⟨by rw [D4.out, D3.out]; rfl, by rw [hE2.out]; exact h2, hb⟩
   | true =>
    rw [hvb] at hm2
    have D4 := hid (D1.out.trans hm2)
    have D3 := D2.out
    rw [D4.out] at D3
    rw [if_neg (by simp)] at D3
    replace D3 := hid D3
    replace hvb := hid hvb
    clear D1 D2 hm2
    go_wp2_with fail
    refine (ref_valid_any (strL r) w2 (by rw [strL_size]; unfold maxLen; omega)).mono ?_
    rw [hvb.out]
    rintro en w3 ⟨rfl, rfl⟩
    go_wp2_with fail
    go_ret2
    exact ⟨by rw [D4.out, D3.out]; rfl, by rw [hE2.out]; exact h2, hb⟩
 ·have D4 := D1.out
  rw [if_pos he] at D4
  have D3 := D2.out
  rw [if_pos (by rw [D4]; exact he)] at D3
  replace D3 := hid D3
  replace D4 := hid D4
  have k0 : ((e2 : Int) != 0) = true := by simpa using he
  clear D2 D1 he hrt
  go_wp2_with fail
  go_quiet (fail)
  go_wp2_with fail
  go_ret2
  exact ⟨by rw [D4.out, D3.out]; rfl, by rw [hE2.out]; exact h2.drewN nq, hb.trans (OStep.pure h2.lt (bdrewN (Below.refl _ _) nq))⟩
end Go.Proofs.YtlmojhlacfjmaaaGreat
