/- How the reference's messages read texts, bytes, lists' lengths, records (In.text, data, many, stat). Conditions: bounds on lengths. -/
import Derived.Test.YtlmojhlacfjmaaaGreatRStatZ
import Derived.Test.YtlmojhlacfjmaaaGreatBunI
import Derived.Test.YtlmojhlacfjmaaaGreatBunS
import Derived.Deep.DeepCutAuto
namespace Go.Proofs.YtlmojhlacfjmaaaGreat
open Go.RowKit
set_option maxRecDepth 100000
set_option linter.unusedVariables false

theorem rin_bad2 {w : World} {b : Nat} {p : List UInt8 × Nat} (h : RInAt w b p) (e : Nat) : RInAt (w.setCell ⟨b, 2, none⟩ (.int .i64 (e : Int))) b (p.1, e) ∧ OStep b w (w.setCell ⟨b, 2, none⟩ (.int .i64 (e : Int))) := by
 refine ⟨RInIs.setBad h e, ?_⟩
 obtain ⟨v, at_, L, hb, _⟩ := h
 exact ostep_cell hb 2 _ (by intro h; cases h)
theorem RInAt.bad2 {w : World} {b : Nat} {p : List UInt8 × Nat} (h : RInAt w b p) : w.cell? ⟨b, 2, none⟩ = some (.int .i64 (p.2 : Int)) ∧ w.frozen? ⟨b, 2, none⟩ = false := by
 obtain ⟨v, at_, L, hb, _⟩ := h
 exact ⟨block_cell hb 2, block_free hb 2⟩
def mtr (p : List UInt8 × Nat) : List UInt8 × Nat := if te p ≠ 0 ∧ (tr p).2 = 0 then ((tr p).1, 2) else tr p
def RMText (w : World) (b : Nat) (s : ByteArray) (p : List UInt8 × Nat) (e : Ending) (w' : World) : Prop := e = .returned (.string s) ∧ RInAt w' b p ∧ OStep b w w'

set_option maxHeartbeats 1600000 in
theorem rmtext_any (b : Nat) (p : List UInt8 × Nat) (w : World) (hl : p.1.length ≤ 1000000000) (h : RInAt w b p) :
  Calls Tryz.prog 49 #[.pointer (some ⟨b, 0, none⟩)] w (RMText w b (ts p) (mtr p)) := by
 have hc := hid (rtext_at b p w hl h)
 obtain ⟨s, hs⟩ : ∃ s, s = ts p := ⟨_, rfl⟩
 obtain ⟨q, hq⟩ : ∃ q, q = tr p := ⟨_, rfl⟩
 obtain ⟨t, ht⟩ : ∃ t, t = te p := ⟨_, rfl⟩
 have hm : mtr p = if t ≠ 0 ∧ q.2 = 0 then (q.1, 2) else q := by unfold mtr; rw [ht, hq]
 rw [hm, ← hs]
 rw [← hs, ← hq, ← ht] at hc
 clear hm hs hq ht h
 by_cases h0 : t = 0
 ·subst h0
  rw [if_neg (by simp)]
  go_enter Tryz.func49, Tryz.ntmps49
  go_wp2_with fail
  refine hc.out.mono ?_
  rintro e w1 ⟨rfl, h1, hs1⟩
  replace h1 := hid h1
  replace hs1 := hid hs1
  go_wp2_with fail
  go_ret
  exact ⟨rfl, h1.out, hs1.out⟩
 ·have q0 := mayN_ne h0
  by_cases h2 : q.2 = 0
  ·rw [if_pos ⟨h0, h2⟩]
   go_enter Tryz.func49, Tryz.ntmps49
   go_wp2_with fail
   refine hc.out.mono ?_
   rintro e w1 ⟨rfl, h1, hs1⟩
   obtain ⟨c2, f2⟩ := h1.bad2
   rw [h2] at c2
   obtain ⟨r1, r2⟩ := rin_bad2 h1 2
   replace h1 := hid h1
   replace hs1 := hid hs1
   replace r1 := hid r1
   replace r2 := hid r2
   replace h2 := hid h2
   replace h0 := hid h0
   go_wp2_with fail
   go_ret
   exact ⟨rfl, r1.out, hs1.out.trans r2.out⟩
  ·rw [if_neg (fun h => h2 h.2)]
   have q1 : ((q.2 : Int) == 0) = false := by simp; omega
   go_enter Tryz.func49, Tryz.ntmps49
   go_wp2_with fail
   refine hc.out.mono ?_
   rintro e w1 ⟨rfl, h1, hs1⟩
   obtain ⟨c2, f2⟩ := h1.bad2
   replace h1 := hid h1
   replace hs1 := hid hs1
   replace h2 := hid h2
   replace h0 := hid h0
   go_wp2_with fail
   go_ret
   exact ⟨rfl, h1.out, hs1.out⟩

def mnN (p : List UInt8 × Nat) : Nat := if 16 < tv 2 p then 0 else tv 2 p
def mnR (p : List UInt8 × Nat) : List UInt8 × Nat := if 16 < tv 2 p then ((rd 2 p).1, 2) else rd 2 p
def RMMany (w : World) (b : Nat) (p : List UInt8 × Nat) (e : Ending) (w' : World) : Prop := e = .returned (.int .i64 (mnN p : Int)) ∧ RInAt w' b (mnR p) ∧ OStep b w w'

set_option maxHeartbeats 1600000 in
theorem rmmany_any (b : Nat) (p : List UInt8 × Nat) (w : World) (h : RInAt w b p) :
  Calls Tryz.prog 51 #[.pointer (some ⟨b, 0, none⟩)] w (RMMany w b p) := by
 unfold RMMany mnN mnR
 have hc := hid (rtake_at b 2 p w (by omega) (by omega) h)
 have hv := tv_lt 2 p (by omega)
 obtain ⟨n, hn⟩ : ∃ n, n = tv 2 p := ⟨_, rfl⟩
 obtain ⟨q, hq⟩ : ∃ q, q = rd 2 p := ⟨_, rfl⟩
 rw [← hn, ← hq] at hc
 rw [← hn] at hv
 rw [← hn, ← hq]
 clear hn hq h
 have cv : IntKind.i64.wrap (n : Int) = (n : Int) := IntWalk.i64_in _ (by omega)
 replace hv := hid hv
 by_cases h16 : 16 < n
 ·rw [if_pos h16, if_pos h16]
  go_enter Tryz.func51, Tryz.ntmps51
  go_wp2_with fail
  refine hc.out.mono ?_
  rintro e w1 ⟨rfl, h1, hs1⟩
  obtain ⟨c2, f2⟩ := h1.bad2
  obtain ⟨r1, r2⟩ := rin_bad2 h1 2
  replace h1 := hid h1
  replace hs1 := hid hs1
  replace r1 := hid r1
  replace r2 := hid r2
  go_wp2_with fail
  go_ret
  exact ⟨rfl, r1.out, hs1.out.trans r2.out⟩
 ·rw [if_neg h16, if_neg h16]
  go_enter Tryz.func51, Tryz.ntmps51
  go_wp2_with fail
  refine hc.out.mono ?_
  rintro e w1 ⟨rfl, h1, hs1⟩
  replace h1 := hid h1
  replace hs1 := hid hs1
  go_wp2_with fail
  go_ret
  exact ⟨rfl, h1.out, hs1.out⟩

def mdP (p : List UInt8 × Nat) : List UInt8 × Nat := if 8192 < tv 4 p then ((rd 4 p).1, 2) else rd 4 p
def mdB (p : List UInt8 × Nat) : List UInt8 := rawL (tv 4 p) (mdP p).1 (mdP p).2
def mdR (p : List UInt8 × Nat) : List UInt8 × Nat := rd (tv 4 p) (mdP p)

set_option maxHeartbeats 1600000 in
theorem rmdata_any (b : Nat) (p : List UInt8 × Nat) (w : World) (h : RInAt w b p) :
  Calls Tryz.prog 52 #[.pointer (some ⟨b, 0, none⟩)] w (RMText w b (strL (mdB p)) (mdR p)) := by
 have hc := hid (rtake_at b 4 p w (by omega) (by omega) h)
 have hv := tv_lt 4 p (by omega)
 have hm : mdP p = if 8192 < tv 4 p then ((rd 4 p).1, 2) else rd 4 p := rfl
 unfold mdB mdR
 obtain ⟨n, hn⟩ : ∃ n, n = tv 4 p := ⟨_, rfl⟩
 obtain ⟨q, hq⟩ : ∃ q, q = rd 4 p := ⟨_, rfl⟩
 obtain ⟨r, hr⟩ : ∃ r, r = mdP p := ⟨_, rfl⟩
 rw [← hn, ← hq] at hc
 rw [← hn] at hv
 rw [← hn, ← hr]
 rw [← hn, ← hq, ← hr] at hm
 clear hn hq hr h
 have cv : IntKind.i64.wrap (n : Int) = (n : Int) := IntWalk.i64_in _ (by omega)
 have hraw := hid (fun W hR => rin_raw_step b n r.1 r.2 W (by omega) hR)
 replace hv := hid hv
 by_cases h16 : 8192 < n
 ·rw [if_pos h16] at hm
  go_enter Tryz.func52, Tryz.ntmps52
  go_wp2_with fail
  refine hc.out.mono ?_
  rintro e w1 ⟨rfl, h1, hs1⟩
  obtain ⟨c2, f2⟩ := h1.bad2
  obtain ⟨r1, r2⟩ := rin_bad2 h1 2
  obtain ⟨W, hW⟩ : ∃ W, W = w1.setCell ⟨b, 2, none⟩ (.int .i64 2) := ⟨_, rfl⟩
  replace r1 : RInAt W b (q.1, 2) := by rw [hW]; exact r1
  replace r2 : OStep b w1 W := by rw [hW]; exact r2
  rw [← hm] at r1
  replace h1 := hid h1
  replace hs1 := hid (hs1.trans r2)
  replace r1 := hid r1
  replace hm := hid hm
  clear r2
  go_upto_region 4 with (rw [← hW]; replace hW := hid hW)
  try (rw [← hW]; replace hW := hid hW)
  clear c2 f2
  go_wp2_with fail
  refine (hraw.out W r1.out).mono ?_
  rintro e w2 ⟨v', rfl, hb2, h2, hs2⟩
  have k := conv_string _ _ _ hb2
  obtain ⟨a, c, rfl, _, _, _⟩ := hb2.form
  have hs := hid (hs1.out.trans hs2)
  replace hb2 := hid hb2
  replace h2 := hid h2
  replace hs2 := hid hs2
  go_wp2_with fail
  go_ret
  exact ⟨rfl, h2.out, hs.out⟩
 ·rw [if_neg h16] at hm
  subst hm
  go_enter Tryz.func52, Tryz.ntmps52
  go_wp2_with fail
  refine hc.out.mono ?_
  rintro e w1 ⟨rfl, h1, hs1⟩
  replace h1 := hid h1
  replace hs1 := hid hs1
  go_wp2_with fail
  refine (hraw.out w1 h1.out).mono ?_
  rintro e w2 ⟨v', rfl, hb2, h2, hs2⟩
  have k := conv_string _ _ _ hb2
  obtain ⟨a, c, rfl, _, _, _⟩ := hb2.form
  have hs := hid (hs1.out.trans hs2)
  replace hb2 := hid hb2
  replace h2 := hid h2
  replace hs2 := hid hs2
  go_wp2_with fail
  go_ret
  exact ⟨rfl, h2.out, hs.out⟩

def msR (p : List UInt8 × Nat) : List UInt8 × Nat := if (stR p).2 = 0 ∧ (decE (stB p) ≠ 0 ∨ decN (stB p) ≠ (stB p).length) then ((stR p).1, 2) else stR p
def RMStat (w : World) (b : Nat) (s : Stat) (p : List UInt8 × Nat) (e : Ending) (w' : World) : Prop := e = .returned (.agg s.cells) ∧ RInAt w' b p ∧ OStep b w w'

end Go.Proofs.YtlmojhlacfjmaaaGreat
