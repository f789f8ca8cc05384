/- Write of package fsys. Conditions: in the statements.
Read of package fsys. Conditions: in the statements. -/
import Derived.Test.YtkefjeabckainaaGreatFtB21
import Derived.Test.YtkefjeabckainaaGreatFtB23
namespace Go.Proofs.YtkefjeabckainaaGreat
set_option maxRecDepth 100000
set_option linter.unusedVariables false
section
open Go.RowKit Go.Maps
set_option maxHeartbeats 3200000 in
theorem Z8h (b m p n:Nat) (v:Value) (f:FsV) (u:Usr) (who:ByteArray) (q off:Nat) (data:ByteArray) (w:World) (h:FSo w b m v p f u n) (ht:TrOk f.t.n) (hne:f.t.n≠[]) (hoff:off<18446744073709551616) (hda:data.size≤1000000) :
  Calls Tryz.prog 12 #[.pointer (some ⟨b,0,none⟩),.string who,.int .u64 (q:Int),.int .u64 (off:Int),.string data] w (Z5W b m p n (Z30 f who q off data).1 u (.int .u32 ((Z30 f who q off data).2.1:Int)) (Z30 f who q off data).2.2 w):=by
 have mixed:Tryz.prog.follows Departure.mixedOrders=true:=by first | kernel_rfl | decide
 obtain⟨a0,c0,rfl,g1,g2⟩:=h.row.form
 obtain⟨W,hW⟩ : ∃ W,W=w.alloc (.cells #[.int .i64 0] 33):=⟨_,rfl⟩
 have hb0:Below w.heap.size w W:=by rw[hW];exact(Below.refl _ _).alloc (Nat.le_refl _) _
 have hK0:=hid (show W.drew.heap[w.heap.size]?=some (.cells #[.int .i64 0] 33 (0,0)) by show W.heap[w.heap.size]?=_;rw[hW];exact heap_alloc_new _ _)
 have hF0:=hid ((h.below hb0).below ((Below.refl _ _).drew))
 have hS0:=hid ((FStep.pure (b:=b) (m:=m) hb0).trans (FStep.pure ((Below.refl _ _).drew)))
 have hbw:=lt_of_block h.blk
 have hmw:=h.map.lt
 have q0:=Z0 (h.below hb0).blk 0
 have q1:=Z0 (h.below hb0).blk 1
 have q3:=Z0 (h.below hb0).blk 3
 have hput:=hid (ZaW _ f.t.next f.t.n q off data who f.now W.drew hF0.out.row ht hoff hda)
 rw[show(⟨f.t.next,f.t.n⟩:Tr)=f.t from rfl]at hput
 have hWE:Hid (Z30 f who q off data=if (Z3V f.t q off data who f.now).2≠0 then(f,0,(Z3V f.t q off data who f.now).2) else(f.set (Z3V f.t q off data who f.now).1,data.size,0)):=hid rfl
 generalize Z3V f.t q off data who f.now=R at *
 obtain⟨⟨x',l'⟩,E⟩:=R
 simp only at hWE hput
 replace hne:=hid hne
 have hsz:W.drew.heap.size=W.heap.size:=rfl
 have hsz0:=hid hb0.size
 have hlt0:=hid (lt_of_block hK0.out)
 have hcv:IntKind.u32.wrap (data.size:Int)=(data.size:Int):=by unfold IntKind.wrap;simp[IntKind.bits,IntKind.signed];omega
 clear h hb0
 replace hsz:=hid hsz
 go_enter_defers Tryz.func12,Tryz.ntmps12
 go_wp2_with (rw[←hW];replace hW:=hid hW)
 try (rw[←hW];replace hW:=hid hW)
 by_cases hE:E=0
 ·subst hE
  have hWE2:Hid (Z30 f who q off data=(f.set ⟨x',l'⟩,data.size,0)):=hid (by rw[hWE.out];simp)
  clear hWE
  refine ZX [(10,.int .u32 0),(11,.pointer (some ⟨w.heap.size,0,none⟩))] mixed (by kernel_rfl) ⟨rfl,rfl,trivial⟩ ?_
  refine wpAny_take (i:=0) (v:=?_) rfl (by kernel_rfl) (by kernel_rfl) (by kernel_rfl) (fun _ _ _ h=>h) (Or.inl ⟨by rfl,?_⟩) ?_
  rotate_left
  ·intro w;go_simp;try (with_reducible rfl)
  refine wpAny_take (i:=1) (v:=?_) rfl (by kernel_rfl) (by kernel_rfl) (by kernel_rfl) (fun _ _ _ h=>h) (Or.inl ⟨by rfl,?_⟩) ?_
  rotate_left
  ·intro w;go_simp;try (with_reducible rfl)
  refine wpAny_take (i:=2) (v:=?_) rfl (by kernel_rfl) (by kernel_rfl) (by kernel_rfl) (fun _ _ _ h=>h) (Or.inl ⟨by rfl,?_⟩) ?_
  rotate_left
  ·intro w;go_simp;try (with_reducible rfl)
  refine wpAny_take (i:=3) (v:=?_) rfl (by kernel_rfl) (by kernel_rfl) (by kernel_rfl) (fun _ _ _ h=>h) (Or.inl ⟨by rfl,?_⟩) ?_
  rotate_left
  ·intro w;go_simp;try (with_reducible rfl)
  refine wpAny_take (i:=5) (v:=?_) rfl (by kernel_rfl) (by kernel_rfl) (by kernel_rfl) (fun _ _ _ h=>h) (Or.inl ⟨by rfl,?_⟩) ?_
  rotate_left
  ·intro w;go_simp;try (with_reducible rfl)
  refine wpAny_take (i:=6) (v:=?_) rfl (by kernel_rfl) (by kernel_rfl) (by kernel_rfl) (fun _ _ _ h=>h) (Or.inl ⟨by rfl,?_⟩) ?_
  rotate_left
  ·intro w;go_simp;try (with_reducible rfl)
  refine wpAny_take (i:=7) (v:=?_) rfl (by kernel_rfl) (by kernel_rfl) (by kernel_rfl) (fun _ _ _ h=>h) (Or.inl ⟨by rfl,?_⟩) ?_
  rotate_left
  ·intro w;go_simp;try (with_reducible rfl)
  refine wpAny_take (i:=8) (v:=?_) rfl (by kernel_rfl) (by kernel_rfl) (by kernel_rfl) (fun _ _ _ h=>h) (Or.inl ⟨by rfl,?_⟩) ?_
  rotate_left
  ·intro w;go_simp;try (with_reducible rfl)
  refine wpAny_take (i:=9) (v:=?_) rfl (by kernel_rfl) (by kernel_rfl) (by kernel_rfl) (fun _ _ _ h=>h) (Or.inl ⟨by rfl,?_⟩) ?_
  rotate_left
  ·intro w;go_simp;try (with_reducible rfl)
  refine wpAny_take (i:=10) (v:=?_) rfl (by kernel_rfl) (by kernel_rfl) (by kernel_rfl) (fun _ _ _ h=>h) (Or.inl ⟨by rfl,?_⟩) ?_
  rotate_left
  ·intro w;go_simp;try (with_reducible rfl)
  refine wpAny_take (i:=11) (v:=?_) rfl (by kernel_rfl) (by kernel_rfl) (by kernel_rfl) (fun _ _ _ h=>h) (Or.inl ⟨by rfl,?_⟩) ?_
  rotate_left
  ·intro w;go_simp;try (with_reducible rfl)
  refine wpAny_ready (rs:=[4,12]) (by kernel_rfl) (by simp) ?_
  refine AllReady.cons rfl (fun K hK=>?_) ?_
  go_simp
  refine hK _ _ ?_;clear hK K
  refine wpAny_ready (rs:=[12]) (by kernel_rfl) (by simp) ?_
  refine AllReady.cons rfl (fun K hK=>?_) ?_
  go_simp
  refine hK _ _ ?_;clear hK K
  refine wpAny_ready (rs:=[13]) (by kernel_rfl) (by simp) ?_
  refine AllReady.cons rfl (fun K hK=>?_) ?_
  go_simp
  go_wp2_with (first
   |(go_at_call 46;(with_reducible refine hput.out.mono ?_);rintro e w1 ⟨v',rfl,hv1,hf1,hb1⟩;obtain⟨a',c',rfl,_,_⟩:=hv1.form;have hnx:=hid (Z1E b m p n _ (.slice a' l'.length c') f u ⟨x',l'⟩ w1 (hF0.out.below hb1) hv1 (fun e=>by have:=hf1 _ e;have:=hsz.out;have:=hsz0.out;omega) (fun e=>by have:=hf1 _ e;have:=hsz.out;have:=hsz0.out;omega));have ho1:=hid (show(Value.slice a' l'.length c').ownBlock≠some w.heap.size from fun e=>by have:=hf1 _ e;have:=hlt0.out;omega);replace hb1:=hid hb1;clear hv1 hf1)
   |(go_at_call 43;(with_reducible refine hnx.out.mono ?_);rintro e w2 ⟨rfl,hF2,hs2⟩;replace hF2:=hid hF2;replace hs2:=hid hs2))
  refine wpAny_take (i:=14) (v:=?_) rfl (by kernel_rfl) (by kernel_rfl) (by kernel_rfl) (fun _ _ _ h=>h) (Or.inl ⟨by rfl,?_⟩) ?_
  rotate_left
  ·intro w;go_simp;try (with_reducible rfl)
  refine wpAny_take (i:=15) (v:=?_) rfl (by kernel_rfl) (by kernel_rfl) (by kernel_rfl) (fun _ _ _ h=>h) (Or.inl ⟨by rfl,?_⟩) ?_
  rotate_left
  ·intro w;go_simp;try (with_reducible rfl)
  refine wpAny_ready (rs:=[16]) (by kernel_rfl) (by simp) ?_
  refine AllReady.cons rfl (fun K hK=>?_) ?_
  go_simp
  go_wp2_with (first
   |(go_at_call 46;(with_reducible refine hput.out.mono ?_);rintro e w1 ⟨v',rfl,hv1,hf1,hb1⟩;obtain⟨a',c',rfl,_,_⟩:=hv1.form;have hnx:=hid (Z1E b m p n _ (.slice a' l'.length c') f u ⟨x',l'⟩ w1 (hF0.out.below hb1) hv1 (fun e=>by have:=hf1 _ e;have:=hsz.out;have:=hsz0.out;omega) (fun e=>by have:=hf1 _ e;have:=hsz.out;have:=hsz0.out;omega));have ho1:=hid (show(Value.slice a' l'.length c').ownBlock≠some w.heap.size from fun e=>by have:=hf1 _ e;have:=hlt0.out;omega);replace hb1:=hid hb1;clear hv1 hf1)
   |(go_at_call 43;(with_reducible refine hnx.out.mono ?_);rintro e w2 ⟨rfl,hF2,hs2⟩;replace hF2:=hid hF2;replace hs2:=hid hs2))
  refine wpAny_done (by kernel_rfl) ?_ _
  rotate_left
  exact AllReady.nil
  exact AllReady.nil
  exact AllReady.nil
  refine AllReady.cons rfl (fun K hK=>?_) ?_
  go_simp
  refine hK _ _ ?_;clear hK K
  refine wpAny_ready (rs:=[4]) (by kernel_rfl) (by simp) ?_
  refine AllReady.cons rfl (fun K hK=>?_) ?_
  go_simp
  refine hK _ _ ?_;clear hK K
  refine wpAny_ready (rs:=[13]) (by kernel_rfl) (by simp) ?_
  refine AllReady.cons rfl (fun K hK=>?_) ?_
  go_simp
  go_wp2_with (first
   |(go_at_call 46;(with_reducible refine hput.out.mono ?_);rintro e w1 ⟨v',rfl,hv1,hf1,hb1⟩;obtain⟨a',c',rfl,_,_⟩:=hv1.form;have hnx:=hid (Z1E b m p n _ (.slice a' l'.length c') f u ⟨x',l'⟩ w1 (hF0.out.below hb1) hv1 (fun e=>by have:=hf1 _ e;have:=hsz.out;have:=hsz0.out;omega) (fun e=>by have:=hf1 _ e;have:=hsz.out;have:=hsz0.out;omega));have ho1:=hid (show(Value.slice a' l'.length c').ownBlock≠some w.heap.size from fun e=>by have:=hf1 _ e;have:=hlt0.out;omega);replace hb1:=hid hb1;clear hv1 hf1)
   |(go_at_call 43;(with_reducible refine hnx.out.mono ?_);rintro e w2 ⟨rfl,hF2,hs2⟩;replace hF2:=hid hF2;replace hs2:=hid hs2))
  refine wpAny_take (i:=14) (v:=?_) rfl (by kernel_rfl) (by kernel_rfl) (by kernel_rfl) (fun _ _ _ h=>h) (Or.inl ⟨by rfl,?_⟩) ?_
  rotate_left
  ·intro w;go_simp;try (with_reducible rfl)
  refine wpAny_take (i:=15) (v:=?_) rfl (by kernel_rfl) (by kernel_rfl) (by kernel_rfl) (fun _ _ _ h=>h) (Or.inl ⟨by rfl,?_⟩) ?_
  rotate_left
  ·intro w;go_simp;try (with_reducible rfl)
  refine wpAny_ready (rs:=[16]) (by kernel_rfl) (by simp) ?_
  refine AllReady.cons rfl (fun K hK=>?_) ?_
  go_simp
  go_wp2_with (first
   |(go_at_call 46;(with_reducible refine hput.out.mono ?_);rintro e w1 ⟨v',rfl,hv1,hf1,hb1⟩;obtain⟨a',c',rfl,_,_⟩:=hv1.form;have hnx:=hid (Z1E b m p n _ (.slice a' l'.length c') f u ⟨x',l'⟩ w1 (hF0.out.below hb1) hv1 (fun e=>by have:=hf1 _ e;have:=hsz.out;have:=hsz0.out;omega) (fun e=>by have:=hf1 _ e;have:=hsz.out;have:=hsz0.out;omega));have ho1:=hid (show(Value.slice a' l'.length c').ownBlock≠some w.heap.size from fun e=>by have:=hf1 _ e;have:=hlt0.out;omega);replace hb1:=hid hb1;clear hv1 hf1)
   |(go_at_call 43;(with_reducible refine hnx.out.mono ?_);rintro e w2 ⟨rfl,hF2,hs2⟩;replace hF2:=hid hF2;replace hs2:=hid hs2))
  refine wpAny_done (by kernel_rfl) ?_ _
  rotate_left
  exact AllReady.nil
  exact AllReady.nil
  exact AllReady.nil
  exact AllReady.nil
  all_goals
   refine Z1H ?_
   have hK2:=(hs2.out.block _ (Nat.lt_of_lt_of_le hlt0.out hb1.out.size) (by omega) (by omega)).trans ((hb1.out.block _ hlt0.out).trans hK0.out)
   have k0:w2.cell? ⟨w.heap.size,0,none⟩=some (.int .i64 0):=Z0 hK2 0
   have k1:w2.frozen? ⟨w.heap.size,0,none⟩=false:=Zb hK2 0
   have hK3:=hid (Zg hK2 0 (.int .i64 0))
   have hF3:=hid (hF2.out.aside ho1.out hbw hmw (.int .i64 0))
   have hS3:=hid ((hS0.out.trans ((FStep.pure hb1.out).trans hs2.out)).aside (Nat.le_refl _) (.int .i64 0))
   clear hK2 q0 q1 q3
   go_wp2_with fail
   rw[hWE2.out]
   exact Z3f rfl hF3.out hS3.out hK3.out (by simp[go_sem]) rfl rfl
 ·have hWE2:Hid (Z30 f who q off data=(f,0,E)):=hid (by rw[hWE.out,if_pos hE])
  have hnx:=hid (fun a l c w=>Z35 b x' E a l c w hE)
  clear hWE
  refine ZX [(10,.int .u32 0),(11,.pointer (some ⟨w.heap.size,0,none⟩))] mixed (by kernel_rfl) ⟨rfl,rfl,trivial⟩ ?_
  refine wpAny_take (i:=0) (v:=?_) rfl (by kernel_rfl) (by kernel_rfl) (by kernel_rfl) (fun _ _ _ h=>h) (Or.inl ⟨by rfl,?_⟩) ?_
  rotate_left
  ·intro w;go_simp;try (with_reducible rfl)
  refine wpAny_take (i:=1) (v:=?_) rfl (by kernel_rfl) (by kernel_rfl) (by kernel_rfl) (fun _ _ _ h=>h) (Or.inl ⟨by rfl,?_⟩) ?_
  rotate_left
  ·intro w;go_simp;try (with_reducible rfl)
  refine wpAny_take (i:=2) (v:=?_) rfl (by kernel_rfl) (by kernel_rfl) (by kernel_rfl) (fun _ _ _ h=>h) (Or.inl ⟨by rfl,?_⟩) ?_
  rotate_left
  ·intro w;go_simp;try (with_reducible rfl)
  refine wpAny_take (i:=3) (v:=?_) rfl (by kernel_rfl) (by kernel_rfl) (by kernel_rfl) (fun _ _ _ h=>h) (Or.inl ⟨by rfl,?_⟩) ?_
  rotate_left
  ·intro w;go_simp;try (with_reducible rfl)
  refine wpAny_take (i:=5) (v:=?_) rfl (by kernel_rfl) (by kernel_rfl) (by kernel_rfl) (fun _ _ _ h=>h) (Or.inl ⟨by rfl,?_⟩) ?_
  rotate_left
  ·intro w;go_simp;try (with_reducible rfl)
  refine wpAny_take (i:=6) (v:=?_) rfl (by kernel_rfl) (by kernel_rfl) (by kernel_rfl) (fun _ _ _ h=>h) (Or.inl ⟨by rfl,?_⟩) ?_
  rotate_left
  ·intro w;go_simp;try (with_reducible rfl)
  refine wpAny_take (i:=7) (v:=?_) rfl (by kernel_rfl) (by kernel_rfl) (by kernel_rfl) (fun _ _ _ h=>h) (Or.inl ⟨by rfl,?_⟩) ?_
  rotate_left
  ·intro w;go_simp;try (with_reducible rfl)
  refine wpAny_take (i:=8) (v:=?_) rfl (by kernel_rfl) (by kernel_rfl) (by kernel_rfl) (fun _ _ _ h=>h) (Or.inl ⟨by rfl,?_⟩) ?_
  rotate_left
  ·intro w;go_simp;try (with_reducible rfl)
  refine wpAny_take (i:=9) (v:=?_) rfl (by kernel_rfl) (by kernel_rfl) (by kernel_rfl) (fun _ _ _ h=>h) (Or.inl ⟨by rfl,?_⟩) ?_
  rotate_left
  ·intro w;go_simp;try (with_reducible rfl)
  refine wpAny_take (i:=10) (v:=?_) rfl (by kernel_rfl) (by kernel_rfl) (by kernel_rfl) (fun _ _ _ h=>h) (Or.inl ⟨by rfl,?_⟩) ?_
  rotate_left
  ·intro w;go_simp;try (with_reducible rfl)
  refine wpAny_take (i:=11) (v:=?_) rfl (by kernel_rfl) (by kernel_rfl) (by kernel_rfl) (fun _ _ _ h=>h) (Or.inl ⟨by rfl,?_⟩) ?_
  rotate_left
  ·intro w;go_simp;try (with_reducible rfl)
  refine wpAny_ready (rs:=[4,12]) (by kernel_rfl) (by simp) ?_
  refine AllReady.cons rfl (fun K hK=>?_) ?_
  go_simp
  refine hK _ _ ?_;clear hK K
  refine wpAny_ready (rs:=[12]) (by kernel_rfl) (by simp) ?_
  refine AllReady.cons rfl (fun K hK=>?_) ?_
  go_simp
  refine hK _ _ ?_;clear hK K
  refine wpAny_ready (rs:=[13]) (by kernel_rfl) (by simp) ?_
  refine AllReady.cons rfl (fun K hK=>?_) ?_
  go_simp
  go_wp2_with (first
   |(go_at_call 46;(with_reducible refine hput.out.mono ?_);rintro e w1 ⟨v',rfl,hv1,hf1,hb1⟩;obtain⟨a',c',rfl,_,_⟩:=hv1.form;clear hv1 hf1)
   |(go_at_call 43;(with_reducible refine(hnx.out _ _ _ _).mono ?_);rintro e w2 ⟨rfl,hb2⟩;refine Z1d (fun a' hd hx=>?_) ?_;(
     have hbb:=sn hb1 hb2
     have hKk:=(hbb.block _ hlt0.out).trans hK0.out
     refine(show Leaves _ _ a'.tmps _ a'.defers _ _ from ?_)
     rw[hd]
     rw[hWE2.out]
     exact ZU rfl (hF0.out.below hbb) (hS0.out.trans (FStep.pure hbb)) hne.out hKk hbw hmw (Nat.le_refl _) (by simp[go_sem]) (hx (10,_) (by simp)) (hx (11,_) (by simp)))))
  refine wpAny_take (i:=14) (v:=?_) rfl (by kernel_rfl) (by kernel_rfl) (by kernel_rfl) (fun _ _ _ h=>h) (Or.inl ⟨by rfl,?_⟩) ?_
  rotate_left
  ·intro w;go_simp;try (with_reducible rfl)
  refine wpAny_take (i:=15) (v:=?_) rfl (by kernel_rfl) (by kernel_rfl) (by kernel_rfl) (fun _ _ _ h=>h) (Or.inl ⟨by rfl,?_⟩) ?_
  rotate_left
  ·intro w;go_simp;try (with_reducible rfl)
  refine wpAny_ready (rs:=[16]) (by kernel_rfl) (by simp) ?_
  refine AllReady.cons rfl (fun K hK=>?_) ?_
  go_simp
  go_wp2_with (first
   |(go_at_call 46;(with_reducible refine hput.out.mono ?_);rintro e w1 ⟨v',rfl,hv1,hf1,hb1⟩;obtain⟨a',c',rfl,_,_⟩:=hv1.form;clear hv1 hf1)
   |(go_at_call 43;(with_reducible refine(hnx.out _ _ _ _).mono ?_);rintro e w2 ⟨rfl,hb2⟩;refine Z1d (fun a' hd hx=>?_) ?_;(
     have hbb:=sn hb1 hb2
     have hKk:=(hbb.block _ hlt0.out).trans hK0.out
     refine(show Leaves _ _ a'.tmps _ a'.defers _ _ from ?_)
     rw[hd]
     rw[hWE2.out]
     exact ZU rfl (hF0.out.below hbb) (hS0.out.trans (FStep.pure hbb)) hne.out hKk hbw hmw (Nat.le_refl _) (by simp[go_sem]) (hx (10,_) (by simp)) (hx (11,_) (by simp)))))
  refine wpAny_done (by kernel_rfl) ?_ _
  rotate_left
  exact AllReady.nil
  exact AllReady.nil
  exact AllReady.nil
  refine AllReady.cons rfl (fun K hK=>?_) ?_
  go_simp
  refine hK _ _ ?_;clear hK K
  refine wpAny_ready (rs:=[4]) (by kernel_rfl) (by simp) ?_
  refine AllReady.cons rfl (fun K hK=>?_) ?_
  go_simp
  refine hK _ _ ?_;clear hK K
  refine wpAny_ready (rs:=[13]) (by kernel_rfl) (by simp) ?_
  refine AllReady.cons rfl (fun K hK=>?_) ?_
  go_simp
  go_wp2_with (first
   |(go_at_call 46;(with_reducible refine hput.out.mono ?_);rintro e w1 ⟨v',rfl,hv1,hf1,hb1⟩;obtain⟨a',c',rfl,_,_⟩:=hv1.form;clear hv1 hf1)
   |(go_at_call 43;(with_reducible refine(hnx.out _ _ _ _).mono ?_);rintro e w2 ⟨rfl,hb2⟩;refine Z1d (fun a' hd hx=>?_) ?_;(
     have hbb:=sn hb1 hb2
     have hKk:=(hbb.block _ hlt0.out).trans hK0.out
     refine(show Leaves _ _ a'.tmps _ a'.defers _ _ from ?_)
     rw[hd]
     rw[hWE2.out]
     exact ZU rfl (hF0.out.below hbb) (hS0.out.trans (FStep.pure hbb)) hne.out hKk hbw hmw (Nat.le_refl _) (by simp[go_sem]) (hx (10,_) (by simp)) (hx (11,_) (by simp)))))
  refine wpAny_take (i:=14) (v:=?_) rfl (by kernel_rfl) (by kernel_rfl) (by kernel_rfl) (fun _ _ _ h=>h) (Or.inl ⟨by rfl,?_⟩) ?_
  rotate_left
  ·intro w;go_simp;try (with_reducible rfl)
  refine wpAny_take (i:=15) (v:=?_) rfl (by kernel_rfl) (by kernel_rfl) (by kernel_rfl) (fun _ _ _ h=>h) (Or.inl ⟨by rfl,?_⟩) ?_
  rotate_left
  ·intro w;go_simp;try (with_reducible rfl)
  refine wpAny_ready (rs:=[16]) (by kernel_rfl) (by simp) ?_
  refine AllReady.cons rfl (fun K hK=>?_) ?_
  go_simp
  go_wp2_with (first
   |(go_at_call 46;(with_reducible refine hput.out.mono ?_);rintro e w1 ⟨v',rfl,hv1,hf1,hb1⟩;obtain⟨a',c',rfl,_,_⟩:=hv1.form;clear hv1 hf1)
   |(go_at_call 43;(with_reducible refine(hnx.out _ _ _ _).mono ?_);rintro e w2 ⟨rfl,hb2⟩;refine Z1d (fun a' hd hx=>?_) ?_;(
     have hbb:=sn hb1 hb2
     have hKk:=(hbb.block _ hlt0.out).trans hK0.out
     refine(show Leaves _ _ a'.tmps _ a'.defers _ _ from ?_)
     rw[hd]
     rw[hWE2.out]
     exact ZU rfl (hF0.out.below hbb) (hS0.out.trans (FStep.pure hbb)) hne.out hKk hbw hmw (Nat.le_refl _) (by simp[go_sem]) (hx (10,_) (by simp)) (hx (11,_) (by simp)))))
  refine wpAny_done (by kernel_rfl) ?_ _
  rotate_left
  exact AllReady.nil
  exact AllReady.nil
  exact AllReady.nil
  exact AllReady.nil
  all_goals trivial
end
section
open Go.RowKit Go.Maps
theorem Z5n {o:Oper} {ev:Operand→Value} {w:World} {x y z y2 y3:Operand} {t u s r r2:TypeId} {fn:Nat} {v v2 v3 v4 v5:Value} (hf:ev (.func fn)=.func (.func fn) #[] #[]) (hc:(callFunc fn #[v,v2,v3,v4,v5]).run Tryz.prog w=.ok (.enter fn #[v,v2,v3,v4,v5]) w) (ho:o.op=.call {callee:=.value (.func fn),args:=#[x,y,z,y2,y3],argTypes:=#[t,u,s,r,r2]}) (hx:ev x=v) (hy:ev y=v2) (hz:ev z=v3) (hw:ev y2=v4) (hw5:ev y3=v5):(execOp ev o).run Tryz.prog w=.ok (.enter fn #[v,v2,v3,v4,v5]) w:=by
 simp[execOp,ho,hx,hy,hz,hw,hw5,hf,hc,go_sem]
noncomputable def Zf:Array Oper:=match Tryz.f14.body with | some c=>(Z1i c).getD 2 #[] | none=>#[]
theorem Zn:Zf.size=20:=by kernel_rfl
set_option maxHeartbeats 4000000 in
theorem Zbs {w1:World} {b m p n q off kk:Nat} {f:FsV} {u:Usr} {a0:Option Addr} {c0:Nat} {v9:Value} {R:Tr×ByteArray×Nat} (hFo:FSo w1 b m (.slice a0 f.t.n.length c0) p f u n) (ht:TrOk f.t.n) (hoff:off<18446744073709551616) (hkk:kk<4294967296) (hR:Z2O f.t q off kk f.now=R) {v0:Value} {Q:Exit→Act→World→Prop} {a:Act} {w:World}
  (hQ : ∀ d u c a w,Q (.panic c) (a.put d u) w→Q (.panic c) a w) (hF:FrL 38 [(0,ptr b 0),(1,.int .u64 ((q:Nat):Int)),(2,.int .u64 ((off:Nat):Int)),(3,.int .u32 ((kk:Nat):Int)),(9,v9)] a) (hS:Below w1.heap.size w1 w)
  (hE : ∀ a w' g v',FrL 38 ((11,.int .i64 (R.2.2:Int)) ::(8,.string R.2.1) ::(10,ptr g 0) :: [(0,ptr b 0),(1,.int .u64 ((q:Nat):Int)),(2,.int .u64 ((off:Nat):Int)),(3,.int .u32 ((kk:Nat):Int)),(9,v9)]) a→Below w1.heap.size w1 w'→w'.heap[g]?=some (.cells #[.int .u64 (R.1.next:Int),v'] 30 (0,0))→w1.heap.size≤g→Z3 w' v' R.1.n→(∀ k,v'.ownBlock=some k→w1.heap.size≤k)→Q .normal a w') :
  wpAnyH Tryz.prog .any Zf Q (Below w1.heap.size w1) 20 (Array.replicate 20 false) a w:=by
 refine hst (i:=0) (o:=Zf[0]'(show 0<Zf.size by rw[Zn];decide)) hF 18 true (ptr b 0) (Array.getElem?_eq_getElem (show 0<Zf.size by rw[Zn];decide)) (by kernel_rfl) (by decide) (by kernel_rfl) (by kernel_rfl) (by kernel_rfl) (hQ _ _) (Z2 (by kernel_rfl)) (fun hW w hS=>Z5 (x:=.tmp 0) (.inl (by kernel_rfl)) (hF.ev 0 (ptr b 0) rfl)) hS (fun a hF=>?_)
 rw[show cond true (ptr b 0) undef=ptr b 0 from rfl]at hF
 refine hst (i:=1) (o:=Zf[1]'(show 1<Zf.size by rw[Zn];decide)) hF 19 true (ptr b 0) (Array.getElem?_eq_getElem (show 1<Zf.size by rw[Zn];decide)) (by kernel_rfl) (by decide) (by kernel_rfl) (by kernel_rfl) (by kernel_rfl) (hQ _ _) (Z2 (by kernel_rfl)) (fun hW w hS=>Z2z (x:=.tmp 18) (by kernel_rfl) (hF.ev 18 (ptr b 0) rfl)) hS (fun a hF=>?_)
 rw[show cond true (ptr b 0) undef=ptr b 0 from rfl]at hF
 refine hst (i:=2) (o:=Zf[2]'(show 2<Zf.size by rw[Zn];decide)) hF 20 true (ptr b 0) (Array.getElem?_eq_getElem (show 2<Zf.size by rw[Zn];decide)) (by kernel_rfl) (by decide) (by kernel_rfl) (by kernel_rfl) (by kernel_rfl) (hQ _ _) (Z2 (by kernel_rfl)) (fun hW w hS=>Zo (T:=93) (x:=.tmp 19) (f:=0) (by kernel_rfl) (hF.ev 19 (ptr b 0) rfl) (by kernel_rfl)) hS (fun a hF=>?_)
 rw[show cond true (ptr b 0) undef=ptr b 0 from rfl]at hF
 refine hst (i:=3) (o:=Zf[3]'(show 3<Zf.size by rw[Zn];decide)) hF 21 true (.agg #[.int .u64 ((f.t.next:Nat):Int),.slice a0 f.t.n.length c0]) (Array.getElem?_eq_getElem (show 3<Zf.size by rw[Zn];decide)) (by kernel_rfl) (by decide) (by kernel_rfl) (by kernel_rfl) (by kernel_rfl) (hQ _ _) (Z2 (by kernel_rfl)) (fun hW w hS=>Ze (ty:=30) (x:=.tmp 20) (by kernel_rfl) (hF.ev 20 (ptr b 0) rfl) (Z4p (Z0 (hFo.below hS).blk 0) (Z0 (hFo.below hS).blk 1))) hS (fun a hF=>?_)
 rw[show cond true (.agg #[.int .u64 ((f.t.next:Nat):Int),.slice a0 f.t.n.length c0]) undef=.agg #[.int .u64 ((f.t.next:Nat):Int),.slice a0 f.t.n.length c0] from rfl]at hF
 refine hst (i:=4) (o:=Zf[4]'(show 4<Zf.size by rw[Zn];decide)) hF 22 true (.int .u64 ((q:Nat):Int)) (Array.getElem?_eq_getElem (show 4<Zf.size by rw[Zn];decide)) (by kernel_rfl) (by decide) (by kernel_rfl) (by kernel_rfl) (by kernel_rfl) (hQ _ _) (Z2 (by kernel_rfl)) (fun hW w hS=>Z5 (x:=.tmp 1) (.inl (by kernel_rfl)) (hF.ev 1 (.int .u64 ((q:Nat):Int)) rfl)) hS (fun a hF=>?_)
 rw[show cond true (.int .u64 ((q:Nat):Int)) undef=.int .u64 ((q:Nat):Int) from rfl]at hF
 refine hst (i:=5) (o:=Zf[5]'(show 5<Zf.size by rw[Zn];decide)) hF 23 true (.int .u64 ((off:Nat):Int)) (Array.getElem?_eq_getElem (show 5<Zf.size by rw[Zn];decide)) (by kernel_rfl) (by decide) (by kernel_rfl) (by kernel_rfl) (by kernel_rfl) (hQ _ _) (Z2 (by kernel_rfl)) (fun hW w hS=>Z5 (x:=.tmp 2) (.inl (by kernel_rfl)) (hF.ev 2 (.int .u64 ((off:Nat):Int)) rfl)) hS (fun a hF=>?_)
 rw[show cond true (.int .u64 ((off:Nat):Int)) undef=.int .u64 ((off:Nat):Int) from rfl]at hF
 refine hst (i:=6) (o:=Zf[6]'(show 6<Zf.size by rw[Zn];decide)) hF 24 true (.int .u32 ((kk:Nat):Int)) (Array.getElem?_eq_getElem (show 6<Zf.size by rw[Zn];decide)) (by kernel_rfl) (by decide) (by kernel_rfl) (by kernel_rfl) (by kernel_rfl) (hQ _ _) (Z2 (by kernel_rfl)) (fun hW w hS=>Z5 (x:=.tmp 3) (.inl (by kernel_rfl)) (hF.ev 3 (.int .u32 ((kk:Nat):Int)) rfl)) hS (fun a hF=>?_)
 rw[show cond true (.int .u32 ((kk:Nat):Int)) undef=.int .u32 ((kk:Nat):Int) from rfl]at hF
 refine hst (i:=7) (o:=Zf[7]'(show 7<Zf.size by rw[Zn];decide)) hF 25 true (ptr b 0) (Array.getElem?_eq_getElem (show 7<Zf.size by rw[Zn];decide)) (by kernel_rfl) (by decide) (by kernel_rfl) (by kernel_rfl) (by kernel_rfl) (hQ _ _) (Z2 (by kernel_rfl)) (fun hW w hS=>Z5 (x:=.tmp 0) (.inl (by kernel_rfl)) (hF.ev 0 (ptr b 0) rfl)) hS (fun a hF=>?_)
 rw[show cond true (ptr b 0) undef=ptr b 0 from rfl]at hF
 refine hst (i:=8) (o:=Zf[8]'(show 8<Zf.size by rw[Zn];decide)) hF 26 true (ptr b 0) (Array.getElem?_eq_getElem (show 8<Zf.size by rw[Zn];decide)) (by kernel_rfl) (by decide) (by kernel_rfl) (by kernel_rfl) (by kernel_rfl) (hQ _ _) (Z2 (by kernel_rfl)) (fun hW w hS=>Z2z (x:=.tmp 25) (by kernel_rfl) (hF.ev 25 (ptr b 0) rfl)) hS (fun a hF=>?_)
 rw[show cond true (ptr b 0) undef=ptr b 0 from rfl]at hF
 refine hst (i:=9) (o:=Zf[9]'(show 9<Zf.size by rw[Zn];decide)) hF 27 true (ptr b 3) (Array.getElem?_eq_getElem (show 9<Zf.size by rw[Zn];decide)) (by kernel_rfl) (by decide) (by kernel_rfl) (by kernel_rfl) (by kernel_rfl) (hQ _ _) (Z2 (by kernel_rfl)) (fun hW w hS=>Zo (T:=93) (x:=.tmp 26) (f:=2) (by kernel_rfl) (hF.ev 26 (ptr b 0) rfl) (by kernel_rfl)) hS (fun a hF=>?_)
 rw[show cond true (ptr b 3) undef=ptr b 3 from rfl]at hF
 refine hst (i:=10) (o:=Zf[10]'(show 10<Zf.size by rw[Zn];decide)) hF 28 true (.int .u32 ((f.now:Nat):Int)) (Array.getElem?_eq_getElem (show 10<Zf.size by rw[Zn];decide)) (by kernel_rfl) (by decide) (by kernel_rfl) (by kernel_rfl) (by kernel_rfl) (hQ _ _) (Z2 (by kernel_rfl)) (fun hW w hS=>Ze (ty:=32) (x:=.tmp 27) (by kernel_rfl) (hF.ev 27 (ptr b 3) rfl) (Z3q (Z0 (hFo.below hS).blk 3))) hS (fun a hF=>?_)
 rw[show cond true (.int .u32 ((f.now:Nat):Int)) undef=.int .u32 ((f.now:Nat):Int) from rfl]at hF
 refine wpAnyH_all (rs:=[11,16]) (by kernel_rfl) (by simp) fun j hj=>?_
 have hS0:=hS.size
 have hj2:j=11∨j=16:=by simpa using hj
 rcases hj2 with rfl | rfl
 ·skip
  refine Z80 (i:=11) (o:=Zf[11]'(show 11<Zf.size by rw[Zn];decide)) (R:=fun v w'=>∃ v',v=.tuple #[.agg #[.int .u64 (R.1.next:Int),v'],.string R.2.1,.int .i64 (R.2.2:Int)]∧Z3 w' v' R.1.n∧(∀ k,v'.ownBlock=some k→w.heap.size≤k)∧Below w.heap.size w w') hF 29 (Array.getElem?_eq_getElem (show 11<Zf.size by rw[Zn];decide)) (by kernel_rfl) (by decide) (Z2 (by kernel_rfl)) ⟨50,#[.agg #[.int .u64 ((f.t.next:Nat):Int),.slice a0 f.t.n.length c0],.int .u64 ((q:Nat):Int),.int .u64 ((off:Nat):Int),.int .u32 ((kk:Nat):Int),.int .u32 ((f.now:Nat):Int)],Z5n (x:=.tmp 21) (y:=.tmp 22) (z:=.tmp 23) (y2:=.tmp 24) (y3:=.tmp 28) (fn:=50) (t:=30) (u:=27) (s:=27) (r:=32) (r2:=32) rfl (by kernel_rfl) (by kernel_rfl) (hF.ev 21 _ rfl) (hF.ev 22 _ rfl) (hF.ev 23 _ rfl) (hF.ev 24 _ rfl) (hF.ev 28 _ rfl),(Z6l _ f.t.next f.t.n q off kk f.now w (hFo.below hS).row ht hoff hkk).mono (by intro e w' h;rw[show(⟨f.t.next,f.t.n⟩:Tr)=f.t from rfl,hR]at h;obtain⟨v',rfl,h1,h2,h3⟩:=h;exact⟨_,rfl,v',rfl,h1,h2,h3⟩)⟩ ?_
  rintro _ a wc ⟨v',rfl,hv,hf,hb⟩ hF
  replace hS:=hS.trans (hb.mono hS.size)
  have hfr : ∀ k,v'.ownBlock=some k→w1.heap.size≤k:=fun k hk=>Nat.le_trans hS0 (hf k hk)
  clear hf
  refine⟨hS,?_⟩
  clear hb
  refine hst (i:=12) (o:=Zf[12]'(show 12<Zf.size by rw[Zn];decide)) hF 17 true (.tuple #[.agg #[.int .u64 (R.1.next:Int),v'],.string R.2.1,.int .i64 (R.2.2:Int)]) (Array.getElem?_eq_getElem (show 12<Zf.size by rw[Zn];decide)) (by kernel_rfl) (by decide) (by kernel_rfl) (by kernel_rfl) (by kernel_rfl) (hQ _ _) (Z2 (by kernel_rfl)) (fun hW w hS=>Z5 (x:=.tmp 29) (.inl (by kernel_rfl)) (hF.ev 29 _ rfl)) hS (fun a hF=>?_)
  rw[show cond true (.tuple #[.agg #[.int .u64 (R.1.next:Int),v'],.string R.2.1,.int .i64 (R.2.2:Int)]) undef=.tuple #[.agg #[.int .u64 (R.1.next:Int),v'],.string R.2.1,.int .i64 (R.2.2:Int)] from rfl]at hF
  refine hst (i:=13) (o:=Zf[13]'(show 13<Zf.size by rw[Zn];decide)) hF 30 true (.agg #[.int .u64 (R.1.next:Int),v']) (Array.getElem?_eq_getElem (show 13<Zf.size by rw[Zn];decide)) (by kernel_rfl) (by decide) (by kernel_rfl) (by kernel_rfl) (by kernel_rfl) (hQ _ _) (Z2 (by kernel_rfl)) (fun hW w hS=>ZZ (x:=.tmp 17) (n:=0) (by kernel_rfl) (hF.ev 17 _ rfl) rfl) hS (fun a hF=>?_)
  rw[show cond true (.agg #[.int .u64 (R.1.next:Int),v']) undef=.agg #[.int .u64 (R.1.next:Int),v'] from rfl]at hF
  refine hst (i:=14) (o:=Zf[14]'(show 14<Zf.size by rw[Zn];decide)) hF 31 true (.string R.2.1) (Array.getElem?_eq_getElem (show 14<Zf.size by rw[Zn];decide)) (by kernel_rfl) (by decide) (by kernel_rfl) (by kernel_rfl) (by kernel_rfl) (hQ _ _) (Z2 (by kernel_rfl)) (fun hW w hS=>ZZ (x:=.tmp 17) (n:=1) (by kernel_rfl) (hF.ev 17 _ rfl) rfl) hS (fun a hF=>?_)
  rw[show cond true (.string R.2.1) undef=.string R.2.1 from rfl]at hF
  refine hst (i:=15) (o:=Zf[15]'(show 15<Zf.size by rw[Zn];decide)) hF 32 true (.int .i64 (R.2.2:Int)) (Array.getElem?_eq_getElem (show 15<Zf.size by rw[Zn];decide)) (by kernel_rfl) (by decide) (by kernel_rfl) (by kernel_rfl) (by kernel_rfl) (hQ _ _) (Z2 (by kernel_rfl)) (fun hW w hS=>ZZ (x:=.tmp 17) (n:=2) (by kernel_rfl) (hF.ev 17 _ rfl) rfl) hS (fun a hF=>?_)
  rw[show cond true (.int .i64 (R.2.2:Int)) undef=.int .i64 (R.2.2:Int) from rfl]at hF
  refine wpAnyH_all (rs:=[16]) (by kernel_rfl) (by simp) fun j hj=>?_
  obtain rfl:j=16:=by simpa using hj
  refine hdo (i:=16) (o:=Zf[16]'(show 16<Zf.size by rw[Zn];decide)) hF 10 (ptr wc.heap.size 0) (wc.alloc (.cells #[.int .u64 0,.slice none 0 0] 30)) (Array.getElem?_eq_getElem (show 16<Zf.size by rw[Zn];decide)) (by kernel_rfl) (by decide) (Z2 (by kernel_rfl)) (Z1t (t:=30) (z:=.agg #[.int .u64 0,.slice none 0 0]) (by kernel_rfl) (by kernel_rfl)) (fun a hF=>?_)
  have hb:=(Below.refl wc.heap.size wc).alloc (Nat.le_refl _) (.cells #[.int .u64 0,.slice none 0 0] 30)
  have gA:=hS.size
  have fA:=heap_alloc_new wc (.cells #[.int .u64 0,.slice none 0 0] 30)
  have hrow:Z3 ((wc.alloc (.cells #[.int .u64 0,.slice none 0 0] 30)).setRow wc.heap.size #[.int .u64 (R.1.next:Int),v']) v' R.1.n:=hv.below (below_setRow hb (Nat.le_refl _) #[.int .u64 (R.1.next:Int),v'])
  replace hS:=hS.trans (hb.mono hS.size)
  refine⟨hS,?_⟩
  clear hb hv
  generalize wc.alloc (.cells #[.int .u64 0,.slice none 0 0] 30)=wca at hS fA hrow ⊢
  generalize wc.heap.size=g at fA gA hF hrow
  refine wpAnyH_all (rs:=[17]) (by kernel_rfl) (by simp) fun j hj=>?_
  obtain rfl:j=17:=by simpa using hj
  refine Z6Y (o:=Zf[17]'(show 17<Zf.size by rw[Zn];decide)) (wca.setRow g #[.int .u64 (R.1.next:Int),v']) (Array.getElem?_eq_getElem (show 17<Zf.size by rw[Zn];decide)) (by kernel_rfl) (Z2 (by kernel_rfl)) (Z1u (t:=30) (x:=.tmp 10) (y:=.tmp 30) (by kernel_rfl) (hF.ev 10 _ rfl) (hF.ev 30 _ rfl) fA (by kernel_rfl) rfl (by obtain⟨q1,q2,hq,_⟩:=hrow.form;rw[hq];kernel_rfl)) ?_
  have hS3:=below_setRow (g:=g) hS gA #[.int .u64 (R.1.next:Int),v']
  refine⟨hS3,?_⟩
  have fA3:=setRow_heap wca g _ #[.int .u64 (R.1.next:Int),v'] _ _ fA
  have hv3:Z3 (wca.setRow g #[.int .u64 (R.1.next:Int),v']) v' R.1.n:=hrow
  generalize wca.setRow g #[.int .u64 (R.1.next:Int),v']=wz at hS3 fA3 hv3 ⊢
  refine hst (i:=18) (o:=Zf[18]'(show 18<Zf.size by rw[Zn];decide)) hF 8 true (.string R.2.1) (Array.getElem?_eq_getElem (show 18<Zf.size by rw[Zn];decide)) (by kernel_rfl) (by decide) (by kernel_rfl) (by kernel_rfl) (by kernel_rfl) (hQ _ _) (Z2 (by kernel_rfl)) (fun hW w hS=>Z5 (x:=.tmp 31) (.inr (by kernel_rfl)) (hF.ev 31 _ rfl)) hS3 (fun a hF=>?_)
  rw[show cond true (.string R.2.1) undef=.string R.2.1 from rfl]at hF
  refine hst (i:=19) (o:=Zf[19]'(show 19<Zf.size by rw[Zn];decide)) hF 11 true (.int .i64 (R.2.2:Int)) (Array.getElem?_eq_getElem (show 19<Zf.size by rw[Zn];decide)) (by kernel_rfl) (by decide) (by kernel_rfl) (by kernel_rfl) (by kernel_rfl) (hQ _ _) (Z2 (by kernel_rfl)) (fun hW w hS=>Z5 (x:=.tmp 32) (.inr (by kernel_rfl)) (hF.ev 32 _ rfl)) hS3 (fun a hF=>?_)
  rw[show cond true (.int .i64 (R.2.2:Int)) undef=.int .i64 (R.2.2:Int) from rfl]at hF
  exact wpAnyH_done (by kernel_rfl) (hE _ _ g v' (hF.sub ((11,.int .i64 (R.2.2:Int)) ::(8,.string R.2.1) ::(10,ptr g 0) :: [(0,ptr b 0),(1,.int .u64 ((q:Nat):Int)),(2,.int .u64 ((off:Nat):Int)),(3,.int .u32 ((kk:Nat):Int)),(9,v9)]) ⟨rfl,rfl,rfl,rfl,rfl,rfl,rfl,rfl,trivial⟩) hS3 fA3 gA hv3 hfr) _
 ·skip
  refine hdo (i:=16) (o:=Zf[16]'(show 16<Zf.size by rw[Zn];decide)) hF 10 (ptr w.heap.size 0) (w.alloc (.cells #[.int .u64 0,.slice none 0 0] 30)) (Array.getElem?_eq_getElem (show 16<Zf.size by rw[Zn];decide)) (by kernel_rfl) (by decide) (Z2 (by kernel_rfl)) (Z1t (t:=30) (z:=.agg #[.int .u64 0,.slice none 0 0]) (by kernel_rfl) (by kernel_rfl)) (fun a hF=>?_)
  have hb:=(Below.refl w.heap.size w).alloc (Nat.le_refl _) (.cells #[.int .u64 0,.slice none 0 0] 30)
  have gA:=hS.size
  have fA:=heap_alloc_new w (.cells #[.int .u64 0,.slice none 0 0] 30)
  replace hS:=hS.trans (hb.mono hS.size)
  refine⟨hS,?_⟩
  clear hb
  generalize w.alloc (.cells #[.int .u64 0,.slice none 0 0] 30)=wa at hS fA ⊢
  generalize w.heap.size=g at fA gA hF
  refine wpAnyH_all (rs:=[11]) (by kernel_rfl) (by simp) fun j hj=>?_
  have hS0:=hS.size
  obtain rfl:j=11:=by simpa using hj
  refine Z80 (i:=11) (o:=Zf[11]'(show 11<Zf.size by rw[Zn];decide)) (R:=fun v w'=>∃ v',v=.tuple #[.agg #[.int .u64 (R.1.next:Int),v'],.string R.2.1,.int .i64 (R.2.2:Int)]∧Z3 w' v' R.1.n∧(∀ k,v'.ownBlock=some k→wa.heap.size≤k)∧Below wa.heap.size wa w') hF 29 (Array.getElem?_eq_getElem (show 11<Zf.size by rw[Zn];decide)) (by kernel_rfl) (by decide) (Z2 (by kernel_rfl)) ⟨50,#[.agg #[.int .u64 ((f.t.next:Nat):Int),.slice a0 f.t.n.length c0],.int .u64 ((q:Nat):Int),.int .u64 ((off:Nat):Int),.int .u32 ((kk:Nat):Int),.int .u32 ((f.now:Nat):Int)],Z5n (x:=.tmp 21) (y:=.tmp 22) (z:=.tmp 23) (y2:=.tmp 24) (y3:=.tmp 28) (fn:=50) (t:=30) (u:=27) (s:=27) (r:=32) (r2:=32) rfl (by kernel_rfl) (by kernel_rfl) (hF.ev 21 _ rfl) (hF.ev 22 _ rfl) (hF.ev 23 _ rfl) (hF.ev 24 _ rfl) (hF.ev 28 _ rfl),(Z6l _ f.t.next f.t.n q off kk f.now wa (hFo.below hS).row ht hoff hkk).mono (by intro e w' h;rw[show(⟨f.t.next,f.t.n⟩:Tr)=f.t from rfl,hR]at h;obtain⟨v',rfl,h1,h2,h3⟩:=h;exact⟨_,rfl,v',rfl,h1,h2,h3⟩)⟩ ?_
  rintro _ a wac ⟨v',rfl,hv,hf,hb⟩ hF
  replace hS:=hS.trans (hb.mono hS.size)
  have hlt:=lt_of_block fA
  replace fA:=(hb.block _ (lt_of_block fA)).trans fA
  have hrow:Z3 (wac.setRow g #[.int .u64 (R.1.next:Int),v']) v' R.1.n:=Z3.other hv g (fun e=>by have:=hf _ e;omega) (by simp) (fun k hk=>setRow_other _ _ _ _ hk)
  have hfr : ∀ k,v'.ownBlock=some k→w1.heap.size≤k:=fun k hk=>Nat.le_trans hS0 (hf k hk)
  clear hf
  refine⟨hS,?_⟩
  clear hb
  refine hst (i:=12) (o:=Zf[12]'(show 12<Zf.size by rw[Zn];decide)) hF 17 true (.tuple #[.agg #[.int .u64 (R.1.next:Int),v'],.string R.2.1,.int .i64 (R.2.2:Int)]) (Array.getElem?_eq_getElem (show 12<Zf.size by rw[Zn];decide)) (by kernel_rfl) (by decide) (by kernel_rfl) (by kernel_rfl) (by kernel_rfl) (hQ _ _) (Z2 (by kernel_rfl)) (fun hW w hS=>Z5 (x:=.tmp 29) (.inl (by kernel_rfl)) (hF.ev 29 _ rfl)) hS (fun a hF=>?_)
  rw[show cond true (.tuple #[.agg #[.int .u64 (R.1.next:Int),v'],.string R.2.1,.int .i64 (R.2.2:Int)]) undef=.tuple #[.agg #[.int .u64 (R.1.next:Int),v'],.string R.2.1,.int .i64 (R.2.2:Int)] from rfl]at hF
  refine hst (i:=13) (o:=Zf[13]'(show 13<Zf.size by rw[Zn];decide)) hF 30 true (.agg #[.int .u64 (R.1.next:Int),v']) (Array.getElem?_eq_getElem (show 13<Zf.size by rw[Zn];decide)) (by kernel_rfl) (by decide) (by kernel_rfl) (by kernel_rfl) (by kernel_rfl) (hQ _ _) (Z2 (by kernel_rfl)) (fun hW w hS=>ZZ (x:=.tmp 17) (n:=0) (by kernel_rfl) (hF.ev 17 _ rfl) rfl) hS (fun a hF=>?_)
  rw[show cond true (.agg #[.int .u64 (R.1.next:Int),v']) undef=.agg #[.int .u64 (R.1.next:Int),v'] from rfl]at hF
  refine hst (i:=14) (o:=Zf[14]'(show 14<Zf.size by rw[Zn];decide)) hF 31 true (.string R.2.1) (Array.getElem?_eq_getElem (show 14<Zf.size by rw[Zn];decide)) (by kernel_rfl) (by decide) (by kernel_rfl) (by kernel_rfl) (by kernel_rfl) (hQ _ _) (Z2 (by kernel_rfl)) (fun hW w hS=>ZZ (x:=.tmp 17) (n:=1) (by kernel_rfl) (hF.ev 17 _ rfl) rfl) hS (fun a hF=>?_)
  rw[show cond true (.string R.2.1) undef=.string R.2.1 from rfl]at hF
  refine hst (i:=15) (o:=Zf[15]'(show 15<Zf.size by rw[Zn];decide)) hF 32 true (.int .i64 (R.2.2:Int)) (Array.getElem?_eq_getElem (show 15<Zf.size by rw[Zn];decide)) (by kernel_rfl) (by decide) (by kernel_rfl) (by kernel_rfl) (by kernel_rfl) (hQ _ _) (Z2 (by kernel_rfl)) (fun hW w hS=>ZZ (x:=.tmp 17) (n:=2) (by kernel_rfl) (hF.ev 17 _ rfl) rfl) hS (fun a hF=>?_)
  rw[show cond true (.int .i64 (R.2.2:Int)) undef=.int .i64 (R.2.2:Int) from rfl]at hF
  refine wpAnyH_all (rs:=[17]) (by kernel_rfl) (by simp) fun j hj=>?_
  obtain rfl:j=17:=by simpa using hj
  refine Z6Y (o:=Zf[17]'(show 17<Zf.size by rw[Zn];decide)) (wac.setRow g #[.int .u64 (R.1.next:Int),v']) (Array.getElem?_eq_getElem (show 17<Zf.size by rw[Zn];decide)) (by kernel_rfl) (Z2 (by kernel_rfl)) (Z1u (t:=30) (x:=.tmp 10) (y:=.tmp 30) (by kernel_rfl) (hF.ev 10 _ rfl) (hF.ev 30 _ rfl) fA (by kernel_rfl) rfl (by obtain⟨q1,q2,hq,_⟩:=hrow.form;rw[hq];kernel_rfl)) ?_
  have hS3:=below_setRow (g:=g) hS gA #[.int .u64 (R.1.next:Int),v']
  refine⟨hS3,?_⟩
  have fA3:=setRow_heap wac g _ #[.int .u64 (R.1.next:Int),v'] _ _ fA
  have hv3:Z3 (wac.setRow g #[.int .u64 (R.1.next:Int),v']) v' R.1.n:=hrow
  generalize wac.setRow g #[.int .u64 (R.1.next:Int),v']=wz at hS3 fA3 hv3 ⊢
  refine hst (i:=18) (o:=Zf[18]'(show 18<Zf.size by rw[Zn];decide)) hF 8 true (.string R.2.1) (Array.getElem?_eq_getElem (show 18<Zf.size by rw[Zn];decide)) (by kernel_rfl) (by decide) (by kernel_rfl) (by kernel_rfl) (by kernel_rfl) (hQ _ _) (Z2 (by kernel_rfl)) (fun hW w hS=>Z5 (x:=.tmp 31) (.inr (by kernel_rfl)) (hF.ev 31 _ rfl)) hS3 (fun a hF=>?_)
  rw[show cond true (.string R.2.1) undef=.string R.2.1 from rfl]at hF
  refine hst (i:=19) (o:=Zf[19]'(show 19<Zf.size by rw[Zn];decide)) hF 11 true (.int .i64 (R.2.2:Int)) (Array.getElem?_eq_getElem (show 19<Zf.size by rw[Zn];decide)) (by kernel_rfl) (by decide) (by kernel_rfl) (by kernel_rfl) (by kernel_rfl) (hQ _ _) (Z2 (by kernel_rfl)) (fun hW w hS=>Z5 (x:=.tmp 32) (.inr (by kernel_rfl)) (hF.ev 32 _ rfl)) hS3 (fun a hF=>?_)
  rw[show cond true (.int .i64 (R.2.2:Int)) undef=.int .i64 (R.2.2:Int) from rfl]at hF
  exact wpAnyH_done (by kernel_rfl) (hE _ _ g v' (hF.sub ((11,.int .i64 (R.2.2:Int)) ::(8,.string R.2.1) ::(10,ptr g 0) :: [(0,ptr b 0),(1,.int .u64 ((q:Nat):Int)),(2,.int .u64 ((off:Nat):Int)),(3,.int .u32 ((kk:Nat):Int)),(9,v9)]) ⟨rfl,rfl,rfl,rfl,rfl,rfl,rfl,rfl,trivial⟩) hS3 fA3 gA hv3 hfr) _
set_option maxHeartbeats 3200000 in
theorem Za4 (b m p n:Nat) (v:Value) (f:FsV) (u:Usr) (q off kk:Nat) (w:World) (h:FSo w b m v p f u n) (ht:TrOk f.t.n) (hne:f.t.n≠[]) (hoff:off<18446744073709551616) (hkk:kk<4294967296) :
  Calls Tryz.prog 14 #[.pointer (some ⟨b,0,none⟩),.int .u64 (q:Int),.int .u64 (off:Int),.int .u32 (kk:Int)] w (Z5W b m p n (Z4D f q off kk).1 u (.string (Z4D f q off kk).2.1) (Z4D f q off kk).2.2 w):=by
 have mixed:Tryz.prog.follows Departure.mixedOrders=true:=by first | kernel_rfl | decide
 obtain⟨a0,c0,rfl,g1,g2⟩:=h.row.form
 obtain⟨W,hW⟩ : ∃ W,W=w.alloc (.cells #[.int .i64 0] 33):=⟨_,rfl⟩
 have hb0:Below w.heap.size w W:=by rw[hW];exact(Below.refl _ _).alloc (Nat.le_refl _) _
 have hK0:=hid (show W.heap[w.heap.size]?=some (.cells #[.int .i64 0] 33 (0,0)) by rw[hW];exact heap_alloc_new _ _)
 have hF0:=hid (h.below hb0)
 have hS0:=hid (FStep.pure (b:=b) (m:=m) hb0)
 have hbw:=lt_of_block h.blk
 have hmw:=h.map.lt
 have q0:=Z0 hF0.out.blk 0
 have q1:=Z0 hF0.out.blk 1
 have hlt0:=hid (lt_of_block hK0.out)
 replace hne:=hid hne
 clear h hb0
 obtain⟨R,hR⟩ : ∃ R,Z2O f.t q off kk f.now=R:=⟨_,rfl⟩
 have hE:Hid (Z4D f q off kk=if R.2.2≠0 then(f,R.2.1,R.2.2) else(f.set R.1,R.2.1,0)):=hid (by rw[←hR];rfl)
 have hFd:=hid (hF0.out.below ((Below.refl _ _).drew))
 have hSd:=hid (hS0.out.trans (FStep.pure ((Below.refl _ _).drew)))
 have hKd:=hid (show W.drew.heap[w.heap.size]?=some (.cells #[.int .i64 0] 33 (0,0)) from hK0.out)
 have hltd:=hid (lt_of_block hKd.out)
 replace hR:=hid hR
 go_enter_defers Tryz.func14,Tryz.ntmps14
 go_wp2_with (rw[←hW];replace hW:=hid hW)
 try (rw[←hW];replace hW:=hid hW)
 clear q0 q1
 refine Z36 (S:=Below W.drew.heap.size W.drew) [] mixed (by kernel_rfl) trivial ?_
 refine(show wpAnyH Tryz.prog .any Zf _ _ _ _ _ _→_ from fun h=>h) ?_
 refine Zbs (w1:=W.drew) (v0:=undef) hFd.out ht hoff hkk hR.out (fun d u c a w h=>by cases d <;> exact h) (FrL.of_all (by rfl) rfl ⟨rfl,rfl,rfl,rfl,rfl,trivial⟩) (Below.refl _ _) (fun a w1 g v' hF hS f1 f2 f3 f4=>?_)
 refine Z1H ?_
 have he:=Z1n hF [.pointer (some ⟨b,0,none⟩),.int .u64 (q:Int),.int .u64 (off:Int),.int .u32 (kk:Int),a.tmps.getD 4 undef,a.tmps.getD 5 undef,a.tmps.getD 6 undef,a.tmps.getD 7 undef,.string R.2.1,.pointer (some ⟨w.heap.size,0,none⟩),.pointer (some ⟨g,0,none⟩),.int .i64 (R.2.2:Int),a.tmps.getD 12 undef,a.tmps.getD 13 undef,a.tmps.getD 14 undef,a.tmps.getD 15 undef,a.tmps.getD 16 undef,a.tmps.getD 17 undef,a.tmps.getD 18 undef,a.tmps.getD 19 undef,a.tmps.getD 20 undef,a.tmps.getD 21 undef,a.tmps.getD 22 undef,a.tmps.getD 23 undef,a.tmps.getD 24 undef,a.tmps.getD 25 undef,a.tmps.getD 26 undef,a.tmps.getD 27 undef,a.tmps.getD 28 undef,a.tmps.getD 29 undef,a.tmps.getD 30 undef,a.tmps.getD 31 undef,a.tmps.getD 32 undef,a.tmps.getD 33 undef,a.tmps.getD 34 undef,a.tmps.getD 35 undef,a.tmps.getD 36 undef,a.tmps.getD 37 undef] (by rfl) ⟨hF.get 0 _ rfl,hF.get 1 _ rfl,hF.get 2 _ rfl,hF.get 3 _ rfl,hF.any 4 (by decide),hF.any 5 (by decide),hF.any 6 (by decide),hF.any 7 (by decide),hF.get 8 _ rfl,hF.get 9 _ rfl,hF.get 10 _ rfl,hF.get 11 _ rfl,hF.any 12 (by decide),hF.any 13 (by decide),hF.any 14 (by decide),hF.any 15 (by decide),hF.any 16 (by decide),hF.any 17 (by decide),hF.any 18 (by decide),hF.any 19 (by decide),hF.any 20 (by decide),hF.any 21 (by decide),hF.any 22 (by decide),hF.any 23 (by decide),hF.any 24 (by decide),hF.any 25 (by decide),hF.any 26 (by decide),hF.any 27 (by decide),hF.any 28 (by decide),hF.any 29 (by decide),hF.any 30 (by decide),hF.any 31 (by decide),hF.any 32 (by decide),hF.any 33 (by decide),hF.any 34 (by decide),hF.any 35 (by decide),hF.any 36 (by decide),hF.any 37 (by decide),trivial⟩
 rw[he]
 clear he hF
 generalize a.tmps.getD 4 undef=y4
 generalize a.tmps.getD 5 undef=y5
 generalize a.tmps.getD 6 undef=y6
 generalize a.tmps.getD 7 undef=y7
 generalize a.tmps.getD 12 undef=y12
 generalize a.tmps.getD 13 undef=y13
 generalize a.tmps.getD 14 undef=y14
 generalize a.tmps.getD 15 undef=y15
 generalize a.tmps.getD 16 undef=y16
 generalize a.tmps.getD 17 undef=y17
 generalize a.tmps.getD 18 undef=y18
 generalize a.tmps.getD 19 undef=y19
 generalize a.tmps.getD 20 undef=y20
 generalize a.tmps.getD 21 undef=y21
 generalize a.tmps.getD 22 undef=y22
 generalize a.tmps.getD 23 undef=y23
 generalize a.tmps.getD 24 undef=y24
 generalize a.tmps.getD 25 undef=y25
 generalize a.tmps.getD 26 undef=y26
 generalize a.tmps.getD 27 undef=y27
 generalize a.tmps.getD 28 undef=y28
 generalize a.tmps.getD 29 undef=y29
 generalize a.tmps.getD 30 undef=y30
 generalize a.tmps.getD 31 undef=y31
 generalize a.tmps.getD 32 undef=y32
 generalize a.tmps.getD 33 undef=y33
 generalize a.tmps.getD 34 undef=y34
 generalize a.tmps.getD 35 undef=y35
 generalize a.tmps.getD 36 undef=y36
 generalize a.tmps.getD 37 undef=y37
 clear a
 rw[Z9P]
 have hFz:=hid (hFd.out.below hS)
 have hSz:=hid (hSd.out.trans (FStep.pure hS))
 have hKz:=hid ((hS.block _ hltd.out).trans hKd.out)
 have ho1:=hid (show v'.ownBlock≠some w.heap.size from fun e=>by have:=f4 _ e;have:=hltd.out;omega)
 have n1:Hid (v'.ownBlock≠some b):=hid (fun e=>by have:=f4 _ e;have:=hltd.out;omega)
 have n2:Hid (v'.ownBlock≠some m):=hid (fun e=>by have:=f4 _ e;have:=hltd.out;omega)
 replace f1:=hid f1
 replace f3:=hid f3
 obtain⟨a',c',rfl,_,_⟩:=f3.out.form
 clear hS f2 f4
 by_cases hE0:R.2.2=0
 ·have hE2:Hid (Z4D f q off kk=(f.set R.1,R.2.1,0)):=hid (by rw[hE.out,if_neg (by rw[hE0];simp)])
  have hnx:=hid (Z1E b m p n _ _ f u R.1 w1 hFz.out f3.out n1.out n2.out)
  rw[hE0]
  clear hE hE0
  go_wp2_with (refine wpList_load_row (by rfl) 30 (.tmp 10) (by rfl) g (by rfl) 30 #[.int .u64 (R.1.next:Int),.slice a' R.1.n.length c'] (0,0) _ f1.out Tryz.underlying30 (by rfl) (by kernel_rfl) ?_)
  refine hnx.out.mono ?_
  rintro e w5 ⟨rfl,hF5,hs5⟩
  have hK5:=(hs5.block _ (lt_of_block hKz.out) (by omega) (by omega)).trans hKz.out
  have k0:w5.cell? ⟨w.heap.size,0,none⟩=some (.int .i64 0):=Z0 hK5 0
  have k1:w5.frozen? ⟨w.heap.size,0,none⟩=false:=Zb hK5 0
  have hK7:=hid (Zg hK5 0 (.int .i64 0))
  have hF7:=hid (hF5.aside ho1.out hbw hmw (.int .i64 0))
  have hS7:=hid ((hSz.out.trans hs5).aside (Nat.le_refl _) (.int .i64 0))
  clear hK5 hF5 hs5
  go_wp2_with fail
  rw[hE2.out]
  exact Z3f rfl hF7.out hS7.out hK7.out (by simp[go_sem]) rfl rfl
 ·have hE2:Hid (Z4D f q off kk=(f,R.2.1,R.2.2)):=hid (by rw[hE.out,if_pos hE0])
  have hnx:=hid (Z35 b R.1.next R.2.2 a' R.1.n.length c' w1 hE0)
  clear hE hE0
  go_wp2_with (refine wpList_load_row (by rfl) 30 (.tmp 10) (by rfl) g (by rfl) 30 #[.int .u64 (R.1.next:Int),.slice a' R.1.n.length c'] (0,0) _ f1.out Tryz.underlying30 (by rfl) (by kernel_rfl) ?_)
  refine hnx.out.mono ?_
  rintro e w5 ⟨rfl,hb5⟩
  go_wp2_with fail
  rw[hE2.out]
  exact ZU rfl (hFz.out.below hb5) (hSz.out.trans (FStep.pure hb5)) hne.out ((hb5.block _ (lt_of_block hKz.out)).trans hKz.out) hbw hmw (Nat.le_refl _) (by simp[go_sem]) rfl rfl
end
end Go.Proofs.YtkefjeabckainaaGreat
