/- Remove of package fsys. Conditions: in the statements.
Step of package fsys. Conditions: in the statements.
Stat of package fsys. Conditions: in the statements. -/
import Derived.Test.YtkefjeabckainaaGreatFtB24
import Derived.Test.YtkefjeabckainaaGreatFtB28
import Derived.Test.YtkefjeabckainaaGreatFtB30
namespace Go.Proofs.YtkefjeabckainaaGreat
set_option maxRecDepth 100000
set_option linter.unusedVariables false
section
open Go.RowKit Go.Maps
set_option maxHeartbeats 3200000 in
theorem Z77 (b m p n:Nat) (v:Value) (f:FsV) (u:Usr) (who:ByteArray) (q:Nat) (w:World) (h:FSo w b m v p f u n) (ht:TrOk f.t.n) (hne:f.t.n≠[]) (hub:UB u.us u.gs) (hq:q<18446744073709551616) (hnow:f.now<4294967296) (ht2:TrOk (ZQ f.t q who f.now).1.n) :
  Calls Tryz.prog 13 #[.pointer (some ⟨b,0,none⟩),.string who,.int .u64 (q:Int)] w (Ze3 b m p n (Z1s u f who q).1 u (Z1s u f who q).2 w):=by
 have mixed:Tryz.prog.follows Departure.mixedOrders=true:=by first | kernel_rfl | decide
 obtain⟨a0,c0,rfl,g1,g2⟩:=h.row.form
 obtain⟨W,hW⟩ : ∃ W,W=w.alloc (.cells #[.int .i64 0] 33):=⟨_,rfl⟩
 have hb0:Below w.heap.size w W:=by rw[hW];exact(Below.refl _ _).alloc (Nat.le_refl _) _
 have hK0:=hid (show W.heap[w.heap.size]?=some (.cells #[.int .i64 0] 33 (0,0)) by rw[hW];exact heap_alloc_new _ _)
 have hF0:=hid (h.below hb0)
 have hS0:=hid (FStep.pure (b:=b) (m:=m) hb0)
 have hbw:=lt_of_block h.blk
 have hmw:=h.map.lt
 have q0:=Z0 hF0.out.blk 0
 have q1:=Z0 hF0.out.blk 1
 have hlt0:=hid (lt_of_block hK0.out)
 replace hne:=hid hne
 clear h hb0
 cases hg:ZM f.t.n q with
 | none =>
  have hE:Hid (Z1s u f who q=(f,6)):=hid (by unfold Z1s;rw[hg])
  have hli:=hid (Z5U b m p n _ f u q W hF0.out ht hg)
  clear hg
  go_enter_defers Tryz.func13,Tryz.ntmps13
  go_wp2_with (rw[←hW];replace hW:=hid hW)
  try (rw[←hW];replace hW:=hid hW)
  refine hli.out.mono ?_
  rintro e w1 ⟨rfl,hb1⟩
  go_wp2_with fail
  rw[hE.out]
  exact Z1v rfl (hF0.out.below hb1) (hS0.out.trans (FStep.pure hb1)) hne.out ((hb1.block _ hlt0.out).trans hK0.out) hbw hmw (Nat.le_refl _) (by simp[go_sem]) rfl
 | some x =>
  cases hgo:x.gone with
  | true =>
   have hE:Hid (Z1s u f who q=(f,6)):=hid (by unfold Z1s;rw[hg];simp only;rw[if_pos hgo])
   have hli:=hid (Z44 b m p n _ f u q x W hF0.out ht hg hgo)
   clear hg hgo
   go_enter_defers Tryz.func13,Tryz.ntmps13
   go_wp2_with (rw[←hW];replace hW:=hid hW)
   try (rw[←hW];replace hW:=hid hW)
   refine hli.out.mono ?_
   rintro e w1 ⟨rfl,hb1⟩
   go_wp2_with fail
   rw[hE.out]
   exact Z1v rfl (hF0.out.below hb1) (hS0.out.trans (FStep.pure hb1)) hne.out ((hb1.block _ hlt0.out).trans hK0.out) hbw hmw (Nat.le_refl _) (by simp[go_sem]) rfl
  | false =>
   have hE:Hid (Z1s u f who q=if Z2H u f who x=false then(f,5) else if (ZQ f.t q who f.now).2≠0 then(f,(ZQ f.t q who f.now).2) else(Z2c (f.set (ZQ f.t q who f.now).1) q,0)):=hid (by unfold Z1s;rw[hg];simp only;rw[if_neg (by rw[hgo];decide)])
   have hli:=hid (Z5T b m p n _ f u q x W hF0.out ht hg hgo)
   clear hg hgo
   go_enter_defers Tryz.func13,Tryz.ntmps13
   go_wp2_with (rw[←hW];replace hW:=hid hW)
   try (rw[←hW];replace hW:=hid hW)
   refine hli.out.mono ?_
   rintro e w1 ⟨rfl,hb1⟩
   obtain⟨X,hX⟩ : ∃ W,W=Z1J w1 x:=⟨_,rfl⟩
   have hbX:Below w1.heap.size w1 X:=by rw[hX];exact ZD _ _
   have hBX:=sn hb1 hbX
   have hnX:=hid (show X.heap[w1.heap.size]?=some (.cells x.cells 89 (0,0)) by rw[hX];exact ZK _ _)
   have hFX:=hid (hF0.out.below hBX)
   have hSX:=hid (hS0.out.trans (FStep.pure hBX))
   have hKX:=hid ((hBX.block _ hlt0.out).trans hK0.out)
   have hab:=hid (Z5i b m p n _ f u who x X hFX.out ht hub)
   have hnew:=hid (heap_alloc_new w1 (.cells Zk.cells 89))
   unfold Z1J at hX
   rw[Zc]at hX hnew
   clear hb1 hbX hBX q0 q1 hli hF0 hS0 hK0
   go_wp2_with (first
    |(rw[←hX];replace hX:=hid hX)
    |(refine wpList_store_row (by rfl) 89 (.tmp 7) (.tmp 15) (by rfl) w1.heap.size x.cells (by rfl) (by rfl) 89 _ hnew.out (by kernel_rfl) (by kernel_rfl) (Zw x) ?_)
    |(refine wpList_load_row (by rfl) 89 (.tmp 7) (by rfl) w1.heap.size (by rfl) 89 x.cells (0,0) _ hnX.out Tryz.underlying89 (by rfl) (by kernel_rfl) ?_))
   refine hab.out.mono ?_
   rintro e w2 ⟨rfl,hb2⟩
   have hF2:=hid (hFX.out.below hb2)
   have hS2:=hid (hSX.out.trans (FStep.pure hb2))
   have hK2:=hid ((hb2.block _ (lt_of_block hKX.out)).trans hKX.out)
   clear hab hb2 hnew hnX
   cases hao:Z2H u f who x with
   | false =>
    have hmu:Hid (Calls Tryz.prog 37 #[.bool true,.int .i64 5] w2 fun x w'=>x=.panicked (ZY 5)∧w'=w2):=hid (Z1g 5 w2)
    have hE2:Hid (Z1s u f who q=(f,5)):=hid (by rw[hE.out,if_pos hao])
    clear hao hE
    go_wp2_with fail
    refine hmu.out.mono ?_
    rintro e w3 ⟨rfl,rfl⟩
    go_wp2_with fail
    rw[hE2.out]
    exact Z1v rfl hF2.out hS2.out hne.out hK2.out hbw hmw (Nat.le_refl _) (by simp[go_sem]) rfl
   | true =>
    have hmu:Hid (Calls Tryz.prog 37 #[.bool false,.int .i64 5] w2 fun x w'=>x=.returned (.tuple #[])∧w'=w2):=hid (Z1h 5 w2)
    have hE2:Hid (Z1s u f who q=if (ZQ f.t q who f.now).2≠0 then(f,(ZQ f.t q who f.now).2) else(Z2c (f.set (ZQ f.t q who f.now).1) q,0)):=hid (by rw[hE.out,if_neg (by rw[hao];decide)])
    have hFd:=hid (hF2.out.below ((Below.refl _ _).drew))
    have hSd:=hid (hS2.out.trans (FStep.pure ((Below.refl _ _).drew)))
    have hKd:=hid (show w2.drew.heap[w.heap.size]?=some (.cells #[.int .i64 0] 33 (0,0)) from hK2.out)
    have hun:=hid (Z3r _ f.t.next f.t.n q who f.now w2.drew hFd.out.row ht hnow)
    rw[show(⟨f.t.next,f.t.n⟩:Tr)=f.t from rfl]at hun
    generalize ZQ f.t q who f.now=R at *
    obtain⟨⟨x',l'⟩,E⟩:=R
    simp only at hE2 hun ht2
    have hltd:=hid (lt_of_block hKd.out)
    have hszd:=hid (show w.heap.size≤w2.drew.heap.size from hSd.out.size)
    have r0:w2.cell? ⟨b,0,none⟩=some (.int .u64 (f.t.next:Int)):=Z0 hF2.out.blk 0
    have r1:w2.cell? ⟨b,1,none⟩=some (.slice a0 f.t.n.length c0):=Z0 hF2.out.blk 1
    have r3:w2.cell? ⟨b,3,none⟩=some (.int .u32 (f.now:Int)):=Z0 hF2.out.blk 3
    clear hao hE
    go_wp2_with fail
    refine hmu.out.mono ?_
    rintro e w3 ⟨rfl,rfl⟩
    go_wp2_with fail
    by_cases hE0:E=0
    ·subst hE0
     have hE3:Hid (Z1s u f who q=(Z2c (f.set ⟨x',l'⟩) q,0)):=hid (by rw[hE2.out];simp)
     clear hE2
     refine ZX [(6,.pointer (some ⟨w.heap.size,0,none⟩))] mixed (by kernel_rfl) ⟨rfl,trivial⟩ ?_
     refine wpAny_take (i:=0) (v:=?_) rfl (by kernel_rfl) (by kernel_rfl) (by kernel_rfl) (fun _ _ _ h=>h) (Or.inl ⟨by rfl,?_⟩) ?_
     rotate_left
     ·intro w;go_simp;try (with_reducible rfl)
     refine wpAny_take (i:=1) (v:=?_) rfl (by kernel_rfl) (by kernel_rfl) (by kernel_rfl) (fun _ _ _ h=>h) (Or.inl ⟨by rfl,?_⟩) ?_
     rotate_left
     ·intro w;go_simp;try (with_reducible rfl)
     refine wpAny_take (i:=2) (v:=?_) rfl (by kernel_rfl) (by kernel_rfl) (by kernel_rfl) (fun _ _ _ h=>h) (Or.inl ⟨by rfl,?_⟩) ?_
     rotate_left
     ·intro w;go_simp;try (with_reducible rfl)
     refine wpAny_take (i:=3) (v:=?_) rfl (by kernel_rfl) (by kernel_rfl) (by kernel_rfl) (fun _ _ _ h=>h) (Or.inl ⟨by rfl,?_⟩) ?_
     rotate_left
     ·intro w;go_simp;try (with_reducible rfl)
     refine wpAny_take (i:=5) (v:=?_) rfl (by kernel_rfl) (by kernel_rfl) (by kernel_rfl) (fun _ _ _ h=>h) (Or.inl ⟨by rfl,?_⟩) ?_
     rotate_left
     ·intro w;go_simp;try (with_reducible rfl)
     refine wpAny_take (i:=6) (v:=?_) rfl (by kernel_rfl) (by kernel_rfl) (by kernel_rfl) (fun _ _ _ h=>h) (Or.inl ⟨by rfl,?_⟩) ?_
     rotate_left
     ·intro w;go_simp;try (with_reducible rfl)
     refine wpAny_take (i:=7) (v:=?_) rfl (by kernel_rfl) (by kernel_rfl) (by kernel_rfl) (fun _ _ _ h=>h) (Or.inl ⟨by rfl,?_⟩) ?_
     rotate_left
     ·intro w;go_simp;try (with_reducible rfl)
     refine wpAny_take (i:=8) (v:=?_) rfl (by kernel_rfl) (by kernel_rfl) (by kernel_rfl) (fun _ _ _ h=>h) (Or.inl ⟨by rfl,?_⟩) ?_
     rotate_left
     ·intro w;go_simp;try (with_reducible rfl)
     refine wpAny_take (i:=9) (v:=?_) rfl (by kernel_rfl) (by kernel_rfl) (by kernel_rfl) (fun _ _ _ h=>h) (Or.inl ⟨by rfl,?_⟩) ?_
     rotate_left
     ·intro w;go_simp;try (with_reducible rfl)
     refine wpAny_ready (rs:=[4,10]) (by kernel_rfl) (by simp) ?_
     refine AllReady.cons rfl (fun K hK=>?_) ?_
     go_simp
     refine hK _ _ ?_;clear hK K
     refine wpAny_ready (rs:=[10]) (by kernel_rfl) (by simp) ?_
     refine AllReady.cons rfl (fun K hK=>?_) ?_
     go_simp
     refine hK _ _ ?_;clear hK K
     refine wpAny_ready (rs:=[11]) (by kernel_rfl) (by simp) ?_
     refine AllReady.cons rfl (fun K hK=>?_) ?_
     go_simp
     go_wp2_with (first
      |(go_at_call 48;(with_reducible refine hun.out.mono ?_);rintro e w4 ⟨v',rfl,hv1,hf1,hb1⟩;obtain⟨a',c',rfl,_,_⟩:=hv1.form;have hnx:=hid (Z1E b m p n _ (.slice a' l'.length c') f u ⟨x',l'⟩ w4 (hFd.out.below hb1) hv1 (fun e=>by have:=hf1 _ e;have:=hszd.out;omega) (fun e=>by have:=hf1 _ e;have:=hszd.out;omega));replace hb1:=hid hb1;have ho1:=hid (show(Value.slice a' l'.length c').ownBlock≠some w.heap.size from fun e=>by have:=hf1 _ e;have:=hltd.out;omega);clear hv1 hf1)
      |(go_at_call 43;(with_reducible refine hnx.out.mono ?_);rintro e w5 ⟨rfl,hF5,hs5⟩;replace hF5:=hid hF5;replace hs5:=hid hs5))
     refine wpAny_take (i:=12) (v:=?_) rfl (by kernel_rfl) (by kernel_rfl) (by kernel_rfl) (fun _ _ _ h=>h) (Or.inl ⟨by rfl,?_⟩) ?_
     rotate_left
     ·intro w;go_simp;try (with_reducible rfl)
     refine wpAny_take (i:=13) (v:=?_) rfl (by kernel_rfl) (by kernel_rfl) (by kernel_rfl) (fun _ _ _ h=>h) (Or.inl ⟨by rfl,?_⟩) ?_
     rotate_left
     ·intro w;go_simp;try (with_reducible rfl)
     refine wpAny_ready (rs:=[14]) (by kernel_rfl) (by simp) ?_
     refine AllReady.cons rfl (fun K hK=>?_) ?_
     go_simp
     go_wp2_with (first
      |(go_at_call 48;(with_reducible refine hun.out.mono ?_);rintro e w4 ⟨v',rfl,hv1,hf1,hb1⟩;obtain⟨a',c',rfl,_,_⟩:=hv1.form;have hnx:=hid (Z1E b m p n _ (.slice a' l'.length c') f u ⟨x',l'⟩ w4 (hFd.out.below hb1) hv1 (fun e=>by have:=hf1 _ e;have:=hszd.out;omega) (fun e=>by have:=hf1 _ e;have:=hszd.out;omega));replace hb1:=hid hb1;have ho1:=hid (show(Value.slice a' l'.length c').ownBlock≠some w.heap.size from fun e=>by have:=hf1 _ e;have:=hltd.out;omega);clear hv1 hf1)
      |(go_at_call 43;(with_reducible refine hnx.out.mono ?_);rintro e w5 ⟨rfl,hF5,hs5⟩;replace hF5:=hid hF5;replace hs5:=hid hs5))
     refine wpAny_done (by kernel_rfl) ?_ _
     rotate_left
     exact AllReady.nil
     exact AllReady.nil
     exact AllReady.nil
     refine AllReady.cons rfl (fun K hK=>?_) ?_
     go_simp
     refine hK _ _ ?_;clear hK K
     refine wpAny_ready (rs:=[4]) (by kernel_rfl) (by simp) ?_
     refine AllReady.cons rfl (fun K hK=>?_) ?_
     go_simp
     refine hK _ _ ?_;clear hK K
     refine wpAny_ready (rs:=[11]) (by kernel_rfl) (by simp) ?_
     refine AllReady.cons rfl (fun K hK=>?_) ?_
     go_simp
     go_wp2_with (first
      |(go_at_call 48;(with_reducible refine hun.out.mono ?_);rintro e w4 ⟨v',rfl,hv1,hf1,hb1⟩;obtain⟨a',c',rfl,_,_⟩:=hv1.form;have hnx:=hid (Z1E b m p n _ (.slice a' l'.length c') f u ⟨x',l'⟩ w4 (hFd.out.below hb1) hv1 (fun e=>by have:=hf1 _ e;have:=hszd.out;omega) (fun e=>by have:=hf1 _ e;have:=hszd.out;omega));replace hb1:=hid hb1;have ho1:=hid (show(Value.slice a' l'.length c').ownBlock≠some w.heap.size from fun e=>by have:=hf1 _ e;have:=hltd.out;omega);clear hv1 hf1)
      |(go_at_call 43;(with_reducible refine hnx.out.mono ?_);rintro e w5 ⟨rfl,hF5,hs5⟩;replace hF5:=hid hF5;replace hs5:=hid hs5))
     refine wpAny_take (i:=12) (v:=?_) rfl (by kernel_rfl) (by kernel_rfl) (by kernel_rfl) (fun _ _ _ h=>h) (Or.inl ⟨by rfl,?_⟩) ?_
     rotate_left
     ·intro w;go_simp;try (with_reducible rfl)
     refine wpAny_take (i:=13) (v:=?_) rfl (by kernel_rfl) (by kernel_rfl) (by kernel_rfl) (fun _ _ _ h=>h) (Or.inl ⟨by rfl,?_⟩) ?_
     rotate_left
     ·intro w;go_simp;try (with_reducible rfl)
     refine wpAny_ready (rs:=[14]) (by kernel_rfl) (by simp) ?_
     refine AllReady.cons rfl (fun K hK=>?_) ?_
     go_simp
     go_wp2_with (first
      |(go_at_call 48;(with_reducible refine hun.out.mono ?_);rintro e w4 ⟨v',rfl,hv1,hf1,hb1⟩;obtain⟨a',c',rfl,_,_⟩:=hv1.form;have hnx:=hid (Z1E b m p n _ (.slice a' l'.length c') f u ⟨x',l'⟩ w4 (hFd.out.below hb1) hv1 (fun e=>by have:=hf1 _ e;have:=hszd.out;omega) (fun e=>by have:=hf1 _ e;have:=hszd.out;omega));replace hb1:=hid hb1;have ho1:=hid (show(Value.slice a' l'.length c').ownBlock≠some w.heap.size from fun e=>by have:=hf1 _ e;have:=hltd.out;omega);clear hv1 hf1)
      |(go_at_call 43;(with_reducible refine hnx.out.mono ?_);rintro e w5 ⟨rfl,hF5,hs5⟩;replace hF5:=hid hF5;replace hs5:=hid hs5))
     refine wpAny_done (by kernel_rfl) ?_ _
     rotate_left
     exact AllReady.nil
     exact AllReady.nil
     exact AllReady.nil
     exact AllReady.nil
     all_goals
      refine Z1H ?_
      have hK5:=hid ((hs5.out.block _ (Nat.lt_of_lt_of_le hltd.out hb1.out.size) (by omega) (by omega)).trans ((hb1.out.block _ hltd.out).trans hKd.out))
      have hS5:=hid (hSd.out.trans ((FStep.pure hb1.out).trans hs5.out))
      have hre:=hid (Z2t b m p n _ _ u q w5 hF5.out ht2 hq)
      clear r0 r1 r3
      go_wp2_with fail
      refine hre.out.mono ?_
      rintro e w6 ⟨rfl,⟨v6,hF6,ho6⟩,hs6⟩
      have hv6:v6.ownBlock≠some w.heap.size:=by
       rcases ho6 with rfl | h6
       ·exact ho1.out
       ·intro e;have:=h6 _ e;have:=lt_of_block hK5.out;omega
      have hK6:=(hs6.block _ (lt_of_block hK5.out) (by omega) (by omega)).trans hK5.out
      have k0:w6.cell? ⟨w.heap.size,0,none⟩=some (.int .i64 0):=Z0 hK6 0
      have k1:w6.frozen? ⟨w.heap.size,0,none⟩=false:=Zb hK6 0
      have hK7:=hid (Zg hK6 0 (.int .i64 0))
      have hF7:=hid (hF6.aside hv6 hbw hmw (.int .i64 0))
      have hS7:=hid ((hS5.out.trans hs6).aside (Nat.le_refl _) (.int .i64 0))
      clear hK6 hF6 hs6 ho6
      go_wp2_with fail
      rw[hE3.out]
      exact Z5Y rfl hF7.out hS7.out hK7.out (by simp[go_sem]) rfl
    ·have hE3:Hid (Z1s u f who q=(f,E)):=hid (by rw[hE2.out,if_pos hE0])
     have hnx:=hid (fun a l c w=>Z35 b x' E a l c w hE0)
     clear hE2
     refine ZX [(6,.pointer (some ⟨w.heap.size,0,none⟩))] mixed (by kernel_rfl) ⟨rfl,trivial⟩ ?_
     refine wpAny_take (i:=0) (v:=?_) rfl (by kernel_rfl) (by kernel_rfl) (by kernel_rfl) (fun _ _ _ h=>h) (Or.inl ⟨by rfl,?_⟩) ?_
     rotate_left
     ·intro w;go_simp;try (with_reducible rfl)
     refine wpAny_take (i:=1) (v:=?_) rfl (by kernel_rfl) (by kernel_rfl) (by kernel_rfl) (fun _ _ _ h=>h) (Or.inl ⟨by rfl,?_⟩) ?_
     rotate_left
     ·intro w;go_simp;try (with_reducible rfl)
     refine wpAny_take (i:=2) (v:=?_) rfl (by kernel_rfl) (by kernel_rfl) (by kernel_rfl) (fun _ _ _ h=>h) (Or.inl ⟨by rfl,?_⟩) ?_
     rotate_left
     ·intro w;go_simp;try (with_reducible rfl)
     refine wpAny_take (i:=3) (v:=?_) rfl (by kernel_rfl) (by kernel_rfl) (by kernel_rfl) (fun _ _ _ h=>h) (Or.inl ⟨by rfl,?_⟩) ?_
     rotate_left
     ·intro w;go_simp;try (with_reducible rfl)
     refine wpAny_take (i:=5) (v:=?_) rfl (by kernel_rfl) (by kernel_rfl) (by kernel_rfl) (fun _ _ _ h=>h) (Or.inl ⟨by rfl,?_⟩) ?_
     rotate_left
     ·intro w;go_simp;try (with_reducible rfl)
     refine wpAny_take (i:=6) (v:=?_) rfl (by kernel_rfl) (by kernel_rfl) (by kernel_rfl) (fun _ _ _ h=>h) (Or.inl ⟨by rfl,?_⟩) ?_
     rotate_left
     ·intro w;go_simp;try (with_reducible rfl)
     refine wpAny_take (i:=7) (v:=?_) rfl (by kernel_rfl) (by kernel_rfl) (by kernel_rfl) (fun _ _ _ h=>h) (Or.inl ⟨by rfl,?_⟩) ?_
     rotate_left
     ·intro w;go_simp;try (with_reducible rfl)
     refine wpAny_take (i:=8) (v:=?_) rfl (by kernel_rfl) (by kernel_rfl) (by kernel_rfl) (fun _ _ _ h=>h) (Or.inl ⟨by rfl,?_⟩) ?_
     rotate_left
     ·intro w;go_simp;try (with_reducible rfl)
     refine wpAny_take (i:=9) (v:=?_) rfl (by kernel_rfl) (by kernel_rfl) (by kernel_rfl) (fun _ _ _ h=>h) (Or.inl ⟨by rfl,?_⟩) ?_
     rotate_left
     ·intro w;go_simp;try (with_reducible rfl)
     refine wpAny_ready (rs:=[4,10]) (by kernel_rfl) (by simp) ?_
     refine AllReady.cons rfl (fun K hK=>?_) ?_
     go_simp
     refine hK _ _ ?_;clear hK K
     refine wpAny_ready (rs:=[10]) (by kernel_rfl) (by simp) ?_
     refine AllReady.cons rfl (fun K hK=>?_) ?_
     go_simp
     refine hK _ _ ?_;clear hK K
     refine wpAny_ready (rs:=[11]) (by kernel_rfl) (by simp) ?_
     refine AllReady.cons rfl (fun K hK=>?_) ?_
     go_simp
     go_wp2_with (first
      |(go_at_call 48;(with_reducible refine hun.out.mono ?_);rintro e w4 ⟨v',rfl,hv1,hf1,hb1⟩;obtain⟨a',c',rfl,_,_⟩:=hv1.form;clear hv1 hf1)
      |(go_at_call 43;(with_reducible refine(hnx.out _ _ _ _).mono ?_);rintro e w5 ⟨rfl,hb5⟩;refine Z1d (fun a' hd hx=>?_) ?_;(
        have hbb:=sn hb1 hb5
        have hKk:=(hbb.block _ hltd.out).trans hKd.out
        refine(show Leaves _ _ a'.tmps _ a'.defers _ _ from ?_)
        rw[hd,hE3.out]
        exact Z1v rfl (hFd.out.below hbb) (hSd.out.trans (FStep.pure hbb)) hne.out hKk hbw hmw (Nat.le_refl _) (by simp[go_sem]) (hx (6,_) (by simp)))))
     refine wpAny_take (i:=12) (v:=?_) rfl (by kernel_rfl) (by kernel_rfl) (by kernel_rfl) (fun _ _ _ h=>h) (Or.inl ⟨by rfl,?_⟩) ?_
     rotate_left
     ·intro w;go_simp;try (with_reducible rfl)
     refine wpAny_take (i:=13) (v:=?_) rfl (by kernel_rfl) (by kernel_rfl) (by kernel_rfl) (fun _ _ _ h=>h) (Or.inl ⟨by rfl,?_⟩) ?_
     rotate_left
     ·intro w;go_simp;try (with_reducible rfl)
     refine wpAny_ready (rs:=[14]) (by kernel_rfl) (by simp) ?_
     refine AllReady.cons rfl (fun K hK=>?_) ?_
     go_simp
     go_wp2_with (first
      |(go_at_call 48;(with_reducible refine hun.out.mono ?_);rintro e w4 ⟨v',rfl,hv1,hf1,hb1⟩;obtain⟨a',c',rfl,_,_⟩:=hv1.form;clear hv1 hf1)
      |(go_at_call 43;(with_reducible refine(hnx.out _ _ _ _).mono ?_);rintro e w5 ⟨rfl,hb5⟩;refine Z1d (fun a' hd hx=>?_) ?_;(
        have hbb:=sn hb1 hb5
        have hKk:=(hbb.block _ hltd.out).trans hKd.out
        refine(show Leaves _ _ a'.tmps _ a'.defers _ _ from ?_)
        rw[hd,hE3.out]
        exact Z1v rfl (hFd.out.below hbb) (hSd.out.trans (FStep.pure hbb)) hne.out hKk hbw hmw (Nat.le_refl _) (by simp[go_sem]) (hx (6,_) (by simp)))))
     refine wpAny_done (by kernel_rfl) ?_ _
     rotate_left
     exact AllReady.nil
     exact AllReady.nil
     exact AllReady.nil
     refine AllReady.cons rfl (fun K hK=>?_) ?_
     go_simp
     refine hK _ _ ?_;clear hK K
     refine wpAny_ready (rs:=[4]) (by kernel_rfl) (by simp) ?_
     refine AllReady.cons rfl (fun K hK=>?_) ?_
     go_simp
     refine hK _ _ ?_;clear hK K
     refine wpAny_ready (rs:=[11]) (by kernel_rfl) (by simp) ?_
     refine AllReady.cons rfl (fun K hK=>?_) ?_
     go_simp
     go_wp2_with (first
      |(go_at_call 48;(with_reducible refine hun.out.mono ?_);rintro e w4 ⟨v',rfl,hv1,hf1,hb1⟩;obtain⟨a',c',rfl,_,_⟩:=hv1.form;clear hv1 hf1)
      |(go_at_call 43;(with_reducible refine(hnx.out _ _ _ _).mono ?_);rintro e w5 ⟨rfl,hb5⟩;refine Z1d (fun a' hd hx=>?_) ?_;(
        have hbb:=sn hb1 hb5
        have hKk:=(hbb.block _ hltd.out).trans hKd.out
        refine(show Leaves _ _ a'.tmps _ a'.defers _ _ from ?_)
        rw[hd,hE3.out]
        exact Z1v rfl (hFd.out.below hbb) (hSd.out.trans (FStep.pure hbb)) hne.out hKk hbw hmw (Nat.le_refl _) (by simp[go_sem]) (hx (6,_) (by simp)))))
     refine wpAny_take (i:=12) (v:=?_) rfl (by kernel_rfl) (by kernel_rfl) (by kernel_rfl) (fun _ _ _ h=>h) (Or.inl ⟨by rfl,?_⟩) ?_
     rotate_left
     ·intro w;go_simp;try (with_reducible rfl)
     refine wpAny_take (i:=13) (v:=?_) rfl (by kernel_rfl) (by kernel_rfl) (by kernel_rfl) (fun _ _ _ h=>h) (Or.inl ⟨by rfl,?_⟩) ?_
     rotate_left
     ·intro w;go_simp;try (with_reducible rfl)
     refine wpAny_ready (rs:=[14]) (by kernel_rfl) (by simp) ?_
     refine AllReady.cons rfl (fun K hK=>?_) ?_
     go_simp
     go_wp2_with (first
      |(go_at_call 48;(with_reducible refine hun.out.mono ?_);rintro e w4 ⟨v',rfl,hv1,hf1,hb1⟩;obtain⟨a',c',rfl,_,_⟩:=hv1.form;clear hv1 hf1)
      |(go_at_call 43;(with_reducible refine(hnx.out _ _ _ _).mono ?_);rintro e w5 ⟨rfl,hb5⟩;refine Z1d (fun a' hd hx=>?_) ?_;(
        have hbb:=sn hb1 hb5
        have hKk:=(hbb.block _ hltd.out).trans hKd.out
        refine(show Leaves _ _ a'.tmps _ a'.defers _ _ from ?_)
        rw[hd,hE3.out]
        exact Z1v rfl (hFd.out.below hbb) (hSd.out.trans (FStep.pure hbb)) hne.out hKk hbw hmw (Nat.le_refl _) (by simp[go_sem]) (hx (6,_) (by simp)))))
     refine wpAny_done (by kernel_rfl) ?_ _
     rotate_left
     exact AllReady.nil
     exact AllReady.nil
     exact AllReady.nil
     exact AllReady.nil
     all_goals trivial
end
section
open Go.RowKit Go.Maps
set_option maxHeartbeats 6400000 in
theorem Z6A (b m p n:Nat) (v:Value) (f:FsV) (u:Usr) (who:ByteArray) (q:Nat) (name:ByteArray) (w:World) (h:FSo w b m v p f u n) (ht:TrOk f.t.n) (hne:f.t.n≠[]) (hub:UB u.us u.gs) :
  Calls Tryz.prog 20 #[.pointer (some ⟨b,0,none⟩),.string who,.int .u64 (q:Int),.string name] w (Z5W b m p n f u (.int .u64 ((Z2o u f who q name).1:Int)) (Z2o u f who q name).2 w):=by
 have mixed:Tryz.prog.follows Departure.mixedOrders=true:=by first | kernel_rfl | decide
 obtain⟨a0,c0,rfl,g1,g2⟩:=h.row.form
 obtain⟨W,hW⟩ : ∃ W,W=w.alloc (.cells #[.int .i64 0] 33):=⟨_,rfl⟩
 have hb0:Below w.heap.size w W:=by rw[hW];exact(Below.refl _ _).alloc (Nat.le_refl _) _
 have hK0:=hid (show W.heap[w.heap.size]?=some (.cells #[.int .i64 0] 33 (0,0)) by rw[hW];exact heap_alloc_new _ _)
 have hF0:=hid (h.below hb0)
 have hS0:=hid (FStep.pure (b:=b) (m:=m) hb0)
 have hbw:=lt_of_block h.blk
 have hmw:=h.map.lt
 have q0:=Z0 hF0.out.blk 0
 have q1:=Z0 hF0.out.blk 1
 have hlt0:=hid (lt_of_block hK0.out)
 replace hne:=hid hne
 clear h hb0
 cases hg:ZM f.t.n q with
 | none =>
  have hE:Hid (Z2o u f who q name=(0,6)):=hid (by unfold Z2o;rw[hg])
  have hli:=hid (Z5K b m p n _ f u q W hF0.out ht hg)
  clear hg
  go_enter_defers Tryz.func20,Tryz.ntmps20
  go_wp2_with (rw[←hW];replace hW:=hid hW)
  try (rw[←hW];replace hW:=hid hW)
  refine hli.out.mono ?_
  rintro e w1 ⟨rfl,hb1⟩
  go_wp2_with fail
  rw[hE.out]
  exact ZU rfl (hF0.out.below hb1) (hS0.out.trans (FStep.pure hb1)) hne.out ((hb1.block _ hlt0.out).trans hK0.out) hbw hmw (Nat.le_refl _) (by simp[go_sem]) rfl rfl
 | some d =>
  have hE:Hid (Z2o u f who q name=if ZF d=false then(0,13) else if u.may who d 1=false then(0,5)
   else if name=⟨#[46,46]⟩ then(if d.gone then(q,0) else(d.up,0))
   else match Z1F f.t.n q name with | none=>(0,6) | some n=>(n.path,0)):=hid (by unfold Z2o;rw[hg];rfl)
  have hli:=hid (Z4O b m p n _ f u q d W hF0.out ht hg)
  have hdk:=ht.ok d (Zr hg).1
  clear hg
  go_enter_defers Tryz.func20,Tryz.ntmps20
  go_wp2_with (rw[←hW];replace hW:=hid hW)
  try (rw[←hW];replace hW:=hid hW)
  refine hli.out.mono ?_
  rintro e w1 ⟨rfl,hb1⟩
  obtain⟨X,hX⟩ : ∃ W,W=Z1J w1 d:=⟨_,rfl⟩
  have hbX:Below w1.heap.size w1 X:=by rw[hX];exact ZD _ _
  have hBX:=sn hb1 hbX
  have hnX:=hid (show X.heap[w1.heap.size]?=some (.cells d.cells 89 (0,0)) by rw[hX];exact ZK _ _)
  have hFX:=hid (hF0.out.below hBX)
  have hSX:=hid (hS0.out.trans (FStep.pure hBX))
  have hKX:=hid ((hBX.block _ hlt0.out).trans hK0.out)
  have hdi:=hid (Z5I d X hdk)
  have hnew:=hid (heap_alloc_new w1 (.cells Zk.cells 89))
  unfold Z1J at hX
  rw[Zc]at hX hnew
  replace hdk:=hid hdk
  clear hb1 hbX hBX q0 q1 hli hF0 hS0 hK0
  go_wp2_with (first
   |(rw[←hX];replace hX:=hid hX)
   |(refine wpList_store_row (by rfl) 89 (.tmp 10) (.tmp 20) (by rfl) w1.heap.size d.cells (by rfl) (by rfl) 89 _ hnew.out (by kernel_rfl) (by kernel_rfl) (Zw d) ?_)
   |(refine wpList_load_row (by rfl) 89 (.tmp 10) (by rfl) w1.heap.size (by rfl) 89 d.cells (0,0) _ hnX.out Tryz.underlying89 (by rfl) (by kernel_rfl) ?_))
  generalize w1.heap.size=z at *
  refine hdi.out.mono ?_
  rintro e w2 ⟨rfl,hb2⟩
  have hF2:=hid (hFX.out.below hb2)
  have hS2:=hid (hSX.out.trans (FStep.pure hb2))
  have hK2:=hid ((hb2.block _ (lt_of_block hKX.out)).trans hKX.out)
  have hn2:=hid ((hb2.block _ (lt_of_block hnX.out)).trans hnX.out)
  clear hdi hb2 hnew hnX hFX hSX hKX
  cases hdd:ZF d with
  | false =>
   have hmu:Hid (Calls Tryz.prog 37 #[.bool true,.int .i64 13] w2 fun x w'=>x=.panicked (ZY 13)∧w'=w2):=hid (Z1g 13 w2)
   have hE2:Hid (Z2o u f who q name=(0,13)):=hid (by rw[hE.out,if_pos hdd])
   clear hdd hE
   go_wp2_with fail
   refine hmu.out.mono ?_
   rintro e w3 ⟨rfl,rfl⟩
   go_wp2_with fail
   rw[hE2.out]
   exact ZU rfl hF2.out hS2.out hne.out hK2.out hbw hmw (Nat.le_refl _) (by simp[go_sem]) rfl rfl
  | true =>
   have hmu:Hid (Calls Tryz.prog 37 #[.bool false,.int .i64 13] w2 fun x w'=>x=.returned (.tuple #[])∧w'=w2):=hid (Z1h 13 w2)
   have hE2:Hid (Z2o u f who q name=if u.may who d 1=false then(0,5)
    else if name=⟨#[46,46]⟩ then(if d.gone then(q,0) else(d.up,0))
    else match Z1F f.t.n q name with | none=>(0,6) | some n=>(n.path,0)):=hid (by rw[hE.out,if_neg (by rw[hdd];decide)])
   have hFd:=hid (hF2.out.below ((Below.refl _ _).drew))
   have hSd:=hid (hS2.out.trans (FStep.pure ((Below.refl _ _).drew)))
   have hKd:=hid (show w2.drew.heap[w.heap.size]?=some (.cells #[.int .i64 0] 33 (0,0)) from hK2.out)
   have hnd:=hid (show w2.drew.heap[z]?=some (.cells d.cells 89 (0,0)) from hn2.out)
   have hltd:=hid (lt_of_block hKd.out)
   have hmay:Calls Tryz.prog 39 #[.pointer (some ⟨p,0,none⟩),.string who,.agg d.cells,.int .u32 1] w2.drew (fun e w'=>e=.returned (.bool (u.may who d 1))∧Below w2.drew.heap.size w2.drew w'):=Z4n p u.us u.gs who d 1 w2.drew hFd.out.tabs hub hdk.out (by omega)
   have r2:w2.cell? ⟨b,2,none⟩=some (.pointer (some ⟨p,0,none⟩)):=Z0 hF2.out.blk 2
   clear hdd hE
   go_wp2_with fail
   refine hmu.out.mono ?_
   rintro e w3 ⟨rfl,rfl⟩
   clear hmu
   go_wp2_with fail
   obtain⟨d0,d1,d2,d3,d4,d5,d6,d7,d8,d9,d10,d11⟩:=Z4h hn2.out
   cases hmy:u.may who d 1 with
   | false =>
    rw[hmy,Z7]at hmay
    replace hmay:=hid hmay
    have hE3:Hid (Z2o u f who q name=(0,5)):=hid (by rw[hE2.out,if_pos hmy])
    have hmu:=hid (fun X=>show Calls Tryz.prog 37 #[.bool true,.int .i64 5] X (fun x w'=>x=.panicked (ZY 5)∧w'=X) from Z1g 5 X)
    clear hmy hE2
    refine ZX [(8,.int .u64 0),(9,.pointer (some ⟨w.heap.size,0,none⟩))] mixed (by kernel_rfl) ⟨rfl,rfl,trivial⟩ ?_
    refine wpAny_take (i:=0) (v:=?_) rfl (by kernel_rfl) (by kernel_rfl) (by kernel_rfl) (fun _ _ _ h=>h) (Or.inl ⟨by rfl,?_⟩) ?_
    rotate_left
    ·intro w;go_simp;try (with_reducible rfl)
    refine wpAny_take (i:=1) (v:=?_) rfl (by kernel_rfl) (by kernel_rfl) (by kernel_rfl) (fun _ _ _ h=>h) (Or.inl ⟨by rfl,?_⟩) ?_
    rotate_left
    ·intro w;go_simp;try (with_reducible rfl)
    refine wpAny_take (i:=2) (v:=?_) rfl (by kernel_rfl) (by kernel_rfl) (by kernel_rfl) (fun _ _ _ h=>h) (Or.inl ⟨by rfl,?_⟩) ?_
    rotate_left
    ·intro w;go_simp;try (with_reducible rfl)
    refine wpAny_take (i:=4) (v:=?_) rfl (by kernel_rfl) (by kernel_rfl) (by kernel_rfl) (fun _ _ _ h=>h) (Or.inl ⟨by rfl,?_⟩) ?_
    rotate_left
    ·intro w;go_simp;try (with_reducible rfl)
    refine wpAny_ready (rs:=[3,5]) (by kernel_rfl) (by simp) ?_
    refine AllReady.cons rfl (fun K hK=>?_) ?_
    go_simp
    refine hK _ _ ?_;clear hK K
    refine wpAny_ready (rs:=[5]) (by kernel_rfl) (by simp) ?_
    refine AllReady.cons rfl (fun K hK=>?_) ?_
    go_simp
    refine hK _ _ ?_;clear hK K
    refine wpAny_ready (rs:=[6]) (by kernel_rfl) (by simp) ?_
    refine AllReady.cons rfl (fun K hK=>?_) ?_
    go_simp
    go_wp2_with (first
     |(go_at_call 39;(with_reducible refine hmay.out.mono ?_);rintro e w4 ⟨rfl,hb4⟩)
     |(go_at_call 37;(with_reducible refine(hmu.out _).mono ?_);rintro e w5 ⟨rfl,rfl⟩;refine Z1d (fun a' hd hx=>?_) ?_;(
       have hKk:=(hb4.block _ hltd.out).trans hKd.out
       refine(show Leaves _ _ a'.tmps _ a'.defers _ _ from ?_)
       rw[hd,hE3.out]
       exact ZU rfl (hFd.out.below hb4) (hSd.out.trans (FStep.pure hb4)) hne.out hKk hbw hmw (Nat.le_refl _) (by simp[go_sem]) (hx (8,_) (by simp)) (hx (9,_) (by simp)))))
    refine wpAny_take (i:=7) (v:=?_) rfl (by kernel_rfl) (by kernel_rfl) (by kernel_rfl) (fun _ _ _ h=>h) (Or.inl ⟨by rfl,?_⟩) ?_
    rotate_left
    ·intro w;go_simp;try (with_reducible rfl)
    refine wpAny_ready (rs:=[8]) (by kernel_rfl) (by simp) ?_
    refine AllReady.cons rfl (fun K hK=>?_) ?_
    go_simp
    go_wp2_with (first
     |(go_at_call 39;(with_reducible refine hmay.out.mono ?_);rintro e w4 ⟨rfl,hb4⟩)
     |(go_at_call 37;(with_reducible refine(hmu.out _).mono ?_);rintro e w5 ⟨rfl,rfl⟩;refine Z1d (fun a' hd hx=>?_) ?_;(
       have hKk:=(hb4.block _ hltd.out).trans hKd.out
       refine(show Leaves _ _ a'.tmps _ a'.defers _ _ from ?_)
       rw[hd,hE3.out]
       exact ZU rfl (hFd.out.below hb4) (hSd.out.trans (FStep.pure hb4)) hne.out hKk hbw hmw (Nat.le_refl _) (by simp[go_sem]) (hx (8,_) (by simp)) (hx (9,_) (by simp)))))
    refine wpAny_done (by kernel_rfl) ?_ _
    rotate_left
    exact AllReady.nil
    exact AllReady.nil
    exact AllReady.nil
    refine AllReady.cons rfl (fun K hK=>?_) ?_
    go_simp
    refine hK _ _ ?_;clear hK K
    refine wpAny_ready (rs:=[3]) (by kernel_rfl) (by simp) ?_
    refine AllReady.cons rfl (fun K hK=>?_) ?_
    go_simp
    refine hK _ _ ?_;clear hK K
    refine wpAny_ready (rs:=[6]) (by kernel_rfl) (by simp) ?_
    refine AllReady.cons rfl (fun K hK=>?_) ?_
    go_simp
    go_wp2_with (first
     |(go_at_call 39;(with_reducible refine hmay.out.mono ?_);rintro e w4 ⟨rfl,hb4⟩)
     |(go_at_call 37;(with_reducible refine(hmu.out _).mono ?_);rintro e w5 ⟨rfl,rfl⟩;refine Z1d (fun a' hd hx=>?_) ?_;(
       have hKk:=(hb4.block _ hltd.out).trans hKd.out
       refine(show Leaves _ _ a'.tmps _ a'.defers _ _ from ?_)
       rw[hd,hE3.out]
       exact ZU rfl (hFd.out.below hb4) (hSd.out.trans (FStep.pure hb4)) hne.out hKk hbw hmw (Nat.le_refl _) (by simp[go_sem]) (hx (8,_) (by simp)) (hx (9,_) (by simp)))))
    refine wpAny_take (i:=7) (v:=?_) rfl (by kernel_rfl) (by kernel_rfl) (by kernel_rfl) (fun _ _ _ h=>h) (Or.inl ⟨by rfl,?_⟩) ?_
    rotate_left
    ·intro w;go_simp;try (with_reducible rfl)
    refine wpAny_ready (rs:=[8]) (by kernel_rfl) (by simp) ?_
    refine AllReady.cons rfl (fun K hK=>?_) ?_
    go_simp
    go_wp2_with (first
     |(go_at_call 39;(with_reducible refine hmay.out.mono ?_);rintro e w4 ⟨rfl,hb4⟩)
     |(go_at_call 37;(with_reducible refine(hmu.out _).mono ?_);rintro e w5 ⟨rfl,rfl⟩;refine Z1d (fun a' hd hx=>?_) ?_;(
       have hKk:=(hb4.block _ hltd.out).trans hKd.out
       refine(show Leaves _ _ a'.tmps _ a'.defers _ _ from ?_)
       rw[hd,hE3.out]
       exact ZU rfl (hFd.out.below hb4) (hSd.out.trans (FStep.pure hb4)) hne.out hKk hbw hmw (Nat.le_refl _) (by simp[go_sem]) (hx (8,_) (by simp)) (hx (9,_) (by simp)))))
    refine wpAny_done (by kernel_rfl) ?_ _
    rotate_left
    exact AllReady.nil
    exact AllReady.nil
    exact AllReady.nil
    exact AllReady.nil
    all_goals trivial
   | true =>
    rw[hmy,Z7]at hmay
    replace hmay:=hid hmay
    have hE3:Hid (Z2o u f who q name=if name=⟨#[46,46]⟩ then(if d.gone then(q,0) else(d.up,0))
     else match Z1F f.t.n q name with | none=>(0,6) | some n=>(n.path,0)):=hid (by rw[hE2.out,if_neg (by rw[hmy];decide)])
    have hmu:=hid (fun X=>show Calls Tryz.prog 37 #[.bool false,.int .i64 5] X (fun x w'=>x=.returned (.tuple #[])∧w'=X) from Z1h 5 X)
    clear hmy hE2
    refine ZX [(8,.int .u64 0),(9,.pointer (some ⟨w.heap.size,0,none⟩))] mixed (by kernel_rfl) ⟨rfl,rfl,trivial⟩ ?_
    refine wpAny_take (i:=0) (v:=?_) rfl (by kernel_rfl) (by kernel_rfl) (by kernel_rfl) (fun _ _ _ h=>h) (Or.inl ⟨by rfl,?_⟩) ?_
    rotate_left
    ·intro w;go_simp;try (with_reducible rfl)
    refine wpAny_take (i:=1) (v:=?_) rfl (by kernel_rfl) (by kernel_rfl) (by kernel_rfl) (fun _ _ _ h=>h) (Or.inl ⟨by rfl,?_⟩) ?_
    rotate_left
    ·intro w;go_simp;try (with_reducible rfl)
    refine wpAny_take (i:=2) (v:=?_) rfl (by kernel_rfl) (by kernel_rfl) (by kernel_rfl) (fun _ _ _ h=>h) (Or.inl ⟨by rfl,?_⟩) ?_
    rotate_left
    ·intro w;go_simp;try (with_reducible rfl)
    refine wpAny_take (i:=4) (v:=?_) rfl (by kernel_rfl) (by kernel_rfl) (by kernel_rfl) (fun _ _ _ h=>h) (Or.inl ⟨by rfl,?_⟩) ?_
    rotate_left
    ·intro w;go_simp;try (with_reducible rfl)
    refine wpAny_ready (rs:=[3,5]) (by kernel_rfl) (by simp) ?_
    refine AllReady.cons rfl (fun K hK=>?_) ?_
    go_simp
    refine hK _ _ ?_;clear hK K
    refine wpAny_ready (rs:=[5]) (by kernel_rfl) (by simp) ?_
    refine AllReady.cons rfl (fun K hK=>?_) ?_
    go_simp
    refine hK _ _ ?_;clear hK K
    refine wpAny_ready (rs:=[6]) (by kernel_rfl) (by simp) ?_
    refine AllReady.cons rfl (fun K hK=>?_) ?_
    go_simp
    go_wp2_with (first
     |(go_at_call 39;(with_reducible refine hmay.out.mono ?_);rintro e w4 ⟨rfl,hb4⟩;replace hb4:=hid hb4)
     |(go_at_call 37;(with_reducible refine(hmu.out _).mono ?_);rintro e w5 ⟨rfl,rfl⟩))
    refine wpAny_take (i:=7) (v:=?_) rfl (by kernel_rfl) (by kernel_rfl) (by kernel_rfl) (fun _ _ _ h=>h) (Or.inl ⟨by rfl,?_⟩) ?_
    rotate_left
    ·intro w;go_simp;try (with_reducible rfl)
    refine wpAny_ready (rs:=[8]) (by kernel_rfl) (by simp) ?_
    refine AllReady.cons rfl (fun K hK=>?_) ?_
    go_simp
    go_wp2_with (first
     |(go_at_call 39;(with_reducible refine hmay.out.mono ?_);rintro e w4 ⟨rfl,hb4⟩;replace hb4:=hid hb4)
     |(go_at_call 37;(with_reducible refine(hmu.out _).mono ?_);rintro e w5 ⟨rfl,rfl⟩))
    refine wpAny_done (by kernel_rfl) ?_ _
    rotate_left
    exact AllReady.nil
    exact AllReady.nil
    exact AllReady.nil
    refine AllReady.cons rfl (fun K hK=>?_) ?_
    go_simp
    refine hK _ _ ?_;clear hK K
    refine wpAny_ready (rs:=[3]) (by kernel_rfl) (by simp) ?_
    refine AllReady.cons rfl (fun K hK=>?_) ?_
    go_simp
    refine hK _ _ ?_;clear hK K
    refine wpAny_ready (rs:=[6]) (by kernel_rfl) (by simp) ?_
    refine AllReady.cons rfl (fun K hK=>?_) ?_
    go_simp
    go_wp2_with (first
     |(go_at_call 39;(with_reducible refine hmay.out.mono ?_);rintro e w4 ⟨rfl,hb4⟩;replace hb4:=hid hb4)
     |(go_at_call 37;(with_reducible refine(hmu.out _).mono ?_);rintro e w5 ⟨rfl,rfl⟩))
    refine wpAny_take (i:=7) (v:=?_) rfl (by kernel_rfl) (by kernel_rfl) (by kernel_rfl) (fun _ _ _ h=>h) (Or.inl ⟨by rfl,?_⟩) ?_
    rotate_left
    ·intro w;go_simp;try (with_reducible rfl)
    refine wpAny_ready (rs:=[8]) (by kernel_rfl) (by simp) ?_
    refine AllReady.cons rfl (fun K hK=>?_) ?_
    go_simp
    go_wp2_with (first
     |(go_at_call 39;(with_reducible refine hmay.out.mono ?_);rintro e w4 ⟨rfl,hb4⟩;replace hb4:=hid hb4)
     |(go_at_call 37;(with_reducible refine(hmu.out _).mono ?_);rintro e w5 ⟨rfl,rfl⟩))
    refine wpAny_done (by kernel_rfl) ?_ _
    rotate_left
    exact AllReady.nil
    exact AllReady.nil
    exact AllReady.nil
    exact AllReady.nil
    all_goals
     refine Z1H ?_
     clear d0 d1 d2 d3 d4 d5 d6 d7 d8 d9 d10 d11 r2
     have hF4:=hid (hFd.out.below hb4.out)
     have hS4:=hid (hSd.out.trans (FStep.pure hb4.out))
     have hK4:=hid ((hb4.out.block _ hltd.out).trans hKd.out)
     have hn4:=hid ((hb4.out.block _ (lt_of_block hnd.out)).trans hnd.out)
     clear hmay hmu hFd hSd hKd hnd hb4 hF2 hS2 hK2 hn2
     obtain⟨d0,d1,d2,d3,d4,d5,d6,d7,d8,d9,d10,d11⟩:=Z4h hn4.out
     have k0:w5.cell? ⟨w.heap.size,0,none⟩=some (.int .i64 0):=Z0 hK4.out 0
     have k1:w5.frozen? ⟨w.heap.size,0,none⟩=false:=Zb hK4.out 0
     by_cases hnm:name=⟨#[46,46]⟩
     ·have hho:Hid ((Value.slice a0 f.t.n.length c0).ownBlock≠some w.heap.size):=hid (Z2V hF4.out.row hne.out hK4.out (by show 1<12;omega))
      have hK7:=hid (Zg hK4.out 0 (.int .i64 0))
      have hF7:=hid (hF4.out.aside hho.out hbw hmw (.int .i64 0))
      have hS7:=hid (hS4.out.aside (Nat.le_refl _) (.int .i64 0))
      have hE4:Hid (Z2o u f who q name=if d.gone then(q,0) else(d.up,0)):=hid (by rw[hE3.out,if_pos hnm])
      clear hE3
      subst hnm
      cases hgo:d.gone with
      | true =>
       rw[hgo]at d10 hE4
       go_wp2_with fail
       rw[hE4.out]
       exact Z3f rfl hF7.out hS7.out hK7.out (by simp[go_sem]) rfl rfl
      | false =>
       rw[hgo]at d10 hE4
       go_wp2_with fail
       rw[hE4.out]
       exact Z3f rfl hF7.out hS7.out hK7.out (by simp[go_sem]) rfl rfl
     ·have hE4:Hid (Z2o u f who q name=match Z1F f.t.n q name with | none=>(0,6) | some n=>(n.path,0)):=hid (by rw[hE3.out,if_neg hnm])
      have hfi:=Z6j _ f.t.next f.t.n q name w5 hF4.out.row (by have:=ht.few;omega)
      unfold Z7m at hfi
      have r0:w5.cell? ⟨b,0,none⟩=some (.int .u64 (f.t.next:Int)):=Z0 hF4.out.blk 0
      have r1:w5.cell? ⟨b,1,none⟩=some (.slice a0 f.t.n.length c0):=Z0 hF4.out.blk 1
      clear hE3
      have hn1:(name.toList ==(⟨#[46,46]⟩:ByteArray).toList)=false:=by rw[Z5L];exact decide_eq_false hnm
      have hn3:(⟨#[46,46]⟩:ByteArray).toList=[46,46]:=by rw[ByteArray.toList_eq]
      have hn2:(name.toList == [46,46])=false:=by rw[←hn3];exact hn1
      obtain⟨nn,hnn⟩ : ∃ nn,(Z1F f.t.n q name).getD Zk=nn:=⟨_,rfl⟩
      rw[hnn]at hfi
      cases hfo:Z1F f.t.n q name with
      | none =>
       have hE5:Hid (Z2o u f who q name=(0,6)):=hid (by rw[hE4.out,hfo])
       rw[hfo]at hfi
       replace hfi:=hid hfi
       replace hnn:=hid hnn
       clear hE4 hfo
       go_wp2_with fail
       refine hfi.out.mono ?_
       rintro e w6 ⟨rfl,hb6⟩
       obtain⟨Y,hY⟩ : ∃ W,W=Z1J w6 nn:=⟨_,rfl⟩
       have hbY:Below w6.heap.size w6 Y:=by rw[hY];exact ZD _ _
       have hBY:=sn hb6 hbY
       have hnY:Y.heap[w6.heap.size]?=some (.cells nn.cells 89 (0,0)):=by rw[hY];exact ZK _ _
       have hFY:=hid (hF4.out.below hBY)
       have hSY:=hid (hS4.out.trans (FStep.pure hBY))
       have hKY:=hid ((hBY.block _ (lt_of_block hK4.out)).trans hK4.out)
       have hnew:=hid (heap_alloc_new w6 (.cells Zk.cells 89))
       unfold Z1J at hY
       rw[Zc]at hY hnew
       clear hb6 hbY hBY d0 d1 d2 d3 d4 d5 d6 d7 d8 d9 d10 d11 k0 k1 r0 r1
       have hmu:Hid (Calls Tryz.prog 37 #[.bool true,.int .i64 6] Y fun x w'=>x=.panicked (ZY 6)∧w'=Y):=hid (Z1g 6 Y)
       go_wp2_with (first
        |(rw[←hY];replace hY:=hid hY)
        |(refine wpList_store_row (by rfl) 89 (.tmp 11) (.tmp 55) (by rfl) w6.heap.size nn.cells (by rfl) (by rfl) 89 _ hnew.out (by kernel_rfl) (by kernel_rfl) (Zw nn) ?_))
       refine hmu.out.mono ?_
       rintro e w7 ⟨rfl,rfl⟩
       go_wp2_with fail
       rw[hE5.out]
       exact ZU rfl hFY.out hSY.out hne.out hKY.out hbw hmw (Nat.le_refl _) (by simp[go_sem]) rfl rfl
      | some y =>
       have hny:nn=y:=by rw[←hnn,hfo];rfl
       have hE5:Hid (Z2o u f who q name=(nn.path,0)):=hid (by rw[hE4.out,hfo,hny])
       rw[hfo]at hfi
       replace hfi:=hid hfi
       replace hnn:=hid hnn
       clear hE4 hfo hny
       go_wp2_with fail
       refine hfi.out.mono ?_
       rintro e w6 ⟨rfl,hb6⟩
       obtain⟨Y,hY⟩ : ∃ W,W=Z1J w6 nn:=⟨_,rfl⟩
       have hbY:Below w6.heap.size w6 Y:=by rw[hY];exact ZD _ _
       have hBY:=sn hb6 hbY
       have hnY:Y.heap[w6.heap.size]?=some (.cells nn.cells 89 (0,0)):=by rw[hY];exact ZK _ _
       have hFY:=hid (hF4.out.below hBY)
       have hSY:=hid (hS4.out.trans (FStep.pure hBY))
       have hKY:=hid ((hBY.block _ (lt_of_block hK4.out)).trans hK4.out)
       have hnew:=hid (heap_alloc_new w6 (.cells Zk.cells 89))
       unfold Z1J at hY
       rw[Zc]at hY hnew
       clear hb6 hbY hBY d0 d1 d2 d3 d4 d5 d6 d7 d8 d9 d10 d11 k0 k1 r0 r1
       have hmu:Hid (Calls Tryz.prog 37 #[.bool false,.int .i64 6] Y fun x w'=>x=.returned (.tuple #[])∧w'=Y):=hid (Z1h 6 Y)
       have hho:Hid ((Value.slice a0 f.t.n.length c0).ownBlock≠some w.heap.size):=hid (Z2V hFY.out.row hne.out hKY.out (by show 1<12;omega))
       have k0:Y.cell? ⟨w.heap.size,0,none⟩=some (.int .i64 0):=Z0 hKY.out 0
       have k1:Y.frozen? ⟨w.heap.size,0,none⟩=false:=Zb hKY.out 0
       have p0:Y.cell? ⟨w6.heap.size,0,none⟩=some (.int .u64 (nn.path:Int)):=Z0 hnY 0
       have hK7:=hid (Zg hKY.out 0 (.int .i64 0))
       have hF7:=hid (hFY.out.aside hho.out hbw hmw (.int .i64 0))
       have hS7:=hid (hSY.out.aside (Nat.le_refl _) (.int .i64 0))
       clear hnY
       go_wp2_with (first
        |(rw[←hY];replace hY:=hid hY)
        |(refine wpList_store_row (by rfl) 89 (.tmp 11) (.tmp 55) (by rfl) w6.heap.size nn.cells (by rfl) (by rfl) 89 _ hnew.out (by kernel_rfl) (by kernel_rfl) (Zw nn) ?_))
       refine hmu.out.mono ?_
       rintro e w7 ⟨rfl,rfl⟩
       go_wp2_with fail
       rw[hE5.out]
       exact Z3f rfl hF7.out hS7.out hK7.out (by simp[go_sem]) rfl rfl
end
section
open Go.RowKit Go.Maps
theorem Z4W {P:Program} {fn:Func} {p q:Tmp} {ty ty2:TypeId} (h:fn.results=#[.cell p ty,.cell q ty2]) (tmps:Array Value) (w:World) (g g2:Nat) (t:TypeId) (cs:Array Value) (fr:Nat×Nat) (d:TypeDesc) (x:Value)
  (hp:tmps.getD p undef=.pointer (some ⟨g,0,none⟩)) (hq:tmps.getD q undef=.pointer (some ⟨g2,0,none⟩)) (hg:w.heap[g]?=some (.cells cs t fr))
  (hu:P.underlying ty=some d) (hd:(match d with | .struct _ | .array _ _=>true | _=>false)=true) (hi:(P.info? ty).map (·.size)=some cs.size) (hx:(loadVar ty2 ⟨g2,0,none⟩).run P w=.ok x w) :
  (results fn tmps).run P w=.ok (.tuple #[.agg cs,x]) w:=by
 have hp':tmps[p]?.getD undef=.pointer (some ⟨g,0,none⟩):=by simpa using hp
 have hq':tmps[q]?.getD undef=.pointer (some ⟨g2,0,none⟩):=by simpa using hq
 simp[results,h,hp',hq',asAddr,run_loadVar_row w g t ty cs fr d hg hu hd hi,hx]
def Z51:Array Value:=#[.int .u16 0,.int .u32 0,.int .u8 0,.int .u32 0,.int .u64 0,.int .u32 0,.int .u32 0,.int .u32 0,.int .u64 0,.string ⟨#[]⟩,.string ⟨#[]⟩,.string ⟨#[]⟩,.string ⟨#[]⟩]
def Z52 (f:FsV) (q:Nat):Array Value×Nat:=match ZM f.t.n q with | none=>(Z51,6) | some x=>(Z1I x (Z75 x),0)
theorem Z8r {w:World} {b k j next E:Nat} {v:Value} (hj:j<w.heap.size) (h1:j≠b) (h2:j≠k):(Z3G w b k next v E).heap[j]?=w.heap[j]?:=by
 unfold Z3G
 rw[Z1 (show j≠k from h2),Z1 (show j≠b from h1),Z1 (show j≠b from h1),heap_alloc_old _ _ hj]
set_option maxHeartbeats 3200000 in
theorem Z6B (b m p n:Nat) (v:Value) (f:FsV) (u:Usr) (q:Nat) (w:World) (h:FSo w b m v p f u n) (ht:TrOk f.t.n) (hne:f.t.n≠[]) :
  Calls Tryz.prog 19 #[.pointer (some ⟨b,0,none⟩),.int .u64 (q:Int)] w (Z5W b m p n f u (.agg (Z52 f q).1) (Z52 f q).2 w):=by
 obtain⟨a0,c0,rfl,g1,g2⟩:=h.row.form
 obtain⟨W,hW⟩ : ∃ W,W=(w.alloc (.cells Z51 53)).alloc (.cells #[.int .i64 0] 33):=⟨_,rfl⟩
 have hb0:Below w.heap.size w W:=by rw[hW];exact((Below.refl _ _).alloc (Nat.le_refl _) _).alloc (by simp) _
 have hK0:=hid (show W.heap[w.heap.size+1]?=some (.cells #[.int .i64 0] 33 (0,0)) by rw[hW];exact Z27 _ _ _)
 have hR0:=hid (show W.heap[w.heap.size]?=some (.cells Z51 53 (0,0)) by rw[hW,heap_alloc_old _ _ (by simp)];exact heap_alloc_new _ _)
 have hF0:=hid (h.below hb0)
 have hS0:=hid (FStep.pure (b:=b) (m:=m) hb0)
 have hbw:=lt_of_block h.blk
 have hmw:=h.map.lt
 have q0:=Z0 hF0.out.blk 0
 have q1:=Z0 hF0.out.blk 1
 have hlt0:=hid (lt_of_block hK0.out)
 have hlr0:=hid (lt_of_block hR0.out)
 replace hne:=hid hne
 replace h:=hid h
 replace hb0:=hid hb0
 cases hg:ZM f.t.n q with
 | none =>
  have hE:Hid (Z52 f q=(Z51,6)):=hid (by unfold Z52;rw[hg])
  have hli:=hid (Z5K b m p n _ f u q W hF0.out ht hg)
  clear hg
  unfold Z51 at hW
  go_enter_defers Tryz.func19,Tryz.ntmps19
  go_wp2_with (rw[←hW];replace hW:=hid hW)
  try (rw[←hW];replace hW:=hid hW)
  refine hli.out.mono ?_
  rintro e w1 ⟨rfl,hb1⟩
  have hK1:=(hb1.block _ hlt0.out).trans hK0.out
  have hR1:=(hb1.block _ hlr0.out).trans hR0.out
  have hF1:=hF0.out.below hb1
  have hS1:=hS0.out.trans (FStep.pure hb1)
  replace hK1:=hid hK1
  replace hR1:=hid hR1
  replace hF1:=hid hF1
  replace hS1:=hid hS1
  go_wp2_with fail
  rw[hE.out]
  exact Z4q hF1.out hK1.out (by omega) (by simp[go_sem]) ⟨_,Z4W rfl _ _ w.heap.size (w.heap.size+1) _ Z51 _ _ _ rfl rfl ((Z8r (lt_of_block hR1.out) (by omega) (by omega)).trans hR1.out) Tryz.underlying53 rfl (by kernel_rfl) (Z1T (Z3Q hK1.out (by omega))),rfl,⟨_,hF1.out.back hne.out hK1.out (by omega) (by omega)⟩,hS1.out.back (by omega) _ _ _⟩
 | some x =>
  have hxm:=(Zr hg).1
  have hE:Hid (Z52 f q=(Z1I x (Z75 x),0)):=hid (by unfold Z52;rw[hg])
  have hli:=hid (Z4O b m p n _ f u q x W hF0.out ht hg)
  have hst:=hid (fun X=>Z6w x X (ht.ok x hxm) (by have:=ht.len x hxm;omega))
  clear hg hxm
  unfold Z51 at hW
  go_enter_defers Tryz.func19,Tryz.ntmps19
  go_wp2_with (rw[←hW];replace hW:=hid hW)
  try (rw[←hW];replace hW:=hid hW)
  refine hli.out.mono ?_
  rintro e w1 ⟨rfl,hb1⟩
  go_wp2_with fail
  refine(hst.out _).mono ?_
  rintro e w2 ⟨rfl,hb2⟩
  have hbb:=sn hb1 hb2
  have hK2:=(hbb.block _ hlt0.out).trans hK0.out
  have hR2:=hid ((hbb.block _ hlr0.out).trans hR0.out)
  have hB2:=sn hb0.out hbb
  obtain⟨Y,hY⟩ : ∃ Y,Y=w2.setRow w.heap.size (Z1I x (Z75 x)):=⟨_,rfl⟩
  have hRY:=hid (show Y.heap[w.heap.size]?=some (.cells (Z1I x (Z75 x)) 53 (0,0)) by rw[hY];exact setRow_heap _ _ _ _ _ _ hR2.out)
  have hKY:Y.heap[w.heap.size+1]?=some (.cells #[.int .i64 0] 33 (0,0)):=by rw[hY];exact(setRow_other _ _ _ _ (by omega)).trans hK2
  have hBY:Below w.heap.size w Y:=by rw[hY];exact below_setRow hB2 (Nat.le_refl _) _
  have k0:Y.cell? ⟨w.heap.size+1,0,none⟩=some (.int .i64 0):=Z0 hKY 0
  have k1:Y.frozen? ⟨w.heap.size+1,0,none⟩=false:=Zb hKY 0
  have hKZ:=hid (show(Y.setCell ⟨w.heap.size+1,0,none⟩ (.int .i64 0)).heap[w.heap.size+1]?=some (.cells #[.int .i64 0] 33 (0,0)) from Zg hKY 0 _)
  have hRZ:=hid (show(Y.setCell ⟨w.heap.size+1,0,none⟩ (.int .i64 0)).heap[w.heap.size]?=some (.cells (Z1I x (Z75 x)) 53 (0,0)) from(Z1 (by show w.heap.size≠w.heap.size+1;omega)).trans hRY.out)
  have hBZ:=hid (show Below w.heap.size w (Y.setCell ⟨w.heap.size+1,0,none⟩ (.int .i64 0)) from hBY.setCell (p:=⟨w.heap.size+1,0,none⟩) (by show w.heap.size≤w.heap.size+1;omega) _)
  clear hb1 hb2 hbb hK2 hB2 hKY hBY hli hst
  go_wp2_with (first
   |(rw[←hY];replace hY:=hid hY)
   |(refine wpList_store_row (by rfl) 53 (.tmp 4) (.tmp 14) (by rfl) w.heap.size (Z1I x (Z75 x)) (by rfl) (by rfl) 53 _ hR2.out (by kernel_rfl) (by kernel_rfl) (by kernel_rfl) ?_))
  rw[hE.out]
  have hA:=(Below.refl (Y.setCell ⟨w.heap.size+1,0,none⟩ (.int .i64 0)).heap.size (Y.setCell ⟨w.heap.size+1,0,none⟩ (.int .i64 0))).alloc (Nat.le_refl _) (.cells #[.int .u64 (f.t.next:Int),.slice a0 f.t.n.length c0] 30)
  exact Z5X (by simp[go_sem]) ⟨_,Z4W rfl _ _ w.heap.size (w.heap.size+1) _ (Z1I x (Z75 x)) _ _ _ rfl rfl ((hA.block _ (lt_of_block hRZ.out)).trans hRZ.out) Tryz.underlying53 rfl (by kernel_rfl) (Z1T (Z0 ((hA.block _ (lt_of_block hKZ.out)).trans hKZ.out) 0)),rfl,⟨_,h.out.below (sn hBZ.out hA)⟩,FStep.pure (sn hBZ.out hA)⟩
end
end Go.Proofs.YtkefjeabckainaaGreat
