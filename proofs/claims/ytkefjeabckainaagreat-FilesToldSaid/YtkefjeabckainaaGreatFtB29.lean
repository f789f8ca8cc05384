/- Open of package fsys. Conditions: in the statements.
Born of package perm, in general. Conditions: numbers in their types. -/
import Derived.Test.YtkefjeabckainaaGreatFtB25
import Derived.Test.YtkefjeabckainaaGreatFtB11
import Derived.Test.YtkefjeabckainaaGreatFtB06
import Derived.Test.YtkefjeabckainaaGreatFtB28
namespace Go.Proofs.YtkefjeabckainaaGreat
set_option maxRecDepth 100000
set_option linter.unusedVariables false
section
open Go.RowKit Go.Maps
theorem ZdQ (mode c:Nat) (h:mode<256) (hc:c<256):(bits .and .u8 (mode:Int) (c:Int) != 0) = !decide (mode &&& c=0):=by
 rw[u8_and_nat _ _ h hc]
 by_cases h0:mode &&& c=0
 ·simp[h0]
 ·simp[h0]
theorem Zca (m c:Nat) (h:m<4294967296) (hc:c<4294967296):(bits .and .u32 (m:Int) (c:Int) != 0) = !decide (m &&& c=0):=by
 rw[u32_and_nat _ _ h hc]
 by_cases h0:m &&& c=0
 ·simp[h0]
 ·simp[h0]
theorem ZdR (m c:Nat) (h:m<4294967296) (hc:c<4294967296):(bits .and .u32 (m:Int) (c:Int) == 0)=decide (m &&& c=0):=by
 rw[u32_and_nat _ _ h hc]
 by_cases h0:m &&& c=0
 ·simp[h0]
 ·simp[h0]
set_option maxHeartbeats 12800000 in
theorem Zac (b m p n:Nat) (v:Value) (f:FsV) (u:Usr) (who:ByteArray) (q mode:Nat) (w:World) (h:FSo w b m v p f u n) {V:ByteArray→Bool} (hok:FOkV V f) (hub:UB u.us u.gs) (hq:q<18446744073709551616) (hm:mode<256) (hn:n<1000000) :
  Calls Tryz.prog 23 #[.pointer (some ⟨b,0,none⟩),.string who,.int .u64 (q:Int),.int .u8 (mode:Int)] w (Ze3 b m p (n+1) (Z20 u f who q mode).1 u (Z20 u f who q mode).2 w):=by
 have ht:=hok.tr
 have hne:=hok.ne
 have mixed:Tryz.prog.follows Departure.mixedOrders=true:=by first | kernel_rfl | decide
 obtain⟨a0,c0,rfl,g1,g2⟩:=h.row.form
 obtain⟨W,hW⟩ : ∃ W,W=w.alloc (.cells #[.int .i64 0] 33):=⟨_,rfl⟩
 have hb0:Below w.heap.size w W:=by rw[hW];exact(Below.refl _ _).alloc (Nat.le_refl _) _
 have hK0:=hid (show W.heap[w.heap.size]?=some (.cells #[.int .i64 0] 33 (0,0)) by rw[hW];exact heap_alloc_new _ _)
 have hF0:=hid (h.below hb0)
 have hS0:=hid (FStep.pure (b:=b) (m:=m) hb0)
 have hbw:=lt_of_block h.blk
 have hmw:=h.map.lt
 have q0:=Z0 hF0.out.blk 0
 have q1:=Z0 hF0.out.blk 1
 have hlt0:=hid (lt_of_block hK0.out)
 replace hne:=hid hne
 clear h hb0
 cases hg:ZM f.t.n q with
 | none =>
  have hE:Hid (Z20 u f who q mode=(f,6)):=hid (by unfold Z20;rw[hg])
  have hli:=hid (Z5K b m p n _ f u q W hF0.out ht hg)
  clear hg
  go_enter_defers Tryz.func23,Tryz.ntmps23
  go_wp2_with (rw[←hW];replace hW:=hid hW)
  try (rw[←hW];replace hW:=hid hW)
  refine hli.out.mono ?_
  rintro e w1 ⟨rfl,hb1⟩
  go_wp2_with fail
  rw[hE.out]
  exact Z1v rfl ((hF0.out.below hb1).mono (Nat.le_succ n)) (hS0.out.trans (FStep.pure hb1)) hne.out ((hb1.block _ hlt0.out).trans hK0.out) hbw hmw (Nat.le_refl _) (by simp[go_sem]) rfl
 | some x =>
  have hE:Hid (Z20 u f who q mode=if Z3m u.us u.gs who x mode≠0 then(f,Z3m u.us u.gs who x mode)
   else if (mode &&& 64≠0∧x.gone=false∧Z2H u f who x=false) then(f,5)
   else if ZaI x=true∧0<(f.by_ q).2 then(f,20)
   else if mode &&& 16≠0∧Z69 x=false then(if (Z2e f.t q 0 who f.now).2≠0 then(f,(Z2e f.t q 0 who f.now).2) else(ZP (f.set (Z2e f.t q 0 who f.now).1) q,0))
   else(ZP f q,0)):=hid (by unfold Z20;rw[hg])
  have hli:=hid (Z4O b m p n _ f u q x W hF0.out ht hg)
  have hxk:=ht.ok x (Zr hg).1
  clear hg
  go_enter_defers Tryz.func23,Tryz.ntmps23
  go_wp2_with (rw[←hW];replace hW:=hid hW)
  try (rw[←hW];replace hW:=hid hW)
  refine hli.out.mono ?_
  rintro e w1 ⟨rfl,hb1⟩
  obtain⟨X,hX⟩ : ∃ W,W=Z1J w1 x:=⟨_,rfl⟩
  have hbX:Below w1.heap.size w1 X:=by rw[hX];exact ZD _ _
  have hBX:=sn hb1 hbX
  have hnX:=hid (show X.heap[w1.heap.size]?=some (.cells x.cells 89 (0,0)) by rw[hX];exact ZK _ _)
  have hFX:=hid (hF0.out.below hBX)
  have hSX:=hid (hS0.out.trans (FStep.pure hBX))
  have hKX:=hid ((hBX.block _ hlt0.out).trans hK0.out)
  have hnew:=hid (heap_alloc_new w1 (.cells Zk.cells 89))
  unfold Z1J at hX
  rw[Zc]at hX hnew
  clear hb1 hbX hBX q0 q1 hli hF0 hS0 hK0
  go_wp2_with (first
   |(rw[←hX];replace hX:=hid hX)
   |(refine wpList_store_row (by rfl) 89 (.tmp 9) (.tmp 18) (by rfl) w1.heap.size x.cells (by rfl) (by rfl) 89 _ hnew.out (by kernel_rfl) (by kernel_rfl) (Zw x) ?_))
  try (rw[←hX];replace hX:=hid hX)
  generalize w1.heap.size=z at *
  have hFd:=hid (hFX.out.below ((Below.refl _ _).drew))
  have hSd:=hid (hSX.out.trans (FStep.pure ((Below.refl _ _).drew)))
  have hKd:=hid (show X.drew.heap[w.heap.size]?=some (.cells #[.int .i64 0] 33 (0,0)) from hKX.out)
  have hnd:=hid (show X.drew.heap[z]?=some (.cells x.cells 89 (0,0)) from hnX.out)
  have hltd:=hid (lt_of_block hKd.out)
  have hop:=Z91 p u.us u.gs who x mode X.drew hFd.out.tabs hub hxk hm
  have r2:X.cell? ⟨b,2,none⟩=some (.pointer (some ⟨p,0,none⟩)):=Z0 hFX.out.blk 2
  obtain⟨d0,d1,d2,d3,d4,d5,d6,d7,d8,d9,d10,d11⟩:=Z4h hnX.out
  generalize Z3m u.us u.gs who x mode=E at *
  rw[Z7]at hop
  replace hop:=hid hop
  replace hxk:=hid hxk
  refine ZX [(8,.pointer (some ⟨w.heap.size,0,none⟩))] mixed (by kernel_rfl) ⟨rfl,trivial⟩ ?_
  refine wpAny_take (i:=0) (v:=?_) rfl (by kernel_rfl) (by kernel_rfl) (by kernel_rfl) (fun _ _ _ h=>h) (Or.inl ⟨by rfl,?_⟩) ?_
  rotate_left
  ·intro w;go_simp;try (with_reducible rfl)
  refine wpAny_take (i:=1) (v:=?_) rfl (by kernel_rfl) (by kernel_rfl) (by kernel_rfl) (fun _ _ _ h=>h) (Or.inl ⟨by rfl,?_⟩) ?_
  rotate_left
  ·intro w;go_simp;try (with_reducible rfl)
  refine wpAny_take (i:=2) (v:=?_) rfl (by kernel_rfl) (by kernel_rfl) (by kernel_rfl) (fun _ _ _ h=>h) (Or.inl ⟨by rfl,?_⟩) ?_
  rotate_left
  ·intro w;go_simp;try (with_reducible rfl)
  refine wpAny_take (i:=4) (v:=?_) rfl (by kernel_rfl) (by kernel_rfl) (by kernel_rfl) (fun _ _ _ h=>h) (Or.inl ⟨by rfl,?_⟩) ?_
  rotate_left
  ·intro w;go_simp;try (with_reducible rfl)
  refine wpAny_take (i:=6) (v:=?_) rfl (by kernel_rfl) (by kernel_rfl) (by kernel_rfl) (fun _ _ _ h=>h) (Or.inl ⟨by rfl,?_⟩) ?_
  rotate_left
  ·intro w;go_simp;try (with_reducible rfl)
  refine wpAny_ready (rs:=[3,5]) (by kernel_rfl) (by simp) ?_
  refine AllReady.cons rfl (fun K hK=>?_) ?_
  go_simp
  refine hK _ _ ?_;clear hK K
  refine wpAny_ready (rs:=[5]) (by kernel_rfl) (by simp) ?_
  refine AllReady.cons rfl (fun K hK=>?_) ?_
  go_simp
  refine hK _ _ ?_;clear hK K
  refine wpAny_ready (rs:=[7]) (by kernel_rfl) (by simp) ?_
  refine AllReady.cons rfl (fun K hK=>?_) ?_
  go_simp
  go_wp2_with (go_at_call 59;(with_reducible refine hop.out.mono ?_);rintro e w4 ⟨rfl,hb4⟩;replace hb4:=hid hb4)
  refine wpAny_take (i:=8) (v:=?_) rfl (by kernel_rfl) (by kernel_rfl) (by kernel_rfl) (fun _ _ _ h=>h) (Or.inl ⟨by rfl,?_⟩) ?_
  rotate_left
  ·intro w;go_simp;try (with_reducible rfl)
  refine wpAny_done (by kernel_rfl) ?_ _
  rotate_left
  exact AllReady.nil
  exact AllReady.nil
  refine AllReady.cons rfl (fun K hK=>?_) ?_
  go_simp
  refine hK _ _ ?_;clear hK K
  refine wpAny_ready (rs:=[3]) (by kernel_rfl) (by simp) ?_
  refine AllReady.cons rfl (fun K hK=>?_) ?_
  go_simp
  refine hK _ _ ?_;clear hK K
  refine wpAny_ready (rs:=[7]) (by kernel_rfl) (by simp) ?_
  refine AllReady.cons rfl (fun K hK=>?_) ?_
  go_simp
  go_wp2_with (go_at_call 59;(with_reducible refine hop.out.mono ?_);rintro e w4 ⟨rfl,hb4⟩;replace hb4:=hid hb4)
  refine wpAny_take (i:=8) (v:=?_) rfl (by kernel_rfl) (by kernel_rfl) (by kernel_rfl) (fun _ _ _ h=>h) (Or.inl ⟨by rfl,?_⟩) ?_
  rotate_left
  ·intro w;go_simp;try (with_reducible rfl)
  refine wpAny_done (by kernel_rfl) ?_ _
  rotate_left
  exact AllReady.nil
  exact AllReady.nil
  exact AllReady.nil
  all_goals
   refine Z1H ?_
   have hF4:=hid (hFd.out.below hb4.out)
   have hS4:=hid (hSd.out.trans (FStep.pure hb4.out))
   have hK4:=hid ((hb4.out.block _ hltd.out).trans hKd.out)
   have hn4:=hid ((hb4.out.block _ (lt_of_block hnd.out)).trans hnd.out)
   clear d0 d1 d2 d3 d4 d5 d6 d7 d8 d9 d10 d11 r2 hop hb4 hFd hSd hKd hnd hltd hFX hSX hKX hnX
   by_cases hE0:E=0
   ·subst hE0
    have hE2:Hid (Z20 u f who q mode=if (mode &&& 64≠0∧x.gone=false∧Z2H u f who x=false) then(f,5)
     else if ZaI x=true∧0<(f.by_ q).2 then(f,20)
     else if mode &&& 16≠0∧Z69 x=false then(if (Z2e f.t q 0 who f.now).2≠0 then(f,(Z2e f.t q 0 who f.now).2) else(ZP (f.set (Z2e f.t q 0 who f.now).1) q,0))
     else(ZP f q,0)):=hid (by rw[hE.out,if_neg (by simp)])
    have hmu:Hid (Calls Tryz.prog 37 #[.bool false,.int .i64 0] w4 fun x w'=>x=.returned (.tuple #[])∧w'=w4):=hid (Z1h 0 w4)
    clear hE
    go_wp2_with fail
    refine hmu.out.mono ?_
    rintro e w5 ⟨rfl,rfl⟩
    clear hmu
    go_upto_region 5 with fail
    go_cut [] from 11 (fun wx=>FSo wx b m (.slice a0 f.t.n.length c0) p f u n∧FStep b m w wx∧wx.heap[w.heap.size]?=some (.cells #[.int .i64 0] 33 (0,0))∧wx.heap[z]?=some (.cells x.cells 89 (0,0))∧(Z20 u f who q mode=(if ZaI x=true∧0<(f.by_ q).2 then(f,20) else(if mode &&& 16≠0∧Z69 x=false then(if (Z2e f.t q 0 who f.now).2≠0 then(f,(Z2e f.t q 0 who f.now).2) else(ZP (f.set (Z2e f.t q 0 who f.now).1) q,0)) else(ZP f q,0)))))
    case first =>
     have hab:=Z5i b m p n _ f u who x w5 hF4.out ht hub
     rw[Z7]at hab
     replace hab:=hid hab
     obtain⟨d0,d1,d2,d3,d4,d5,d6,d7,d8,d9,d10,d11⟩:=Z4h hn4.out
     have m64:(bits .and .u8 (mode:Int) 64 != 0) = !decide (mode &&& 64=0):=ZdQ mode 64 hm (by omega)
     by_cases h64:mode &&& 64=0
     ·have hm5:Hid (Calls Tryz.prog 37 #[.bool false,.int .i64 5] w5 fun x w'=>x=.returned (.tuple #[])∧w'=w5):=hid (Z1h 5 w5)
      have hE3:Hid (Z20 u f who q mode=(if ZaI x=true∧0<(f.by_ q).2 then(f,20) else(if mode &&& 16≠0∧Z69 x=false then(if (Z2e f.t q 0 who f.now).2≠0 then(f,(Z2e f.t q 0 who f.now).2) else(ZP (f.set (Z2e f.t q 0 who f.now).1) q,0)) else(ZP f q,0)))):=hid (by rw[hE2.out,if_neg (fun e=>e.1 h64)])
      rw[h64]at m64
      simp only[decide_true,Bool.not_true]at m64
      clear hE2 hab h64
      go_wp2_with fail
      refine hm5.out.mono ?_
      rintro e w6 ⟨rfl,rfl⟩
      go_wp2_with fail
      go_meet
      case rel=>exact⟨hF4.out,hS4.out,hK4.out,hn4.out,hE3.out⟩
     ·have k64:(!decide (mode &&& 64=0))=true:=by simpa using h64
      rw[k64]at m64
      cases hgo:x.gone with
      | true =>
       have hE3:Hid (Z20 u f who q mode=(if ZaI x=true∧0<(f.by_ q).2 then(f,20) else(if mode &&& 16≠0∧Z69 x=false then(if (Z2e f.t q 0 who f.now).2≠0 then(f,(Z2e f.t q 0 who f.now).2) else(ZP (f.set (Z2e f.t q 0 who f.now).1) q,0)) else(ZP f q,0)))):=hid (by rw[hE2.out,if_neg (fun e=>by rw[hgo]at e;exact absurd e.2.1 (by decide))])
       rw[hgo]at d10
       have hm5:Hid (Calls Tryz.prog 37 #[.bool false,.int .i64 5] w5 fun x w'=>x=.returned (.tuple #[])∧w'=w5):=hid (Z1h 5 w5)
       clear hE2 hab h64
       go_wp2_with fail
       refine hm5.out.mono ?_
       rintro e w6 ⟨rfl,rfl⟩
       go_wp2_with fail
       go_meet
       case rel=>exact⟨hF4.out,hS4.out,hK4.out,hn4.out,hE3.out⟩
      | false =>
       rw[hgo]at d10 hab
       cases hav:Z2H u f who x with
       | false =>
        have hE3:Hid (Z20 u f who q mode=(f,5)):=hid (by rw[hE2.out,if_pos ⟨h64,hgo,hav⟩])
        have hm5:=hid (fun X=>show Calls Tryz.prog 37 #[.bool true,.int .i64 5] X (fun x w'=>x=.panicked (ZY 5)∧w'=X) from Z1g 5 X)
        rw[hav]at hab
        clear hE2 h64 hgo hav
        go_wp2_with fail
        refine hab.out.mono ?_
        rintro e w6 ⟨rfl,hb6⟩
        clear d0 d1 d2 d3 d4 d5 d6 d7 d8 d9 d10 d11
        go_wp2_with fail
        refine(hm5.out _).mono ?_
        rintro e w7 ⟨rfl,rfl⟩
        go_wp2_with fail
        rw[hE3.out]
        exact Z1v rfl ((hF4.out.below hb6).mono (Nat.le_succ n)) (hS4.out.trans (FStep.pure hb6)) hne.out ((hb6.block _ (lt_of_block hK4.out)).trans hK4.out) hbw hmw (Nat.le_refl _) (by simp[go_sem]) rfl
       | true =>
        have hE3:Hid (Z20 u f who q mode=(if ZaI x=true∧0<(f.by_ q).2 then(f,20) else(if mode &&& 16≠0∧Z69 x=false then(if (Z2e f.t q 0 who f.now).2≠0 then(f,(Z2e f.t q 0 who f.now).2) else(ZP (f.set (Z2e f.t q 0 who f.now).1) q,0)) else(ZP f q,0)))):=hid (by rw[hE2.out,if_neg (fun e=>by rw[hav]at e;exact absurd e.2.2 (by decide))])
        have hm5:=hid (fun X=>show Calls Tryz.prog 37 #[.bool false,.int .i64 5] X (fun x w'=>x=.returned (.tuple #[])∧w'=X) from Z1h 5 X)
        rw[hav]at hab
        clear hE2 h64 hgo hav
        go_wp2_with fail
        refine hab.out.mono ?_
        rintro e w6 ⟨rfl,hb6⟩
        clear d0 d1 d2 d3 d4 d5 d6 d7 d8 d9 d10 d11
        go_wp2_with fail
        refine(hm5.out _).mono ?_
        rintro e w7 ⟨rfl,rfl⟩
        go_wp2_with fail
        go_meet
        case rel=>exact⟨hF4.out.below hb6,hS4.out.trans (FStep.pure hb6),(hb6.block _ (lt_of_block hK4.out)).trans hK4.out,(hb6.block _ (lt_of_block hn4.out)).trans hn4.out,hE3.out⟩
    case rest =>
     obtain⟨hF5,hS5,hK5,hn5,hE5⟩:=hcut
     replace hF5:=hid hF5
     replace hS5:=hid hS5
     replace hK5:=hid hK5
     replace hn5:=hid hn5
     replace hE5:=hid hE5
     clear hF4 hS4 hK4 hn4 hE2
     go_upto_region 6 with fail
     go_cut [] from 11 (fun wx=>FSo wx b m (.slice a0 f.t.n.length c0) p f u n∧FStep b m w wx∧wx.heap[w.heap.size]?=some (.cells #[.int .i64 0] 33 (0,0))∧wx.heap[z]?=some (.cells x.cells 89 (0,0))∧(Z20 u f who q mode=(if mode &&& 16≠0∧Z69 x=false then(if (Z2e f.t q 0 who f.now).2≠0 then(f,(Z2e f.t q 0 who f.now).2) else(ZP (f.set (Z2e f.t q 0 who f.now).1) q,0)) else(ZP f q,0))))
     case first =>
      obtain⟨d0,d1,d2,d3,d4,d5,d6,d7,d8,d9,d10,d11⟩:=Z4h hn5.out
      have m29:(bits .and .u32 (x.mode:Int) 536870912 != 0)=ZaI x:=Zca x.mode 536870912 hxk.out.mode (by omega)
      have c4:wc.cell? ⟨b,4,none⟩=some (.map (some m)):=Z0 hF5.out.blk 4
      have hlk:=hF5.out.map.look q hq
      have hfd:=ZdG
      obtain⟨i,hi⟩ : ∃ i,i=(f.by_ q).1:=⟨_,rfl⟩
      obtain⟨j,hj⟩ : ∃ j,j=(f.by_ q).2:=⟨_,rfl⟩
      rw[←hi,←hj]at hlk
      replace hi:=hid hi
      cases hex:ZaI x with
      | false =>
       have hm20:Hid (Calls Tryz.prog 37 #[.bool false,.int .i64 20] wc fun x w'=>x=.returned (.tuple #[])∧w'=wc):=hid (Z1h 20 wc)
       have hE6:Hid (Z20 u f who q mode=(if mode &&& 16≠0∧Z69 x=false then(if (Z2e f.t q 0 who f.now).2≠0 then(f,(Z2e f.t q 0 who f.now).2) else(ZP (f.set (Z2e f.t q 0 who f.now).1) q,0)) else(ZP f q,0))):=hid (by rw[hE5.out,if_neg (fun e=>by rw[hex]at e;exact absurd e.1 (by decide))])
       rw[hex]at m29
       replace hj:=hid hj
       clear hex hE5
       go_wp2_with fail
       refine hm20.out.mono ?_
       rintro e w6 ⟨rfl,rfl⟩
       go_wp2_with fail
       go_meet
       case rel=>exact⟨hF5.out,hS5.out,hK5.out,hn5.out,hE6.out⟩
      | true =>
       rw[hex]at m29
       by_cases hj0:0<j
       ·have hm20:Hid (Calls Tryz.prog 37 #[.bool true,.int .i64 20] wc fun x w'=>x=.panicked (ZY 20)∧w'=wc):=hid (Z1g 20 wc)
        have hE6:Hid (Z20 u f who q mode=(f,20)):=hid (by rw[hE5.out,if_pos ⟨hex,by rw[←hj];exact hj0⟩])
        have hpI:(0:Int)<(j:Int):=by omega
        replace hj:=hid hj
        clear hex hE5
        go_wp2_with fail
        refine hm20.out.mono ?_
        rintro e w6 ⟨rfl,rfl⟩
        go_wp2_with fail
        rw[hE6.out]
        exact Z1v rfl (hF5.out.mono (Nat.le_succ n)) hS5.out hne.out hK5.out hbw hmw (Nat.le_refl _) (by simp[go_sem]) rfl
       ·have hm20:Hid (Calls Tryz.prog 37 #[.bool false,.int .i64 20] wc fun x w'=>x=.returned (.tuple #[])∧w'=wc):=hid (Z1h 20 wc)
        have hE6:Hid (Z20 u f who q mode=(if mode &&& 16≠0∧Z69 x=false then(if (Z2e f.t q 0 who f.now).2≠0 then(f,(Z2e f.t q 0 who f.now).2) else(ZP (f.set (Z2e f.t q 0 who f.now).1) q,0)) else(ZP f q,0))):=hid (by rw[hE5.out,if_neg (fun e=>by rw[←hj]at e;exact hj0 e.2)])
        have hj1:j=0:=by omega
        rw[hj1]at hlk
        replace hj:=hid hj
        clear hex hE5 hj0 hj1
        go_wp2_with fail
        refine hm20.out.mono ?_
        rintro e w6 ⟨rfl,rfl⟩
        go_wp2_with fail
        go_meet
        case rel=>exact⟨hF5.out,hS5.out,hK5.out,hn5.out,hE6.out⟩
     case rest =>
      clear hF5 hS5 hK5 hn5 hE5
      obtain⟨hF6,hS6,hK6,hn6,hE6⟩:=hcut
      replace hF6:=hid hF6
      replace hS6:=hid hS6
      replace hK6:=hid hK6
      replace hn6:=hid hn6
      replace hE6:=hid hE6
      obtain⟨d0,d1,d2,d3,d4,d5,d6,d7,d8,d9,d10,d11⟩:=Z4h hn6.out
      have m16:(bits .and .u8 (mode:Int) 16 != 0) = !decide (mode &&& 16=0):=ZdQ mode 16 hm (by omega)
      have m30:(bits .and .u32 (x.mode:Int) 1073741824 == 0) = !Z69 x:=by rw[show(1073741824:Int)=((1073741824:Nat):Int) from rfl,ZdR x.mode 1073741824 hxk.out.mode (by omega)];unfold Z69;simp
      have hlt6:=hid (lt_of_block hK6.out)
      by_cases h16:mode &&& 16=0
      ·have hE7:Hid (Z20 u f who q mode=(ZP f q,0)):=hid (by rw[hE6.out,if_neg (fun e=>e.1 h16)])
       rw[h16]at m16
       simp only[decide_true,Bool.not_true]at m16
       clear hE6 h16 m30
       have hop:=hid (Z2S b m p n _ f u q wc hF6.out hq hn)
       go_wp2_with fail
       refine hop.out.mono ?_
       rintro e w8 ⟨rfl,hF8,hs8⟩
       clear d0 d1 d2 d3 d4 d5 d6 d7 d8 d9 d10 d11
       have hK8:=hid ((hs8.block _ hlt6.out (by omega) (by omega)).trans hK6.out)
       have ho8:=hid (Z2V hF6.out.row hne.out hK6.out (by show 1<12;omega))
       have k0:w8.cell? ⟨w.heap.size,0,none⟩=some (.int .i64 0):=Z0 hK8.out 0
       have k1:w8.frozen? ⟨w.heap.size,0,none⟩=false:=Zb hK8.out 0
       have hK9:=hid (Zg hK8.out 0 (.int .i64 0))
       have hF9:=hid (hF8.aside ho8.out hbw hmw (.int .i64 0))
       have hS9:=hid ((hS6.out.trans hs8).aside (Nat.le_refl _) (.int .i64 0))
       clear hK8 hF8 hs8 hop
       go_wp2_with fail
       rw[hE7.out]
       exact Z5Y rfl hF9.out hS9.out hK9.out (by simp[go_sem]) rfl
      ·have k16:(!decide (mode &&& 16=0))=true:=by simpa using h16
       rw[k16]at m16
       cases hap:Z69 x with
       | true =>
        have hE7:Hid (Z20 u f who q mode=(ZP f q,0)):=hid (by rw[hE6.out,if_neg (fun e=>by rw[hap]at e;exact absurd e.2 (by decide))])
        rw[hap]at m30
        simp only[Bool.not_true]at m30
        clear hE6 h16
        have hop:=hid (Z2S b m p n _ f u q wc hF6.out hq hn)
        go_wp2_with fail
        refine hop.out.mono ?_
        rintro e w8 ⟨rfl,hF8,hs8⟩
        clear d0 d1 d2 d3 d4 d5 d6 d7 d8 d9 d10 d11
        have hK8:=hid ((hs8.block _ hlt6.out (by omega) (by omega)).trans hK6.out)
        have ho8:=hid (Z2V hF6.out.row hne.out hK6.out (by show 1<12;omega))
        have k0:w8.cell? ⟨w.heap.size,0,none⟩=some (.int .i64 0):=Z0 hK8.out 0
        have k1:w8.frozen? ⟨w.heap.size,0,none⟩=false:=Zb hK8.out 0
        have hK9:=hid (Zg hK8.out 0 (.int .i64 0))
        have hF9:=hid (hF8.aside ho8.out hbw hmw (.int .i64 0))
        have hS9:=hid ((hS6.out.trans hs8).aside (Nat.le_refl _) (.int .i64 0))
        clear hK8 hF8 hs8 hop
        go_wp2_with fail
        rw[hE7.out]
        exact Z5Y rfl hF9.out hS9.out hK9.out (by simp[go_sem]) rfl
       | false =>
        have hE7:Hid (Z20 u f who q mode=if (Z2e f.t q 0 who f.now).2≠0 then(f,(Z2e f.t q 0 who f.now).2) else(ZP (f.set (Z2e f.t q 0 who f.now).1) q,0)):=hid (by rw[hE6.out,if_pos ⟨h16,hap⟩])
        rw[hap]at m30
        simp only[Bool.not_false]at m30
        clear hE6 h16
        go_wp2_with fail
        have hF7:=hid (hF6.out.below ((Below.refl _ _).drew))
        have hS7:=hid (hS6.out.trans (FStep.pure ((Below.refl _ _).drew)))
        have hK7:=hid (show wc.drew.heap[w.heap.size]?=some (.cells #[.int .i64 0] 33 (0,0)) from hK6.out)
        have hlt7:=hid (lt_of_block hK7.out)
        have hbl7:=hid (lt_of_block hF7.out.blk)
        have hml7:=hid hF7.out.map.lt
        have q0:wc.cell? ⟨b,0,none⟩=some (.int .u64 (f.t.next:Int)):=Z0 hF6.out.blk 0
        have q1:wc.cell? ⟨b,1,none⟩=some (.slice a0 f.t.n.length c0):=Z0 hF6.out.blk 1
        have q3:wc.cell? ⟨b,3,none⟩=some (.int .u32 (f.now:Int)):=Z0 hF6.out.blk 3
        have hcut:Calls Tryz.prog 60 #[.agg #[.int .u64 (f.t.next:Int),.slice a0 f.t.n.length c0],.int .u64 (q:Int),.int .u64 0,.string who,.int .u32 (f.now:Int)] wc.drew (Z31 wc.drew (Z2e ⟨f.t.next,f.t.n⟩ q 0 who f.now)):=ZaU _ f.t.next f.t.n q 0 who f.now wc.drew hF7.out.row ht (by omega)
        rw[show(⟨f.t.next,f.t.n⟩:Tr)=f.t from rfl]at hcut
        replace hcut:=hid hcut
        generalize Z2e f.t q 0 who f.now=R at *
        obtain⟨⟨x',l'⟩,E⟩:=R
        simp only at hE7 hcut
        clear d0 d1 d2 d3 d4 d5 d6 d7 d8 d9 d10 d11
        by_cases hE1:E=0
        ·subst hE1
         have hE8:Hid (Z20 u f who q mode=(ZP (f.set ⟨x',l'⟩) q,0)):=hid (by rw[hE7.out];simp)
         clear hE7
         refine ZX [(8,.pointer (some ⟨w.heap.size,0,none⟩))] mixed (by kernel_rfl) ⟨rfl,trivial⟩ ?_
         refine wpAny_take (i:=0) (v:=?_) rfl (by kernel_rfl) (by kernel_rfl) (by kernel_rfl) (fun _ _ _ h=>h) (Or.inl ⟨by rfl,?_⟩) ?_
         rotate_left
         ·intro w;go_simp;try (with_reducible rfl)
         refine wpAny_take (i:=1) (v:=?_) rfl (by kernel_rfl) (by kernel_rfl) (by kernel_rfl) (fun _ _ _ h=>h) (Or.inl ⟨by rfl,?_⟩) ?_
         rotate_left
         ·intro w;go_simp;try (with_reducible rfl)
         refine wpAny_take (i:=2) (v:=?_) rfl (by kernel_rfl) (by kernel_rfl) (by kernel_rfl) (fun _ _ _ h=>h) (Or.inl ⟨by rfl,?_⟩) ?_
         rotate_left
         ·intro w;go_simp;try (with_reducible rfl)
         refine wpAny_take (i:=3) (v:=?_) rfl (by kernel_rfl) (by kernel_rfl) (by kernel_rfl) (fun _ _ _ h=>h) (Or.inl ⟨by rfl,?_⟩) ?_
         rotate_left
         ·intro w;go_simp;try (with_reducible rfl)
         refine wpAny_take (i:=5) (v:=?_) rfl (by kernel_rfl) (by kernel_rfl) (by kernel_rfl) (fun _ _ _ h=>h) (Or.inl ⟨by rfl,?_⟩) ?_
         rotate_left
         ·intro w;go_simp;try (with_reducible rfl)
         refine wpAny_take (i:=6) (v:=?_) rfl (by kernel_rfl) (by kernel_rfl) (by kernel_rfl) (fun _ _ _ h=>h) (Or.inl ⟨by rfl,?_⟩) ?_
         rotate_left
         ·intro w;go_simp;try (with_reducible rfl)
         refine wpAny_take (i:=7) (v:=?_) rfl (by kernel_rfl) (by kernel_rfl) (by kernel_rfl) (fun _ _ _ h=>h) (Or.inl ⟨by rfl,?_⟩) ?_
         rotate_left
         ·intro w;go_simp;try (with_reducible rfl)
         refine wpAny_take (i:=8) (v:=?_) rfl (by kernel_rfl) (by kernel_rfl) (by kernel_rfl) (fun _ _ _ h=>h) (Or.inl ⟨by rfl,?_⟩) ?_
         rotate_left
         ·intro w;go_simp;try (with_reducible rfl)
         refine wpAny_take (i:=9) (v:=?_) rfl (by kernel_rfl) (by kernel_rfl) (by kernel_rfl) (fun _ _ _ h=>h) (Or.inl ⟨by rfl,?_⟩) ?_
         rotate_left
         ·intro w;go_simp;try (with_reducible rfl)
         refine wpAny_ready (rs:=[4,10]) (by kernel_rfl) (by simp) ?_
         refine AllReady.cons rfl (fun K hK=>?_) ?_
         go_simp
         refine hK _ _ ?_;clear hK K
         refine wpAny_ready (rs:=[10]) (by kernel_rfl) (by simp) ?_
         refine AllReady.cons rfl (fun K hK=>?_) ?_
         go_simp
         refine hK _ _ ?_;clear hK K
         refine wpAny_ready (rs:=[11]) (by kernel_rfl) (by simp) ?_
         refine AllReady.cons rfl (fun K hK=>?_) ?_
         go_simp
         go_wp2_with (first
          |(go_at_call 60;(with_reducible refine hcut.out.mono ?_);rintro e w1 ⟨v',rfl,hv1,hf1,hb1⟩;obtain⟨a',c',rfl,_,_⟩:=hv1.form;have hnx:=hid (Z1E b m p n _ (.slice a' l'.length c') f u ⟨x',l'⟩ w1 (hF7.out.below hb1) hv1 (fun e=>by have:=hf1 _ e;have:=hbl7.out;omega) (fun e=>by have:=hf1 _ e;have:=hml7.out;omega));have ho1:=hid (show(Value.slice a' l'.length c').ownBlock≠some w.heap.size from fun e=>by have:=hf1 _ e;have:=hlt7.out;omega);replace hb1:=hid hb1;clear hv1 hf1)
          |(go_at_call 43;(with_reducible refine hnx.out.mono ?_);rintro e w2 ⟨rfl,hF2,hs2⟩;replace hF2:=hid hF2;replace hs2:=hid hs2))
         refine wpAny_take (i:=12) (v:=?_) rfl (by kernel_rfl) (by kernel_rfl) (by kernel_rfl) (fun _ _ _ h=>h) (Or.inl ⟨by rfl,?_⟩) ?_
         rotate_left
         ·intro w;go_simp;try (with_reducible rfl)
         refine wpAny_take (i:=13) (v:=?_) rfl (by kernel_rfl) (by kernel_rfl) (by kernel_rfl) (fun _ _ _ h=>h) (Or.inl ⟨by rfl,?_⟩) ?_
         rotate_left
         ·intro w;go_simp;try (with_reducible rfl)
         refine wpAny_ready (rs:=[14]) (by kernel_rfl) (by simp) ?_
         refine AllReady.cons rfl (fun K hK=>?_) ?_
         go_simp
         go_wp2_with (first
          |(go_at_call 60;(with_reducible refine hcut.out.mono ?_);rintro e w1 ⟨v',rfl,hv1,hf1,hb1⟩;obtain⟨a',c',rfl,_,_⟩:=hv1.form;have hnx:=hid (Z1E b m p n _ (.slice a' l'.length c') f u ⟨x',l'⟩ w1 (hF7.out.below hb1) hv1 (fun e=>by have:=hf1 _ e;have:=hbl7.out;omega) (fun e=>by have:=hf1 _ e;have:=hml7.out;omega));have ho1:=hid (show(Value.slice a' l'.length c').ownBlock≠some w.heap.size from fun e=>by have:=hf1 _ e;have:=hlt7.out;omega);replace hb1:=hid hb1;clear hv1 hf1)
          |(go_at_call 43;(with_reducible refine hnx.out.mono ?_);rintro e w2 ⟨rfl,hF2,hs2⟩;replace hF2:=hid hF2;replace hs2:=hid hs2))
         refine wpAny_done (by kernel_rfl) ?_ _
         rotate_left
         exact AllReady.nil
         exact AllReady.nil
         exact AllReady.nil
         refine AllReady.cons rfl (fun K hK=>?_) ?_
         go_simp
         refine hK _ _ ?_;clear hK K
         refine wpAny_ready (rs:=[4]) (by kernel_rfl) (by simp) ?_
         refine AllReady.cons rfl (fun K hK=>?_) ?_
         go_simp
         refine hK _ _ ?_;clear hK K
         refine wpAny_ready (rs:=[11]) (by kernel_rfl) (by simp) ?_
         refine AllReady.cons rfl (fun K hK=>?_) ?_
         go_simp
         go_wp2_with (first
          |(go_at_call 60;(with_reducible refine hcut.out.mono ?_);rintro e w1 ⟨v',rfl,hv1,hf1,hb1⟩;obtain⟨a',c',rfl,_,_⟩:=hv1.form;have hnx:=hid (Z1E b m p n _ (.slice a' l'.length c') f u ⟨x',l'⟩ w1 (hF7.out.below hb1) hv1 (fun e=>by have:=hf1 _ e;have:=hbl7.out;omega) (fun e=>by have:=hf1 _ e;have:=hml7.out;omega));have ho1:=hid (show(Value.slice a' l'.length c').ownBlock≠some w.heap.size from fun e=>by have:=hf1 _ e;have:=hlt7.out;omega);replace hb1:=hid hb1;clear hv1 hf1)
          |(go_at_call 43;(with_reducible refine hnx.out.mono ?_);rintro e w2 ⟨rfl,hF2,hs2⟩;replace hF2:=hid hF2;replace hs2:=hid hs2))
         refine wpAny_take (i:=12) (v:=?_) rfl (by kernel_rfl) (by kernel_rfl) (by kernel_rfl) (fun _ _ _ h=>h) (Or.inl ⟨by rfl,?_⟩) ?_
         rotate_left
         ·intro w;go_simp;try (with_reducible rfl)
         refine wpAny_take (i:=13) (v:=?_) rfl (by kernel_rfl) (by kernel_rfl) (by kernel_rfl) (fun _ _ _ h=>h) (Or.inl ⟨by rfl,?_⟩) ?_
         rotate_left
         ·intro w;go_simp;try (with_reducible rfl)
         refine wpAny_ready (rs:=[14]) (by kernel_rfl) (by simp) ?_
         refine AllReady.cons rfl (fun K hK=>?_) ?_
         go_simp
         go_wp2_with (first
          |(go_at_call 60;(with_reducible refine hcut.out.mono ?_);rintro e w1 ⟨v',rfl,hv1,hf1,hb1⟩;obtain⟨a',c',rfl,_,_⟩:=hv1.form;have hnx:=hid (Z1E b m p n _ (.slice a' l'.length c') f u ⟨x',l'⟩ w1 (hF7.out.below hb1) hv1 (fun e=>by have:=hf1 _ e;have:=hbl7.out;omega) (fun e=>by have:=hf1 _ e;have:=hml7.out;omega));have ho1:=hid (show(Value.slice a' l'.length c').ownBlock≠some w.heap.size from fun e=>by have:=hf1 _ e;have:=hlt7.out;omega);replace hb1:=hid hb1;clear hv1 hf1)
          |(go_at_call 43;(with_reducible refine hnx.out.mono ?_);rintro e w2 ⟨rfl,hF2,hs2⟩;replace hF2:=hid hF2;replace hs2:=hid hs2))
         refine wpAny_done (by kernel_rfl) ?_ _
         rotate_left
         exact AllReady.nil
         exact AllReady.nil
         exact AllReady.nil
         exact AllReady.nil
         all_goals
          refine Z1H ?_
          have hK8:=hid ((hs2.out.block _ (Nat.lt_of_lt_of_le hlt7.out hb1.out.size) (by omega) (by omega)).trans ((hb1.out.block _ hlt7.out).trans hK7.out))
          have hS8:=hid (hS7.out.trans ((FStep.pure hb1.out).trans hs2.out))
          clear q0 q1 q3 hcut hnx hF6 hS6 hK6 hn6 hlt6
          have hop:=hid (Z2S b m p n _ (f.set ⟨x',l'⟩) u q w2 hF2.out hq hn)
          go_wp2_with fail
          refine hop.out.mono ?_
          rintro e w8 ⟨rfl,hF8,hs8⟩
          have hK9:=hid ((hs8.block _ (lt_of_block hK8.out) (by omega) (by omega)).trans hK8.out)
          have k0:w8.cell? ⟨w.heap.size,0,none⟩=some (.int .i64 0):=Z0 hK9.out 0
          have k1:w8.frozen? ⟨w.heap.size,0,none⟩=false:=Zb hK9.out 0
          have hK3:=hid (Zg hK9.out 0 (.int .i64 0))
          have hF3:=hid (hF8.aside ho1.out hbw hmw (.int .i64 0))
          have hS3:=hid ((hS8.out.trans hs8).aside (Nat.le_refl _) (.int .i64 0))
          clear hK9 hF8 hs8 hop
          go_wp2_with fail
          rw[hE8.out]
          exact Z5Y rfl hF3.out hS3.out hK3.out (by simp[go_sem]) rfl
        ·have hE8:Hid (Z20 u f who q mode=(f,E)):=hid (by rw[hE7.out,if_pos hE1])
         have hnx:=hid (fun a l c w=>Z35 b x' E a l c w hE1)
         clear hE7
         refine ZX [(8,.pointer (some ⟨w.heap.size,0,none⟩))] mixed (by kernel_rfl) ⟨rfl,trivial⟩ ?_
         refine wpAny_take (i:=0) (v:=?_) rfl (by kernel_rfl) (by kernel_rfl) (by kernel_rfl) (fun _ _ _ h=>h) (Or.inl ⟨by rfl,?_⟩) ?_
         rotate_left
         ·intro w;go_simp;try (with_reducible rfl)
         refine wpAny_take (i:=1) (v:=?_) rfl (by kernel_rfl) (by kernel_rfl) (by kernel_rfl) (fun _ _ _ h=>h) (Or.inl ⟨by rfl,?_⟩) ?_
         rotate_left
         ·intro w;go_simp;try (with_reducible rfl)
         refine wpAny_take (i:=2) (v:=?_) rfl (by kernel_rfl) (by kernel_rfl) (by kernel_rfl) (fun _ _ _ h=>h) (Or.inl ⟨by rfl,?_⟩) ?_
         rotate_left
         ·intro w;go_simp;try (with_reducible rfl)
         refine wpAny_take (i:=3) (v:=?_) rfl (by kernel_rfl) (by kernel_rfl) (by kernel_rfl) (fun _ _ _ h=>h) (Or.inl ⟨by rfl,?_⟩) ?_
         rotate_left
         ·intro w;go_simp;try (with_reducible rfl)
         refine wpAny_take (i:=5) (v:=?_) rfl (by kernel_rfl) (by kernel_rfl) (by kernel_rfl) (fun _ _ _ h=>h) (Or.inl ⟨by rfl,?_⟩) ?_
         rotate_left
         ·intro w;go_simp;try (with_reducible rfl)
         refine wpAny_take (i:=6) (v:=?_) rfl (by kernel_rfl) (by kernel_rfl) (by kernel_rfl) (fun _ _ _ h=>h) (Or.inl ⟨by rfl,?_⟩) ?_
         rotate_left
         ·intro w;go_simp;try (with_reducible rfl)
         refine wpAny_take (i:=7) (v:=?_) rfl (by kernel_rfl) (by kernel_rfl) (by kernel_rfl) (fun _ _ _ h=>h) (Or.inl ⟨by rfl,?_⟩) ?_
         rotate_left
         ·intro w;go_simp;try (with_reducible rfl)
         refine wpAny_take (i:=8) (v:=?_) rfl (by kernel_rfl) (by kernel_rfl) (by kernel_rfl) (fun _ _ _ h=>h) (Or.inl ⟨by rfl,?_⟩) ?_
         rotate_left
         ·intro w;go_simp;try (with_reducible rfl)
         refine wpAny_take (i:=9) (v:=?_) rfl (by kernel_rfl) (by kernel_rfl) (by kernel_rfl) (fun _ _ _ h=>h) (Or.inl ⟨by rfl,?_⟩) ?_
         rotate_left
         ·intro w;go_simp;try (with_reducible rfl)
         refine wpAny_ready (rs:=[4,10]) (by kernel_rfl) (by simp) ?_
         refine AllReady.cons rfl (fun K hK=>?_) ?_
         go_simp
         refine hK _ _ ?_;clear hK K
         refine wpAny_ready (rs:=[10]) (by kernel_rfl) (by simp) ?_
         refine AllReady.cons rfl (fun K hK=>?_) ?_
         go_simp
         refine hK _ _ ?_;clear hK K
         refine wpAny_ready (rs:=[11]) (by kernel_rfl) (by simp) ?_
         refine AllReady.cons rfl (fun K hK=>?_) ?_
         go_simp
         go_wp2_with (first
          |(go_at_call 60;(with_reducible refine hcut.out.mono ?_);rintro e w1 ⟨v',rfl,hv1,hf1,hb1⟩;obtain⟨a',c',rfl,_,_⟩:=hv1.form;clear hv1 hf1)
          |(go_at_call 43;(with_reducible refine(hnx.out _ _ _ _).mono ?_);rintro e w2 ⟨rfl,hb2⟩;refine Z1d (fun a' hd hx=>?_) ?_;(
            have hbb:=sn hb1 hb2
            have hKk:=(hbb.block _ hlt7.out).trans hK7.out
            refine(show Leaves _ _ a'.tmps _ a'.defers _ _ from ?_)
            rw[hd,hE8.out]
            exact Z1v rfl ((hF7.out.below hbb).mono (Nat.le_succ n)) (hS7.out.trans (FStep.pure hbb)) hne.out hKk hbw hmw (Nat.le_refl _) (by simp[go_sem]) (hx (8,_) (by simp)))))
         refine wpAny_take (i:=12) (v:=?_) rfl (by kernel_rfl) (by kernel_rfl) (by kernel_rfl) (fun _ _ _ h=>h) (Or.inl ⟨by rfl,?_⟩) ?_
         rotate_left
         ·intro w;go_simp;try (with_reducible rfl)
         refine wpAny_take (i:=13) (v:=?_) rfl (by kernel_rfl) (by kernel_rfl) (by kernel_rfl) (fun _ _ _ h=>h) (Or.inl ⟨by rfl,?_⟩) ?_
         rotate_left
         ·intro w;go_simp;try (with_reducible rfl)
         refine wpAny_ready (rs:=[14]) (by kernel_rfl) (by simp) ?_
         refine AllReady.cons rfl (fun K hK=>?_) ?_
         go_simp
         go_wp2_with (first
          |(go_at_call 60;(with_reducible refine hcut.out.mono ?_);rintro e w1 ⟨v',rfl,hv1,hf1,hb1⟩;obtain⟨a',c',rfl,_,_⟩:=hv1.form;clear hv1 hf1)
          |(go_at_call 43;(with_reducible refine(hnx.out _ _ _ _).mono ?_);rintro e w2 ⟨rfl,hb2⟩;refine Z1d (fun a' hd hx=>?_) ?_;(
            have hbb:=sn hb1 hb2
            have hKk:=(hbb.block _ hlt7.out).trans hK7.out
            refine(show Leaves _ _ a'.tmps _ a'.defers _ _ from ?_)
            rw[hd,hE8.out]
            exact Z1v rfl ((hF7.out.below hbb).mono (Nat.le_succ n)) (hS7.out.trans (FStep.pure hbb)) hne.out hKk hbw hmw (Nat.le_refl _) (by simp[go_sem]) (hx (8,_) (by simp)))))
         refine wpAny_done (by kernel_rfl) ?_ _
         rotate_left
         exact AllReady.nil
         exact AllReady.nil
         exact AllReady.nil
         refine AllReady.cons rfl (fun K hK=>?_) ?_
         go_simp
         refine hK _ _ ?_;clear hK K
         refine wpAny_ready (rs:=[4]) (by kernel_rfl) (by simp) ?_
         refine AllReady.cons rfl (fun K hK=>?_) ?_
         go_simp
         refine hK _ _ ?_;clear hK K
         refine wpAny_ready (rs:=[11]) (by kernel_rfl) (by simp) ?_
         refine AllReady.cons rfl (fun K hK=>?_) ?_
         go_simp
         go_wp2_with (first
          |(go_at_call 60;(with_reducible refine hcut.out.mono ?_);rintro e w1 ⟨v',rfl,hv1,hf1,hb1⟩;obtain⟨a',c',rfl,_,_⟩:=hv1.form;clear hv1 hf1)
          |(go_at_call 43;(with_reducible refine(hnx.out _ _ _ _).mono ?_);rintro e w2 ⟨rfl,hb2⟩;refine Z1d (fun a' hd hx=>?_) ?_;(
            have hbb:=sn hb1 hb2
            have hKk:=(hbb.block _ hlt7.out).trans hK7.out
            refine(show Leaves _ _ a'.tmps _ a'.defers _ _ from ?_)
            rw[hd,hE8.out]
            exact Z1v rfl ((hF7.out.below hbb).mono (Nat.le_succ n)) (hS7.out.trans (FStep.pure hbb)) hne.out hKk hbw hmw (Nat.le_refl _) (by simp[go_sem]) (hx (8,_) (by simp)))))
         refine wpAny_take (i:=12) (v:=?_) rfl (by kernel_rfl) (by kernel_rfl) (by kernel_rfl) (fun _ _ _ h=>h) (Or.inl ⟨by rfl,?_⟩) ?_
         rotate_left
         ·intro w;go_simp;try (with_reducible rfl)
         refine wpAny_take (i:=13) (v:=?_) rfl (by kernel_rfl) (by kernel_rfl) (by kernel_rfl) (fun _ _ _ h=>h) (Or.inl ⟨by rfl,?_⟩) ?_
         rotate_left
         ·intro w;go_simp;try (with_reducible rfl)
         refine wpAny_ready (rs:=[14]) (by kernel_rfl) (by simp) ?_
         refine AllReady.cons rfl (fun K hK=>?_) ?_
         go_simp
         go_wp2_with (first
          |(go_at_call 60;(with_reducible refine hcut.out.mono ?_);rintro e w1 ⟨v',rfl,hv1,hf1,hb1⟩;obtain⟨a',c',rfl,_,_⟩:=hv1.form;clear hv1 hf1)
          |(go_at_call 43;(with_reducible refine(hnx.out _ _ _ _).mono ?_);rintro e w2 ⟨rfl,hb2⟩;refine Z1d (fun a' hd hx=>?_) ?_;(
            have hbb:=sn hb1 hb2
            have hKk:=(hbb.block _ hlt7.out).trans hK7.out
            refine(show Leaves _ _ a'.tmps _ a'.defers _ _ from ?_)
            rw[hd,hE8.out]
            exact Z1v rfl ((hF7.out.below hbb).mono (Nat.le_succ n)) (hS7.out.trans (FStep.pure hbb)) hne.out hKk hbw hmw (Nat.le_refl _) (by simp[go_sem]) (hx (8,_) (by simp)))))
         refine wpAny_done (by kernel_rfl) ?_ _
         rotate_left
         exact AllReady.nil
         exact AllReady.nil
         exact AllReady.nil
         exact AllReady.nil
         all_goals trivial
   ·have hE2:Hid (Z20 u f who q mode=(f,E)):=hid (by rw[hE.out,if_pos hE0])
    have k0:((E:Int) != 0)=true:=by simpa using hE0
    have hmu:=hid (Z1g E w4)
    clear hE hE0
    go_wp2_with fail
    refine hmu.out.mono ?_
    rintro e w5 ⟨rfl,rfl⟩
    go_wp2_with fail
    rw[hE2.out]
    exact Z1v rfl (hF4.out.mono (Nat.le_succ n)) hS4.out hne.out hK4.out hbw hmw (Nat.le_refl _) (by simp[go_sem]) rfl
end
section
open Go.RowKit
theorem Z6z (d:Nod) (m:Nat) (w:World) (hd:NodOk d) (hm:m<4294967296):Calls Tryz.prog 42 #[.agg d.cells,.int .u32 (m:Int)] w fun e w'=>e=.returned (.int .u32 (Z12 d.mode m:Int))∧Below w.heap.size w w':=by
 obtain⟨W,hW⟩ : ∃ W,W=w.alloc (.cells d.cells 89):=⟨_,rfl⟩
 have hb:=hid (show Below w.heap.size w W by rw[hW];exact(Below.refl w.heap.size w).alloc (Nat.le_refl _) _)
 have hx:W.heap[w.heap.size]?=some (.cells d.cells 89 (0,0)):=by rw[hW];exact heap_alloc_new _ _
 have e2:W.cell? ⟨w.heap.size,2,none⟩=some (.int .u32 (d.mode:Int)):=Z0 hx 2
 have hdm:=hd.mode
 have lt : ∀ a b:Nat,a<4294967296→a &&& b<4294967296:=fun a b h=>Nat.lt_of_le_of_lt Nat.and_le_left h
 obtain⟨A,hA⟩ : ∃ A,A=m &&& 2147483648:=⟨_,rfl⟩
 obtain⟨B,hB⟩ : ∃ B,B=m &&& d.mode:=⟨_,rfl⟩
 obtain⟨C,hC⟩ : ∃ C,C=B &&& 511:=⟨_,rfl⟩
 obtain⟨E,hE⟩ : ∃ E,E=m &&& 1610612736:=⟨_,rfl⟩
 obtain⟨F,hF⟩ : ∃ F,F=m &&& 73:=⟨_,rfl⟩
 obtain⟨H,hH⟩ : ∃ H,H=B &&& 438:=⟨_,rfl⟩
 have hBl:B<4294967296:=by rw[hB];exact lt _ _ hm
 have hCl:C<4294967296:=by rw[hC];exact lt _ _ hBl
 have hEl:E<4294967296:=by rw[hE];exact lt _ _ hm
 have hFl:F<4294967296:=by rw[hF];exact lt _ _ hm
 have hHl:H<4294967296:=by rw[hH];exact lt _ _ hBl
 have hGl:E ||| F<4294967296:=Nat.or_lt_two_pow (n:=32) hEl hFl
 obtain⟨D,hD⟩ : ∃ D,D=2147483648 ||| C:=⟨_,rfl⟩
 obtain⟨G,hG⟩ : ∃ G,G=E ||| F:=⟨_,rfl⟩
 obtain⟨I,hI⟩ : ∃ I,I=G ||| H:=⟨_,rfl⟩
 rw[←hG]at hGl
 have a1:bits .and .u32 (m:Int) 2147483648=(A:Int):=by rw[hA];exact u32_and_nat m 2147483648 hm (by omega)
 have a2:bits .and .u32 (m:Int) (d.mode:Int)=(B:Int):=by rw[hB];exact u32_and_nat m d.mode hm hdm
 have a3:bits .and .u32 (B:Int) 511=(C:Int):=by rw[hC];exact u32_and_nat B 511 hBl (by omega)
 have a4:bits .or .u32 2147483648 (C:Int)=(D:Int):=by rw[hD];exact u32_or_nat 2147483648 C (by omega) hCl
 have a5:bits .and .u32 (m:Int) 1610612736=(E:Int):=by rw[hE];exact u32_and_nat m 1610612736 hm (by omega)
 have a6:bits .and .u32 (m:Int) 73=(F:Int):=by rw[hF];exact u32_and_nat m 73 hm (by omega)
 have a7:bits .or .u32 (E:Int) (F:Int)=(G:Int):=by rw[hG];exact u32_or_nat E F hEl hFl
 have a8:bits .and .u32 (B:Int) 438=(H:Int):=by rw[hH];exact u32_and_nat B 438 hBl (by omega)
 have a9:bits .or .u32 (G:Int) (H:Int)=(I:Int):=by rw[hI];exact u32_or_nat G H hGl hHl
 have hR:Hid (Z12 d.mode m=if A≠0 then D else I):=hid (by unfold Z12;rw[hA,hD,hI,hG,hC,hE,hF,hH,hB])
 clear hA hB hC hE hF hH hG hD hI hx lt hBl hCl hEl hFl hHl hGl
 replace hd:=hid hd
 go_enter Tryz.func42,Tryz.ntmps42
 by_cases h0:A=0
 ·have k0:((A:Int) != 0)=false:=by simp[h0]
  have hR2:=hid (show Z12 d.mode m=I by rw[hR.out,if_neg (by simp[h0])])
  clear h0 hR
  go_wp2_with (rw[←hW];replace hW:=hid hW)
  go_ret
  rw[hR2.out]
  exact⟨rfl,hb.out⟩
 ·have k0:((A:Int) != 0)=true:=by simpa using h0
  have hR2:=hid (show Z12 d.mode m=D by rw[hR.out,if_pos h0])
  clear h0 hR
  go_wp2_with (rw[←hW];replace hW:=hid hW)
  go_ret
  rw[hR2.out]
  exact⟨rfl,hb.out⟩
end
end Go.Proofs.YtkefjeabckainaaGreat
