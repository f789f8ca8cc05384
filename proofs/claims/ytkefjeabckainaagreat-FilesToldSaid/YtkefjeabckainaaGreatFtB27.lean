/- The reference's files of a tree. Conditions: in the statements. And the texts behind it. -/
import Derived.Test.YtkefjeabckainaaGreatFtB23
import Derived.Test.YtkefjeabckainaaGreatFtB26
import Derived.Test.YtkefjeabckainaaGreatFtB12
import Derived.Test.YtkefjeabckainaaGreatFtB06
namespace Go.Proofs.YtkefjeabckainaaGreat
set_option maxRecDepth 100000
set_option linter.unusedVariables false
section
open Go.RowKit Go.Maps
def Z4k (f:FsV) (x:Nod):FsV:=Z2J ⟨f.t,if x.gone then f.now else max (max f.now x.atm) x.mtm,f.by_⟩ x.path
def Z2v (t:Tr) (k:Nat):FsV:=(t.n.take k).foldl Z4k (Z5Z t)
def Zby (t:Tr):FsV:=t.n.foldl Z4k (Z5Z t)
theorem Z8m (t:Tr):Z2v t t.n.length=Zby t:=by unfold Z2v Zby;rw[List.take_length]
theorem Z4T {t:Tr} {k:Nat} (hk:k<t.n.length):Z2v t (k+1)=Z4k (Z2v t k) t.n[k]:=by
 unfold Z2v
 rw[List.take_succ_eq_append_getElem hk,List.foldl_append]
 rfl
theorem Za7 {f:FsV} (h:Z8e f) (p:Nat):Z8e (Z2J f p):=by
 unfold Z2J
 split
 ·exact h
 ·exact h.set (Z3s h.good p)
theorem Zbz {f:FsV} (h:Z8e f) {x:Nod} (hx:NodOk x):Z8e (Z4k f x):=by
 unfold Z4k
 refine Za7 (f:=⟨f.t,if x.gone then f.now else max (max f.now x.atm) x.mtm,f.by_⟩) ⟨h.good,?_⟩ _
 show(if x.gone then f.now else max (max f.now x.atm) x.mtm)<4294967296
 have h1:=h.now
 have h2:=hx.atm
 have h3:=hx.mtm
 split <;> omega
theorem Za8 {t:Tr} (h:Za2 t) : ∀ k,k≤t.n.length→Z8e (Z2v t k):=by
 intro k
 induction k with
 | zero=>intro _;exact⟨h,by show 0<4294967296;decide⟩
 | succ k ih =>
  intro hk
  rw[Z4T (by omega)]
  exact Zbz (ih (by omega)) (h.tr.ok _ (List.getElem_mem (by omega)))
def Zei (w:World) (vu vg:Value) (f:FsV) (u:Usr) (e:Ending) (w':World):Prop:=∃ g v',e=.returned (.pointer (some ⟨g,0,none⟩))∧RFo w' g v' vu vg (.slice none 0 0) [] f u 0∧w.heap.size≤g∧Below w.heap.size w w'
set_option maxHeartbeats 6400000 in
theorem ZbA (v vu vg:Value) (t:Tr) (u:Usr) (w:World) (hv:Z3 w v t.n) (hu:Z1c w vu u.us) (hgr:Z1Y w vg u.gs) (hg:Za2 t) :
  Calls Tryz.prog 33 #[.agg #[.int .u64 (t.next:Int),v],.agg #[vu,vg]] w (Zei w vu vg (Zby t) u):=by
 have mixed:Tryz.prog.follows Departure.mixedOrders=true:=by first | kernel_rfl | decide
 obtain⟨a,c,rfl,g1,g2⟩:=hv.form
 obtain⟨au,cu,rfl,gu1,gu2⟩:=hu.form
 obtain⟨ag,cg,rfl,gg1,gg2⟩:=hgr.form
 unfold maxLen at g2
 obtain⟨g,hgg⟩ : ∃ g,g=w.heap.size+2:=⟨_,rfl⟩
 obtain⟨W,hW⟩ : ∃ W,W=((w.alloc (.cells #[.int .u64 (t.next:Int),.slice a t.n.length c] 86)).alloc (.cells #[.slice au u.us.length cu,.slice ag u.gs.length cg] 81)).alloc (.cells #[.int .u64 (t.next:Int),.slice a t.n.length c,.slice au u.us.length cu,.slice ag u.gs.length cg,.int .u32 0,.slice none 0 0] 142):=⟨_,rfl⟩
 have hb0:Below w.heap.size w W:=by rw[hW];exact(((Below.refl w.heap.size w).alloc (Nat.le_refl _) _).alloc (by simp) _).alloc (by simp;omega) _
 have hx0:=hid (show W.heap[w.heap.size]?=some (.cells #[.int .u64 (t.next:Int),.slice a t.n.length c] 86 (0,0)) by rw[hW,heap_alloc_old _ _ (by simp;omega),heap_alloc_old _ _ (by simp),heap_alloc_new])
 have hblk:W.heap[g]?=some (.cells #[.int .u64 (t.next:Int),.slice a t.n.length c,.slice au u.us.length cu,.slice ag u.gs.length cg,.int .u32 0,.slice none 0 0] 142 (0,0)):=by
  rw[hW,hgg]
  exact heap_alloc_new ((w.alloc (.cells #[.int .u64 (t.next:Int),.slice a t.n.length c] 86)).alloc (.cells #[.slice au u.us.length cu,.slice ag u.gs.length cg] 81)) _ |> fun h=>by simpa using h
 have hne:t.n≠[]:=FOkWV.ne (f:=Z5Z t) ⟨hg,by show 0<4294967296;decide⟩
 have hF0:=hid (show RFo W g (.slice a t.n.length c) (.slice au u.us.length cu) (.slice ag u.gs.length cg) (.slice none 0 0) [] (Z5Z t) u 0 from
  ⟨hblk,hv.below hb0,Z37.nil,fun e=>by have:=Z74 hv hne e;omega,by simp[Value.ownBlock],⟨w,hu,hgr,hb0,by omega⟩,fun _=>rfl,Nat.le_refl _,fun x hx=>by cases hx⟩)
 have hvW:=hid (hv.below hb0)
 have hgw:=hid (show w.heap.size≤g by omega)
 have hg2:=hid hg
 have hxg:=hid (show w.heap.size≠g by omega)
 replace hb0:=hid hb0
 replace hv:=hid hv
 clear hblk hu hgr hg hne
 go_enter Tryz.func33,Tryz.ntmps33
 go_wp2_with (rw[←hW];replace hW:=hid hW)
 try (rw[←hW];replace hW:=hid hW)
 rw[←hgg]
 replace hgg:=hid hgg
 go_loopw [6] (fun kv wr=>∃ k:Nat,k≤t.n.length∧kv=.int .i64 (k:Int)∧Hid (∃ v',RFo wr g v' (.slice au u.us.length cu) (.slice ag u.gs.length cg) (.slice none 0 0) [] (Z2v t k) u 0)∧Hid (wr.heap[w.heap.size]?=some (.cells #[.int .u64 (t.next:Int),.slice a t.n.length c] 86 (0,0)))∧Hid (Below w.heap.size w wr)) (fun kv _=>t.n.length - (intOf kv).toNat)
 case atStart=>exact⟨0,by omega,rfl,hid ⟨_,hF0.out⟩,hx0,hb0⟩
 case round =>
  obtain⟨k,hk,rfl,hF,hx,hB⟩:=hrel
  obtain⟨vr,hF⟩:=hF.out
  replace hF:=hid hF
  have xb1:wr.cell? ⟨w.heap.size,1,none⟩=some (.slice a t.n.length c):=Z0 hx.out 1
  by_cases hkl:k<t.n.length
  ·obtain⟨bb,o,ha,hr⟩:=(hv.out.below hB.out).range k hkl
   subst ha
   have hst:=hid (Z4T hkl)
   have hok:=Za8 hg2.out k hk
   have hxk:=hg2.out.tr.ok _ (List.getElem_mem hkl)
   generalize Z2v t k=f at *
   generalize t.n[k]=x at *
   have el3:wr.cell? ⟨bb,o+k * 12+3,none⟩=some (.int .u32 (x.atm:Int)):=hr 3 _ rfl
   have el10:wr.cell? ⟨bb,o+k * 12+10,none⟩=some (.bool x.gone):=hr 10 _ rfl
   have gn:wr.cell? ⟨g,4,none⟩=some (.int .u32 (f.now:Int)):=Z0 hF.out.blk 4
   have hbg:Hid (bb≠g):=hid (fun e=>by
    have h1:=hF.out.blk
    rw[←e]at h1
    have h11:=hr 11 _ (by rw[Z7];rfl)
    rw[Z0 h1 (o+k * 12+11),Array.getElem?_eq_none (by show 6≤o+k * 12+11;omega)]at h11
    cases h11)
   have i1:(0:Int)≤(k:Int):=by omega
   have i2:(k:Int)<(t.n.length:Int):=by omega
   have hFd:=hid (hF.out.below ((Below.refl wr.heap.size wr).drew))
   have hxd:=hid (show wr.drew.heap[w.heap.size]?=some (.cells #[.int .u64 (t.next:Int),.slice (some ⟨bb,o,none⟩) t.n.length c] 86 (0,0)) from hx.out)
   have hBd:=hid (sn hB.out ((Below.refl wr.heap.size wr).drew))
   have hrd:=hid (show wr.drew.rangeAt bb (o+k * 12) x.cells.toList from hr)
   replace hr:=hid hr
   replace hok:=hid hok
   replace hxk:=hid hxk
   go_upto_region 5 with fail
   by_cases h5:f.now<x.atm
   ·cases hgo:x.gone with
    | true =>
     rw[hgo]at el10
     have t1:f.now<x.atm:=h5
     have t2:(f.now:Int)<(x.atm:Int):=by omega
     have t3:decide (f.now<x.atm)=true:=decide_eq_true t1
     go_big_region_o
     generalize wr.drew=V5 at *
     clear t2 t3 el3 el10 gn xb1
     go_upto_region 7 with fail
     have el3:V5.cell? ⟨bb,o+k * 12+4,none⟩=some (.int .u32 (x.mtm:Int)):=hrd.out 4 _ rfl
     have el10:V5.cell? ⟨bb,o+k * 12+10,none⟩=some (.bool x.gone):=hrd.out 10 _ rfl
     have gn:V5.cell? ⟨g,4,none⟩=some (.int .u32 (f.now:Int)):=Z0 hFd.out.blk 4
     have xb1:V5.cell? ⟨w.heap.size,1,none⟩=some (.slice (some ⟨bb,o,none⟩) t.n.length c):=Z0 hxd.out 1
     replace hFd:=hid (hFd.out.below ((Below.refl V5.heap.size V5).drew))
     replace hxd:=hid (show V5.drew.heap[w.heap.size]?=some (.cells #[.int .u64 (t.next:Int),.slice (some ⟨bb,o,none⟩) t.n.length c] 86 (0,0)) from hxd.out)
     replace hBd:=hid (sn hBd.out ((Below.refl V5.heap.size V5).drew))
     replace hrd:=hid (show V5.drew.rangeAt bb (o+k * 12) x.cells.toList from hrd.out)
     clear t1
     by_cases h7:f.now<x.mtm
     ·rw[hgo]at el10
      have t1:f.now<x.mtm:=h7
      have t2:(f.now:Int)<(x.mtm:Int):=by omega
      have t3:decide (f.now<x.mtm)=true:=decide_eq_true t1
      go_big_region_o
      generalize V5.drew=V7 at *
      clear t2 t3 el3 el10 gn xb1
      go_upto_region 9 with fail
      have c0:V7.cell? ⟨bb,o+k * 12,none⟩=some (.int .u64 (x.path:Int)):=hrd.out 0 _ rfl
      have xb2:V7.cell? ⟨w.heap.size,1,none⟩=some (.slice (some ⟨bb,o,none⟩) t.n.length c):=Z0 hxd.out 1
      have hre:=Z23 g 0 _ _ _ _ [] _ u x.path V7 hFd.out (show Z8e ⟨f.t,f.now,f.by_⟩ from⟨hok.out.good,by have:=hok.out.now;have:=hxk.out.atm;have:=hxk.out.mtm;show f.now<4294967296;omega⟩) (by omega)
      unfold Z6t at hre
      replace hre:=hid hre
      go_wp2_with fail
      refine hre.out.mono ?_
      rintro e w8 ⟨rfl,⟨v8,hF8⟩,hs8⟩
      have hE8:Hid (Z2v t (k+1)=Z2J ⟨f.t,f.now,f.by_⟩ x.path):=hid (by rw[hst.out];unfold Z4k;rw[if_pos hgo])
      replace hF8:=hid hF8
      have hx8:=hid ((hs8.block _ (lt_of_block hxd.out) hxg.out hxg.out).trans hxd.out)
      have hB8:=hid (hBd.out.trans (hs8.below _ hgw.out hgw.out hBd.out.size))
      clear hs8 c0 xb2 hre
      go_wp2_with fail
      go_roundw
      case rel=>exact⟨k+1,by omega,by go_num,hid ⟨v8,by rw[hE8.out];exact hF8.out⟩,hx8,hB8⟩
      case measure=>simp[intOf];omega
     ·have t1:¬ (f.now<x.mtm):=h7
      have t2:¬ ((f.now:Int)<(x.mtm:Int)):=by omega
      have t3:decide (f.now<x.mtm)=false:=decide_eq_false t1
      go_big_region_o
      generalize V5.drew=V7 at *
      clear t2 t3 el3 el10 gn xb1
      go_upto_region 9 with fail
      have c0:V7.cell? ⟨bb,o+k * 12,none⟩=some (.int .u64 (x.path:Int)):=hrd.out 0 _ rfl
      have xb2:V7.cell? ⟨w.heap.size,1,none⟩=some (.slice (some ⟨bb,o,none⟩) t.n.length c):=Z0 hxd.out 1
      have hre:=Z23 g 0 _ _ _ _ [] _ u x.path V7 hFd.out (show Z8e ⟨f.t,f.now,f.by_⟩ from⟨hok.out.good,by have:=hok.out.now;have:=hxk.out.atm;have:=hxk.out.mtm;show f.now<4294967296;omega⟩) (by omega)
      unfold Z6t at hre
      replace hre:=hid hre
      go_wp2_with fail
      refine hre.out.mono ?_
      rintro e w8 ⟨rfl,⟨v8,hF8⟩,hs8⟩
      have hE8:Hid (Z2v t (k+1)=Z2J ⟨f.t,f.now,f.by_⟩ x.path):=hid (by rw[hst.out];unfold Z4k;rw[if_pos hgo])
      replace hF8:=hid hF8
      have hx8:=hid ((hs8.block _ (lt_of_block hxd.out) hxg.out hxg.out).trans hxd.out)
      have hB8:=hid (hBd.out.trans (hs8.below _ hgw.out hgw.out hBd.out.size))
      clear hs8 c0 xb2 hre
      go_wp2_with fail
      go_roundw
      case rel=>exact⟨k+1,by omega,by go_num,hid ⟨v8,by rw[hE8.out];exact hF8.out⟩,hx8,hB8⟩
      case measure=>simp[intOf];omega
    | false =>
     rw[hgo]at el10
     have t1:f.now<x.atm:=h5
     have t2:(f.now:Int)<(x.atm:Int):=by omega
     have t3:decide (f.now<x.atm)=true:=decide_eq_true t1
     go_big_region_o
     generalize wr.drew=V5 at *
     clear t2 t3 el3 el10 gn xb1
     have xb2:V5.cell? ⟨w.heap.size,1,none⟩=some (.slice (some ⟨bb,o,none⟩) t.n.length c):=Z0 hxd.out 1
     have el2:V5.cell? ⟨bb,o+k * 12+3,none⟩=some (.int .u32 (x.atm:Int)):=hrd.out 3 _ rfl
     have z2:V5.frozen? ⟨g,4,none⟩=false:=Zb hFd.out.blk 4
     have z3:V5.cell? ⟨g,4,none⟩=some (.int .u32 (f.now:Int)):=Z0 hFd.out.blk 4
     obtain⟨U5,hU5⟩ : ∃ U,U=V5.setCell ⟨g,4,none⟩ (.int .u32 (x.atm:Int)):=⟨_,rfl⟩
     replace hFd:=hid (show RFo U5 g vr (.slice au u.us.length cu) (.slice ag u.gs.length cg) (.slice none 0 0) [] ⟨f.t,x.atm,f.by_⟩ u 0 by rw[hU5];exact hFd.out.tick x.atm)
     replace hxd:=hid (show U5.heap[w.heap.size]?=some (.cells #[.int .u64 (t.next:Int),.slice (some ⟨bb,o,none⟩) t.n.length c] 86 (0,0)) by rw[hU5];exact(Z1 (show w.heap.size≠g from hxg.out)).trans hxd.out)
     replace hBd:=hid (show Below w.heap.size w U5 by rw[hU5];exact hBd.out.setCell (p:=⟨g,4,none⟩) hgw.out _)
     replace hrd:=hid (show U5.rangeAt bb (o+k * 12) x.cells.toList by
      rw[hU5]
      intro j y hj
      have h1:=hrd.out j y hj
      rw[World.cell?_of_block (w:=V5) (Z1 (show bb≠g from hbg.out))]
      exact h1)
     go_upto_region 7 with (rw[←hU5];replace hU5:=hid hU5)
     try (rw[←hU5];replace hU5:=hid hU5)
     clear xb2 el2 z2 z3
     have el3:U5.cell? ⟨bb,o+k * 12+4,none⟩=some (.int .u32 (x.mtm:Int)):=hrd.out 4 _ rfl
     have el10:U5.cell? ⟨bb,o+k * 12+10,none⟩=some (.bool x.gone):=hrd.out 10 _ rfl
     have gn:U5.cell? ⟨g,4,none⟩=some (.int .u32 (x.atm:Int)):=Z0 hFd.out.blk 4
     have xb1:U5.cell? ⟨w.heap.size,1,none⟩=some (.slice (some ⟨bb,o,none⟩) t.n.length c):=Z0 hxd.out 1
     replace hFd:=hid (hFd.out.below ((Below.refl U5.heap.size U5).drew))
     replace hxd:=hid (show U5.drew.heap[w.heap.size]?=some (.cells #[.int .u64 (t.next:Int),.slice (some ⟨bb,o,none⟩) t.n.length c] 86 (0,0)) from hxd.out)
     replace hBd:=hid (sn hBd.out ((Below.refl U5.heap.size U5).drew))
     replace hrd:=hid (show U5.drew.rangeAt bb (o+k * 12) x.cells.toList from hrd.out)
     clear t1
     by_cases h7:x.atm<x.mtm
     ·rw[hgo]at el10
      have t1:x.atm<x.mtm:=h7
      have t2:(x.atm:Int)<(x.mtm:Int):=by omega
      have t3:decide (x.atm<x.mtm)=true:=decide_eq_true t1
      go_big_region_o
      generalize U5.drew=V7 at *
      clear t2 t3 el3 el10 gn xb1
      have xb2:V7.cell? ⟨w.heap.size,1,none⟩=some (.slice (some ⟨bb,o,none⟩) t.n.length c):=Z0 hxd.out 1
      have el2:V7.cell? ⟨bb,o+k * 12+4,none⟩=some (.int .u32 (x.mtm:Int)):=hrd.out 4 _ rfl
      have z2:V7.frozen? ⟨g,4,none⟩=false:=Zb hFd.out.blk 4
      have z3:V7.cell? ⟨g,4,none⟩=some (.int .u32 (x.atm:Int)):=Z0 hFd.out.blk 4
      obtain⟨U7,hU7⟩ : ∃ U,U=V7.setCell ⟨g,4,none⟩ (.int .u32 (x.mtm:Int)):=⟨_,rfl⟩
      replace hFd:=hid (show RFo U7 g vr (.slice au u.us.length cu) (.slice ag u.gs.length cg) (.slice none 0 0) [] ⟨f.t,x.mtm,f.by_⟩ u 0 by rw[hU7];exact hFd.out.tick x.mtm)
      replace hxd:=hid (show U7.heap[w.heap.size]?=some (.cells #[.int .u64 (t.next:Int),.slice (some ⟨bb,o,none⟩) t.n.length c] 86 (0,0)) by rw[hU7];exact(Z1 (show w.heap.size≠g from hxg.out)).trans hxd.out)
      replace hBd:=hid (show Below w.heap.size w U7 by rw[hU7];exact hBd.out.setCell (p:=⟨g,4,none⟩) hgw.out _)
      replace hrd:=hid (show U7.rangeAt bb (o+k * 12) x.cells.toList by
       rw[hU7]
       intro j y hj
       have h1:=hrd.out j y hj
       rw[World.cell?_of_block (w:=V7) (Z1 (show bb≠g from hbg.out))]
       exact h1)
      go_upto_region 9 with (rw[←hU7];replace hU7:=hid hU7)
      try (rw[←hU7];replace hU7:=hid hU7)
      clear xb2 el2 z2 z3
      have c0:U7.cell? ⟨bb,o+k * 12,none⟩=some (.int .u64 (x.path:Int)):=hrd.out 0 _ rfl
      have xb2:U7.cell? ⟨w.heap.size,1,none⟩=some (.slice (some ⟨bb,o,none⟩) t.n.length c):=Z0 hxd.out 1
      have hre:=Z23 g 0 _ _ _ _ [] _ u x.path U7 hFd.out (show Z8e ⟨f.t,x.mtm,f.by_⟩ from⟨hok.out.good,by have:=hok.out.now;have:=hxk.out.atm;have:=hxk.out.mtm;show x.mtm<4294967296;omega⟩) (by omega)
      unfold Z6t at hre
      replace hre:=hid hre
      go_wp2_with fail
      refine hre.out.mono ?_
      rintro e w8 ⟨rfl,⟨v8,hF8⟩,hs8⟩
      have hE8:Hid (Z2v t (k+1)=Z2J ⟨f.t,x.mtm,f.by_⟩ x.path):=hid (by rw[hst.out];unfold Z4k;rw[if_neg (by rw[hgo];decide),show max (max f.now x.atm) x.mtm=x.mtm by omega])
      replace hF8:=hid hF8
      have hx8:=hid ((hs8.block _ (lt_of_block hxd.out) hxg.out hxg.out).trans hxd.out)
      have hB8:=hid (hBd.out.trans (hs8.below _ hgw.out hgw.out hBd.out.size))
      clear hs8 c0 xb2 hre
      go_wp2_with fail
      go_roundw
      case rel=>exact⟨k+1,by omega,by go_num,hid ⟨v8,by rw[hE8.out];exact hF8.out⟩,hx8,hB8⟩
      case measure=>simp[intOf];omega
     ·have t1:¬ (x.atm<x.mtm):=h7
      have t2:¬ ((x.atm:Int)<(x.mtm:Int)):=by omega
      have t3:decide (x.atm<x.mtm)=false:=decide_eq_false t1
      go_big_region_o
      generalize U5.drew=V7 at *
      clear t2 t3 el3 el10 gn xb1
      go_upto_region 9 with fail
      have c0:V7.cell? ⟨bb,o+k * 12,none⟩=some (.int .u64 (x.path:Int)):=hrd.out 0 _ rfl
      have xb2:V7.cell? ⟨w.heap.size,1,none⟩=some (.slice (some ⟨bb,o,none⟩) t.n.length c):=Z0 hxd.out 1
      have hre:=Z23 g 0 _ _ _ _ [] _ u x.path V7 hFd.out (show Z8e ⟨f.t,x.atm,f.by_⟩ from⟨hok.out.good,by have:=hok.out.now;have:=hxk.out.atm;have:=hxk.out.mtm;show x.atm<4294967296;omega⟩) (by omega)
      unfold Z6t at hre
      replace hre:=hid hre
      go_wp2_with fail
      refine hre.out.mono ?_
      rintro e w8 ⟨rfl,⟨v8,hF8⟩,hs8⟩
      have hE8:Hid (Z2v t (k+1)=Z2J ⟨f.t,x.atm,f.by_⟩ x.path):=hid (by rw[hst.out];unfold Z4k;rw[if_neg (by rw[hgo];decide),show max (max f.now x.atm) x.mtm=x.atm by omega])
      replace hF8:=hid hF8
      have hx8:=hid ((hs8.block _ (lt_of_block hxd.out) hxg.out hxg.out).trans hxd.out)
      have hB8:=hid (hBd.out.trans (hs8.below _ hgw.out hgw.out hBd.out.size))
      clear hs8 c0 xb2 hre
      go_wp2_with fail
      go_roundw
      case rel=>exact⟨k+1,by omega,by go_num,hid ⟨v8,by rw[hE8.out];exact hF8.out⟩,hx8,hB8⟩
      case measure=>simp[intOf];omega
   ·have t1:¬ (f.now<x.atm):=h5
    have t2:¬ ((f.now:Int)<(x.atm:Int)):=by omega
    have t3:decide (f.now<x.atm)=false:=decide_eq_false t1
    go_big_region_o
    generalize wr.drew=V5 at *
    clear t2 t3 el3 el10 gn xb1
    go_upto_region 7 with fail
    have el3:V5.cell? ⟨bb,o+k * 12+4,none⟩=some (.int .u32 (x.mtm:Int)):=hrd.out 4 _ rfl
    have el10:V5.cell? ⟨bb,o+k * 12+10,none⟩=some (.bool x.gone):=hrd.out 10 _ rfl
    have gn:V5.cell? ⟨g,4,none⟩=some (.int .u32 (f.now:Int)):=Z0 hFd.out.blk 4
    have xb1:V5.cell? ⟨w.heap.size,1,none⟩=some (.slice (some ⟨bb,o,none⟩) t.n.length c):=Z0 hxd.out 1
    replace hFd:=hid (hFd.out.below ((Below.refl V5.heap.size V5).drew))
    replace hxd:=hid (show V5.drew.heap[w.heap.size]?=some (.cells #[.int .u64 (t.next:Int),.slice (some ⟨bb,o,none⟩) t.n.length c] 86 (0,0)) from hxd.out)
    replace hBd:=hid (sn hBd.out ((Below.refl V5.heap.size V5).drew))
    replace hrd:=hid (show V5.drew.rangeAt bb (o+k * 12) x.cells.toList from hrd.out)
    clear t1
    by_cases h7:f.now<x.mtm
    ·cases hgo:x.gone with
     | true =>
      rw[hgo]at el10
      have t1:f.now<x.mtm:=h7
      have t2:(f.now:Int)<(x.mtm:Int):=by omega
      have t3:decide (f.now<x.mtm)=true:=decide_eq_true t1
      go_big_region_o
      generalize V5.drew=V7 at *
      clear t2 t3 el3 el10 gn xb1
      go_upto_region 9 with fail
      have c0:V7.cell? ⟨bb,o+k * 12,none⟩=some (.int .u64 (x.path:Int)):=hrd.out 0 _ rfl
      have xb2:V7.cell? ⟨w.heap.size,1,none⟩=some (.slice (some ⟨bb,o,none⟩) t.n.length c):=Z0 hxd.out 1
      have hre:=Z23 g 0 _ _ _ _ [] _ u x.path V7 hFd.out (show Z8e ⟨f.t,f.now,f.by_⟩ from⟨hok.out.good,by have:=hok.out.now;have:=hxk.out.atm;have:=hxk.out.mtm;show f.now<4294967296;omega⟩) (by omega)
      unfold Z6t at hre
      replace hre:=hid hre
      go_wp2_with fail
      refine hre.out.mono ?_
      rintro e w8 ⟨rfl,⟨v8,hF8⟩,hs8⟩
      have hE8:Hid (Z2v t (k+1)=Z2J ⟨f.t,f.now,f.by_⟩ x.path):=hid (by rw[hst.out];unfold Z4k;rw[if_pos hgo])
      replace hF8:=hid hF8
      have hx8:=hid ((hs8.block _ (lt_of_block hxd.out) hxg.out hxg.out).trans hxd.out)
      have hB8:=hid (hBd.out.trans (hs8.below _ hgw.out hgw.out hBd.out.size))
      clear hs8 c0 xb2 hre
      go_wp2_with fail
      go_roundw
      case rel=>exact⟨k+1,by omega,by go_num,hid ⟨v8,by rw[hE8.out];exact hF8.out⟩,hx8,hB8⟩
      case measure=>simp[intOf];omega
     | false =>
      rw[hgo]at el10
      have t1:f.now<x.mtm:=h7
      have t2:(f.now:Int)<(x.mtm:Int):=by omega
      have t3:decide (f.now<x.mtm)=true:=decide_eq_true t1
      go_big_region_o
      generalize V5.drew=V7 at *
      clear t2 t3 el3 el10 gn xb1
      have xb2:V7.cell? ⟨w.heap.size,1,none⟩=some (.slice (some ⟨bb,o,none⟩) t.n.length c):=Z0 hxd.out 1
      have el2:V7.cell? ⟨bb,o+k * 12+4,none⟩=some (.int .u32 (x.mtm:Int)):=hrd.out 4 _ rfl
      have z2:V7.frozen? ⟨g,4,none⟩=false:=Zb hFd.out.blk 4
      have z3:V7.cell? ⟨g,4,none⟩=some (.int .u32 (f.now:Int)):=Z0 hFd.out.blk 4
      obtain⟨U7,hU7⟩ : ∃ U,U=V7.setCell ⟨g,4,none⟩ (.int .u32 (x.mtm:Int)):=⟨_,rfl⟩
      replace hFd:=hid (show RFo U7 g vr (.slice au u.us.length cu) (.slice ag u.gs.length cg) (.slice none 0 0) [] ⟨f.t,x.mtm,f.by_⟩ u 0 by rw[hU7];exact hFd.out.tick x.mtm)
      replace hxd:=hid (show U7.heap[w.heap.size]?=some (.cells #[.int .u64 (t.next:Int),.slice (some ⟨bb,o,none⟩) t.n.length c] 86 (0,0)) by rw[hU7];exact(Z1 (show w.heap.size≠g from hxg.out)).trans hxd.out)
      replace hBd:=hid (show Below w.heap.size w U7 by rw[hU7];exact hBd.out.setCell (p:=⟨g,4,none⟩) hgw.out _)
      replace hrd:=hid (show U7.rangeAt bb (o+k * 12) x.cells.toList by
       rw[hU7]
       intro j y hj
       have h1:=hrd.out j y hj
       rw[World.cell?_of_block (w:=V7) (Z1 (show bb≠g from hbg.out))]
       exact h1)
      go_upto_region 9 with (rw[←hU7];replace hU7:=hid hU7)
      try (rw[←hU7];replace hU7:=hid hU7)
      clear xb2 el2 z2 z3
      have c0:U7.cell? ⟨bb,o+k * 12,none⟩=some (.int .u64 (x.path:Int)):=hrd.out 0 _ rfl
      have xb2:U7.cell? ⟨w.heap.size,1,none⟩=some (.slice (some ⟨bb,o,none⟩) t.n.length c):=Z0 hxd.out 1
      have hre:=Z23 g 0 _ _ _ _ [] _ u x.path U7 hFd.out (show Z8e ⟨f.t,x.mtm,f.by_⟩ from⟨hok.out.good,by have:=hok.out.now;have:=hxk.out.atm;have:=hxk.out.mtm;show x.mtm<4294967296;omega⟩) (by omega)
      unfold Z6t at hre
      replace hre:=hid hre
      go_wp2_with fail
      refine hre.out.mono ?_
      rintro e w8 ⟨rfl,⟨v8,hF8⟩,hs8⟩
      have hE8:Hid (Z2v t (k+1)=Z2J ⟨f.t,x.mtm,f.by_⟩ x.path):=hid (by rw[hst.out];unfold Z4k;rw[if_neg (by rw[hgo];decide),show max (max f.now x.atm) x.mtm=x.mtm by omega])
      replace hF8:=hid hF8
      have hx8:=hid ((hs8.block _ (lt_of_block hxd.out) hxg.out hxg.out).trans hxd.out)
      have hB8:=hid (hBd.out.trans (hs8.below _ hgw.out hgw.out hBd.out.size))
      clear hs8 c0 xb2 hre
      go_wp2_with fail
      go_roundw
      case rel=>exact⟨k+1,by omega,by go_num,hid ⟨v8,by rw[hE8.out];exact hF8.out⟩,hx8,hB8⟩
      case measure=>simp[intOf];omega
    ·have t1:¬ (f.now<x.mtm):=h7
     have t2:¬ ((f.now:Int)<(x.mtm:Int)):=by omega
     have t3:decide (f.now<x.mtm)=false:=decide_eq_false t1
     go_big_region_o
     generalize V5.drew=V7 at *
     clear t2 t3 el3 el10 gn xb1
     go_upto_region 9 with fail
     have c0:V7.cell? ⟨bb,o+k * 12,none⟩=some (.int .u64 (x.path:Int)):=hrd.out 0 _ rfl
     have xb2:V7.cell? ⟨w.heap.size,1,none⟩=some (.slice (some ⟨bb,o,none⟩) t.n.length c):=Z0 hxd.out 1
     have hre:=Z23 g 0 _ _ _ _ [] _ u x.path V7 hFd.out (show Z8e ⟨f.t,f.now,f.by_⟩ from⟨hok.out.good,by have:=hok.out.now;have:=hxk.out.atm;have:=hxk.out.mtm;show f.now<4294967296;omega⟩) (by omega)
     unfold Z6t at hre
     replace hre:=hid hre
     go_wp2_with fail
     refine hre.out.mono ?_
     rintro e w8 ⟨rfl,⟨v8,hF8⟩,hs8⟩
     have hE8:Hid (Z2v t (k+1)=Z2J ⟨f.t,f.now,f.by_⟩ x.path):=hid (by rw[hst.out];unfold Z4k;rw[show(if x.gone=true then f.now else max (max f.now x.atm) x.mtm)=f.now by split <;> omega])
     replace hF8:=hid hF8
     have hx8:=hid ((hs8.block _ (lt_of_block hxd.out) hxg.out hxg.out).trans hxd.out)
     have hB8:=hid (hBd.out.trans (hs8.below _ hgw.out hgw.out hBd.out.size))
     clear hs8 c0 xb2 hre
     go_wp2_with fail
     go_roundw
     case rel=>exact⟨k+1,by omega,by go_num,hid ⟨v8,by rw[hE8.out];exact hF8.out⟩,hx8,hB8⟩
     case measure=>simp[intOf];omega
  ·obtain rfl:k=t.n.length:=by omega
   have hE:=hid (Z8m t)
   go_wp2_with fail
   go_ret
   exact⟨g,vr,rfl,by rw[←hE.out];exact hF.out,hgw.out,hB.out⟩
end
section
open Go.RowKit
set_option maxHeartbeats 6400000 in
theorem Z7z (v:Value) (x:Nat) (l:List Nod) (w:World) (hv:Z3 w v l) (hl:l.length≤1000) :
  Calls Tryz.prog 34 #[.agg #[.int .u64 (x:Int),v]] w (Z2q w x l):=by
 obtain⟨a,c,rfl,g1,g2⟩:=hv.form
 unfold maxLen at g2
 obtain⟨W,hW⟩ : ∃ W,W=((w.alloc (.cells #[.int .u64 (x:Int),.slice a l.length c] 30)).alloc (.cells #[.int .u64 0,.slice none 0 0] 86)).alloc (.cells #[.int .u64 (x:Int),.slice none 0 0] 86):=⟨_,rfl⟩
 have hb0:Below w.heap.size w W:=by rw[hW];exact(((Below.refl w.heap.size w).alloc (Nat.le_refl _) _).alloc (by simp) _).alloc (by simp;omega) _
 have hX0:=hid (show W.heap[w.heap.size]?=some (.cells #[.int .u64 (x:Int),.slice a l.length c] 30 (0,0)) by rw[hW,heap_alloc_old _ _ (by simp;omega),heap_alloc_old _ _ (by simp),heap_alloc_new])
 have hX1:=hid (show W.heap[w.heap.size+1]?=some (.cells #[.int .u64 0,.slice none 0 0] 86 (0,0)) by rw[hW,heap_alloc_old _ _ (by simp)];exact Z27 _ _ _)
 have hXU:=hid (show W.heap[w.heap.size+2]?=some (.cells #[.int .u64 (x:Int),.slice none 0 0] 86 (0,0)) by
  rw[hW]
  have:=heap_alloc_new ((w.alloc (.cells #[.int .u64 (x:Int),.slice a l.length c] 30)).alloc (.cells #[.int .u64 0,.slice none 0 0] 86)) (.cells #[.int .u64 (x:Int),.slice none 0 0] 86)
  simpa using this)
 replace hv:=hid hv
 replace hb0:=hid hb0
 go_enter Tryz.func34,Tryz.ntmps34
 go_wp2_with (rw[←hW];replace hW:=hid hW)
 try (rw[←hW];replace hW:=hid hW)
 go_loopw [4] (fun kv wr=>∃ (k m:Nat) (ov:Value) (acc:List Nod),k≤l.length∧kv=.int .i64 (k:Int)∧Hid (acc=l.take k)∧Hid (wr.heap[w.heap.size+2]?=some (.cells #[.int .u64 (x:Int),ov] 86 (0,0)))∧Hid (wr.heap[w.heap.size]?=some (.cells #[.int .u64 (x:Int),.slice a l.length c] 30 (0,0)))∧Hid (wr.heap[w.heap.size+1]?=some (.cells #[.int .u64 0,.slice none 0 0] 86 (0,0)))∧Hid (wr.ownsRow (w.heap.size+3) 157 12 ov m (ZB acc))∧Hid (Below w.heap.size w wr)∧Hid (m=acc.length)) (fun kv _=>l.length - (intOf kv).toNat)
 case atStart=>exact⟨0,0,.slice none 0 0,[],by omega,rfl,hid rfl,hXU,hX0,hX1,hid (World.ownsRow_nil _ _ _ _),hb0,hid rfl⟩
 case round =>
  clear hX0 hX1 hXU hb0
  obtain⟨k,m,ov,acc,hk,rfl,hacc,hXU,hX0,hX1,hown,hB,hm⟩:=hrel
  obtain⟨oa,oc,rfl⟩:=Z1V hown.out
  have hmk:m≤1000:=by rw[hm.out,hacc.out];simp;omega
  have e1:=Z0 hX0.out 1
  have e2:=Z0 hXU.out 1
  by_cases hkl:k<l.length
  ·obtain⟨b,o,ha,hr⟩:=(hv.out.below hB.out).range k hkl
   subst ha
   have hst:=hid (show l.take (k+1)=l.take k++[l[k]] from List.take_succ_eq_append_getElem hkl)
   generalize l[k]=n at *
   have ha2:=hid (show acc++[n]=l.take (k+1) by rw[hst.out,hacc.out])
   have hoc:Hid (∀ Z,Calls Tryz.prog 87 #[.agg #[.int .u64 (n.path:Int),.int .u32 (n.vers:Int),.int .u32 (n.mode:Int),.int .u32 (n.atm:Int),.int .u32 (n.mtm:Int),.string n.name,.string n.uid,.string n.gid,.string n.muid,.int .u64 (n.up:Int),.bool n.gone,.string n.data]] Z fun e w'=>e=.returned (.agg #[.int .u64 (n.path:Int),.int .u32 (n.vers:Int),.int .u32 (n.mode:Int),.int .u32 (n.atm:Int),.int .u32 (n.mtm:Int),.string n.name,.string n.uid,.string n.gid,.string n.muid,.int .u64 (n.up:Int),.bool n.gone,.string n.data])∧Below Z.heap.size Z w'):=hid (fun Z=>by rw[←Z7];exact Z7J n Z)
   replace hr:=hid hr
   clear hst hacc
   have k2:wr.drew.cell? ⟨w.heap.size+2,1,none⟩=some (.slice oa m oc):=e2
   have k3:wr.drew.cell? ⟨w.heap.size,1,none⟩=some (.slice (some ⟨b,o,none⟩) l.length c):=e1
   have s0:wr.drew.cell? ⟨b,o+k * 12,none⟩=some (.int .u64 (n.path:Int)):=by have:=hr.out 0 (.int .u64 (n.path:Int)) (by rw[Z7];rfl);rwa [Nat.add_zero]at this
   have s1:wr.drew.cell? ⟨b,o+k * 12+1,none⟩=some (.int .u32 (n.vers:Int)):=hr.out 1 _ (by rw[Z7];rfl)
   have s2:wr.drew.cell? ⟨b,o+k * 12+2,none⟩=some (.int .u32 (n.mode:Int)):=hr.out 2 _ (by rw[Z7];rfl)
   have s3:wr.drew.cell? ⟨b,o+k * 12+3,none⟩=some (.int .u32 (n.atm:Int)):=hr.out 3 _ (by rw[Z7];rfl)
   have s4:wr.drew.cell? ⟨b,o+k * 12+4,none⟩=some (.int .u32 (n.mtm:Int)):=hr.out 4 _ (by rw[Z7];rfl)
   have s5:wr.drew.cell? ⟨b,o+k * 12+5,none⟩=some (.string n.name):=hr.out 5 _ (by rw[Z7];rfl)
   have s6:wr.drew.cell? ⟨b,o+k * 12+6,none⟩=some (.string n.uid):=hr.out 6 _ (by rw[Z7];rfl)
   have s7:wr.drew.cell? ⟨b,o+k * 12+7,none⟩=some (.string n.gid):=hr.out 7 _ (by rw[Z7];rfl)
   have s8:wr.drew.cell? ⟨b,o+k * 12+8,none⟩=some (.string n.muid):=hr.out 8 _ (by rw[Z7];rfl)
   have s9:wr.drew.cell? ⟨b,o+k * 12+9,none⟩=some (.int .u64 (n.up:Int)):=hr.out 9 _ (by rw[Z7];rfl)
   have s10:wr.drew.cell? ⟨b,o+k * 12+10,none⟩=some (.bool n.gone):=hr.out 10 _ (by rw[Z7];rfl)
   have s11:wr.drew.cell? ⟨b,o+k * 12+11,none⟩=some (.string n.data):=hr.out 11 _ (by rw[Z7];rfl)
   have i1:(0:Int)≤(k:Int):=by omega
   have i2:(k:Int)<(l.length:Int):=by omega
   go_wp2_with fail
   have hbw:=hid (show b<w.heap.size by
    obtain⟨b',o',ha',hr'⟩:=hv.out.range k hkl
    cases ha'
    exact World.block_lt_of_cell? _ _ (hr' 0 _ (by rw[Z7];rfl)))
   have hUs:=hid (lt_of_block hXU.out)
   go_region_law (first
     |(refine Z1W Zc4 _ rfl (.tmp 16) (.tmp 23) rfl (w.heap.size+3) (.slice oa m oc) m (ZB acc) rfl hownA.out _ 1 n.cells.toList rfl hsrc.out (by intro u hu;exact(Array.all_eq_true_iff_forall_mem.1 (Zw n)) u (by simpa using hu)) (by unfold maxLen;omega) (by omega) (by simp;omega) ?_;intro a' c' w' h2 h3;have hbU:=(h3.block (w.heap.size+2) (by simp;omega) (fun e=>by have:=(hvl.out _ e.symm).1;omega)).trans hXUA.out;have hb1:=(h3.block (w.heap.size+1) (by simp;omega) (fun e=>by have:=(hvl.out _ e.symm).1;omega)).trans hX1A.out;have hb0:=(h3.block w.heap.size (by simp;omega) (fun e=>by have:=(hvl.out _ e.symm).1;omega)).trans hX0A.out;have y1:w'.frozen? ⟨w.heap.size+2,1,none⟩=false:=Zb hbU 1;have y2:w'.cell? ⟨w.heap.size+2,1,none⟩=some (.slice oa m oc):=Z0 hbU 1;have nU:=hid (Zg hbU 1 (.slice a' (m+1) c'));have n1:=hid ((Z1 (p:=⟨w.heap.size+2,1,none⟩) (u:=.slice a' (m+1) c') (by show w.heap.size+1≠w.heap.size+2;omega)).trans hb1);have n0:=hid ((Z1 (p:=⟨w.heap.size+2,1,none⟩) (u:=.slice a' (m+1) c') (by show w.heap.size≠w.heap.size+2;omega)).trans hb0);have hown2:=hid (ownsRow_setCell_below h2 (a:=⟨w.heap.size+2,1,none⟩) (by show w.heap.size+2<w.heap.size+3;omega) (.slice a' (m+1) c'));have hB2:=hid ((hBA.out.grown h3 (by simp;omega) (fun j hj=>by have:=(hvl.out j hj).1;omega)).setCell (a:=w) (p:=⟨w.heap.size+2,1,none⟩) (by show w.heap.size≤w.heap.size+2;omega) (.slice a' (m+1) c')))
     |(go_simp;go_at_call 87;(with_reducible refine(hoc.out _).mono ?_);rintro e w3 ⟨rfl,hb3⟩;have hD:=(Below.refl wr.heap.size wr).drew.trans hb3;have hA:=(Below.refl w3.heap.size w3).alloc (Nat.le_refl _) (.cells #[.int .u64 (n.path:Int),.int .u32 (n.vers:Int),.int .u32 (n.mode:Int),.int .u32 (n.atm:Int),.int .u32 (n.mtm:Int),.string n.name,.string n.uid,.string n.gid,.string n.muid,.int .u64 (n.up:Int),.bool n.gone,.string n.data] 157);have hownA:=hid (Z2x (Z2x hown.out (fun j hj=>hD.block j (hown.out.lt j hj).2)) (fun j hj=>hA.block j (Nat.lt_of_lt_of_le (hown.out.lt j hj).2 hD.size)));have hXUA:=hid ((hA.block _ (Nat.lt_of_lt_of_le (lt_of_block hXU.out) hD.size)).trans ((hD.block _ (lt_of_block hXU.out)).trans hXU.out));have hX1A:=hid ((hA.block _ (Nat.lt_of_lt_of_le (lt_of_block hX1.out) hD.size)).trans ((hD.block _ (lt_of_block hX1.out)).trans hX1.out));have hX0A:=hid ((hA.block _ (Nat.lt_of_lt_of_le (lt_of_block hX0.out) hD.size)).trans ((hD.block _ (lt_of_block hX0.out)).trans hX0.out));have k4:w3.cell? ⟨w.heap.size+2,1,none⟩=some (.slice oa m oc):=Z0 ((hD.block _ (lt_of_block hXU.out)).trans hXU.out) 1;have k5:(w3.alloc (.cells #[.int .u64 (n.path:Int),.int .u32 (n.vers:Int),.int .u32 (n.mode:Int),.int .u32 (n.atm:Int),.int .u32 (n.mtm:Int),.string n.name,.string n.uid,.string n.gid,.string n.muid,.int .u64 (n.up:Int),.bool n.gone,.string n.data] 157)).cell? ⟨w.heap.size+2,1,none⟩=some (.slice oa m oc):=Z0 hXUA.out 1;have hBA:=hid (hB.out.trans ((hD.mono hB.out.size).trans (hA.mono (Nat.le_trans hB.out.size hD.size))));have hsrc:Hid (Z15 (w3.alloc (.cells #[.int .u64 (n.path:Int),.int .u32 (n.vers:Int),.int .u32 (n.mode:Int),.int .u32 (n.atm:Int),.int .u32 (n.mtm:Int),.string n.name,.string n.uid,.string n.gid,.string n.muid,.int .u64 (n.up:Int),.bool n.gone,.string n.data] 157)) 12 (.slice (some ⟨w3.heap.size,0,none⟩) 1 1) 1 n.cells.toList):=hid (Z15.of_block (n:=1) (heap_alloc_new _ _) rfl (by unfold maxLen;omega));have hlt3:w.heap.size+2<w3.heap.size:=Nat.lt_of_lt_of_le (lt_of_block hXU.out) hD.size;have hvl:=hid hown.out.lt;replace hD:=hid hD;replace hA:=hid hA))
   all_goals
    clear k2 s0 s1 s2 s3 s4 s5 s6 s7 s8 s9 s10 s11 k3 e1 e2 i1 i2 y1 y2 h2 h3 hbU hb1 hb0
    go_wp2_with fail
    go_roundw
    case rel=>exact⟨k+1,m+1,_,acc++[n],by omega,by go_num,ha2,nU,n0,n1,by rw[Z28,show ZB [n]=n.cells.toList by simp[ZB]];exact hown2,hB2,hid (by rw[List.length_append,←hm.out];rfl)⟩
    case measure=>simp[intOf];omega
  ·obtain rfl:k=l.length:=by omega
   have hacc2:acc=l:=by have:=hacc.out;rwa [List.take_length]at this
   replace hacc2:=hid hacc2
   have y0:=Z0 hXU.out 0
   have y1:=Z0 hXU.out 1
   have hzz:=hid (setRow_heap wr (w.heap.size+1) #[.int .u64 0,.slice none 0 0] #[.int .u64 (x:Int),.slice oa m oc] _ _ hX1.out)
   have hBz:=hid (below_setRow (g:=w.heap.size+1) hB.out (by omega) #[.int .u64 (x:Int),.slice oa m oc])
   have hF:=hid (fun j hj=>(hown.out.lt j hj).1)
   have hN:=hid (Z3.other (w':=wr.setRow (w.heap.size+1) #[.int .u64 (x:Int),.slice oa m oc]) (Z3.of_own hown.out) (w.heap.size+1) (fun e=>by have:=hF.out _ e;omega) (by simp) (fun k hk=>setRow_other _ _ _ _ hk))
   go_wp2_with (refine wpList_store_row (by rfl) 86 (.tmp 2) (.tmp 26) (by rfl) (w.heap.size+1) #[.int .u64 (x:Int),.slice oa m oc] (by rfl) (by rfl) 86 _ hX1.out (by kernel_rfl) (by kernel_rfl) (by kernel_rfl) ?_)
   refine bodyPost_ret (results_cell_row rfl _ _ (w.heap.size+1) _ _ _ _ rfl hzz.out Tryz.underlying86 (by rfl) (by kernel_rfl)) rfl ?_
   exact⟨.slice oa m oc,rfl,by rw[←hacc2.out];exact hN.out,fun k hk=>by have:=hF.out k hk;omega,hBz.out⟩
end
section
open Go.RowKit Go.Maps
def US0:List ByteArray:=[⟨#[117,49]⟩,⟨#[117,50]⟩,⟨#[117,51]⟩]
def GS0:List Grp:=[⟨⟨#[103,49]⟩,.slice none 0 0,[⟨#[117,49]⟩,⟨#[117,50]⟩]⟩,⟨⟨#[103,50]⟩,.slice none 0 0,[⟨#[117,51]⟩]⟩]
def Zc9 (w:World) (e:Ending) (w':World):Prop:=∃ vu vg gs,e=.returned (.agg #[vu,vg])∧Z1c w' vu US0∧Z1Y w' vg gs∧Z1U GS0 gs∧Below w.heap.size w w'
set_option maxHeartbeats 3200000 in
theorem Z8n (w:World):Calls Tryz.prog 32 #[] w (Zc9 w):=by
 obtain⟨z,hz⟩ : ∃ z,z=w.heap.size:=⟨_,rfl⟩
 obtain⟨W,hW⟩ : ∃ W,W=((((w.alloc (.cells #[.slice none 0 0,.slice none 0 0] 81)).alloc (.cells #[.string ⟨#[117,49]⟩,.string ⟨#[117,50]⟩,.string ⟨#[117,51]⟩] 9)).alloc (.cells #[.string ⟨#[117,49]⟩,.string ⟨#[117,50]⟩] 9)).alloc (.cells #[.string ⟨#[117,51]⟩] 9)).alloc (.cells #[.string ⟨#[103,49]⟩,.slice (some ⟨w.heap.size+2,0,none⟩) 2 2,.string ⟨#[103,50]⟩,.slice (some ⟨w.heap.size+3,0,none⟩) 1 1] 153):=⟨_,rfl⟩
 have hb:Below w.heap.size w W:=by rw[hW];exact(((((Below.refl w.heap.size w).alloc (Nat.le_refl _) _).alloc (by simp) _).alloc (by simp <;> omega) _).alloc (by simp <;> omega) _).alloc (by simp <;> omega) _
 have h0:W.heap[w.heap.size]?=some (.cells #[.slice none 0 0,.slice none 0 0] 81 (0,0)):=by rw[hW,heap_alloc_old _ _ (by simp <;> omega),heap_alloc_old _ _ (by simp <;> omega),heap_alloc_old _ _ (by simp <;> omega),heap_alloc_old _ _ (by simp)];exact heap_alloc_new _ _
 have h1:W.heap[w.heap.size+1]?=some (.cells #[.string ⟨#[117,49]⟩,.string ⟨#[117,50]⟩,.string ⟨#[117,51]⟩] 9 (0,0)):=by rw[hW,heap_alloc_old _ _ (by simp <;> omega),heap_alloc_old _ _ (by simp <;> omega),heap_alloc_old _ _ (by simp)];exact Z27 _ _ _
 have h2:W.heap[w.heap.size+2]?=some (.cells #[.string ⟨#[117,49]⟩,.string ⟨#[117,50]⟩] 9 (0,0)):=by
  rw[hW,heap_alloc_old _ _ (by simp <;> omega),heap_alloc_old _ _ (by simp)]
  simpa using heap_alloc_new ((w.alloc (.cells #[.slice none 0 0,.slice none 0 0] 81)).alloc (.cells #[.string ⟨#[117,49]⟩,.string ⟨#[117,50]⟩,.string ⟨#[117,51]⟩] 9)) (.cells #[.string ⟨#[117,49]⟩,.string ⟨#[117,50]⟩] 9)
 have h3:W.heap[w.heap.size+3]?=some (.cells #[.string ⟨#[117,51]⟩] 9 (0,0)):=by
  rw[hW,heap_alloc_old _ _ (by simp)]
  simpa using heap_alloc_new (((w.alloc (.cells #[.slice none 0 0,.slice none 0 0] 81)).alloc (.cells #[.string ⟨#[117,49]⟩,.string ⟨#[117,50]⟩,.string ⟨#[117,51]⟩] 9)).alloc (.cells #[.string ⟨#[117,49]⟩,.string ⟨#[117,50]⟩] 9)) (.cells #[.string ⟨#[117,51]⟩] 9)
 have h4:W.heap[w.heap.size+4]?=some (.cells #[.string ⟨#[103,49]⟩,.slice (some ⟨w.heap.size+2,0,none⟩) 2 2,.string ⟨#[103,50]⟩,.slice (some ⟨w.heap.size+3,0,none⟩) 1 1] 153 (0,0)):=by
  rw[hW]
  simpa using heap_alloc_new ((((w.alloc (.cells #[.slice none 0 0,.slice none 0 0] 81)).alloc (.cells #[.string ⟨#[117,49]⟩,.string ⟨#[117,50]⟩,.string ⟨#[117,51]⟩] 9)).alloc (.cells #[.string ⟨#[117,49]⟩,.string ⟨#[117,50]⟩] 9)).alloc (.cells #[.string ⟨#[117,51]⟩] 9)) (.cells #[.string ⟨#[103,49]⟩,.slice (some ⟨w.heap.size+2,0,none⟩) 2 2,.string ⟨#[103,50]⟩,.slice (some ⟨w.heap.size+3,0,none⟩) 1 1] 153)
 have hB2:=below_setRow hb (Nat.le_refl _) #[.slice (some ⟨w.heap.size+1,0,none⟩) 3 3,.slice (some ⟨w.heap.size+4,0,none⟩) 2 2]
 have ho : ∀ k,k≠w.heap.size→(W.setRow w.heap.size #[.slice (some ⟨w.heap.size+1,0,none⟩) 3 3,.slice (some ⟨w.heap.size+4,0,none⟩) 2 2]).heap[k]?=W.heap[k]?:=fun k hk=>setRow_other _ _ _ _ hk
 have m3:3≤maxLen:=by unfold maxLen;omega
 have hP:Hid (Zc9 w (.returned (.agg #[.slice (some ⟨w.heap.size+1,0,none⟩) 3 3,.slice (some ⟨w.heap.size+4,0,none⟩) 2 2])) (W.setRow w.heap.size #[.slice (some ⟨w.heap.size+1,0,none⟩) 3 3,.slice (some ⟨w.heap.size+4,0,none⟩) 2 2])):=hid (by
  refine⟨_,_,[⟨⟨#[103,49]⟩,.slice (some ⟨w.heap.size+2,0,none⟩) 2 2,[⟨#[117,49]⟩,⟨#[117,50]⟩]⟩,⟨⟨#[103,50]⟩,.slice (some ⟨w.heap.size+3,0,none⟩) 1 1,[⟨#[117,51]⟩]⟩],rfl,?_,⟨?_,?_⟩,rfl,hB2⟩
  ·exact(Z15.of_block (n:=3) (k:=1) ((ho _ (by omega)).trans h1) rfl m3).weak
  ·exact(Z15.of_block (n:=2) (k:=2) ((ho _ (by omega)).trans h4) rfl (by omega)).weak
  ·intro g hg
   rcases List.mem_cons.1 hg with rfl | hg
   ·exact(Z15.of_block (n:=2) (k:=1) ((ho _ (by omega)).trans h2) rfl (by omega)).weak
   ·obtain rfl:=List.mem_singleton.1 hg
    exact(Z15.of_block (n:=1) (k:=1) ((ho _ (by omega)).trans h3) rfl (by omega)).weak)
 replace h0:=hid h0
 clear hb h1 h2 h3 h4 hB2 ho m3 hz
 go_enter Tryz.func32,Tryz.ntmps32
 go_wp2_with (first
  |(rw[←hW];replace hW:=hid hW)
  |(refine wpList_store_row (by rfl) 81 (.tmp 0) (.tmp 7) (by rfl) w.heap.size #[.slice (some ⟨w.heap.size+1,0,none⟩) 3 3,.slice (some ⟨w.heap.size+4,0,none⟩) 2 2] (by rfl) (by rfl) 81 _ h0.out (by kernel_rfl) (by kernel_rfl) (by kernel_rfl) ?_))
 refine bodyPost_ret (results_cell_row rfl _ _ w.heap.size _ #[.slice (some ⟨w.heap.size+1,0,none⟩) 3 3,.slice (some ⟨w.heap.size+4,0,none⟩) 2 2] _ _ rfl (setRow_heap _ _ _ _ _ _ h0.out) Tryz.underlying81 rfl (by kernel_rfl)) rfl ?_
 exact hP.out
end
section
open Go.RowKit Go.Maps
theorem Z7A {gs:List Grp} (h:Z1U GS0 gs) : ∃ v1 v2,gs=[⟨⟨#[103,49]⟩,v1,[⟨#[117,49]⟩,⟨#[117,50]⟩]⟩,⟨⟨#[103,50]⟩,v2,[⟨#[117,51]⟩]⟩]:=by
 unfold Z1U GS0 at h
 cases gs with
 | nil=>simp at h
 | cons a gs =>
  cases gs with
  | nil=>simp at h
  | cons b gs =>
   cases gs with
   | cons c gs=>simp at h
   | nil =>
    simp only[List.map_cons,List.map_nil,List.cons.injEq,Prod.mk.injEq,and_true]at h
    obtain⟨⟨h1,h2⟩,h3,h4⟩:=h
    obtain⟨an,av,am⟩:=a
    obtain⟨bn,bv,bm⟩:=b
    simp only at h1 h2 h3 h4
    subst h1 h2 h3 h4
    exact⟨av,bv,rfl⟩
theorem Zd5 {gs:List Grp} (h:Z1U GS0 gs):UOk US0 gs:=by
 obtain⟨v1,v2,rfl⟩:=Z7A h
 refine⟨by decide,by show 2≤32;omega,fun k hk _=>?_,fun k hk _=>?_⟩
 ·have hk3:k<3:=hk
  rcases(by omega:k=0∨k=1∨k=2) with rfl | rfl | rfl
  ·exact⟨by kernel_rfl,by kernel_rfl⟩
  ·exact⟨by kernel_rfl,by kernel_rfl⟩
  ·exact⟨by kernel_rfl,by kernel_rfl⟩
 ·have hk3:k<2:=hk
  rcases(by omega:k=0∨k=1) with rfl | rfl
  ·refine⟨by kernel_rfl,by kernel_rfl,fun j hj _=>?_⟩
   have hj3:j<2:=hj
   rcases(by omega:j=0∨j=1) with rfl | rfl
   ·exact⟨by kernel_rfl,by kernel_rfl⟩
   ·exact⟨by kernel_rfl,by kernel_rfl⟩
  ·refine⟨by kernel_rfl,by kernel_rfl,fun j hj _=>?_⟩
   have hj3:j<1:=hj
   obtain rfl:j=0:=by omega
   exact⟨by kernel_rfl,by kernel_rfl⟩
theorem Za9 {gs:List Grp} (h:Z1U GS0 gs) : ∀ g∈gs,g.mem.length≤2:=by
 obtain⟨v1,v2,rfl⟩:=Z7A h
 intro g hg
 rcases List.mem_cons.1 hg with rfl | hg
 ·exact Nat.le_refl _
 ·obtain rfl:=List.mem_singleton.1 hg
  exact Nat.le_succ _
theorem Z5p {gs:List Grp} (h:Z1U GS0 gs):UB US0 gs:=⟨by decide,by rw[←h.length];decide,fun g hg=>by have:=Za9 h g hg;omega⟩
structure BothAt (w0 w:World) (b m p g:Nat) (v vr vu vg:Value) (gs1 gs2:List Grp) (t:Tr):Prop where
 fs:FSo w b m v p (Zav t) ⟨US0,gs1⟩ 0
 s1:Z1U GS0 gs1
 ref:RFo w g vr vu vg (.slice none 0 0) [] (Zby t) ⟨US0,gs2⟩ 0
 s2:Z1U GS0 gs2
 lb:w0.heap.size≤b
 lm:w0.heap.size≤m
 bg:b<g
 mg:m<g
 below:Below w0.heap.size w0 w
def Zd6 (t:Tr) (w:World) (e:Ending) (w':World):Prop:=∃ b m p g v vr vu vg gs1 gs2,e=.returned (.tuple #[.pointer (some ⟨b,0,none⟩),.pointer (some ⟨g,0,none⟩),.bool true])∧BothAt w w' b m p g v vr vu vg gs1 gs2 t
set_option maxHeartbeats 3200000 in
theorem Z7B (v:Value) (t:Tr) (w:World) (hv:Z3 w v t.n) (hg:Za2 t) :
  Calls Tryz.prog 8 #[.agg #[.int .u64 (t.next:Int),v]] w (Zd6 t w):=by
 have mixed:Tryz.prog.follows Departure.mixedOrders=true:=by first | kernel_rfl | decide
 obtain⟨a,c,rfl,g1,g2⟩:=hv.form
 obtain⟨W,hW⟩ : ∃ W,W=w.alloc (.cells #[.int .u64 (t.next:Int),.slice a t.n.length c] 30):=⟨_,rfl⟩
 have hb0:Below w.heap.size w W:=by rw[hW];exact(Below.refl _ _).alloc (Nat.le_refl _) _
 have hx0:=(show W.heap[w.heap.size]?=some (.cells #[.int .u64 (t.next:Int),.slice a t.n.length c] 30 (0,0)) by rw[hW];exact heap_alloc_new _ _)
 have hvd:=hid (hv.below (sn hb0 ((Below.refl _ _).drew)))
 have hBd:=hid (sn hb0 ((Below.refl _ _).drew))
 have hxd:=hid (show W.drew.heap[w.heap.size]?=some (.cells #[.int .u64 (t.next:Int),.slice a t.n.length c] 30 (0,0)) from hx0)
 have hus:=hid (fun X=>Z8n X)
 have e0:=Z0 hx0 0
 have e1:=Z0 hx0 1
 clear hb0 hx0 hv
 replace hg:=hid hg
 go_enter Tryz.func8,Tryz.ntmps8
 go_wp2_with (rw[←hW];replace hW:=hid hW)
 try (rw[←hW];replace hW:=hid hW)
 go_region_held3 (fun w'=>w'.cell? ⟨w.heap.size,0,none⟩=some (.int .u64 (t.next:Int))∧w'.cell? ⟨w.heap.size,1,none⟩=some (.slice a t.n.length c)) (exact⟨Z0 hxd.out 0,Z0 hxd.out 1⟩) (first
  |(go_at_call 32;(with_reducible refine(hus.out _).mono ?_);rintro e w1 ⟨vu,vg,gs,rfl,hu1,hr1,hs1,hb1⟩;replace hxd:=hid ((hb1.block _ (lt_of_block hxd.out)).trans hxd.out);replace hvd:=hid (hvd.out.below hb1);replace hBd:=hid (sn hBd.out hb1);have hta:=hid (Z8Z vu vg US0 gs w1 hu1 hr1 (Zd5 hs1) (fun g hg=>by have:=Za9 hs1 g hg;omega)))
  |(go_at_call 31;(with_reducible refine hta.out.mono ?_);rintro e w2 ⟨p,gs1,rfl,ht2,hs2,hb2⟩;replace hxd:=hid ((hb2.block _ (lt_of_block hxd.out)).trans hxd.out);replace hvd:=hid (hvd.out.below hb2);replace hBd:=hid (sn hBd.out hb2);have hsg:=hid (show Z1U GS0 gs1 from hs1.trans hs2);have hnw:=hid (Zbx p _ t ⟨US0,gs1⟩ w2 hvd.out ht2 hg.out))
  |(go_at_call 30;(with_reducible refine hnw.out.mono ?_);rintro e w3 ⟨b,m,v3,rfl,hF3,hlb,hlm,hb3⟩;replace hxd:=hid ((hb3.block _ (lt_of_block hxd.out)).trans hxd.out);replace hvd:=hid (hvd.out.below hb3);replace hF3:=hid hF3;have hlb3:=hid hlb;have hlm3:=hid hlm;have hsz:=hid hBd.out.size;replace hBd:=hid (sn hBd.out hb3)))
 all_goals
  have hlb4:w.heap.size≤b:=Nat.le_trans hsz.out hlb3.out
  have hlm4:w.heap.size≤m:=Nat.le_trans hsz.out hlm3.out
  have c0:=Z0 hxd.out 0
  have c1:=Z0 hxd.out 1
  have hof:=Z7z _ t.next t.n w3 hvd.out (by have:=hg.out.tr.few;omega)
  unfold Z2q at hof
  replace hof:=hid hof
  replace hus:=hid hus.out
  clear e0 e1 hta hnw hb1 hb2 hb3 hs1 hs2
  go_wp2_with fail
  refine hof.out.mono ?_
  rintro e w4 ⟨v4,rfl,hv4,_,hb4⟩
  go_wp2_with fail
  refine(hus.out _).mono ?_
  rintro e w5 ⟨vu5,vg5,gs5,rfl,hu5,hr5,hs5,hb5⟩
  have hrn:=hid (ZbA v4 vu5 vg5 t ⟨US0,gs5⟩ w5 (hv4.below hb5) hu5 hr5 hg.out)
  replace hs5:=hid hs5
  go_wp2_with fail
  refine hrn.out.mono ?_
  rintro e w6 ⟨g,vr,rfl,hR6,hlg,hb6⟩
  have hb46:=sn (sn hb4 hb5) hb6
  have hF6:=hid (hF3.out.below hb46)
  have hlg2:=hid hlg
  have hsz5:=hid (sn hb4 hb5).size
  have hB6:=hid (sn hBd.out hb46)
  have hbb:=hid (lt_of_block hF3.out.blk)
  have hmm:=hid hF3.out.map.lt
  replace hR6:=hid hR6
  clear hb4 hb5 hb6 hb46
  go_wp2_with fail
  refine bodyPost_ret (results_tmp3 rfl _ _ _) rfl ?_
  exact⟨b,m,p,g,v3,vr,vu5,vg5,gs1,gs5,rfl,hF6.out,hsg.out,hR6.out,hs5.out,hlb4,hlm4,by have:=hbb.out;have:=hsz5.out;have:=hlg2.out;omega,by have:=hmm.out;have:=hsz5.out;have:=hlg2.out;omega,hB6.out⟩
end
end Go.Proofs.YtkefjeabckainaaGreat
