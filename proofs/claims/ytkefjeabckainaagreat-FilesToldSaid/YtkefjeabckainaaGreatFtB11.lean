/- reap of package fsys. Conditions: in the statements. And the texts behind it. -/
import Derived.Test.YtkefjeabckainaaGreatFtB10
import Derived.Test.YtkefjeabckainaaGreatFtB03
import Derived.Test.YtkefjeabckainaaGreatFtB07
import Derived.Test.YtkefjeabckainaaGreatFtB08
namespace Go.Proofs.YtkefjeabckainaaGreat
set_option maxRecDepth 100000
set_option linter.unusedVariables false
section
open Go.RowKit Go.Maps
def ZdE (b m p n:Nat) (v:Value) (f:FsV) (u:Usr) (w:World) (e:Ending) (w':World):Prop:=e=.returned (.tuple #[])∧(∃ v',FSo w' b m v' p f u n∧(v'=v∨∀ k,v'.ownBlock=some k→w.heap.size≤k))∧FStep b m w w'
def ZaZ (w:World) (next:Nat) (v:Value):World:=(w.alloc (.cells #[.int .u64 0,.slice none 0 0] 30)).setRow w.heap.size #[.int .u64 (next:Int),v]
theorem Z7V (w:World) (next:Nat) (v:Value):(ZaZ w next v).heap[w.heap.size]?=some (.cells #[.int .u64 (next:Int),v] 30 (0,0)):=setRow_heap _ _ _ _ _ _ (heap_alloc_new _ _)
theorem Z6U (w:World) (next:Nat) (v:Value):Below w.heap.size w (ZaZ w next v):=below_setRow ((Below.refl _ _).alloc (Nat.le_refl _) _) (Nat.le_refl _) _
theorem FStep.put {b m:Nat} {w:World} (x y:Value):FStep b m w ((w.setCell ⟨b,0,none⟩ x).setCell ⟨b,1,none⟩ y):=(FStep.cell (i:=0) x).trans (FStep.cell (i:=1) y)
theorem ZdF (x y:Value) (w:World):(Instr.field 107 (.agg #[x,y]) 0).run Tryz.prog w=.ok x w:=by kernel_rfl
theorem ZdG (x y:Value) (w:World):(Instr.field 107 (.agg #[x,y]) 1).run Tryz.prog w=.ok y w:=by kernel_rfl
set_option maxHeartbeats 1600000 in
theorem Z2t (b m p n:Nat) (v:Value) (f:FsV) (u:Usr) (q:Nat) (w:World) (h:FSo w b m v p f u n) (ht:TrOk f.t.n) (hq:q<18446744073709551616) :
  Calls Tryz.prog 49 #[.pointer (some ⟨b,0,none⟩),.int .u64 (q:Int)] w (ZdE b m p n v (Z2c f q) u w):=by
 obtain⟨a,c,rfl,g1,g2⟩:=h.row.form
 have h4:=Z0 h.blk 4
 have hlk:=h.map.look q hq
 have hfd:=ZdF
 by_cases hp:0<(f.by_ q).1
 ·have hE:Hid (Z2c f q=f):=hid (if_pos hp)
  generalize (f.by_ q).1=i at *
  have hpI:(0:Int)<(i:Int):=by omega
  replace h:=hid h
  go_enter Tryz.func49,Tryz.ntmps49
  go_wp2_with fail
  go_end0
  exact⟨rfl,⟨_,by rw[hE.out];exact h.out,.inl rfl⟩,FStep.refl _ _ _⟩
 ·have hi0:(f.by_ q).1=0:=by omega
  have hE:Hid (Z2c f q=if (Z1O f.t q).2 then⟨(Z1O f.t q).1,f.now,upd f.by_ q (0,0)⟩ else f):=hid (if_neg hp)
  rw[hi0]at hlk
  have hre:=hid (Z9c _ f.t.next f.t.n q w h.row ht)
  have e0:=Z0 h.blk 0
  have e1:=Z0 h.blk 1
  have hbl:=lt_of_block h.blk
  have hml:=h.map.lt
  replace h:=hid h
  clear hp hi0
  go_enter Tryz.func49,Tryz.ntmps49
  go_wp2_with fail
  refine hre.out.mono ?_
  rintro e w1 ⟨v',rfl,hv1,hf1,hb1⟩
  rw[show(⟨f.t.next,f.t.n⟩:Tr)=f.t from rfl]at hv1 ⊢
  generalize Z1O f.t q=R at *
  obtain⟨⟨x',l'⟩,rb⟩:=R
  simp only at hv1 hE ⊢
  obtain⟨a',c',rfl,_,_⟩:=hv1.form
  obtain⟨X,hX⟩ : ∃ X,X=ZaZ w1 x' (.slice a' l'.length c'):=⟨_,rfl⟩
  have hXn:X.heap[w1.heap.size]?=some (.cells #[.int .u64 (x':Int),.slice a' l'.length c'] 30 (0,0)):=by rw[hX];exact Z7V _ _ _
  have hXb:Below w1.heap.size w1 X:=by rw[hX];exact Z6U _ _ _
  have hBX:=sn hb1 hXb
  have hFX:=hid (h.out.below hBX)
  have hvX:=hid (hv1.below hXb)
  have hS:=hid (FStep.pure (b:=b) (m:=m) hBX)
  have hnew:=hid (heap_alloc_new w1 (.cells #[.int .u64 0,.slice none 0 0] 30))
  have n1:Hid ((Value.slice a' l'.length c').ownBlock≠some b):=hid (fun e=>by have:=hf1 _ e;omega)
  have n2:Hid ((Value.slice a' l'.length c').ownBlock≠some m):=hid (fun e=>by have:=hf1 _ e;omega)
  have hfr:=hid hf1
  have x0:X.cell? ⟨w1.heap.size,0,none⟩=some (.int .u64 (x':Int)):=Z0 hXn 0
  have x1:X.cell? ⟨w1.heap.size,1,none⟩=some (.slice a' l'.length c'):=Z0 hXn 1
  unfold ZaZ at hX
  clear hb1 hXb hBX hv1 hf1 e0 e1 h4 hlk hbl hml hre
  cases rb with
  | false =>
   go_wp2_with (first
    |(rw[←hX];replace hX:=hid hX)
    |(refine wpList_store_row (by rfl) 30 (.tmp 4) (.tmp 21) (by rfl) w1.heap.size #[.int .u64 (x':Int),.slice a' l'.length c'] (by rfl) (by rfl) 30 _ hnew.out (by kernel_rfl) (by kernel_rfl) (by kernel_rfl) ?_))
   try (rw[←hX];replace hX:=hid hX)
   go_end0
   exact⟨rfl,⟨_,by rw[hE.out];exact hFX.out,.inl rfl⟩,hS.out⟩
  | true =>
   have b0:=Zb hFX.out.blk 0
   have c0:=Z0 hFX.out.blk 0
   have hs1:=Zg hFX.out.blk 0 (.int .u64 (x':Int))
   have b1:(X.setCell ⟨b,0,none⟩ (.int .u64 (x':Int))).frozen? ⟨b,1,none⟩=false:=Zb hs1 1
   have c1:(X.setCell ⟨b,0,none⟩ (.int .u64 (x':Int))).cell? ⟨b,1,none⟩=some _:=Z0 hs1 1
   have hF2:=hid (hFX.out.put ⟨x',l'⟩ hvX.out n1.out n2.out)
   obtain⟨Y,hY⟩ : ∃ Y,Y=(X.setCell ⟨b,0,none⟩ (.int .u64 (x':Int))).setCell ⟨b,1,none⟩ (.slice a' l'.length c'):=⟨_,rfl⟩
   have hS2:Hid (FStep b m w Y):=hid (by rw[hY];exact hS.out.trans (FStep.put _ _))
   simp only at hF2
   rw[←hY]at hF2
   have y4:Y.cell? ⟨b,4,none⟩=some (.map (some m)):=Z0 hF2.out.blk 4
   obtain⟨w',hrun,hm',ht'⟩:=hF2.out.map.del q hq 0
   replace hm':=hid hm'
   replace ht':=hid ht'
   clear hs1
   go_wp2_with (first
    |(rw[←hX];replace hX:=hid hX)
    |(rw[←hY];replace hY:=hid hY)
    |(refine wpList_store_row (by rfl) 30 (.tmp 4) (.tmp 21) (by rfl) w1.heap.size #[.int .u64 (x':Int),.slice a' l'.length c'] (by rfl) (by rfl) 30 _ hnew.out (by kernel_rfl) (by kernel_rfl) (by kernel_rfl) ?_))
   go_end0
   refine⟨rfl,⟨_,by rw[hE.out];exact hF2.out.turn ht'.out hm'.out,.inr hfr.out⟩,hS2.out.trans (FStep.turned ht'.out)⟩
end
section
open Go.RowKit
theorem Z5I (n:Nod) (w:World) (hn:NodOk n):Calls Tryz.prog 38 #[.agg n.cells] w fun e w'=>e=.returned (.bool (ZF n))∧Below w.heap.size w w':=by
 have hb:=(Below.refl w.heap.size w).alloc (Nat.le_refl _) (.cells n.cells 89)
 have hdm:=Z3x n.mode hn.mode
 have hm:=hn.mode
 have hE:Hid (ZF n = !decide (n.mode &&& 2147483648=0)):=hid rfl
 rw[Z7]at hb ⊢
 replace hb:=hid hb
 replace hn:=hid hn
 replace hdm:=hid hdm
 go_enter Tryz.func38,Tryz.ntmps38
 go_wp2_with fail
 go_ret
 exact⟨ZR (by rw[hE.out,←hdm.out]),hb.out⟩
theorem Z1h (e:Nat) (w:World):Calls Tryz.prog 37 #[.bool false,.int .i64 (e:Int)] w fun x w'=>x=.returned (.tuple #[])∧w'=w:=by
 go_enter Tryz.func37,Tryz.ntmps37
 go_wp2_with fail
 go_end0
 exact⟨rfl,rfl⟩
theorem Z1g (e:Nat) (w:World):Calls Tryz.prog 37 #[.bool true,.int .i64 (e:Int)] w fun x w'=>x=.panicked (ZY e)∧w'=w:=by
 go_enter Tryz.func37,Tryz.ntmps37
 go_wp2_with fail
 exact⟨rfl,rfl,rfl⟩
theorem Z5J (e:Int) (w:World):(Instr.typeAssert (.iface 33 (.int .i64 e)) 20 33 true).run Tryz.prog w=.ok (.tuple #[.int .i64 e,.bool true]) w:=by kernel_rfl
def Z3G (w:World) (b k:Nat) (next:Nat) (v:Value) (e:Nat):World :=
 (((w.alloc (.cells #[.int .u64 (next:Int),v] 30)).setCell ⟨b,0,none⟩ (.int .u64 (next:Int))).setCell ⟨b,1,none⟩ v).setCell ⟨k,0,none⟩ (.int .i64 (e:Int))
theorem Z3Y (b k next e:Nat) (a:Option Addr) (l c:Nat) (x0 x1 x2 x3 x4 y:Value) (w:World) (hbk:b≠k) (hb:w.heap[b]?=some (.cells #[x0,x1,x2,x3,x4] 93 (0,0))) (hk:w.heap[k]?=some (.cells #[y] 33 (0,0))) :
  CallsD Tryz.prog 35 #[.pointer (some ⟨b,0,none⟩),.agg #[.int .u64 (next:Int),.slice a l c],.pointer (some ⟨k,0,none⟩)] (.panicking (ZY e)) w fun en u' w' =>
   en=.returned (.tuple #[])∧u'=.panicking (Z63 e)∧w'=Z3G w b k next (.slice a l c) e:=by
 have hta:=Z5J (e:Int)
 have hbl:=lt_of_block hb
 have hkl:=lt_of_block hk
 replace hbk:=hid hbk
 obtain⟨W,hW⟩ : ∃ W,W=w.alloc (.cells #[.int .u64 (next:Int),.slice a l c] 30):=⟨_,rfl⟩
 have hbW:W.heap[b]?=some (.cells #[x0,x1,x2,x3,x4] 93 (0,0)):=by rw[hW,heap_alloc_old _ _ hbl];exact hb
 have hkW:W.heap[k]?=some (.cells #[y] 33 (0,0)):=by rw[hW,heap_alloc_old _ _ hkl];exact hk
 have hnW:W.heap[w.heap.size]?=some (.cells #[.int .u64 (next:Int),.slice a l c] 30 (0,0)):=by rw[hW];exact heap_alloc_new _ _
 have c0:W.cell? ⟨w.heap.size,0,none⟩=some (.int .u64 (next:Int)):=Z0 hnW 0
 have c1:W.cell? ⟨w.heap.size,1,none⟩=some (.slice a l c):=Z0 hnW 1
 have d0:W.cell? ⟨b,0,none⟩=some x0:=Z0 hbW 0
 have f0:W.frozen? ⟨b,0,none⟩=false:=Zb hbW 0
 have hb1:(W.setCell ⟨b,0,none⟩ (.int .u64 (next:Int))).heap[b]?=some (.cells #[.int .u64 (next:Int),x1,x2,x3,x4] 93 (0,0)):=Zg hbW 0 _
 have d1:(W.setCell ⟨b,0,none⟩ (.int .u64 (next:Int))).cell? ⟨b,1,none⟩=some x1:=Z0 hb1 1
 have f1:(W.setCell ⟨b,0,none⟩ (.int .u64 (next:Int))).frozen? ⟨b,1,none⟩=false:=Zb hb1 1
 have hk2:((W.setCell ⟨b,0,none⟩ (.int .u64 (next:Int))).setCell ⟨b,1,none⟩ (.slice a l c)).heap[k]?=some (.cells #[y] 33 (0,0)):=(Z1 (show k≠b from Ne.symm hbk.out)).trans ((Z1 (show k≠b from Ne.symm hbk.out)).trans hkW)
 have d2:((W.setCell ⟨b,0,none⟩ (.int .u64 (next:Int))).setCell ⟨b,1,none⟩ (.slice a l c)).cell? ⟨k,0,none⟩=some y:=Z0 hk2 0
 have f2:((W.setCell ⟨b,0,none⟩ (.int .u64 (next:Int))).setCell ⟨b,1,none⟩ (.slice a l c)).frozen? ⟨k,0,none⟩=false:=Zb hk2 0
 clear hb hk hbW hkW hnW hb1 hk2
 have hE:Hid (Z3G w b k next (.slice a l c) e=((W.setCell ⟨b,0,none⟩ (.int .u64 (next:Int))).setCell ⟨b,1,none⟩ (.slice a l c)).setCell ⟨k,0,none⟩ (.int .i64 (e:Int))):=hid (by unfold Z3G;rw[hW])
 refine callsD_of_wpS Tryz.func35 rfl fun c₀ cs hu=>?_
 apply wpS_seq
 apply wpS_region
 simp[wpOpsS,go_sem,Tryz.ntmps35,Exit.thenS,Array.replicate_succ]
 rw[←hW]
 replace hW:=hid hW
 apply wpS_seq
 apply wpS_region
 simp[wpOpsS,go_sem,recoverD,hu,ZY,Exit.thenS]
 apply Z3v
 go_wp2_with (rw[←hW];replace hW:=hid hW)
 go_end0
 exact⟨rfl,rfl,hE.out.symm⟩
theorem Z6k (b k next:Nat) (a:Option Addr) (l c:Nat) (w:World) :
  CallsD Tryz.prog 35 #[.pointer (some ⟨b,0,none⟩),.agg #[.int .u64 (next:Int),.slice a l c],.pointer (some ⟨k,0,none⟩)] .returning w fun en u' w' =>
   en=.returned (.tuple #[])∧u'=.returning∧w'=w.alloc (.cells #[.int .u64 (next:Int),.slice a l c] 30):=by
 refine callsD_of_wpS Tryz.func35 rfl fun c₀ cs hu=>?_
 apply wpS_seq
 apply wpS_region
 simp[wpOpsS,go_sem,Tryz.ntmps35,Exit.thenS,Array.replicate_succ]
 apply wpS_seq
 apply wpS_region
 simp[wpOpsS,go_sem,recoverD,hu,Exit.thenS]
 rw[show c₀={c₀ with mode:=.returning} from by cases c₀;simp_all]
 apply Z3v
 go_wp2
 go_end0
 exact⟨rfl,rfl⟩
end
section
open Go.RowKit Go.Maps
theorem Z4O (b m p n:Nat) (v:Value) (f:FsV) (u:Usr) (q:Nat) (x:Nod) (w:World) (h:FSo w b m v p f u n) (ht:TrOk f.t.n) (hg:ZM f.t.n q=some x) :
  Calls Tryz.prog 56 #[.pointer (some ⟨b,0,none⟩),.int .u64 (q:Int)] w fun e w'=>e=.returned (.agg x.cells)∧Below w.heap.size w w':=by
 obtain⟨a,c,rfl,g1,g2⟩:=h.row.form
 obtain⟨W,hW⟩ : ∃ W,W=w.alloc (.cells Zk.cells 89):=⟨_,rfl⟩
 have hb0:Below w.heap.size w W:=by rw[hW];exact(Below.refl _ _).alloc (Nat.le_refl _) _
 have hR:=hid (show W.heap[w.heap.size]?=some (.cells Zk.cells 89 (0,0)) by rw[hW];exact heap_alloc_new _ _)
 have hF:=h.below hb0
 have hga:=Z22 _ f.t.next f.t.n q W hF.row ht.sort (by have:=ht.few;omega)
 have hx:Z1M f.t.n q=x:=by unfold Z1M;rw[hg];rfl
 unfold Z3n at hga
 rw[hx,hg]at hga
 replace hga:=hid hga
 have e0:=Z0 hF.blk 0
 have e1:=Z0 hF.blk 1
 replace hb0:=hid hb0
 rw[Zc]at hW
 clear h hF hg hx ht
 go_enter Tryz.func56,Tryz.ntmps56
 go_wp2_with (rw[←hW];replace hW:=hid hW)
 try (rw[←hW];replace hW:=hid hW)
 refine hga.out.mono ?_
 rintro e w1 ⟨rfl,hb1⟩
 have hB1:=hid (sn hb0.out hb1)
 have hR1:=hid ((hb1.block _ (lt_of_block hR.out)).trans hR.out)
 have hnew:=hid (heap_alloc_new w1 (.cells Zk.cells 89))
 obtain⟨X,hX⟩ : ∃ W,W=Z1J w1 x:=⟨_,rfl⟩
 have hbX:Below w1.heap.size w1 X:=by rw[hX];exact ZD _ _
 have hBX:=hid (sn hB1.out hbX)
 have hRX:=hid ((hbX.block _ (lt_of_block hR1.out)).trans hR1.out)
 have hnX:=hid (show X.heap[w1.heap.size]?=some (.cells x.cells 89 (0,0)) by rw[hX];exact ZK _ _)
 unfold Z1J at hX
 rw[Zc]at hX hnew
 have hmu:Hid (Calls Tryz.prog 37 #[.bool false,.int .i64 6] X fun x w'=>x=.returned (.tuple #[])∧w'=X):=hid (Z1h 6 X)
 clear hb1 hbX hga e0 e1
 go_wp2_with (first
  |(rw[←hX];replace hX:=hid hX)
  |(refine wpList_store_row (by rfl) 89 (.tmp 5) (.tmp 14) (by rfl) w1.heap.size x.cells (by rfl) (by rfl) 89 _ hnew.out (by kernel_rfl) (by kernel_rfl) (Zw x) ?_))
 try (rw[←hX];replace hX:=hid hX)
 refine hmu.out.mono ?_
 rintro e w2 ⟨rfl,rfl⟩
 clear hnew hmu
 go_wp2_with (first
  |(refine wpList_load_row (by rfl) 89 (.tmp 5) (by rfl) w1.heap.size (by rfl) 89 x.cells (0,0) _ hnX.out Tryz.underlying89 (by rfl) (by kernel_rfl) ?_)
  |(refine wpList_store_row (by rfl) 89 (.tmp 4) (.tmp 19) (by rfl) w.heap.size x.cells (by rfl) (by rfl) 89 _ hRX.out (by kernel_rfl) (by kernel_rfl) (Zw x) ?_))
 refine bodyPost_ret (results_cell_row rfl _ _ w.heap.size _ _ _ _ rfl (setRow_heap _ _ _ x.cells _ _ hRX.out) Tryz.underlying89 rfl (by kernel_rfl)) rfl ?_
 exact⟨rfl,below_setRow hBX.out (Nat.le_refl _) _⟩
theorem Z5K (b m p n:Nat) (v:Value) (f:FsV) (u:Usr) (q:Nat) (w:World) (h:FSo w b m v p f u n) (ht:TrOk f.t.n) (hg:ZM f.t.n q=none) :
  Calls Tryz.prog 56 #[.pointer (some ⟨b,0,none⟩),.int .u64 (q:Int)] w fun e w'=>e=.panicked (ZY 6)∧Below w.heap.size w w':=by
 obtain⟨a,c,rfl,g1,g2⟩:=h.row.form
 obtain⟨W,hW⟩ : ∃ W,W=w.alloc (.cells Zk.cells 89):=⟨_,rfl⟩
 have hb0:Below w.heap.size w W:=by rw[hW];exact(Below.refl _ _).alloc (Nat.le_refl _) _
 have hF:=h.below hb0
 have hga:=Z22 _ f.t.next f.t.n q W hF.row ht.sort (by have:=ht.few;omega)
 have hx:Z1M f.t.n q=Zk:=by unfold Z1M;rw[hg];rfl
 unfold Z3n at hga
 obtain⟨z,hz⟩ : ∃ n,n=Zk:=⟨_,rfl⟩
 rw[hx,hg,←hz]at hga
 replace hz:=hid hz
 replace hga:=hid hga
 have e0:=Z0 hF.blk 0
 have e1:=Z0 hF.blk 1
 replace hb0:=hid hb0
 rw[Zc]at hW
 clear h hF hg hx ht
 go_enter Tryz.func56,Tryz.ntmps56
 go_wp2_with (rw[←hW];replace hW:=hid hW)
 try (rw[←hW];replace hW:=hid hW)
 refine hga.out.mono ?_
 rintro e w1 ⟨rfl,hb1⟩
 have hB1:=hid (sn hb0.out hb1)
 have hnew:=hid (heap_alloc_new w1 (.cells Zk.cells 89))
 obtain⟨X,hX⟩ : ∃ W,W=Z1J w1 z:=⟨_,rfl⟩
 have hbX:Below w1.heap.size w1 X:=by rw[hX];exact ZD _ _
 have hBX:=hid (sn hB1.out hbX)
 unfold Z1J at hX
 rw[Zc]at hX hnew
 have hmu:Hid (Calls Tryz.prog 37 #[.bool true,.int .i64 6] X fun x w'=>x=.panicked (ZY 6)∧w'=X):=hid (Z1g 6 X)
 clear hb1 hbX hga e0 e1
 go_wp2_with (first
  |(rw[←hX];replace hX:=hid hX)
  |(refine wpList_store_row (by rfl) 89 (.tmp 5) (.tmp 14) (by rfl) w1.heap.size z.cells (by rfl) (by rfl) 89 _ hnew.out (by kernel_rfl) (by kernel_rfl) (Zw z) ?_))
 try (rw[←hX];replace hX:=hid hX)
 refine hmu.out.mono ?_
 rintro e w2 ⟨rfl,rfl⟩
 go_wp2_with fail
 exact⟨rfl,rfl,hBX.out⟩
end
section
open Go.RowKit Go.Maps
def Zed (b m p n:Nat) (v:Value) (r:FsV×Bool) (u:Usr) (w:World) (e:Ending) (w':World):Prop:=e=.returned (.bool r.2)∧FSo w' b m v p r.1 u n∧FStep b m w w'
set_option maxHeartbeats 1600000 in
theorem Z9d (b m p n:Nat) (v:Value) (f:FsV) (u:Usr) (q:Nat) (w:World) (h:FSo w b m v p f u n) (ht:TrOk f.t.n) (hq:q<18446744073709551616) (hn:n<1000000) :
  Calls Tryz.prog 11 #[.pointer (some ⟨b,0,none⟩),.int .u64 (q:Int)] w (Zed b m p (n+1) v (Z6M f q) u w):=by
 obtain⟨a,c,rfl,g1,g2⟩:=h.row.form
 have hle:=h.map.le q
 have hga:=Z22 _ f.t.next f.t.n q w h.row ht.sort (by have:=ht.few;omega)
 unfold Z3n at hga
 replace hga:=hid hga
 have e0:=Z0 h.blk 0
 have e1:=Z0 h.blk 1
 have hE:Hid (Z6M f q=if (ZM f.t.n q).isSome then(⟨f.t,f.now,upd f.by_ q ((f.by_ q).1+1,(f.by_ q).2)⟩,true) else(f,false)):=hid rfl
 replace h:=hid h
 clear ht
 go_enter Tryz.func11,Tryz.ntmps11
 go_wp2_with fail
 refine hga.out.mono ?_
 rintro e w1 ⟨rfl,hb1⟩
 obtain⟨x,hx⟩ : ∃ x,x=Z1M f.t.n q:=⟨_,rfl⟩
 rw[←hx]
 have hnew:=hid (heap_alloc_new w1 (.cells Zk.cells 89))
 obtain⟨X,hX⟩ : ∃ W,W=Z1J w1 x:=⟨_,rfl⟩
 have hbX:Below w1.heap.size w1 X:=by rw[hX];exact ZD _ _
 have hB:=sn hb1 hbX
 have hFX:=hid (h.out.below hB)
 have hS:=hid (FStep.pure (b:=b) (m:=m) hB)
 have q4:X.cell? ⟨b,4,none⟩=some (.map (some m)):=Z0 hFX.out.blk 4
 unfold Z1J at hX
 rw[Zc]at hX hnew
 clear hb1 hbX hB hga e0 e1 h
 replace hx:=hid hx
 cases hs:(ZM f.t.n q).isSome with
 | false =>
  rw[hs]at hE
  clear hs
  go_wp2_with (first
   |(rw[←hX];replace hX:=hid hX)
   |(refine wpList_store_row (by rfl) 89 (.tmp 5) (.tmp 15) (by rfl) w1.heap.size x.cells (by rfl) (by rfl) 89 _ hnew.out (by kernel_rfl) (by kernel_rfl) (Zw x) ?_))
  try (rw[←hX];replace hX:=hid hX)
  go_ret
  rw[hE.out]
  exact⟨rfl,hFX.out.mono (by omega),hS.out⟩
 | true =>
  rw[hs]at hE
  clear hs
  have hlk:=hFX.out.map.look q hq
  obtain⟨i,hi⟩ : ∃ i,i=(f.by_ q).1:=⟨_,rfl⟩
  obtain⟨j,hj⟩ : ∃ j,j=(f.by_ q).2:=⟨_,rfl⟩
  obtain⟨i1,hi1⟩ : ∃ i1,i1=i+1:=⟨_,rfl⟩
  rw[←hi,←hj]at hle hE hlk
  rw[←hi1]at hE
  have hj2:i1≤n+1∧j≤n+1:=by omega
  have hadd:IntKind.i64.wrap ((i:Int)+1)=(i1:Int):=by rw[show(i1:Int)=(i:Int)+1 by omega];exact IntWalk.i64_in _ (by omega)
  obtain⟨Y,hY⟩ : ∃ Y,Y=Zar X i j:=⟨_,rfl⟩
  have hYn:Y.heap[X.heap.size]?=some (.cells #[.int .i64 (i:Int),.int .i64 (j:Int)] 107 (0,0)):=by rw[hY];exact Z3F _ _ _
  have hYb:Below X.heap.size X Y:=by rw[hY];exact Z3d _ _ _
  obtain⟨Z,hZ⟩ : ∃ Z,Z=Y.setCell ⟨X.heap.size,0,none⟩ (.int .i64 (i1:Int)):=⟨_,rfl⟩
  have hZn:Z.heap[X.heap.size]?=some (.cells #[.int .i64 (i1:Int),.int .i64 (j:Int)] 107 (0,0)):=by rw[hZ];exact Zg hYn 0 _
  have hZb:Below X.heap.size X Z:=by rw[hZ];exact hYb.setCell (Nat.le_refl _) _
  have hFZ:=hid (hFX.out.below hZb)
  have hSZ:=hid (hS.out.trans (FStep.pure (b:=b) (m:=m) hZb))
  have hnew2:=hid (heap_alloc_new X (.cells #[.int .i64 0,.int .i64 0] 107))
  have y1:Y.cell? ⟨X.heap.size,0,none⟩=some (.int .i64 (i:Int)):=Z0 hYn 0
  have z1:Y.frozen? ⟨X.heap.size,0,none⟩=false:=Zb hYn 0
  have x0:Z.cell? ⟨X.heap.size,0,none⟩=some (.int .i64 (i1:Int)):=Z0 hZn 0
  have x1:Z.cell? ⟨X.heap.size,1,none⟩=some (.int .i64 (j:Int)):=Z0 hZn 1
  have x4:Z.cell? ⟨b,4,none⟩=some (.map (some m)):=Z0 hFZ.out.blk 4
  unfold Zar at hY
  clear hYn hYb hZn hZb hle
  replace hi:=hid hi
  replace hj:=hid hj
  replace hi1:=hid hi1
  replace hj2:=hid hj2
  go_wp2_with (first
   |(rw[←hX];replace hX:=hid hX)
   |(rw[←hZ];replace hZ:=hid hZ)
   |(rw[←hY];replace hY:=hid hY)
   |(refine wpList_store_row (by rfl) 89 (.tmp 5) (.tmp 15) (by rfl) w1.heap.size x.cells (by rfl) (by rfl) 89 _ hnew.out (by kernel_rfl) (by kernel_rfl) (Zw x) ?_)
   |(refine wpList_store_row (by rfl) 107 (.tmp 7) (.tmp 24) (by rfl) X.heap.size #[.int .i64 (i:Int),.int .i64 (j:Int)] (by rfl) (by rfl) 107 _ hnew2.out (by kernel_rfl) (by kernel_rfl) (by kernel_rfl) ?_))
  obtain⟨w',hrun,hm',ht'⟩:=(show MapAt Z.drew m n f.by_ from hFZ.out.map.kept rfl).put q hq hn (i1,j) hj2.out
  simp only at hrun
  replace hm':=hid hm'
  replace ht':=hid ht'
  go_region
  all_goals
   go_wp2_with fail
   go_ret
   rw[hE.out]
   refine⟨rfl,?_,?_⟩
   ·exact(hFZ.out.below ((Below.refl _ _).drew)).turn ht'.out hm'.out
   ·exact hSZ.out.trans ((FStep.pure (Below.refl _ _).drew).trans (FStep.turned ht'.out))
set_option maxHeartbeats 1600000 in
theorem Zb0 (b m p n:Nat) (v:Value) (f:FsV) (u:Usr) (q:Nat) (w:World) (h:FSo w b m v p f u n) (ht:TrOk f.t.n) (hq:q<18446744073709551616) (hn:n<1000000) :
  Calls Tryz.prog 16 #[.pointer (some ⟨b,0,none⟩),.int .u64 (q:Int)] w (ZdE b m p (n+1) v (Zds f q) u w):=by
 have hle:=h.map.le q
 have e4:=Z0 h.blk 4
 obtain⟨ok,hlk,hno⟩:=h.map.look_ok q hq
 have hE:Hid (Zds f q=Z2c ⟨f.t,f.now,upd f.by_ q ((f.by_ q).1 - 1,(f.by_ q).2)⟩ q):=hid rfl
 obtain⟨i,hi⟩ : ∃ i,i=(f.by_ q).1:=⟨_,rfl⟩
 obtain⟨j,hj⟩ : ∃ j,j=(f.by_ q).2:=⟨_,rfl⟩
 rw[←hi,←hj]at hle hE hlk
 obtain⟨X,hX⟩ : ∃ X,X=Zar w i j:=⟨_,rfl⟩
 have hXn:X.heap[w.heap.size]?=some (.cells #[.int .i64 (i:Int),.int .i64 (j:Int)] 107 (0,0)):=by rw[hX];exact Z3F _ _ _
 have hXb:Below w.heap.size w X:=by rw[hX];exact Z3d _ _ _
 have hFX:=hid (h.below hXb)
 have hS:=hid (FStep.pure (b:=b) (m:=m) hXb)
 have hnew:=hid (heap_alloc_new w (.cells #[.int .i64 0,.int .i64 0] 107))
 unfold Zar at hX
 replace h:=hid h
 replace hXb:=hid hXb
 cases ok with
 | false =>
  have hsame:Hid (Zds f q=Z2c f q):=hid (by
   have h0:=hno rfl
   rw[h0]at hi hj
   simp only at hi hj
   rw[hE.out,hi,hj]
   rw[show upd f.by_ q (0 - 1,0)=f.by_ from by rw[show((0 - 1,0):Nat×Nat)=f.by_ q from h0.symm];exact Z7f _ _])
  have hre:=hid (Z2t b m p n _ f u q X hFX.out ht hq)
  clear hno hXn
  replace hi:=hid hi
  replace hj:=hid hj
  go_enter Tryz.func16,Tryz.ntmps16
  go_wp2_with (first
   |(rw[←hX];replace hX:=hid hX)
   |(refine wpList_store_row (by rfl) 107 (.tmp 4) (.tmp 13) (by rfl) w.heap.size #[.int .i64 (i:Int),.int .i64 (j:Int)] (by rfl) (by rfl) 107 _ hnew.out (by kernel_rfl) (by kernel_rfl) (by kernel_rfl) ?_))
  refine hre.out.mono ?_
  rintro e w2 ⟨rfl,⟨v2,hF2,ho2⟩,hs2⟩
  replace hF2:=hid hF2
  replace hs2:=hid hs2
  go_wp2_with fail
  go_end0
  rw[hsame.out]
  exact⟨rfl,⟨v2,hF2.out.mono (by omega),ho2.imp id (fun h k hk=>Nat.le_trans hS.out.size (h k hk))⟩,hS.out.trans hs2.out⟩
 | true =>
  obtain⟨i1,hi1⟩ : ∃ i1,i1=i - 1:=⟨_,rfl⟩
  rw[←hi1]at hE
  have hj2:i1≤n+1∧j≤n+1:=by omega
  have hsub:IntKind.i64.wrap ((i:Int) - 1)=(i:Int) - 1:=IntWalk.i64_in _ (by omega)
  have hmax:max ((i:Int) - 1) 0=(i1:Int):=by omega
  obtain⟨Z,hZ⟩ : ∃ Z,Z=X.setCell ⟨w.heap.size,0,none⟩ (.int .i64 (i1:Int)):=⟨_,rfl⟩
  have hZn:Z.heap[w.heap.size]?=some (.cells #[.int .i64 (i1:Int),.int .i64 (j:Int)] 107 (0,0)):=by rw[hZ];exact Zg hXn 0 _
  have hZb:Below w.heap.size w Z:=by rw[hZ];exact hXb.out.setCell (Nat.le_refl _) _
  have hFZ:=hid (h.out.below hZb)
  have hSZ:=hid (FStep.pure (b:=b) (m:=m) hZb)
  have y1:X.cell? ⟨w.heap.size,0,none⟩=some (.int .i64 (i:Int)):=Z0 hXn 0
  have z1:X.frozen? ⟨w.heap.size,0,none⟩=false:=Zb hXn 0
  have x0:Z.cell? ⟨w.heap.size,0,none⟩=some (.int .i64 (i1:Int)):=Z0 hZn 0
  have x1:Z.cell? ⟨w.heap.size,1,none⟩=some (.int .i64 (j:Int)):=Z0 hZn 1
  have x4:Z.cell? ⟨b,4,none⟩=some (.map (some m)):=Z0 hFZ.out.blk 4
  obtain⟨w',hrun,hm',ht'⟩:=(show MapAt Z.drew m n f.by_ from hFZ.out.map.kept rfl).put q hq hn (i1,j) hj2
  simp only at hrun
  have hF3:=(hFZ.out.below ((Below.refl _ _).drew)).turn ht' hm'
  have hS3:=hid (hSZ.out.trans ((FStep.pure (Below.refl _ _).drew).trans (FStep.turned ht')))
  have hre:=hid (Z2t b m p (n+1) _ _ u q w' hF3 ht hq)
  clear hXn hZn hle hZb hm' ht' hF3 hno
  replace hi:=hid hi
  replace hj:=hid hj
  replace hi1:=hid hi1
  replace hj2:=hid hj2
  go_enter Tryz.func16,Tryz.ntmps16
  go_wp2_with (first
   |(rw[←hX];replace hX:=hid hX)
   |(rw[←hZ];replace hZ:=hid hZ)
   |(refine wpList_store_row (by rfl) 107 (.tmp 4) (.tmp 13) (by rfl) w.heap.size #[.int .i64 (i:Int),.int .i64 (j:Int)] (by rfl) (by rfl) 107 _ hnew.out (by kernel_rfl) (by kernel_rfl) (by kernel_rfl) ?_))
  go_region
  all_goals
   go_wp2_with fail
   refine hre.out.mono ?_
   rintro e w2 ⟨rfl,⟨v2,hF2,ho2⟩,hs2⟩
   replace hF2:=hid hF2
   replace hs2:=hid hs2
   go_wp2_with fail
   go_end0
   rw[hE.out]
   exact⟨rfl,⟨v2,hF2.out,ho2.imp id (fun h k hk=>Nat.le_trans hS3.out.size (h k hk))⟩,hS3.out.trans hs2.out⟩
end
section
open Go.RowKit
def Z1i:Code→List (Array Oper)
 | .seq c d=>Z1i c++Z1i d
 | .region _ o _=>[o]
 | .block _ c=>Z1i c
 | .scope c=>Z1i c
 | .loop c=>Z1i c
 | .cond _ c d=>Z1i c++Z1i d
 | _=>[]
def ptr (k i:Nat):Value:=.pointer (some ⟨k,i,none⟩)
theorem Z4P (a:Act) (d:Nat) (v:Value):(a.put (some d) v).tmps=a.tmps.setIfInBounds d v:=rfl
theorem ZcG (a:Act) (d:Option Nat) (v:Value):(a.put d v).defers=a.defers:=by cases d <;> rfl
theorem ZcH {a:Act} {d k:Nat} {v u:Value} (h:a.tmps[k]?=some u) (hd:d≠k):(a.put (some d) v).tmps[k]?=some u:=by
 rw[Z4P,Array.getElem?_setIfInBounds_ne hd];exact h
theorem Z9e {a:Act} {d:Nat} {v:Value} (h:d<a.tmps.size):(a.put (some d) v).tmps[d]?=some v:=by
 rw[Z4P,Array.getElem?_setIfInBounds_self_of_lt h]
theorem Z9f (a:Act) (d:Nat) (v:Value):(a.put (some d) v).tmps.size=a.tmps.size:=by rw[Z4P];simp
theorem Z9g {a:Act} {k:Nat} {v:Value} (h:a.tmps[k]?=some v):a.eval (.tmp k)=v:=by
 show a.tmps.getD k undef=v
 rw[Array.getD_eq_getD_getElem?,h];rfl
structure FrL (N:Nat) (fx:List (Nat×Value)) (a:Act):Prop where
 size:a.tmps.size=N
 df:a.defers=[]
 get : ∀ k v,fx.lookup k=some v→a.tmps[k]?=some v
theorem FrL.ev {N:Nat} {fx:List (Nat×Value)} {a:Act} (h:FrL N fx a) (k:Nat) (v:Value) (hk:fx.lookup k=some v):a.eval (.tmp k)=v:=Z9g (h.get k v hk)
theorem FrL.put {N:Nat} {fx:List (Nat×Value)} {a:Act} (h:FrL N fx a) (d:Nat) (v:Value) (hd:d<N):FrL N ((d,v) :: fx) (a.put (some d) v):=by
 refine⟨by rw[Z9f];exact h.size,by rw[ZcG];exact h.df,fun k u hk=>?_⟩
 rw[List.lookup_cons]at hk
 by_cases e:k=d
 ·subst e
  simp only[beq_self_eq_true,Option.some.injEq]at hk
  subst hk
  exact Z9e (by rw[h.size];exact hd)
 ·have e':(k == d)=false:=by simpa using e
  rw[e']at hk
  exact ZcH (h.get k u hk) (fun h=>e h.symm)
def ZdH (fx:List (Nat×Value)):List (Nat×Value)→Prop
 | []=>True
 | p :: t=>fx.lookup p.1=some p.2∧ZdH fx t
theorem ZdH.at {fx:List (Nat×Value)} {k:Nat} {v:Value} : ∀ {fy:List (Nat×Value)},ZdH fx fy→fy.lookup k=some v→fx.lookup k=some v
 | [],_,h=>by cases h
 | p :: t,h,hk=>by
  rw[List.lookup_cons]at hk
  by_cases e:k=p.1
  ·have e':(k == p.1)=true:=by simpa using e
   rw[e']at hk
   simp only[Option.some.injEq]at hk
   rw[←hk,e];exact h.1
  ·have e':(k == p.1)=false:=by simpa using e
   rw[e']at hk
   exact ZdH.at h.2 hk
theorem FrL.sub {N:Nat} {fx:List (Nat×Value)} {a:Act} (h:FrL N fx a) (fy:List (Nat×Value)) (hs:ZdH fx fy):FrL N fy a:=⟨h.size,h.df,fun k v hk=>h.get k v (hs.at hk)⟩
def Z9h (a:Act):List (Nat×Value)→Prop
 | []=>True
 | p :: t=>a.tmps[p.1]?=some p.2∧Z9h a t
theorem Z9h.at {a:Act} {k:Nat} {v:Value} : ∀ {fx:List (Nat×Value)},Z9h a fx→fx.lookup k=some v→a.tmps[k]?=some v
 | [],_,h=>by cases h
 | p :: t,h,hk=>by
  rw[List.lookup_cons]at hk
  by_cases e:k=p.1
  ·have e':(k == p.1)=true:=by simpa using e
   rw[e']at hk
   simp only[Option.some.injEq]at hk
   rw[←hk,e];exact h.1
  ·have e':(k == p.1)=false:=by simpa using e
   rw[e']at hk
   exact Z9h.at h.2 hk
theorem FrL.of_all {N:Nat} {fx:List (Nat×Value)} {a:Act} (hs:a.tmps.size=N) (hd:a.defers=[]) (h:Z9h a fx):FrL N fx a:=⟨hs,hd,fun k v hk=>h.at hk⟩
def Z7W (a:Act):Nat→List Value→Prop
 | _,[]=>True
 | k,v :: t=>a.tmps[k]?=some v∧Z7W a (k+1) t
theorem Z7W.at {a:Act} : ∀ {l:List Value} {k i:Nat} {v:Value},Z7W a k l→l[i]?=some v→a.tmps[k+i]?=some v
 | [],_,_,_,_,h=>by simp at h
 | u :: t,k,0,v,h,hv=>by simp at hv;subst hv;exact h.1
 | u :: t,k,i+1,v,h,hv=>by
  have:=Z7W.at (i:=i) h.2 (by simpa using hv)
  rw[show k+(i+1)=k+1+i by omega];exact this
theorem Z1n {N:Nat} {fx:List (Nat×Value)} {a:Act} (h:FrL N fx a) (l:List Value) (hl:l.length=N) (hat:Z7W a 0 l):a=⟨l.toArray,[]⟩:=by
 obtain⟨t,d⟩:=a
 have hd:d=[]:=h.df
 subst hd
 congr 1
 refine Array.ext (by have e:t.size=N:=h.size;simp[hl,e]) (fun i h1 h2=>?_)
 have:=Z7W.at (i:=i) hat (List.getElem?_eq_getElem (by simpa using h2))
 rw[Nat.zero_add]at this
 have h3:=Array.getElem?_eq_getElem (xs:=t) h1
 rw[h3]at this
 simpa using this
theorem FrL.any {N:Nat} {fx:List (Nat×Value)} {a:Act} (h:FrL N fx a) (k:Nat) (hk:k<N):a.tmps[k]?=some (a.tmps.getD k undef):=by
 have h1:k<a.tmps.size:=by rw[h.size];exact hk
 rw[Array.getD_eq_getD_getElem?,Array.getElem?_eq_getElem h1];rfl
section
variable {P:Program} {ops:Array Oper} {Q:Exit→Act→World→Prop} {o:Oper} {rest:List Oper} {a:Act} {w:World} {N:Nat} {fx:List (Nat×Value)}
theorem Zh {gi g:Nat} {c p:Bool} (hF:FrL N fx a) (hg:o.guard=some (gi,p)) (hgd:(ops[gi]?).bind (·.dst)=some g) (hl:fx.lookup g=some (.bool c)):Region.wanted o (yielded ops a.tmps)=(c == p):=by
 have h3:=hF.get g _ hl
 unfold Region.wanted yielded
 rw[hg]
 simp only[hgd,Option.bind_some,h3]
 cases c <;> cases p <;> rfl
theorem Z32 {gi g:Nat} {c b p:Bool} (hF:FrL N fx a) (hg:o.guard=some (gi,p)) (hgd:(ops[gi]?).bind (·.dst)=some g) (hl:fx.lookup g=some (cond c (.bool b) undef)):Region.wanted o (yielded ops a.tmps)=(c && (b == p)):=by
 have h3:=hF.get g _ hl
 unfold Region.wanted yielded
 rw[hg]
 simp only[hgd,Option.bind_some,h3]
 cases c <;> cases b <;> cases p <;> rfl
theorem Z2 (hg:o.guard=none):Region.wanted o (yielded ops a.tmps)=true:=by
 unfold Region.wanted
 rw[hg]
theorem st (hF:FrL N fx a) (d:Nat) (v:Value) (hd:o.dst=some d) (hN:d<N) (hg:o.guard=none) (hr:(execOp a.eval o).run P w=.ok (.value v) w) (hk : ∀ b,FrL N ((d,v) :: fx) b→wpList P ops Q rest b w):wpList P ops Q (o :: rest) a w:=by
 unfold wpList
 rw[if_pos (Z2 hg)]
 refine .inl ?_
 unfold Oper.wp
 rw[hr]
 show wpList P ops Q rest (a.put o.dst v) w
 rw[hd]
 exact hk _ (hF.put d v hN)
theorem Z18 (hF:FrL N fx a) (d:Nat) (W:Bool) (v:Value) (hd:o.dst=some d) (hN:d<N) (hw:Region.wanted o (yielded ops a.tmps)=W) (hr:W=true→(execOp a.eval o).run P w=.ok (.value v) w)
  (hk : ∀ b,FrL N ((d,cond W v undef) :: fx) b→wpList P ops Q rest b w):wpList P ops Q (o :: rest) a w:=by
 unfold wpList
 cases W with
 | true =>
  rw[if_pos hw]
  refine .inl ?_
  unfold Oper.wp
  rw[hr rfl]
  show wpList P ops Q rest (a.put o.dst v) w
  rw[hd]
  exact hk _ (hF.put d v hN)
 | false =>
  rw[if_neg (by rw[hw];simp)]
  rw[hd]
  exact hk _ (hF.put d undef hN)
theorem Zl {α:Type} {W:Bool} {v u:α} (hW:W=true):cond W v u=v:=by rw[hW];rfl
end
section
variable {o:Oper} {ev:Operand→Value} {w:World} {x y z:Operand}
theorem Ze {ty:TypeId} {k i:Nat} {v:Value} (ho:o.op=.load ty x) (hx:ev x=ptr k i) (hl:(loadVar ty ⟨k,i,none⟩).run Tryz.prog w=.ok v w):(execOp ev o).run Tryz.prog w=.ok (.value v) w:=by
 have hx':ev x=.pointer (some ⟨k,i,none⟩):=hx
 simp only[execOp,ho,hx',Instr.loadAt,Instr.sureAddr,Sem.run_bind,Sem.run_pure,Result.andThen_ok,hl]
theorem Zo {T k f i j:Nat} (ho:o.op=.fieldAddr T x f) (hx:ev x=ptr k j) (hf:(Instr.fieldAt T (ptr k j) f).run Tryz.prog w=.ok (ptr k i) w):(execOp ev o).run Tryz.prog w=.ok (.value (ptr k i)) w:=by
 simp only[execOp,ho,hx,Sem.run_bind,hf,Result.andThen_ok,Sem.run_pure]
theorem Z5 {v:Value} (ho:o.op=.move x∨o.op=.assign x) (hx:ev x=v):(execOp ev o).run Tryz.prog w=.ok (.value v) w:=by
 rcases ho with ho | ho <;> simp[execOp,ho,hx,go_sem]
theorem Z2y {c b:Bool} (ho:o.op=.pick x y z) (hx:ev x=.bool c) (hy:ev y=cond (c == true) (.bool b) undef) (hz:ev z=.bool false):(execOp ev o).run Tryz.prog w=.ok (.value (.bool (c && b))) w:=by
 cases c with
 | true=>simp[execOp,ho,hx,hy,go_sem]
 | false=>simp[execOp,ho,hx,hz,go_sem]
theorem Z1j {b b':Bool} (ho:o.op=.pick x y z) (hx:ev x=.bool b) (hy:ev y=.bool true) (hz:ev z=cond (b == false) (.bool b') undef):(execOp ev o).run Tryz.prog w=.ok (.value (.bool (b || b'))) w:=by
 cases b with
 | true=>simp[execOp,ho,hx,hy,go_sem]
 | false=>simp[execOp,ho,hx,hz,go_sem]
end
theorem Z5L (s t:ByteArray):(s.toList == t.toList)=decide (s=t):=by
 by_cases h:s=t
 ·subst h;simp
 ·have h2:s.toList≠t.toList:=fun e=>h (by rw[ByteArray.toList_eq s,ByteArray.toList_eq t]at e;obtain⟨⟨s⟩⟩:=s;obtain⟨⟨t⟩⟩:=t;simpa using e)
  simp[h,h2]
theorem Zb1 (s t:ByteArray) (W:World):(binOp .eql 9 (.string s) (.string t)).run Tryz.prog W=.ok (.bool (decide (s=t))) W:=by
 by_cases h:s=t
 ·subst h;simp[go_sem]
 ·have hq:(s.toList == t.toList)=false:=by rw[Z5L];exact decide_eq_false h
  simp[go_sem,hq,h]
theorem Zb2 (s t:Nat) (W:World):(binOp .eql 27 (.int .u64 (s:Int)) (.int .u64 (t:Int))).run Tryz.prog W=.ok (.bool (decide (s=t))) W:=by
 by_cases h:s=t
 ·subst h;simp[go_sem]
 ·have h2:¬ ((s:Int)=(t:Int)):=by omega
  simp[go_sem,h,h2]
theorem Z3q {p:Addr} {v:Value} {w:World} (h:w.cell? p=some v):(loadVar 32 p).run Tryz.prog w=.ok v w:=by simp[go_sem,h]
theorem Z1A {p:Addr} {v:Value} {w:World} (h:w.cell? p=some v):(loadVar 27 p).run Tryz.prog w=.ok v w:=by simp[go_sem,h]
theorem Z1k {p:Addr} {v:Value} {w:World} (h:w.cell? p=some v):(loadVar 9 p).run Tryz.prog w=.ok v w:=by simp[go_sem,h]
end
section
open Go.RowKit
theorem Zb3 (n:Nod) (d:Nat) (w:World):Calls Tryz.prog 158 #[.agg n.cells,.int .u64 (d:Int)] w fun e w'=>e=.returned (.bool (Z1m d n))∧Below w.heap.size w w':=by
 have hb:=hid ((Below.refl w.heap.size w).alloc (Nat.le_refl _) (.cells n.cells 157))
 have hE:Hid (Z1m d n=(!n.gone && decide (n.path≠1) && decide (n.up=d))):=hid rfl
 have k1:((n.path:Int) != 1)=decide (n.path≠1):=by
  rw[Bool.eq_iff_iff];simp;omega
 have k2:((n.up:Int) ==(d:Int))=decide (n.up=d):=by
  rw[Bool.eq_iff_iff];simp;omega
 rw[Z7]at hb ⊢
 generalize decide (n.path≠1)=b1 at *
 generalize decide (n.up=d)=b2 at *
 generalize Z1m d n=r at *
 generalize n.gone=g at *
 cases g <;> cases b1 <;> cases b2 <;>
 ·go_enter Tryz.func158,Tryz.ntmps158
  go_wp2_with fail
  go_ret
  exact⟨ZR (by rw[hE.out];rfl),hb.out⟩
theorem Zb4 {l:List Nod} {k:Nat} (hk:k<l.length) (p:Nat):ZM (l.drop k) p=if l[k].path=p then some l[k] else ZM (l.drop (k+1)) p:=by
 unfold ZM
 rw[List.drop_eq_getElem_cons hk,List.find?_cons]
 by_cases h:l[k].path=p <;> simp[h]
set_option maxHeartbeats 3200000 in
theorem Z5M (v:Value) (x:Nat) (l:List Nod) (p:Nat) (w:World) (hv:Z3 w v l) (hl:l.length≤1000) :
  Calls Tryz.prog 112 #[.agg #[.int .u64 (x:Int),v],.int .u64 (p:Int)] w (Z3n w l p):=by
 obtain⟨a,c,rfl,g1,g2⟩:=hv.form
 unfold maxLen at g2
 obtain⟨W,hW⟩ : ∃ W,W=(w.alloc (.cells #[.int .u64 (x:Int),.slice a l.length c] 86)).alloc (.cells Zk.cells 157):=⟨_,rfl⟩
 have hb0:Below w.heap.size w W:=by rw[hW];exact((Below.refl w.heap.size w).alloc (Nat.le_refl _) _).alloc (by simp) _
 have hx0:W.heap[w.heap.size]?=some (.cells #[.int .u64 (x:Int),.slice a l.length c] 86 (0,0)):=by rw[hW,heap_alloc_old _ _ (by simp),heap_alloc_new]
 have hy0:W.heap[w.heap.size+1]?=some (.cells Zk.cells 157 (0,0)):=by rw[hW];exact Z27 _ _ _
 have e1:=Z0 hx0 1
 replace hv:=hid (hv.below hb0)
 replace hb0:=hid hb0
 replace hy0:=hid hy0
 clear hx0
 rw[Zc]at hW
 go_enter Tryz.func112,Tryz.ntmps112
 go_wp2_with (rw[←hW];replace hW:=hid hW)
 try (rw[←hW];replace hW:=hid hW)
 go_loopw [6] (fun kv wr=>wr=W∧∃ k:Nat,k≤l.length∧kv=.int .i64 (k:Int)∧Hid (ZM l p=ZM (l.drop k) p)) (fun kv _=>l.length - (intOf kv).toNat)
 case atStart=>exact⟨rfl,0,by omega,rfl,hid rfl⟩
 case round =>
  obtain⟨rfl,k,hk,rfl,hF⟩:=hrel
  by_cases hkl:k<l.length
  ·obtain⟨b,o,ha,hr⟩:=hv.out.range k hkl
   subst ha
   have hst:=hid (hF.out.trans (Zb4 hkl p))
   generalize l[k]=n at *
   have f0:wr.cell? ⟨b,o+k * 12,none⟩=some (.int .u64 (n.path:Int)):=by have:=hr 0 (.int .u64 (n.path:Int)) (by rw[Z7];rfl);rwa [Nat.add_zero]at this
   replace hr:=hid hr
   by_cases hnp:n.path=p
   ·have k1:((n.path:Int) ==(p:Int))=true:=by rw[hnp];simp
    have hF2:=hid (show ZM l p=some n by rw[hst.out,if_pos hnp])
    clear hnp hst hF
    go_wp2_with (first
     |(refine Zx (by rfl) 157 (.tmp 25) (by rfl) b (o+k * 12) (by rfl) n.cells _ hr.out Tryz.underlying157 (by rfl) (by kernel_rfl) ?_)
     |(refine wpList_store_row (by rfl) 157 (.tmp 4) (.tmp 26) (by rfl) (w.heap.size+1) n.cells (by rfl) (by rfl) 157 _ hy0.out (by kernel_rfl) (by kernel_rfl) (Zw n) ?_))
    refine bodyPost_ret (Zy rfl _ _ (w.heap.size+1) _ _ _ _ _ rfl rfl (setRow_heap _ _ _ n.cells _ _ hy0.out) Tryz.underlying157 rfl (by kernel_rfl)) rfl ?_
    refine⟨?_,below_setRow hb0.out (by omega) _⟩
    unfold Z1M
    rw[hF2.out];rfl
   ·have k1:((n.path:Int) ==(p:Int))=false:=by rw[beq_eq_false_iff_ne];omega
    have hF2:=hid (show ZM l p=ZM (l.drop (k+1)) p by rw[hst.out,if_neg hnp])
    clear hnp hst hF
    go_wp2_with fail
    go_roundw
    case rel=>exact⟨by first | rfl | trivial,k+1,by omega,by go_num,hF2⟩
    case measure=>simp[intOf];omega
  ·obtain rfl:k=l.length:=by omega
   have hF2:=hid (show ZM l p=none by rw[hF.out,List.drop_length];rfl)
   go_wp2_with (refine wpList_store_row (by rfl) 157 (.tmp 4) (.tmp 27) (by rfl) (w.heap.size+1) Zk.cells (by rfl) (by rfl) 157 _ hy0.out (by kernel_rfl) (by kernel_rfl) (by kernel_rfl) ?_)
   refine bodyPost_ret (Zy rfl _ _ (w.heap.size+1) _ _ _ _ _ rfl rfl (setRow_heap _ _ _ Zk.cells _ _ hy0.out) Tryz.underlying157 rfl (by kernel_rfl)) rfl ?_
   refine⟨?_,below_setRow hb0.out (by omega) _⟩
   unfold Z1M
   rw[hF2.out];rfl
set_option maxHeartbeats 3200000 in
theorem Z7X (v:Value) (x:Nat) (l:List Nod) (w:World) (hv:Z3 w v l) (hl:l.length≤1000) (hd : ∀ n∈l,n.data.size≤1000000) :
  Calls Tryz.prog 109 #[.agg #[.int .u64 (x:Int),v]] w fun e w'=>e=.returned (.int .i64 (Z10 l:Int))∧Below w.heap.size w w':=by
 obtain⟨a,c,rfl,g1,g2⟩:=hv.form
 unfold maxLen at g2
 obtain⟨W,hW⟩ : ∃ W,W=w.alloc (.cells #[.int .u64 (x:Int),.slice a l.length c] 86):=⟨_,rfl⟩
 have hb0:Below w.heap.size w W:=by rw[hW];exact(Below.refl w.heap.size w).alloc (Nat.le_refl _) _
 have hx0:W.heap[w.heap.size]?=some (.cells #[.int .u64 (x:Int),.slice a l.length c] 86 (0,0)):=by rw[hW,heap_alloc_new]
 have e1:=Z0 hx0 1
 replace hv:=hid (hv.below hb0)
 replace hb0:=hid hb0
 replace hd:=hid hd
 clear hx0
 go_enter Tryz.func109,Tryz.ntmps109
 go_wp2_with (rw[←hW];replace hW:=hid hW)
 go_loopw [3,4] (fun sv kv wr=>wr=W∧∃ k s:Nat,k≤l.length∧kv=.int .i64 (k:Int)∧sv=.int .i64 (s:Int)∧Hid (s=Z10 (l.take k))) (fun _ kv _=>l.length - (intOf kv).toNat)
 case atStart=>exact⟨rfl,0,0,by omega,rfl,rfl,hid rfl⟩
 case round =>
  obtain⟨rfl,k,s,hk,rfl,rfl,hs⟩:=hrel
  by_cases hkl:k<l.length
  ·obtain⟨b,o,ha,hr⟩:=hv.out.range k hkl
   subst ha
   have hst:=hid (Z4I hkl)
   have hle:=Z4J (l:=l.take (k+1)) fun n hn=>hd.out n (List.mem_of_mem_take hn)
   have hlt:(l.take (k+1)).length≤1000:=by simp;omega
   have hsz:=hd.out _ (List.getElem_mem hkl)
   have hs2:s+l[k].data.size≤1000000000:=by rw[hs.out,←hst.out];omega
   clear hle hlt
   generalize l[k]=n at *
   have f11:wr.cell? ⟨b,o+k * 12+11,none⟩=some (.string n.data):=hr 11 _ (by rw[Z7];rfl)
   replace hr:=hid hr
   go_wp2_with fail
   go_roundw
   case rel=>exact⟨by first | rfl | trivial,k+1,s+n.data.size,by omega,by go_num,by go_num,hid (by rw[hst.out,←hs.out])⟩
   case measure=>simp[intOf];omega
  ·obtain rfl:k=l.length:=by omega
   have hs2:s=Z10 l:=by have:=hs.out;rwa [List.take_length]at this
   subst hs2
   go_wp2_with fail
   go_ret
   exact⟨rfl,hb0.out⟩
end
end Go.Proofs.YtkefjeabckainaaGreat
