/- The reference's Drop. Conditions: at most a thousand nodes.
Rename of package tree. Conditions: what TrOk asks.
Take of package tree. Conditions: what TrOk asks. -/
import Derived.Test.YtkefjeabckainaaGreatFtB11
import Derived.Test.YtkefjeabckainaaGreatFtB08
import Derived.Test.YtkefjeabckainaaGreatFtB10
namespace Go.Proofs.YtkefjeabckainaaGreat
set_option maxRecDepth 100000
set_option linter.unusedVariables false
section
open Go.RowKit
theorem Zc4:ElemOk Tryz.prog 84 157 12 120:=Z2l (z:=.agg Zk.cells) Tryz.underlying84 (by kernel_rfl) rfl (by decide)
theorem drop_take {l:List Nod} {k:Nat} (hk:k<l.length) (p:Nat):Z1G (l.take (k+1)) p=Z1G (l.take k) p++(if l[k].path=p then [] else [l[k]]):=by
 unfold Z1G
 rw[List.take_succ_eq_append_getElem hk,List.filter_append]
 by_cases h:l[k].path=p <;> simp[h]
set_option maxHeartbeats 6400000 in
theorem Z9i (v:Value) (x:Nat) (l:List Nod) (p:Nat) (w:World) (hv:Z3 w v l) (hl:l.length≤1000) :
  Calls Tryz.prog 180 #[.agg #[.int .u64 (x:Int),v],.int .u64 (p:Int)] w (Z2q w x (Z1G l p)):=by
 obtain⟨a,c,rfl,g1,g2⟩:=hv.form
 unfold maxLen at g2
 obtain⟨W,hW⟩ : ∃ W,W=((w.alloc (.cells #[.int .u64 (x:Int),.slice a l.length c] 86)).alloc (.cells #[.int .u64 0,.slice none 0 0] 86)).alloc (.cells #[.int .u64 (x:Int),.slice none 0 0] 86):=⟨_,rfl⟩
 have hb0:Below w.heap.size w W:=by rw[hW];exact(((Below.refl w.heap.size w).alloc (Nat.le_refl _) _).alloc (by simp) _).alloc (by simp;omega) _
 have hX0:=hid (show W.heap[w.heap.size]?=some (.cells #[.int .u64 (x:Int),.slice a l.length c] 86 (0,0)) by rw[hW,heap_alloc_old _ _ (by simp;omega),heap_alloc_old _ _ (by simp),heap_alloc_new])
 have hX1:=hid (show W.heap[w.heap.size+1]?=some (.cells #[.int .u64 0,.slice none 0 0] 86 (0,0)) by rw[hW,heap_alloc_old _ _ (by simp)];exact Z27 _ _ _)
 have hXU:=hid (show W.heap[w.heap.size+2]?=some (.cells #[.int .u64 (x:Int),.slice none 0 0] 86 (0,0)) by
  rw[hW]
  have:=heap_alloc_new ((w.alloc (.cells #[.int .u64 (x:Int),.slice a l.length c] 86)).alloc (.cells #[.int .u64 0,.slice none 0 0] 86)) (.cells #[.int .u64 (x:Int),.slice none 0 0] 86)
  simpa using this)
 replace hv:=hid hv
 replace hb0:=hid hb0
 have hdl:=hid (fun k=>Nat.le_trans (Z7i (l.take k) p) (List.length_take_le k l))
 go_enter Tryz.func180,Tryz.ntmps180
 go_wp2_with (rw[←hW];replace hW:=hid hW)
 try (rw[←hW];replace hW:=hid hW)
 go_loopw [6] (fun kv wr=>∃ (k m:Nat) (ov:Value) (acc:List Nod),k≤l.length∧kv=.int .i64 (k:Int)∧Hid (acc=Z1G (l.take k) p)∧Hid (wr.heap[w.heap.size+2]?=some (.cells #[.int .u64 (x:Int),ov] 86 (0,0)))∧Hid (wr.heap[w.heap.size]?=some (.cells #[.int .u64 (x:Int),.slice a l.length c] 86 (0,0)))∧Hid (wr.heap[w.heap.size+1]?=some (.cells #[.int .u64 0,.slice none 0 0] 86 (0,0)))∧Hid (wr.ownsRow (w.heap.size+3) 157 12 ov m (ZB acc))∧Hid (Below w.heap.size w wr)∧Hid (m=acc.length)) (fun kv _=>l.length - (intOf kv).toNat)
 case atStart=>exact⟨0,0,.slice none 0 0,[],by omega,rfl,hid rfl,hXU,hX0,hX1,hid (World.ownsRow_nil _ _ _ _),hb0,hid rfl⟩
 case round =>
  clear hX0 hX1 hXU hb0
  obtain⟨k,m,ov,acc,hk,rfl,hacc,hXU,hX0,hX1,hown,hB,hm⟩:=hrel
  obtain⟨oa,oc,rfl⟩:=Z1V hown.out
  have hmk:m≤1000:=by rw[hm.out,hacc.out];have:=hdl.out k;omega
  have e1:=Z0 hX0.out 1
  have e2:=Z0 hXU.out 1
  by_cases hkl:k<l.length
  ·obtain⟨b,o,ha,hr⟩:=(hv.out.below hB.out).range k hkl
   subst ha
   have hst:=hid (drop_take hkl p)
   generalize l[k]=n at *
   have f0:wr.cell? ⟨b,o+k * 12,none⟩=some (.int .u64 (n.path:Int)):=by have:=hr 0 (.int .u64 (n.path:Int)) (by rw[Z7];rfl);rwa [Nat.add_zero]at this
   replace hr:=hid hr
   by_cases hnp:n.path=p
   ·have q1:((n.path:Int) !=(p:Int))=false:=by rw[hnp];simp
    have ha2:=hid (show acc=Z1G (l.take (k+1)) p by rw[hst.out,if_pos hnp,hacc.out];simp)
    clear hnp hst hacc
    go_wp2_with fail
    go_roundw
    case rel=>exact⟨k+1,m,_,acc,by omega,by go_num,ha2,hXU,hX0,hX1,hown,hB,hm⟩
    case measure=>simp[intOf];omega
   ·have q1:((n.path:Int) !=(p:Int))=true:=by simp;omega
    have ha2:=hid (show acc++[n]=Z1G (l.take (k+1)) p by rw[hst.out,if_neg hnp,hacc.out])
    clear hnp hst hacc
    have hD:=(Below.refl wr.heap.size wr).drew
    have hA:=(Below.refl wr.drew.heap.size wr.drew).alloc (Nat.le_refl _) (.cells #[.int .u64 (n.path:Int),.int .u32 (n.vers:Int),.int .u32 (n.mode:Int),.int .u32 (n.atm:Int),.int .u32 (n.mtm:Int),.string n.name,.string n.uid,.string n.gid,.string n.muid,.int .u64 (n.up:Int),.bool n.gone,.string n.data] 157)
    have hDA:Hid (Below wr.heap.size wr (wr.drew.alloc (.cells #[.int .u64 (n.path:Int),.int .u32 (n.vers:Int),.int .u32 (n.mode:Int),.int .u32 (n.atm:Int),.int .u32 (n.mtm:Int),.string n.name,.string n.uid,.string n.gid,.string n.muid,.int .u64 (n.up:Int),.bool n.gone,.string n.data] 157))):=hid (hD.trans hA)
    have hownA:=hid (Z2x hown.out (fun j hj=>hDA.out.block j (hown.out.lt j hj).2))
    have hsrc:Hid (Z15 (wr.drew.alloc (.cells #[.int .u64 (n.path:Int),.int .u32 (n.vers:Int),.int .u32 (n.mode:Int),.int .u32 (n.atm:Int),.int .u32 (n.mtm:Int),.string n.name,.string n.uid,.string n.gid,.string n.muid,.int .u64 (n.up:Int),.bool n.gone,.string n.data] 157)) 12 (.slice (some ⟨wr.drew.heap.size,0,none⟩) 1 1) 1 n.cells.toList):=hid (Z15.of_block (n:=1) (heap_alloc_new _ _) rfl (by unfold maxLen;omega))
    have hlt2:=lt_of_block hXU.out
    have hXUA:=hid ((hDA.out.block _ hlt2).trans hXU.out)
    have hX0A:=hid ((hDA.out.block _ (lt_of_block hX0.out)).trans hX0.out)
    have hX1A:=hid ((hDA.out.block _ (lt_of_block hX1.out)).trans hX1.out)
    have hBA:=hid (hB.out.trans (hDA.out.mono hB.out.size))
    have hvl:=hid hown.out.lt
    have k1:(wr.drew.alloc (.cells #[.int .u64 (n.path:Int),.int .u32 (n.vers:Int),.int .u32 (n.mode:Int),.int .u32 (n.atm:Int),.int .u32 (n.mtm:Int),.string n.name,.string n.uid,.string n.gid,.string n.muid,.int .u64 (n.up:Int),.bool n.gone,.string n.data] 157)).cell? ⟨w.heap.size+2,1,none⟩=some (.slice oa m oc):=Z0 hXUA.out 1
    have k2:wr.drew.cell? ⟨w.heap.size+2,1,none⟩=some (.slice oa m oc):=e2
    have k3:wr.drew.cell? ⟨w.heap.size,1,none⟩=some (.slice (some ⟨b,o,none⟩) l.length c):=e1
    have s0:wr.drew.cell? ⟨b,o+k * 12,none⟩=some (.int .u64 (n.path:Int)):=f0
    have s1:wr.drew.cell? ⟨b,o+k * 12+1,none⟩=some (.int .u32 (n.vers:Int)):=hr.out 1 _ (by rw[Z7];rfl)
    have s2:wr.drew.cell? ⟨b,o+k * 12+2,none⟩=some (.int .u32 (n.mode:Int)):=hr.out 2 _ (by rw[Z7];rfl)
    have s3:wr.drew.cell? ⟨b,o+k * 12+3,none⟩=some (.int .u32 (n.atm:Int)):=hr.out 3 _ (by rw[Z7];rfl)
    have s4:wr.drew.cell? ⟨b,o+k * 12+4,none⟩=some (.int .u32 (n.mtm:Int)):=hr.out 4 _ (by rw[Z7];rfl)
    have s5:wr.drew.cell? ⟨b,o+k * 12+5,none⟩=some (.string n.name):=hr.out 5 _ (by rw[Z7];rfl)
    have s6:wr.drew.cell? ⟨b,o+k * 12+6,none⟩=some (.string n.uid):=hr.out 6 _ (by rw[Z7];rfl)
    have s7:wr.drew.cell? ⟨b,o+k * 12+7,none⟩=some (.string n.gid):=hr.out 7 _ (by rw[Z7];rfl)
    have s8:wr.drew.cell? ⟨b,o+k * 12+8,none⟩=some (.string n.muid):=hr.out 8 _ (by rw[Z7];rfl)
    have s9:wr.drew.cell? ⟨b,o+k * 12+9,none⟩=some (.int .u64 (n.up:Int)):=hr.out 9 _ (by rw[Z7];rfl)
    have s10:wr.drew.cell? ⟨b,o+k * 12+10,none⟩=some (.bool n.gone):=hr.out 10 _ (by rw[Z7];rfl)
    have s11:wr.drew.cell? ⟨b,o+k * 12+11,none⟩=some (.string n.data):=hr.out 11 _ (by rw[Z7];rfl)
    have i1:(0:Int)≤(k:Int):=by omega
    have i2:(k:Int)<(l.length:Int):=by omega
    replace hA:=hid hA
    replace hD:=hid hD
    go_wp2_with fail
    go_region_law (first |(refine Z1W Zc4 _ rfl (.tmp 26) (.tmp 32) rfl (w.heap.size+3) (.slice oa m oc) m (ZB acc) rfl hownA.out _ 1 n.cells.toList rfl hsrc.out (by intro u hu;exact(Array.all_eq_true_iff_forall_mem.1 (Zw n)) u (by simpa using hu)) (by unfold maxLen;omega) (by omega) (by simp;omega) ?_;intro a' c' w' h2 h3;have hbU:=(h3.block (w.heap.size+2) (by simp;omega) (fun e=>by have:=(hvl.out _ e.symm).1;omega)).trans hXUA.out;have hb0:=(h3.block (w.heap.size) (by simp;omega) (fun e=>by have:=(hvl.out _ e.symm).1;omega)).trans hX0A.out;have hb1:=(h3.block (w.heap.size+1) (by simp;omega) (fun e=>by have:=(hvl.out _ e.symm).1;omega)).trans hX1A.out;have y1:w'.frozen? ⟨w.heap.size+2,1,none⟩=false:=Zb hbU 1;have y2:w'.cell? ⟨w.heap.size+2,1,none⟩=some (.slice oa m oc):=Z0 hbU 1;have nU:=hid (Zg hbU 1 (.slice a' (m+1) c'));have n0:=hid ((Z1 (p:=⟨w.heap.size+2,1,none⟩) (u:=.slice a' (m+1) c') (by show w.heap.size≠w.heap.size+2;omega)).trans hb0);have n1:=hid ((Z1 (p:=⟨w.heap.size+2,1,none⟩) (u:=.slice a' (m+1) c') (by show w.heap.size+1≠w.heap.size+2;omega)).trans hb1);have hown2:=hid (ownsRow_setCell_below h2 (a:=⟨w.heap.size+2,1,none⟩) (by show w.heap.size+2<w.heap.size+3;omega) (.slice a' (m+1) c'));have hB2:=hid ((hBA.out.grown h3 (by simp;omega) (fun j hj=>by have:=(hvl.out j hj).1;omega)).setCell (a:=w) (p:=⟨w.heap.size+2,1,none⟩) (by show w.heap.size≤w.heap.size+2;omega) (.slice a' (m+1) c'))) )
    all_goals
     clear k1 k2 k3 s0 s1 s2 s3 s4 s5 s6 s7 s8 s9 s10 s11 hown hownA hvl hA hD hsrc hBA e1 e2 f0 i1 i2 y1 y2 hXUA hlt2 h2 h3 hbU hX0A hb0 hX1A hb1
     go_wp2_with fail
     go_roundw
     case rel=>exact⟨k+1,m+1,_,acc++[n],by omega,by go_num,ha2,nU,n0,n1,by rw[Z28,show ZB [n]=n.cells.toList by simp[ZB]];exact hown2,hB2,hid (by rw[List.length_append,←hm.out];rfl)⟩
     case measure=>simp[intOf];omega
  ·obtain rfl:k=l.length:=by omega
   have hacc2:acc=Z1G l p:=by have:=hacc.out;rwa [List.take_length]at this
   replace hacc2:=hid hacc2
   have y0:=Z0 hXU.out 0
   have y1:=Z0 hXU.out 1
   have hzz:=hid (setRow_heap wr (w.heap.size+1) #[.int .u64 0,.slice none 0 0] #[.int .u64 (x:Int),.slice oa m oc] _ _ hX1.out)
   have hBz:=hid (below_setRow (g:=w.heap.size+1) hB.out (by omega) #[.int .u64 (x:Int),.slice oa m oc])
   have hF:=hid (fun j hj=>(hown.out.lt j hj).1)
   have hN:=hid (Z3.other (w':=wr.setRow (w.heap.size+1) #[.int .u64 (x:Int),.slice oa m oc]) (Z3.of_own hown.out) (w.heap.size+1) (fun e=>by have:=hF.out _ e;omega) (by simp) (fun k hk=>setRow_other _ _ _ _ hk))
   go_wp2_with (refine wpList_store_row (by rfl) 86 (.tmp 4) (.tmp 35) (by rfl) (w.heap.size+1) #[.int .u64 (x:Int),.slice oa m oc] (by rfl) (by rfl) 86 _ hX1.out (by kernel_rfl) (by kernel_rfl) (by kernel_rfl) ?_)
   refine bodyPost_ret (results_cell_row rfl _ _ (w.heap.size+1) _ _ _ _ rfl hzz.out Tryz.underlying86 (by rfl) (by kernel_rfl)) rfl ?_
   exact⟨.slice oa m oc,rfl,by rw[←hacc2.out];exact hN.out,fun k hk=>by have:=hF.out k hk;omega,hBz.out⟩
end
section
open Go.RowKit
end
section
open Go.RowKit
def ZcI (w:World) (r:Tr×ByteArray×Nat) (e:Ending) (w':World):Prop:=∃ v',e=.returned (.tuple #[.agg #[.int .u64 (r.1.next:Int),v'],.string r.2.1,.int .i64 (r.2.2:Int)])∧Z3 w' v' r.1.n∧(∀ k,v'.ownBlock=some k→w.heap.size≤k)∧Below w.heap.size w w'
theorem Zb5 (d:ByteArray) (off k m m2:Nat) (hm:m=min off d.size) (hm2:m2=min k (d.extract m d.size).size):(d.extract m d.size).extract 0 m2=Z3t ((d.data.toList.drop off).take k):=by
 refine Z4o ?_
 have hl:d.data.toList.length=d.size:=rfl
 have e:(d.extract m d.size).data.toList=d.data.toList.drop off:=by
  rw[S.data_extract,hm]
  by_cases h:off≤d.size
  ·rw[Nat.min_eq_left h]
  ·rw[Nat.min_eq_right (by omega),List.drop_of_length_le (by omega),List.drop_of_length_le (by omega)]
 have hs:(d.extract m d.size).size=(d.data.toList.drop off).length:=by rw[←e];rfl
 rw[hs]at hm2
 generalize d.extract m d.size=s at *
 have e2:(s.extract 0 m2).data.toList=s.data.toList.take m2:=by simp
 rw[e2,e,hm2]
 generalize d.data.toList.drop off=l
 by_cases h:k≤l.length
 ·rw[Nat.min_eq_left h]
 ·rw[Nat.min_eq_right (by omega),List.take_of_length_le (by omega),List.take_of_length_le (by omega)]
set_option maxHeartbeats 3200000 in
theorem Z6l (v:Value) (x:Nat) (l:List Nod) (p off k now:Nat) (w:World) (hv:Z3 w v l) (ht:TrOk l) (hoff:off<18446744073709551616) (hk:k<4294967296) :
  Calls Tryz.prog 50 #[.agg #[.int .u64 (x:Int),v],.int .u64 (p:Int),.int .u64 (off:Int),.int .u32 (k:Int),.int .u32 (now:Int)] w (ZcI w (Z2O ⟨x,l⟩ p off k now)):=by
 obtain⟨a,c,rfl,g1,g2⟩:=hv.form
 unfold maxLen at g2
 obtain⟨W,hW⟩ : ∃ W,W=(w.alloc (.cells #[.int .u64 (x:Int),.slice a l.length c] 30)).alloc (.cells #[.int .u64 0,.slice none 0 0] 30):=⟨_,rfl⟩
 have hb0:Below w.heap.size w W:=by rw[hW];exact((Below.refl w.heap.size w).alloc (Nat.le_refl _) _).alloc (by simp) _
 have hx0:W.heap[w.heap.size]?=some (.cells #[.int .u64 (x:Int),.slice a l.length c] 30 (0,0)):=by rw[hW,heap_alloc_old _ _ (by simp),heap_alloc_new]
 have hy0:W.heap[w.heap.size+1]?=some (.cells #[.int .u64 0,.slice none 0 0] 30 (0,0)):=by rw[hW];exact Z27 _ _ _
 have hfi:=hid (Z5G _ x l p W (hv.below hb0) ht.sort (by have:=ht.few;omega) ht.ok)
 have hap:=hid (fun X (h:Z3 X (.slice a l.length c) l)=>Z2r _ x l X h (by have:=ht.few;omega) ht.low)
 have e0:=Z0 hx0 0
 have e1:=Z0 hx0 1
 have hv0:=hid (hv.below hb0)
 replace hb0:=hid hb0
 replace hx0:=hid hx0
 replace hy0:=hid hy0
 go_enter Tryz.func50,Tryz.ntmps50
 go_upto_region 1 with (rw[←hW];replace hW:=hid hW)
 try (rw[←hW];replace hW:=hid hW)
 go_wp2_with fail
 refine hfi.out.mono ?_
 rintro e w2 ⟨rfl,hb2⟩
 have hB2:=hid (sn hb0.out hb2)
 have hs2:=hid (lt_of_block ((hb2.block _ (lt_of_block hy0.out)).trans hy0.out))
 obtain⟨n,hn⟩ : ∃ n,n=Z1M l p:=⟨_,rfl⟩
 have hnew:=hid (heap_alloc_new w2 (.cells Zk.cells 89))
 obtain⟨X,hX⟩ : ∃ W,W=Z1J w2 n:=⟨_,rfl⟩
 have hbX:Below w2.heap.size w2 X:=by rw[hX];exact ZD _ _
 have hBX:=hid (sn hB2.out hbX)
 have hA:TrSt w.heap.size w2.heap.size (w.heap.size+1) x (.slice a l.length c) l n X :=
  ⟨(hbX.block _ (by have:=hs2.out;omega)).trans ((hb2.block _ (lt_of_block hx0.out)).trans hx0.out),by rw[hX];exact ZK _ _,(hbX.block _ hs2.out).trans ((hb2.block _ (lt_of_block hy0.out)).trans hy0.out),(hv0.out.below hb2).below hbX⟩
 have hapc:=hid (hap.out X hA.row)
 have q0:=hA.t0
 have q1:=hA.t1
 unfold Z1J at hX
 rw[Zc]at hX hnew
 rw[←hn]
 clear hb2 hbX hfi hap e0 e1 hB2 hx0 hy0 hv0 hb0
 replace hA:=hid hA
 replace hn:=hid hn
 go_upto_region 2 with (first
  |(rw[←hX];replace hX:=hid hX)
  |(refine wpList_store_row (by rfl) 89 (.tmp 13) (.tmp 21) (by rfl) w2.heap.size n.cells (by rfl) (by rfl) 89 _ hnew.out (by kernel_rfl) (by kernel_rfl) (Zw n) ?_))
 try (rw[←hX];replace hX:=hid hX)
 clear hnew
 generalize w2.heap.size=z at *
 cases hg:ZM l p with
 | none =>
  have hdE:=hid (show Z2O ⟨x,l⟩ p off k now=(⟨x,l⟩,⟨#[]⟩,6) by unfold Z2O;rw[hg])
  have hfe:Z2s l p=6:=by unfold Z2s;rw[hg]
  rw[hfe]
  clear hfe hg
  go_wp2_with fail
  refine hapc.out.mono ?_
  rintro e w9 ⟨v9,rfl,hv9,hf9,hb9⟩
  have hres:=hid (hA.out.below hb9).res
  have hB9:=hid (sn hBX.out hb9)
  have hsz:=hid hBX.out.size
  have hlt:=hid (lt_of_block hA.out.res)
  have hN:=hid (Z3.other (w':=w9.setRow (w.heap.size+1) #[.int .u64 (x:Int),v9]) hv9 (w.heap.size+1) (fun e=>by have:=hf9 _ e;have:=hlt.out;omega) (by simp) (fun k hk=>setRow_other _ _ _ _ hk))
  have hF:=hid (show ∀ k,v9.ownBlock=some k→w.heap.size≤k from fun k hk=>Nat.le_trans hsz.out (hf9 k hk))
  obtain⟨a9,c9,rfl,_,_⟩:=hv9.form
  clear hb9 hv9 hf9 hapc q0 q1
  go_wp2_with (refine wpList_store_row (by rfl) 30 (.tmp 10) (.tmp 26) (by rfl) (w.heap.size+1) #[.int .u64 (x:Int),.slice a9 l.length c9] (by rfl) (by rfl) 30 _ hres.out (by kernel_rfl) (by kernel_rfl) (by kernel_rfl) ?_)
  refine bodyPost_ret (Z1f rfl _ _ (w.heap.size+1) _ _ _ _ _ _ rfl rfl rfl (setRow_heap _ _ _ #[.int .u64 (x:Int),.slice a9 l.length c9] _ _ hres.out) Tryz.underlying30 rfl (by kernel_rfl)) rfl ?_
  refine⟨.slice a9 l.length c9,?_,?_,hF.out,below_setRow hB9.out (by omega) _⟩
  ·rw[hdE.out];rfl
  ·rw[hdE.out];exact hN.out
 | some y =>
  have hny:n=y:=by rw[hn.out];unfold Z1M;rw[hg];rfl
  subst hny
  obtain⟨hmem,hpath⟩:=Zr hg
  cases hdb:ZF n with
  | true =>
   have hdE:=hid (show Z2O ⟨x,l⟩ p off k now=(⟨x,l⟩,⟨#[]⟩,12) by unfold Z2O;rw[hg];simp only;rw[hdb];rfl)
   have hfe:Z2s l p=12:=by unfold Z2s;rw[hg];simp only;rw[hdb];rfl
   rw[hfe]
   clear hfe hg hdb
   go_wp2_with fail
   refine hapc.out.mono ?_
   rintro e w9 ⟨v9,rfl,hv9,hf9,hb9⟩
   have hres:=hid (hA.out.below hb9).res
   have hB9:=hid (sn hBX.out hb9)
   have hsz:=hid hBX.out.size
   have hlt:=hid (lt_of_block hA.out.res)
   have hN:=hid (Z3.other (w':=w9.setRow (w.heap.size+1) #[.int .u64 (x:Int),v9]) hv9 (w.heap.size+1) (fun e=>by have:=hf9 _ e;have:=hlt.out;omega) (by simp) (fun k hk=>setRow_other _ _ _ _ hk))
   have hF:=hid (show ∀ k,v9.ownBlock=some k→w.heap.size≤k from fun k hk=>Nat.le_trans hsz.out (hf9 k hk))
   obtain⟨a9,c9,rfl,_,_⟩:=hv9.form
   clear hb9 hv9 hf9 hapc q0 q1
   go_wp2_with (refine wpList_store_row (by rfl) 30 (.tmp 10) (.tmp 26) (by rfl) (w.heap.size+1) #[.int .u64 (x:Int),.slice a9 l.length c9] (by rfl) (by rfl) 30 _ hres.out (by kernel_rfl) (by kernel_rfl) (by kernel_rfl) ?_)
   refine bodyPost_ret (Z1f rfl _ _ (w.heap.size+1) _ _ _ _ _ _ rfl rfl rfl (setRow_heap _ _ _ #[.int .u64 (x:Int),.slice a9 l.length c9] _ _ hres.out) Tryz.underlying30 rfl (by kernel_rfl)) rfl ?_
   refine⟨.slice a9 l.length c9,?_,?_,hF.out,below_setRow hB9.out (by omega) _⟩
   ·rw[hdE.out];rfl
   ·rw[hdE.out];exact hN.out
  | false =>
   have hfe:Z2s l p=0:=by unfold Z2s;rw[hg];simp only;rw[hdb];rfl
   have hdT:=hid (show Z2O ⟨x,l⟩ p off k now=(⟨x,Z1B l {n with atm:=now}⟩,Z3t ((n.data.data.toList.drop off).take k),0) by unfold Z2O;rw[hg];simp only;rw[hdb];rfl)
   have hsome:=hid (show(ZM l n.path).isSome=true by rw[hpath,hg];rfl)
   have hnl:=ht.len n hmem
   rw[hfe]
   obtain⟨m,hm⟩ : ∃ m,m=min off n.data.size:=⟨_,rfl⟩
   obtain⟨s1,hs1⟩ : ∃ s,s=n.data.extract m n.data.size:=⟨_,rfl⟩
   obtain⟨m2,hm2⟩ : ∃ m,m=min k s1.size:=⟨_,rfl⟩
   obtain⟨s2,hs2'⟩ : ∃ s,s=s1.extract 0 m2:=⟨_,rfl⟩
   have htxt:s2=Z3t ((n.data.data.toList.drop off).take k):=by rw[hs2',hs1];exact Zb5 n.data off k m m2 hm (by rw[←hs1];exact hm2)
   rw[←htxt]at hdT
   have hs1s:s1.size≤5000:=by rw[hs1,ByteArray.size_extract];omega
   have k1:min (off:Int) (n.data.size:Int)=(m:Int):=by omega
   have k2:IntKind.u64.wrap (n.data.size:Int)=(n.data.size:Int):=IntWalk.u64_in _ (by omega)
   have k3:IntKind.i64.wrap (m:Int)=(m:Int):=IntWalk.i64_in _ (by omega)
   have k4:(m:Int)≤(n.data.size:Int):=by omega
   have k5:min (k:Int) (s1.size:Int)=(m2:Int):=by omega
   have k6:(m2:Int)≤(s1.size:Int):=by omega
   have k7:n.data.extract m n.data.size=s1:=hs1.symm
   have k8:s1.extract 0 m2=s2:=hs2'.symm
   have hk2:(k:Int)<4294967296:=by omega
   have c11:X.cell? ⟨z,11,none⟩=some (.string n.data):=Z0 hA.out.nd 11
   have c3:X.cell? ⟨z,3,none⟩=some (.int .u32 (n.atm:Int)):=Z0 hA.out.nd 3
   have f3:X.frozen? ⟨z,3,none⟩=false:=Zb hA.out.nd 3
   obtain⟨n2,hn2⟩ : ∃ n2:Nod,n2={n with atm:=now}:=⟨_,rfl⟩
   rw[←hn2]at hdT
   obtain⟨Y,hY⟩ : ∃ Y,Y=X.setCell ⟨z,3,none⟩ (.int .u32 (now:Int)):=⟨_,rfl⟩
   have hBY:Below w.heap.size w Y:=by rw[hY];exact hBX.out.setCell (by show w.heap.size≤z;have:=hs2.out;omega) _
   have hAY:TrSt w.heap.size z (w.heap.size+1) x (.slice a l.length c) l n2 Y:=by
    have hrow:=hv.below hBY
    rw[hY]at hrow ⊢
    exact hA.out.put (by have:=hs2.out;omega) (by have:=hs2.out;omega) 3 (.int .u32 (now:Int)) (by rw[hn2];rfl) hrow
   have hst:=hid (Z3c _ x l n2 Y hAY.row ht.sort (by have:=ht.few;omega) (.inl (by rw[hn2];exact hsome.out)))
   have hdE:=hdT
   replace hm:=hid hm
   replace hs1:=hid hs1
   replace hm2:=hid hm2
   replace hs2':=hid hs2'
   replace htxt:=hid htxt
   replace hmem:=hid hmem
   replace hpath:=hid hpath
   clear hfe hdb hapc hg hdT
   go_upto_region 8 with (rw[←hY];replace hY:=hid hY)
   try (rw[←hY];replace hY:=hid hY)
   have hnd:=hid hAY.nd
   clear q0 q1 hA hBX c11 c3 f3
   have q0:=hAY.t0
   have q1:=hAY.t1
   have hA:=hid hAY
   have hBX:=hid hBY
   clear hAY hBY k1 k2 k3 k4 k5 k6 k7 k8
   replace hn2:=hid hn2
   go_wp2_with (refine wpList_load_row (by rfl) 89 (.tmp 13) (by rfl) z (by rfl) 89 n2.cells (0,0) _ hnd.out Tryz.underlying89 (by rfl) (by kernel_rfl) ?_)
   refine hst.out.mono ?_
   rintro e w9 ⟨v9,rfl,hv9,hf9,hb9⟩
   have hres:=hid (hA.out.below hb9).res
   have hB9:=hid (sn hBX.out hb9)
   have hsz:=hid hBX.out.size
   have hlt:=hid (lt_of_block hA.out.res)
   have hN:=hid (Z3.other (w':=w9.setRow (w.heap.size+1) #[.int .u64 (x:Int),v9]) hv9 (w.heap.size+1) (fun e=>by have:=hf9 _ e;have:=hlt.out;omega) (by simp) (fun k hk=>setRow_other _ _ _ _ hk))
   have hF:=hid (show ∀ k,v9.ownBlock=some k→w.heap.size≤k from fun k hk=>Nat.le_trans hsz.out (hf9 k hk))
   obtain⟨a9,c9,rfl,_,_⟩:=hv9.form
   clear hb9 hv9 hf9 hst q0 q1
   go_wp2_with (refine wpList_store_row (by rfl) 30 (.tmp 10) (.tmp 51) (by rfl) (w.heap.size+1) #[.int .u64 (x:Int),.slice a9 (Z1B l n2).length c9] (by rfl) (by rfl) 30 _ hres.out (by kernel_rfl) (by kernel_rfl) (by kernel_rfl) ?_)
   refine bodyPost_ret (Z1f rfl _ _ (w.heap.size+1) _ _ _ _ _ _ rfl rfl rfl (setRow_heap _ _ _ #[.int .u64 (x:Int),.slice a9 (Z1B l n2).length c9] _ _ hres.out) Tryz.underlying30 rfl (by kernel_rfl)) rfl ?_
   refine⟨.slice a9 (Z1B l n2).length c9,?_,?_,hF.out,below_setRow hB9.out (by omega) _⟩
   ·rw[hdE.out];rfl
   ·rw[hdE.out];exact hN.out
end
end Go.Proofs.YtkefjeabckainaaGreat
