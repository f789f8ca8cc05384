/- Put of package tree. Conditions: what TrOk asks. And the texts behind it. -/
import Derived.Test.YtkefjeabckainaaGreatFtB09
import Derived.Test.YtkefjeabckainaaGreatFtB06
namespace Go.Proofs.YtkefjeabckainaaGreat
set_option maxRecDepth 100000
set_option linter.unusedVariables false
section
open Go.RowKit
theorem ZaV (m:Nat) (h:m<4294967296):(bits .and .u32 (m:Int) 1073741824 != 0) = !decide (m &&& 1073741824=0):=by
 rw[show(1073741824:Int)=((1073741824:Nat):Int) from rfl,u32_and_nat _ _ h (by omega)]
 by_cases h0:m &&& 1073741824=0
 ·simp[h0]
 ·simp[h0]
theorem Z9b (d b:ByteArray) (o m:Nat) (hm:m=min (o+b.size) d.size):Z3t (Z50 d.data.toList o)++b++d.extract m d.size=ZaC d o b:=by
 refine Z4o ?_
 have hl:d.data.toList.length=d.size:=rfl
 have e:(d.extract m d.size).data.toList=d.data.toList.drop (o+b.size):=by
  rw[S.data_extract,hm]
  by_cases h:o+b.size≤d.size
  ·rw[Nat.min_eq_left h]
  ·rw[Nat.min_eq_right (by omega),List.drop_of_length_le (by omega),List.drop_of_length_le (by omega)]
 show(Z3t (Z50 d.data.toList o)++b++d.extract m d.size).data.toList=_
 rw[ByteArray.data_append,ByteArray.data_append,Array.toList_append,Array.toList_append,e]
 rfl
set_option maxHeartbeats 6400000 in
theorem ZaW (v:Value) (x:Nat) (l:List Nod) (p off:Nat) (b who:ByteArray) (now:Nat) (w:World) (hv:Z3 w v l) (ht:TrOk l) (hoff:off<18446744073709551616) (hbs0:b.size≤1000000) :
  Calls Tryz.prog 46 #[.agg #[.int .u64 (x:Int),v],.int .u64 (p:Int),.int .u64 (off:Int),.string b,.string who,.int .u32 (now:Int)] w (Z31 w (Z3V ⟨x,l⟩ p off b who now)):=by
 obtain⟨a,c,rfl,g1,g2⟩:=hv.form
 unfold maxLen at g2
 obtain⟨W,hW⟩ : ∃ W,W=(w.alloc (.cells #[.int .u64 (x:Int),.slice a l.length c] 30)).alloc (.cells #[.int .u64 0,.slice none 0 0] 30):=⟨_,rfl⟩
 have hb0:Below w.heap.size w W:=by rw[hW];exact((Below.refl w.heap.size w).alloc (Nat.le_refl _) _).alloc (by simp) _
 have hx0:W.heap[w.heap.size]?=some (.cells #[.int .u64 (x:Int),.slice a l.length c] 30 (0,0)):=by rw[hW,heap_alloc_old _ _ (by simp),heap_alloc_new]
 have hy0:W.heap[w.heap.size+1]?=some (.cells #[.int .u64 0,.slice none 0 0] 30 (0,0)):=by rw[hW];exact Z27 _ _ _
 have hfi:=hid (Z5G _ x l p W (hv.below hb0) ht.sort (by have:=ht.few;omega) ht.ok)
 have hap:=hid (fun X (h:Z3 X (.slice a l.length c) l)=>Z2r _ x l X h (by have:=ht.few;omega) ht.low)
 have e0:=Z0 hx0 0
 have e1:=Z0 hx0 1
 have hv0:=hid (hv.below hb0)
 replace hb0:=hid hb0
 replace hx0:=hid hx0
 replace hy0:=hid hy0
 go_enter Tryz.func46,Tryz.ntmps46
 go_upto_region 1 with (rw[←hW];replace hW:=hid hW)
 try (rw[←hW];replace hW:=hid hW)
 go_wp2_with fail
 refine hfi.out.mono ?_
 rintro e w2 ⟨rfl,hb2⟩
 have hB2:=hid (sn hb0.out hb2)
 have hs2:=hid (lt_of_block ((hb2.block _ (lt_of_block hy0.out)).trans hy0.out))
 obtain⟨n,hn⟩ : ∃ n,n=Z1M l p:=⟨_,rfl⟩
 have hnew:=hid (heap_alloc_new w2 (.cells Zk.cells 89))
 obtain⟨X,hX⟩ : ∃ W,W=Z1J w2 n:=⟨_,rfl⟩
 have hbX:Below w2.heap.size w2 X:=by rw[hX];exact ZD _ _
 have hBX:=hid (sn hB2.out hbX)
 have hA:TrSt w.heap.size w2.heap.size (w.heap.size+1) x (.slice a l.length c) l n X :=
  ⟨(hbX.block _ (by have:=hs2.out;omega)).trans ((hb2.block _ (lt_of_block hx0.out)).trans hx0.out),by rw[hX];exact ZK _ _,(hbX.block _ hs2.out).trans ((hb2.block _ (lt_of_block hy0.out)).trans hy0.out),(hv0.out.below hb2).below hbX⟩
 have hapc:=hid (hap.out X hA.row)
 have q0:=hA.t0
 have q1:=hA.t1
 unfold Z1J at hX
 rw[Zc]at hX hnew
 rw[←hn]
 clear hb2 hbX hfi hap e0 e1 hB2 hx0 hy0 hv0 hb0
 replace hA:=hid hA
 replace hn:=hid hn
 go_upto_region 2 with (first
  |(rw[←hX];replace hX:=hid hX)
  |(refine wpList_store_row (by rfl) 89 (.tmp 14) (.tmp 21) (by rfl) w2.heap.size n.cells (by rfl) (by rfl) 89 _ hnew.out (by kernel_rfl) (by kernel_rfl) (Zw n) ?_))
 try (rw[←hX];replace hX:=hid hX)
 clear hnew
 generalize w2.heap.size=z at *
 cases hg:ZM l p with
 | none =>
  have hdE:=hid (show Z3V ⟨x,l⟩ p off b who now=(⟨x,l⟩,6) by unfold Z3V;rw[hg])
  have hfe:Z2s l p=6:=by unfold Z2s;rw[hg]
  rw[hfe]
  clear hfe hg
  go_wp2_with fail
  refine hapc.out.mono ?_
  rintro e w9 ⟨v9,rfl,hv9,hf9,hb9⟩
  have hres:=hid (hA.out.below hb9).res
  have hB9:=hid (sn hBX.out hb9)
  have hsz:=hid hBX.out.size
  have hlt:=hid (lt_of_block hA.out.res)
  have hN:=hid (Z3.other (w':=w9.setRow (w.heap.size+1) #[.int .u64 (x:Int),v9]) hv9 (w.heap.size+1) (fun e=>by have:=hf9 _ e;have:=hlt.out;omega) (by simp) (fun k hk=>setRow_other _ _ _ _ hk))
  have hF:=hid (show ∀ k,v9.ownBlock=some k→w.heap.size≤k from fun k hk=>Nat.le_trans hsz.out (hf9 k hk))
  obtain⟨a9,c9,rfl,_,_⟩:=hv9.form
  clear hb9 hv9 hf9 hapc q0 q1
  go_wp2_with (refine wpList_store_row (by rfl) 30 (.tmp 12) (.tmp 26) (by rfl) (w.heap.size+1) #[.int .u64 (x:Int),.slice a9 l.length c9] (by rfl) (by rfl) 30 _ hres.out (by kernel_rfl) (by kernel_rfl) (by kernel_rfl) ?_)
  refine bodyPost_ret (Zy rfl _ _ (w.heap.size+1) _ _ _ _ _ rfl rfl (setRow_heap _ _ _ #[.int .u64 (x:Int),.slice a9 l.length c9] _ _ hres.out) Tryz.underlying30 rfl (by kernel_rfl)) rfl ?_
  refine⟨.slice a9 l.length c9,?_,?_,hF.out,below_setRow hB9.out (by omega) _⟩
  ·rw[hdE.out];rfl
  ·rw[hdE.out];exact hN.out
 | some y =>
  have hny:n=y:=by rw[hn.out];unfold Z1M;rw[hg];rfl
  subst hny
  obtain⟨hmem,hpath⟩:=Zr hg
  cases hdb:ZF n with
  | true =>
   have hdE:=hid (show Z3V ⟨x,l⟩ p off b who now=(⟨x,l⟩,12) by unfold Z3V;rw[hg];simp only;rw[hdb];rfl)
   have hfe:Z2s l p=12:=by unfold Z2s;rw[hg];simp only;rw[hdb];rfl
   rw[hfe]
   clear hfe hg hdb
   go_wp2_with fail
   refine hapc.out.mono ?_
   rintro e w9 ⟨v9,rfl,hv9,hf9,hb9⟩
   have hres:=hid (hA.out.below hb9).res
   have hB9:=hid (sn hBX.out hb9)
   have hsz:=hid hBX.out.size
   have hlt:=hid (lt_of_block hA.out.res)
   have hN:=hid (Z3.other (w':=w9.setRow (w.heap.size+1) #[.int .u64 (x:Int),v9]) hv9 (w.heap.size+1) (fun e=>by have:=hf9 _ e;have:=hlt.out;omega) (by simp) (fun k hk=>setRow_other _ _ _ _ hk))
   have hF:=hid (show ∀ k,v9.ownBlock=some k→w.heap.size≤k from fun k hk=>Nat.le_trans hsz.out (hf9 k hk))
   obtain⟨a9,c9,rfl,_,_⟩:=hv9.form
   clear hb9 hv9 hf9 hapc q0 q1
   go_wp2_with (refine wpList_store_row (by rfl) 30 (.tmp 12) (.tmp 26) (by rfl) (w.heap.size+1) #[.int .u64 (x:Int),.slice a9 l.length c9] (by rfl) (by rfl) 30 _ hres.out (by kernel_rfl) (by kernel_rfl) (by kernel_rfl) ?_)
   refine bodyPost_ret (Zy rfl _ _ (w.heap.size+1) _ _ _ _ _ rfl rfl (setRow_heap _ _ _ #[.int .u64 (x:Int),.slice a9 l.length c9] _ _ hres.out) Tryz.underlying30 rfl (by kernel_rfl)) rfl ?_
   refine⟨.slice a9 l.length c9,?_,?_,hF.out,below_setRow hB9.out (by omega) _⟩
   ·rw[hdE.out];rfl
   ·rw[hdE.out];exact hN.out
  | false =>
   have hfe:Z2s l p=0:=by unfold Z2s;rw[hg];simp only;rw[hdb];rfl
   obtain⟨o,ho⟩ : ∃ o,o=if Z69 n then n.data.size else off:=⟨_,rfl⟩
   have hdT:=hid (show Z3V ⟨x,l⟩ p off b who now=if 4096<o∨4096 - o<b.size then(⟨x,l⟩,3) else if b.size=0 then(⟨x,l⟩,0) else Z2n ⟨x,l⟩ n (ZaC n.data o b) who now by rw[ho];unfold Z3V;rw[hg];simp only;rw[hdb];rfl)
   rw[hfe]
   have hnok:=ht.ok n hmem
   have hnl:=ht.len n hmem
   have q2:X.cell? ⟨z,2,none⟩=some (.int .u32 (n.mode:Int)):=Z0 hA.out.nd 2
   have q11:X.cell? ⟨z,11,none⟩=some (.string n.data):=Z0 hA.out.nd 11
   have hap2:=ZaV n.mode hnok.mode
   have hab:Hid (Z69 n = !decide (n.mode &&& 1073741824=0)):=hid rfl
   have hkon:IntKind.u64.wrap (n.data.size:Int)=(n.data.size:Int):=IntWalk.u64_in _ (by omega)
   generalize decide (n.mode &&& 1073741824=0)=ab at *
   have hoB:o<18446744073709551616:=by rw[ho];split <;> omega
   cases ab with
   | true =>
    have hoo:o=off:=by rw[ho,hab.out];rfl
    rw[←hoo]
    have hmode:(bits .and .u32 (n.mode:Int) 1073741824 != 0)=false:=hap2
    replace hoo:=hid hoo
    clear ho hap2 hab
    by_cases h1:4096<o
    ·have hdE:=hid (show Z3V ⟨x,l⟩ p off b who now=(⟨x,l⟩,3) by rw[hdT.out,if_pos (.inl h1)])
     have h2:(4096:Int)<(o:Int):=by omega
     clear hdT hfe hg hdb
     go_wp2_with fail
     refine hapc.out.mono ?_
     rintro e w9 ⟨v9,rfl,hv9,hf9,hb9⟩
     have hres:=hid (hA.out.below hb9).res
     have hB9:=hid (sn hBX.out hb9)
     have hsz:=hid hBX.out.size
     have hlt:=hid (lt_of_block hA.out.res)
     have hN:=hid (Z3.other (w':=w9.setRow (w.heap.size+1) #[.int .u64 (x:Int),v9]) hv9 (w.heap.size+1) (fun e=>by have:=hf9 _ e;have:=hlt.out;omega) (by simp) (fun k hk=>setRow_other _ _ _ _ hk))
     have hF:=hid (show ∀ k,v9.ownBlock=some k→w.heap.size≤k from fun k hk=>Nat.le_trans hsz.out (hf9 k hk))
     obtain⟨a9,c9,rfl,_,_⟩:=hv9.form
     clear hb9 hv9 hf9 hapc q0 q1
     go_wp2_with (refine wpList_store_row (by rfl) 30 (.tmp 12) (.tmp 47) (by rfl) (w.heap.size+1) #[.int .u64 (x:Int),.slice a9 l.length c9] (by rfl) (by rfl) 30 _ hres.out (by kernel_rfl) (by kernel_rfl) (by kernel_rfl) ?_)
     refine bodyPost_ret (Zy rfl _ _ (w.heap.size+1) _ _ _ _ _ rfl rfl (setRow_heap _ _ _ #[.int .u64 (x:Int),.slice a9 l.length c9] _ _ hres.out) Tryz.underlying30 rfl (by kernel_rfl)) rfl ?_
     refine⟨.slice a9 l.length c9,?_,?_,hF.out,below_setRow hB9.out (by omega) _⟩
     ·rw[hdE.out];rfl
     ·rw[hdE.out];exact hN.out
    by_cases h3:4096 - o<b.size
    ·have hdE:=hid (show Z3V ⟨x,l⟩ p off b who now=(⟨x,l⟩,3) by rw[hdT.out,if_pos (.inr h3)])
     have h2:¬ (4096:Int)<(o:Int):=by omega
     have h4:(o:Int)≤4096:=by omega
     have h5:(4096:Int) - (o:Int)<(b.size:Int):=by omega
     have ksz:IntKind.i64.wrap (o:Int)=(o:Int):=IntWalk.i64_in _ (by omega)
     clear hdT hfe hg hdb
     go_wp2_with fail
     refine hapc.out.mono ?_
     rintro e w9 ⟨v9,rfl,hv9,hf9,hb9⟩
     have hres:=hid (hA.out.below hb9).res
     have hB9:=hid (sn hBX.out hb9)
     have hsz:=hid hBX.out.size
     have hlt:=hid (lt_of_block hA.out.res)
     have hN:=hid (Z3.other (w':=w9.setRow (w.heap.size+1) #[.int .u64 (x:Int),v9]) hv9 (w.heap.size+1) (fun e=>by have:=hf9 _ e;have:=hlt.out;omega) (by simp) (fun k hk=>setRow_other _ _ _ _ hk))
     have hF:=hid (show ∀ k,v9.ownBlock=some k→w.heap.size≤k from fun k hk=>Nat.le_trans hsz.out (hf9 k hk))
     obtain⟨a9,c9,rfl,_,_⟩:=hv9.form
     clear hb9 hv9 hf9 hapc q0 q1
     go_wp2_with (refine wpList_store_row (by rfl) 30 (.tmp 12) (.tmp 47) (by rfl) (w.heap.size+1) #[.int .u64 (x:Int),.slice a9 l.length c9] (by rfl) (by rfl) 30 _ hres.out (by kernel_rfl) (by kernel_rfl) (by kernel_rfl) ?_)
     refine bodyPost_ret (Zy rfl _ _ (w.heap.size+1) _ _ _ _ _ rfl rfl (setRow_heap _ _ _ #[.int .u64 (x:Int),.slice a9 l.length c9] _ _ hres.out) Tryz.underlying30 rfl (by kernel_rfl)) rfl ?_
     refine⟨.slice a9 l.length c9,?_,?_,hF.out,below_setRow hB9.out (by omega) _⟩
     ·rw[hdE.out];rfl
     ·rw[hdE.out];exact hN.out
    have h2:¬ (4096:Int)<(o:Int):=by omega
    have h4:(o:Int)≤4096:=by omega
    have h5:¬ (4096:Int) - (o:Int)<(b.size:Int):=by omega
    have h6:(b.size:Int)≤(4096:Int) - (o:Int):=by omega
    have ksz:IntKind.i64.wrap (o:Int)=(o:Int):=IntWalk.i64_in _ (by omega)
    by_cases h7:b.size=0
    ·have hdE:=hid (show Z3V ⟨x,l⟩ p off b who now=(⟨x,l⟩,0) by rw[hdT.out,if_neg (by omega),if_pos h7])
     obtain⟨z1,z2⟩:=Z3w h7
     clear hdT hfe hg hdb h7
     go_wp2_with fail
     refine hapc.out.mono ?_
     rintro e w9 ⟨v9,rfl,hv9,hf9,hb9⟩
     have hres:=hid (hA.out.below hb9).res
     have hB9:=hid (sn hBX.out hb9)
     have hsz:=hid hBX.out.size
     have hlt:=hid (lt_of_block hA.out.res)
     have hN:=hid (Z3.other (w':=w9.setRow (w.heap.size+1) #[.int .u64 (x:Int),v9]) hv9 (w.heap.size+1) (fun e=>by have:=hf9 _ e;have:=hlt.out;omega) (by simp) (fun k hk=>setRow_other _ _ _ _ hk))
     have hF:=hid (show ∀ k,v9.ownBlock=some k→w.heap.size≤k from fun k hk=>Nat.le_trans hsz.out (hf9 k hk))
     obtain⟨a9,c9,rfl,_,_⟩:=hv9.form
     clear hb9 hv9 hf9 hapc q0 q1
     go_wp2_with (refine wpList_store_row (by rfl) 30 (.tmp 12) (.tmp 51) (by rfl) (w.heap.size+1) #[.int .u64 (x:Int),.slice a9 l.length c9] (by rfl) (by rfl) 30 _ hres.out (by kernel_rfl) (by kernel_rfl) (by kernel_rfl) ?_)
     refine bodyPost_ret (Zy rfl _ _ (w.heap.size+1) _ _ _ _ _ rfl rfl (setRow_heap _ _ _ #[.int .u64 (x:Int),.slice a9 l.length c9] _ _ hres.out) Tryz.underlying30 rfl (by kernel_rfl)) rfl ?_
     refine⟨.slice a9 l.length c9,?_,?_,hF.out,below_setRow hB9.out (by omega) _⟩
     ·rw[hdE.out];rfl
     ·rw[hdE.out];exact hN.out
    have hdE:=hid (show Z3V ⟨x,l⟩ p off b who now=Z2n ⟨x,l⟩ n (ZaC n.data o b) who now by rw[hdT.out,if_neg (by omega),if_neg h7])
    obtain⟨z1,z2⟩:=Z4l (show 0<b.size by omega)
    have hfil:=hid (fun Z=>Z3X n.data o Z (by omega) (by omega))
    clear hdT hfe hdb hapc
    have hfs:(Z3t (Z50 n.data.data.toList o)).size=o:=by rw[Z2F,Z21]
    obtain⟨fb,hfb⟩ : ∃ fb,fb=Z3t (Z50 n.data.data.toList o):=⟨_,rfl⟩
    rw[←hfb]at hfil hfs
    replace hfb:=hid hfb
    obtain⟨E,hE⟩ : ∃ E,E=o+b.size:=⟨_,rfl⟩
    have kq:(o:Int)+(b.size:Int)=(E:Int):=by omega
    obtain⟨fb2,hfb2⟩ : ∃ s,s=fb++b:=⟨_,rfl⟩
    have hf2s:fb2.size=fb.size+b.size:=by rw[hfb2];exact ByteArray.size_append
    obtain⟨m,hm⟩ : ∃ m,m=min E n.data.size:=⟨_,rfl⟩
    have kmn:min (E:Int) (n.data.size:Int)=(m:Int):=by omega
    have kml:(m:Int)≤(n.data.size:Int):=by omega
    obtain⟨tl,htl⟩ : ∃ s,s=n.data.extract m n.data.size:=⟨_,rfl⟩
    obtain⟨nb,hnb⟩ : ∃ s,s=fb2++tl:=⟨_,rfl⟩
    have htls:tl.size≤n.data.size:=by rw[htl,ByteArray.size_extract];omega
    have ks1:¬ 9223372036854775807<fb.size+b.size:=by omega
    have ks2:¬ 9223372036854775807<fb2.size+tl.size:=by omega
    have ec1:fb++b=fb2:=hfb2.symm
    have ec2:fb2++tl=nb:=hnb.symm
    have ec3:n.data.extract m n.data.size=tl:=htl.symm
    have hput:nb=ZaC n.data o b:=by
     rw[hnb,hfb2,htl,hfb.out]
     exact Z9b n.data b o m (by omega)
    rw[←hput]at hdE
    obtain⟨r,hr⟩ : ∃ r,r=Z2n ⟨x,l⟩ n nb who now:=⟨_,rfl⟩
    have hnbs:nb.size≤1000000:=by rw[hput,Z3D];omega
    have hdat:=hid (fun Z (h:Z3 Z (.slice a l.length c) l)=>show Calls Tryz.prog 96 #[.agg #[.int .u64 (x:Int),.slice a l.length c],.agg #[.int .u64 (n.path:Int),.int .u32 (n.vers:Int),.int .u32 (n.mode:Int),.int .u32 (n.atm:Int),.int .u32 (n.mtm:Int),.string n.name,.string n.uid,.string n.gid,.string n.muid,.int .u64 (n.up:Int),.bool n.gone,.string n.data],.string nb,.string who,.int .u32 (now:Int)] Z (Z31 Z (Z2n ⟨x,l⟩ n nb who now)) from Z5H _ x l n nb who now Z h ht.sort (by have:=ht.few;omega) ht.ok hnok ht.low (fun m hm=>by have:=ht.len m hm;omega) (by rw[hpath,hg];rfl) (Z4N hmem) hnbs)
    rw[←hr]at hdE hdat
    replace hr:=hid hr
    replace hput:=hid hput
    replace hf2s:=hid hf2s
    replace htls:=hid htls
    replace hfs:=hid hfs
    replace hfb2:=hid hfb2
    replace htl:=hid htl
    replace hnb:=hid hnb
    replace hE:=hid hE
    replace hm:=hid hm
    replace hnbs:=hid hnbs
    replace hmem:=hid hmem
    replace hpath:=hid hpath
    replace hg:=hid hg
    replace ht:=hid ht
    replace hv:=hid hv
    replace hnok:=hid hnok
    go_wp2_with fail
    clear q0 q1 q2 q11 h1 h2 h3 h4 h5 h6 h7 z1 z2
    have hzX:=hid (lt_of_block hA.out.res)
    have hA:=hA.out.below ((Below.refl X.heap.size X).drew)
    have q0:=hA.t0
    have q1:=hA.t1
    obtain⟨d0,d1,d2,d3,d4,d5,d6,d7,d8,d9,d10,d11⟩:=Z4h hA.nd
    have hBd:=hid (sn hBX.out ((Below.refl X.heap.size X).drew))
    go_region_held3 (fun w'=>w'.cell? ⟨w.heap.size,0,none⟩=some (.int .u64 (x:Int))∧w'.cell? ⟨w.heap.size,1,none⟩=some (.slice a l.length c)∧w'.cell? ⟨z,0,none⟩=some (.int .u64 (n.path:Int))∧w'.cell? ⟨z,1,none⟩=some (.int .u32 (n.vers:Int))∧w'.cell? ⟨z,2,none⟩=some (.int .u32 (n.mode:Int))∧w'.cell? ⟨z,3,none⟩=some (.int .u32 (n.atm:Int))∧w'.cell? ⟨z,4,none⟩=some (.int .u32 (n.mtm:Int))∧w'.cell? ⟨z,5,none⟩=some (.string n.name)∧w'.cell? ⟨z,6,none⟩=some (.string n.uid)∧w'.cell? ⟨z,7,none⟩=some (.string n.gid)∧w'.cell? ⟨z,8,none⟩=some (.string n.muid)∧w'.cell? ⟨z,9,none⟩=some (.int .u64 (n.up:Int))∧w'.cell? ⟨z,10,none⟩=some (.bool n.gone)∧w'.cell? ⟨z,11,none⟩=some (.string n.data))
     (first | exact⟨hA.t0,hA.t1,Z4h hA.nd⟩ | exact⟨(Zaq (hA.two (by omega) (by have:=hs2.out;omega) 0 1 _ _).1).1,(Zaq (hA.two (by omega) (by have:=hs2.out;omega) 0 1 _ _).1).2,Z4h (hA.two (by omega) (by have:=hs2.out;omega) 0 1 _ _).2⟩ | go_keep)
     (first
      |(go_at_call 97;(with_reducible refine(hfil.out _).mono ?_);rintro e w4 ⟨rfl,hb2⟩;replace hA:=hA.below hb2)
      |(go_at_call 96;(with_reducible refine(hdat.out _ hA.row).mono ?_);rintro e w3 ⟨v3,rfl,hv3,hf3,hb3⟩;obtain⟨a3,c3,rfl,_,_⟩:=hv3.form;replace hA:=hA.below hb3;have g0:=Z0 hA.res 0;have g1:=Z0 hA.res 1;have e0:=Zb hA.res 0;have e1:=Zb hA.res 1))
    all_goals
     have hzz:=hid (Zg (Zg hA.res 0 (.int .u64 (r.1.next:Int))) 1 (.slice a3 r.1.n.length c3))
     have hs3:=hb2.size
     have hB3:=hid (sn (sn hBd.out hb2) hb3)
     have hB4:=hid ((hB3.out.setCell (p:=⟨w.heap.size+1,0,none⟩) (by show w.heap.size≤w.heap.size+1;omega) (.int .u64 (r.1.next:Int))).setCell (p:=⟨w.heap.size+1,1,none⟩) (by show w.heap.size≤w.heap.size+1;omega) (.slice a3 r.1.n.length c3))
     have hN:=hid (Z3.other (w':=(w3.setCell ⟨w.heap.size+1,0,none⟩ (.int .u64 (r.1.next:Int))).setCell ⟨w.heap.size+1,1,none⟩ (.slice a3 r.1.n.length c3)) hv3 (w.heap.size+1) (fun e=>by have:=hf3 _ e;have:=hzX.out;simp at hs3;omega) (by simp) (fun k hk=>(Z1 (by show k≠_;exact hk)).trans (Z1 (by show k≠_;exact hk))))
     have hF:=hid (show ∀ k,(Value.slice a3 r.1.n.length c3).ownBlock=some k→w.heap.size≤k from fun k hk=>by have:=hf3 k hk;have:=hzX.out;simp at hs3;omega)
     clear q0 q1 d0 d1 d2 d3 d4 d5 d6 d7 d8 d9 d10 d11 hb2 hb3 hv3 hf3 hA
     go_wp2_with fail
     refine bodyPost_ret (Zy rfl _ _ (w.heap.size+1) _ _ _ _ _ rfl rfl hzz.out Tryz.underlying30 rfl (by kernel_rfl)) rfl ?_
     refine⟨.slice a3 r.1.n.length c3,?_,?_,hF.out,hB4.out⟩
     ·rw[hdE.out];rfl
     ·rw[hdE.out];exact hN.out
   | false =>
    have hoo:o=n.data.size:=by rw[ho,hab.out];rfl
    have hmode:(bits .and .u32 (n.mode:Int) 1073741824 != 0)=true:=hap2
    clear ho hap2 hab
    subst hoo
    by_cases h1:4096<n.data.size
    ·have hdE:=hid (show Z3V ⟨x,l⟩ p off b who now=(⟨x,l⟩,3) by rw[hdT.out,if_pos (.inl h1)])
     have h2:(4096:Int)<(n.data.size:Int):=by omega
     clear hdT hfe hg hdb
     go_wp2_with fail
     refine hapc.out.mono ?_
     rintro e w9 ⟨v9,rfl,hv9,hf9,hb9⟩
     have hres:=hid (hA.out.below hb9).res
     have hB9:=hid (sn hBX.out hb9)
     have hsz:=hid hBX.out.size
     have hlt:=hid (lt_of_block hA.out.res)
     have hN:=hid (Z3.other (w':=w9.setRow (w.heap.size+1) #[.int .u64 (x:Int),v9]) hv9 (w.heap.size+1) (fun e=>by have:=hf9 _ e;have:=hlt.out;omega) (by simp) (fun k hk=>setRow_other _ _ _ _ hk))
     have hF:=hid (show ∀ k,v9.ownBlock=some k→w.heap.size≤k from fun k hk=>Nat.le_trans hsz.out (hf9 k hk))
     obtain⟨a9,c9,rfl,_,_⟩:=hv9.form
     clear hb9 hv9 hf9 hapc q0 q1
     go_wp2_with (refine wpList_store_row (by rfl) 30 (.tmp 12) (.tmp 47) (by rfl) (w.heap.size+1) #[.int .u64 (x:Int),.slice a9 l.length c9] (by rfl) (by rfl) 30 _ hres.out (by kernel_rfl) (by kernel_rfl) (by kernel_rfl) ?_)
     refine bodyPost_ret (Zy rfl _ _ (w.heap.size+1) _ _ _ _ _ rfl rfl (setRow_heap _ _ _ #[.int .u64 (x:Int),.slice a9 l.length c9] _ _ hres.out) Tryz.underlying30 rfl (by kernel_rfl)) rfl ?_
     refine⟨.slice a9 l.length c9,?_,?_,hF.out,below_setRow hB9.out (by omega) _⟩
     ·rw[hdE.out];rfl
     ·rw[hdE.out];exact hN.out
    by_cases h3:4096 - n.data.size<b.size
    ·have hdE:=hid (show Z3V ⟨x,l⟩ p off b who now=(⟨x,l⟩,3) by rw[hdT.out,if_pos (.inr h3)])
     have h2:¬ (4096:Int)<(n.data.size:Int):=by omega
     have h4:(n.data.size:Int)≤4096:=by omega
     have h5:(4096:Int) - (n.data.size:Int)<(b.size:Int):=by omega
     have ksz:IntKind.i64.wrap (n.data.size:Int)=(n.data.size:Int):=IntWalk.i64_in _ (by omega)
     clear hdT hfe hg hdb
     go_wp2_with fail
     refine hapc.out.mono ?_
     rintro e w9 ⟨v9,rfl,hv9,hf9,hb9⟩
     have hres:=hid (hA.out.below hb9).res
     have hB9:=hid (sn hBX.out hb9)
     have hsz:=hid hBX.out.size
     have hlt:=hid (lt_of_block hA.out.res)
     have hN:=hid (Z3.other (w':=w9.setRow (w.heap.size+1) #[.int .u64 (x:Int),v9]) hv9 (w.heap.size+1) (fun e=>by have:=hf9 _ e;have:=hlt.out;omega) (by simp) (fun k hk=>setRow_other _ _ _ _ hk))
     have hF:=hid (show ∀ k,v9.ownBlock=some k→w.heap.size≤k from fun k hk=>Nat.le_trans hsz.out (hf9 k hk))
     obtain⟨a9,c9,rfl,_,_⟩:=hv9.form
     clear hb9 hv9 hf9 hapc q0 q1
     go_wp2_with (refine wpList_store_row (by rfl) 30 (.tmp 12) (.tmp 47) (by rfl) (w.heap.size+1) #[.int .u64 (x:Int),.slice a9 l.length c9] (by rfl) (by rfl) 30 _ hres.out (by kernel_rfl) (by kernel_rfl) (by kernel_rfl) ?_)
     refine bodyPost_ret (Zy rfl _ _ (w.heap.size+1) _ _ _ _ _ rfl rfl (setRow_heap _ _ _ #[.int .u64 (x:Int),.slice a9 l.length c9] _ _ hres.out) Tryz.underlying30 rfl (by kernel_rfl)) rfl ?_
     refine⟨.slice a9 l.length c9,?_,?_,hF.out,below_setRow hB9.out (by omega) _⟩
     ·rw[hdE.out];rfl
     ·rw[hdE.out];exact hN.out
    have h2:¬ (4096:Int)<(n.data.size:Int):=by omega
    have h4:(n.data.size:Int)≤4096:=by omega
    have h5:¬ (4096:Int) - (n.data.size:Int)<(b.size:Int):=by omega
    have h6:(b.size:Int)≤(4096:Int) - (n.data.size:Int):=by omega
    have ksz:IntKind.i64.wrap (n.data.size:Int)=(n.data.size:Int):=IntWalk.i64_in _ (by omega)
    by_cases h7:b.size=0
    ·have hdE:=hid (show Z3V ⟨x,l⟩ p off b who now=(⟨x,l⟩,0) by rw[hdT.out,if_neg (by omega),if_pos h7])
     obtain⟨z1,z2⟩:=Z3w h7
     clear hdT hfe hg hdb h7
     go_wp2_with fail
     refine hapc.out.mono ?_
     rintro e w9 ⟨v9,rfl,hv9,hf9,hb9⟩
     have hres:=hid (hA.out.below hb9).res
     have hB9:=hid (sn hBX.out hb9)
     have hsz:=hid hBX.out.size
     have hlt:=hid (lt_of_block hA.out.res)
     have hN:=hid (Z3.other (w':=w9.setRow (w.heap.size+1) #[.int .u64 (x:Int),v9]) hv9 (w.heap.size+1) (fun e=>by have:=hf9 _ e;have:=hlt.out;omega) (by simp) (fun k hk=>setRow_other _ _ _ _ hk))
     have hF:=hid (show ∀ k,v9.ownBlock=some k→w.heap.size≤k from fun k hk=>Nat.le_trans hsz.out (hf9 k hk))
     obtain⟨a9,c9,rfl,_,_⟩:=hv9.form
     clear hb9 hv9 hf9 hapc q0 q1
     go_wp2_with (refine wpList_store_row (by rfl) 30 (.tmp 12) (.tmp 51) (by rfl) (w.heap.size+1) #[.int .u64 (x:Int),.slice a9 l.length c9] (by rfl) (by rfl) 30 _ hres.out (by kernel_rfl) (by kernel_rfl) (by kernel_rfl) ?_)
     refine bodyPost_ret (Zy rfl _ _ (w.heap.size+1) _ _ _ _ _ rfl rfl (setRow_heap _ _ _ #[.int .u64 (x:Int),.slice a9 l.length c9] _ _ hres.out) Tryz.underlying30 rfl (by kernel_rfl)) rfl ?_
     refine⟨.slice a9 l.length c9,?_,?_,hF.out,below_setRow hB9.out (by omega) _⟩
     ·rw[hdE.out];rfl
     ·rw[hdE.out];exact hN.out
    have hdE:=hid (show Z3V ⟨x,l⟩ p off b who now=Z2n ⟨x,l⟩ n (ZaC n.data n.data.size b) who now by rw[hdT.out,if_neg (by omega),if_neg h7])
    obtain⟨z1,z2⟩:=Z4l (show 0<b.size by omega)
    have hfil:=hid (fun Z=>Z3X n.data n.data.size Z (by omega) (by omega))
    clear hdT hfe hdb hapc
    have hfs:(Z3t (Z50 n.data.data.toList n.data.size)).size=n.data.size:=by rw[Z2F,Z21]
    obtain⟨fb,hfb⟩ : ∃ fb,fb=Z3t (Z50 n.data.data.toList n.data.size):=⟨_,rfl⟩
    rw[←hfb]at hfil hfs
    replace hfb:=hid hfb
    obtain⟨E,hE⟩ : ∃ E,E=n.data.size+b.size:=⟨_,rfl⟩
    have kq:(n.data.size:Int)+(b.size:Int)=(E:Int):=by omega
    obtain⟨fb2,hfb2⟩ : ∃ s,s=fb++b:=⟨_,rfl⟩
    have hf2s:fb2.size=fb.size+b.size:=by rw[hfb2];exact ByteArray.size_append
    obtain⟨m,hm⟩ : ∃ m,m=min E n.data.size:=⟨_,rfl⟩
    have kmn:min (E:Int) (n.data.size:Int)=(m:Int):=by omega
    have kml:(m:Int)≤(n.data.size:Int):=by omega
    obtain⟨tl,htl⟩ : ∃ s,s=n.data.extract m n.data.size:=⟨_,rfl⟩
    obtain⟨nb,hnb⟩ : ∃ s,s=fb2++tl:=⟨_,rfl⟩
    have htls:tl.size≤n.data.size:=by rw[htl,ByteArray.size_extract];omega
    have ks1:¬ 9223372036854775807<fb.size+b.size:=by omega
    have ks2:¬ 9223372036854775807<fb2.size+tl.size:=by omega
    have ec1:fb++b=fb2:=hfb2.symm
    have ec2:fb2++tl=nb:=hnb.symm
    have ec3:n.data.extract m n.data.size=tl:=htl.symm
    have hput:nb=ZaC n.data n.data.size b:=by
     rw[hnb,hfb2,htl,hfb.out]
     exact Z9b n.data b n.data.size m (by omega)
    rw[←hput]at hdE
    obtain⟨r,hr⟩ : ∃ r,r=Z2n ⟨x,l⟩ n nb who now:=⟨_,rfl⟩
    have hnbs:nb.size≤1000000:=by rw[hput,Z3D];omega
    have hdat:=hid (fun Z (h:Z3 Z (.slice a l.length c) l)=>show Calls Tryz.prog 96 #[.agg #[.int .u64 (x:Int),.slice a l.length c],.agg #[.int .u64 (n.path:Int),.int .u32 (n.vers:Int),.int .u32 (n.mode:Int),.int .u32 (n.atm:Int),.int .u32 (n.mtm:Int),.string n.name,.string n.uid,.string n.gid,.string n.muid,.int .u64 (n.up:Int),.bool n.gone,.string n.data],.string nb,.string who,.int .u32 (now:Int)] Z (Z31 Z (Z2n ⟨x,l⟩ n nb who now)) from Z5H _ x l n nb who now Z h ht.sort (by have:=ht.few;omega) ht.ok hnok ht.low (fun m hm=>by have:=ht.len m hm;omega) (by rw[hpath,hg];rfl) (Z4N hmem) hnbs)
    rw[←hr]at hdE hdat
    replace hr:=hid hr
    replace hput:=hid hput
    replace hf2s:=hid hf2s
    replace htls:=hid htls
    replace hfs:=hid hfs
    replace hfb2:=hid hfb2
    replace htl:=hid htl
    replace hnb:=hid hnb
    replace hE:=hid hE
    replace hm:=hid hm
    replace hnbs:=hid hnbs
    replace hmem:=hid hmem
    replace hpath:=hid hpath
    replace hg:=hid hg
    replace ht:=hid ht
    replace hv:=hid hv
    replace hnok:=hid hnok
    go_wp2_with fail
    clear q0 q1 q2 q11 h1 h2 h3 h4 h5 h6 h7 z1 z2
    have hzX:=hid (lt_of_block hA.out.res)
    have hA:=hA.out.below ((Below.refl X.heap.size X).drew)
    have q0:=hA.t0
    have q1:=hA.t1
    obtain⟨d0,d1,d2,d3,d4,d5,d6,d7,d8,d9,d10,d11⟩:=Z4h hA.nd
    have hBd:=hid (sn hBX.out ((Below.refl X.heap.size X).drew))
    go_region_held3 (fun w'=>w'.cell? ⟨w.heap.size,0,none⟩=some (.int .u64 (x:Int))∧w'.cell? ⟨w.heap.size,1,none⟩=some (.slice a l.length c)∧w'.cell? ⟨z,0,none⟩=some (.int .u64 (n.path:Int))∧w'.cell? ⟨z,1,none⟩=some (.int .u32 (n.vers:Int))∧w'.cell? ⟨z,2,none⟩=some (.int .u32 (n.mode:Int))∧w'.cell? ⟨z,3,none⟩=some (.int .u32 (n.atm:Int))∧w'.cell? ⟨z,4,none⟩=some (.int .u32 (n.mtm:Int))∧w'.cell? ⟨z,5,none⟩=some (.string n.name)∧w'.cell? ⟨z,6,none⟩=some (.string n.uid)∧w'.cell? ⟨z,7,none⟩=some (.string n.gid)∧w'.cell? ⟨z,8,none⟩=some (.string n.muid)∧w'.cell? ⟨z,9,none⟩=some (.int .u64 (n.up:Int))∧w'.cell? ⟨z,10,none⟩=some (.bool n.gone)∧w'.cell? ⟨z,11,none⟩=some (.string n.data))
     (first | exact⟨hA.t0,hA.t1,Z4h hA.nd⟩ | exact⟨(Zaq (hA.two (by omega) (by have:=hs2.out;omega) 0 1 _ _).1).1,(Zaq (hA.two (by omega) (by have:=hs2.out;omega) 0 1 _ _).1).2,Z4h (hA.two (by omega) (by have:=hs2.out;omega) 0 1 _ _).2⟩ | go_keep)
     (first
      |(go_at_call 97;(with_reducible refine(hfil.out _).mono ?_);rintro e w4 ⟨rfl,hb2⟩;replace hA:=hA.below hb2)
      |(go_at_call 96;(with_reducible refine(hdat.out _ hA.row).mono ?_);rintro e w3 ⟨v3,rfl,hv3,hf3,hb3⟩;obtain⟨a3,c3,rfl,_,_⟩:=hv3.form;replace hA:=hA.below hb3;have g0:=Z0 hA.res 0;have g1:=Z0 hA.res 1;have e0:=Zb hA.res 0;have e1:=Zb hA.res 1))
    all_goals
     have hzz:=hid (Zg (Zg hA.res 0 (.int .u64 (r.1.next:Int))) 1 (.slice a3 r.1.n.length c3))
     have hs3:=hb2.size
     have hB3:=hid (sn (sn hBd.out hb2) hb3)
     have hB4:=hid ((hB3.out.setCell (p:=⟨w.heap.size+1,0,none⟩) (by show w.heap.size≤w.heap.size+1;omega) (.int .u64 (r.1.next:Int))).setCell (p:=⟨w.heap.size+1,1,none⟩) (by show w.heap.size≤w.heap.size+1;omega) (.slice a3 r.1.n.length c3))
     have hN:=hid (Z3.other (w':=(w3.setCell ⟨w.heap.size+1,0,none⟩ (.int .u64 (r.1.next:Int))).setCell ⟨w.heap.size+1,1,none⟩ (.slice a3 r.1.n.length c3)) hv3 (w.heap.size+1) (fun e=>by have:=hf3 _ e;have:=hzX.out;simp at hs3;omega) (by simp) (fun k hk=>(Z1 (by show k≠_;exact hk)).trans (Z1 (by show k≠_;exact hk))))
     have hF:=hid (show ∀ k,(Value.slice a3 r.1.n.length c3).ownBlock=some k→w.heap.size≤k from fun k hk=>by have:=hf3 k hk;have:=hzX.out;simp at hs3;omega)
     clear q0 q1 d0 d1 d2 d3 d4 d5 d6 d7 d8 d9 d10 d11 hb2 hb3 hv3 hf3 hA
     go_wp2_with fail
     refine bodyPost_ret (Zy rfl _ _ (w.heap.size+1) _ _ _ _ _ rfl rfl hzz.out Tryz.underlying30 rfl (by kernel_rfl)) rfl ?_
     refine⟨.slice a3 r.1.n.length c3,?_,?_,hF.out,hB4.out⟩
     ·rw[hdE.out];rfl
     ·rw[hdE.out];exact hN.out
end
section
open Go.RowKit
def ZaX (w:World) (r:Tr×Bool) (e:Ending) (w':World):Prop:=∃ v',e=.returned (.tuple #[.agg #[.int .u64 (r.1.next:Int),v'],.bool r.2])∧Z3 w' v' r.1.n∧(∀ k,v'.ownBlock=some k→w.heap.size≤k)∧Below w.heap.size w w'
set_option maxHeartbeats 3200000 in
theorem Z9c (v:Value) (x:Nat) (l:List Nod) (p:Nat) (w:World) (hv:Z3 w v l) (ht:TrOk l) :
  Calls Tryz.prog 98 #[.agg #[.int .u64 (x:Int),v],.int .u64 (p:Int)] w (ZaX w (Z1O ⟨x,l⟩ p)):=by
 obtain⟨a,c,rfl,g1,g2⟩:=hv.form
 unfold maxLen at g2
 obtain⟨W,hW⟩ : ∃ W,W=(w.alloc (.cells #[.int .u64 (x:Int),.slice a l.length c] 30)).alloc (.cells #[.int .u64 0,.slice none 0 0] 30):=⟨_,rfl⟩
 have hb0:Below w.heap.size w W:=by rw[hW];exact((Below.refl w.heap.size w).alloc (Nat.le_refl _) _).alloc (by simp) _
 have hx0:W.heap[w.heap.size]?=some (.cells #[.int .u64 (x:Int),.slice a l.length c] 30 (0,0)):=by rw[hW,heap_alloc_old _ _ (by simp),heap_alloc_new]
 have hy0:W.heap[w.heap.size+1]?=some (.cells #[.int .u64 0,.slice none 0 0] 30 (0,0)):=by rw[hW];exact Z27 _ _ _
 have hfi:=hid (Z22 _ x l p W (hv.below hb0) ht.sort (by have:=ht.few;omega))
 have hap:=hid (fun X (h:Z3 X (.slice a l.length c) l)=>Z2r _ x l X h (by have:=ht.few;omega) ht.low)
 have e0:=Z0 hx0 0
 have e1:=Z0 hx0 1
 have hv0:=hid (hv.below hb0)
 replace hb0:=hid hb0
 replace hx0:=hid hx0
 replace hy0:=hid hy0
 go_enter Tryz.func98,Tryz.ntmps98
 go_upto_region 1 with (rw[←hW];replace hW:=hid hW)
 try (rw[←hW];replace hW:=hid hW)
 go_wp2_with fail
 refine hfi.out.mono ?_
 rintro e w2 ⟨rfl,hb2⟩
 have hB2:=hid (sn hb0.out hb2)
 have hs2:=hid (lt_of_block ((hb2.block _ (lt_of_block hy0.out)).trans hy0.out))
 obtain⟨n,hn⟩ : ∃ n,n=Z1M l p:=⟨_,rfl⟩
 have hnew:=hid (heap_alloc_new w2 (.cells Zk.cells 89))
 obtain⟨X,hX⟩ : ∃ W,W=Z1J w2 n:=⟨_,rfl⟩
 have hbX:Below w2.heap.size w2 X:=by rw[hX];exact ZD _ _
 have hBX:=hid (sn hB2.out hbX)
 have hA:TrSt w.heap.size w2.heap.size (w.heap.size+1) x (.slice a l.length c) l n X :=
  ⟨(hbX.block _ (by have:=hs2.out;omega)).trans ((hb2.block _ (lt_of_block hx0.out)).trans hx0.out),by rw[hX];exact ZK _ _,(hbX.block _ hs2.out).trans ((hb2.block _ (lt_of_block hy0.out)).trans hy0.out),(hv0.out.below hb2).below hbX⟩
 have hapc:=hid (hap.out X hA.row)
 have q0:=hA.t0
 have q1:=hA.t1
 unfold Z1J at hX
 rw[Zc]at hX hnew
 rw[←hn]
 clear hb2 hbX hfi hap e0 e1 hB2 hx0 hy0 hv0 hb0
 replace hA:=hid hA
 replace hn:=hid hn
 go_upto_region 2 with (first
  |(rw[←hX];replace hX:=hid hX)
  |(refine wpList_store_row (by rfl) 89 (.tmp 6) (.tmp 12) (by rfl) w2.heap.size n.cells (by rfl) (by rfl) 89 _ hnew.out (by kernel_rfl) (by kernel_rfl) (Zw n) ?_))
 try (rw[←hX];replace hX:=hid hX)
 clear hnew
 generalize w2.heap.size=z at *
 have q10:X.cell? ⟨z,10,none⟩=some (.bool n.gone):=Z0 hA.out.nd 10
 cases hg:ZM l p with
 | none =>
  have hdE:=hid (show Z1O ⟨x,l⟩ p=(⟨x,l⟩,false) by unfold Z1O;rw[hg])
  simp only[Option.isSome_none]
  clear hg
  go_wp2_with fail
  refine hapc.out.mono ?_
  rintro e w9 ⟨v9,rfl,hv9,hf9,hb9⟩
  have hres:=hid (hA.out.below hb9).res
  have hB9:=hid (sn hBX.out hb9)
  have hsz:=hid hBX.out.size
  have hlt:=hid (lt_of_block hA.out.res)
  have hN:=hid (Z3.other (w':=w9.setRow (w.heap.size+1) #[.int .u64 (x:Int),v9]) hv9 (w.heap.size+1) (fun e=>by have:=hf9 _ e;have:=hlt.out;omega) (by simp) (fun k hk=>setRow_other _ _ _ _ hk))
  have hF:=hid (show ∀ k,v9.ownBlock=some k→w.heap.size≤k from fun k hk=>Nat.le_trans hsz.out (hf9 k hk))
  obtain⟨a9,c9,rfl,_,_⟩:=hv9.form
  clear hb9 hv9 hf9 hapc q0 q1 q10
  go_wp2_with (refine wpList_store_row (by rfl) 30 (.tmp 4) (.tmp 22) (by rfl) (w.heap.size+1) #[.int .u64 (x:Int),.slice a9 l.length c9] (by rfl) (by rfl) 30 _ hres.out (by kernel_rfl) (by kernel_rfl) (by kernel_rfl) ?_)
  refine bodyPost_ret (Zy rfl _ _ (w.heap.size+1) _ _ _ _ _ rfl rfl (setRow_heap _ _ _ #[.int .u64 (x:Int),.slice a9 l.length c9] _ _ hres.out) Tryz.underlying30 rfl (by kernel_rfl)) rfl ?_
  refine⟨.slice a9 l.length c9,?_,?_,hF.out,below_setRow hB9.out (by omega) _⟩
  ·rw[hdE.out];rfl
  ·rw[hdE.out];exact hN.out
 | some y =>
  have hny:n=y:=by rw[hn.out];unfold Z1M;rw[hg];rfl
  subst hny
  simp only[Option.isSome_some]
  cases hgn:n.gone with
  | false =>
   have hdE:=hid (show Z1O ⟨x,l⟩ p=(⟨x,l⟩,false) by unfold Z1O;rw[hg];simp only;rw[hgn];rfl)
   rw[hgn]at q10
   clear hg hgn
   go_wp2_with fail
   refine hapc.out.mono ?_
   rintro e w9 ⟨v9,rfl,hv9,hf9,hb9⟩
   have hres:=hid (hA.out.below hb9).res
   have hB9:=hid (sn hBX.out hb9)
   have hsz:=hid hBX.out.size
   have hlt:=hid (lt_of_block hA.out.res)
   have hN:=hid (Z3.other (w':=w9.setRow (w.heap.size+1) #[.int .u64 (x:Int),v9]) hv9 (w.heap.size+1) (fun e=>by have:=hf9 _ e;have:=hlt.out;omega) (by simp) (fun k hk=>setRow_other _ _ _ _ hk))
   have hF:=hid (show ∀ k,v9.ownBlock=some k→w.heap.size≤k from fun k hk=>Nat.le_trans hsz.out (hf9 k hk))
   obtain⟨a9,c9,rfl,_,_⟩:=hv9.form
   clear hb9 hv9 hf9 hapc q0 q1 q10
   go_wp2_with (refine wpList_store_row (by rfl) 30 (.tmp 4) (.tmp 22) (by rfl) (w.heap.size+1) #[.int .u64 (x:Int),.slice a9 l.length c9] (by rfl) (by rfl) 30 _ hres.out (by kernel_rfl) (by kernel_rfl) (by kernel_rfl) ?_)
   refine bodyPost_ret (Zy rfl _ _ (w.heap.size+1) _ _ _ _ _ rfl rfl (setRow_heap _ _ _ #[.int .u64 (x:Int),.slice a9 l.length c9] _ _ hres.out) Tryz.underlying30 rfl (by kernel_rfl)) rfl ?_
   refine⟨.slice a9 l.length c9,?_,?_,hF.out,below_setRow hB9.out (by omega) _⟩
   ·rw[hdE.out];rfl
   ·rw[hdE.out];exact hN.out
  | true =>
   have hdE:=hid (show Z1O ⟨x,l⟩ p=(⟨x,Z1G l p⟩,true) by unfold Z1O;rw[hg];simp only;rw[hgn];rfl)
   rw[hgn]at q10
   have hdrp:=hid (Z4M _ x l p X hA.out.row (by have:=ht.few;omega))
   clear hg hgn hapc
   go_wp2_with fail
   refine hdrp.out.mono ?_
   rintro e w9 ⟨v9,rfl,hv9,hf9,hb9⟩
   have hres:=hid (hA.out.below hb9).res
   have hB9:=hid (sn hBX.out hb9)
   have hsz:=hid hBX.out.size
   have hlt:=hid (lt_of_block hA.out.res)
   have hN:=hid (Z3.other (w':=w9.setRow (w.heap.size+1) #[.int .u64 (x:Int),v9]) hv9 (w.heap.size+1) (fun e=>by have:=hf9 _ e;have:=hlt.out;omega) (by simp) (fun k hk=>setRow_other _ _ _ _ hk))
   have hF:=hid (show ∀ k,v9.ownBlock=some k→w.heap.size≤k from fun k hk=>Nat.le_trans hsz.out (hf9 k hk))
   obtain⟨a9,c9,rfl,_,_⟩:=hv9.form
   clear hb9 hv9 hf9 hdrp q0 q1 q10
   go_wp2_with (refine wpList_store_row (by rfl) 30 (.tmp 4) (.tmp 25) (by rfl) (w.heap.size+1) #[.int .u64 (x:Int),.slice a9 (Z1G l p).length c9] (by rfl) (by rfl) 30 _ hres.out (by kernel_rfl) (by kernel_rfl) (by kernel_rfl) ?_)
   refine bodyPost_ret (Zy rfl _ _ (w.heap.size+1) _ _ _ _ _ rfl rfl (setRow_heap _ _ _ #[.int .u64 (x:Int),.slice a9 (Z1G l p).length c9] _ _ hres.out) Tryz.underlying30 rfl (by kernel_rfl)) rfl ?_
   refine⟨.slice a9 (Z1G l p).length c9,?_,?_,hF.out,below_setRow hB9.out (by omega) _⟩
   ·rw[hdE.out];rfl
   ·rw[hdE.out];exact hN.out
end
section
open Go.RowKit Go.Maps
structure FStep (b m:Nat) (w w':World):Prop where
 below : ∀ B,B≤b→B≤m→B≤w.heap.size→Below B w w'
 block : ∀ k,k<w.heap.size→k≠b→k≠m→w'.heap[k]?=w.heap[k]?
 size:w.heap.size≤w'.heap.size
theorem FStep.refl (b m:Nat) (w:World):FStep b m w w:=⟨fun _ _ _ _=>Below.refl _ _,fun _ _ _ _=>rfl,Nat.le_refl _⟩
theorem FStep.trans {b m:Nat} {w w1 w2:World} (h:FStep b m w w1) (k:FStep b m w1 w2):FStep b m w w2 :=
 ⟨fun B h1 h2 h3=>(h.below B h1 h2 h3).trans (k.below B h1 h2 (Nat.le_trans h3 h.size)),fun j hj h1 h2=>(k.block j (Nat.lt_of_lt_of_le hj h.size) h1 h2).trans (h.block j hj h1 h2),Nat.le_trans h.size k.size⟩
theorem FStep.pure {b m:Nat} {w w':World} (h:Below w.heap.size w w'):FStep b m w w':=⟨fun B _ _ h3=>h.mono h3,fun k hk _ _=>h.block k hk,h.size⟩
theorem FStep.cell {b m i:Nat} {w:World} (u:Value):FStep b m w (w.setCell ⟨b,i,none⟩ u) :=
 ⟨fun B h1 _ _=>(Below.refl B w).setCell h1 u,fun k _ h1 _=>Z1 h1,by simp[World.setCell]⟩
theorem FStep.turned {b m:Nat} {w w':World} (h:w.mapTurned w' m):FStep b m w w' :=
 ⟨fun B _ h2 h3=>(Below.refl B w).grown h.grown h3 (fun j hj=>by cases hj;exact h2),fun k hk _ h2=>h.grown.block k hk (fun e=>h2 (by injection e)),h.grown.size⟩
structure FSo (w:World) (b m:Nat) (v:Value) (p:Nat) (f:FsV) (u:Usr) (n:Nat):Prop where
 ne:b≠m
 blk:w.heap[b]?=some (.cells #[.int .u64 (f.t.next:Int),v,.pointer (some ⟨p,0,none⟩),.int .u32 (f.now:Int),.map (some m)] 93 (0,0))
 row:Z3 w v f.t.n
 nb:v.ownBlock≠some b
 nm:v.ownBlock≠some m
 tab : ∃ W0,Z2Z W0 p u.us u.gs∧Below W0.heap.size W0 w∧W0.heap.size≤b∧W0.heap.size≤m
 map:MapAt w m n f.by_
theorem FSo.tabs {w:World} {b m p n:Nat} {v:Value} {f:FsV} {u:Usr} (h:FSo w b m v p f u n):Z2Z w p u.us u.gs:=by
 obtain⟨W0,h1,h2,_⟩:=h.tab
 exact h1.below h2
theorem FSo.below {w w':World} {b m p n:Nat} {v:Value} {f:FsV} {u:Usr} (h:FSo w b m v p f u n) (hb:Below w.heap.size w w'):FSo w' b m v p f u n:=by
 obtain⟨W0,h1,h2,h3,h4⟩:=h.tab
 exact⟨h.ne,(hb.block _ (lt_of_block h.blk)).trans h.blk,h.row.below hb,h.nb,h.nm,⟨W0,h1,h2.trans (hb.mono h2.size),h3,h4⟩,h.map.kept (hb.block _ h.map.lt)⟩
theorem FSo.put {w:World} {b m p n:Nat} {v v':Value} {f:FsV} {u:Usr} (h:FSo w b m v p f u n) (t:Tr) (hv:Z3 w v' t.n) (nb:v'.ownBlock≠some b) (nm:v'.ownBlock≠some m) :
  FSo ((w.setCell ⟨b,0,none⟩ (.int .u64 (t.next:Int))).setCell ⟨b,1,none⟩ v') b m v' p (f.set t) u n:=by
 obtain⟨W0,h1,h2,h3,h4⟩:=h.tab
 have hk : ∀ k,k≠b→((w.setCell ⟨b,0,none⟩ (.int .u64 (t.next:Int))).setCell ⟨b,1,none⟩ v').heap[k]?=w.heap[k]?:=fun k hk=>(Z1 hk).trans (Z1 hk)
 refine⟨h.ne,Zg (Zg h.blk 0 _) 1 _,Z3.other hv b nb (by simp[World.setCell]) hk,nb,nm,⟨W0,h1,(h2.setCell (p:=⟨b,0,none⟩) h3 _).setCell (p:=⟨b,1,none⟩) h3 _,h3,h4⟩,h.map.kept (hk m (Ne.symm h.ne))⟩
theorem FSo.turn {w w':World} {b m p n n':Nat} {v:Value} {f:FsV} {u:Usr} {F:Nat→Nat×Nat} (h:FSo w b m v p f u n) (ht:w.mapTurned w' m) (hm:MapAt w' m n' F):FSo w' b m v p ⟨f.t,f.now,F⟩ u n':=by
 obtain⟨W0,h1,h2,h3,h4⟩:=h.tab
 have hk : ∀ k,k<w.heap.size→k≠m→w'.heap[k]?=w.heap[k]?:=fun k hk hne=>ht.grown.block k hk (fun e=>hne (by injection e))
 have hkk : ∀ k,k≠m→w'.heap[k]?=w.heap[k]?:=fun k hne=>by
  obtain⟨es,clock,es',clock',hb,rfl⟩:=ht
  exact Go.ChangeMaps.heap_setBlock_other hb _ hne
 exact⟨h.ne,(hk b (lt_of_block h.blk) h.ne).trans h.blk,Z3.other h.row m h.nm ht.grown.size (fun k hne=>hkk k hne),h.nb,h.nm,⟨W0,h1,h2.grown ht.grown h2.size (fun j hj=>by cases hj;exact h4),h3,h4⟩,hm⟩
theorem FSo.mono {w:World} {b m p n n':Nat} {v:Value} {f:FsV} {u:Usr} (h:FSo w b m v p f u n) (hn:n≤n'):FSo w b m v p f u n':=⟨h.ne,h.blk,h.row,h.nb,h.nm,h.tab,h.map.mono hn⟩
end
section
open Go.RowKit Go.Maps
section
variable {o:Oper} {a:Act} {ops:Array Oper} {rest:List Oper} {w:World} {Q:Exit→Act→World→Prop}
theorem ZaY (hg:o.guard=none) (x y:Operand) (hop:o.op=Op.lookup 91 x y false) {m n q:Nat} {F:Nat→Nat×Nat} (hx:a.eval x=.map (some m)) (hy:a.eval y=.int .u64 (q:Int)) (hM:MapAt w m n F) (hq:q<18446744073709551616)
  (hK:wpList Tryz.prog ops Q rest (a.put o.dst (.agg #[.int .i64 ((F q).1:Int),.int .i64 ((F q).2:Int)])) w):wpList Tryz.prog ops Q (o :: rest) a w:=by
 refine wpList_plain hg fun K' hK'=>?_
 have hr:=hM.look q hq
 unfold Oper.wp
 simp[execOp,hop,hx,hy,hr,Result.andThen]
 exact hK' _ _ hK
end
end
section
open Go.RowKit Go.Maps
def Zar (w:World) (i j:Nat):World:=(w.alloc (.cells #[.int .i64 0,.int .i64 0] 107)).setRow w.heap.size #[.int .i64 (i:Int),.int .i64 (j:Int)]
theorem Z3F (w:World) (i j:Nat):(Zar w i j).heap[w.heap.size]?=some (.cells #[.int .i64 (i:Int),.int .i64 (j:Int)] 107 (0,0)):=setRow_heap _ _ _ _ _ _ (heap_alloc_new _ _)
theorem Z3d (w:World) (i j:Nat):Below w.heap.size w (Zar w i j):=below_setRow ((Below.refl _ _).alloc (Nat.le_refl _) _) (Nat.le_refl _) _
theorem Z2S (b m p n:Nat) (v:Value) (f:FsV) (u:Usr) (q:Nat) (w:World) (h:FSo w b m v p f u n) (hq:q<18446744073709551616) (hn:n<1000000) :
  Calls Tryz.prog 44 #[.pointer (some ⟨b,0,none⟩),.int .u64 (q:Int)] w fun e w'=>e=.returned (.tuple #[])∧FSo w' b m v p (ZP f q) u (n+1)∧FStep b m w w':=by
 have hle:=h.map.le q
 obtain⟨i,hi⟩ : ∃ i,i=(f.by_ q).1:=⟨_,rfl⟩
 obtain⟨j,hj⟩ : ∃ j,j=(f.by_ q).2:=⟨_,rfl⟩
 have hE:Hid (ZP f q=⟨f.t,f.now,upd f.by_ q (i,j+1)⟩):=hid (by unfold ZP;rw[hi,hj])
 rw[←hi,←hj]at hle
 obtain⟨j1,hj1⟩ : ∃ j1,j1=j+1:=⟨_,rfl⟩
 have hj2:i≤n+1∧j1≤n+1:=by omega
 have hadd:IntKind.i64.wrap ((j:Int)+1)=(j1:Int):=by rw[show(j1:Int)=(j:Int)+1 by omega];exact IntWalk.i64_in _ (by omega)
 rw[←hj1]at hE
 have h4:=Z0 h.blk 4
 have hM:=hid h.map
 obtain⟨Y,hY⟩ : ∃ Y,Y=Zar w i j:=⟨_,rfl⟩
 have hYn:Y.heap[w.heap.size]?=some (.cells #[.int .i64 (i:Int),.int .i64 (j:Int)] 107 (0,0)):=by rw[hY];exact Z3F _ _ _
 have hYb:Below w.heap.size w Y:=by rw[hY];exact Z3d _ _ _
 obtain⟨X,hX⟩ : ∃ X,X=Y.setCell ⟨w.heap.size,1,none⟩ (.int .i64 (j1:Int)):=⟨_,rfl⟩
 have hXn:X.heap[w.heap.size]?=some (.cells #[.int .i64 (i:Int),.int .i64 (j1:Int)] 107 (0,0)):=by rw[hX];exact Zg hYn 1 _
 have hXb:Below w.heap.size w X:=by rw[hX];exact hYb.setCell (Nat.le_refl _) _
 have hFX:=hid (h.below hXb)
 have hS:=hid (FStep.pure (b:=b) (m:=m) hXb)
 have hnew:=hid (heap_alloc_new w (.cells #[.int .i64 0,.int .i64 0] 107))
 have y1:Y.cell? ⟨w.heap.size,1,none⟩=some (.int .i64 (j:Int)):=Z0 hYn 1
 have z1:Y.frozen? ⟨w.heap.size,1,none⟩=false:=Zb hYn 1
 have x0:X.cell? ⟨w.heap.size,0,none⟩=some (.int .i64 (i:Int)):=Z0 hXn 0
 have x1:X.cell? ⟨w.heap.size,1,none⟩=some (.int .i64 (j1:Int)):=Z0 hXn 1
 have x4:X.cell? ⟨b,4,none⟩=some (.map (some m)):=Z0 hFX.out.blk 4
 unfold Zar at hY
 clear hYn hYb hXn hXb h
 replace hi:=hid hi
 replace hj1:=hid hj1
 replace hj2:=hid hj2
 clear hle
 replace hj:=hid hj
 go_enter Tryz.func44,Tryz.ntmps44
 go_wp2_with (first
  |(at_lookup;refine ZaY rfl (.tmp 8) (.tmp 9) rfl (m:=m) (n:=n) (q:=q) (F:=f.by_) rfl rfl hM.out hq ?_;rw[←hi.out,←hj.out])
  |(rw[←hX];replace hX:=hid hX)
  |(rw[←hY];replace hY:=hid hY)
  |(refine wpList_store_row (by rfl) 107 (.tmp 4) (.tmp 10) (by rfl) w.heap.size #[.int .i64 (i:Int),.int .i64 (j:Int)] (by rfl) (by rfl) 107 _ hnew.out (by kernel_rfl) (by kernel_rfl) (by kernel_rfl) ?_))
 obtain⟨w',hrun,hm',ht'⟩:=(show MapAt X.drew m n f.by_ from hFX.out.map.kept rfl).put q hq hn (i,j1) hj2.out
 simp only at hrun
 replace hm':=hid hm'
 replace ht':=hid ht'
 go_region
 all_goals
  go_end0
  refine⟨rfl,?_,?_⟩
  ·rw[hE.out];exact(hFX.out.below ((Below.refl _ _).drew)).turn ht'.out hm'.out
  ·exact hS.out.trans ((FStep.pure (Below.refl _ _).drew).trans (FStep.turned ht'.out))
end
end Go.Proofs.YtkefjeabckainaaGreat
