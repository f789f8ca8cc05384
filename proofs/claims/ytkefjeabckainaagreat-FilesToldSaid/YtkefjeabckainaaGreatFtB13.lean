/- Make of package tree. Conditions: what TrOk asks, every path below the next.
Lists sorted in pieces: what the steps of a stable merging sort do to a list. Plain. No condition.
The comparison of two nodes by name, walked. No condition. -/
import Derived.Test.YtkefjeabckainaaGreatFtB12
import Derived.Test.YtkefjeabckainaaGreatFtB01
import Derived.Sort.Walk0
namespace Go.Proofs.YtkefjeabckainaaGreat
set_option maxRecDepth 100000
set_option linter.unusedVariables false
section
open Go.RowKit
def ZdI (w:World) (r:Tr×Nat×Nat) (e:Ending) (w':World):Prop:=∃ v',e=.returned (.tuple #[.agg #[.int .u64 (r.1.next:Int),v'],.int .u64 (r.2.1:Int),.int .i64 (r.2.2:Int)])∧Z3 w' v' r.1.n∧(∀ k,v'.ownBlock=some k→w.heap.size≤k)∧Below w.heap.size w w'
theorem TrSt.twoK {p q r x:Nat} {v:Value} {l:List Nod} {n:Nod} {w:World} (h:TrSt p q r x v l n w) {k:Nat} (hp:p≠k) (hq:q≠k) (i j:Nat) (u1 u2:Value) :
  ((w.setCell ⟨k,i,none⟩ u1).setCell ⟨k,j,none⟩ u2).heap[p]?=some (.cells #[.int .u64 (x:Int),v] 30 (0,0))∧((w.setCell ⟨k,i,none⟩ u1).setCell ⟨k,j,none⟩ u2).heap[q]?=some (.cells n.cells 89 (0,0)) :=
 ⟨(Z1 (by show p≠k;exact hp)).trans ((Z1 (by show p≠k;exact hp)).trans h.tr),(Z1 (by show q≠k;exact hq)).trans ((Z1 (by show q≠k;exact hq)).trans h.nd)⟩
theorem Z9j (t:Tr) (d:Nat) (name:ByteArray) (mode:Nat) (uid gid:ByteArray) (now:Nat) (x:Nod) (hg:ZM t.n d=some x) (h1:ZF x=true) (h2:x.gone=false) (hlow : ∀ n∈t.n,1≤n.path):Z11 t d name mode uid gid now=if Z8D t.n d name 0≠0 then(t,0,Z8D t.n d name 0) else if 64≤t.n.length then(t,0,14) else(⟨t.next+1,Z1B (Z1B t.n (ZW x uid now)) (Zdy t.next mode now name uid gid d)⟩,t.next,0):=by
 unfold Z11 Z8D
 rw[hg]
 simp only
 rw[if_neg (by rw[h1];simp),h2,if_neg (by simp)]
 by_cases hn:ZJ name=0
 ·have hn':¬ (ZJ name≠0):=fun h=>h hn
  simp only[if_neg hn']
  cases hf:Z1F t.n d name with
  | none=>simp
  | some y =>
   have hy:=hlow y (Z57 hf).1
   have:y.path≠0:=by omega
   simp[this]
 ·have hn':ZJ name≠0:=hn
  simp only[if_pos hn']
set_option maxHeartbeats 6400000 in
theorem Z4Q (v:Value) (x:Nat) (l:List Nod) (p:Nat) (name:ByteArray) (mode:Nat) (uid gid:ByteArray) (now:Nat) (w:World) (hv:Z3 w v l) (ht:TrOk l) (hname:name.size≤maxLen) (hx:x+1<18446744073709551616) (hnext : ∀ n∈l,n.path<x) (hmode:mode<4294967296) (hnow:now<4294967296) :
  Calls Tryz.prog 41 #[.agg #[.int .u64 (x:Int),v],.int .u64 (p:Int),.string name,.int .u32 (mode:Int),.string uid,.string gid,.int .u32 (now:Int)] w (ZdI w (Z11 ⟨x,l⟩ p name mode uid gid now)):=by
 obtain⟨a,c,rfl,g1,g2⟩:=hv.form
 unfold maxLen at g2
 obtain⟨W,hW⟩ : ∃ W,W=(w.alloc (.cells #[.int .u64 (x:Int),.slice a l.length c] 30)).alloc (.cells #[.int .u64 0,.slice none 0 0] 30):=⟨_,rfl⟩
 have hb0:Below w.heap.size w W:=by rw[hW];exact((Below.refl w.heap.size w).alloc (Nat.le_refl _) _).alloc (by simp) _
 have hx0:W.heap[w.heap.size]?=some (.cells #[.int .u64 (x:Int),.slice a l.length c] 30 (0,0)):=by rw[hW,heap_alloc_old _ _ (by simp),heap_alloc_new]
 have hy0:W.heap[w.heap.size+1]?=some (.cells #[.int .u64 0,.slice none 0 0] 30 (0,0)):=by rw[hW];exact Z27 _ _ _
 have hfi:=hid (Z22 _ x l p W (hv.below hb0) ht.sort (by have:=ht.few;omega))
 have hap:=hid (fun X (h:Z3 X (.slice a l.length c) l)=>Z2r _ x l X h (by have:=ht.few;omega) ht.low)
 have e0:=Z0 hx0 0
 have e1:=Z0 hx0 1
 have hv0:=hid (hv.below hb0)
 replace hb0:=hid hb0
 replace hx0:=hid hx0
 replace hy0:=hid hy0
 go_enter Tryz.func41,Tryz.ntmps41
 go_upto_region 1 with (rw[←hW];replace hW:=hid hW)
 try (rw[←hW];replace hW:=hid hW)
 go_wp2_with fail
 refine hfi.out.mono ?_
 rintro e w2 ⟨rfl,hb2⟩
 have hB2:=hid (sn hb0.out hb2)
 have hs2:=hid (lt_of_block ((hb2.block _ (lt_of_block hy0.out)).trans hy0.out))
 obtain⟨n,hn⟩ : ∃ n,n=Z1M l p:=⟨_,rfl⟩
 have hnew:=hid (heap_alloc_new w2 (.cells Zk.cells 89))
 obtain⟨X,hX⟩ : ∃ W,W=Z1J w2 n:=⟨_,rfl⟩
 have hbX:Below w2.heap.size w2 X:=by rw[hX];exact ZD _ _
 have hBX:=hid (sn hB2.out hbX)
 have hA:TrSt w.heap.size w2.heap.size (w.heap.size+1) x (.slice a l.length c) l n X :=
  ⟨(hbX.block _ (by have:=hs2.out;omega)).trans ((hb2.block _ (lt_of_block hx0.out)).trans hx0.out),by rw[hX];exact ZK _ _,(hbX.block _ hs2.out).trans ((hb2.block _ (lt_of_block hy0.out)).trans hy0.out),(hv0.out.below hb2).below hbX⟩
 have hapc:=hid (hap.out X hA.row)
 have q0:=hA.t0
 have q1:=hA.t1
 unfold Z1J at hX
 rw[Zc]at hX hnew
 rw[←hn]
 clear hb2 hbX hfi e0 e1 hB2 hx0 hy0 hv0 hb0
 replace hA:=hid hA
 replace hn:=hid hn
 go_upto_region 2 with (first
  |(rw[←hX];replace hX:=hid hX)
  |(refine wpList_store_row (by rfl) 89 (.tmp 17) (.tmp 26) (by rfl) w2.heap.size n.cells (by rfl) (by rfl) 89 _ hnew.out (by kernel_rfl) (by kernel_rfl) (Zw n) ?_))
 try (rw[←hX];replace hX:=hid hX)
 clear hnew
 generalize w2.heap.size=z at *
 have q10:X.cell? ⟨z,10,none⟩=some (.bool n.gone):=Z0 hA.out.nd 10
 cases hg:ZM l p with
 | none =>
  have hdE:=hid (show Z11 ⟨x,l⟩ p name mode uid gid now=(⟨x,l⟩,0,6) by unfold Z11;rw[hg])
  simp only[Option.isSome_none]
  clear hg
  go_wp2_with fail
  refine hapc.out.mono ?_
  rintro e w9 ⟨v9,rfl,hv9,hf9,hb9⟩
  have hres:=hid (hA.out.below hb9).res
  have hB9:=hid (sn hBX.out hb9)
  have hsz:=hid hBX.out.size
  have hlt:=hid (lt_of_block hA.out.res)
  have hN:=hid (Z3.other (w':=w9.setRow (w.heap.size+1) #[.int .u64 (x:Int),v9]) hv9 (w.heap.size+1) (fun e=>by have:=hf9 _ e;have:=hlt.out;omega) (by simp) (fun k hk=>setRow_other _ _ _ _ hk))
  have hF:=hid (show ∀ k,v9.ownBlock=some k→w.heap.size≤k from fun k hk=>Nat.le_trans hsz.out (hf9 k hk))
  obtain⟨a9,c9,rfl,_,_⟩:=hv9.form
  clear hb9 hv9 hf9 hapc q0 q1 q10
  go_wp2_with (refine wpList_store_row (by rfl) 30 (.tmp 14) (.tmp 53) (by rfl) (w.heap.size+1) #[.int .u64 (x:Int),.slice a9 l.length c9] (by rfl) (by rfl) 30 _ hres.out (by kernel_rfl) (by kernel_rfl) (by kernel_rfl) ?_)
  refine bodyPost_ret (Z1f rfl _ _ (w.heap.size+1) _ _ _ _ _ _ rfl rfl rfl (setRow_heap _ _ _ #[.int .u64 (x:Int),.slice a9 l.length c9] _ _ hres.out) Tryz.underlying30 rfl (by kernel_rfl)) rfl ?_
  refine⟨.slice a9 l.length c9,?_,?_,hF.out,below_setRow hB9.out (by omega) _⟩
  ·rw[hdE.out];rfl
  ·rw[hdE.out];exact hN.out
 | some y =>
  have hny:n=y:=by rw[hn.out];unfold Z1M;rw[hg];rfl
  subst hny
  simp only[Option.isSome_some]
  obtain⟨hmem,hpath⟩:=Zr hg
  have hnok:=hid (ht.ok n hmem)
  have hdir:=hid (Z7l n X hnok.out)
  have hnd:=hid hA.out.nd
  go_wp2_with (refine wpList_load_row (by rfl) 89 (.tmp 17) (by rfl) z (by rfl) 89 n.cells (0,0) _ hnd.out Tryz.underlying89 (by rfl) (by kernel_rfl) ?_)
  refine hdir.out.mono ?_
  rintro e w3 ⟨rfl,hb3⟩
  have hA0:=hA.out.below hb3
  have hBX0:=hid (sn hBX.out hb3)
  clear hA hBX q0 q1 q10 hb3 hdir hapc hnd
  have hA:=hid hA0
  have hBX:=hBX0
  clear hBX0
  have hapc:=hid (hap.out w3 hA0.row)
  have q0:=hA0.t0
  have q1:=hA0.t1
  have q10:w3.cell? ⟨z,10,none⟩=some (.bool n.gone):=Z0 hA0.nd 10
  clear hA0
  cases hdb:ZF n with
  | false =>
   have hdE:=hid (show Z11 ⟨x,l⟩ p name mode uid gid now=(⟨x,l⟩,0,13) by unfold Z11;rw[hg];simp only;rw[if_pos hdb])
   clear hg hdb
   go_wp2_with fail
   refine hapc.out.mono ?_
   rintro e w9 ⟨v9,rfl,hv9,hf9,hb9⟩
   have hres:=hid (hA.out.below hb9).res
   have hB9:=hid (sn hBX.out hb9)
   have hsz:=hid hBX.out.size
   have hlt:=hid (lt_of_block hA.out.res)
   have hN:=hid (Z3.other (w':=w9.setRow (w.heap.size+1) #[.int .u64 (x:Int),v9]) hv9 (w.heap.size+1) (fun e=>by have:=hf9 _ e;have:=hlt.out;omega) (by simp) (fun k hk=>setRow_other _ _ _ _ hk))
   have hF:=hid (show ∀ k,v9.ownBlock=some k→w.heap.size≤k from fun k hk=>Nat.le_trans hsz.out (hf9 k hk))
   obtain⟨a9,c9,rfl,_,_⟩:=hv9.form
   clear hb9 hv9 hf9 hapc q0 q1 q10
   go_wp2_with (refine wpList_store_row (by rfl) 30 (.tmp 14) (.tmp 53) (by rfl) (w.heap.size+1) #[.int .u64 (x:Int),.slice a9 l.length c9] (by rfl) (by rfl) 30 _ hres.out (by kernel_rfl) (by kernel_rfl) (by kernel_rfl) ?_)
   refine bodyPost_ret (Z1f rfl _ _ (w.heap.size+1) _ _ _ _ _ _ rfl rfl rfl (setRow_heap _ _ _ #[.int .u64 (x:Int),.slice a9 l.length c9] _ _ hres.out) Tryz.underlying30 rfl (by kernel_rfl)) rfl ?_
   refine⟨.slice a9 l.length c9,?_,?_,hF.out,below_setRow hB9.out (by omega) _⟩
   ·rw[hdE.out];rfl
   ·rw[hdE.out];exact hN.out
  | true =>
   cases hgn:n.gone with
   | true =>
    have hdE:=hid (show Z11 ⟨x,l⟩ p name mode uid gid now=(⟨x,l⟩,0,6) by unfold Z11;rw[hg];simp only;rw[if_neg (by rw[hdb];simp),hgn];rfl)
    rw[hgn]at q10
    clear hg hdb hgn
    go_wp2_with fail
    refine hapc.out.mono ?_
    rintro e w9 ⟨v9,rfl,hv9,hf9,hb9⟩
    have hres:=hid (hA.out.below hb9).res
    have hB9:=hid (sn hBX.out hb9)
    have hsz:=hid hBX.out.size
    have hlt:=hid (lt_of_block hA.out.res)
    have hN:=hid (Z3.other (w':=w9.setRow (w.heap.size+1) #[.int .u64 (x:Int),v9]) hv9 (w.heap.size+1) (fun e=>by have:=hf9 _ e;have:=hlt.out;omega) (by simp) (fun k hk=>setRow_other _ _ _ _ hk))
    have hF:=hid (show ∀ k,v9.ownBlock=some k→w.heap.size≤k from fun k hk=>Nat.le_trans hsz.out (hf9 k hk))
    obtain⟨a9,c9,rfl,_,_⟩:=hv9.form
    clear hb9 hv9 hf9 hapc q0 q1 q10
    go_wp2_with (refine wpList_store_row (by rfl) 30 (.tmp 14) (.tmp 53) (by rfl) (w.heap.size+1) #[.int .u64 (x:Int),.slice a9 l.length c9] (by rfl) (by rfl) 30 _ hres.out (by kernel_rfl) (by kernel_rfl) (by kernel_rfl) ?_)
    refine bodyPost_ret (Z1f rfl _ _ (w.heap.size+1) _ _ _ _ _ _ rfl rfl rfl (setRow_heap _ _ _ #[.int .u64 (x:Int),.slice a9 l.length c9] _ _ hres.out) Tryz.underlying30 rfl (by kernel_rfl)) rfl ?_
    refine⟨.slice a9 l.length c9,?_,?_,hF.out,below_setRow hB9.out (by omega) _⟩
    ·rw[hdE.out];rfl
    ·rw[hdE.out];exact hN.out
   | false =>
    have hdT:=hid (Z9j ⟨x,l⟩ p name mode uid gid now n hg hdb hgn ht.low)
    rw[hgn]at q10
    have hmy:=hid (ZaS _ x l p name 0 w3 hA.out.row (by have:=ht.few;omega) hname)
    obtain⟨E,hE⟩ : ∃ E,E=Z8D l p name 0:=⟨_,rfl⟩
    rw[←hE]at hmy
    have hdT2:=hid (show Z11 ⟨x,l⟩ p name mode uid gid now=if E≠0 then(⟨x,l⟩,0,E) else if 64≤l.length then(⟨x,l⟩,0,14) else(⟨x+1,Z1B (Z1B l (ZW n uid now)) (Zdy x mode now name uid gid p)⟩,x,0) by rw[hE];exact hdT.out)
    have hsome:=hid (show(ZM l n.path).isSome=true by rw[hpath,hg];rfl)
    replace hE:=hid hE
    replace hmem:=hid hmem
    replace hpath:=hid hpath
    clear hdT hg hgn hdb hapc
    go_wp2_with fail
    refine hmy.out.mono ?_
    rintro e w4 ⟨rfl,hb4⟩
    have hA0:=hA.out.below hb4
    have hBX0:=hid (sn hBX.out hb4)
    clear hA hBX q0 q1 q10 hb4 hmy
    have hA:=hid hA0
    have hBX:=hBX0
    clear hBX0
    have hapc:=hid (hap.out w4 hA0.row)
    have q0:=hA0.t0
    have q1:=hA0.t1
    clear hA0
    by_cases hE0:E=0
    case neg =>
     have hdE:=hid (show Z11 ⟨x,l⟩ p name mode uid gid now=(⟨x,l⟩,0,E) by rw[hdT2.out,if_pos hE0])
     have k0:((E:Int) != 0)=true:=by simpa using hE0
     have k1:((E:Int) == 0)=false:=by simpa using hE0
     clear hE0 hdT2
     go_wp2_with fail
     refine hapc.out.mono ?_
     rintro e w9 ⟨v9,rfl,hv9,hf9,hb9⟩
     have hres:=hid (hA.out.below hb9).res
     have hB9:=hid (sn hBX.out hb9)
     have hsz:=hid hBX.out.size
     have hlt:=hid (lt_of_block hA.out.res)
     have hN:=hid (Z3.other (w':=w9.setRow (w.heap.size+1) #[.int .u64 (x:Int),v9]) hv9 (w.heap.size+1) (fun e=>by have:=hf9 _ e;have:=hlt.out;omega) (by simp) (fun k hk=>setRow_other _ _ _ _ hk))
     have hF:=hid (show ∀ k,v9.ownBlock=some k→w.heap.size≤k from fun k hk=>Nat.le_trans hsz.out (hf9 k hk))
     obtain⟨a9,c9,rfl,_,_⟩:=hv9.form
     clear hb9 hv9 hf9 hapc q0 q1
     go_wp2_with (refine wpList_store_row (by rfl) 30 (.tmp 14) (.tmp 53) (by rfl) (w.heap.size+1) #[.int .u64 (x:Int),.slice a9 l.length c9] (by rfl) (by rfl) 30 _ hres.out (by kernel_rfl) (by kernel_rfl) (by kernel_rfl) ?_)
     refine bodyPost_ret (Z1f rfl _ _ (w.heap.size+1) _ _ _ _ _ _ rfl rfl rfl (setRow_heap _ _ _ #[.int .u64 (x:Int),.slice a9 l.length c9] _ _ hres.out) Tryz.underlying30 rfl (by kernel_rfl)) rfl ?_
     refine⟨.slice a9 l.length c9,?_,?_,hF.out,below_setRow hB9.out (by omega) _⟩
     ·rw[hdE.out];rfl
     ·rw[hdE.out];exact hN.out
    subst hE0
    by_cases h64:64≤l.length
    ·have hdE:=hid (show Z11 ⟨x,l⟩ p name mode uid gid now=(⟨x,l⟩,0,14) by rw[hdT2.out,if_neg (by simp),if_pos h64])
     have h65:(64:Int)≤(l.length:Int):=by omega
     clear hdT2
     go_wp2_with fail
     refine hapc.out.mono ?_
     rintro e w9 ⟨v9,rfl,hv9,hf9,hb9⟩
     have hres:=hid (hA.out.below hb9).res
     have hB9:=hid (sn hBX.out hb9)
     have hsz:=hid hBX.out.size
     have hlt:=hid (lt_of_block hA.out.res)
     have hN:=hid (Z3.other (w':=w9.setRow (w.heap.size+1) #[.int .u64 (x:Int),v9]) hv9 (w.heap.size+1) (fun e=>by have:=hf9 _ e;have:=hlt.out;omega) (by simp) (fun k hk=>setRow_other _ _ _ _ hk))
     have hF:=hid (show ∀ k,v9.ownBlock=some k→w.heap.size≤k from fun k hk=>Nat.le_trans hsz.out (hf9 k hk))
     obtain⟨a9,c9,rfl,_,_⟩:=hv9.form
     clear hb9 hv9 hf9 hapc q0 q1
     go_wp2_with (refine wpList_store_row (by rfl) 30 (.tmp 14) (.tmp 53) (by rfl) (w.heap.size+1) #[.int .u64 (x:Int),.slice a9 l.length c9] (by rfl) (by rfl) 30 _ hres.out (by kernel_rfl) (by kernel_rfl) (by kernel_rfl) ?_)
     refine bodyPost_ret (Z1f rfl _ _ (w.heap.size+1) _ _ _ _ _ _ rfl rfl rfl (setRow_heap _ _ _ #[.int .u64 (x:Int),.slice a9 l.length c9] _ _ hres.out) Tryz.underlying30 rfl (by kernel_rfl)) rfl ?_
     refine⟨.slice a9 l.length c9,?_,?_,hF.out,below_setRow hB9.out (by omega) _⟩
     ·rw[hdE.out];rfl
     ·rw[hdE.out];exact hN.out
    have hdE:=hid (show Z11 ⟨x,l⟩ p name mode uid gid now=(⟨x+1,Z1B (Z1B l (ZW n uid now)) (Zdy x mode now name uid gid p)⟩,x,0) by rw[hdT2.out,if_neg (by simp),if_neg h64])
    have h65:(l.length:Int)<64:=by omega
    have h66:¬ (64:Int)≤(l.length:Int):=by omega
    clear hdT2 hapc
    have hnp:n.path=p:=hpath.out
    have hnm:n∈l:=hmem.out
    obtain⟨n1,hn1⟩ : ∃ n1,n1=ZW n uid now:=⟨_,rfl⟩
    obtain⟨n2,hn2⟩ : ∃ n2,n2=Zdy x mode now name uid gid p:=⟨_,rfl⟩
    have hp1:n1.path=n.path:=by rw[hn1];rfl
    have hp2:n2.path=x:=by rw[hn2];rfl
    obtain⟨l1,hl1⟩ : ∃ l1,l1=Z1B l n1:=⟨_,rfl⟩
    have hs1:Z16 l1:=by rw[hl1];exact ht.sort.set _
    have hlen1:l1.length=l.length:=by rw[hl1];exact Z4H ht.sort hnm n1 hp1
    have hbel:Z14 l1 n2.path=l1.length:=by
     unfold Z14
     rw[List.filter_eq_self.2 (fun m hm=>by
      rw[hl1]at hm
      rw[hp2]
      rcases ZA.1 hm with e |⟨hm,_⟩
      ·rw[e,hp1];exact decide_eq_true (hnext n hnm)
      ·exact decide_eq_true (hnext m hm))]
    obtain⟨L,hL⟩ : ∃ L,L=Z1B l1 n2:=⟨_,rfl⟩
    rw[←hn1,←hn2,←hl1,←hL]at hdE
    have htc:Hid (∀ Z,Calls Tryz.prog 93 #[.agg #[.int .u64 (n.path:Int),.int .u32 (n.vers:Int),.int .u32 (n.mode:Int),.int .u32 (n.atm:Int),.int .u32 (n.mtm:Int),.string n.name,.string n.uid,.string n.gid,.string n.muid,.int .u64 (n.up:Int),.bool n.gone,.string n.data],.string uid,.int .u32 (now:Int)] Z fun e w'=>e=.returned (.agg n1.cells)∧Below Z.heap.size Z w'):=hid (fun Z=>by rw[hn1];exact Z3p n uid now Z hnok.out)
    have hst1:Hid (∀ Z,Z3 Z (.slice a l.length c) l→Calls Tryz.prog 92 #[.agg #[.int .u64 (x:Int),.slice a l.length c],.agg n1.cells] Z (Z2q Z x l1)):=hid (fun Z hZ=>by rw[hl1];exact Z3c _ x l n1 Z hZ ht.sort (by have:=ht.few;omega) (.inl (by rw[hp1];exact hsome.out)))
    have hst2:Hid (∀ Z u,Z3 Z u l1→Calls Tryz.prog 92 #[.agg #[.int .u64 (x:Int),u],.agg #[.int .u64 (x:Int),.int .u32 0,.int .u32 (mode:Int),.int .u32 (now:Int),.int .u32 (now:Int),.string name,.string uid,.string gid,.string uid,.int .u64 (p:Int),.bool false,.string ⟨#[]⟩]] Z (Z2q Z x L)):=hid (fun Z u hZ=>by
     rw[hL]
     have:=Z3c u x l1 n2 Z hZ hs1 (by have:=ht.few;omega) (.inr hbel)
     rw[hn2]at this ⊢
     exact this)
    replace hn1:=hid hn1
    replace hn2:=hid hn2
    replace hl1:=hid hl1
    replace hL:=hid hL
    replace hs1:=hid hs1
    replace hbel:=hid hbel
    replace ht:=hid ht
    replace hv:=hid hv
    replace hnext:=hid hnext
    clear hp1 hp2 hlen1 hnm hnp hap
    go_wp2_with fail
    clear h65 h66 h64 q0 q1
    have hzX:=hid (lt_of_block hA.out.res)
    have hsX:=hid hBX.out.size
    have hA:=hA.out.below ((Below.refl w4.heap.size w4).drew)
    have q0:=hA.t0
    have q1:=hA.t1
    obtain⟨d0,d1,d2,d3,d4,d5,d6,d7,d8,d9,d10,d11⟩:=Z4h hA.nd
    have hBd:=(sn hBX.out ((Below.refl w4.heap.size w4).drew))
    have hal:=hid trivial
    go_region_held3 (fun w'=>w'.cell? ⟨w.heap.size,0,none⟩=some (.int .u64 (x:Int))∧w'.cell? ⟨w.heap.size,1,none⟩=some (.slice a l.length c)∧w'.cell? ⟨z,0,none⟩=some (.int .u64 (n.path:Int))∧w'.cell? ⟨z,1,none⟩=some (.int .u32 (n.vers:Int))∧w'.cell? ⟨z,2,none⟩=some (.int .u32 (n.mode:Int))∧w'.cell? ⟨z,3,none⟩=some (.int .u32 (n.atm:Int))∧w'.cell? ⟨z,4,none⟩=some (.int .u32 (n.mtm:Int))∧w'.cell? ⟨z,5,none⟩=some (.string n.name)∧w'.cell? ⟨z,6,none⟩=some (.string n.uid)∧w'.cell? ⟨z,7,none⟩=some (.string n.gid)∧w'.cell? ⟨z,8,none⟩=some (.string n.muid)∧w'.cell? ⟨z,9,none⟩=some (.int .u64 (n.up:Int))∧w'.cell? ⟨z,10,none⟩=some (.bool n.gone)∧w'.cell? ⟨z,11,none⟩=some (.string n.data))
     (first | exact⟨hA.t0,hA.t1,Z4h hA.nd⟩ | exact((fun h=>⟨h.t0,h.t1,Z4h h.nd⟩:TrSt w.heap.size z (w.heap.size+1) x (.slice a l.length c) l n _→_) (hA.below ((Below.refl _ _).alloc (Nat.le_refl _) _))) | exact((fun h=>⟨(Zaq h.1).1,(Zaq h.1).2,Z4h h.2⟩) (hA.twoK hne1 hne2 0 1 _ _)) | go_keep)
     (first
      |(go_at_call 93;(with_reducible refine(htc.out _).mono ?_);rintro e wt ⟨rfl,hbt⟩;first
        |(replace hA:=hA.below hbt;replace hBd:=sn hBd hbt)
        |(have hne1:=Nat.ne_of_lt (lt_of_block hA.tr);have hne2:=Nat.ne_of_lt (lt_of_block hA.nd);replace hal:=hid ((hbt.block _ (lt_of_block (heap_alloc_new _ _))).trans (heap_alloc_new _ _));replace hA:=hA.below (sn ((Below.refl _ _).alloc (Nat.le_refl _) _) hbt);replace hBd:=sn (sn hBd ((Below.refl _ _).alloc (Nat.le_refl _) _)) hbt))
      |(go_at_call 92;(with_reducible refine(hst1.out _ (by first | exact hA.row | exact hA.row.below ((Below.refl _ _).alloc (Nat.le_refl _) _))).mono ?_);rintro e w5 ⟨v5,rfl,hv5,hf5,hb5⟩;obtain⟨a5,c5,rfl,_,_⟩:=hv5.form;first
        |(replace hA:=hA.below hb5;replace hBd:=sn hBd hb5;try replace hal:=hid ((hb5.block _ (lt_of_block hal.out)).trans hal.out))
        |(have hne1:=Nat.ne_of_lt (lt_of_block hA.tr);have hne2:=Nat.ne_of_lt (lt_of_block hA.nd);replace hal:=hid ((hb5.block _ (lt_of_block (heap_alloc_new _ _))).trans (heap_alloc_new _ _));replace hA:=hA.below (sn ((Below.refl _ _).alloc (Nat.le_refl _) _) hb5);replace hBd:=sn (sn hBd ((Below.refl _ _).alloc (Nat.le_refl _) _)) hb5))
      |(go_at_call 92;(with_reducible refine(hst2.out _ _ (by first | exact hv5 | exact hv5.below ((Below.refl _ _).alloc (Nat.le_refl _) _))).mono ?_);rintro e w6 ⟨v6,rfl,hv6,hf6,hb6⟩;obtain⟨a6,c6,rfl,_,_⟩:=hv6.form;first
        |(replace hA:=hA.below hb6;replace hBd:=sn hBd hb6;try (replace hal:=hid ((hb6.block _ (lt_of_block hal.out)).trans hal.out);have g0:=Z0 hal.out 0;have g1:=Z0 hal.out 1;have e0:=Zb hal.out 0;have e1:=Zb hal.out 1))
        |(have hne1:=Nat.ne_of_lt (lt_of_block hA.tr);have hne2:=Nat.ne_of_lt (lt_of_block hA.nd);replace hal:=hid ((hb6.block _ (lt_of_block (heap_alloc_new _ _))).trans (heap_alloc_new _ _));replace hA:=hA.below (sn ((Below.refl _ _).alloc (Nat.le_refl _) _) hb6);replace hBd:=sn (sn hBd ((Below.refl _ _).alloc (Nat.le_refl _) _)) hb6;have g0:=Z0 hal.out 0;have g1:=Z0 hal.out 1;have e0:=Zb hal.out 0;have e1:=Zb hal.out 1)))
    all_goals
     have s5:=hb5.size
     have s6:=hb6.size
     have st:=hbt.size
     have sd:=hsX.out
     have sz:=hzX.out
     simp at s5 s6 st
    ·obtain⟨Y2,hY2,hres,hc,hN2,hF,hB2⟩ : ∃ Y2,Y2=(w6.alloc (.cells #[.int .u64 ((x:Int)+1),.slice a6 L.length c6] 30))∧Hid (Y2.heap[w.heap.size+1]?=some (.cells #[.int .u64 0,.slice none 0 0] 30 (0,0)))∧(Y2.heap[w6.heap.size]?=some (.cells #[.int .u64 ((x:Int)+1),.slice a6 L.length c6] 30 (0,0)))∧Hid (Z3 Y2 (.slice a6 L.length c6) L)∧Hid (∀ k,(Value.slice a6 L.length c6).ownBlock=some k→w.heap.size+1<k)∧Hid (Below w.heap.size w Y2):=by
      refine⟨_,rfl,hid ?_,?_,hid ?_,hid (fun k hk=>by have:=hf6 k hk;(try simp at this);omega),hid ?_⟩
      ·exact(heap_alloc_old _ _ (by omega)).trans hA.res
      ·exact heap_alloc_new _ _
      ·exact hv6.below ((Below.refl w6.heap.size w6).alloc (Nat.le_refl _) _)
      ·exact hBd.alloc (by omega) _
     clear s5 s6 st sd sz q0 q1 d0 d1 d2 d3 d4 d5 d6 d7 d8 d9 d10 d11 hb5 hb6 hbt hv5 hv6 hf5 hf6 hA hBd
     go_upto_region 17 with fail
     rw[←hY2]
     replace hY2:=hid hY2
     skip
     have y0:=Z0 hc 0
     have y1:=Z0 hc 1
     have hlt:=hid (lt_of_block hres.out)
     have hN:=hid (Z3.other (w':=Y2.setRow (w.heap.size+1) #[.int .u64 ((x:Int)+1),.slice a6 L.length c6]) hN2.out (w.heap.size+1) (fun e=>by have:=hF.out _ e;omega) (by simp) (fun k hk=>setRow_other _ _ _ _ hk))
     go_wp2_with (refine wpList_store_row (by rfl) 30 (.tmp 14) (.tmp 77) (by rfl) (w.heap.size+1) #[.int .u64 ((x:Int)+1),.slice a6 L.length c6] (by rfl) (by rfl) 30 _ hres.out (by kernel_rfl) (by kernel_rfl) (by kernel_rfl) ?_)
     refine bodyPost_ret (Z1f rfl _ _ (w.heap.size+1) _ _ _ _ _ _ rfl rfl rfl (setRow_heap _ _ _ #[.int .u64 ((x:Int)+1),.slice a6 L.length c6] _ _ hres.out) Tryz.underlying30 rfl (by kernel_rfl)) rfl ?_
     refine⟨.slice a6 L.length c6,?_,?_,fun k hk=>by have:=hF.out k hk;omega,below_setRow hB2.out (by omega) _⟩
     ·rw[hdE.out];rfl
     ·rw[hdE.out];exact hN.out
    ·obtain⟨Y2,hY2,hres,hc,hN2,hF,hB2⟩ : ∃ Y2,Y2=(((w6.setCell ⟨w5.heap.size,0,none⟩ (.int .u64 (x:Int))).setCell ⟨w5.heap.size,1,none⟩ (.slice a6 L.length c6)).setCell ⟨w5.heap.size,0,none⟩ (.int .u64 ((x:Int)+1)))∧Hid (Y2.heap[w.heap.size+1]?=some (.cells #[.int .u64 0,.slice none 0 0] 30 (0,0)))∧(Y2.heap[w5.heap.size]?=some (.cells #[.int .u64 ((x:Int)+1),.slice a6 L.length c6] 30 (0,0)))∧Hid (Z3 Y2 (.slice a6 L.length c6) L)∧Hid (∀ k,(Value.slice a6 L.length c6).ownBlock=some k→w.heap.size+1<k)∧Hid (Below w.heap.size w Y2):=by
      refine⟨_,rfl,hid ?_,?_,hid ?_,hid (fun k hk=>by have:=hf6 k hk;(try simp at this);omega),hid ?_⟩
      ·exact(Z1 (by show w.heap.size+1≠w5.heap.size;omega)).trans ((Z1 (by show w.heap.size+1≠w5.heap.size;omega)).trans ((Z1 (by show w.heap.size+1≠w5.heap.size;omega)).trans hA.res))
      ·exact Zg (Zg (Zg hal.out 0 _) 1 _) 0 _
      ·exact Z3.other hv6 (w5.heap.size) (fun e=>by have:=hf6 _ e;(try simp at this);omega) (by simp) (fun k hk=>(Z1 (by show k≠_;exact hk)).trans ((Z1 (by show k≠_;exact hk)).trans (Z1 (by show k≠_;exact hk))))
      ·exact((hBd.setCell (by show w.heap.size≤w5.heap.size;omega) _).setCell (by show w.heap.size≤w5.heap.size;omega) _).setCell (by show w.heap.size≤w5.heap.size;omega) _
     clear s5 s6 st sd sz q0 q1 d0 d1 d2 d3 d4 d5 d6 d7 d8 d9 d10 d11 hb5 hb6 hbt hv5 hv6 hf5 hf6 hA hBd
     go_upto_region 17 with fail
     rw[←hY2]
     replace hY2:=hid hY2
     clear hal g0 g1 e0 e1 hne1 hne2
     have y0:=Z0 hc 0
     have y1:=Z0 hc 1
     have hlt:=hid (lt_of_block hres.out)
     have hN:=hid (Z3.other (w':=Y2.setRow (w.heap.size+1) #[.int .u64 ((x:Int)+1),.slice a6 L.length c6]) hN2.out (w.heap.size+1) (fun e=>by have:=hF.out _ e;omega) (by simp) (fun k hk=>setRow_other _ _ _ _ hk))
     go_wp2_with (refine wpList_store_row (by rfl) 30 (.tmp 14) (.tmp 77) (by rfl) (w.heap.size+1) #[.int .u64 ((x:Int)+1),.slice a6 L.length c6] (by rfl) (by rfl) 30 _ hres.out (by kernel_rfl) (by kernel_rfl) (by kernel_rfl) ?_)
     refine bodyPost_ret (Z1f rfl _ _ (w.heap.size+1) _ _ _ _ _ _ rfl rfl rfl (setRow_heap _ _ _ #[.int .u64 ((x:Int)+1),.slice a6 L.length c6] _ _ hres.out) Tryz.underlying30 rfl (by kernel_rfl)) rfl ?_
     refine⟨.slice a6 L.length c6,?_,?_,fun k hk=>by have:=hF.out k hk;omega,below_setRow hB2.out (by omega) _⟩
     ·rw[hdE.out];rfl
     ·rw[hdE.out];exact hN.out
    ·obtain⟨Y2,hY2,hres,hc,hN2,hF,hB2⟩ : ∃ Y2,Y2=(((w6.setCell ⟨wt.heap.size,0,none⟩ (.int .u64 (x:Int))).setCell ⟨wt.heap.size,1,none⟩ (.slice a6 L.length c6)).setCell ⟨wt.heap.size,0,none⟩ (.int .u64 ((x:Int)+1)))∧Hid (Y2.heap[w.heap.size+1]?=some (.cells #[.int .u64 0,.slice none 0 0] 30 (0,0)))∧(Y2.heap[wt.heap.size]?=some (.cells #[.int .u64 ((x:Int)+1),.slice a6 L.length c6] 30 (0,0)))∧Hid (Z3 Y2 (.slice a6 L.length c6) L)∧Hid (∀ k,(Value.slice a6 L.length c6).ownBlock=some k→w.heap.size+1<k)∧Hid (Below w.heap.size w Y2):=by
      refine⟨_,rfl,hid ?_,?_,hid ?_,hid (fun k hk=>by have:=hf6 k hk;(try simp at this);omega),hid ?_⟩
      ·exact(Z1 (by show w.heap.size+1≠wt.heap.size;omega)).trans ((Z1 (by show w.heap.size+1≠wt.heap.size;omega)).trans ((Z1 (by show w.heap.size+1≠wt.heap.size;omega)).trans hA.res))
      ·exact Zg (Zg (Zg hal.out 0 _) 1 _) 0 _
      ·exact Z3.other hv6 (wt.heap.size) (fun e=>by have:=hf6 _ e;(try simp at this);omega) (by simp) (fun k hk=>(Z1 (by show k≠_;exact hk)).trans ((Z1 (by show k≠_;exact hk)).trans (Z1 (by show k≠_;exact hk))))
      ·exact((hBd.setCell (by show w.heap.size≤wt.heap.size;omega) _).setCell (by show w.heap.size≤wt.heap.size;omega) _).setCell (by show w.heap.size≤wt.heap.size;omega) _
     clear s5 s6 st sd sz q0 q1 d0 d1 d2 d3 d4 d5 d6 d7 d8 d9 d10 d11 hb5 hb6 hbt hv5 hv6 hf5 hf6 hA hBd
     go_upto_region 17 with fail
     rw[←hY2]
     replace hY2:=hid hY2
     clear hal g0 g1 e0 e1 hne1 hne2
     have y0:=Z0 hc 0
     have y1:=Z0 hc 1
     have hlt:=hid (lt_of_block hres.out)
     have hN:=hid (Z3.other (w':=Y2.setRow (w.heap.size+1) #[.int .u64 ((x:Int)+1),.slice a6 L.length c6]) hN2.out (w.heap.size+1) (fun e=>by have:=hF.out _ e;omega) (by simp) (fun k hk=>setRow_other _ _ _ _ hk))
     go_wp2_with (refine wpList_store_row (by rfl) 30 (.tmp 14) (.tmp 77) (by rfl) (w.heap.size+1) #[.int .u64 ((x:Int)+1),.slice a6 L.length c6] (by rfl) (by rfl) 30 _ hres.out (by kernel_rfl) (by kernel_rfl) (by kernel_rfl) ?_)
     refine bodyPost_ret (Z1f rfl _ _ (w.heap.size+1) _ _ _ _ _ _ rfl rfl rfl (setRow_heap _ _ _ #[.int .u64 ((x:Int)+1),.slice a6 L.length c6] _ _ hres.out) Tryz.underlying30 rfl (by kernel_rfl)) rfl ?_
     refine⟨.slice a6 L.length c6,?_,?_,fun k hk=>by have:=hF.out k hk;omega,below_setRow hB2.out (by omega) _⟩
     ·rw[hdE.out];rfl
     ·rw[hdE.out];exact hN.out
    ·obtain⟨Y2,hY2,hres,hc,hN2,hF,hB2⟩ : ∃ Y2,Y2=(((w6.setCell ⟨w4.heap.size,0,none⟩ (.int .u64 (x:Int))).setCell ⟨w4.heap.size,1,none⟩ (.slice a6 L.length c6)).setCell ⟨w4.heap.size,0,none⟩ (.int .u64 ((x:Int)+1)))∧Hid (Y2.heap[w.heap.size+1]?=some (.cells #[.int .u64 0,.slice none 0 0] 30 (0,0)))∧(Y2.heap[w4.heap.size]?=some (.cells #[.int .u64 ((x:Int)+1),.slice a6 L.length c6] 30 (0,0)))∧Hid (Z3 Y2 (.slice a6 L.length c6) L)∧Hid (∀ k,(Value.slice a6 L.length c6).ownBlock=some k→w.heap.size+1<k)∧Hid (Below w.heap.size w Y2):=by
      refine⟨_,rfl,hid ?_,?_,hid ?_,hid (fun k hk=>by have:=hf6 k hk;(try simp at this);omega),hid ?_⟩
      ·exact(Z1 (by show w.heap.size+1≠w4.heap.size;omega)).trans ((Z1 (by show w.heap.size+1≠w4.heap.size;omega)).trans ((Z1 (by show w.heap.size+1≠w4.heap.size;omega)).trans hA.res))
      ·exact Zg (Zg (Zg hal.out 0 _) 1 _) 0 _
      ·exact Z3.other hv6 (w4.heap.size) (fun e=>by have:=hf6 _ e;(try simp at this);omega) (by simp) (fun k hk=>(Z1 (by show k≠_;exact hk)).trans ((Z1 (by show k≠_;exact hk)).trans (Z1 (by show k≠_;exact hk))))
      ·exact((hBd.setCell (by show w.heap.size≤w4.heap.size;omega) _).setCell (by show w.heap.size≤w4.heap.size;omega) _).setCell (by show w.heap.size≤w4.heap.size;omega) _
     clear s5 s6 st sd sz q0 q1 d0 d1 d2 d3 d4 d5 d6 d7 d8 d9 d10 d11 hb5 hb6 hbt hv5 hv6 hf5 hf6 hA hBd
     go_upto_region 17 with fail
     rw[←hY2]
     replace hY2:=hid hY2
     clear hal g0 g1 e0 e1 hne1 hne2
     have y0:=Z0 hc 0
     have y1:=Z0 hc 1
     have hlt:=hid (lt_of_block hres.out)
     have hN:=hid (Z3.other (w':=Y2.setRow (w.heap.size+1) #[.int .u64 ((x:Int)+1),.slice a6 L.length c6]) hN2.out (w.heap.size+1) (fun e=>by have:=hF.out _ e;omega) (by simp) (fun k hk=>setRow_other _ _ _ _ hk))
     go_wp2_with (refine wpList_store_row (by rfl) 30 (.tmp 14) (.tmp 77) (by rfl) (w.heap.size+1) #[.int .u64 ((x:Int)+1),.slice a6 L.length c6] (by rfl) (by rfl) 30 _ hres.out (by kernel_rfl) (by kernel_rfl) (by kernel_rfl) ?_)
     refine bodyPost_ret (Z1f rfl _ _ (w.heap.size+1) _ _ _ _ _ _ rfl rfl rfl (setRow_heap _ _ _ #[.int .u64 ((x:Int)+1),.slice a6 L.length c6] _ _ hres.out) Tryz.underlying30 rfl (by kernel_rfl)) rfl ?_
     refine⟨.slice a6 L.length c6,?_,?_,fun k hk=>by have:=hF.out k hk;omega,below_setRow hB2.out (by omega) _⟩
     ·rw[hdE.out];rfl
     ·rw[hdE.out];exact hN.out
end
section
variable {α:Type}
structure Ordr (le:α→α→Bool):Prop where
 total : ∀ a b,le a b=false→le b a=true
 trans : ∀ a b c,le a b=true→le b c=true→le a c=true
def Srt (le:α→α→Bool) (l:List α):Prop:=l.Pairwise fun a b=>le a b=true
theorem Srt.app {le:α→α→Bool} {l m:List α} (h1:Srt le l) (h2:Srt le m) (h : ∀ a∈l,∀ b∈m,le a b=true):Srt le (l++m):=List.pairwise_append.2 ⟨h1,h2,h⟩
theorem Srt.left {le:α→α→Bool} {l m:List α} (h:Srt le (l++m)):Srt le l:=(List.pairwise_append.1 h).1
theorem Srt.right {le:α→α→Bool} {l m:List α} (h:Srt le (l++m)):Srt le m:=(List.pairwise_append.1 h).2.1
theorem Srt.cross {le:α→α→Bool} {l m:List α} (h:Srt le (l++m)) : ∀ a∈l,∀ b∈m,le a b=true:=(List.pairwise_append.1 h).2.2
theorem Srt.get {le:α→α→Bool} {l:List α} (h:Srt le l) {i j:Nat} (hij:i<j) (hj:j<l.length):le (l[i]'(by omega)) l[j]=true:=List.pairwise_iff_getElem.1 h i j (by omega) hj hij
theorem Srt.nil {le:α→α→Bool}:Srt le ([]:List α):=List.Pairwise.nil
theorem Srt.one {le:α→α→Bool} (a:α):Srt le [a]:=List.pairwise_singleton _ _
def swp (xs:List α) (i j:Nat):List α :=
 match xs[i]?,xs[j]? with
 | some x,some y=>(xs.set i y).set j x
 | _,_=>xs
theorem Z9k {Q1 Q2 Q3:List α} {x y:α} {i j:Nat} (hi:i=Q1.length) (hj:j=Q1.length+1+Q2.length):swp (Q1++x ::(Q2++y :: Q3)) i j=Q1++y ::(Q2++x :: Q3):=by
 subst hi hj
 unfold swp
 have e1:(Q1++x ::(Q2++y :: Q3))[Q1.length]?=some x:=by simp
 have e2:(Q1++x ::(Q2++y :: Q3))[Q1.length+1+Q2.length]?=some y:=by
  rw[List.getElem?_append_right (by omega),show Q1.length+1+Q2.length - Q1.length=Q2.length+1 by omega];simp
 rw[e1,e2]
 simp only
 rw[List.set_append_right _ _ (Nat.le_refl _),Nat.sub_self,List.set_cons_zero,List.set_append_right _ _ (by omega),show Q1.length+1+Q2.length - Q1.length=Q2.length+1 by omega,List.set_cons_succ,List.set_append_right _ _ (Nat.le_refl _),Nat.sub_self,List.set_cons_zero]
def Z3H (xs ys:List α) (a b n k:Nat):Prop:=∃ P U M V S,xs=P++U++M++V++S∧ys=P++(V.take k++U.drop k)++M++(U.take k++V.drop k)++S∧P.length=a∧(P++U++M).length=b∧U.length=n∧V.length=n
theorem Z3H.start {xs:List α} {a b n:Nat} (hab:a+n≤b) (hb:b+n≤xs.length):Z3H xs xs a b n 0:=by
 refine⟨xs.take a,(xs.drop a).take n,(xs.drop (a+n)).take (b - (a+n)),(xs.drop b).take n,xs.drop (b+n),?_,?_,by simp;omega,by simp;omega,by simp;omega,by simp;omega⟩ <;>
 ·try simp only[List.take_zero,List.nil_append,List.drop_zero]
  rw[←List.drop_drop (i:=n) (j:=b),List.append_assoc,List.take_append_drop]
  have e1:(xs.drop (a+n)).take (b - (a+n))++xs.drop b=xs.drop (a+n):=by
   conv=>rhs;rw[←List.take_append_drop (b - (a+n)) (xs.drop (a+n)),List.drop_drop,show a+n+(b - (a+n))=b by omega]
  rw[List.append_assoc,e1,←List.drop_drop,List.append_assoc,List.take_append_drop,List.take_append_drop]
theorem Z3H.step {xs ys:List α} {a b n k:Nat} (h:Z3H xs ys a b n k) (hk:k<n):Z3H xs (swp ys (a+k) (b+k)) a b n (k+1):=by
 obtain⟨P,U,M,V,S,rfl,rfl,ha,hb,hU,hV⟩:=h
 refine⟨P,U,M,V,S,rfl,?_,ha,hb,hU,hV⟩
 simp only[List.length_append]at hb
 rw[List.drop_eq_getElem_cons (l:=U) (i:=k) (by omega),List.drop_eq_getElem_cons (l:=V) (i:=k) (by omega)]
 have e:P++(V.take k++U[k] :: U.drop (k+1))++M++(U.take k++V[k] :: V.drop (k+1))++S=(P++V.take k)++U[k] ::((U.drop (k+1)++M++U.take k)++V[k] ::(V.drop (k+1)++S)):=by simp only[List.append_assoc,List.cons_append]
 rw[e,Z9k (by simp;omega) (by simp;omega),List.take_succ_eq_append_getElem (l:=U) (i:=k) (by omega),List.take_succ_eq_append_getElem (l:=V) (i:=k) (by omega)]
 simp only[List.append_assoc,List.cons_append,List.nil_append]
theorem Z6V {le:α→α→Bool} (ho : ∀ a b c,le a b=true→le b c=true→le a c=true) {L1 L2:List α} {x:α} (hL:Srt le (L1++L2)) (h1 : ∀ y∈L1.getLast?,le y x=true) (h2 : ∀ y∈L2.head?,le x y=true):Srt le (L1++x :: L2):=by
 have hx2 : ∀ b∈L2,le x b=true:=by
  cases L2 with
  | nil=>intro b hb;cases hb
  | cons y M =>
   intro b hb
   rcases List.mem_cons.1 hb with h | h
   ·rw[h];exact h2 y (by simp)
   ·exact ho _ _ _ (h2 y (by simp)) ((List.pairwise_cons.1 hL.right).1 b h)
 have h1x : ∀ a∈L1,le a x=true:=by
  intro a ha
  have hn:L1≠[]:=List.ne_nil_of_mem ha
  have hl:=h1 (L1.getLast hn) (by rw[List.getLast?_eq_some_getLast hn];rfl)
  have hs:L1=L1.dropLast++[L1.getLast hn]:=(List.dropLast_concat_getLast hn).symm
  have hL1:=hL.left
  rw[hs]at ha hL1
  rcases List.mem_append.1 ha with h | h
  ·exact ho _ _ _ (hL1.cross a h _ (by simp)) hl
  ·rw[List.mem_singleton.1 h];exact hl
 refine Srt.app hL.left (List.pairwise_cons.2 ⟨hx2,hL.right⟩) fun a ha b hb=>?_
 rcases List.mem_cons.1 hb with h | h
 ·rw[h];exact h1x a ha
 ·exact hL.cross a ha b h
structure Rot (P A B S xs:List α) (m i j:Nat):Prop where
 ex : ∃ X U V Y,xs=P++X++U++V++Y++S∧X++V++U++Y=B++A∧U.length=i∧V.length=j∧(P++X++U).length=m
theorem Rot.start (P A B S:List α):Rot P A B S (P++A++B++S) (P++A).length A.length B.length :=
 ⟨[],A,B,[],by simp,by simp,rfl,rfl,by simp⟩
def Z3Z (xs ys:List α) (a b n:Nat):Prop:=∃ P U M V S,xs=P++U++M++V++S∧ys=P++V++M++U++S∧P.length=a∧(P++U++M).length=b∧U.length=n∧V.length=n
theorem Z3H.done {xs ys:List α} {a b n:Nat} (h:Z3H xs ys a b n n):Z3Z xs ys a b n:=by
 obtain⟨P,U,M,V,S,rfl,rfl,ha,hb,hU,hV⟩:=h
 refine⟨P,U,M,V,S,rfl,?_,ha,hb,hU,hV⟩
 rw[List.take_of_length_le (by omega),List.take_of_length_le (by omega),List.drop_of_length_le (by omega),List.drop_of_length_le (by omega)]
 simp
theorem Z1y {l1 l2 m1 m2:List α} (h:l1++l2=m1++m2) (hl:l1.length=m1.length):l1=m1∧l2=m2:=List.append_inj h hl
theorem Rot.left {P A B S xs ys:List α} {m i j:Nat} (h:Rot P A B S xs m i j) (hij:j<i) (hs:Z3Z xs ys (m - i) m j):Rot P A B S ys m (i - j) j:=by
 obtain⟨X,U,V,Y,rfl,hr,hU,hV,hm⟩:=h.ex
 obtain⟨P',U',M',V',S',hx,rfl,h1,h2,h3,h4⟩:=hs
 obtain⟨U1,U2,rfl,hU1⟩ : ∃ U1 U2,U=U1++U2∧U1.length=j:=⟨U.take j,U.drop j,by simp,by simp;omega⟩
 simp only[List.length_append]at hU hm h2
 have e1:P++X++(U1++U2)++V++Y++S=(P++X)++(U1++(U2++(V++(Y++S)))):=by simp
 have e2:P'++U'++M'++V'++S'=P'++(U'++(M'++(V'++S'))):=by simp
 rw[e1,e2]at hx
 obtain⟨a1,hx⟩:=Z1y hx (by simp;omega)
 obtain⟨a2,hx⟩:=Z1y hx (by omega)
 obtain⟨a3,hx⟩:=Z1y hx (by omega)
 obtain⟨a4,a5⟩:=Z1y hx (by omega)
 subst a2 a3 a4 a5
 rw[←a1]
 refine⟨X++V,U2,U1,Y,by simp,?_,by omega,hU1,by simp;omega⟩
 rw[←hr];simp
theorem Rot.right {P A B S xs ys:List α} {m i j:Nat} (h:Rot P A B S xs m i j) (hij:i<j) (hs:Z3Z xs ys (m - i) (m+j - i) i):Rot P A B S ys m i (j - i):=by
 obtain⟨X,U,V,Y,rfl,hr,hU,hV,hm⟩:=h.ex
 obtain⟨P',U',M',V',S',hx,rfl,h1,h2,h3,h4⟩:=hs
 obtain⟨V1,V2,rfl,hV1⟩ : ∃ V1 V2,V=V1++V2∧V1.length=j - i:=⟨V.take (j - i),V.drop (j - i),by simp,by simp;omega⟩
 simp only[List.length_append]at hV hm h2
 have e1:P++X++U++(V1++V2)++Y++S=(P++X)++(U++(V1++(V2++(Y++S)))):=by simp
 have e2:P'++U'++M'++V'++S'=P'++(U'++(M'++(V'++S'))):=by simp
 rw[e1,e2]at hx
 obtain⟨a1,hx⟩:=Z1y hx (by simp;omega)
 obtain⟨a2,hx⟩:=Z1y hx (by omega)
 obtain⟨a3,hx⟩:=Z1y hx (by omega)
 obtain⟨a4,a5⟩:=Z1y hx (by omega)
 subst a2 a3 a4 a5
 rw[←a1]
 refine⟨X,V2,V1,U++Y,by simp,?_,by omega,hV1,by simp;omega⟩
 rw[←hr];simp
theorem Rot.last {P A B S xs ys:List α} {m i:Nat} (h:Rot P A B S xs m i i) (hs:Z3Z xs ys (m - i) m i):ys=P++B++A++S:=by
 obtain⟨X,U,V,Y,rfl,hr,hU,hV,hm⟩:=h.ex
 obtain⟨P',U',M',V',S',hx,rfl,h1,h2,h3,h4⟩:=hs
 simp only[List.length_append]at hm h2
 have e1:P++X++U++V++Y++S=(P++X)++(U++([]++(V++(Y++S)))):=by simp
 have e2:P'++U'++M'++V'++S'=P'++(U'++(M'++(V'++S'))):=by simp
 rw[e1,e2]at hx
 obtain⟨a1,hx⟩:=Z1y hx (by simp;omega)
 obtain⟨a2,hx⟩:=Z1y hx (by omega)
 obtain⟨a3,hx⟩:=Z1y hx (by simp;omega)
 obtain⟨a4,a5⟩:=Z1y hx (by omega)
 subst a2 a3 a4 a5
 rw[←a1]
 have e:P++X++V++[]++U++(Y++S)=P++(X++V++U++Y)++S:=by simp
 rw[e,hr];simp
theorem Z9l {le:α→α→Bool} (ho:Ordr le) {U1 U2 V1 V2:List α} (hU:Srt le (U1++U2)) (hV:Srt le (V1++V2))
  (h1 : ∀ x∈U1.getLast?,∀ y∈V2.head?,le x y=true) (h2 : ∀ x∈V1.getLast?,∀ y∈U2.head?,le x y=true) : ∀ a∈U1++V1,∀ b∈U2++V2,le a b=true:=by
 have last : ∀ (L M:List α),Srt le L→Srt le M→(∀ x∈L.getLast?,∀ y∈M.head?,le x y=true)→∀ a∈L,∀ b∈M,le a b=true:=by
  intro L M hL hM h a ha b hb
  have hn:L≠[]:=List.ne_nil_of_mem ha
  cases M with
  | nil=>cases hb
  | cons y M' =>
   have hy:=h (L.getLast hn) (by rw[List.getLast?_eq_some_getLast hn];rfl) y (by simp)
   have e1:a=L.getLast hn∨le a (L.getLast hn)=true:=by
    have hs:L=L.dropLast++[L.getLast hn]:=(List.dropLast_concat_getLast hn).symm
    rw[hs]at ha hL
    rcases List.mem_append.1 ha with h | h
    ·exact .inr (hL.cross a h _ (by simp))
    ·exact .inl (by simpa using h)
   have e2:b=y∨le y b=true:=by
    rcases List.mem_cons.1 hb with h | h
    ·exact .inl h
    ·exact .inr ((List.pairwise_cons.1 hM).1 b h)
   have e3:le a y=true:=by
    rcases e1 with h | h
    ·rw[h];exact hy
    ·exact ho.trans _ _ _ h hy
   rcases e2 with h | h
   ·rw[h];exact e3
   ·exact ho.trans _ _ _ e3 h
 intro a ha b hb
 rcases List.mem_append.1 ha with ha | ha <;> rcases List.mem_append.1 hb with hb | hb
 ·exact hU.cross a ha b hb
 ·exact last U1 V2 hU.left hV.right h1 a ha b hb
 ·exact last V1 U2 hV.left hU.right h2 a ha b hb
 ·exact hV.cross a ha b hb
def seg (xs:List α) (lo hi:Nat):List α:=(xs.drop lo).take (hi - lo)
theorem Z9m {P T S:List α} {a b:Nat} (ha:P.length=a) (hb:(P++T).length=b):seg (P++T++S) a b=T:=by
 subst ha hb
 unfold seg
 rw[List.append_assoc,List.drop_left,show(P++T).length - P.length=T.length by simp,List.take_left]
theorem ZcJ (xs:List α) {n:Nat} (h:xs.length≤n):seg xs 0 n=xs:=by
 unfold seg;rw[List.drop_zero,List.take_of_length_le (by omega)]
theorem Z9n (xs:List α) {a b:Nat} (h:a≤b) (hb:b≤xs.length) : ∃ P S,xs=P++seg xs a b++S∧P.length=a∧(P++seg xs a b).length=b:=by
 refine⟨xs.take a,xs.drop b,?_,by simp;omega,by unfold seg;simp;omega⟩
 unfold seg
 have e:(xs.drop a).take (b - a)++xs.drop b=xs.drop a:=by
  conv=>rhs;rw[←List.take_append_drop (b - a) (xs.drop a),List.drop_drop,show a+(b - a)=b by omega]
 rw[List.append_assoc,e,List.take_append_drop]
theorem Z40 (xs:List α) {a b:Nat} (h:a≤b) (hb:b≤xs.length):(seg xs a b).length=b - a:=by unfold seg;simp;omega
theorem Zb6 (xs:List α) {a m b:Nat} (h1:a≤m) (h2:m≤b):seg xs a m++seg xs m b=seg xs a b:=by
 unfold seg
 have e:xs.drop m=(xs.drop a).drop (m - a):=by rw[List.drop_drop,show a+(m - a)=m by omega]
 rw[e,show b - a=(m - a)+(b - m) by omega,List.take_add]
theorem Z6W (xs:List α) {a b c:Nat} (hb:xs.length≤b) (hc:xs.length≤c):seg xs a b=seg xs a c:=by
 unfold seg;rw[List.take_of_length_le (by simp;omega),List.take_of_length_le (by simp;omega)]
def Z1p (xs ys:List α) (a b:Nat):Prop:=∃ P T T' S,xs=P++T++S∧ys=P++T'++S∧P.length=a∧(P++T).length=b∧T'.Perm T
theorem Z1p.refl {xs:List α} {a b:Nat} (h:a≤b) (hb:b≤xs.length):Z1p xs xs a b:=by
 obtain⟨P,S,h1,h2,h3⟩:=Z9n xs h hb
 exact⟨P,_,_,S,h1,h1,h2,h3,List.Perm.refl _⟩
theorem Z1p.perm {xs ys:List α} {a b:Nat} (h:Z1p xs ys a b):ys.Perm xs:=by
 obtain⟨P,T,T',S,rfl,rfl,_,_,hp⟩:=h
 exact(hp.append_left P).append_right S
theorem Z1p.len {xs ys:List α} {a b:Nat} (h:Z1p xs ys a b):ys.length=xs.length:=h.perm.length_eq
theorem Z1p.before {xs ys:List α} {a b lo hi:Nat} (h:Z1p xs ys a b) (hh:hi≤a):seg ys lo hi=seg xs lo hi:=by
 obtain⟨P,T,T',S,rfl,rfl,ha,_,_⟩:=h
 unfold seg
 by_cases hl:lo≤hi
 ·rw[List.append_assoc,List.append_assoc,List.drop_append_of_le_length (by omega),List.drop_append_of_le_length (by omega),List.take_append_of_le_length (by simp;omega),List.take_append_of_le_length (by simp;omega)]
 ·rw[show hi - lo=0 by omega];simp
theorem Z1p.behind {xs ys:List α} {a b lo hi:Nat} (h:Z1p xs ys a b) (hh:b≤lo):seg ys lo hi=seg xs lo hi:=by
 obtain⟨P,T,T',S,rfl,rfl,ha,hb,hp⟩:=h
 have hl:=hp.length_eq
 simp only[List.length_append]at hb
 unfold seg
 have e1:(P++T'++S).drop lo=S.drop (lo - (P++T').length):=by rw[List.drop_append,List.drop_of_length_le (by simp;omega),List.nil_append]
 have e2:(P++T++S).drop lo=S.drop (lo - (P++T).length):=by rw[List.drop_append,List.drop_of_length_le (by simp;omega),List.nil_append]
 rw[e1,e2]
 simp only[List.length_append,hl]
theorem Z1p.trans {xs ys zs:List α} {a b:Nat} (h1:Z1p xs ys a b) (h2:Z1p ys zs a b):Z1p xs zs a b:=by
 obtain⟨P,T,T',S,rfl,rfl,ha,hb,hp⟩:=h1
 obtain⟨P2,T2,T2',S2,he,rfl,ha2,hb2,hp2⟩:=h2
 have hl:=hp.length_eq
 simp only[List.length_append]at hb hb2
 rw[List.append_assoc,List.append_assoc]at he
 obtain⟨hPP,he2⟩:=List.append_inj he (by omega)
 obtain⟨hTT,hSS⟩:=List.append_inj he2 (by omega)
 subst hPP hTT hSS
 exact⟨P,T,T2',S,rfl,rfl,ha,by simp;omega,hp2.trans hp⟩
def ZcK (le:α→α→Bool) (xs:List α) (bs q:Nat):Prop:=∀ k,k<q→Srt le (seg xs (k * bs) (k * bs+bs))
theorem ZcK.step {le:α→α→Bool} {xs ys:List α} {bs q:Nat} (h:ZcK le xs bs q) (hm:Z1p xs ys (q * bs) (q * bs+bs)) (hs:Srt le (seg ys (q * bs) (q * bs+bs))):ZcK le ys bs (q+1):=by
 intro k hk
 by_cases e:k=q
 ·rw[e];exact hs
 ·have:(k+1) * bs≤q * bs:=Nat.mul_le_mul_right _ (by omega)
  rw[Nat.add_mul,Nat.one_mul]at this
  rw[hm.before this];exact h k (by omega)
theorem ZcK.last {le:α→α→Bool} {xs ys:List α} {bs q:Nat} (h:ZcK le xs bs q) (hq:xs.length<q * bs+bs) (hm:Z1p xs ys (q * bs) xs.length) (hs:Srt le (seg ys (q * bs) xs.length)) : ∀ k,Srt le (seg ys (k * bs) (k * bs+bs)):=by
 have hl:=hm.len
 intro k
 rcases Nat.lt_trichotomy k q with hk | hk | hk
 ·have:(k+1) * bs≤q * bs:=Nat.mul_le_mul_right _ (by omega)
  rw[Nat.add_mul,Nat.one_mul]at this
  rw[hm.before this];exact h k hk
 ·rw[hk,Z6W (c:=xs.length) ys (by omega) (by omega)];exact hs
 ·have:(q+1) * bs≤k * bs:=Nat.mul_le_mul_right _ (by omega)
  rw[Nat.add_mul,Nat.one_mul]at this
  unfold seg
  rw[List.drop_of_length_le (by omega)]
  simp[Srt]
def Z4i (le:α→α→Bool) (xs:List α) (bs q:Nat):Prop:=ZcK le xs (2 * bs) q∧∀ k,2 * q≤k→Srt le (seg xs (k * bs) (k * bs+bs))
theorem Z4i.start {le:α→α→Bool} {xs:List α} {bs:Nat} (h : ∀ k,Srt le (seg xs (k * bs) (k * bs+bs))):Z4i le xs bs 0:=⟨fun k hk=>by omega,fun k _=>h k⟩
theorem Z4i.two {le:α→α→Bool} {xs:List α} {bs q:Nat} (h:Z4i le xs bs q):Srt le (seg xs (q * (2 * bs)) (q * (2 * bs)+bs))∧Srt le (seg xs (q * (2 * bs)+bs) (q * (2 * bs)+2 * bs)):=by
 have e:q * (2 * bs)=2 * q * bs:=by rw[←Nat.mul_assoc,Nat.mul_comm q 2]
 have h1:=h.2 (2 * q) (Nat.le_refl _)
 have h2:=h.2 (2 * q+1) (by omega)
 rw[Nat.add_mul,Nat.one_mul]at h2
 rw[e]
 exact⟨h1,by rw[show 2 * q * bs+2 * bs=2 * q * bs+bs+bs by omega];exact h2⟩
theorem Z4i.step {le:α→α→Bool} {xs ys:List α} {bs q:Nat} (h:Z4i le xs bs q) (hm:Z1p xs ys (q * (2 * bs)) (q * (2 * bs)+2 * bs)) (hs:Srt le (seg ys (q * (2 * bs)) (q * (2 * bs)+2 * bs))):Z4i le ys bs (q+1):=by
 refine⟨h.1.step hm hs,fun k hk=>?_⟩
 have h1:(2 * q+2) * bs≤k * bs:=Nat.mul_le_mul_right _ (by omega)
 have e:q * (2 * bs)=2 * q * bs:=by rw[←Nat.mul_assoc,Nat.mul_comm q 2]
 rw[Nat.add_mul]at h1
 rw[hm.behind (by omega)]
 exact h.2 k (by omega)
theorem Z4i.last {le:α→α→Bool} {xs ys:List α} {bs q:Nat} (h:Z4i le xs bs q) (hq:xs.length<q * (2 * bs)+2 * bs) (hm:Z1p xs ys (q * (2 * bs)) xs.length) (hs:Srt le (seg ys (q * (2 * bs)) xs.length)) : ∀ k,Srt le (seg ys (k * (2 * bs)) (k * (2 * bs)+2 * bs)) :=
 h.1.last hq hm hs
theorem Z4i.rest {le:α→α→Bool} {xs:List α} {bs q:Nat} (h:Z4i le xs bs q) (hq:xs.length≤q * (2 * bs)+bs) : ∀ k,Srt le (seg xs (k * (2 * bs)) (k * (2 * bs)+2 * bs)):=by
 intro k
 rcases Nat.lt_trichotomy k q with hk | hk | hk
 ·exact h.1 k hk
 ·rw[hk,Z6W (c:=q * (2 * bs)+bs) xs (by omega) (by omega)];exact h.two.1
 ·have:(q+1) * (2 * bs)≤k * (2 * bs):=Nat.mul_le_mul_right _ (by omega)
  rw[Nat.add_mul,Nat.one_mul]at this
  unfold seg
  rw[List.drop_of_length_le (by omega)]
  simp[Srt]
theorem ZcL {le:α→α→Bool} {xs:List α} {bs:Nat} (h : ∀ k,Srt le (seg xs (k * bs) (k * bs+bs))) (hb:xs.length≤bs):Srt le xs:=by
 have h0:=h 0
 rw[Nat.zero_mul,Nat.zero_add,ZcJ xs hb]at h0
 exact h0
end
section
open Go.RowKit
def leS (a b:ByteArray):Bool:=!Op.bytesLess b.toList a.toList
def Zas (a b:ByteArray):Int:=if Op.bytesLess a.toList b.toList then -1 else if a.toList == b.toList then 0 else 1
theorem Z3I (a b:ByteArray):decide (Zas a b<0) = !leS b a:=by
 unfold Zas leS
 cases h:Op.bytesLess a.toList b.toList <;> cases h2:(a.toList == b.toList) <;> simp
theorem Z3J:Ordr leS where
 total a b h:=by
  unfold leS at *
  rw[bytesLess_eq]at *
  simp at h ⊢
  exact List.le_of_lt h
 trans a b c h1 h2:=by
  unfold leS at *
  rw[bytesLess_eq]at *
  simp at h1 h2 ⊢
  exact List.le_trans h1 h2
theorem Z5e (a:ByteArray) (w:World):Calls Tryz.prog 152 #[.string a] w fun e w'=>e=.returned (.bool false)∧w'=w:=by
 go_enter Tryz.func152,Tryz.ntmps152
 go_wp2
 go_ret
 exact⟨ZR (by simp),rfl⟩
theorem Zb7 (a b:ByteArray) (w:World):Calls Tryz.prog 102 #[.string a,.string b] w fun e w'=>e=.returned (.int .i64 (Zas a b))∧w'=w:=by
 have n1:=hid (fun W=>Z5e a W)
 have n2:=hid (fun W=>Z5e b W)
 unfold Zas
 cases h:Op.bytesLess a.toList b.toList with
 | true =>
  simp only[if_true]
  go_enter Tryz.func102,Tryz.ntmps102
  go_wp2_with fail
  refine(n1.out _).mono ?_
  rintro e w1 ⟨rfl,rfl⟩
  go_wp2_with fail
  refine(n2.out _).mono ?_
  rintro e w1 ⟨rfl,rfl⟩
  go_wp2_with fail
  go_ret
  exact⟨rfl,rfl⟩
 | false =>
  cases h2:(a.toList == b.toList) with
  | true =>
   go_enter Tryz.func102,Tryz.ntmps102
   go_wp2_with fail
   refine(n1.out _).mono ?_
   rintro e w1 ⟨rfl,rfl⟩
   go_wp2_with fail
   refine(n2.out _).mono ?_
   rintro e w1 ⟨rfl,rfl⟩
   go_wp2_with fail
   go_ret
   exact⟨rfl,rfl⟩
  | false =>
   go_enter Tryz.func102,Tryz.ntmps102
   go_wp2_with fail
   refine(n1.out _).mono ?_
   rintro e w1 ⟨rfl,rfl⟩
   go_wp2_with fail
   refine(n2.out _).mono ?_
   rintro e w1 ⟨rfl,rfl⟩
   go_wp2_with fail
   go_ret
   exact⟨rfl,rfl⟩
theorem Z33 (m n:Nod) (w:World):Calls Tryz.prog 101 #[.agg m.cells,.agg n.cells] w fun e w'=>e=.returned (.int .i64 (Zas m.name n.name))∧Below w.heap.size w w':=by
 have hb:=hid (((Below.refl w.heap.size w).alloc (Nat.le_refl _) (.cells m.cells 89)).alloc (by simp) (.cells n.cells 89))
 have hc:=hid (fun W=>Zb7 m.name n.name W)
 rw[Z7,Z7]at hb ⊢
 go_enter Tryz.func101,Tryz.ntmps101
 go_wp2_with (first |(refine(hc.out _).mono ?_;rintro e w1 ⟨rfl,rfl⟩))
 go_ret
 exact⟨rfl,hb.out⟩
end
end Go.Proofs.YtkefjeabckainaaGreat
