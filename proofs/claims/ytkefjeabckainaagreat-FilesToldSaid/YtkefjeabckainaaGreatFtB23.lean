/- The reference's touched, padded, Reap. Conditions: what TrOk asks. And the texts behind it. -/
import Derived.Test.YtkefjeabckainaaGreatFtB22
import Derived.Test.YtkefjeabckainaaGreatFtB10
import Derived.Test.YtkefjeabckainaaGreatFtB11
import Derived.Test.YtkefjeabckainaaGreatFtB21
import Derived.Test.YtkefjeabckainaaGreatFtB20
import Derived.Test.YtkefjeabckainaaGreatFtB13
import Derived.Test.YtkefjeabckainaaGreatFtB07
import Derived.Test.YtkefjeabckainaaGreatFtB06
namespace Go.Proofs.YtkefjeabckainaaGreat
set_option maxRecDepth 100000
set_option linter.unusedVariables false
section
open Go.RowKit
structure TrR (p q r x:Nat) (v:Value) (l:List Nod) (n:Nod) (w:World):Prop where
 tr:w.heap[p]?=some (.cells #[.int .u64 (x:Int),v] 86 (0,0))
 nd:w.heap[q]?=some (.cells n.cells 157 (0,0))
 res:w.heap[r]?=some (.cells #[.int .u64 0,.slice none 0 0] 86 (0,0))
 row:Z3 w v l
theorem TrR.below {p q r x:Nat} {v:Value} {l:List Nod} {n:Nod} {w w':World} (h:TrR p q r x v l n w) (hb:Below w.heap.size w w'):TrR p q r x v l n w' :=
 ⟨(hb.block _ (lt_of_block h.tr)).trans h.tr,(hb.block _ (lt_of_block h.nd)).trans h.nd,(hb.block _ (lt_of_block h.res)).trans h.res,h.row.below hb⟩
theorem TrR.t0 {p q r x:Nat} {v:Value} {l:List Nod} {n:Nod} {w:World} (h:TrR p q r x v l n w):w.cell? ⟨p,0,none⟩=some (.int .u64 (x:Int)):=Z0 h.tr 0
theorem TrR.t1 {p q r x:Nat} {v:Value} {l:List Nod} {n:Nod} {w:World} (h:TrR p q r x v l n w):w.cell? ⟨p,1,none⟩=some v:=Z0 h.tr 1
theorem TrR.put {p q r x:Nat} {v:Value} {l:List Nod} {n n2:Nod} {w:World} (h:TrR p q r x v l n w) (hpq:p≠q) (hrq:r≠q) (i:Nat) (u:Value) (hc:n.cells.setIfInBounds i u=n2.cells) (hrow:Z3 (w.setCell ⟨q,i,none⟩ u) v l):TrR p q r x v l n2 (w.setCell ⟨q,i,none⟩ u) :=
 ⟨(Z1 (by show p≠q;exact hpq)).trans h.tr,by rw[←hc];exact Zg h.nd i u,(Z1 (by show r≠q;exact hrq)).trans h.res,hrow⟩
def Zat (w:World) (n:Nod):World:=(w.alloc (.cells Zk.cells 157)).setRow w.heap.size n.cells
theorem Z3R (w:World) (n:Nod):(Zat w n).heap[w.heap.size]?=some (.cells n.cells 157 (0,0)):=setRow_heap _ _ _ _ _ _ (heap_alloc_new _ _)
theorem Z3g (w:World) (n:Nod):Below w.heap.size w (Zat w n):=below_setRow ((Below.refl _ _).alloc (Nat.le_refl _) _) (Nat.le_refl _) _
theorem Zer {w:World} {v:Value} {l:List Nod} (h:Z3 w v l) (hne:l≠[]) : ∀ k,v.ownBlock=some k→k<w.heap.size:=by
 intro k hk
 obtain⟨a,c,rfl,_,_⟩:=h.form
 obtain⟨b,o,ha,hr⟩:=h.range 0 (List.length_pos_iff.2 hne)
 subst ha
 simp[Value.ownBlock]at hk
 subst hk
 exact World.block_lt_of_cell? _ _ (hr 0 _ (by rw[Z7];rfl))
def Zeg (w:World) (r:Tr×Bool) (e:Ending) (w':World):Prop:=∃ v',e=.returned (.tuple #[.agg #[.int .u64 (r.1.next:Int),v'],.bool r.2])∧Z3 w' v' r.1.n∧Below w.heap.size w w'
set_option maxHeartbeats 3200000 in
theorem Z9Q (v:Value) (x:Nat) (l:List Nod) (p:Nat) (w:World) (hv:Z3 w v l) (ht:TrOk l) (hne:l≠[]) :
  Calls Tryz.prog 142 #[.agg #[.int .u64 (x:Int),v],.int .u64 (p:Int)] w (Zeg w (Z1O ⟨x,l⟩ p)):=by
 obtain⟨a,c,rfl,g1,g2⟩:=hv.form
 unfold maxLen at g2
 have hvo:=hid (Zer hv hne)
 obtain⟨W,hW⟩ : ∃ W,W=(w.alloc (.cells #[.int .u64 (x:Int),.slice a l.length c] 86)).alloc (.cells #[.int .u64 0,.slice none 0 0] 86):=⟨_,rfl⟩
 have hb0:Below w.heap.size w W:=by rw[hW];exact((Below.refl w.heap.size w).alloc (Nat.le_refl _) _).alloc (by simp) _
 have hx0:W.heap[w.heap.size]?=some (.cells #[.int .u64 (x:Int),.slice a l.length c] 86 (0,0)):=by rw[hW,heap_alloc_old _ _ (by simp),heap_alloc_new]
 have hy0:W.heap[w.heap.size+1]?=some (.cells #[.int .u64 0,.slice none 0 0] 86 (0,0)):=by rw[hW];exact Z27 _ _ _
 have hfi:=hid (Z5M _ x l p W (hv.below hb0) (by have:=ht.few;omega))
 have e0:=Z0 hx0 0
 have e1:=Z0 hx0 1
 have hv0:=hid (hv.below hb0)
 replace hb0:=hid hb0
 replace hx0:=hid hx0
 replace hy0:=hid hy0
 go_enter Tryz.func142,Tryz.ntmps142
 go_upto_region 1 with (rw[←hW];replace hW:=hid hW)
 try (rw[←hW];replace hW:=hid hW)
 go_wp2_with fail
 refine hfi.out.mono ?_
 rintro e w2 ⟨rfl,hb2⟩
 have hB2:=hid (sn hb0.out hb2)
 have hs2:=hid (lt_of_block ((hb2.block _ (lt_of_block hy0.out)).trans hy0.out))
 obtain⟨n,hn⟩ : ∃ n,n=Z1M l p:=⟨_,rfl⟩
 have hnew:=hid (heap_alloc_new w2 (.cells Zk.cells 157))
 obtain⟨X,hX⟩ : ∃ W,W=Zat w2 n:=⟨_,rfl⟩
 have hbX:Below w2.heap.size w2 X:=by rw[hX];exact Z3g _ _
 have hBX:=hid (sn hB2.out hbX)
 have hA:TrR w.heap.size w2.heap.size (w.heap.size+1) x (.slice a l.length c) l n X :=
  ⟨(hbX.block _ (by have:=hs2.out;omega)).trans ((hb2.block _ (lt_of_block hx0.out)).trans hx0.out),by rw[hX];exact Z3R _ _,(hbX.block _ hs2.out).trans ((hb2.block _ (lt_of_block hy0.out)).trans hy0.out),(hv0.out.below hb2).below hbX⟩
 have q0:=hA.t0
 have q1:=hA.t1
 unfold Zat at hX
 rw[Zc]at hX hnew
 rw[←hn]
 clear hb2 hbX hfi e0 e1 hB2 hx0 hy0 hv0 hb0
 replace hA:=hid hA
 replace hn:=hid hn
 go_upto_region 2 with (first
  |(rw[←hX];replace hX:=hid hX)
  |(refine wpList_store_row (by rfl) 157 (.tmp 6) (.tmp 12) (by rfl) w2.heap.size n.cells (by rfl) (by rfl) 157 _ hnew.out (by kernel_rfl) (by kernel_rfl) (Zw n) ?_))
 try (rw[←hX];replace hX:=hid hX)
 clear hnew
 generalize w2.heap.size=z at *
 have q10:X.cell? ⟨z,10,none⟩=some (.bool n.gone):=Z0 hA.out.nd 10
 cases hg:ZM l p with
 | none =>
  have hdE:=hid (show Z1O ⟨x,l⟩ p=(⟨x,l⟩,false) by unfold Z1O;rw[hg])
  simp only[Option.isSome_none]
  clear hg
  have hres:=hid hA.out.res
  have hlt:=hid (lt_of_block hA.out.res)
  have hN:=hid (Z3.other (w':=X.setRow (w.heap.size+1) #[.int .u64 (x:Int),.slice a l.length c]) hA.out.row (w.heap.size+1) (fun e=>by have:=hvo.out _ e;omega) (by simp) (fun k hk=>setRow_other _ _ _ _ hk))
  go_wp2_with (refine wpList_store_row (by rfl) 86 (.tmp 4) (.tmp 21) (by rfl) (w.heap.size+1) #[.int .u64 (x:Int),.slice a l.length c] (by rfl) (by rfl) 86 _ hres.out (by kernel_rfl) (by kernel_rfl) (by kernel_rfl) ?_)
  refine bodyPost_ret (Zy rfl _ _ (w.heap.size+1) _ _ _ _ _ rfl rfl (setRow_heap _ _ _ #[.int .u64 (x:Int),.slice a l.length c] _ _ hres.out) Tryz.underlying86 rfl (by kernel_rfl)) rfl ?_
  refine⟨.slice a l.length c,?_,?_,below_setRow hBX.out (by omega) _⟩
  ·rw[hdE.out];rfl
  ·rw[hdE.out];exact hN.out
 | some y =>
  have hny:n=y:=by rw[hn.out];unfold Z1M;rw[hg];rfl
  subst hny
  simp only[Option.isSome_some]
  cases hgn:n.gone with
  | false =>
   have hdE:=hid (show Z1O ⟨x,l⟩ p=(⟨x,l⟩,false) by unfold Z1O;rw[hg];simp only;rw[hgn];rfl)
   rw[hgn]at q10
   clear hg hgn
   have hres:=hid hA.out.res
   have hlt:=hid (lt_of_block hA.out.res)
   have hN:=hid (Z3.other (w':=X.setRow (w.heap.size+1) #[.int .u64 (x:Int),.slice a l.length c]) hA.out.row (w.heap.size+1) (fun e=>by have:=hvo.out _ e;omega) (by simp) (fun k hk=>setRow_other _ _ _ _ hk))
   go_wp2_with (refine wpList_store_row (by rfl) 86 (.tmp 4) (.tmp 21) (by rfl) (w.heap.size+1) #[.int .u64 (x:Int),.slice a l.length c] (by rfl) (by rfl) 86 _ hres.out (by kernel_rfl) (by kernel_rfl) (by kernel_rfl) ?_)
   refine bodyPost_ret (Zy rfl _ _ (w.heap.size+1) _ _ _ _ _ rfl rfl (setRow_heap _ _ _ #[.int .u64 (x:Int),.slice a l.length c] _ _ hres.out) Tryz.underlying86 rfl (by kernel_rfl)) rfl ?_
   refine⟨.slice a l.length c,?_,?_,below_setRow hBX.out (by omega) _⟩
   ·rw[hdE.out];rfl
   ·rw[hdE.out];exact hN.out
  | true =>
   have hdE:=hid (show Z1O ⟨x,l⟩ p=(⟨x,Z1G l p⟩,true) by unfold Z1O;rw[hg];simp only;rw[hgn];rfl)
   rw[hgn]at q10
   have hdrp:=hid (Z9i _ x l p X hA.out.row (by have:=ht.few;omega))
   clear hg hgn
   go_wp2_with fail
   refine hdrp.out.mono ?_
   rintro e w9 ⟨v9,rfl,hv9,hf9,hb9⟩
   have hres:=hid (hA.out.below hb9).res
   have hB9:=hid (sn hBX.out hb9)
   have hsz:=hid hBX.out.size
   have hlt:=hid (lt_of_block hA.out.res)
   have hN:=hid (Z3.other (w':=w9.setRow (w.heap.size+1) #[.int .u64 (x:Int),v9]) hv9 (w.heap.size+1) (fun e=>by have:=hf9 _ e;have:=hlt.out;omega) (by simp) (fun k hk=>setRow_other _ _ _ _ hk))
   obtain⟨a9,c9,rfl,_,_⟩:=hv9.form
   clear hb9 hv9 hf9 q0 q1 q10
   go_wp2_with (refine wpList_store_row (by rfl) 86 (.tmp 4) (.tmp 24) (by rfl) (w.heap.size+1) #[.int .u64 (x:Int),.slice a9 (Z1G l p).length c9] (by rfl) (by rfl) 86 _ hres.out (by kernel_rfl) (by kernel_rfl) (by kernel_rfl) ?_)
   refine bodyPost_ret (Zy rfl _ _ (w.heap.size+1) _ _ _ _ _ rfl rfl (setRow_heap _ _ _ #[.int .u64 (x:Int),.slice a9 (Z1G l p).length c9] _ _ hres.out) Tryz.underlying86 rfl (by kernel_rfl)) rfl ?_
   refine⟨.slice a9 (Z1G l p).length c9,?_,?_,below_setRow hB9.out (by omega) _⟩
   ·rw[hdE.out];rfl
   ·rw[hdE.out];exact hN.out
end
section
open Go.RowKit Go.Maps
structure Cnt where
 path:Nat
 held:Nat
 opn:Nat
def Cnt.cells (c:Cnt):Array Value:=#[.int .u64 (c.path:Int),.int .i64 (c.held:Int),.int .i64 (c.opn:Int)]
def ZcZ (l:List Cnt):List Value:=l.flatMap fun c=>c.cells.toList
theorem Z6s (l:List Cnt) (i j:Nat) (hi:i<l.length) (hj:j<3):(ZcZ l)[i * 3+j]?=l[i].cells[j]?:=by
 induction l generalizing i with
 | nil=>simp at hi
 | cons n l ih =>
  show(n.cells.toList++ZcZ l)[i * 3+j]?=_
  have h3:n.cells.toList.length=3:=rfl
  cases i with
  | zero=>rw[Nat.zero_mul,Nat.zero_add,List.getElem?_append_left (by omega)];simp
  | succ k =>
   rw[List.getElem?_append_right (by omega),h3,show(k+1) * 3+j - 3=k * 3+j by omega]
   exact ih k (by simpa using hi)
def Z37 (w:World) (v:Value) (l:List Cnt):Prop:=Z2w w 3 v l.length (ZcZ l)
theorem Z37.form {w:World} {v:Value} {l:List Cnt} (h:Z37 w v l) : ∃ a c,v=.slice a l.length c∧l.length≤c∧c≤maxLen:=by
 obtain⟨_,a,c,hv,h1,h2,_⟩:=h
 exact⟨a,c,hv,h1,h2⟩
theorem Z37.below {w w':World} {v:Value} {l:List Cnt} (h:Z37 w v l) (hb:Below w.heap.size w w'):Z37 w' v l:=Z2w.below h hb
theorem Z37.nil {w:World}:Z37 w (.slice none 0 0) []:=Z15.nil.weak
theorem Z2w.other {w w':World} {k n:Nat} {v:Value} {xs:List Value} (h:Z2w w k v n xs) (z:Nat) (hz:v.ownBlock≠some z) (hk : ∀ k,k≠z→w'.heap[k]?=w.heap[k]?):Z2w w' k v n xs:=by
 obtain⟨hl,a,c,hv,h1,h2,h3,h4⟩:=h
 refine⟨hl,a,c,hv,h1,h2,h3,fun i u hu=>?_⟩
 obtain⟨b,o,ha,hc⟩:=h4 i u hu
 refine⟨b,o,ha,?_⟩
 subst hv ha
 rw[World.cell?_of_block (w:=w) (hk b (fun e=>hz (by rw[←e];rfl)))]
 exact hc
theorem Z37.range {w:World} {a:Option Addr} {n c:Nat} {l:List Cnt} (h:Z37 w (.slice a n c) l) (i:Nat) (hi:i<l.length) : ∃ b o,a=some ⟨b,o,none⟩∧w.rangeAt b (o+i * 3) l[i].cells.toList:=by
 obtain⟨_,a',c',hv,h1,h2,h3,h4⟩:=h
 cases hv
 obtain⟨b,o,ha,_⟩:=h4 (i * 3) _ (by rw[show i * 3=i * 3+0 from rfl,Z6s l i 0 hi (by omega)];rfl)
 refine⟨b,o,ha,fun j u hu=>?_⟩
 have hj:j<3:=(List.getElem?_eq_some_iff.1 hu).1
 obtain⟨b',o',ha',hc⟩:=h4 (i * 3+j) u (by rw[Z6s l i j hi hj];simpa using hu)
 rw[ha]at ha';cases ha'
 rw[Nat.add_assoc];exact hc
def Z87:List Cnt→Nat→Option Nat
 | [],_=>none
 | c :: l,p=>if c.path=p then some 0 else(Z87 l p).map (· + 1)
theorem Z9R {l:List Cnt} {p k:Nat} (h:Z87 l p=some k) : ∃ h:k<l.length,l[k].path=p:=by
 induction l generalizing k with
 | nil=>cases h
 | cons c l ih =>
  unfold Z87 at h
  split at h
  ·cases h;exact⟨by simp,by assumption⟩
  ·cases hi:Z87 l p with
   | none=>rw[hi]at h;cases h
   | some j=>rw[hi]at h;cases h;obtain⟨h1,h2⟩:=ih hi;exact⟨by simpa using h1,by simpa using h2⟩
theorem Z88 {l:List Cnt} {p k:Nat} (hk:k<l.length) (hp:l[k].path=p) (hn : ∀ j (h:j<k),l[j].path≠p):Z87 l p=some k:=by
 induction l generalizing k with
 | nil=>simp at hk
 | cons c l ih =>
  unfold Z87
  cases k with
  | zero=>rw[if_pos (by simpa using hp)]
  | succ k =>
   rw[if_neg (by simpa using hn 0 (by omega)),ih (k:=k) (by simpa using hk) (by simpa using hp) (fun j h=>by simpa using hn (j+1) (by omega))]
   rfl
theorem Z9S {l:List Cnt} {p:Nat} (hn : ∀ j (h:j<l.length),l[j].path≠p):Z87 l p=none:=by
 induction l with
 | nil=>rfl
 | cons c l ih =>
  unfold Z87
  rw[if_neg (show c.path≠p from hn 0 (by simp)),ih (fun j h=>show l[j].path≠p from hn (j+1) (by simpa using h))]
  rfl
def Z9T (l:List Cnt) (p:Nat):Nat×Nat:=match Z87 l p with | some k=>(match l[k]? with | some c=>(c.held,c.opn) | none=>(0,0)) | none=>(0,0)
structure RFo (w:World) (g:Nat) (v vu vg vc:Value) (c:List Cnt) (f:FsV) (u:Usr) (n:Nat):Prop where
 blk:w.heap[g]?=some (.cells #[.int .u64 (f.t.next:Int),v,vu,vg,.int .u32 (f.now:Int),vc] 142 (0,0))
 row:Z3 w v f.t.n
 cnt:Z37 w vc c
 nv:v.ownBlock≠some g
 nc:vc.ownBlock≠some g
 usr : ∃ W0,Z1c W0 vu u.us∧Z1Y W0 vg u.gs∧Below W0.heap.size W0 w∧W0.heap.size≤g
 look : ∀ p,Z9T c p=f.by_ p
 few:c.length≤n
 le : ∀ x∈c,x.path<18446744073709551616∧x.held≤n∧x.opn≤n
theorem RFo.below {w w':World} {g n:Nat} {v vu vg vc:Value} {c:List Cnt} {f:FsV} {u:Usr} (h:RFo w g v vu vg vc c f u n) (hb:Below w.heap.size w w'):RFo w' g v vu vg vc c f u n:=by
 obtain⟨W0,h1,h2,h3,h4⟩:=h.usr
 exact⟨(hb.block _ (lt_of_block h.blk)).trans h.blk,h.row.below hb,h.cnt.below hb,h.nv,h.nc,⟨W0,h1,h2,h3.trans (hb.mono h3.size),h4⟩,h.look,h.few,h.le⟩
theorem RFo.mono {w:World} {g n n':Nat} {v vu vg vc:Value} {c:List Cnt} {f:FsV} {u:Usr} (h:RFo w g v vu vg vc c f u n) (hn:n≤n'):RFo w g v vu vg vc c f u n' :=
 ⟨h.blk,h.row,h.cnt,h.nv,h.nc,h.usr,h.look,Nat.le_trans h.few hn,fun x hx=>by have:=h.le x hx;omega⟩
theorem RFo.users {w:World} {g n:Nat} {v vu vg vc:Value} {c:List Cnt} {f:FsV} {u:Usr} (h:RFo w g v vu vg vc c f u n):Z1c w vu u.us∧Z1Y w vg u.gs:=by
 obtain⟨W0,h1,h2,h3,h4⟩:=h.usr
 exact⟨h1.below h3,h2.below h3⟩
theorem RFo.put {w:World} {g n:Nat} {v v' vu vg vc:Value} {c:List Cnt} {f:FsV} {u:Usr} (h:RFo w g v vu vg vc c f u n) (t:Tr) (hv:Z3 w v' t.n) (nv:v'.ownBlock≠some g) :
  RFo ((w.setCell ⟨g,0,none⟩ (.int .u64 (t.next:Int))).setCell ⟨g,1,none⟩ v') g v' vu vg vc c (f.set t) u n:=by
 obtain⟨W0,h1,h2,h3,h4⟩:=h.usr
 have hk : ∀ k,k≠g→((w.setCell ⟨g,0,none⟩ (.int .u64 (t.next:Int))).setCell ⟨g,1,none⟩ v').heap[k]?=w.heap[k]?:=fun k hk=>(Z1 hk).trans (Z1 hk)
 exact⟨Zg (Zg h.blk 0 _) 1 _,Z2w.other hv g nv hk,Z2w.other h.cnt g h.nc hk,nv,h.nc,⟨W0,h1,h2,(h3.setCell (p:=⟨g,0,none⟩) h4 _).setCell (p:=⟨g,1,none⟩) h4 _,h4⟩,h.look,h.few,h.le⟩
theorem RFo.tick {w:World} {g n:Nat} {v vu vg vc:Value} {c:List Cnt} {f:FsV} {u:Usr} (h:RFo w g v vu vg vc c f u n) (k:Nat) :
  RFo (w.setCell ⟨g,4,none⟩ (.int .u32 (k:Int))) g v vu vg vc c ⟨f.t,k,f.by_⟩ u n:=by
 obtain⟨W0,h1,h2,h3,h4⟩:=h.usr
 have hk : ∀ j,j≠g→(w.setCell ⟨g,4,none⟩ (.int .u32 (k:Int))).heap[j]?=w.heap[j]?:=fun j hj=>Z1 hj
 exact⟨Zg h.blk 4 _,Z2w.other h.row g h.nv hk,Z2w.other h.cnt g h.nc hk,h.nv,h.nc,⟨W0,h1,h2,h3.setCell (p:=⟨g,4,none⟩) h4 _,h4⟩,h.look,h.few,h.le⟩
def Zeh:Option Nat→Int | some k=>(k:Int) | none=>-1
set_option maxHeartbeats 1600000 in
theorem Z89 (g n:Nat) (v vu vg vc:Value) (c:List Cnt) (f:FsV) (u:Usr) (q:Nat) (w:World) (h:RFo w g v vu vg vc c f u n) (hn:n≤1000000) :
  Calls Tryz.prog 159 #[.pointer (some ⟨g,0,none⟩),.int .u64 (q:Int)] w fun e w'=>e=.returned (.int .i64 (Zeh (Z87 c q)))∧w'=w:=by
 obtain⟨a,cc,rfl,g1,g2⟩:=h.cnt.form
 unfold maxLen at g2
 have hlen:=h.few
 have q5:=Z0 h.blk 5
 have hc:=hid h.cnt
 have hle:=hid h.le
 clear h
 go_enter Tryz.func159,Tryz.ntmps159
 go_wp2_with fail
 go_loopw [5] (fun kv wr=>∃ k:Nat,k≤c.length∧kv=.int .i64 (k:Int)∧wr=w∧Hid (∀ j (h:j<c.length),j<k→c[j].path≠q)) (fun kv _=>c.length - (intOf kv).toNat)
 case atStart=>exact⟨0,by omega,rfl,rfl,hid (fun j _ h=>by omega)⟩
 case round =>
  obtain⟨k,hk,rfl,rfl,hno⟩:=hrel
  by_cases hkl:k<c.length
  ·obtain⟨bb,o,ha,hr⟩:=hc.out.range k hkl
   subst ha
   have d0:wr.cell? ⟨bb,o+k * 3,none⟩=some (.int .u64 (c[k].path:Int)):=hr 0 _ rfl
   by_cases hp:c[k].path=q
   ·have hE:=Z88 hkl hp (fun j h=>hno.out j (by omega) h)
    rw[hp]at d0
    replace hE:=hid hE
    clear hp
    go_wp2_with fail
    go_ret
    exact⟨by rw[hE.out];rfl,rfl⟩
   ·have hp2:((c[k].path:Int) ==(q:Int))=false:=beq_false_of_ne (by omega)
    have hno2:=hid (show ∀ j (h:j<c.length),j<k+1→c[j].path≠q from fun j h1 h2=>by
     by_cases e:j<k
     ·exact hno.out j h1 e
     ·obtain rfl:j=k:=by omega
      exact hp)
    generalize c[k].path=pp at *
    go_wp2_with fail
    go_roundw
    case rel=>exact⟨k+1,by omega,by go_num,by first | rfl | trivial,hno2⟩
    case measure=>simp[intOf];omega
  ·obtain rfl:k=c.length:=by omega
   have hE:=Z9S (fun j h=>hno.out j h h)
   replace hE:=hid hE
   go_wp2_with fail
   go_ret
   exact⟨by rw[hE.out];rfl,rfl⟩
end
section
variable {V:ByteArray→Bool}
def Zdu (l:List Nod):Prop:=∀ n∈l,NodOk n
theorem Zdu.set {l:List Nod} (h:Zdu l) {y:Nod} (hy:NodOk y):Zdu (Z1B l y):=fun n hn=>by
 rcases ZA.1 hn with e |⟨h1,_⟩
 ·rw[e];exact hy
 ·exact h n h1
theorem NodOk.touch {x:Nod} (h:NodOk x) {who:ByteArray} {now:Nat} (hw:who.size≤maxLen) (hn:now<4294967296):NodOk (ZW x who now) :=
 ⟨h.path,by show(x.vers+1) % 4294967296<_;omega,h.mode,h.atm,hn,h.name,h.uid,h.gid,hw,h.up,h.data⟩
theorem NodOk.gone {x:Nod} (h:NodOk x):NodOk (Z3A x):=⟨h.path,h.vers,h.mode,h.atm,h.mtm,h.name,h.uid,h.gid,h.muid,by show 0<_;omega,h.data⟩
structure GoodV (V:ByteArray→Bool) (t:Tr):Prop where
 ok:OkV V t
 nod:Zdu t.n
 next:t.next<9223372036854775808
abbrev Zes:=GoodV Z8
theorem GoodV.tr {t:Tr} (h:GoodV V t):TrOk t.n :=
 ⟨h.ok.sort,by have:=h.ok.few;omega,h.nod,fun n hn=>(h.ok.low n hn).1,fun n hn=>by have:=h.ok.len n hn;omega⟩
theorem Z73 {t:Tr} (h:GoodV V t) {d:Nat} {x:Nod} (hg:ZM t.n d=some x):d<18446744073709551616:=by
 obtain⟨h1,h2⟩:=Zr hg
 rw[←h2];exact(h.nod x h1).path
theorem Z8a {t:Tr} (h:GoodV V t) (d:Nat) (name:ByteArray) (mode:Nat) (uid gid:ByteArray) (now:Nat) (hb:ZV mode=true) (hu:V uid=true) (hg:V gid=true) (hm:mode<4294967296) (hn:now<4294967296) (h1:name.size≤maxLen) (h2:uid.size≤maxLen) (h3:gid.size≤maxLen) (hx:t.next+1<9223372036854775808):GoodV V (Z11 t d name mode uid gid now).1:=by
 refine⟨ZaN h.ok d name mode uid gid now hb hu hg,?_,?_⟩
 ·unfold Z11
  cases hq:ZM t.n d with
  | none=>exact h.nod
  | some x =>
   have hd:=Z73 h hq
   have hxo:=h.nod x (Zr hq).1
   simp only
   repeat' split
   all_goals first
    | exact h.nod
    | exact(h.nod.set (hxo.touch h2 hn)).set ⟨by show t.next<_;omega,by show 0<_;omega,hm,hn,hn,h1,h2,h3,h2,hd,by show(0:Nat)≤_;omega⟩
 ·unfold Z11
  have:=h.next
  cases hq:ZM t.n d with
  | none=>exact h.next
  | some x =>
   simp only
   repeat' split
   all_goals first | exact h.next | exact hx
theorem Z5l {t:Tr} (h:GoodV V t) {x:Nod} (hx:x∈t.n) (b who:ByteArray) (now:Nat) (hb:b.size≤maxLen) (hn:now<4294967296) (h2:who.size≤maxLen):Zdu (Z2n t x b who now).1.n:=by
 have hxo:=h.nod x hx
 unfold Z2n
 split
 ·exact h.nod
 ·exact h.nod.set ⟨hxo.path,by show(x.vers+1) % 4294967296<_;omega,hxo.mode,hxo.atm,hn,hxo.name,hxo.uid,hxo.gid,h2,hxo.up,hb⟩
theorem Z5m (t:Tr) (x:Nod) (b who:ByteArray) (now:Nat):(Z2n t x b who now).1.next=t.next:=by
 unfold Z2n;split <;> rfl
theorem Z9U {t:Tr} (h:GoodV V t) (p off:Nat) (b who:ByteArray) (now:Nat) (hw:V who=true) (hn:now<4294967296) (h2:who.size≤maxLen):GoodV V (Z3V t p off b who now).1:=by
 refine⟨ZcA h.ok p off b who now hw,?_,?_⟩
 ·unfold Z3V
  cases hq:ZM t.n p with
  | none=>exact h.nod
  | some x =>
   have hx:=(Zr hq).1
   have hlen:=h.ok.len x hx
   simp only
   repeat' split
   all_goals first
    | exact h.nod
    |(refine Z5l h hx _ who now ?_ hn h2
      rw[Z3D]
      unfold maxLen
      omega)
 ·unfold Z3V
  cases hq:ZM t.n p with
  | none=>exact h.next
  | some x =>
   simp only
   repeat' split
   all_goals first | exact h.next |(rw[Z5m];exact h.next)
theorem Z9V {t:Tr} (h:GoodV V t) (p size:Nat) (who:ByteArray) (now:Nat) (hw:V who=true) (hn:now<4294967296) (h2:who.size≤maxLen):GoodV V (Z2e t p size who now).1:=by
 refine⟨ZcB h.ok p size who now hw,?_,?_⟩
 ·unfold Z2e
  cases hq:ZM t.n p with
  | none=>exact h.nod
  | some x =>
   have hx:=(Zr hq).1
   simp only
   repeat' split
   all_goals first
    | exact h.nod
    |(refine Z5l h hx _ who now ?_ hn h2
      have:(Z3t (Z50 x.data.data.toList size)).size=size:=by rw[show(Z3t (Z50 x.data.data.toList size)).size=(Z50 x.data.data.toList size).length from by simp[Z3t,ByteArray.size],Z21]
      rw[this]
      unfold maxLen
      omega)
 ·unfold Z2e
  cases hq:ZM t.n p with
  | none=>exact h.next
  | some x =>
   simp only
   repeat' split
   all_goals first | exact h.next |(rw[Z5m];exact h.next)
theorem Z8b {t:Tr} (h:GoodV V t) (p off k now:Nat) (hn:now<4294967296):GoodV V (Z2O t p off k now).1:=by
 refine⟨ZaO h.ok p off k now,?_,?_⟩
 ·unfold Z2O
  cases hq:ZM t.n p with
  | none=>exact h.nod
  | some x =>
   have hxo:=h.nod x (Zr hq).1
   simp only
   split
   ·exact h.nod
   ·exact h.nod.set ⟨hxo.path,hxo.vers,hxo.mode,hn,hxo.mtm,hxo.name,hxo.uid,hxo.gid,hxo.muid,hxo.up,hxo.data⟩
 ·unfold Z2O
  cases hq:ZM t.n p with
  | none=>exact h.next
  | some x=>simp only;split <;> exact h.next
theorem Z2a {t:Tr} (h:GoodV V t) (p:Nat) (who:ByteArray) (now:Nat) (hw:V who=true) (hn:now<4294967296) (h2:who.size≤maxLen):GoodV V (ZQ t p who now).1:=by
 refine⟨Z7R h.ok p who now hw,?_,?_⟩
 ·unfold ZQ
  cases hq:ZM t.n p with
  | none=>exact h.nod
  | some x =>
   have hxo:=h.nod x (Zr hq).1
   simp only
   split
   ·exact h.nod
   ·split
    ·exact h.nod
    ·split
     ·exact h.nod
     ·cases hu:ZM t.n x.up with
      | none=>exact h.nod.set hxo.gone
      | some d=>exact(h.nod.set hxo.gone).set ((h.nod d (Zr hu).1).touch h2 hn)
 ·unfold ZQ
  cases hq:ZM t.n p with
  | none=>exact h.next
  | some x =>
   simp only
   split
   ·exact h.next
   ·split
    ·exact h.next
    ·split
     ·exact h.next
     ·cases hu:ZM t.n x.up <;> exact h.next
theorem Z8c {t:Tr} (h:GoodV V t) (p:Nat):GoodV V (Z1O t p).1:=by
 refine⟨Z7k h.ok p,?_,?_⟩
 ·unfold Z1O
  cases hq:ZM t.n p with
  | none=>exact h.nod
  | some x =>
   simp only
   split
   ·exact fun n hn=>h.nod n (List.mem_filter.1 hn).1
   ·exact h.nod
 ·unfold Z1O
  cases hq:ZM t.n p with
  | none=>exact h.next
  | some x=>simp only;split <;> exact h.next
theorem Z9W (uid:ByteArray) (now:Nat):Z16 [Z3o uid now]:=List.pairwise_singleton _ _
theorem Z7w (uid:ByteArray) (now:Nat):ZF (Z3o uid now)=true:=by show(!decide ((2147484157:Nat) &&& 2147483648=0))=true;decide
theorem Z9X (uid:ByteArray) (now:Nat):ZV (Z3o uid now).mode=true:=by show ZV 2147484157=true;decide
theorem Zbn (uid:ByteArray) (now:Nat):Z10 [Z3o uid now]=0:=by rfl
theorem Z9Y (uid:ByteArray) (now:Nat):(Z3o uid now).name.size≤maxLen:=by show(1:Nat)≤maxLen;unfold maxLen;omega
theorem Zbo (uid:ByteArray) (now:Nat) (h1:uid.size≤maxLen) (hn:now<4294967296):NodOk (Z3o uid now) :=
 ⟨by show(1:Nat)<_;omega,by show(0:Nat)<_;omega,by show(2147484157:Nat)<_;omega,hn,hn,Z9Y uid now,h1,h1,h1,by show(1:Nat)<_;omega,Nat.zero_le _⟩
theorem Zd0 (uid:ByteArray) (now:Nat) (hu:V uid=true):OkV V ⟨2,[Z3o uid now]⟩ where
 sort:=Z9W uid now
 root:=⟨Z3o uid now,List.mem_singleton.2 rfl,rfl,Z7w uid now,rfl,rfl,rfl⟩
 low n hn:=by rw[List.mem_singleton.1 hn];exact⟨Nat.le_refl 1,Nat.lt_succ_self 1⟩
 bits n hn:=by rw[List.mem_singleton.1 hn];exact Z9X uid now
 empt n hn _:=by rw[List.mem_singleton.1 hn];rfl
 nam n hn h:=by rw[List.mem_singleton.1 hn]at h;exact absurd rfl h
 ids n hn:=by rw[List.mem_singleton.1 hn];exact⟨hu,hu,hu⟩
 len n hn:=by rw[List.mem_singleton.1 hn];exact Nat.zero_le _
 gon n hn h:=by rw[List.mem_singleton.1 hn]at h;cases h
 par n hn _:=⟨Z3o uid now,List.mem_singleton.2 rfl,by rw[List.mem_singleton.1 hn];rfl,Z7w uid now,rfl⟩
 uniq a ha b hb d _ _ _:=by rw[List.mem_singleton.1 ha,List.mem_singleton.1 hb]
 few:=by simp
 byt:=by rw[Zbn uid now];omega
 way n hn _:=by rw[List.mem_singleton.1 hn];exact .root
theorem Z9Z (uid:ByteArray) (now:Nat) (hu:V uid=true) (h1:uid.size≤maxLen) (hn:now<4294967296):GoodV V ⟨2,[Z3o uid now]⟩ :=
 ⟨Zd0 uid now hu,fun n h=>by rw[List.mem_singleton.1 h];exact Zbo uid now h1 hn,by simp⟩
end
section
variable {V:ByteArray→Bool}
structure FOkV (V:ByteArray→Bool) (f:FsV):Prop where
 good:GoodV V f.t
 now:f.now<4294967296
abbrev FOk:=FOkV Z8
theorem FOkV.ne {f:FsV} (h:FOkV V f):f.t.n≠[]:=by
 obtain⟨r,hr,_⟩:=h.good.ok.root
 exact List.ne_nil_of_mem hr
theorem FOkV.tr {f:FsV} (h:FOkV V f):TrOk f.t.n:=h.good.tr
theorem FOkV.set {f:FsV} (h:FOkV V f) {t:Tr} (ht:GoodV V t):FOkV V (f.set t):=⟨ht,h.now⟩
theorem FOkV.by_ {f:FsV} (h:FOkV V f) (F:Nat→Nat×Nat):FOkV V ⟨f.t,f.now,F⟩:=⟨h.good,h.now⟩
theorem Z4r {f:FsV} (h:FOkV V f) (p:Nat):FOkV V (Z2c f p):=by
 unfold Z2c
 split
 ·exact h
 ·split
  ·exact⟨Z8c h.good p,h.now⟩
  ·exact h
theorem Zbp {f:FsV} (h:FOkV V f) (p:Nat):FOkV V (Z6M f p).1:=by
 unfold Z6M
 split
 ·exact⟨h.good,h.now⟩
 ·exact h
theorem Zd1 {f:FsV} (h:FOkV V f) (p:Nat):FOkV V (Zds f p):=Z4r (h.by_ _) p
theorem Z45 {f:FsV} (h:FOkV V f) (p:Nat):FOkV V (ZP f p):=⟨h.good,h.now⟩
theorem Za0 {f:FsV} (h:FOkV V f) (who:ByteArray) (p off:Nat) (data:ByteArray) (hw:V who=true) (h2:who.size≤maxLen):FOkV V (Z30 f who p off data).1:=by
 unfold Z30
 split
 ·exact h
 ·exact h.set (Z9U h.good p off data who f.now hw h.now h2)
theorem Zbq {f:FsV} (h:FOkV V f) (p off k:Nat):FOkV V (Z4D f p off k).1:=by
 unfold Z4D
 split
 ·exact h
 ·exact h.set (Z8b h.good p off k f.now h.now)
theorem Z8d {f:FsV} (u:Usr) (h:FOkV V f) (who:ByteArray) (p:Nat) (hw:V who=true) (h2:who.size≤maxLen):FOkV V (Z1s u f who p).1:=by
 unfold Z1s
 split
 ·exact h
 ·split
  ·exact h
  ·split
   ·exact h
   ·split
    ·exact h
    ·exact Z4r (h.set (Z2a h.good p who f.now hw h.now h2)) p
theorem Za1 {f:FsV} (h:FOkV V f) (p mode:Nat):FOkV V (Z2d f p mode):=by
 unfold Z2d
 simp only
 split
 ·exact h.by_ _
 ·rename_i n hn
  split
  ·exact h.by_ _
  ·split
   ·exact h.by_ _
   ·have hm:=(Zr hn).1
    exact Z4r ((h.by_ _).set (Z2a h.good p n.uid f.now (h.good.ok.ids n hm).1 h.now (h.good.nod n hm).uid)) p
theorem Zbr {f:FsV} (u:Usr) (h:FOkV V f) (who:ByteArray) (p mode:Nat) (hw:V who=true) (h2:who.size≤maxLen):FOkV V (Z20 u f who p mode).1:=by
 unfold Z20
 split
 ·exact h
 ·split
  ·exact h
  ·split
   ·exact h
   ·split
    ·exact h
    ·split
     ·split
      ·exact h
      ·exact Z45 (h.set (Z9V h.good p 0 who f.now hw h.now h2)) p
     ·exact Z45 h p
end
section
variable {V:ByteArray→Bool}
structure GoodWV (V:ByteArray→Bool) (t:Tr):Prop where
 ok:OkV V t
 nod:Zdu t.n
abbrev Za2:=GoodWV Z8
theorem GoodV.w {t:Tr} (h:GoodV V t):GoodWV V t:=⟨h.ok,h.nod⟩
theorem GoodWV.tr {t:Tr} (h:GoodWV V t):TrOk t.n :=
 ⟨h.ok.sort,by have:=h.ok.few;omega,h.nod,fun n hn=>(h.ok.low n hn).1,fun n hn=>by have:=h.ok.len n hn;omega⟩
theorem Z3s {t:Tr} (h:GoodWV V t) (p:Nat):GoodWV V (Z1O t p).1:=by
 refine⟨Z7k h.ok p,?_⟩
 unfold Z1O
 cases hq:ZM t.n p with
 | none=>exact h.nod
 | some x =>
  simp only
  split
  ·exact fun n hn=>h.nod n (List.mem_filter.1 hn).1
  ·exact h.nod
structure FOkWV (V:ByteArray→Bool) (f:FsV):Prop where
 good:GoodWV V f.t
 now:f.now<4294967296
abbrev Z8e:=FOkWV Z8
theorem FOkV.w {f:FsV} (h:FOkV V f):FOkWV V f:=⟨h.good.w,h.now⟩
theorem FOkWV.ne {f:FsV} (h:FOkWV V f):f.t.n≠[]:=by
 obtain⟨r,hr,_⟩:=h.good.ok.root
 exact List.ne_nil_of_mem hr
theorem FOkWV.tr {f:FsV} (h:FOkWV V f):TrOk f.t.n:=h.good.tr
theorem FOkWV.set {f:FsV} (h:FOkWV V f) {t:Tr} (ht:GoodWV V t):FOkWV V (f.set t):=⟨ht,h.now⟩
theorem Za3 {f:FsV} (h:FOkWV V f) (p:Nat):FOkWV V (Z2c f p):=by
 unfold Z2c
 split
 ·exact h
 ·split
  ·exact⟨Z3s h.good p,h.now⟩
  ·exact h
end
section
open Go.RowKit Go.Maps
theorem Z8f {c:List Cnt} {q k:Nat} (h:Z87 c q=some k) (hk:k<c.length):Z9T c q=(c[k].held,c[k].opn):=by
 unfold Z9T;rw[h];simp only;rw[List.getElem?_eq_getElem hk]
theorem Z8g {c:List Cnt} {q:Nat} (h:Z87 c q=none):Z9T c q=(0,0):=by unfold Z9T;rw[h]
def ROf (w:World) (x:Nat×Nat) (e:Ending) (w':World):Prop:=∃ pp:Nat,e=.returned (.agg #[.int .u64 (pp:Int),.int .i64 (x.1:Int),.int .i64 (x.2:Int)])∧Below w.heap.size w w'
set_option maxHeartbeats 1600000 in
theorem Zd2 (g n:Nat) (v vu vg vc:Value) (c:List Cnt) (f:FsV) (u:Usr) (q:Nat) (w:World) (h:RFo w g v vu vg vc c f u n) (hn:n≤1000000) :
  Calls Tryz.prog 118 #[.pointer (some ⟨g,0,none⟩),.int .u64 (q:Int)] w (ROf w (f.by_ q)):=by
 rw[←h.look q]
 obtain⟨a,cc,rfl,g1,g2⟩:=h.cnt.form
 unfold maxLen at g2
 have hlen:=h.few
 obtain⟨W,hW⟩ : ∃ W,W=w.alloc (.cells #[.int .u64 0,.int .i64 0,.int .i64 0] 191):=⟨_,rfl⟩
 have hb0:Below w.heap.size w W:=by rw[hW];exact(Below.refl _ _).alloc (Nat.le_refl _) _
 have hR:=hid (show W.heap[w.heap.size]?=some (.cells #[.int .u64 0,.int .i64 0,.int .i64 0] 191 (0,0)) by rw[hW];exact heap_alloc_new _ _)
 have hF0:=h.below hb0
 have q5:=Z0 hF0.blk 5
 have hco:=hid (Z89 g n v vu vg _ c f u q W hF0 hn)
 have hc:=hid hF0.cnt
 replace hb0:=hid hb0
 clear h hF0
 cases hi:Z87 c q with
 | none =>
  rw[hi]at hco
  have hl:=hid (Z8g hi)
  unfold Zeh at hco
  clear hi
  go_enter Tryz.func118,Tryz.ntmps118
  go_wp2_with (rw[←hW];replace hW:=hid hW)
  try (rw[←hW];replace hW:=hid hW)
  refine hco.out.mono ?_
  rintro e w1 ⟨rfl,rfl⟩
  go_wp2_with (refine wpList_store_row (by rfl) 191 (.tmp 4) (.tmp 11) (by rfl) w.heap.size #[.int .u64 0,.int .i64 0,.int .i64 0] (by rfl) (by rfl) 191 _ hR.out (by kernel_rfl) (by kernel_rfl) (by kernel_rfl) ?_)
  refine bodyPost_ret (results_cell_row rfl _ _ w.heap.size _ #[.int .u64 0,.int .i64 0,.int .i64 0] _ _ rfl (setRow_heap _ _ _ _ _ _ hR.out) Tryz.underlying191 rfl (by kernel_rfl)) rfl ?_
  rw[hl.out]
  exact⟨0,rfl,below_setRow hb0.out (Nat.le_refl _) _⟩
 | some k =>
  obtain⟨hk,hp⟩:=Z9R hi
  rw[hi]at hco
  have hl:=hid (Z8f hi hk)
  obtain⟨bb,o,ha,hr⟩:=hc.out.range k hk
  subst ha
  unfold Zeh at hco
  generalize c[k]=x at *
  have k1:¬ ((k:Int)<0):=by omega
  have k2:(k:Int)<(c.length:Int):=by omega
  replace hr:=hid hr
  replace hp:=hid hp
  clear hi
  go_enter Tryz.func118,Tryz.ntmps118
  go_wp2_with (rw[←hW];replace hW:=hid hW)
  try (rw[←hW];replace hW:=hid hW)
  refine hco.out.mono ?_
  rintro e w1 ⟨rfl,rfl⟩
  go_wp2_with (first
   |(refine Zx (by rfl) 191 (.tmp 17) (by rfl) bb (o+k * 3) (by rfl) x.cells _ hr.out Tryz.underlying191 (by rfl) (by kernel_rfl) ?_)
   |(refine wpList_store_row (by rfl) 191 (.tmp 4) (.tmp 18) (by rfl) w.heap.size x.cells (by rfl) (by rfl) 191 _ hR.out (by kernel_rfl) (by kernel_rfl) (by kernel_rfl) ?_))
  refine bodyPost_ret (results_cell_row rfl _ _ w.heap.size _ x.cells _ _ rfl (setRow_heap _ _ _ _ _ _ hR.out) Tryz.underlying191 rfl (by kernel_rfl)) rfl ?_
  rw[hl.out]
  exact⟨x.path,rfl,below_setRow hb0.out (Nat.le_refl _) _⟩
def Z2J (f:FsV) (p:Nat):FsV:=if 0<(f.by_ p).1 then f else f.set (Z1O f.t p).1
def Z6t (g n:Nat) (v vu vg vc:Value) (c:List Cnt) (f:FsV) (u:Usr) (w:World) (e:Ending) (w':World):Prop:=e=.returned (.tuple #[])∧(∃ v',RFo w' g v' vu vg vc c f u n)∧FStep g g w w'
theorem ZdN (x y z:Value) (w:World):(Instr.field 191 (.agg #[x,y,z]) 1).run Tryz.prog w=.ok y w:=by kernel_rfl
set_option maxHeartbeats 1600000 in
theorem Z23 (g n:Nat) (v vu vg vc:Value) (c:List Cnt) (f:FsV) (u:Usr) (q:Nat) (w:World) (h:RFo w g v vu vg vc c f u n) {V:ByteArray→Bool} (hok:FOkWV V f) (hn:n≤1000000) :
  Calls Tryz.prog 86 #[.pointer (some ⟨g,0,none⟩),.int .u64 (q:Int)] w (Z6t g n v vu vg vc c (Z2J f q) u w):=by
 obtain⟨a,cc,rfl,g1,g2⟩:=h.row.form
 have hof:=Zd2 g n _ vu vg vc c f u q w h hn
 unfold ROf at hof
 have hfd:=ZdN
 have ht:=hok.tr
 have hne:=hok.ne
 have hRn:(Z1O f.t q).1.n≠[]:=FOkWV.ne (hok.set (Z3s hok.good q))
 by_cases hp:0<(f.by_ q).1
 ·have hE:Hid (Z2J f q=f):=hid (if_pos hp)
  have hpI:¬ ((f.by_ q).1=0):=by omega
  generalize (f.by_ q).1=i at *
  generalize (f.by_ q).2=j at *
  replace hof:=hid hof
  replace h:=hid h
  have hpB:((i:Int) == 0)=false:=by simpa using hpI
  go_enter Tryz.func86,Tryz.ntmps86
  go_wp2_with fail
  refine hof.out.mono ?_
  rintro e w1 ⟨pp,rfl,hb1⟩
  go_wp2_with fail
  go_end0
  exact⟨rfl,⟨_,by rw[hE.out];exact h.out.below hb1⟩,FStep.pure hb1⟩
 ·have hi0:(f.by_ q).1=0:=by omega
  have hE:Hid (Z2J f q=f.set (Z1O f.t q).1):=hid (if_neg hp)
  rw[hi0]at hof
  generalize (f.by_ q).2=j at *
  replace hof:=hid hof
  replace h:=hid h
  clear hp hi0
  go_enter Tryz.func86,Tryz.ntmps86
  go_wp2_with fail
  refine hof.out.mono ?_
  rintro e w1 ⟨pp,rfl,hb1⟩
  have hF1:=hid (h.out.below hb1)
  have hre:=hid (Z9Q _ f.t.next f.t.n q w1 hF1.out.row ht hne)
  have e0:=Z0 hF1.out.blk 0
  have e1:=Z0 hF1.out.blk 1
  go_wp2_with fail
  refine hre.out.mono ?_
  rintro e w2 ⟨v',rfl,hv2,hb2⟩
  rw[show(⟨f.t.next,f.t.n⟩:Tr)=f.t from rfl]at hv2 ⊢
  have hF2:=hF1.out.below hb2
  have hS2:=hid (FStep.pure (b:=g) (m:=g) (sn hb1 hb2))
  generalize (Z1O f.t q).1=R at *
  obtain⟨a',c',rfl,_,_⟩:=hv2.form
  have b0:=Zb hF2.blk 0
  have c0:=Z0 hF2.blk 0
  have hs1:=Zg hF2.blk 0 (.int .u64 (R.next:Int))
  have b1:(w2.setCell ⟨g,0,none⟩ (.int .u64 (R.next:Int))).frozen? ⟨g,1,none⟩=false:=Zb hs1 1
  have c1:(w2.setCell ⟨g,0,none⟩ (.int .u64 (R.next:Int))).cell? ⟨g,1,none⟩=some _:=Z0 hs1 1
  have hnv:(Value.slice a' R.n.length c').ownBlock≠some g:=by
   exact Z2V hv2 hRn hF2.blk (by show 6<12;omega)
  have hF3:=hid (hF2.put R hv2 hnv)
  clear hs1 hF2 hv2 hnv e0 e1 hre hb2 hof
  go_wp2_with fail
  go_end0
  exact⟨rfl,⟨_,by rw[hE.out];exact hF3.out⟩,hS2.out.trans (FStep.put _ _)⟩
end
end Go.Proofs.YtkefjeabckainaaGreat
