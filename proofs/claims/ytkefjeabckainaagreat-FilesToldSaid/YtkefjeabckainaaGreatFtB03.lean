/- What Put and Raw of num.Out and text.Put leave as it was, block by block, under bounds on lengths that each theorem names. No further condition. And the texts behind it. -/
import Derived.Test.YtkefjeabckainaaGreatFtB02
import Derived.Test.YtkefjeabckainaaGreatFtB01
import Derived.Laws.BitsAllLaws
import Derived.Laws.CopyOwn
namespace Go.Proofs.YtkefjeabckainaaGreat
set_option maxRecDepth 100000
set_option linter.unusedVariables false
section
open Go.RowKit
def Z7I (w:World) (b k:Nat):Prop:=k=b∨∃ v,w.cell? ⟨b,0,none⟩=some v∧v.ownBlock=some k
def Zdx (w:World) (b:Nat):Prop:=∃ (cs:Array Value) (t:TypeId) (fr:Nat×Nat),w.heap[b]?=some (.cells cs t fr)∧cs.size=2
structure OStep (b:Nat) (w w':World):Prop where
 below:Below b w w'
 block : ∀ k,k<w.heap.size→¬ Z7I w b k→w'.heap[k]?=w.heap[k]?∧¬ Z7I w' b k
 two:Zdx w b→Zdx w' b∧∀ k,Z7I w' b k→Z7I w b k
theorem OStep.refl (b:Nat) (w:World):OStep b w w:=⟨Below.refl _ _,fun _ _ h=>⟨rfl,h⟩,fun h=>⟨h,fun _ h=>h⟩⟩
theorem OStep.trans {b:Nat} {w w1 w2:World} (h:OStep b w w1) (k:OStep b w1 w2):OStep b w w2 :=
 ⟨h.below.trans k.below,fun j hj hn=>by
  obtain⟨e1,n1⟩:=h.block j hj hn
  obtain⟨e2,n2⟩:=k.block j (Nat.lt_of_lt_of_le hj h.below.size) n1
  exact⟨e2.trans e1,n2⟩,fun ht=>by
  obtain⟨t1,f1⟩:=h.two ht
  obtain⟨t2,f2⟩:=k.two t1
  exact⟨t2,fun j hj=>f1 j (f2 j hj)⟩⟩
theorem OStep.pure {b:Nat} {w w':World} (hb:b<w.heap.size) (h:Below w.heap.size w w'):OStep b w w' :=
 have hf : ∀ k,Z7I w' b k→Z7I w b k:=fun k hf=>by
  rcases hf with hf |⟨v,hv,hk⟩
  ·exact .inl hf
  ·exact .inr ⟨v,by rw[h.cell (p:=⟨b,0,none⟩) hb]at hv;exact hv,hk⟩
 ⟨h.mono (Nat.le_of_lt hb),fun j hj hn=>⟨h.block j hj,fun h=>hn (hf j h)⟩,fun⟨cs,t,fr,hc,hs⟩=>⟨⟨cs,t,fr,(h.block b hb).trans hc,hs⟩,hf⟩⟩
theorem Z5s.new {w:World} {b:Nat} {xs:List UInt8} (h:Z5s w b xs) (o:Obj):¬ Z7I (w.alloc o) b w.heap.size:=by
 obtain⟨v,ot,h1,h2⟩:=h
 have hlt:=lt_of_block h1
 rintro(he |⟨u,hu,hk⟩)
 ·omega
 ·have h1':(w.alloc o).heap[b]?=some (.cells #[v] ot (0,0)):=(heap_alloc_old w o hlt).trans h1
  rw[cell_of_one h1']at hu
  cases hu
  have:=(h2.lt _ hk).2
  omega
end
section
open Go.RowKit
theorem OStep.store {b:Nat} {w w1:World} {p:Addr} (h:OStep b w w1) (hp:w.heap.size≤p.block) (_hf:¬ Z7I w1 b p.block) (hb:b<w.heap.size) (u:Value):OStep b w (w1.setCell p u) :=
 have hc0:(w1.setCell p u).cell? ⟨b,0,none⟩=w1.cell? ⟨b,0,none⟩:=World.cell?_of_block (w:=w1) (Z1 (by show b≠p.block;omega))
 have hfoot : ∀ k,Z7I (w1.setCell p u) b k→Z7I w1 b k:=by
  rintro k (he |⟨v,hv,hk2⟩)
  ·exact .inl he
  ·rw[hc0]at hv;exact .inr ⟨v,hv,hk2⟩
 ⟨h.below.setCell (by omega) _,fun k hk hn=>by
  obtain⟨e1,n1⟩:=h.block k hk hn
  exact⟨(Z1 (by omega)).trans e1,fun hf=>n1 (hfoot k hf)⟩,fun ht=>by
  obtain⟨⟨cs,t,fr,hc,hs⟩,f1⟩:=h.two ht
  exact⟨⟨cs,t,fr,(Z1 (by show b≠p.block;omega)).trans hc,hs⟩,fun k hk=>f1 k (hfoot k hk)⟩⟩
theorem Z7I.store {b k:Nat} {w:World} {p:Addr} {u:Value} (hp:p.block≠b) (hf:¬ Z7I w b k):¬ Z7I (w.setCell p u) b k:=by
 rintro(he |⟨v,hv,hk2⟩)
 ·exact hf (.inl he)
 ·have:(w.setCell p u).cell? ⟨b,0,none⟩=w.cell? ⟨b,0,none⟩:=World.cell?_of_block (w:=w) (Z1 (by show b≠p.block;omega))
  rw[this]at hv
  exact hf (.inr ⟨v,hv,hk2⟩)
end
section
open Go.RowKit
theorem Z2x {w w':World} {base e k n:Nat} {v:Value} {xs:List Value} (h2:w.ownsRow base e k v n xs) (hb : ∀ j,v.ownBlock=some j→w'.heap[j]?=w.heap[j]?):w'.ownsRow base e k v n xs:=by
 refine⟨h2.1,?_⟩
 rcases h2.2 with h3 |⟨g,cap,cur,hv,hg,hh,r⟩
 ·exact .inl h3
 ·exact .inr ⟨g,cap,cur,hv,hg,(hb g (by rw[hv];rfl)).trans hh,r⟩
def put (w:World) (q:Nat):Nat→List Value→World
 | _,[]=>w
 | i,u :: us=>put (w.setCell ⟨q,i,none⟩ u) q (i+1) us
theorem Z8L (cs:Array Value) (i:Nat) (u:Value) (hi:i<cs.size):(cs.setIfInBounds i u).toList.take (i+1)=cs.toList.take i++[u]:=by
 rw[Array.toList_setIfInBounds,List.take_succ_eq_append_getElem (by simpa using hi)]
 simp[List.take_set_of_le]
theorem Z66 {q:Nat} {t:TypeId} {fr:Nat×Nat} : ∀ (us:List Value) (i:Nat) (w:World) (cs:Array Value),w.heap[q]?=some (.cells cs t fr)→cs.size=i+us.length→(put w q i us).heap[q]?=some (.cells ⟨cs.toList.take i++us⟩ t fr)
 | [],i,w,cs,h,hs=>by
  have e:cs.toList.take i=cs.toList:=List.take_of_length_le (by simp at hs ⊢;omega)
  simp only[put]
  rw[e,List.append_nil]
  exact h
 | u :: us,i,w,cs,h,hs=>by
  simp only[List.length_cons]at hs
  have ih:=Z66 us (i+1) _ _ (Zg h i u) (by simp;omega)
  simp only[put]
  rw[ih,Z8L cs i u (by omega)]
  simp
theorem Z67 {B q:Nat} (hB:B≤q) : ∀ (us:List Value) (i:Nat) (w0 w:World),Below B w0 w→Below B w0 (put w q i us)
 | [],_,_,_,h=>h
 | u :: us,i,w0,w,h=>by simp only[put];exact Z67 hB us _ _ _ (h.setCell (p:=⟨q,i,none⟩) hB u)
theorem Zcb {q:Nat} {t:TypeId} {fr:Nat×Nat} {w:World} {cs:Array Value} (us:List Value) (h:w.heap[q]?=some (.cells cs t fr)) (hs:cs.size=us.length):(put w q 0 us).heap[q]?=some (.cells ⟨us⟩ t fr):=by
 rw[Z66 us 0 w cs h (by omega)];simp
theorem Ze7 {q:Nat} {t:TypeId} {fr:Nat×Nat} {w:World} {cs:Array Value} (h:w.heap[q]?=some (.cells cs t fr)) (hs:cs.size=13) {u0 u1 u2 u3 u4 u5 u6 u7 u8 u9 u10 u11 u12:Value} :
  (((((((((((((w.setCell ⟨q,0,none⟩ u0).setCell ⟨q,1,none⟩ u1).setCell ⟨q,2,none⟩ u2).setCell ⟨q,3,none⟩ u3).setCell ⟨q,4,none⟩ u4).setCell ⟨q,5,none⟩ u5).setCell ⟨q,6,none⟩ u6).setCell ⟨q,7,none⟩ u7).setCell ⟨q,8,none⟩ u8).setCell ⟨q,9,none⟩ u9).setCell ⟨q,10,none⟩ u10).setCell ⟨q,11,none⟩ u11).setCell ⟨q,12,none⟩ u12).heap[q]?=some (.cells #[u0,u1,u2,u3,u4,u5,u6,u7,u8,u9,u10,u11,u12] t fr):=Zcb [u0,u1,u2,u3,u4,u5,u6,u7,u8,u9,u10,u11,u12] h hs
theorem Zcc {B q:Nat} {w0 w:World} (hB:B≤q) (h:Below B w0 w) {u0 u1 u2 u3 u4 u5 u6 u7 u8 u9 u10 u11 u12:Value} :
  Below B w0 (((((((((((((w.setCell ⟨q,0,none⟩ u0).setCell ⟨q,1,none⟩ u1).setCell ⟨q,2,none⟩ u2).setCell ⟨q,3,none⟩ u3).setCell ⟨q,4,none⟩ u4).setCell ⟨q,5,none⟩ u5).setCell ⟨q,6,none⟩ u6).setCell ⟨q,7,none⟩ u7).setCell ⟨q,8,none⟩ u8).setCell ⟨q,9,none⟩ u9).setCell ⟨q,10,none⟩ u10).setCell ⟨q,11,none⟩ u11).setCell ⟨q,12,none⟩ u12):=Z67 hB [u0,u1,u2,u3,u4,u5,u6,u7,u8,u9,u10,u11,u12] 0 w0 w h
theorem Z27 (w:World) (o1 o2:Obj):((w.alloc o1).alloc o2).heap[w.heap.size+1]?=some o2:=by
 have h:=heap_alloc_new (w.alloc o1) o2
 have e:(w.alloc o1).heap.size=w.heap.size+1:=by simp
 rw[e]at h;exact h
theorem Ze8:(Tryz.prog.info? 9).map (fun i=>(i.zero,i.size,i.bytes))=some (some (.string ⟨#[]⟩),1,16):=by kernel_rfl
end
section
open Go.RowKit
end
section
open Go.RowKit
theorem Z4h {n:Nod} {X:World} {k:Nat} {T:TypeId} {fr:Nat×Nat} (h:X.heap[k]?=some (.cells n.cells T fr)):X.cell? ⟨k,0,none⟩=some (.int .u64 (n.path:Int))∧X.cell? ⟨k,1,none⟩=some (.int .u32 (n.vers:Int))∧X.cell? ⟨k,2,none⟩=some (.int .u32 (n.mode:Int))∧X.cell? ⟨k,3,none⟩=some (.int .u32 (n.atm:Int))∧X.cell? ⟨k,4,none⟩=some (.int .u32 (n.mtm:Int))∧X.cell? ⟨k,5,none⟩=some (.string n.name)∧X.cell? ⟨k,6,none⟩=some (.string n.uid)∧X.cell? ⟨k,7,none⟩=some (.string n.gid)∧X.cell? ⟨k,8,none⟩=some (.string n.muid)∧X.cell? ⟨k,9,none⟩=some (.int .u64 (n.up:Int))∧X.cell? ⟨k,10,none⟩=some (.bool n.gone)∧X.cell? ⟨k,11,none⟩=some (.string n.data) :=
 ⟨Z0 h 0,Z0 h 1,Z0 h 2,Z0 h 3,Z0 h 4,Z0 h 5,Z0 h 6,Z0 h 7,Z0 h 8,Z0 h 9,Z0 h 10,Z0 h 11⟩
def ZF (n:Nod):Bool:=!decide (n.mode &&& 2147483648=0)
theorem Z3x (m:Nat) (h:m<4294967296):(bits .and .u32 (m:Int) 2147483648 != 0) = !decide (m &&& 2147483648=0):=by
 rw[show(2147483648:Int)=((2147483648:Nat):Int) from rfl,u32_and_nat _ _ h (by omega)]
 by_cases h0:m &&& 2147483648=0
 ·simp[h0]
 ·simp[h0]
theorem Z5v (n:Nod) (w:World) (hn:NodOk n) :
  Calls Tryz.prog 107 #[.agg n.cells] w fun e w'=>e=.returned (.bool (ZF n))∧Below w.heap.size w w':=by
 have hb:=(Below.refl w.heap.size w).alloc (Nat.le_refl _) (.cells n.cells 157)
 have hdm:=Z3x n.mode hn.mode
 have hm:=hn.mode
 have hE:Hid (ZF n = !decide (n.mode &&& 2147483648=0)):=hid rfl
 rw[Z7]at hb ⊢
 replace hb:=hid hb
 replace hn:=hid hn
 replace hdm:=hid hdm
 go_enter Tryz.func107,Tryz.ntmps107
 go_wp2_with fail
 go_ret
 exact⟨ZR (by rw[hE.out,←hdm.out]),hb.out⟩
def ZV (m:Nat):Bool:=decide (m &&& 536870400=0) && (decide (m &&& 2147483648=0) || decide (m &&& 1610612736=0))
theorem Z2m (a b:Nat):((a:Int) ==(b:Int))=decide (a=b):=by
 by_cases h:a=b
 ·simp[h]
 ·simp only[h,decide_false]
  simp;omega
theorem Zcd (m:Nat) (h:m<4294967296):(bits .andNot .u32 (m:Int) 3758096895 == 0)=decide (m &&& 536870400=0):=by
 rw[show(3758096895:Int)=((3758096895:Nat):Int) from rfl,u32_andNot_nat _ _ h (by omega)]
 exact Z2m _ 0
theorem Zce (m:Nat) (h:m<4294967296):(bits .and .u32 (m:Int) 2147483648 == 0)=decide (m &&& 2147483648=0):=by
 rw[show(2147483648:Int)=((2147483648:Nat):Int) from rfl,u32_and_nat _ _ h (by omega)]
 exact Z2m _ 0
theorem Zcf (m:Nat) (h:m<4294967296):(bits .and .u32 (m:Int) 1610612736 == 0)=decide (m &&& 1610612736=0):=by
 rw[show(1610612736:Int)=((1610612736:Nat):Int) from rfl,u32_and_nat _ _ h (by omega)]
 exact Z2m _ 0
theorem Zcg (m:Nat) (h:m<4294967296):bits .andNot .u32 (m:Int) 511=((m &&& 4294966784:Nat):Int):=by
 rw[show(511:Int)=((511:Nat):Int) from rfl,u32_andNot_nat _ _ h (by omega)]
theorem Zch (m:Nat):(((m &&& 4294966784:Nat):Int) == 2147483648)=decide (m &&& 4294966784=2147483648):=Z2m _ 2147483648
theorem Zci (m:Nat) (h:m<4294967296):(bits .andNot .u32 ((m &&& 4294966784:Nat):Int) 1610612736 == 0)=decide (m &&& 2684354048=0):=by
 rw[show(1610612736:Int)=((1610612736:Nat):Int) from rfl,u32_andNot_nat _ _ (Nat.lt_of_le_of_lt Nat.and_le_left h) (by omega),Nat.and_assoc]
 exact Z2m _ 0
theorem Ze9 (m:Nat):m &&& 2147483648=0∨m &&& 2147483648=2147483648:=by
 rw[nat_bit31]
 have:m / 2147483648 % 2=0∨m / 2147483648 % 2=1:=by omega
 rcases this with h | h <;> rw[h] <;> decide
theorem Zcj (m:Nat):(decide (m &&& 4294966784=2147483648) || decide (m &&& 2684354048=0))=ZV m:=by
 unfold ZV
 have e1:m &&& 4294966784=(m &&& 536870400) |||(m &&& 2147483648) |||(m &&& 1610612736):=by
  rw[←Nat.and_or_distrib_left,←Nat.and_or_distrib_left]
  exact congrArg (m &&& ·) (by decide)
 have e2:m &&& 2684354048=(m &&& 536870400) |||(m &&& 2147483648):=by
  rw[←Nat.and_or_distrib_left]
  exact congrArg (m &&& ·) (by decide)
 rw[Bool.eq_iff_iff]
 simp only[Bool.or_eq_true,Bool.and_eq_true,decide_eq_true_eq]
 constructor
 ·rintro(h | h)
  ·have h1:(m &&& 4294966784) &&& 536870400=2147483648 &&& 536870400:=by rw[h]
   have h2:(m &&& 4294966784) &&& 1610612736=2147483648 &&& 1610612736:=by rw[h]
   rw[Nat.and_assoc]at h1 h2
   exact⟨h1,.inr h2⟩
  ·rw[e2,Nat.or_eq_zero_iff]at h
   exact⟨h.1,.inl h.2⟩
 ·rintro⟨h1,h | h⟩
  ·right;rw[e2,h1,h];rfl
  ·rcases Ze9 m with hb | hb
   ·right;rw[e2,h1,hb];rfl
   ·left;rw[e1,h1,h,hb];rfl
theorem Z68 (m:Nat) (w:World) (hm:m<4294967296) :
  Calls Tryz.prog 40 #[.int .u32 (m:Int)] w fun e w'=>e=.returned (.bool (ZV m))∧w'=w:=by
 have p1:=Zcd m hm
 have p2:=Zce m hm
 have p3:=Zcf m hm
 have hE:Hid (ZV m=(decide (m &&& 536870400=0) && (decide (m &&& 2147483648=0) || decide (m &&& 1610612736=0)))):=hid rfl
 generalize decide (m &&& 536870400=0)=b1 at *
 generalize decide (m &&& 2147483648=0)=b2 at *
 generalize decide (m &&& 1610612736=0)=b3 at *
 cases b1 <;> cases b2 <;> cases b3
 all_goals
  go_enter Tryz.func40,Tryz.ntmps40
  go_wp2_with fail
  go_ret
  exact⟨ZR (by rw[hE.out];rfl),rfl⟩
theorem Z8M (m:Nat) (w:World) (hm:m<4294967296) :
  Calls Tryz.prog 120 #[.int .u32 (m:Int)] w fun e w'=>e=.returned (.bool (ZV m))∧w'=w:=by
 have p1:=Zcg m hm
 have p2:=Zch m
 have p3:=Zci m hm
 have hE:Hid (ZV m=(decide (m &&& 4294966784=2147483648) || decide (m &&& 2684354048=0))):=hid (Zcj m).symm
 generalize decide (m &&& 4294966784=2147483648)=b1 at *
 generalize decide (m &&& 2684354048=0)=b2 at *
 cases b1 <;> cases b2
 all_goals
  go_enter Tryz.func120,Tryz.ntmps120
  go_wp2_with fail
  go_ret
  exact⟨ZR (by rw[hE.out];rfl),rfl⟩
def Z5w:Array Value:=#[.int .u64 0,.int .u32 0,.int .u32 0,.int .u32 0,.int .u32 0,.string ⟨#[]⟩,.string ⟨#[]⟩,.string ⟨#[]⟩,.string ⟨#[]⟩,.int .u64 0,.bool false,.string ⟨#[]⟩]
set_option maxHeartbeats 1600000 in
theorem Z7J (n:Nod) (w:World):Calls Tryz.prog 87 #[.agg n.cells] w fun e w'=>e=.returned (.agg n.cells)∧Below w.heap.size w w':=by
 obtain⟨W,hW⟩ : ∃ W,W=(w.alloc (.cells n.cells 89)).alloc (.cells Z5w 157):=⟨_,rfl⟩
 have hx:W.heap[w.heap.size]?=some (.cells n.cells 89 (0,0)):=by rw[hW,heap_alloc_old _ _ (by simp),heap_alloc_new]
 have hy:W.heap[w.heap.size+1]?=some (.cells Z5w 157 (0,0)):=by rw[hW];exact Z27 _ _ _
 have hb0:Below w.heap.size w W:=by rw[hW];exact((Below.refl w.heap.size w).alloc (Nat.le_refl _) _).alloc (by simp) _
 have hbS:Hid (Below w.heap.size w (W.setRow (w.heap.size+1) n.cells)):=hid (below_setRow hb0 (by omega) _)
 have hrow:Hid ((W.setRow (w.heap.size+1) n.cells).heap[w.heap.size+1]?=some (.cells n.cells 157 (0,0))):=hid (setRow_heap _ _ _ _ _ _ hy)
 obtain⟨d0,d1,d2,d3,d4,d5,d6,d7,d8,d9,d10,d11⟩:=Z4h hx
 replace hy:=hid hy
 replace hx:=hid hx
 replace hb0:=hid hb0
 rw[Z7]at hW hbS hrow ⊢
 simp only[Z5w]at hW
 go_enter Tryz.func87,Tryz.ntmps87
 go_wp2_with (first |(rw[←hW];replace hW:=hid hW) |(refine wpList_store_row (by rfl) 157 (.tmp 2) (.tmp 27) (by rfl) (w.heap.size+1) n.cells (by rfl) (by rfl) 157 _ hy.out (by rfl) (by rfl) (Zw n) ?_))
 refine bodyPost_ret (results_cell_row rfl _ _ (w.heap.size+1) _ _ _ _ rfl hrow.out Tryz.underlying157 rfl (by kernel_rfl)) rfl ?_
 exact⟨rfl,hbS.out⟩
end
end Go.Proofs.YtkefjeabckainaaGreat
