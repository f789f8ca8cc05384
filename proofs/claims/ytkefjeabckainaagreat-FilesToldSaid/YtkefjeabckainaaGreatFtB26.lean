/- The program's Check: what it finds right is a valid tree. Conditions: numbers in their types; at most 900 nodes.
The program's Check, walked. Conditions: numbers in their types; at most 900 nodes.
New of package fsys: files of a valid tree. Conditions: in the statements. -/
import Derived.Test.YtkefjeabckainaaGreatFtB16
import Derived.Test.YtkefjeabckainaaGreatFtB25
import Derived.Test.YtkefjeabckainaaGreatFtB23
namespace Go.Proofs.YtkefjeabckainaaGreat
set_option maxRecDepth 100000
set_option linter.unusedVariables false
section
open Go.RowKit
def Ze4 (n:Nod):Bool:=(((((!decide (n.path=1)) ||(!(ZF n))) ||(!decide (n.up=1))) || n.gone) ||(!decide (n.name=⟨#[47]⟩)))
theorem Z7y {n:Nod}:Ze4 n=false↔n.path=1∧ZF n=true∧n.up=1∧n.gone=false∧n.name=Z3z:=by
 unfold Ze4 Z3z
 simp[and_assoc]
structure PChkOk (t:Tr):Prop where
 root : ∃ r,t.n[0]?=some r∧r.path=1∧ZF r=true∧r.up=1∧r.gone=false∧r.name=Z3z
 each : ∀ i n,t.n[i]?=some n→PWrOk t.next t.n i n
 few:t.n.length≤64
 byt:Z10 t.n≤16384
 way : ∀ n∈t.n,n.gone=false→ZF n=true→(Z1w t.n t.n.length n.path).isSome=true
theorem Za5:ZJ Z3z≠0:=by decide
theorem PChkOk.sort {t:Tr} (h:PChkOk t):Z16 t.n:=Z5S fun i p q hp hq=>(h.each _ _ hq).prev (by omega) p (by simpa using hp)
theorem Z5o {n:Nod}:Z4b n=0↔(n.path≠1→ZJ n.name=0)∧Z8 n.uid=true∧Z8 n.gid=true∧Z8 n.muid=true:=by
 unfold Z4b
 by_cases h1:n.path=1
 ·simp[h1,and_assoc]
 ·by_cases h2:ZJ n.name=0 <;> simp[h1,h2,and_assoc]
theorem Za6 {t:Tr}:PChkOk t↔OkC t:=by
 rw[←Zc5]
 constructor
 ·intro h
  have hs:=h.sort
  obtain⟨r,r0,r1,r2,r3,r4,r5⟩:=h.root
  have hr1:ZM t.n 1=some r:=(Z39 hs).2 ⟨List.mem_of_getElem? r0,r1⟩
  have low : ∀ i n,t.n[i]?=some n→1≤n.path∧(0<i→n.path≠1):=fun i n hn=>by
   rcases Nat.eq_zero_or_pos i with rfl | h0
   ·rw[r0]at hn;cases hn;exact⟨by omega,fun h=>absurd h (by omega)⟩
   ·have:=Z42 hs r0 hn h0
    exact⟨by omega,fun _=>by omega⟩
  exact
   {root:=⟨r,r0,r1,r2,r3,r4,r5⟩
    each:=fun i n hn =>
     have hw:=h.each i n hn
     have hnm:=Z5o.1 hw.nam
     {prev:=hw.prev
      next:=hw.next
      zero:=by have:=(low i n hn).1;omega
      bits:=hw.bits
      empt:=hw.empt
      nam:=fun h0=>hnm.1 ((low i n hn).2 h0)
      ids:=hnm.2
      len:=hw.len
      gon:=hw.up.gon
      par:=hw.up.par
      uniq:=fun hg k q h1 hk hq hb he=>by
       have:=List.any_eq_false.1 (hw.up.twin hg) q (List.mem_of_getElem? (i:=k) (by rw[List.getElem?_take_of_lt hk];exact hq))
       unfold Z6Z at this
       unfold Z1m at hb
       simp only[Bool.and_eq_true,decide_eq_true_eq]at hb
       simp[hb.1.1,hb.2,he]at this}
    few:=h.few
    byt:=h.byt
    way:=fun n hn hg=>by
     by_cases hd:ZF n=true
     ·rw[Z5h hr1];exact h.way n hn hg hd
     ·obtain⟨i,hi⟩:=List.getElem?_of_mem hn
      obtain⟨u,hu,u1,u2⟩:=(h.each i n hi).up.par hg
      have hum:=(Zr hu).1
      have hl:Leads t.n u.path:=Z4w _ _ (h.way u hum u2 u1)
      rw[(Zr hu).2]at hl
      exact Z4z.1 (.up ((Z39 hs).2 ⟨hn,rfl⟩) hg hl)}
 ·intro h
  have hs:=h.sort
  obtain⟨r,r0,r1,r2,r3,r4,r5⟩:=h.root
  have hr1:ZM t.n 1=some r:=(Z39 hs).2 ⟨List.mem_of_getElem? r0,r1⟩
  exact
   {root:=⟨r,r0,r1,r2,r3,r4,r5⟩
    each:=fun i n hn =>
     have hw:=h.each i n hn
     {prev:=hw.prev
      next:=hw.next
      bits:=hw.bits
      empt:=hw.empt
      nam:=Z5o.2 ⟨fun h1=>hw.nam (by
       rcases Nat.eq_zero_or_pos i with rfl | h0
       ·rw[r0]at hn;cases hn;exact absurd r1 h1
       ·exact h0),hw.ids⟩
      len:=hw.len
      up:=⟨hw.gon,hw.par,fun hg=>by
       rw[List.any_eq_false]
       intro q hq
       obtain⟨k,hk,rfl⟩:=List.mem_iff_getElem.1 hq
       rw[List.length_take]at hk
       rw[List.getElem_take]
       have hkq:t.n[k]?=some t.n[k]:=List.getElem?_eq_getElem (by omega)
       intro ht
       unfold Z6Z at ht
       simp only[Bool.and_eq_true,Bool.not_eq_true',decide_eq_true_eq]at ht
       rcases Nat.eq_zero_or_pos k with h0 | h0
       ·have e0:t.n[k]=r:=by
         subst h0
         rw[r0]at hkq;exact(Option.some.inj hkq).symm
        have:=hw.nam (by omega)
        rw[←ht.2,e0,r5]at this
        exact Za5 this
       ·refine hw.uniq hg k _ h0 (by omega) hkq ?_ ht.2
        have:=Z42 hs r0 hkq h0
        unfold Z1m
        simp[ht.1.1,ht.1.2]
        omega⟩}
    few:=h.few
    byt:=h.byt
    way:=fun n hn hg _=>by rw[←Z5h hr1];exact h.way n hn hg}
end
section
open Go.RowKit
def Z46 (w:World) (x:Nat) (l:List Nod) (e:Ending) (w':World):Prop:=∃ E:Int,e=.returned (.int .i64 E)∧(E=0↔OkC ⟨x,l⟩)∧Below w.heap.size w w'
theorem Z2k {w w':World} {x:Nat} {l:List Nod} (E:Int) (hE:E≠0) (h:¬ PChkOk ⟨x,l⟩) (hb:Below w.heap.size w w'):Z46 w x l (.returned (.int .i64 E)) w':=⟨E,rfl,⟨fun h1=>absurd h1 hE,fun h1=>absurd (Za6.2 h1) h⟩,hb⟩
set_option maxHeartbeats 6400000 in
theorem Z8l (v:Value) (x:Nat) (l:List Nod) (w:World) (hv:Z3 w v l) (hl:l.length≤900) (hok : ∀ n∈l,NodOk n) (hds : ∀ n∈l,n.data.size≤1000000) :
  Calls Tryz.prog 84 #[.agg #[.int .u64 (x:Int),v]] w (Z46 w x l):=by
 obtain⟨a,c,rfl,g1,g2⟩:=hv.form
 unfold maxLen at g2
 have mixed:Tryz.prog.follows Departure.mixedOrders=true:=by first | kernel_rfl | decide
 obtain⟨W,hW⟩ : ∃ W,W=w.alloc (.cells #[.int .u64 (x:Int),.slice a l.length c] 30):=⟨_,rfl⟩
 have hb0:Below w.heap.size w W:=by rw[hW];exact(Below.refl w.heap.size w).alloc (Nat.le_refl _) _
 have hX0:W.heap[w.heap.size]?=some (.cells #[.int .u64 (x:Int),.slice a l.length c] 30 (0,0)):=by rw[hW,heap_alloc_new]
 by_cases h0:l.length=0
 ·have hR:=hid (show ¬ PChkOk ⟨x,l⟩ from fun hc=>by
   obtain⟨r,hr,_⟩:=hc.root
   have:=(List.getElem?_eq_some_iff.1 hr).1
   have:0<l.length:=this
   omega)
  have e1:=Z0 hX0 1
  replace hb0:=hid hb0
  replace hv:=hid hv
  rw[h0]at hW e1
  clear hX0
  rw[h0]
  go_enter Tryz.func84,Tryz.ntmps84
  go_wp2_with (rw[←hW];replace hW:=hid hW)
  go_ret
  exact Z2k 2 (by omega) hR.out hb0.out
 obtain⟨b,o,ha,hr⟩:=(hv.below hb0).range 0 (by omega)
 subst ha
 obtain⟨n,hn⟩ : ∃ n,l[0]?=some n:=⟨l[0]'(by omega),List.getElem?_eq_getElem _⟩
 have hne:l[0]'(by omega)=n:=by
  have:=List.getElem?_eq_getElem (l:=l) (show 0<l.length by omega)
  rw[hn]at this;exact(Option.some.inj this).symm
 rw[hne,show o+0 * 12=o by omega]at hr
 clear hne
 have hnok:=hid (hok n (List.mem_of_getElem? hn))
 replace hn:=hid hn
 have hnew:=hid (heap_alloc_new W (.cells Zk.cells 89))
 obtain⟨V,hV⟩ : ∃ V,V=Z1J W n:=⟨_,rfl⟩
 have hbV:Below W.heap.size W V:=by rw[hV];exact ZD _ _
 have hBV:=sn hb0 hbV
 have hS:=hid (show PwS w.heap.size w.heap.size W.heap.size b o x c l n w V from⟨hBV,(hbV.block _ (lt_of_block hX0)).trans hX0,by rw[hV];exact ZK _ _,hv.below hBV,hBV.size⟩)
 have e1:=Z0 hX0 1
 unfold Z1J at hV
 rw[Zc]at hV hnew
 replace hr:=hid hr
 replace hv:=hid hv
 have l0:((l.length:Int) == 0)=false:=by rw[beq_eq_false_iff_ne];omega
 have l1:(0:Int)<(l.length:Int):=by omega
 obtain⟨bA,hbA⟩ : ∃ bA,bA=Ze4 n:=⟨_,rfl⟩
 replace hbA:=hid hbA
 clear hbV hX0 hb0 hBV
 replace h0:=hid h0
 go_enter Tryz.func84,Tryz.ntmps84
 go_upto_region 4 with (first
  |(rw[←hW];replace hW:=hid hW)
  |(refine Zx (by rfl) 89 (.tmp 16) (by rfl) b o (by rfl) n.cells _ hr.out Tryz.underlying89 (by rfl) (by kernel_rfl) ?_)
  |(refine wpList_store_row (by rfl) 89 (.tmp 3) (.tmp 17) (by rfl) W.heap.size n.cells (by rfl) (by rfl) 89 _ hnew.out (by kernel_rfl) (by kernel_rfl) (Zw n) ?_)
  |(rw[←hV];replace hV:=hid hV))
 try (rw[←hV];replace hV:=hid hV)
 try simp only[Act.put]
 clear hnew e1
 generalize W.heap.size=z at *
 go_cut [39] (fun s wx=>s=.bool bA∧Hid (PwS w.heap.size w.heap.size z b o x c l n w wx))
 case first=>as_aux_lemma =>
  rename_i J K' hJ hK
  refine wp_region_list ?_
  refine(show wpList Tryz.prog Z71 _ Z29 _ _→_ from fun h=>h) ?_
  refine ZcU (x:=x) (l:=l) (n:=n) (w0:=w) (B:=w.heap.size) (g:=w.heap.size) (z:=z) (b:=b) (f:=o) (c:=c) hnok.out (FrL.of_all (by rfl) rfl ⟨rfl,rfl,rfl,rfl,rfl,rfl,rfl,rfl,rfl,rfl,rfl,rfl,rfl,rfl,rfl,rfl,rfl,trivial⟩) hS.out (fun a w' hF hS=>?_)
  have hE:=hbA.out
  unfold Ze4 at hE
  rw[←hE]at hF
  exact hK _ _ (Met.intro (hJ _ _ ⟨a.tmps.getD 10 undef,a.tmps.getD 11 undef,a.tmps.getD 12 undef,a.tmps.getD 13 undef,a.tmps.getD 14 undef,a.tmps.getD 15 undef,a.tmps.getD 16 undef,a.tmps.getD 17 undef,a.tmps.getD 18 undef,a.tmps.getD 19 undef,a.tmps.getD 20 undef,a.tmps.getD 21 undef,a.tmps.getD 22 undef,a.tmps.getD 23 undef,a.tmps.getD 24 undef,a.tmps.getD 25 undef,a.tmps.getD 26 undef,a.tmps.getD 27 undef,a.tmps.getD 28 undef,a.tmps.getD 29 undef,a.tmps.getD 30 undef,a.tmps.getD 31 undef,a.tmps.getD 32 undef,a.tmps.getD 33 undef,a.tmps.getD 34 undef,a.tmps.getD 35 undef,a.tmps.getD 36 undef,a.tmps.getD 37 undef,a.tmps.getD 38 undef,.bool bA,a.tmps.getD 40 undef,a.tmps.getD 41 undef,a.tmps.getD 44 undef,a.tmps.getD 45 undef,a.tmps.getD 46 undef,a.tmps.getD 47 undef,a.tmps.getD 48 undef,a.tmps.getD 49 undef,a.tmps.getD 50 undef,a.tmps.getD 51 undef,a.tmps.getD 52 undef,a.tmps.getD 54 undef,a.tmps.getD 55 undef,a.tmps.getD 56 undef,a.tmps.getD 57 undef,a.tmps.getD 59 undef,a.tmps.getD 60 undef,a.tmps.getD 61 undef,a.tmps.getD 62 undef,a.tmps.getD 66 undef,a.tmps.getD 67 undef,a.tmps.getD 68 undef,a.tmps.getD 69 undef,a.tmps.getD 70 undef,a.tmps.getD 71 undef,a.tmps.getD 72 undef,a.tmps.getD 73 undef,a.tmps.getD 74 undef,a.tmps.getD 75 undef,a.tmps.getD 76 undef,a.tmps.getD 77 undef,a.tmps.getD 78 undef,a.tmps.getD 79 undef,a.tmps.getD 80 undef,a.tmps.getD 81 undef,a.tmps.getD 82 undef,a.tmps.getD 83 undef,a.tmps.getD 84 undef,a.tmps.getD 85 undef,a.tmps.getD 86 undef,a.tmps.getD 87 undef,⟨rfl,hid hS⟩,Z1n hF _ (by rfl) ⟨hF.get 0 _ rfl,hF.get 1 _ rfl,hF.get 2 _ rfl,hF.get 3 _ rfl,hF.get 4 _ rfl,hF.get 5 _ rfl,hF.get 6 _ rfl,hF.get 7 _ rfl,hF.get 8 _ rfl,hF.get 9 _ rfl,hF.any 10 (by decide),hF.any 11 (by decide),hF.any 12 (by decide),hF.any 13 (by decide),hF.any 14 (by decide),hF.any 15 (by decide),hF.any 16 (by decide),hF.any 17 (by decide),hF.any 18 (by decide),hF.any 19 (by decide),hF.any 20 (by decide),hF.any 21 (by decide),hF.any 22 (by decide),hF.any 23 (by decide),hF.any 24 (by decide),hF.any 25 (by decide),hF.any 26 (by decide),hF.any 27 (by decide),hF.any 28 (by decide),hF.any 29 (by decide),hF.any 30 (by decide),hF.any 31 (by decide),hF.any 32 (by decide),hF.any 33 (by decide),hF.any 34 (by decide),hF.any 35 (by decide),hF.any 36 (by decide),hF.any 37 (by decide),hF.any 38 (by decide),hF.get 39 _ rfl,hF.any 40 (by decide),hF.any 41 (by decide),hF.get 42 _ rfl,hF.get 43 _ rfl,hF.any 44 (by decide),hF.any 45 (by decide),hF.any 46 (by decide),hF.any 47 (by decide),hF.any 48 (by decide),hF.any 49 (by decide),hF.any 50 (by decide),hF.any 51 (by decide),hF.any 52 (by decide),hF.get 53 _ rfl,hF.any 54 (by decide),hF.any 55 (by decide),hF.any 56 (by decide),hF.any 57 (by decide),hF.get 58 _ rfl,hF.any 59 (by decide),hF.any 60 (by decide),hF.any 61 (by decide),hF.any 62 (by decide),hF.get 63 _ rfl,hF.get 64 _ rfl,hF.get 65 _ rfl,hF.any 66 (by decide),hF.any 67 (by decide),hF.any 68 (by decide),hF.any 69 (by decide),hF.any 70 (by decide),hF.any 71 (by decide),hF.any 72 (by decide),hF.any 73 (by decide),hF.any 74 (by decide),hF.any 75 (by decide),hF.any 76 (by decide),hF.any 77 (by decide),hF.any 78 (by decide),hF.any 79 (by decide),hF.any 80 (by decide),hF.any 81 (by decide),hF.any 82 (by decide),hF.any 83 (by decide),hF.any 84 (by decide),hF.any 85 (by decide),hF.any 86 (by decide),hF.any 87 (by decide),trivial⟩⟩))
 case rest =>
  clear hS
  obtain⟨rfl,hS⟩:=hcut
  cases bA with
  | true =>
   have hR:=hid (show ¬ PChkOk ⟨x,l⟩ from fun hc=>by
    obtain⟨r,hr,h1⟩:=hc.root
    have hr2:l[0]?=some r:=hr
    rw[hn.out]at hr2;cases hr2
    have:=Z7y.2 h1
    rw[←hbA.out]at this;cases this)
   go_wp2_with fail
   go_ret
   exact Z2k 2 (by omega) hR.out hS.out.bel
  | false =>
   have hroot:=hid (Z7y.1 hbA.out.symm)
   clear hbA
   have e1:=Z0 hS.out.box 1
   go_wp2_with fail
   go_loopw [43] (fun kv wr=>∃ k:Nat,k≤l.length∧kv=.int .i64 (k:Int)∧Hid (PwS w.heap.size w.heap.size z b o x c l n w wr)∧Hid (∀ j q,j<k→l[j]?=some q→PWrOk x l j q)) (fun kv _=>l.length - (intOf kv).toNat)
   case atStart=>exact⟨0,by omega,rfl,hS,hid (fun j q h1 h2=>by omega)⟩
   case round =>
    clear hS e1
    obtain⟨k,hk,rfl,hS,hall⟩:=hrel
    have e0:=Z0 hS.out.box 0
    have e1:=Z0 hS.out.box 1
    by_cases hkl:k<l.length
    ·obtain⟨q,hq⟩ : ∃ q,l[k]?=some q:=⟨l[k],List.getElem?_eq_getElem _⟩
     have hwr:=hid (Z83 _ x l k q wr hS.out.row hl hq hok hds)
     have q1:(k:Int)<(l.length:Int):=by omega
     replace hq:=hid hq
     go_wp2_with fail
     refine hwr.out.mono ?_
     rintro e w2 ⟨E,rfl,hE,hb2⟩
     have hS2:=hid (hS.out.next hb2)
     clear hS hb2 hwr e0 e1
     by_cases hE0:E=0
     ·subst hE0
      have hw:=hid (hE.1 rfl)
      clear hE
      go_wp2_with fail
      go_roundw
      case rel =>
       refine⟨k+1,by omega,by go_num,hS2,hid (fun j p g1 gp=>?_)⟩
       rcases Nat.lt_or_ge j k with h | h
       ·exact hall.out j p h gp
       ·obtain rfl:j=k:=by omega
        rw[hq.out]at gp;cases gp
        exact hw.out
      case measure=>simp[intOf];omega
     ·have hR:=hid (show ¬ PChkOk ⟨x,l⟩ from fun hc=>hE0 (hE.2 (hc.each k q hq.out)))
      have q2:(E != 0)=true:=by simpa using hE0
      replace hE:=hid hE
      replace hE0:=hid hE0
      go_wp2_with fail
      go_ret
      exact Z2k E hE0.out hR.out hS2.out.bel
    ·obtain rfl:k=l.length:=by omega
     have heach:=hid (show ∀ j q,l[j]?=some q→PWrOk x l j q from fun j q hq=>hall.out j q (List.getElem?_eq_some_iff.1 hq).1 hq)
     clear hall
     by_cases h64:64<l.length
     ·have q2:(64:Int)<(l.length:Int):=by omega
      go_wp2_with fail
      go_ret
      exact Z2k 3 (by omega) (fun hc=>by have:=hc.few;simp only at this;omega) hS.out.bel
     have q2:¬ (64:Int)<(l.length:Int):=by omega
     have hby:=hid (Z5a _ x l wr hS.out.row (by omega) hds)
     go_wp2_with fail
     refine hby.out.mono ?_
     rintro e w2 ⟨rfl,hb2⟩
     have hS2:=hid (hS.out.next hb2)
     clear hS hb2 hby e0 e1 hkl
     by_cases hB:16384<Z10 l
     ·have q3:(16384:Int)<(Z10 l:Int):=by omega
      go_wp2_with fail
      go_ret
      exact Z2k 14 (by omega) (fun hc=>by have:=hc.byt;simp only at this;omega) hS2.out.bel
     have q3:¬ (16384:Int)<(Z10 l:Int):=by omega
     have hsort:=hid (show Z16 l from Z5S fun i p q hp hq=>(heach.out _ _ hq).prev (by omega) p (by simpa using hp))
     have hrt:=hid (show ∃ r,ZM l 1=some r∧r.gone=false from⟨n,(Z39 hsort.out).2 ⟨List.mem_of_getElem? hn.out,hroot.out.1⟩,hroot.out.2.2.2.1⟩)
     have e1:=Z0 hS2.out.box 1
     go_wp2_with fail
     go_loopw [65] (fun kv wr=>∃ k:Nat,k≤l.length∧kv=.int .i64 (k:Int)∧Hid (PwS w.heap.size w.heap.size z b o x c l n w wr)∧Hid (∀ j q,j<k→l[j]?=some q→q.gone=false→ZF q=true→(Z1w l l.length q.path).isSome=true)) (fun kv _=>l.length - (intOf kv).toNat)
     case atStart=>exact⟨0,by omega,rfl,hS2,hid (fun j q h1 h2=>by omega)⟩
     case round =>
      clear hS2 q2 q3 e1
      obtain⟨k,hk,rfl,hS,hall⟩:=hrel
      have e0:=Z0 hS.out.box 0
      have e1:=Z0 hS.out.box 1
      by_cases hkl:k<l.length
      ·obtain⟨q,hq⟩ : ∃ q,l[k]?=some q:=⟨l[k],List.getElem?_eq_getElem _⟩
       have q1:(k:Int)<(l.length:Int):=by omega
       have i1:(0:Int)≤(k:Int):=by omega
       have hr:=hid (hS.out.el k q hq)
       have hqo:=hid (hok q (List.mem_of_getElem? hq))
       replace hq:=hid hq
       have hnew:=hid (heap_alloc_new wr (.cells Zk.cells 89))
       obtain⟨V1,hV1⟩ : ∃ V,V=Z1J wr q:=⟨_,rfl⟩
       have hbV1:Below wr.heap.size wr V1:=by rw[hV1];exact ZD _ _
       have hN1:=hid (show V1.heap[wr.heap.size]?=some (.cells q.cells 89 (0,0)) by rw[hV1];exact ZK _ _)
       have hS1:=hid (hS.out.next hbV1)
       unfold Z1J at hV1
       rw[Zc]at hV1 hnew
       have f0:=Z0 hS1.out.box 0
       have f1:=Z0 hS1.out.box 1
       have p0:V1.cell? ⟨wr.heap.size,0,none⟩=some (.int .u64 (q.path:Int)):=Z0 hN1.out 0
       have hway:=hid (Zbd _ x l q.path V1 hS1.out.row hsort.out hl hrt.out)
       clear hS hbV1
       go_wp2_with (first
        |(rw[←hV1];replace hV1:=hid hV1)
        |(refine Zx (by rfl) 89 (.tmp 67) (by rfl) b (o+k * 12) (by rfl) q.cells _ hr.out Tryz.underlying89 (by rfl) (by kernel_rfl) ?_)
        |(refine wpList_store_row (by rfl) 89 (.tmp 7) (.tmp 68) (by rfl) wr.heap.size q.cells (by rfl) (by rfl) 89 _ hnew.out (by kernel_rfl) (by kernel_rfl) (Zw q) ?_))
       refine hway.out.mono ?_
       rintro e w2 ⟨rv,rfl,_,hb2⟩
       have hS3:=hid (hS1.out.next hb2)
       have hN3:=hid ((hb2.block _ (lt_of_block hN1.out)).trans hN1.out)
       obtain⟨bW,hbW⟩ : ∃ bW,bW=(Z1w l l.length q.path).isSome:=⟨_,rfl⟩
       rw[←hbW]
       replace hbW:=hid hbW
       generalize wr.heap.size=z2 at *
       clear hway hb2 hS1 hN1 f0 f1 p0 e0 e1 hnew
       cases bW with
       | true =>
        go_wp2_with fail
        go_roundw
        case rel =>
         refine⟨k+1,by omega,by go_num,hS3,hid (fun j p g1 gp gg gd=>?_)⟩
         rcases Nat.lt_or_ge j k with h | h
         ·exact hall.out j p h gp gg gd
         ·obtain rfl:j=k:=by omega
          rw[hq.out]at gp;cases gp
          exact hbW.out.symm
        case measure=>simp[intOf];omega
       | false =>
        have s0:w2.cell? ⟨z2,0,none⟩=some (.int .u64 (q.path:Int)):=Z0 hN3.out 0
        have s1:w2.cell? ⟨z2,1,none⟩=some (.int .u32 (q.vers:Int)):=Z0 hN3.out 1
        have s2:w2.cell? ⟨z2,2,none⟩=some (.int .u32 (q.mode:Int)):=Z0 hN3.out 2
        have s3:w2.cell? ⟨z2,3,none⟩=some (.int .u32 (q.atm:Int)):=Z0 hN3.out 3
        have s4:w2.cell? ⟨z2,4,none⟩=some (.int .u32 (q.mtm:Int)):=Z0 hN3.out 4
        have s5:w2.cell? ⟨z2,5,none⟩=some (.string q.name):=Z0 hN3.out 5
        have s6:w2.cell? ⟨z2,6,none⟩=some (.string q.uid):=Z0 hN3.out 6
        have s7:w2.cell? ⟨z2,7,none⟩=some (.string q.gid):=Z0 hN3.out 7
        have s8:w2.cell? ⟨z2,8,none⟩=some (.string q.muid):=Z0 hN3.out 8
        have s9:w2.cell? ⟨z2,9,none⟩=some (.int .u64 (q.up:Int)):=Z0 hN3.out 9
        have s10:w2.cell? ⟨z2,10,none⟩=some (.bool q.gone):=Z0 hN3.out 10
        have s11:w2.cell? ⟨z2,11,none⟩=some (.string q.data):=Z0 hN3.out 11
        have hdir:=hid (Z3E q w2 hqo.out)
        obtain⟨bD,hbD⟩ : ∃ bD,bD=ZF q:=⟨_,rfl⟩
        rw[←hbD]at hdir
        rw[Z7]at hdir
        replace hbD:=hid hbD
        go_wp2_with fail
        refine hdir.out.mono ?_
        rintro e w3 ⟨rfl,hb3⟩
        have hS4:=hid (hS3.out.next hb3)
        have hN4:=hid ((hb3.block _ (lt_of_block hN3.out)).trans hN3.out)
        have m10:w3.cell? ⟨z2,10,none⟩=some (.bool q.gone):=Z0 hN4.out 10
        clear hdir hb3 hS3 hN3 s0 s1 s2 s3 s4 s5 s6 s7 s8 s9 s10 s11
        cases bD with
        | false =>
         go_wp2_with fail
         go_roundw
         case rel =>
          refine⟨k+1,by omega,by go_num,hS4,hid (fun j p g1 gp gg gd=>?_)⟩
          rcases Nat.lt_or_ge j k with h | h
          ·exact hall.out j p h gp gg gd
          ·obtain rfl:j=k:=by omega
           rw[hq.out]at gp;cases gp
           rw[←hbD.out]at gd;cases gd
         case measure=>simp[intOf];omega
        | true =>
         rcases hqg:q.gone with _ | _
         ·rw[hqg]at m10
          have hR:=hid (show ¬ PChkOk ⟨x,l⟩ from fun hc=>by
           have h1:(Z1w l l.length q.path).isSome=true:=hc.way q (List.mem_of_getElem? hq.out) hqg hbD.out.symm
           rw[←hbW.out]at h1;cases h1)
          replace hqg:=hid hqg
          go_wp2_with fail
          go_ret
          exact Z2k 2 (by omega) hR.out hS4.out.bel
         ·rw[hqg]at m10
          replace hqg:=hid hqg
          go_wp2_with fail
          go_roundw
          case rel =>
           refine⟨k+1,by omega,by go_num,hS4,hid (fun j p g1 gp gg gd=>?_)⟩
           rcases Nat.lt_or_ge j k with h | h
           ·exact hall.out j p h gp gg gd
           ·obtain rfl:j=k:=by omega
            rw[hq.out]at gp;cases gp
            rw[hqg.out]at gg;cases gg
          case measure=>simp[intOf];omega
      ·obtain rfl:k=l.length:=by omega
       have hR:=hid (show PChkOk ⟨x,l⟩ from⟨⟨n,hn.out,hroot.out⟩,heach.out,by show l.length≤64;omega,by show Z10 l≤16384;omega,fun q hm hg hd=>by
        obtain⟨j,hj⟩:=List.getElem?_of_mem hm
        exact hall.out j q (List.getElem?_eq_some_iff.1 hj).1 hj hg hd⟩)
       go_wp2_with fail
       go_ret
       exact⟨0,rfl,⟨fun _=>Za6.1 hR.out,fun _=>rfl⟩,hS.out.bel⟩
end
section
open Go.RowKit Go.Maps
variable {V:ByteArray→Bool}
def Z5Z (t:Tr):FsV:=⟨t,0,fun _=>(0,0)⟩
def Zau (f:FsV) (x:Nod):FsV:=Z2c ⟨f.t,if x.gone then f.now else max (max f.now x.atm) x.mtm,f.by_⟩ x.path
def Z4j (t:Tr) (k:Nat):FsV:=(t.n.take k).foldl Zau (Z5Z t)
def Zav (t:Tr):FsV:=t.n.foldl Zau (Z5Z t)
theorem Z3S (t:Tr):Z4j t t.n.length=Zav t:=by unfold Z4j Zav;rw[List.take_length]
theorem Z3h {t:Tr} {k:Nat} (hk:k<t.n.length):Z4j t (k+1)=Zau (Z4j t k) t.n[k]:=by
 unfold Z4j
 rw[List.take_succ_eq_append_getElem hk,List.foldl_append]
 rfl
theorem Zd3 {f:FsV} (h:FOkV V f) {x:Nod} (hx:NodOk x):FOkV V (Zau f x):=by
 unfold Zau
 refine Z4r (f:=⟨f.t,if x.gone then f.now else max (max f.now x.atm) x.mtm,f.by_⟩) ⟨h.good,?_⟩ _
 show(if x.gone then f.now else max (max f.now x.atm) x.mtm)<4294967296
 have h1:=h.now
 have h2:=hx.atm
 have h3:=hx.mtm
 split <;> omega
theorem Zbu {t:Tr} (h:GoodV V t) : ∀ k,k≤t.n.length→FOkV V (Z4j t k):=by
 intro k
 induction k with
 | zero=>intro _;exact⟨h,by show 0<4294967296;decide⟩
 | succ k ih =>
  intro hk
  rw[Z3h (by omega)]
  exact Zd3 (ih (by omega)) (h.tr.ok _ (List.getElem_mem (by omega)))
theorem Zd4 {t:Tr} (h:GoodV V t):FOkV V (Zav t):=by rw[←Z3S];exact Zbu h _ (Nat.le_refl _)
theorem Zbv {f:FsV} (h:FOkWV V f) {x:Nod} (hx:NodOk x):FOkWV V (Zau f x):=by
 unfold Zau
 refine Za3 (f:=⟨f.t,if x.gone then f.now else max (max f.now x.atm) x.mtm,f.by_⟩) ⟨h.good,?_⟩ _
 show(if x.gone then f.now else max (max f.now x.atm) x.mtm)<4294967296
 have h1:=h.now
 have h2:=hx.atm
 have h3:=hx.mtm
 split <;> omega
theorem Z6u {t:Tr} (h:GoodWV V t) : ∀ k,k≤t.n.length→FOkWV V (Z4j t k):=by
 intro k
 induction k with
 | zero=>intro _;exact⟨h,by show 0<4294967296;decide⟩
 | succ k ih =>
  intro hk
  rw[Z3h (by omega)]
  exact Zbv (ih (by omega)) (h.tr.ok _ (List.getElem_mem (by omega)))
theorem Zbw {t:Tr} (h:GoodWV V t):FOkWV V (Zav t):=by rw[←Z3S];exact Z6u h _ (Nat.le_refl _)
theorem Z74 {w:World} {v:Value} {L:List Nod} (h:Z3 w v L) (hne:L≠[]) {k:Nat} (e:v.ownBlock=some k):k<w.heap.size:=by
 obtain⟨a,c,rfl,_,_⟩:=h.form
 obtain⟨b',o,ha,hr⟩:=h.range 0 (List.length_pos_iff.2 hne)
 subst ha
 simp[Value.ownBlock]at e
 subst e
 have h11:=hr 11 _ (by rw[Z7];rfl)
 refine Nat.lt_of_not_le fun hk=>?_
 simp[World.cell?,Array.getElem?_eq_none hk]at h11
def Zet (w:World) (f:FsV) (u:Usr) (p:Nat) (e:Ending) (w':World):Prop:=∃ b m v',e=.returned (.tuple #[.pointer (some ⟨b,0,none⟩),.int .i64 0])∧FSo w' b m v' p f u 0∧w.heap.size≤b∧w.heap.size≤m∧Below w.heap.size w w'
set_option maxHeartbeats 6400000 in
theorem Zbx (p:Nat) (v:Value) (t:Tr) (u:Usr) (w:World) (hv:Z3 w v t.n) (htab:Z2Z w p u.us u.gs) (hg:Za2 t) :
  Calls Tryz.prog 30 #[.agg #[.int .u64 (t.next:Int),v],.pointer (some ⟨p,0,none⟩)] w (Zet w (Zav t) u p):=by
 have mixed:Tryz.prog.follows Departure.mixedOrders=true:=by first | kernel_rfl | decide
 obtain⟨a,c,rfl,g1,g2⟩:=hv.form
 unfold maxLen at g2
 obtain⟨W,hW⟩ : ∃ W,W=w.alloc (.cells #[.int .u64 (t.next:Int),.slice a t.n.length c] 30):=⟨_,rfl⟩
 have hb0:Below w.heap.size w W:=by rw[hW];exact(Below.refl w.heap.size w).alloc (Nat.le_refl _) _
 have hx0:W.heap[w.heap.size]?=some (.cells #[.int .u64 (t.next:Int),.slice a t.n.length c] 30 (0,0)):=by rw[hW,heap_alloc_new]
 have hck:=Z8l _ t.next t.n W (hv.below hb0) (by have:=hg.tr.few;omega) hg.tr.ok (fun n hn=>by have:=hg.tr.len n hn;omega)
 unfold Z46 at hck
 replace hck:=hid hck
 have e0:=Z0 hx0 0
 have e1:=Z0 hx0 1
 have hlt:=lt_of_block hx0
 replace hb0:=hid hb0
 replace hx0:=hid hx0
 replace hv:=hid hv
 replace htab:=hid htab
 go_enter Tryz.func30,Tryz.ntmps30
 go_wp2_with (rw[←hW];replace hW:=hid hW)
 try (rw[←hW];replace hW:=hid hW)
 refine hck.out.mono ?_
 rintro e w1 ⟨E,rfl,hE,hb1⟩
 obtain rfl:E=0:=hE.2 hg.ok
 have hB1:=hid (sn hb0.out hb1)
 have hx1:=hid ((hb1.block _ hlt).trans hx0.out)
 have hap:=hid (Z5j _ t.next t.n w1 (hv.out.below hB1.out) (by have:=hg.tr.few;omega) hg.tr.low)
 have c0:=Z0 hx1.out 0
 have c1:=Z0 hx1.out 1
 clear e0 e1 hck hE hb1
 go_wp2_with fail
 refine hap.out.mono ?_
 rintro e w2 ⟨v2,rfl,hv2,hf2,hb2⟩
 obtain⟨a2,d2,rfl,_,_⟩:=hv2.form
 have hB2:=hid (sn hB1.out hb2)
 have hx2:=hid ((hb2.block _ (lt_of_block hx1.out)).trans hx1.out)
 obtain⟨X,hX⟩ : ∃ X,X=(w2.alloc (.map #[] 0)).alloc (.cells #[.int .u64 (t.next:Int),.slice a2 t.n.length d2,.pointer (some ⟨p,0,none⟩),.int .u32 0,.map (some w2.heap.size)] 93):=⟨_,rfl⟩
 have hbX:Below w2.heap.size w2 X:=by rw[hX];exact((Below.refl w2.heap.size w2).alloc (Nat.le_refl _) _).alloc (by simp) _
 have hBX:=hid (sn hB2.out hbX)
 have hxX:=(hbX.block _ (lt_of_block hx2.out)).trans hx2.out
 have x1:=Z0 hxX 1
 have hle:=hid hB2.out.size
 have hlt2:=hid (lt_of_block hx2.out)
 have hFX:=hid (show FSo X (w2.heap.size+1) w2.heap.size (.slice a2 t.n.length d2) p (Z5Z t) u 0 from by
  refine⟨by omega,?_,hv2.below hbX,?_,?_,⟨w,htab.out,hBX.out,?_,?_⟩,?_⟩
  ·rw[hX];exact Z27 _ _ _
  ·intro e;have h1:=Z74 hv2 (FOkWV.ne (f:=Z5Z t) ⟨hg,by show 0<4294967296;decide⟩) e;omega
  ·intro e;have h1:=Z74 hv2 (FOkWV.ne (f:=Z5Z t) ⟨hg,by show 0<4294967296;decide⟩) e;omega
  ·have:=hle.out;omega
  ·have:=hle.out;omega
  ·rw[hX];exact(MapAt.made w2).kept (heap_alloc_old _ _ (by simp)))
 clear c0 c1 hap hb2 hbX hxX hv2 hf2
 have hmk:(Instr.makeMap 91 none).run Tryz.prog w2=.ok (.map (some w2.heap.size)) (w2.alloc (.map #[] 0)):=by kernel_rfl
 go_wp2_with (rw[←hX];replace hX:=hid hX)
 try (rw[←hX];replace hX:=hid hX)
 obtain⟨b,hbb⟩ : ∃ b,b=w2.heap.size+1:=⟨_,rfl⟩
 obtain⟨m,hmm⟩ : ∃ m,m=w2.heap.size:=⟨_,rfl⟩
 rw[←hmm]at hFX
 rw[←hmm]at hbb
 rw[←hbb]at hFX
 rw[←hmm,←hbb]
 have hwb:Hid (w.heap.size≤b):=hid (by have:=hle.out;omega)
 have hwm:Hid (w.heap.size≤m):=hid (by have:=hle.out;omega)
 clear hle hlt2 hx2 hB2 x1 hX
 replace hbb:=hid hbb
 replace hmm:=hid hmm
 have hg2:=hid hg
 clear hg
 go_loopw [26] (fun kv wr=>∃ k:Nat,k≤t.n.length∧kv=.int .i64 (k:Int)∧Hid (∃ v',FSo wr b m v' p (Z4j t k) u 0)∧Hid (Below w.heap.size w wr)) (fun kv _=>t.n.length - (intOf kv).toNat)
 case atStart=>exact⟨0,by omega,rfl,hid ⟨_,hFX.out⟩,hBX⟩
 case round =>
  obtain⟨k,hk,rfl,hFr,hB⟩:=hrel
  obtain⟨vr,hFr⟩:=hFr.out
  clear hFX hBX
  by_cases hkl:k<t.n.length
  ·obtain⟨bb,o,ha,hr⟩:=(hv.out.below hB.out).range k hkl
   subst ha
   have hst:=hid (Z3h hkl)
   have hok:=Z6u hg2.out k hk
   have hxk:=hg2.out.tr.ok _ (List.getElem_mem hkl)
   generalize Z4j t k=f at *
   generalize t.n[k]=x at *
   have hnew:=hid (heap_alloc_new wr (.cells Zk.cells 89))
   obtain⟨W3,hW3⟩ : ∃ W,W=Z1J wr x:=⟨_,rfl⟩
   have hb3:Below wr.heap.size wr W3:=by rw[hW3];exact ZD _ _
   have hn3:=(show W3.heap[wr.heap.size]?=some (.cells x.cells 89 (0,0)) by rw[hW3];exact ZK _ _)
   have q0:W3.cell? ⟨wr.heap.size,0,none⟩=some (.int .u64 (x.path:Int)):=Z0 hn3 0
   have q3:W3.cell? ⟨wr.heap.size,3,none⟩=some (.int .u32 (x.atm:Int)):=Z0 hn3 3
   have q4:W3.cell? ⟨wr.heap.size,4,none⟩=some (.int .u32 (x.mtm:Int)):=Z0 hn3 4
   have q10:W3.cell? ⟨wr.heap.size,10,none⟩=some (.bool x.gone):=Z0 hn3 10
   have hB3:=hid (sn hB.out hb3)
   have hF3:=hid (hFr.below hb3)
   unfold Z1J at hW3
   rw[Zc]at hW3 hnew
   replace hr:=hid hr
   replace hn3:=hid hn3
   have hlb:=hid (show wr.heap.size≠b from Nat.ne_of_gt (lt_of_block hFr.blk))
   clear hb3 hB hFr
   have hS : ∀ w',FStep b m W3 w'→Below w.heap.size w w':=fun w' h=>hB3.out.trans (h.below _ hwb.out hwm.out hB3.out.size)
   replace hS:=hid hS
   cases hgo:x.gone with
   | true =>
    rw[hgo]at q10
    have hE:Hid (Z4j t (k+1)=Z2c f x.path):=hid (by rw[hst.out];unfold Zau;rw[if_pos hgo])
    have hre:=hid (Z2t b m p 0 _ f u x.path W3 hF3.out hok.tr hxk.path)
    clear hst hgo
    go_wp2_with (first
     |(refine Zx (by rfl) 89 (.tmp 28) (by rfl) bb (o+k * 12) (by rfl) x.cells _ hr.out Tryz.underlying89 (by rfl) (by kernel_rfl) ?_)
     |(refine wpList_store_row (by rfl) 89 (.tmp 9) (.tmp 29) (by rfl) wr.heap.size x.cells (by rfl) (by rfl) 89 _ hnew.out (by kernel_rfl) (by kernel_rfl) (Zw x) ?_)
     |(rw[←hW3];replace hW3:=hid hW3))
    refine hre.out.mono ?_
    rintro e w8 ⟨rfl,⟨v8,hF8,_⟩,hs8⟩
    replace hF8:=hid hF8
    replace hs8:=hid hs8
    go_wp2_with fail
    go_roundw
    case rel=>exact⟨k+1,by omega,by go_num,hid ⟨v8,by rw[hE.out];exact hF8.out⟩,hid (hS.out _ hs8.out)⟩
    case measure=>simp[intOf];omega
   | false =>
    rw[hgo]at q10
    obtain⟨kk,hkk⟩ : ∃ kk,kk=max (max f.now x.atm) x.mtm:=⟨_,rfl⟩
    have hmx:(if (if f.now<x.atm then(x.atm:Int) else(f.now:Int))<(x.mtm:Int) then(x.mtm:Int) else if f.now<x.atm then(x.atm:Int) else(f.now:Int))=(kk:Int):=by split <;> split <;> omega
    have hkl2:kk<4294967296:=by have:=hok.now;have:=hxk.atm;have:=hxk.mtm;omega
    have hE:Hid (Z4j t (k+1)=Z2c ⟨f.t,kk,f.by_⟩ x.path):=hid (by rw[hst.out];unfold Zau;rw[if_neg (by rw[hgo];decide),hkk])
    have hFd:=hF3.out.below ((Below.refl _ _).drew)
    have k3:W3.cell? ⟨b,3,none⟩=some (.int .u32 (f.now:Int)):=Z0 hF3.out.blk 3
    have z3:W3.frozen? ⟨b,3,none⟩=false:=Zb hF3.out.blk 3
    have hF4:=hFd.tick kk
    have hs4:=(FStep.pure (b:=b) (m:=m) ((Below.refl W3.heap.size W3).drew)).trans (FStep.cell (i:=3) (.int .u32 (kk:Int)))
    have hn4:=(show(W3.drew.setCell ⟨b,3,none⟩ (.int .u32 (kk:Int))).heap[wr.heap.size]?=some (.cells x.cells 89 (0,0)) from(Z1 hlb.out).trans hn3.out)
    obtain⟨W4,hW4⟩ : ∃ W4,W4=W3.drew.setCell ⟨b,3,none⟩ (.int .u32 (kk:Int)):=⟨_,rfl⟩
    rw[←hW4]at hF4 hs4 hn4
    have hre:=hid (Z2t b m p 0 _ _ u x.path _ hF4 hok.tr hxk.path)
    have s0:W4.cell? ⟨wr.heap.size,0,none⟩=some (.int .u64 (x.path:Int)):=Z0 hn4 0
    have s3:(W3.drew.setCell ⟨b,3,none⟩ (.int .u32 (kk:Int))).cell? ⟨wr.heap.size,3,none⟩=some (.int .u32 (x.atm:Int)):=by rw[←hW4];exact Z0 hn4 3
    have s4:(W3.drew.setCell ⟨b,3,none⟩ (.int .u32 (kk:Int))).cell? ⟨wr.heap.size,4,none⟩=some (.int .u32 (x.mtm:Int)):=by rw[←hW4];exact Z0 hn4 4
    replace hW4:=hid hW4
    replace hF4:=hid hF4
    replace hs4:=hid hs4
    replace hn4:=hid hn4
    replace hkk:=hid hkk
    clear hst hgo hFd
    go_wp2_with (first
     |(refine Zx (by rfl) 89 (.tmp 28) (by rfl) bb (o+k * 12) (by rfl) x.cells _ hr.out Tryz.underlying89 (by rfl) (by kernel_rfl) ?_)
     |(refine wpList_store_row (by rfl) 89 (.tmp 9) (.tmp 29) (by rfl) wr.heap.size x.cells (by rfl) (by rfl) 89 _ hnew.out (by kernel_rfl) (by kernel_rfl) (Zw x) ?_)
     |(rw[←hW3];replace hW3:=hid hW3))
    go_region
    all_goals
     rw[show(W3.setCell ⟨b,3,none⟩ (.int .u32 (kk:Int))).drew=W4 from hW4.out.symm]
     clear q0 q3 q4 q10 s3 s4 k3 z3 hmx
     go_wp2_with fail
     refine hre.out.mono ?_
     rintro e w8 ⟨rfl,⟨v8,hF8,_⟩,hs8⟩
     replace hF8:=hid hF8
     replace hs8:=hid (hs4.out.trans hs8)
     go_wp2_with fail
     go_roundw
     case rel=>exact⟨k+1,by omega,by go_num,hid ⟨v8,by rw[hE.out];exact hF8.out⟩,hid (hS.out _ hs8.out)⟩
     case measure=>simp[intOf];omega
  ·obtain rfl:k=t.n.length:=by omega
   rw[Z3S]at hFr
   replace hFr:=hid hFr
   go_wp2_with fail
   go_ret2
   exact⟨b,m,vr,rfl,hFr.out,hwb.out,hwm.out,hB.out⟩
end
end Go.Proofs.YtkefjeabckainaaGreat
