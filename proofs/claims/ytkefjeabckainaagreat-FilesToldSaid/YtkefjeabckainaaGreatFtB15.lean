/- The pieces of the program's Check: the tests of up, ContainsFunc, named. Conditions: numbers and texts in their types. And the texts behind it. -/
import Derived.Test.YtkefjeabckainaaGreatFtB08
import Derived.Test.YtkefjeabckainaaGreatFtB07
import Derived.Test.YtkefjeabckainaaGreatFtB02
import Derived.Test.YtkefjeabckainaaGreatFtB14
import Derived.Test.YtkefjeabckainaaGreatFtB04
namespace Go.Proofs.YtkefjeabckainaaGreat
set_option maxRecDepth 100000
set_option linter.unusedVariables false
section
open Go.RowKit
theorem ZcM (b:Nat) (m:Nod) (base:Nat) (w:World) (hb:w.heap[b]?=some (.cells m.cells 89 (0,0))) (hlt:b<base) :
  Z5c 195 #[.pointer (some ⟨b,0,none⟩)] base w (fun n=>decide (n.path=m.up)):=by
 intro n w' hB
 have hb0:=(Below.refl w'.heap.size w').alloc (Nat.le_refl _) (.cells n.cells 89)
 have c0:(w'.alloc (.cells n.cells 89)).cell? ⟨b,9,none⟩=some (.int .u64 (m.up:Int)):=by
  have h1:=(hB.block b hlt).trans hb
  exact Z0 ((hb0.block b (lt_of_block h1)).trans h1) 9
 have k1:((n.path:Int) ==(m.up:Int))=decide (n.path=m.up):=Z2m _ _
 replace hb0:=hid hb0
 replace hb:=hid hb
 replace hB:=hid hB
 rw[Z7]at c0 hb0 ⊢
 show Calls _ _ #[_,_] _ _
 go_enter Tryz.func195,Tryz.ntmps195
 go_wp2_with fail
 go_ret
 exact⟨ZR (by first | rfl | exact k1),hb0.out⟩
theorem Z9s:Z5d 195:=fun args W=>rfl
def Z6Z (m n:Nod):Bool:=!n.gone && decide (n.up=m.up) && decide (n.name=m.name)
theorem ZcN (b:Nat) (m:Nod) (base:Nat) (w:World) (hb:w.heap[b]?=some (.cells m.cells 89 (0,0))) (hlt:b<base) :
  Z5c 197 #[.pointer (some ⟨b,0,none⟩)] base w (Z6Z m):=by
 intro n w' hB
 have hb0:=(Below.refl w'.heap.size w').alloc (Nat.le_refl _) (.cells n.cells 89)
 have h1:=(hB.block b hlt).trans hb
 have h2:=(hb0.block b (lt_of_block h1)).trans h1
 have c0:(w'.alloc (.cells n.cells 89)).cell? ⟨b,9,none⟩=some (.int .u64 (m.up:Int)):=Z0 h2 9
 have c5:(w'.alloc (.cells n.cells 89)).cell? ⟨b,5,none⟩=some (.string m.name):=Z0 h2 5
 have hE:Hid (Z6Z m n=(!n.gone && decide (n.up=m.up) && decide (n.name=m.name))):=hid rfl
 have k1:((n.up:Int) ==(m.up:Int))=decide (n.up=m.up):=Z2m _ _
 have k2:(n.name.toList == m.name.toList)=decide (n.name=m.name):=Z3l _ _
 clear h1 h2
 replace hb0:=hid hb0
 replace hb:=hid hb
 replace hB:=hid hB
 rw[Z7]at c0 c5 hb0 ⊢
 rcases hg:n.gone with _ | _ <;> rcases hu:decide (n.up=m.up) with _ | _ <;> rcases hn:decide (n.name=m.name) with _ | _
 all_goals
  rw[hg,hu,hn]at hE
  rw[hg]at c0 c5 hb0
  rw[hu]at k1
  rw[hn]at k2
  replace hg:=hid hg
  replace hu:=hid hu
  replace hn:=hid hn
  show Calls _ _ #[_,_] _ _
  go_enter Tryz.func197,Tryz.ntmps197
  go_wp2_with fail
  go_ret
  exact⟨ZR (by rw[hE.out];rfl),hb0.out⟩
theorem Z9t:Z5d 197:=fun args W=>rfl
set_option maxHeartbeats 1600000 in
theorem Z9u (v:Value) (l:List Nod) (f:FuncId) (cap:Array Value) (base:Nat) (p:Nod→Bool) (w:World) (hv:Z3 w v l) (hl:l.length≤1000) (hT:Z5c f cap base w p) (hE:Z5d f) (hB:base≤w.heap.size) :
  Calls Tryz.prog 196 #[v,.func (.func f) #[] cap] w fun e w'=>e=.returned (.bool (l.any p))∧Below w.heap.size w w':=by
 have hi:=hid (Z5F v l f cap base p w hv hl hT hE hB)
 clear hv hT hE
 go_enter Tryz.func196,Tryz.ntmps196
 go_wp2_with fail
 refine hi.out.mono ?_
 rintro e w2 ⟨i,rfl,hi2,hb⟩
 rcases hi2 with ⟨rfl,h1⟩ |⟨k,hk,rfl,h1,_⟩
 ·have hr2:=hid (show l.any p=false by rw[List.any_eq_false];intro n hn;rw[h1 n hn];simp)
  clear h1
  replace hb:=hid hb
  go_wp2_with fail
  go_ret
  exact⟨by rw[hr2.out];rfl,hb.out⟩
 ·have hr2:=hid (show l.any p=true by rw[List.any_eq_true];exact⟨_,List.getElem_mem hk,h1⟩)
  have k1:(0:Int)≤(k:Int):=by omega
  clear h1
  replace hb:=hid hb
  go_wp2_with fail
  go_ret
  exact⟨by rw[hr2.out];rfl,hb.out⟩
def Z4b (n:Nod):Int:=if n.path≠1∧ZJ n.name≠0 then 6 else if (Z8 n.uid && Z8 n.gid && Z8 n.muid)=true then 0 else 6
theorem Z3M {n:Nod} {b:Bool} (h:b=((!(Z8 n.uid) || !(Z8 n.gid)) || !(Z8 n.muid))):(Z8 n.uid && Z8 n.gid && Z8 n.muid) = !b:=by
 rw[h];cases Z8 n.uid <;> cases Z8 n.gid <;> cases Z8 n.muid <;> rfl
set_option maxHeartbeats 3200000 in
theorem Z5f (n:Nod) (w:World) (hn:NodOk n) :
  Calls Tryz.prog 173 #[.agg n.cells] w fun e w'=>e=.returned (.int .i64 (Z4b n))∧Below w.heap.size w w':=by
 obtain⟨W,hW⟩ : ∃ W,W=w.alloc (.cells n.cells 89):=⟨_,rfl⟩
 have hb0:Below w.heap.size w W:=by rw[hW];exact(Below.refl _ _).alloc (Nat.le_refl _) _
 have hX0:=hid (show W.heap[w.heap.size]?=some (.cells n.cells 89 (0,0)) by rw[hW,heap_alloc_new])
 have c0:W.cell? ⟨w.heap.size,0,none⟩=some (.int .u64 (n.path:Int)):=Z0 hX0.out 0
 have c5:W.cell? ⟨w.heap.size,5,none⟩=some (.string n.name):=Z0 hX0.out 5
 have hE:=hid (show Z4b n=if n.path≠1∧ZJ n.name≠0 then 6 else if (Z8 n.uid && Z8 n.gid && Z8 n.muid)=true then 0 else 6 from rfl)
 have hnm:=hid (Z5u n.name W hn.name)
 have hS0:=hid (show NmS w.heap.size w.heap.size n w W from⟨hb0,hX0.out,hb0.size⟩)
 obtain⟨bV,hbV⟩ : ∃ b,b=((!(Z8 n.uid) || !(Z8 n.gid)) || !(Z8 n.muid)):=⟨_,rfl⟩
 replace hbV:=hid hbV
 replace hb0:=hid hb0
 replace hn:=hid hn
 rw[Z7]at hW ⊢
 by_cases h1:n.path=1
 ·have k1:((n.path:Int) != 1)=false:=by rw[h1];rfl
  replace h1:=hid h1
  go_enter Tryz.func173,Tryz.ntmps173
  go_upto_region 5 with (rw[←hW];replace hW:=hid hW)
  try (rw[←hW];replace hW:=hid hW)
  go_cut [27] (fun s wx=>s=.bool bV∧Hid (NmS w.heap.size w.heap.size n w wx))
  case first=>as_aux_lemma =>
   rename_i J K' hJ hK
   refine wp_region_list ?_
   refine(show wpList Tryz.prog Z5R _ Z2D _ _→_ from fun h=>h) ?_
   refine Z9r hn.out (FrL.of_all (by rfl) rfl ⟨rfl,rfl,rfl,rfl,trivial⟩) hS0.out (fun a w' hF hS=>?_)
   have hE2:=hbV.out
   rw[←hE2]at hF
   exact hK _ _ (Met.intro (hJ _ _ ⟨a.tmps.getD 4 undef,a.tmps.getD 5 undef,a.tmps.getD 6 undef,a.tmps.getD 7 undef,a.tmps.getD 8 undef,a.tmps.getD 9 undef,a.tmps.getD 10 undef,a.tmps.getD 11 undef,a.tmps.getD 12 undef,a.tmps.getD 13 undef,a.tmps.getD 14 undef,a.tmps.getD 15 undef,a.tmps.getD 16 undef,a.tmps.getD 17 undef,a.tmps.getD 18 undef,a.tmps.getD 19 undef,a.tmps.getD 20 undef,a.tmps.getD 21 undef,a.tmps.getD 22 undef,a.tmps.getD 23 undef,a.tmps.getD 24 undef,a.tmps.getD 25 undef,a.tmps.getD 26 undef,.bool bV,⟨rfl,hid hS⟩,Z1n hF _ (by rfl) ⟨hF.get 0 _ rfl,hF.get 1 _ rfl,hF.get 2 _ rfl,hF.get 3 _ rfl,hF.any 4 (by decide),hF.any 5 (by decide),hF.any 6 (by decide),hF.any 7 (by decide),hF.any 8 (by decide),hF.any 9 (by decide),hF.any 10 (by decide),hF.any 11 (by decide),hF.any 12 (by decide),hF.any 13 (by decide),hF.any 14 (by decide),hF.any 15 (by decide),hF.any 16 (by decide),hF.any 17 (by decide),hF.any 18 (by decide),hF.any 19 (by decide),hF.any 20 (by decide),hF.any 21 (by decide),hF.any 22 (by decide),hF.any 23 (by decide),hF.any 24 (by decide),hF.any 25 (by decide),hF.any 26 (by decide),hF.get 27 _ rfl,trivial⟩⟩))
  case rest =>
   obtain⟨rfl,hS⟩:=hcut
   cases bV with
   | true =>
    go_wp2_with fail
    go_ret
    exact⟨by rw[hE.out,if_neg (fun h=>h.1 h1.out),if_neg (by rw[Z3M hbV.out];simp)];rfl,hS.out.bel⟩
   | false =>
    go_wp2_with fail
    go_ret
    exact⟨by rw[hE.out,if_neg (fun h=>h.1 h1.out),if_pos (by rw[Z3M hbV.out];rfl)];rfl,hS.out.bel⟩
 ·have k1:((n.path:Int) != 1)=true:=by simp;omega
  by_cases h2:ZJ n.name=0
  ·have k2:((ZJ n.name:Int) != 0)=false:=by rw[h2];rfl
   replace h2:=hid h2
   go_enter Tryz.func173,Tryz.ntmps173
   go_wp2_with (rw[←hW];replace hW:=hid hW)
   refine hnm.out.mono ?_
   rintro e w2 ⟨rfl,hb2⟩
   have hS1:=hid (hS0.out.next hb2)
   clear hb2
   go_upto_region 5 with fail
   go_cut [27] (fun s wx=>s=.bool bV∧Hid (NmS w.heap.size w.heap.size n w wx))
   case first=>as_aux_lemma =>
    rename_i J K' hJ hK
    refine wp_region_list ?_
    refine(show wpList Tryz.prog Z5R _ Z2D _ _→_ from fun h=>h) ?_
    refine Z9r hn.out (FrL.of_all (by rfl) rfl ⟨rfl,rfl,rfl,rfl,trivial⟩) hS1.out (fun a w' hF hS=>?_)
    have hE2:=hbV.out
    rw[←hE2]at hF
    exact hK _ _ (Met.intro (hJ _ _ ⟨a.tmps.getD 4 undef,a.tmps.getD 5 undef,a.tmps.getD 6 undef,a.tmps.getD 7 undef,a.tmps.getD 8 undef,a.tmps.getD 9 undef,a.tmps.getD 10 undef,a.tmps.getD 11 undef,a.tmps.getD 12 undef,a.tmps.getD 13 undef,a.tmps.getD 14 undef,a.tmps.getD 15 undef,a.tmps.getD 16 undef,a.tmps.getD 17 undef,a.tmps.getD 18 undef,a.tmps.getD 19 undef,a.tmps.getD 20 undef,a.tmps.getD 21 undef,a.tmps.getD 22 undef,a.tmps.getD 23 undef,a.tmps.getD 24 undef,a.tmps.getD 25 undef,a.tmps.getD 26 undef,.bool bV,⟨rfl,hid hS⟩,Z1n hF _ (by rfl) ⟨hF.get 0 _ rfl,hF.get 1 _ rfl,hF.get 2 _ rfl,hF.get 3 _ rfl,hF.any 4 (by decide),hF.any 5 (by decide),hF.any 6 (by decide),hF.any 7 (by decide),hF.any 8 (by decide),hF.any 9 (by decide),hF.any 10 (by decide),hF.any 11 (by decide),hF.any 12 (by decide),hF.any 13 (by decide),hF.any 14 (by decide),hF.any 15 (by decide),hF.any 16 (by decide),hF.any 17 (by decide),hF.any 18 (by decide),hF.any 19 (by decide),hF.any 20 (by decide),hF.any 21 (by decide),hF.any 22 (by decide),hF.any 23 (by decide),hF.any 24 (by decide),hF.any 25 (by decide),hF.any 26 (by decide),hF.get 27 _ rfl,trivial⟩⟩))
   case rest =>
    obtain⟨rfl,hS⟩:=hcut
    cases bV with
    | true =>
     go_wp2_with fail
     go_ret
     exact⟨by rw[hE.out,if_neg (fun h=>h.2 h2.out),if_neg (by rw[Z3M hbV.out];simp)];rfl,hS.out.bel⟩
    | false =>
     go_wp2_with fail
     go_ret
     exact⟨by rw[hE.out,if_neg (fun h=>h.2 h2.out),if_pos (by rw[Z3M hbV.out];rfl)];rfl,hS.out.bel⟩
  ·have k2:((ZJ n.name:Int) != 0)=true:=by simp;omega
   go_enter Tryz.func173,Tryz.ntmps173
   go_wp2_with (rw[←hW];replace hW:=hid hW)
   refine hnm.out.mono ?_
   rintro e w2 ⟨rfl,hb2⟩
   have hB2:=hid (sn hb0.out hb2)
   clear hb2
   go_wp2_with fail
   go_ret
   exact⟨by rw[hE.out,if_pos ⟨h1,h2⟩];rfl,hB2.out⟩
end
section
structure WrOk (x:Nat) (l:List Nod) (i:Nat) (n:Nod):Prop where
 prev:0<i→∀ p,l[i - 1]?=some p→p.path<n.path
 next:n.path<x
 zero:n.path≠0
 bits:ZV n.mode=true
 empt:ZF n=true→n.data.size=0
 nam:0<i→ZJ n.name=0
 ids:Z8 n.uid=true∧Z8 n.gid=true∧Z8 n.muid=true
 len:n.data.size≤4096
 gon:n.gone=true→n.up=0
 par:n.gone=false→∃ u,ZM l n.up=some u∧ZF u=true∧u.gone=false
 uniq:n.gone=false→∀ k q,1≤k→k<i→l[k]?=some q→Z1m n.up q=true→q.name≠n.name
structure ChkOk (t:Tr):Prop where
 root : ∃ r,t.n[0]?=some r∧r.path=1∧ZF r=true∧r.up=1∧r.gone=false∧r.name=Z3z
 each : ∀ i n,t.n[i]?=some n→WrOk t.next t.n i n
 few:t.n.length≤64
 byt:Z10 t.n≤16384
 way : ∀ n∈t.n,n.gone=false→(Z1w t.n (t.n.length+1) n.path).isSome=true
theorem Z5S {l:List Nod} (h : ∀ i p q,l[i]?=some p→l[i+1]?=some q→p.path<q.path):Z16 l:=by
 have hs : ∀ d i p q,l[i]?=some p→l[i+d+1]?=some q→p.path<q.path:=by
  intro d
  induction d with
  | zero=>exact h
  | succ d ih =>
   intro i p q hp hq
   have hlt:=(List.getElem?_eq_some_iff.1 hq).1
   have e1:=ih i p l[i+d+1] hp (List.getElem?_eq_getElem (by omega))
   have e2:=h (i+d+1) _ q (List.getElem?_eq_getElem (by omega)) hq
   omega
 refine List.pairwise_iff_getElem.2 fun i j hi hj hij=>?_
 refine hs (j - i - 1) i _ _ (List.getElem?_eq_getElem hi) ?_
 rw[show i+(j - i - 1)+1=j by omega,List.getElem?_eq_getElem hj]
theorem ChkOk.sort {t:Tr} (h:ChkOk t):Z16 t.n:=Z5S fun i p q hp hq=>(h.each _ _ hq).prev (by omega) p (by simpa using hp)
theorem Z42 {l:List Nod} (h:Z16 l) {i j:Nat} {p q:Nod} (hp:l[i]?=some p) (hq:l[j]?=some q) (hij:i<j):p.path<q.path:=by
 obtain⟨hi,rfl⟩:=List.getElem?_eq_some_iff.1 hp
 obtain⟨hj,rfl⟩:=List.getElem?_eq_some_iff.1 hq
 exact List.pairwise_iff_getElem.1 h i j hi hj hij
theorem Zc5 {t:Tr}:ChkOk t↔OkC t:=by
 constructor
 ·intro h
  have hs:=h.sort
  obtain⟨r,r0,r1,r2,r3,r4,r5⟩:=h.root
  have at1 : ∀ i n,t.n[i]?=some n→n.path≠1→0<i:=fun i n hn h1=>by
   rcases Nat.eq_zero_or_pos i with rfl | h0
   ·rw[r0]at hn;cases hn;exact absurd r1 h1
   ·exact h0
  have mem : ∀ n∈t.n,∃ i,t.n[i]?=some n:=fun n hn=>List.getElem?_of_mem hn
  exact
   {sort:=hs
    root:=⟨r,List.mem_of_getElem? r0,r1,r2,r3,r4,r5⟩
    low:=fun n hn=>by
     obtain⟨i,hi⟩:=mem n hn
     have:=(h.each i n hi).zero
     exact⟨by omega,(h.each i n hi).next⟩
    bits:=fun n hn=>by obtain⟨i,hi⟩:=mem n hn;exact(h.each i n hi).bits
    empt:=fun n hn=>by obtain⟨i,hi⟩:=mem n hn;exact(h.each i n hi).empt
    nam:=fun n hn h1=>by obtain⟨i,hi⟩:=mem n hn;exact(h.each i n hi).nam (at1 i n hi h1)
    ids:=fun n hn=>by obtain⟨i,hi⟩:=mem n hn;exact(h.each i n hi).ids
    len:=fun n hn=>by obtain⟨i,hi⟩:=mem n hn;exact(h.each i n hi).len
    gon:=fun n hn=>by obtain⟨i,hi⟩:=mem n hn;exact(h.each i n hi).gon
    par:=fun n hn hg=>by
     obtain⟨i,hi⟩:=mem n hn
     obtain⟨u,hu,h1,h2⟩:=(h.each i n hi).par hg
     obtain⟨a,b⟩:=Zr hu
     exact⟨u,a,b,h1,h2⟩
    uniq:=fun a ha b hb d h1 h2 he=>by
     obtain⟨i,hi⟩:=mem a ha
     obtain⟨j,hj⟩:=mem b hb
     have g1:a.gone=false∧a.path≠1∧a.up=d:=by unfold Z1m at h1;simpa[and_assoc] using h1
     have g2:b.gone=false∧b.path≠1∧b.up=d:=by unfold Z1m at h2;simpa[and_assoc] using h2
     have i0:=at1 i a hi g1.2.1
     have j0:=at1 j b hj g2.2.1
     rcases Nat.lt_trichotomy i j with hlt | he2 | hlt
     ·exact absurd he ((h.each j b hj).uniq g2.1 i a i0 hlt hi (by rw[g2.2.2];exact h1))
     ·subst he2;rw[hi]at hj;exact Option.some.inj hj
     ·exact absurd he.symm ((h.each i a hi).uniq g1.1 j b j0 hlt hj (by rw[g1.2.2];exact h2))
    few:=h.few
    byt:=h.byt
    way:=fun n hn hg=>Z4z.2 (h.way n hn hg)}
 ·intro h
  obtain⟨r,rm,r1,r2,r3,r4,r5⟩:=h.root
  have r0:t.n[0]?=some r:=by
   obtain⟨i,hi⟩:=List.getElem?_of_mem rm
   rcases Nat.eq_zero_or_pos i with rfl | hp
   ·exact hi
   ·have hlt:=(List.getElem?_eq_some_iff.1 hi).1
    have e0:t.n[0]?=some t.n[0]:=List.getElem?_eq_getElem (by omega)
    have:=Z42 h.sort e0 hi hp
    have:=(h.low _ (List.mem_of_getElem? e0)).1
    omega
  have ne1 : ∀ i n,t.n[i]?=some n→0<i→n.path≠1:=fun i n hn h0=>by
   have:=Z42 h.sort r0 hn h0
   omega
  exact
   {root:=⟨r,r0,r1,r2,r3,r4,r5⟩
    each:=fun i n hn =>
     have hm:=List.mem_of_getElem? hn
     {prev:=fun h0 p hp=>Z42 h.sort hp hn (by omega)
      next:=(h.low n hm).2
      zero:=by have:=(h.low n hm).1;omega
      bits:=h.bits n hm
      empt:=h.empt n hm
      nam:=fun h0=>h.nam n hm (ne1 i n hn h0)
      ids:=h.ids n hm
      len:=h.len n hm
      gon:=h.gon n hm
      par:=fun hg=>by
       obtain⟨u,hu,h1,h2,h3⟩:=h.par n hm hg
       exact⟨u,(Z39 h.sort).2 ⟨hu,h1⟩,h2,h3⟩
      uniq:=fun hg k q h1 hk hq hb he=>by
       have hmq:=List.mem_of_getElem? hq
       have h2:Z1m n.up n=true:=by unfold Z1m;simp[hg,ne1 i n hn (by omega)]
       have e:=h.uniq q hmq n hm n.up hb h2 he
       subst e
       exact absurd (Z42 h.sort hq hn hk) (Nat.lt_irrefl _)}
    few:=h.few
    byt:=h.byt
    way:=fun n hn hg=>Z4z.1 (h.way n hn hg)}
end
section
open Go.RowKit
structure UpOk (l:List Nod) (i:Nat) (n:Nod):Prop where
 gon:n.gone=true→n.up=0
 par:n.gone=false→∃ u,ZM l n.up=some u∧ZF u=true∧u.gone=false
 twin:n.gone=false→(l.take i).any (Z6Z n)=false
def Zc6 (w:World) (l:List Nod) (i:Nat) (n:Nod) (e:Ending) (w':World):Prop:=∃ E:Int,e=.returned (.int .i64 E)∧(E=0↔UpOk l i n)∧Below w.heap.size w w'
theorem Z6n {w w':World} {i:Nat} {l:List Nod} {n:Nod} (E:Int) (hE:E≠0) (h:¬ UpOk l i n) (hb:Below w.heap.size w w'):Zc6 w l i n (.returned (.int .i64 E)) w':=⟨E,rfl,⟨fun h1=>absurd h1 hE,fun h1=>absurd h1 h⟩,hb⟩
theorem Z81 {l:List Nod} {p k:Nat} (hk:k<l.length) (hp:l[k].path=p) (ha : ∀ j (h:j<l.length),j<k→decide (l[j].path=p)=false):ZM l p=some l[k]:=by
 unfold ZM
 rw[List.find?_eq_some_iff_append]
 refine⟨by simpa using hp,l.take k,l.drop (k+1),by rw[←List.drop_eq_getElem_cons hk,List.take_append_drop],fun x hx=>?_⟩
 obtain⟨j,hj,rfl⟩:=List.mem_iff_getElem.1 hx
 rw[List.length_take]at hj
 rw[List.getElem_take]
 have:=ha j (by omega) (by omega)
 simpa using this
set_option maxHeartbeats 6400000 in
theorem ZcO (v:Value) (x:Nat) (l:List Nod) (i:Nat) (n:Nod) (w:World) (hv:Z3 w v l) (hl:l.length≤900) (hin:l[i]?=some n) (hok : ∀ n∈l,NodOk n) :
  Calls Tryz.prog 174 #[.agg #[.int .u64 (x:Int),v],.int .i64 (i:Int)] w (Zc6 w l i n):=by
 obtain⟨a,c,rfl,g1,g2⟩:=hv.form
 unfold maxLen at g2
 obtain⟨W,hW⟩ : ∃ W,W=w.alloc (.cells #[.int .u64 (x:Int),.slice a l.length c] 30):=⟨_,rfl⟩
 have hb0:Below w.heap.size w W:=by rw[hW];exact(Below.refl w.heap.size w).alloc (Nat.le_refl _) _
 have hX0:W.heap[w.heap.size]?=some (.cells #[.int .u64 (x:Int),.slice a l.length c] 30 (0,0)):=by rw[hW,heap_alloc_new]
 obtain⟨hi,hne⟩:=List.getElem?_eq_some_iff.1 hin
 obtain⟨b,o,ha,hr⟩:=(hv.below hb0).range i hi
 subst ha
 have hiz:(i:Int)<(l.length:Int):=by omega
 rw[hne]at hr
 replace hin:=hid hin
 clear hne
 have hnew:=hid (heap_alloc_new W (.cells Zk.cells 89))
 obtain⟨V,hV⟩ : ∃ V,V=Z1J W n:=⟨_,rfl⟩
 have hbV:Below W.heap.size W V:=by rw[hV];exact ZD _ _
 have hN:=hid (show V.heap[W.heap.size]?=some (.cells n.cells 89 (0,0)) by rw[hV];exact ZK _ _)
 have hX:=hid ((hbV.block _ (lt_of_block hX0)).trans hX0)
 have hBV:=hid (sn hb0 hbV)
 have hvV:=hid (hv.below hBV.out)
 have e1:=Z0 hX0 1
 unfold Z1J at hV
 rw[Zc]at hV hnew
 replace hr:=hid hr
 replace hok:=hid hok
 have hsz:=hid (lt_of_block hN.out)
 have hidx:=hid (Z5F _ l 195 #[.pointer (some ⟨W.heap.size,0,none⟩)] V.heap.size _ V hvV.out (by omega) (ZcM W.heap.size n V.heap.size V hN.out hsz.out) Z9s (Nat.le_refl _))
 replace hv:=hid hv
 clear hbV hX0 hb0
 go_enter Tryz.func174,Tryz.ntmps174
 go_upto_region 2 with (first
  |(rw[←hW];replace hW:=hid hW)
  |(refine Zx (by rfl) 89 (.tmp 10) (by rfl) b (o+i * 12) (by rfl) n.cells _ hr.out Tryz.underlying89 (by rfl) (by kernel_rfl) ?_)
  |(refine wpList_store_row (by rfl) 89 (.tmp 5) (.tmp 11) (by rfl) W.heap.size n.cells (by rfl) (by rfl) 89 _ hnew.out (by kernel_rfl) (by kernel_rfl) (Zw n) ?_)
  |(rw[←hV];replace hV:=hid hV))
 try (rw[←hV];replace hV:=hid hV)
 clear hnew e1
 generalize W.heap.size=z at *
 have z9:V.cell? ⟨z,9,none⟩=some (.int .u64 (n.up:Int)):=Z0 hN.out 9
 have z10:V.cell? ⟨z,10,none⟩=some (.bool n.gone):=Z0 hN.out 10
 have e1:=Z0 hX.out 1
 rcases hg:n.gone with _ | _
 ·rw[hg]at z10
  go_wp2_with fail
  refine hidx.out.mono ?_
  rintro e w2 ⟨k,rfl,hk,hb2⟩
  have hB2:=hid (sn hBV.out hb2)
  have hX2:=hid ((hb2.block _ (lt_of_block hX.out)).trans hX.out)
  have hN2:=hid ((hb2.block _ (lt_of_block hN.out)).trans hN.out)
  have hv2:=hid (hvV.out.below hb2)
  clear z9 z10 e1 hidx hb2 hX hN hvV
  have e1:=Z0 hX2.out 1
  rcases hk with ⟨rfl,hno⟩ |⟨k,hkl,rfl,hkp,hfirst⟩
  ·have hR:=hid (show ¬ UpOk l i n from fun h=>by
    obtain⟨u,hu,_⟩:=h.par hg
    obtain⟨h1,h2⟩:=Zr hu
    have:=hno u h1
    simp[h2]at this)
   clear hno hg
   go_wp2_with fail
   go_ret
   exact Z6n 13 (by omega) hR.out hB2.out
  ·have hgl:=hid (Z81 hkl (by simpa using hkp) hfirst)
   obtain⟨u,hu⟩ : ∃ u,u=l[k]:=⟨_,rfl⟩
   obtain⟨b',o',ha',hr2⟩:=hv2.out.range k hkl
   cases ha'
   have huo:=hid (hok.out u (by rw[hu];exact List.getElem_mem hkl))
   rw[←hu]at hgl hr2
   clear hkp hfirst
   replace hu:=hid hu
   have s0:w2.cell? ⟨b,o+k * 12,none⟩=some (.int .u64 (u.path:Int)):=hr2 0 _ (by rw[Z7];rfl)
   have s1:w2.cell? ⟨b,o+k * 12+1,none⟩=some (.int .u32 (u.vers:Int)):=hr2 1 _ (by rw[Z7];rfl)
   have s2:w2.cell? ⟨b,o+k * 12+2,none⟩=some (.int .u32 (u.mode:Int)):=hr2 2 _ (by rw[Z7];rfl)
   have s3:w2.cell? ⟨b,o+k * 12+3,none⟩=some (.int .u32 (u.atm:Int)):=hr2 3 _ (by rw[Z7];rfl)
   have s4:w2.cell? ⟨b,o+k * 12+4,none⟩=some (.int .u32 (u.mtm:Int)):=hr2 4 _ (by rw[Z7];rfl)
   have s5:w2.cell? ⟨b,o+k * 12+5,none⟩=some (.string u.name):=hr2 5 _ (by rw[Z7];rfl)
   have s6:w2.cell? ⟨b,o+k * 12+6,none⟩=some (.string u.uid):=hr2 6 _ (by rw[Z7];rfl)
   have s7:w2.cell? ⟨b,o+k * 12+7,none⟩=some (.string u.gid):=hr2 7 _ (by rw[Z7];rfl)
   have s8:w2.cell? ⟨b,o+k * 12+8,none⟩=some (.string u.muid):=hr2 8 _ (by rw[Z7];rfl)
   have s9:w2.cell? ⟨b,o+k * 12+9,none⟩=some (.int .u64 (u.up:Int)):=hr2 9 _ (by rw[Z7];rfl)
   have s10:w2.cell? ⟨b,o+k * 12+10,none⟩=some (.bool u.gone):=hr2 10 _ (by rw[Z7];rfl)
   have s11:w2.cell? ⟨b,o+k * 12+11,none⟩=some (.string u.data):=hr2 11 _ (by rw[Z7];rfl)
   have j1:¬ (k:Int)<0:=by omega
   have j2:(0:Int)≤(k:Int):=by omega
   have j3:(k:Int)<(l.length:Int):=by omega
   replace hr2:=hid hr2
   rcases hug:u.gone with _ | _
   ·have hdir:=hid (Z3E u w2 huo.out)
    obtain⟨bD,hbD⟩ : ∃ bD,bD=ZF u:=⟨_,rfl⟩
    rw[←hbD]at hdir
    rw[Z7]at hdir
    rw[hug]at s10 hdir
    replace hbD:=hid hbD
    go_wp2_with fail
    refine hdir.out.mono ?_
    rintro e w3 ⟨rfl,hb3⟩
    have hB3:=hid (sn hB2.out hb3)
    have hX3:=hid ((hb3.block _ (lt_of_block hX2.out)).trans hX2.out)
    have hN3:=hid ((hb3.block _ (lt_of_block hN2.out)).trans hN2.out)
    have hv3:=hid (hv2.out.below hb3)
    clear e1 hb3 hdir hX2 hN2 hv2 s0 s1 s2 s3 s4 s5 s6 s7 s8 s9 s10 s11 j1 j2 j3
    have e1:=Z0 hX3.out 1
    cases bD with
    | false =>
     have hR:=hid (show ¬ UpOk l i n from fun h=>by
      obtain⟨y,hy,h1,_⟩:=h.par hg
      rw[hgl.out]at hy;cases hy
      rw[←hbD.out]at h1;cases h1)
     clear hg hug
     go_wp2_with fail
     go_ret
     exact Z6n 13 (by omega) hR.out hB3.out
    | true =>
     have hpar:=hid (show n.gone=false→∃ u,ZM l n.up=some u∧ZF u=true∧u.gone=false from fun _=>⟨u,hgl.out,hbD.out.symm,hug⟩)
     have hlt:(l.take i).length=i:=by rw[List.length_take];omega
     have hsub:Z3 w3 (.slice (some ⟨b,o,none⟩) i c) (l.take i):=by
      have:=hv3.out.take (m:=i) (by omega)
      unfold Z3
      rw[hlt];exact this
     have hz3:=hid (lt_of_block hN3.out)
     have hct:=hid (Z9u _ (l.take i) 197 #[.pointer (some ⟨z,0,none⟩)] w3.heap.size (Z6Z n) w3 hsub (by omega) (ZcN z n w3.heap.size w3 hN3.out hz3.out) Z9t (Nat.le_refl _))
     obtain⟨bT,hbT⟩ : ∃ b,b=(l.take i).any (Z6Z n):=⟨_,rfl⟩
     rw[←hbT]at hct
     replace hbT:=hid hbT
     have i1:(0:Int)≤(i:Int):=by omega
     have i2:(i:Int)≤(c:Int):=by omega
     replace hg:=hid hg
     replace hug:=hid hug
     clear hsub hlt
     go_wp2_with fail
     refine hct.out.mono ?_
     rintro e w4 ⟨rfl,hb4⟩
     have hB4:=hid (sn hB3.out hb4)
     clear hb4 hct e1
     cases bT with
     | true =>
      have hR:=hid (show ¬ UpOk l i n from fun h=>by
       have:=h.twin hg.out
       rw[←hbT.out]at this;cases this)
      go_wp2_with fail
      go_ret
      exact Z6n 7 (by omega) hR.out hB4.out
     | false =>
      have hR:=hid (show UpOk l i n from⟨fun h=>by rw[hg.out]at h;(cases h),hpar.out,fun _=>hbT.out.symm⟩)
      go_wp2_with fail
      go_ret
      exact⟨0,rfl,⟨fun _=>hR.out,fun _=>rfl⟩,hB4.out⟩
   ·rw[hug]at s10
    have hR:=hid (show ¬ UpOk l i n from fun h=>by
     obtain⟨y,hy,_,h1⟩:=h.par hg
     rw[hgl.out]at hy;cases hy
     rw[hug]at h1;cases h1)
    clear hg hug
    go_wp2_with fail
    go_ret
    exact Z6n 13 (by omega) hR.out hB2.out
 ·rw[hg]at z10
  by_cases hu:n.up=0
  ·have k1:((n.up:Int) != 0)=false:=by rw[hu];rfl
   have hR:=hid (show UpOk l i n from⟨fun _=>hu,fun h=>by rw[hg]at h;(cases h),fun h=>by rw[hg]at h;(cases h)⟩)
   clear hg hu
   go_wp2_with fail
   go_ret
   exact⟨0,rfl,⟨fun _=>hR.out,fun _=>rfl⟩,hBV.out⟩
  ·have k1:((n.up:Int) != 0)=true:=by simp;omega
   have hR:=hid (show ¬ UpOk l i n from fun h=>hu (h.gon hg))
   clear hg hu
   go_wp2_with fail
   go_ret
   exact Z6n 1 (by omega) hR.out hBV.out
end
section
open Go.RowKit
structure PwS (B g z b f x c:Nat) (l:List Nod) (n:Nod) (w0 w:World):Prop where
 bel:Below B w0 w
 box:w.heap[g]?=some (.cells #[.int .u64 (x:Int),.slice (some ⟨b,f,none⟩) l.length c] 30 (0,0))
 nod:w.heap[z]?=some (.cells n.cells 89 (0,0))
 row:Z3 w (.slice (some ⟨b,f,none⟩) l.length c) l
 hB:B≤w.heap.size
theorem PwS.next {B g z b f x c:Nat} {l:List Nod} {n:Nod} {w0 w w':World} (h:PwS B g z b f x c l n w0 w) (hb:Below w.heap.size w w'):PwS B g z b f x c l n w0 w' :=
 ⟨h.bel.trans (hb.mono h.hB),(hb.block _ (lt_of_block h.box)).trans h.box,(hb.block _ (lt_of_block h.nod)).trans h.nod,h.row.below hb,Nat.le_trans h.hB hb.size⟩
theorem PwS.drew {B g z b f x c:Nat} {l:List Nod} {n:Nod} {w0 w:World} (h:PwS B g z b f x c l n w0 w):PwS B g z b f x c l n w0 w.drew:=h.next (Below.refl _ _).drew
theorem PwS.el {B g z b f x c:Nat} {l:List Nod} {n:Nod} {w0 w:World} (h:PwS B g z b f x c l n w0 w) (j:Nat) (m:Nod) (hm:l[j]?=some m):w.rangeAt b (f+j * 12) m.cells.toList:=by
 obtain⟨hj,rfl⟩:=List.getElem?_eq_some_iff.1 hm
 obtain⟨b',o',ha,hr⟩:=h.row.range j hj
 cases ha
 exact hr
theorem Z82 {p:Addr} {v:Value} {w:World} (h:w.cell? p=some v):(loadVar 28 p).run Tryz.prog w=.ok v w:=by simp[go_sem,h]
theorem Z9v (b f n c j:Nat) (hj:j<n) (hn:n≤9223372036854775807) (w:World):(Instr.indexAt 28 (.slice (some ⟨b,f,none⟩) n c) (.int .i64 (j:Int))).run Tryz.prog w=.ok (ptr b (f+j * 12)) w:=by
 have h1:(0:Int)≤(j:Int):=by omega
 have h2:(j:Int)<(n:Int):=by omega
 simp[go_sem,h1,h2,ptr]
noncomputable def Zu:Array Oper:=match Tryz.f135.body with | some c=>(Z1i c).getD 2 #[] | none=>#[]
theorem ZG:Zu.size=22:=by kernel_rfl
set_option maxHeartbeats 4000000 in
theorem ZcP {w0:World} {B g z b f x c i:Nat} {l:List Nod} {n pr:Nod} (hl:l.length≤9223372036854775807) (hil:i<l.length) (hpr:0<i→l[i - 1]?=some pr)  {v0 v3 v4 v44 v50:Value} {Q:Exit→Act→World→Prop} {a:Act} {w:World} (hQ : ∀ d u c a w,Q (.panic c) (a.put d u) w→Q (.panic c) a w) (hF:FrL 58 [(2,ptr g 0),(1,.int .i64 ((i:Nat):Int)),(5,ptr z 0),(0,v0),(3,v3),(4,v4),(44,v44),(50,v50)] a) (hS:(PwS B g z b f x c l n w0) w) (hE : ∀ a w',FrL 58 ((11,.bool (((decide (0<i)) && (decide (n.path≤pr.path))) ||(decide (x≤n.path)))) :: [(2,ptr g 0),(1,.int .i64 ((i:Nat):Int)),(5,ptr z 0),(0,v0),(3,v3),(4,v4),(44,v44),(50,v50)]) a→(PwS B g z b f x c l n w0) w'→Q .normal a w'):wpAnyH Tryz.prog .any Zu Q ((PwS B g z b f x c l n w0)) 22 (Array.replicate 22 false) a w:=by
 refine hst (i:=0) (o:=Zu[0]'(show 0<Zu.size by rw[ZG];decide)) hF 12 true (.int .i64 ((i:Nat):Int)) (Array.getElem?_eq_getElem (show 0<Zu.size by rw[ZG];decide)) (by kernel_rfl) (by decide) (by kernel_rfl) (by kernel_rfl) (by kernel_rfl) (hQ _ _) (Z2 (by kernel_rfl)) (fun hW w hS=>Z5 (x:=.tmp 1) (.inl (by kernel_rfl)) (hF.ev 1 (.int .i64 ((i:Nat):Int)) rfl)) hS (fun a hF=>?_)
 rw[show cond true (.int .i64 ((i:Nat):Int)) undef=.int .i64 ((i:Nat):Int) from rfl]at hF
 refine hst (i:=1) (o:=Zu[1]'(show 1<Zu.size by rw[ZG];decide)) hF 13 true (.bool (decide (0<i))) (Array.getElem?_eq_getElem (show 1<Zu.size by rw[ZG];decide)) (by kernel_rfl) (by decide) (by kernel_rfl) (by kernel_rfl) (by kernel_rfl) (hQ _ _) (Z2 (by kernel_rfl)) (fun hW w hS=>ZS (op:=.gtr) (ty:=3) (ty2:=3) (x:=.tmp 12) (y:=.const (.int .i64 0)) (u:=.int .i64 ((i:Nat):Int)) (v:=.int .i64 ((0:Nat):Int)) (by kernel_rfl) (hF.ev 12 (.int .i64 ((i:Nat):Int)) rfl) (rfl) (by kernel_rfl) (Z5O _ _ w)) hS (fun a hF=>?_)
 rw[show cond true (.bool (decide (0<i))) undef=.bool (decide (0<i)) from rfl]at hF
 refine hst (i:=2) (o:=Zu[2]'(show 2<Zu.size by rw[ZG];decide)) hF 14 true (.bool (decide (0<i))) (Array.getElem?_eq_getElem (show 2<Zu.size by rw[ZG];decide)) (by kernel_rfl) (by decide) (by kernel_rfl) (by kernel_rfl) (by kernel_rfl) (hQ _ _) (Z2 (by kernel_rfl)) (fun hW w hS=>Z5 (x:=.tmp 13) (.inl (by kernel_rfl)) (hF.ev 13 (.bool (decide (0<i))) rfl)) hS (fun a hF=>?_)
 rw[show cond true (.bool (decide (0<i))) undef=.bool (decide (0<i)) from rfl]at hF
 refine hst (i:=3) (o:=Zu[3]'(show 3<Zu.size by rw[ZG];decide)) hF 15 ((decide (0<i)) == true) (ptr g 1) (Array.getElem?_eq_getElem (show 3<Zu.size by rw[ZG];decide)) (by kernel_rfl) (by decide) (by kernel_rfl) (by kernel_rfl) (by kernel_rfl) (hQ _ _) (Zh (gi:=2) (g:=14) (c:=(decide (0<i))) hF (by kernel_rfl) (by kernel_rfl) rfl) (fun hW w hS=>Zo (T:=30) (x:=.tmp 2) (f:=1) (by kernel_rfl) (hF.ev 2 (ptr g 0) rfl) (by kernel_rfl)) hS (fun a hF=>?_)
 refine hst (i:=4) (o:=Zu[4]'(show 4<Zu.size by rw[ZG];decide)) hF 16 ((decide (0<i)) == true) (.slice (some ⟨b,f,none⟩) l.length c) (Array.getElem?_eq_getElem (show 4<Zu.size by rw[ZG];decide)) (by kernel_rfl) (by decide) (by kernel_rfl) (by kernel_rfl) (by kernel_rfl) (hQ _ _) (Zh (gi:=2) (g:=14) (c:=(decide (0<i))) hF (by kernel_rfl) (by kernel_rfl) rfl) (fun hW w hS=>Ze (ty:=28) (x:=.tmp 15) (by kernel_rfl) ((hF.ev 15 (cond ((decide (0<i)) == true) (ptr g 1) undef) rfl).trans (Zl hW)) (Z82 (Z0 hS.box 1))) hS (fun a hF=>?_)
 refine hst (i:=5) (o:=Zu[5]'(show 5<Zu.size by rw[ZG];decide)) hF 17 ((decide (0<i)) == true) (.int .i64 ((i:Nat):Int)) (Array.getElem?_eq_getElem (show 5<Zu.size by rw[ZG];decide)) (by kernel_rfl) (by decide) (by kernel_rfl) (by kernel_rfl) (by kernel_rfl) (hQ _ _) (Zh (gi:=2) (g:=14) (c:=(decide (0<i))) hF (by kernel_rfl) (by kernel_rfl) rfl) (fun hW w hS=>Z5 (x:=.tmp 1) (.inl (by kernel_rfl)) (hF.ev 1 (.int .i64 ((i:Nat):Int)) rfl)) hS (fun a hF=>?_)
 refine hst (i:=6) (o:=Zu[6]'(show 6<Zu.size by rw[ZG];decide)) hF 18 ((decide (0<i)) == true) (.int .i64 ((i - 1:Nat):Int)) (Array.getElem?_eq_getElem (show 6<Zu.size by rw[ZG];decide)) (by kernel_rfl) (by decide) (by kernel_rfl) (by kernel_rfl) (by kernel_rfl) (hQ _ _) (Zh (gi:=2) (g:=14) (c:=(decide (0<i))) hF (by kernel_rfl) (by kernel_rfl) rfl) (fun hW w hS=>ZS (op:=.sub) (ty:=3) (ty2:=3) (x:=.tmp 17) (y:=.const (.int .i64 1)) (u:=.int .i64 ((i:Nat):Int)) (v:=.int .i64 ((1:Nat):Int)) (by kernel_rfl) ((hF.ev 17 (cond ((decide (0<i)) == true) (.int .i64 ((i:Nat):Int)) undef) rfl).trans (Zl hW)) (rfl) (by kernel_rfl) (Z7n i (by simpa using hW) (by omega) w)) hS (fun a hF=>?_)
 refine hst (i:=7) (o:=Zu[7]'(show 7<Zu.size by rw[ZG];decide)) hF 19 ((decide (0<i)) == true) (ptr b (f+(i - 1) * 12)) (Array.getElem?_eq_getElem (show 7<Zu.size by rw[ZG];decide)) (by kernel_rfl) (by decide) (by kernel_rfl) (by kernel_rfl) (by kernel_rfl) (hQ _ _) (Zh (gi:=2) (g:=14) (c:=(decide (0<i))) hF (by kernel_rfl) (by kernel_rfl) rfl) (fun hW w hS=>Z1L 12 (ty:=28) (x:=.tmp 16) (y:=.tmp 18) (by kernel_rfl) ((hF.ev 16 (cond ((decide (0<i)) == true) (.slice (some ⟨b,f,none⟩) l.length c) undef) rfl).trans (Zl hW)) ((hF.ev 18 (cond ((decide (0<i)) == true) (.int .i64 ((i - 1:Nat):Int)) undef) rfl).trans (Zl hW)) (by have:=hil;omega) (Z9v _ _ _ _ _ (by have:=hil;omega) hl w)) hS (fun a hF=>?_)
 refine hst (i:=8) (o:=Zu[8]'(show 8<Zu.size by rw[ZG];decide)) hF 20 ((decide (0<i)) == true) (ptr b (f+(i - 1) * 12)) (Array.getElem?_eq_getElem (show 8<Zu.size by rw[ZG];decide)) (by kernel_rfl) (by decide) (by kernel_rfl) (by kernel_rfl) (by kernel_rfl) (hQ _ _) (Zh (gi:=2) (g:=14) (c:=(decide (0<i))) hF (by kernel_rfl) (by kernel_rfl) rfl) (fun hW w hS=>Zo (T:=89) (x:=.tmp 19) (f:=0) (by kernel_rfl) ((hF.ev 19 (cond ((decide (0<i)) == true) (ptr b (f+(i - 1) * 12)) undef) rfl).trans (Zl hW)) (by kernel_rfl)) hS (fun a hF=>?_)
 refine hst (i:=9) (o:=Zu[9]'(show 9<Zu.size by rw[ZG];decide)) hF 21 ((decide (0<i)) == true) (.int .u64 ((pr.path:Nat):Int)) (Array.getElem?_eq_getElem (show 9<Zu.size by rw[ZG];decide)) (by kernel_rfl) (by decide) (by kernel_rfl) (by kernel_rfl) (by kernel_rfl) (hQ _ _) (Zh (gi:=2) (g:=14) (c:=(decide (0<i))) hF (by kernel_rfl) (by kernel_rfl) rfl) (fun hW w hS=>Ze (ty:=27) (x:=.tmp 20) (by kernel_rfl) ((hF.ev 20 (cond ((decide (0<i)) == true) (ptr b (f+(i - 1) * 12)) undef) rfl).trans (Zl hW)) (Z1A (p:=⟨b,f+(i - 1) * 12,none⟩) (hS.el (i - 1) pr (hpr (by simpa using hW)) 0 (.int .u64 ((pr.path:Nat):Int)) (by rw[Z7];rfl)))) hS (fun a hF=>?_)
 refine hst (i:=10) (o:=Zu[10]'(show 10<Zu.size by rw[ZG];decide)) hF 22 ((decide (0<i)) == true) (ptr z 0) (Array.getElem?_eq_getElem (show 10<Zu.size by rw[ZG];decide)) (by kernel_rfl) (by decide) (by kernel_rfl) (by kernel_rfl) (by kernel_rfl) (hQ _ _) (Zh (gi:=2) (g:=14) (c:=(decide (0<i))) hF (by kernel_rfl) (by kernel_rfl) rfl) (fun hW w hS=>Zo (T:=89) (x:=.tmp 5) (f:=0) (by kernel_rfl) (hF.ev 5 (ptr z 0) rfl) (by kernel_rfl)) hS (fun a hF=>?_)
 refine hst (i:=11) (o:=Zu[11]'(show 11<Zu.size by rw[ZG];decide)) hF 23 ((decide (0<i)) == true) (.int .u64 ((n.path:Nat):Int)) (Array.getElem?_eq_getElem (show 11<Zu.size by rw[ZG];decide)) (by kernel_rfl) (by decide) (by kernel_rfl) (by kernel_rfl) (by kernel_rfl) (hQ _ _) (Zh (gi:=2) (g:=14) (c:=(decide (0<i))) hF (by kernel_rfl) (by kernel_rfl) rfl) (fun hW w hS=>Ze (ty:=27) (x:=.tmp 22) (by kernel_rfl) ((hF.ev 22 (cond ((decide (0<i)) == true) (ptr z 0) undef) rfl).trans (Zl hW)) (Z1A (Z0 hS.nod 0))) hS (fun a hF=>?_)
 refine hst (i:=12) (o:=Zu[12]'(show 12<Zu.size by rw[ZG];decide)) hF 24 ((decide (0<i)) == true) (.bool (decide (n.path≤pr.path))) (Array.getElem?_eq_getElem (show 12<Zu.size by rw[ZG];decide)) (by kernel_rfl) (by decide) (by kernel_rfl) (by kernel_rfl) (by kernel_rfl) (hQ _ _) (Zh (gi:=2) (g:=14) (c:=(decide (0<i))) hF (by kernel_rfl) (by kernel_rfl) rfl) (fun hW w hS=>ZS (op:=.geq) (ty:=27) (ty2:=27) (x:=.tmp 21) (y:=.tmp 23) (u:=.int .u64 ((pr.path:Nat):Int)) (v:=.int .u64 ((n.path:Nat):Int)) (by kernel_rfl) ((hF.ev 21 (cond ((decide (0<i)) == true) (.int .u64 ((pr.path:Nat):Int)) undef) rfl).trans (Zl hW)) ((hF.ev 23 (cond ((decide (0<i)) == true) (.int .u64 ((n.path:Nat):Int)) undef) rfl).trans (Zl hW)) (by kernel_rfl) (Z5P _ _ w)) hS (fun a hF=>?_)
 refine hst (i:=13) (o:=Zu[13]'(show 13<Zu.size by rw[ZG];decide)) hF 25 true (.bool ((decide (0<i)) && (decide (n.path≤pr.path)))) (Array.getElem?_eq_getElem (show 13<Zu.size by rw[ZG];decide)) (by kernel_rfl) (by decide) (by kernel_rfl) (by kernel_rfl) (by kernel_rfl) (hQ _ _) (Z2 (by kernel_rfl)) (fun hW w hS=>Z2y (z:=.const (.bool false)) (x:=.tmp 14) (c:=(decide (0<i))) (b:=(decide (n.path≤pr.path))) (by kernel_rfl) (hF.ev 14 _ rfl) (hF.ev 24 (cond ((decide (0<i)) == true) (.bool (decide (n.path≤pr.path))) undef) rfl) rfl) hS (fun a hF=>?_)
 rw[show cond true (.bool ((decide (0<i)) && (decide (n.path≤pr.path)))) undef=.bool ((decide (0<i)) && (decide (n.path≤pr.path))) from rfl]at hF
 refine hst (i:=14) (o:=Zu[14]'(show 14<Zu.size by rw[ZG];decide)) hF 26 true (.bool ((decide (0<i)) && (decide (n.path≤pr.path)))) (Array.getElem?_eq_getElem (show 14<Zu.size by rw[ZG];decide)) (by kernel_rfl) (by decide) (by kernel_rfl) (by kernel_rfl) (by kernel_rfl) (hQ _ _) (Z2 (by kernel_rfl)) (fun hW w hS=>Z5 (x:=.tmp 25) (.inl (by kernel_rfl)) (hF.ev 25 (.bool ((decide (0<i)) && (decide (n.path≤pr.path)))) rfl)) hS (fun a hF=>?_)
 rw[show cond true (.bool ((decide (0<i)) && (decide (n.path≤pr.path)))) undef=.bool ((decide (0<i)) && (decide (n.path≤pr.path))) from rfl]at hF
 refine hst (i:=15) (o:=Zu[15]'(show 15<Zu.size by rw[ZG];decide)) hF 27 (((decide (0<i)) && (decide (n.path≤pr.path))) == false) (ptr z 0) (Array.getElem?_eq_getElem (show 15<Zu.size by rw[ZG];decide)) (by kernel_rfl) (by decide) (by kernel_rfl) (by kernel_rfl) (by kernel_rfl) (hQ _ _) (Zh (gi:=14) (g:=26) (c:=((decide (0<i)) && (decide (n.path≤pr.path)))) hF (by kernel_rfl) (by kernel_rfl) rfl) (fun hW w hS=>Zo (T:=89) (x:=.tmp 5) (f:=0) (by kernel_rfl) (hF.ev 5 (ptr z 0) rfl) (by kernel_rfl)) hS (fun a hF=>?_)
 refine hst (i:=16) (o:=Zu[16]'(show 16<Zu.size by rw[ZG];decide)) hF 28 (((decide (0<i)) && (decide (n.path≤pr.path))) == false) (.int .u64 ((n.path:Nat):Int)) (Array.getElem?_eq_getElem (show 16<Zu.size by rw[ZG];decide)) (by kernel_rfl) (by decide) (by kernel_rfl) (by kernel_rfl) (by kernel_rfl) (hQ _ _) (Zh (gi:=14) (g:=26) (c:=((decide (0<i)) && (decide (n.path≤pr.path)))) hF (by kernel_rfl) (by kernel_rfl) rfl) (fun hW w hS=>Ze (ty:=27) (x:=.tmp 27) (by kernel_rfl) ((hF.ev 27 (cond (((decide (0<i)) && (decide (n.path≤pr.path))) == false) (ptr z 0) undef) rfl).trans (Zl hW)) (Z1A (Z0 hS.nod 0))) hS (fun a hF=>?_)
 refine hst (i:=17) (o:=Zu[17]'(show 17<Zu.size by rw[ZG];decide)) hF 29 (((decide (0<i)) && (decide (n.path≤pr.path))) == false) (ptr g 0) (Array.getElem?_eq_getElem (show 17<Zu.size by rw[ZG];decide)) (by kernel_rfl) (by decide) (by kernel_rfl) (by kernel_rfl) (by kernel_rfl) (hQ _ _) (Zh (gi:=14) (g:=26) (c:=((decide (0<i)) && (decide (n.path≤pr.path)))) hF (by kernel_rfl) (by kernel_rfl) rfl) (fun hW w hS=>Zo (T:=30) (x:=.tmp 2) (f:=0) (by kernel_rfl) (hF.ev 2 (ptr g 0) rfl) (by kernel_rfl)) hS (fun a hF=>?_)
 refine hst (i:=18) (o:=Zu[18]'(show 18<Zu.size by rw[ZG];decide)) hF 30 (((decide (0<i)) && (decide (n.path≤pr.path))) == false) (.int .u64 ((x:Nat):Int)) (Array.getElem?_eq_getElem (show 18<Zu.size by rw[ZG];decide)) (by kernel_rfl) (by decide) (by kernel_rfl) (by kernel_rfl) (by kernel_rfl) (hQ _ _) (Zh (gi:=14) (g:=26) (c:=((decide (0<i)) && (decide (n.path≤pr.path)))) hF (by kernel_rfl) (by kernel_rfl) rfl) (fun hW w hS=>Ze (ty:=27) (x:=.tmp 29) (by kernel_rfl) ((hF.ev 29 (cond (((decide (0<i)) && (decide (n.path≤pr.path))) == false) (ptr g 0) undef) rfl).trans (Zl hW)) (Z1A (Z0 hS.box 0))) hS (fun a hF=>?_)
 refine hst (i:=19) (o:=Zu[19]'(show 19<Zu.size by rw[ZG];decide)) hF 31 (((decide (0<i)) && (decide (n.path≤pr.path))) == false) (.bool (decide (x≤n.path))) (Array.getElem?_eq_getElem (show 19<Zu.size by rw[ZG];decide)) (by kernel_rfl) (by decide) (by kernel_rfl) (by kernel_rfl) (by kernel_rfl) (hQ _ _) (Zh (gi:=14) (g:=26) (c:=((decide (0<i)) && (decide (n.path≤pr.path)))) hF (by kernel_rfl) (by kernel_rfl) rfl) (fun hW w hS=>ZS (op:=.geq) (ty:=27) (ty2:=27) (x:=.tmp 28) (y:=.tmp 30) (u:=.int .u64 ((n.path:Nat):Int)) (v:=.int .u64 ((x:Nat):Int)) (by kernel_rfl) ((hF.ev 28 (cond (((decide (0<i)) && (decide (n.path≤pr.path))) == false) (.int .u64 ((n.path:Nat):Int)) undef) rfl).trans (Zl hW)) ((hF.ev 30 (cond (((decide (0<i)) && (decide (n.path≤pr.path))) == false) (.int .u64 ((x:Nat):Int)) undef) rfl).trans (Zl hW)) (by kernel_rfl) (Z5P _ _ w)) hS (fun a hF=>?_)
 refine hst (i:=20) (o:=Zu[20]'(show 20<Zu.size by rw[ZG];decide)) hF 32 true (.bool (((decide (0<i)) && (decide (n.path≤pr.path))) ||(decide (x≤n.path)))) (Array.getElem?_eq_getElem (show 20<Zu.size by rw[ZG];decide)) (by kernel_rfl) (by decide) (by kernel_rfl) (by kernel_rfl) (by kernel_rfl) (hQ _ _) (Z2 (by kernel_rfl)) (fun hW w hS=>Z1j (y:=.const (.bool true)) (x:=.tmp 26) (b:=((decide (0<i)) && (decide (n.path≤pr.path)))) (b':=(decide (x≤n.path))) (by kernel_rfl) (hF.ev 26 _ rfl) rfl (hF.ev 31 (cond (((decide (0<i)) && (decide (n.path≤pr.path))) == false) (.bool (decide (x≤n.path))) undef) rfl)) hS (fun a hF=>?_)
 rw[show cond true (.bool (((decide (0<i)) && (decide (n.path≤pr.path))) ||(decide (x≤n.path)))) undef=.bool (((decide (0<i)) && (decide (n.path≤pr.path))) ||(decide (x≤n.path))) from rfl]at hF
 refine hst (i:=21) (o:=Zu[21]'(show 21<Zu.size by rw[ZG];decide)) hF 11 true (.bool (((decide (0<i)) && (decide (n.path≤pr.path))) ||(decide (x≤n.path)))) (Array.getElem?_eq_getElem (show 21<Zu.size by rw[ZG];decide)) (by kernel_rfl) (by decide) (by kernel_rfl) (by kernel_rfl) (by kernel_rfl) (hQ _ _) (Z2 (by kernel_rfl)) (fun hW w hS=>Z5 (x:=.tmp 32) (.inr (by kernel_rfl)) (hF.ev 32 (.bool (((decide (0<i)) && (decide (n.path≤pr.path))) ||(decide (x≤n.path)))) rfl)) hS (fun a hF=>?_)
 rw[show cond true (.bool (((decide (0<i)) && (decide (n.path≤pr.path))) ||(decide (x≤n.path)))) undef=.bool (((decide (0<i)) && (decide (n.path≤pr.path))) ||(decide (x≤n.path))) from rfl]at hF
 exact wpAnyH_done (by kernel_rfl) (hE _ _ (hF.sub ((11,.bool (((decide (0<i)) && (decide (n.path≤pr.path))) ||(decide (x≤n.path)))) :: [(2,ptr g 0),(1,.int .i64 ((i:Nat):Int)),(5,ptr z 0),(0,v0),(3,v3),(4,v4),(44,v44),(50,v50)]) ⟨rfl,rfl,rfl,rfl,rfl,rfl,rfl,rfl,rfl,trivial⟩) hS) _
end
section
open Go.RowKit
def Ze2 (x i:Nat) (n pr:Nod):Bool:=(((decide (0<i)) && (decide (n.path≤pr.path))) ||(decide (x≤n.path)))
structure PWrOk (x:Nat) (l:List Nod) (i:Nat) (n:Nod):Prop where
 prev:0<i→∀ p,l[i - 1]?=some p→p.path<n.path
 next:n.path<x
 bits:ZV n.mode=true
 empt:ZF n=true→n.data.size=0
 nam:Z4b n=0
 len:n.data.size≤4096
 up:UpOk l i n
theorem Z7p {x i:Nat} {l:List Nod} {n pr:Nod} (hpr:0<i→l[i - 1]?=some pr):Ze2 x i n pr=false↔(0<i→∀ p,l[i - 1]?=some p→p.path<n.path)∧n.path<x:=by
 unfold Ze2
 rw[Bool.or_eq_false_iff]
 have e1:((decide (0<i)) && (decide (n.path≤pr.path)))=false↔(0<i→∀ p,l[i - 1]?=some p→p.path<n.path):=by
  by_cases h0:0<i
  ·rw[hpr h0];simp[h0]
  ·simp[h0]
 rw[e1]
 simp
def Zc7 (w:World) (x:Nat) (l:List Nod) (i:Nat) (n:Nod) (e:Ending) (w':World):Prop:=∃ E:Int,e=.returned (.int .i64 E)∧(E=0↔PWrOk x l i n)∧Below w.heap.size w w'
theorem Z6o {w w':World} {x i:Nat} {l:List Nod} {n:Nod} (E:Int) (hE:E≠0) (h:¬ PWrOk x l i n) (hb:Below w.heap.size w w'):Zc7 w x l i n (.returned (.int .i64 E)) w':=⟨E,rfl,⟨fun h1=>absurd h1 hE,fun h1=>absurd h1 h⟩,hb⟩
set_option maxHeartbeats 6400000 in
theorem Z83 (v:Value) (x:Nat) (l:List Nod) (i:Nat) (n:Nod) (w:World) (hv:Z3 w v l) (hl:l.length≤900) (hin:l[i]?=some n) (hok : ∀ n∈l,NodOk n) (hds : ∀ n∈l,n.data.size≤1000000) :
  Calls Tryz.prog 135 #[.agg #[.int .u64 (x:Int),v],.int .i64 (i:Int)] w (Zc7 w x l i n):=by
 obtain⟨a,c,rfl,g1,g2⟩:=hv.form
 unfold maxLen at g2
 have mixed:Tryz.prog.follows Departure.mixedOrders=true:=by first | kernel_rfl | decide
 obtain⟨W,hW⟩ : ∃ W,W=w.alloc (.cells #[.int .u64 (x:Int),.slice a l.length c] 30):=⟨_,rfl⟩
 have hb0:Below w.heap.size w W:=by rw[hW];exact(Below.refl w.heap.size w).alloc (Nat.le_refl _) _
 have hX0:W.heap[w.heap.size]?=some (.cells #[.int .u64 (x:Int),.slice a l.length c] 30 (0,0)):=by rw[hW,heap_alloc_new]
 obtain⟨hi,hne⟩:=List.getElem?_eq_some_iff.1 hin
 obtain⟨b,o,ha,hr⟩:=(hv.below hb0).range i hi
 subst ha
 have hiz:(i:Int)<(l.length:Int):=by omega
 rw[hne]at hr
 have hnok:=hid (hok n (List.mem_of_getElem? hin))
 have hnd:=hid (hds n (List.mem_of_getElem? hin))
 replace hin:=hid hin
 clear hne
 have hnew:=hid (heap_alloc_new W (.cells Zk.cells 89))
 obtain⟨V,hV⟩ : ∃ V,V=Z1J W n:=⟨_,rfl⟩
 have hbV:Below W.heap.size W V:=by rw[hV];exact ZD _ _
 have hN:=hid (show V.heap[W.heap.size]?=some (.cells n.cells 89 (0,0)) by rw[hV];exact ZK _ _)
 have hX:=hid ((hbV.block _ (lt_of_block hX0)).trans hX0)
 have hBV:=sn hb0 hbV
 have hS:=hid (show PwS w.heap.size w.heap.size W.heap.size b o x c l n w V from⟨hBV,hX.out,hN.out,hv.below hBV,hBV.size⟩)
 have e1:=Z0 hX0 1
 unfold Z1J at hV
 rw[Zc]at hV hnew
 replace hr:=hid hr
 obtain⟨pr,hpr⟩ : ∃ pr,0<i→l[i - 1]?=some pr:=⟨l[i - 1]'(by omega),fun _=>List.getElem?_eq_getElem _⟩
 replace hpr:=hid hpr
 obtain⟨bA,hbA⟩ : ∃ bA,bA=Ze2 x i n pr:=⟨_,rfl⟩
 replace hbA:=hid hbA
 replace hv:=hid hv
 clear hbV hX0 hb0 hN hX hBV
 go_enter Tryz.func135,Tryz.ntmps135
 go_upto_region 2 with (first
  |(rw[←hW];replace hW:=hid hW)
  |(refine Zx (by rfl) 89 (.tmp 9) (by rfl) b (o+i * 12) (by rfl) n.cells _ hr.out Tryz.underlying89 (by rfl) (by kernel_rfl) ?_)
  |(refine wpList_store_row (by rfl) 89 (.tmp 5) (.tmp 10) (by rfl) W.heap.size n.cells (by rfl) (by rfl) 89 _ hnew.out (by kernel_rfl) (by kernel_rfl) (Zw n) ?_)
  |(rw[←hV];replace hV:=hid hV))
 try (rw[←hV];replace hV:=hid hV)
 try simp only[Act.put]
 clear hnew e1
 generalize W.heap.size=z at *
 go_cut [11] (fun s11 wx=>s11=.bool bA∧Hid (PwS w.heap.size w.heap.size z b o x c l n w wx))
 case first=>as_aux_lemma =>
  rename_i J K' hJ hK
  refine wp_region_noPanic ?_
  refine wp_region_held (S:=(PwS w.heap.size w.heap.size z b o x c l n w)) mixed ?_
  refine(show wpAnyH Tryz.prog .any Zu _ _ _ _ _ _→_ from fun h=>h) ?_
  refine ZcP (x:=x) (i:=i) (l:=l) (n:=n) (w0:=w) (B:=w.heap.size) (g:=w.heap.size) (z:=z) (b:=b) (f:=o) (c:=c) (by omega) hi hpr.out (fun _ _ _ _ _ h=>h) (FrL.of_all (by rfl) rfl ⟨rfl,rfl,rfl,rfl,rfl,rfl,rfl,rfl,trivial⟩) hS.out.drew (fun a w' hF hS=>?_)
  have hE:=hbA.out
  unfold Ze2 at hE
  rw[←hE]at hF
  exact hK _ _ (Met.intro (hJ _ _ ⟨a.tmps.getD 6 undef,a.tmps.getD 7 undef,a.tmps.getD 8 undef,a.tmps.getD 9 undef,a.tmps.getD 10 undef,.bool bA,a.tmps.getD 12 undef,a.tmps.getD 13 undef,a.tmps.getD 14 undef,a.tmps.getD 15 undef,a.tmps.getD 16 undef,a.tmps.getD 17 undef,a.tmps.getD 18 undef,a.tmps.getD 19 undef,a.tmps.getD 20 undef,a.tmps.getD 21 undef,a.tmps.getD 22 undef,a.tmps.getD 23 undef,a.tmps.getD 24 undef,a.tmps.getD 25 undef,a.tmps.getD 26 undef,a.tmps.getD 27 undef,a.tmps.getD 28 undef,a.tmps.getD 29 undef,a.tmps.getD 30 undef,a.tmps.getD 31 undef,a.tmps.getD 32 undef,a.tmps.getD 33 undef,a.tmps.getD 34 undef,a.tmps.getD 35 undef,a.tmps.getD 36 undef,a.tmps.getD 37 undef,a.tmps.getD 38 undef,a.tmps.getD 39 undef,a.tmps.getD 40 undef,a.tmps.getD 41 undef,a.tmps.getD 42 undef,a.tmps.getD 43 undef,a.tmps.getD 45 undef,a.tmps.getD 46 undef,a.tmps.getD 47 undef,a.tmps.getD 48 undef,a.tmps.getD 49 undef,a.tmps.getD 51 undef,a.tmps.getD 52 undef,a.tmps.getD 53 undef,a.tmps.getD 54 undef,a.tmps.getD 55 undef,a.tmps.getD 56 undef,a.tmps.getD 57 undef,⟨rfl,hid hS⟩,Z1n hF _ (by rfl) ⟨hF.get 0 _ rfl,hF.get 1 _ rfl,hF.get 2 _ rfl,hF.get 3 _ rfl,hF.get 4 _ rfl,hF.get 5 _ rfl,hF.any 6 (by decide),hF.any 7 (by decide),hF.any 8 (by decide),hF.any 9 (by decide),hF.any 10 (by decide),hF.get 11 _ rfl,hF.any 12 (by decide),hF.any 13 (by decide),hF.any 14 (by decide),hF.any 15 (by decide),hF.any 16 (by decide),hF.any 17 (by decide),hF.any 18 (by decide),hF.any 19 (by decide),hF.any 20 (by decide),hF.any 21 (by decide),hF.any 22 (by decide),hF.any 23 (by decide),hF.any 24 (by decide),hF.any 25 (by decide),hF.any 26 (by decide),hF.any 27 (by decide),hF.any 28 (by decide),hF.any 29 (by decide),hF.any 30 (by decide),hF.any 31 (by decide),hF.any 32 (by decide),hF.any 33 (by decide),hF.any 34 (by decide),hF.any 35 (by decide),hF.any 36 (by decide),hF.any 37 (by decide),hF.any 38 (by decide),hF.any 39 (by decide),hF.any 40 (by decide),hF.any 41 (by decide),hF.any 42 (by decide),hF.any 43 (by decide),hF.get 44 _ rfl,hF.any 45 (by decide),hF.any 46 (by decide),hF.any 47 (by decide),hF.any 48 (by decide),hF.any 49 (by decide),hF.get 50 _ rfl,hF.any 51 (by decide),hF.any 52 (by decide),hF.any 53 (by decide),hF.any 54 (by decide),hF.any 55 (by decide),hF.any 56 (by decide),hF.any 57 (by decide),trivial⟩⟩))
 case rest =>
  clear hS
  obtain⟨rfl,hS⟩:=hcut
  cases bA with
  | true =>
   have hR:=hid (show ¬ PWrOk x l i n from fun h=>by
    have:=(Z7p (x:=x) (l:=l) hpr.out).2 ⟨h.prev,h.next⟩
    rw[←hbA.out]at this;cases this)
   go_wp2_with fail
   go_ret
   exact Z6o 1 (by omega) hR.out hS.out.bel
  | false =>
   have hb2:=hid ((Z7p (x:=x) (l:=l) hpr.out).1 hbA.out.symm)
   clear hbA
   have z2:wc.cell? ⟨z,2,none⟩=some (.int .u32 (n.mode:Int)):=Z0 hS.out.nod 2
   have hbits:=hid (Z68 n.mode wc hnok.out.mode)
   go_wp2_with fail
   refine hbits.out.mono ?_
   rintro e w2 ⟨rfl,hw2⟩
   subst hw2
   clear hbits
   cases hbm:ZV n.mode with
   | false =>
    have hR:=hid (show ¬ PWrOk x l i n from fun h=>by rw[h.bits]at hbm;cases hbm)
    go_wp2_with fail
    go_ret
    exact Z6o 1 (by omega) hR.out hS.out.bel
   | true =>
    replace hbm:=hid hbm
    have hdir:=hid (Z3E n w2 hnok.out)
    obtain⟨bD,hbD⟩ : ∃ bD,bD=ZF n:=⟨_,rfl⟩
    rw[←hbD]at hdir
    replace hbD:=hid hbD
    have hN:=hid hS.out.nod
    clear z2
    go_wp2_with (refine wpList_load_row (by rfl) 89 (.tmp 5) (by rfl) z (by rfl) 89 n.cells (0,0) _ hN.out Tryz.underlying89 (by rfl) (by kernel_rfl) ?_)
    refine hdir.out.mono ?_
    rintro e w3 ⟨rfl,hb3⟩
    have hS3:=hid (hS.out.next hb3)
    have hN3:=hid hS3.out.nod
    have z11:w3.cell? ⟨z,11,none⟩=some (.string n.data):=Z0 hN3.out 11
    clear hb3 hdir hS hN
    have hcase:(bD=true∧n.data.size≠0)∨((bD=true→n.data.size=0)∧(bD=false∨n.data.size=0)):=by
     cases bD
     ·exact .inr ⟨fun h=>(by cases h),.inl rfl⟩
     ·by_cases h:n.data.size=0
      ·exact .inr ⟨fun _=>h,.inr h⟩
      ·exact .inl ⟨rfl,h⟩
    rcases hcase with ⟨hb,hd⟩ |⟨hem,hor⟩
    ·subst hb
     have hR:=hid (show ¬ PWrOk x l i n from fun h=>hd (h.empt hbD.out.symm))
     obtain⟨d1,d2⟩:=Z4l (Nat.pos_of_ne_zero hd)
     clear hd
     go_wp2_with fail
     go_ret
     exact Z6o 1 (by omega) hR.out hS3.out.bel
    have hem2:=hid (show ZF n=true→n.data.size=0 from fun h=>hem (hbD.out.trans h))
    have hnm:=hid (Z5f n w3 hnok.out)
    clear hem
    replace hbD:=hid hbD.out
    have hgo:(bD=false)∨(bD=true∧n.data.toList.isEmpty=true∧(!n.data.toList.isEmpty)=false):=by
     rcases hor with h | h
     ·exact .inl h
     ·cases bD
      ·exact .inl rfl
      ·exact .inr ⟨rfl,Z3w h⟩
    clear hor
    rcases hgo with hb |⟨hb,d1,d2⟩
    all_goals
     subst hb
     go_wp2_with (refine wpList_load_row (by rfl) 89 (.tmp 5) (by rfl) z (by rfl) 89 n.cells (0,0) _ hN3.out Tryz.underlying89 (by rfl) (by kernel_rfl) ?_)
     refine hnm.out.mono ?_
     rintro e w4 ⟨rfl,hb4⟩
     have hS4:=hid (hS3.out.next hb4)
     have hN4:=hid hS4.out.nod
     clear hb4 hS3 hN3 z11 hnm
     by_cases hne:Z4b n=0
     ·have k1:(Z4b n != 0)=false:=by rw[hne];rfl
      have z11:w4.cell? ⟨z,11,none⟩=some (.string n.data):=Z0 hN4.out 11
      have e0:=Z0 hS4.out.box 0
      have e1:=Z0 hS4.out.box 1
      replace hne:=hid hne
      by_cases hlen:4096<n.data.size
      ·have q1:(4096:Int)<(n.data.size:Int):=by omega
       go_wp2_with fail
       go_ret
       exact Z6o 3 (by omega) (fun hw=>by have:=hw.len;omega) hS4.out.bel
      have q1:¬ (4096:Int)<(n.data.size:Int):=by omega
      have hup:=hid (ZcO _ x l i n w4 hS4.out.row hl hin.out hok)
      replace hlen:=hid hlen
      go_wp2_with fail
      refine hup.out.mono ?_
      rintro e w5 ⟨E,rfl,hE,hb5⟩
      have hS5:=hid (hS4.out.next hb5)
      have hR:=hid (show E=0↔PWrOk x l i n from⟨fun h=>⟨hb2.out.1,hb2.out.2,hbm.out,hem2.out,hne.out,by have:=hlen.out;omega,hE.1 h⟩,fun h=>hE.2 h.up⟩)
      clear hE hb5 hup
      go_wp2_with fail
      go_ret
      exact⟨E,rfl,hR.out,hS5.out.bel⟩
     ·have k1:(Z4b n != 0)=true:=by simpa using hne
      have hR:=hid (show ¬ PWrOk x l i n from fun h=>hne h.nam)
      have hnm:=hid (Z5f n w4 hnok.out)
      replace hne:=hid hne
      go_wp2_with (refine wpList_load_row (by rfl) 89 (.tmp 5) (by rfl) z (by rfl) 89 n.cells (0,0) _ hN4.out Tryz.underlying89 (by rfl) (by kernel_rfl) ?_)
      refine hnm.out.mono ?_
      rintro e w5 ⟨rfl,hb5⟩
      have hS5:=hid (hS4.out.next hb5)
      clear hb5 hnm
      go_wp2_with fail
      go_ret
      exact Z6o _ hne.out hR.out hS5.out.bel
end
end Go.Proofs.YtkefjeabckainaaGreat
