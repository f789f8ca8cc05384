/- Trees as lists of nodes: looking up, setting, dropping; what a tree must be to be valid. Plain. And the texts behind it. -/
import Derived.Test.YtkefjeabckainaaGreatFtB03
import Derived.Test.YtkefjeabckainaaGreatFtB01
import Derived.Test.YtkefjeabckainaaGreatFtB02
import Derived.Laws.BitsAllLaws
namespace Go.Proofs.YtkefjeabckainaaGreat
set_option maxRecDepth 100000
set_option linter.unusedVariables false
section
def Z1m (d:Nat) (n:Nod):Bool:=!n.gone && decide (n.path≠1) && decide (n.up=d)
def ZM (l:List Nod) (p:Nat):Option Nod:=l.find? fun n=>decide (n.path=p)
def Z1F (l:List Nod) (d:Nat) (s:ByteArray):Option Nod:=l.find? fun n=>Z1m d n && decide (n.name=s)
def Z1B (l:List Nod) (x:Nod):List Nod:=l.filter (fun n=>decide (n.path<x.path))++x :: l.filter (fun n=>decide (x.path<n.path))
def Z1G (l:List Nod) (p:Nat):List Nod:=l.filter fun n=>decide (n.path≠p)
def Z10 (l:List Nod):Nat:=(l.map (·.data.size)).sum
def Z16 (l:List Nod):Prop:=l.Pairwise fun a b=>a.path<b.path
def Z1r (l:List Nod) (d:Nat):List Nod:=l.filter (Z1m d)
def Z1w (l:List Nod):Nat→Nat→Option (List ByteArray)
 | 0,_=>none
 | k+1,p=>if p=1 then some [] else match ZM l p with
  | none=>none
  | some n=>if n.gone then none else(Z1w l k n.up).map (n.name :: ·)
theorem Z16.tail {a:Nod} {l:List Nod} (h:Z16 (a :: l)):Z16 l:=(List.pairwise_cons.1 h).2
theorem Z16.head {a:Nod} {l:List Nod} (h:Z16 (a :: l)) : ∀ b∈l,a.path<b.path:=(List.pairwise_cons.1 h).1
theorem Z16.filter {l:List Nod} (h:Z16 l) (p:Nod→Bool):Z16 (l.filter p):=List.Pairwise.filter p h
theorem Z16.inj {l:List Nod} (h:Z16 l) : ∀ {a b:Nod},a∈l→b∈l→a.path=b.path→a=b:=by
 induction l with
 | nil=>intro a b ha;cases ha
 | cons c l ih =>
  intro a b ha hb he
  rcases List.mem_cons.1 ha with ha | ha <;> rcases List.mem_cons.1 hb with hb | hb
  ·rw[ha,hb]
  ·have:=h.head b hb;rw[ha]at he;omega
  ·have:=h.head a ha;rw[hb]at he;omega
  ·exact ih h.tail ha hb he
theorem Zr {l:List Nod} {p:Nat} {n:Nod} (h:ZM l p=some n):n∈l∧n.path=p:=by
 have h1:=List.find?_some h
 exact⟨List.mem_of_find?_eq_some h,by simpa using h1⟩
theorem Z1X {l:List Nod} {p:Nat}:ZM l p=none↔∀ n∈l,n.path≠p:=by
 unfold ZM;rw[List.find?_eq_none];simp
theorem Z3U {l:List Nod} (h:Z16 l) {n:Nod} (hn:n∈l):ZM l n.path=some n:=by
 cases hg:ZM l n.path with
 | none=>exact absurd rfl (Z1X.1 hg n hn)
 | some m =>
  obtain⟨h1,h2⟩:=Zr hg
  rw[h.inj h1 hn h2]
theorem Z39 {l:List Nod} (h:Z16 l) {p:Nat} {n:Nod}:ZM l p=some n↔n∈l∧n.path=p :=
 ⟨Zr,fun⟨h1,h2⟩=>by rw[←h2];exact Z3U h h1⟩
theorem Z57 {l:List Nod} {d:Nat} {s:ByteArray} {n:Nod} (h:Z1F l d s=some n):n∈l∧Z1m d n=true∧n.name=s:=by
 have h1:=List.find?_some h
 simp only[Bool.and_eq_true,decide_eq_true_eq]at h1
 exact⟨List.mem_of_find?_eq_some h,h1.1,h1.2⟩
theorem Z58 {l:List Nod} {d:Nat} {s:ByteArray}:Z1F l d s=none↔∀ n∈l,Z1m d n=true→n.name≠s:=by
 unfold Z1F;rw[List.find?_eq_none]
 simp only[Bool.and_eq_true,decide_eq_true_eq,not_and]
theorem ZA {l:List Nod} {x n:Nod}:n∈Z1B l x↔n=x∨(n∈l∧n.path≠x.path):=by
 unfold Z1B
 simp only[List.mem_append,List.mem_filter,List.mem_cons,decide_eq_true_eq]
 constructor
 ·rintro(⟨h1,h2⟩ | h |⟨h1,h2⟩)
  ·exact .inr ⟨h1,by omega⟩
  ·exact .inl h
  ·exact .inr ⟨h1,by omega⟩
 ·rintro(h |⟨h1,h2⟩)
  ·exact .inr (.inl h)
  ·rcases Nat.lt_or_gt_of_ne h2 with h | h
   ·exact .inl ⟨h1,h⟩
   ·exact .inr (.inr ⟨h1,h⟩)
theorem Z1x {l:List Nod} {p:Nat} {n:Nod}:n∈Z1G l p↔n∈l∧n.path≠p:=by
 unfold Z1G;simp[List.mem_filter]
theorem Z16.set {l:List Nod} (h:Z16 l) (x:Nod):Z16 (Z1B l x):=by
 refine List.pairwise_append.2 ⟨h.filter _,List.pairwise_cons.2 ⟨fun b hb=>by simpa using (List.mem_filter.1 hb).2,h.filter _⟩,fun a ha b hb=>?_⟩
 have h1:a.path<x.path:=by simpa using (List.mem_filter.1 ha).2
 rcases List.mem_cons.1 hb with e | hb
 ·rw[e];exact h1
 ·have h2:x.path<b.path:=by simpa using (List.mem_filter.1 hb).2
  omega
theorem Z16.drop {l:List Nod} (h:Z16 l) (p:Nat):Z16 (Z1G l p):=h.filter _
theorem Z5x {l:List Nod} (h:Z16 l) (x:Nod) (p:Nat):ZM (Z1B l x) p=if p=x.path then some x else ZM l p:=by
 by_cases e:p=x.path
 ·rw[if_pos e,e]
  exact Z3U (h.set x) (ZA.2 (.inl rfl))
 ·rw[if_neg e]
  cases hg:ZM l p with
  | none =>
   rw[Z1X]at hg ⊢
   intro n hn
   rcases ZA.1 hn with hh |⟨hh,_⟩
   ·rw[hh];exact fun a=>e a.symm
   ·exact hg n hh
  | some n =>
   obtain⟨h1,h2⟩:=Zr hg
   exact(Z39 (h.set x)).2 ⟨ZA.2 (.inr ⟨h1,by rw[h2];exact e⟩),h2⟩
theorem Z2G {l:List Nod} (h:Z16 l) (p:Nat):l=l.filter (fun n=>decide (n.path<p))++l.filter (fun n=>decide (n.path=p))++l.filter (fun n=>decide (p<n.path)):=by
 induction l with
 | nil=>rfl
 | cons a l ih =>
  have h1:=h.head
  rcases Nat.lt_trichotomy a.path p with hh | hh | hh
  ·rw[List.filter_cons_of_pos (by simpa using hh),List.filter_cons_of_neg (by simp;omega),List.filter_cons_of_neg (by simp;omega)]
   conv=>lhs;rw[ih h.tail]
   simp
  ·have e1:l.filter (fun n=>decide (n.path<p))=[]:=List.filter_eq_nil_iff.2 fun b hb=>by have:=h1 b hb;simp;omega
   have e2:l.filter (fun n=>decide (n.path=p))=[]:=List.filter_eq_nil_iff.2 fun b hb=>by have:=h1 b hb;simp;omega
   have e3:l.filter (fun n=>decide (p<n.path))=l:=List.filter_eq_self.2 fun b hb=>by have:=h1 b hb;simp;omega
   rw[List.filter_cons_of_neg (by simp;omega),List.filter_cons_of_pos (by simpa using hh),List.filter_cons_of_neg (by simp;omega),e1,e2,e3]
   rfl
  ·have e1:l.filter (fun n=>decide (n.path<p))=[]:=List.filter_eq_nil_iff.2 fun b hb=>by have:=h1 b hb;simp;omega
   have e2:l.filter (fun n=>decide (n.path=p))=[]:=List.filter_eq_nil_iff.2 fun b hb=>by have:=h1 b hb;simp;omega
   have e3:l.filter (fun n=>decide (p<n.path))=l:=List.filter_eq_self.2 fun b hb=>by have:=h1 b hb;simp;omega
   rw[List.filter_cons_of_neg (by simp;omega),List.filter_cons_of_neg (by simp;omega),List.filter_cons_of_pos (by simpa using hh),e1,e2,e3]
   rfl
def Z14 (l:List Nod) (p:Nat):Nat:=(l.filter fun n=>decide (n.path<p)).length
theorem Z3y {l:List Nod} (h:Z16 l) (p i:Nat) (hi:i<l.length):(l[i].path<p↔i<Z14 l p):=by
 have e:=Z2G h p
 unfold Z14
 generalize hA:l.filter (fun n=>decide (n.path<p))=A at *
 generalize hB:l.filter (fun n=>decide (n.path=p))=B at *
 generalize hC:l.filter (fun n=>decide (p<n.path))=C at *
 subst e
 constructor
 ·intro hlt
  by_cases hh:i<A.length
  ·exact hh
  ·exfalso
   have hm:(A++B++C)[i]∈B++C:=by
    rw[show(A++B++C)[i]=(B++C)[i - A.length]'(by simp at hi ⊢;omega) by simp only[List.append_assoc];rw[List.getElem_append_right (by omega)]]
    exact List.getElem_mem _
   generalize (A++B++C)[i]=n at hm hlt
   rcases List.mem_append.1 hm with hm | hm
   ·rw[←hB]at hm;have:=(List.mem_filter.1 hm).2;simp at this;omega
   ·rw[←hC]at hm;have:=(List.mem_filter.1 hm).2;simp at this;omega
 ·intro hh
  have hm:(A++B++C)[i]∈A:=by
   rw[show(A++B++C)[i]=A[i] by simp only[List.append_assoc];rw[List.getElem_append_left hh]]
   exact List.getElem_mem _
  generalize (A++B++C)[i]=n at hm
  rw[←hA]at hm
  simpa using (List.mem_filter.1 hm).2
theorem Z8N (l:List Nod) (p:Nat):Z14 l p≤l.length:=List.length_filter_le _ _
theorem Z4a {l:List Nod} (h:Z16 l) (p:Nat):l.filter (fun n=>decide (n.path<p))=l.take (Z14 l p):=by
 have e:=congrArg (fun z=>z.take (Z14 l p)) (Z2G h p)
 simp only[List.append_assoc]at e
 rw[e]
 unfold Z14
 rw[List.take_left]
theorem Z59 {l:List Nod} (h:Z16 l) (p:Nat):l.drop (Z14 l p)=l.filter (fun n=>decide (n.path=p))++l.filter (fun n=>decide (p<n.path)):=by
 have e:=congrArg (fun z=>z.drop (Z14 l p)) (Z2G h p)
 simp only[List.append_assoc]at e
 rw[e]
 unfold Z14
 rw[List.drop_left]
theorem Z8O {l:List Nod} (h:Z16 l) (p:Nat):ZM l p=(match l[Z14 l p]? with | some n=>if n.path=p then some n else none | none=>none):=by
 cases hq:l[Z14 l p]? with
 | none =>
  rw[Z1X]
  intro n hn
  obtain⟨i,hi,rfl⟩:=List.mem_iff_getElem.1 hn
  have:=List.getElem?_eq_none_iff.1 hq
  have hlt:=(Z3y h p i hi).2 (by omega)
  omega
 | some m =>
  obtain⟨hi,hm⟩:=List.getElem?_eq_some_iff.1 hq
  have hge:¬ m.path<p:=fun hh=>by rw[←hm]at hh;have:=(Z3y h p _ hi).1 hh;omega
  simp only
  by_cases e:m.path=p
  ·rw[if_pos e,←e];exact Z3U h (by rw[←hm];exact List.getElem_mem _)
  ·rw[if_neg e,Z1X]
   intro n hn hp
   obtain⟨i,hi2,rfl⟩:=List.mem_iff_getElem.1 hn
   have h1:¬ i<Z14 l p:=fun hh=>by have:=(Z3y h p i hi2).2 hh;omega
   by_cases hii:i=Z14 l p
   ·subst hii;rw[hm]at hp;exact e hp
   ·have:=List.pairwise_iff_getElem.1 h (Z14 l p) i hi hi2 (by omega)
    rw[hm]at this;omega
theorem Zck {l:List Nod} (h:Z16 l) (x:Nod) (hi:Z14 l x.path<l.length) (he:l[Z14 l x.path].path=x.path):Z1B l x=l.set (Z14 l x.path) x:=by
 have e:=Z2G h x.path
 have hb:=Z4a h x.path
 have hd:=Z59 h x.path
 have h1:l.filter (fun n=>decide (n.path=x.path))=[l[Z14 l x.path]]:=by
  have hmem:l[Z14 l x.path]∈l.filter (fun n=>decide (n.path=x.path)):=List.mem_filter.2 ⟨List.getElem_mem _,by simpa using he⟩
  generalize hB:l.filter (fun n=>decide (n.path=x.path))=B at *
  have hs:Z16 B:=by rw[←hB];exact h.filter _
  match B,hmem,hs with
  | [b],hm,_=>rw[List.mem_singleton.1 hm]
  | b :: c :: r,hm,hs =>
   have hb1:b.path=x.path:=by
    have:b∈l.filter (fun n=>decide (n.path=x.path)):=by rw[hB];simp
    simpa using (List.mem_filter.1 this).2
   have hc1:c.path=x.path:=by
    have:c∈l.filter (fun n=>decide (n.path=x.path)):=by rw[hB];simp
    simpa using (List.mem_filter.1 this).2
   have:=hs.head c (by simp);omega
 rw[h1]at hd
 unfold Z1B
 rw[hb,List.set_eq_take_append_cons_drop,if_pos hi]
 congr 2
 rw[←List.drop_drop (j:=Z14 l x.path) (i:=1),hd]
 rfl
theorem ZaB {l:List Nod} (h:Z16 l) (x:Nod) (he:ZM l x.path=none):Z1B l x=l.take (Z14 l x.path)++x :: l.drop (Z14 l x.path):=by
 have e:=Z2G h x.path
 have hb:=Z4a h x.path
 have h1:l.filter (fun n=>decide (n.path=x.path))=[]:=List.filter_eq_nil_iff.2 fun b hb=>by simpa using Z1X.1 he b hb
 have hd:=Z59 h x.path
 rw[h1,List.nil_append]at hd
 unfold Z1B
 rw[hb,hd]
end
section
structure Tr where
 next:Nat
 n:List Nod
def Z3z:ByteArray:=⟨#[47]⟩
def Z69 (n:Nod):Bool:=!decide (n.mode &&& 1073741824=0)
def ZW (x:Nod) (who:ByteArray) (now:Nat):Nod:={x with vers:=(x.vers+1) % 4294967296,mtm:=now,muid:=who}
def Zdy (p mode now:Nat) (name uid gid:ByteArray) (d:Nat):Nod:=⟨p,0,mode,now,now,name,uid,gid,uid,d,false,⟨#[]⟩⟩
def Z50 (l:List UInt8) (n:Nat):List UInt8:=(l++List.replicate (n - l.length) 0).take n
theorem Z21 (l:List UInt8) (n:Nat):(Z50 l n).length=n:=by unfold Z50;simp;omega
def ZaC (d:ByteArray) (off:Nat) (b:ByteArray):ByteArray:=Z3t (Z50 d.data.toList off++b.data.toList++d.data.toList.drop (off+b.size))
def Z2n (t:Tr) (x:Nod) (b:ByteArray) (who:ByteArray) (now:Nat):Tr×Nat :=
 if 16384<Z10 t.n - x.data.size+b.size then(t,14) else(⟨t.next,Z1B t.n {ZW x who now with data:=b}⟩,0)
def Z11 (t:Tr) (d:Nat) (name:ByteArray) (mode:Nat) (uid gid:ByteArray) (now:Nat):Tr×Nat×Nat :=
 match ZM t.n d with
 | none=>(t,0,6)
 | some x=>if ZF x=false then(t,0,13) else if x.gone then(t,0,6) else if ZJ name≠0 then(t,0,ZJ name) else if (Z1F t.n d name).isSome then(t,0,7) else if 64≤t.n.length then(t,0,14)
  else(⟨t.next+1,Z1B (Z1B t.n (ZW x uid now)) (Zdy t.next mode now name uid gid d)⟩,t.next,0)
def Z3V (t:Tr) (p off:Nat) (b who:ByteArray) (now:Nat):Tr×Nat :=
 match ZM t.n p with
 | none=>(t,6)
 | some x=>if ZF x then(t,12) else
  let o:=if Z69 x then x.data.size else off
  if 4096<o∨4096 - o<b.size then(t,3) else if b.size=0 then(t,0) else Z2n t x (ZaC x.data o b) who now
def Z2e (t:Tr) (p size:Nat) (who:ByteArray) (now:Nat):Tr×Nat :=
 match ZM t.n p with
 | none=>(t,6)
 | some x=>if ZF x then(t,12) else if 4096<size then(t,3) else Z2n t x (Z3t (Z50 x.data.data.toList size)) who now
def Z2O (t:Tr) (p off k now:Nat):Tr×ByteArray×Nat :=
 match ZM t.n p with
 | none=>(t,⟨#[]⟩,6)
 | some x=>if ZF x then(t,⟨#[]⟩,12) else(⟨t.next,Z1B t.n {x with atm:=now}⟩,Z3t ((x.data.data.toList.drop off).take k),0)
def Z3A (x:Nod):Nod:={x with gone:=true,up:=0}
def ZQ (t:Tr) (p:Nat) (who:ByteArray) (now:Nat):Tr×Nat :=
 match ZM t.n p with
 | none=>(t,6)
 | some x=>if p=1 then(t,5) else if x.gone then(t,6) else if Z1r t.n p≠[] then(t,15) else
  match ZM t.n x.up with
  | none=>(⟨t.next,Z1B t.n (Z3A x)⟩,0)
  | some d=>(⟨t.next,Z1B (Z1B t.n (Z3A x)) (ZW d who now)⟩,0)
def Z1O (t:Tr) (p:Nat):Tr×Bool :=
 match ZM t.n p with
 | none=>(t,false)
 | some x=>if x.gone then(⟨t.next,Z1G t.n p⟩,true) else(t,false)
inductive Leads (l:List Nod):Nat→Prop
 | root:Leads l 1
 | up {p:Nat} {n:Nod} (h:ZM l p=some n) (hg:n.gone=false) (hu:Leads l n.up):Leads l p
theorem Z4w {l:List Nod} : ∀ (k p:Nat),(Z1w l k p).isSome=true→Leads l p
 | 0,_,h=>by cases h
 | k+1,p,h=>by
  unfold Z1w at h
  by_cases e:p=1
  ·rw[e];exact .root
  ·rw[if_neg e]at h
   cases hg:ZM l p with
   | none=>rw[hg]at h;cases h
   | some n =>
    rw[hg]at h
    simp only at h
    cases hq:n.gone with
    | true=>rw[hq,if_pos rfl]at h;cases h
    | false =>
     rw[hq,if_neg (by simp),Option.isSome_map]at h
     exact .up hg hq (Z4w k _ h)
theorem Z8P {l:List Nod} {p:Nat} (h:Leads l p) : ∃ k,(Z1w l k p).isSome=true:=by
 induction h with
 | root=>exact⟨1,rfl⟩
 | @up p n hg hq _ ih =>
  obtain⟨k,hk⟩:=ih
  refine⟨k+1,?_⟩
  unfold Z1w
  by_cases e:p=1
  ·rw[if_pos e];rfl
  ·rw[if_neg e,hg]
   simp only
   rw[hq,if_neg (by simp),Option.isSome_map];exact hk
theorem Z3a {l:List Nod} : ∀ (k k' p:Nat) {o:List ByteArray},Z1w l k p=some o→k≤k'→Z1w l k' p=some o
 | 0,_,_,_,h,_=>by cases h
 | k+1,0,_,_,_,hk=>by omega
 | k+1,k'+1,p,o,h,hk=>by
  unfold Z1w at h ⊢
  by_cases e:p=1
  ·rw[if_pos e]at h ⊢;exact h
  ·rw[if_neg e]at h ⊢
   cases hg:ZM l p with
   | none=>rw[hg]at h;cases h
   | some n =>
    rw[hg]at h
    simp only at h ⊢
    cases hq:n.gone with
    | true=>rw[hq,if_pos rfl]at h;cases h
    | false =>
     rw[hq,if_neg (by simp)]at h
     rw[if_neg (by simp)]
     obtain⟨o',ho,rfl⟩:=Option.map_eq_some_iff.1 h
     rw[Z3a k k' _ ho (by omega)];rfl
theorem Z7c {l:List Nod} {k k' p:Nat} {o o':List ByteArray} (h:Z1w l k p=some o) (h':Z1w l k' p=some o'):o=o':=by
 have a:=Z3a k (max k k') p h (Nat.le_max_left _ _)
 have b:=Z3a k' (max k k') p h' (Nat.le_max_right _ _)
 rw[a]at b;exact Option.some.inj b
theorem Z4x : ∀ (ps qs:List Nat),ps.Nodup→(∀ x∈ps,x∈qs)→ps.length≤qs.length
 | [],_,_,_=>Nat.zero_le _
 | p :: ps,qs,hn,hs=>by
  obtain⟨h1,h2⟩:=List.nodup_cons.1 hn
  have hm:=hs p (by simp)
  have:=Z4x ps (qs.erase p) h2 fun x hx=>(List.mem_erase_of_ne (fun e=>h1 (by rw[←e];exact hx))).2 (hs x (by simp[hx]))
  rw[List.length_erase_of_mem hm]at this
  have:0<qs.length:=List.length_pos_of_mem hm
  simp only[List.length_cons];omega
theorem Z6a {l:List Nod} : ∀ (k p:Nat) {o:List ByteArray},Z1w l k p=some o →
  ∃ ps:List Nat,ps.length=o.length∧ps.Nodup∧∀ q∈ps,(∃ n,ZM l q=some n∧n.gone=false)∧∃ k' o',Z1w l k' q=some o'∧o'.length≤o.length
 | 0,_,_,h=>by cases h
 | k+1,p,o,h=>by
  have h0:=h
  unfold Z1w at h
  by_cases e:p=1
  ·rw[if_pos e]at h;cases h
   exact⟨[],rfl,List.nodup_nil,fun q hq=>by cases hq⟩
  ·rw[if_neg e]at h
   cases hg:ZM l p with
   | none=>rw[hg]at h;cases h
   | some n =>
    rw[hg]at h
    simp only at h
    cases hq:n.gone with
    | true=>rw[hq,if_pos rfl]at h;cases h
    | false =>
     rw[hq,if_neg (by simp)]at h
     obtain⟨o',ho,rfl⟩:=Option.map_eq_some_iff.1 h
     obtain⟨ps,i1,i2,i3⟩:=Z6a k n.up ho
     refine⟨p :: ps,by simp[i1],List.nodup_cons.2 ⟨fun hp=>?_,i2⟩,fun q hq2=>?_⟩
     ·obtain⟨_,k',o2,hk',hl⟩:=i3 p hp
      have:=Z7c hk' h0
      rw[this]at hl;simp at hl;omega
     ·rcases List.mem_cons.1 hq2 with hh | hh
      ·rw[hh];exact⟨⟨n,hg,hq⟩,k+1,_,h0,Nat.le_refl _⟩
      ·obtain⟨a,k',o2,hk',hl⟩:=i3 q hh
       exact⟨a,k',o2,hk',by simp;omega⟩
theorem Z4y {l:List Nod} : ∀ (k p:Nat) {o:List ByteArray},Z1w l k p=some o→Z1w l (o.length+1) p=some o
 | 0,_,_,h=>by cases h
 | k+1,p,o,h=>by
  unfold Z1w at h ⊢
  by_cases e:p=1
  ·rw[if_pos e]at h ⊢;exact h
  ·rw[if_neg e]at h ⊢
   cases hg:ZM l p with
   | none=>rw[hg]at h;cases h
   | some n =>
    rw[hg]at h
    simp only at h ⊢
    cases hq:n.gone with
    | true=>rw[hq,if_pos rfl]at h;cases h
    | false =>
     rw[hq,if_neg (by simp)]at h
     rw[if_neg (by simp)]
     obtain⟨o',ho,rfl⟩:=Option.map_eq_some_iff.1 h
     have:=Z4y k n.up ho
     rw[show(n.name :: o').length=o'.length+1 from rfl,this];rfl
theorem Z4z {l:List Nod} {p:Nat}:Leads l p↔(Z1w l (l.length+1) p).isSome=true:=by
 refine⟨fun h=>?_,Z4w _ _⟩
 obtain⟨k,hk⟩:=Z8P h
 obtain⟨o,ho⟩:=Option.isSome_iff_exists.1 hk
 obtain⟨ps,h1,h2,h3⟩:=Z6a k p ho
 have hs:=Z4y k p ho
 have hle:=Z4x ps (l.map (·.path)) h2 fun q hq=>by
  obtain⟨⟨n,hn,_⟩,_⟩:=h3 q hq
  obtain⟨a,b⟩:=Zr hn
  exact List.mem_map.2 ⟨n,a,b⟩
 rw[Z3a _ (l.length+1) p hs (by simp at hle;omega)];rfl
theorem Leads.imp {l m:List Nod} (h : ∀ p n,ZM l p=some n→n.gone=false→∃ n',ZM m p=some n'∧n'.gone=false∧n'.up=n.up) {p:Nat} (hp:Leads l p):Leads m p:=by
 induction hp with
 | root=>exact .root
 | up hg hq _ ih =>
  obtain⟨n',h1,h2,h3⟩:=h _ _ hg hq
  exact .up h1 h2 (by rw[h3];exact ih)
structure OkV (V:ByteArray→Bool) (t:Tr):Prop where
 sort:Z16 t.n
 root : ∃ r∈t.n,r.path=1∧ZF r=true∧r.up=1∧r.gone=false∧r.name=Z3z
 low : ∀ n∈t.n,1≤n.path∧n.path<t.next
 bits : ∀ n∈t.n,ZV n.mode=true
 empt : ∀ n∈t.n,ZF n=true→n.data.size=0
 nam : ∀ n∈t.n,n.path≠1→ZJ n.name=0
 ids : ∀ n∈t.n,V n.uid=true∧V n.gid=true∧V n.muid=true
 len : ∀ n∈t.n,n.data.size≤4096
 gon : ∀ n∈t.n,n.gone=true→n.up=0
 par : ∀ n∈t.n,n.gone=false→∃ u∈t.n,u.path=n.up∧ZF u=true∧u.gone=false
 uniq : ∀ a∈t.n,∀ b∈t.n,∀ d,Z1m d a=true→Z1m d b=true→a.name=b.name→a=b
 few:t.n.length≤64
 byt:Z10 t.n≤16384
 way : ∀ n∈t.n,n.gone=false→Leads t.n n.path
abbrev OkC:=OkV Z8
end
section
theorem Z3l (s t:ByteArray):(s.toList == t.toList)=decide (s=t):=by
 rw[ByteArray.toList_eq,ByteArray.toList_eq]
 by_cases h:s=t
 ·subst h;simp
 ·have h2:¬ s.data=t.data:=fun e=>h (ByteArray.ext e)
  simp[h,h2]
end
section
open Go.RowKit
def Z2w (w:World) (k:Nat) (v:Value) (n:Nat) (xs:List Value):Prop :=
 xs.length=n * k∧∃ a c,v=.slice a n c∧n≤c∧c≤maxLen∧(a=none→c=0)∧∀ i u,xs[i]?=some u→∃ b o,a=some ⟨b,o,none⟩∧w.cell? ⟨b,o+i,none⟩=some u
theorem Z15.weak {w:World} {k n:Nat} {v:Value} {xs:List Value} (h:Z15 w k v n xs):Z2w w k v n xs:=by
 obtain⟨hl,a,c,hv,h1,h2,h3,_,h4⟩:=h
 exact⟨hl,a,c,hv,h1,h2,h3,h4⟩
theorem Z2w.keeps {w w':World} {k n:Nat} {v:Value} {xs:List Value} (h:Z2w w k v n xs) (hk:Keeps w w'):Z2w w' k v n xs:=by
 obtain⟨hl,a,c,hv,h1,h2,h3,h4⟩:=h
 refine⟨hl,a,c,hv,h1,h2,h3,fun i u hu=>?_⟩
 obtain⟨b,o,ha,hc⟩:=h4 i u hu
 exact⟨b,o,ha,hk.cells _ _ hc⟩
theorem Z2w.below {w w':World} {k n:Nat} {v:Value} {xs:List Value} (h:Z2w w k v n xs) (hb:Below w.heap.size w w'):Z2w w' k v n xs:=h.keeps (.of_below hb)
theorem Z4A {P:Program} (w:World) (base:Nat) (t ty e:TypeId) (i:TypeInfo) (z:Value) (size bytes:Nat) (ht:P.underlying t=some (.slice e)) (hi:P.info? e=some i) (hz:i.zero=some z)
  (hsize:i.size=size) (hby:i.bytes=bytes) (hzs:z.cells.size=size) (hsz:0<size)
  (v:Value) (n:Nat) (xs:List Value) (hown:w.ownsRow base e size v n xs)
  (sv:Value) (m:Nat) (news:List Value) (hsrc:Z2w w size sv m news) (h1 : ∀ u∈news,u.oneCell'=true)
  (h63:n+m≤maxLen) (hbytes:(n+m) * bytes≤140737488355328) (hbase:base≤w.heap.size) :
  ∃ a' c' w',(Builtin.append_ #[t,t] ty #[v,sv]).run P w=.ok (.slice a' (n+m) c') w'∧w'.ownsRow base e size (.slice a' (n+m) c') (n+m) (xs++news)∧w.grownBy w' v.ownBlock:=by
 obtain⟨hl,a,c,rfl,hc1,hc2,hc3,hcell⟩:=hsrc
 cases a with
 | some ad =>
  have hnews : ∀ j u,news[j]?=some u→w.cell? (ad.add j)=some u:=fun j u hu=>by
   obtain⟨b,o,hb,hcc⟩:=hcell j u hu
   cases hb
   rw[Z2h];exact hcc
  obtain⟨v',w',hr,ho,hg,_⟩:=run_append_own (P:=P) w base t ty e i z size bytes ht hi hz hsize hby hzs hsz v n xs hown ad m c news hl hnews h1 h63 hbytes hbase
  obtain⟨a',c',rfl⟩:=Z1V ho
  exact⟨a',c',w',hr,ho,hg⟩
 | none =>
  have hc0:=hc3 rfl
  obtain rfl:c=0:=hc0
  obtain rfl:m=0:=by omega
  have:news=[]:=List.eq_nil_of_length_eq_zero (by simpa using hl)
  subst this
  exact Z2B w base t ty e i z size bytes ht hi hz hsize hby hzs hsz v n xs hown _ 0 [] Z15.nil h1 h63 hbytes hbase
theorem Z1C {P:Program} {t e size bytes:Nat} (E:ElemOk P t e size bytes) {ops:Array Oper} {rest:List Oper} {o:Oper} {a:Act} {Q:Exit→Act→World→Prop} (w:World) (hgd:o.guard=none) (s x:Operand)
  (ho:o.op=.call {callee:=.builtin .append,args:=#[s,x],argTypes:=#[t,t]})
  (base:Nat) (v:Value) (n:Nat) (xs:List Value) (hs:a.eval s=v) (hown:w.ownsRow base e size v n xs)
  (sv:Value) (m:Nat) (news:List Value) (hx:a.eval x=sv) (hsrc:Z2w w size sv m news) (h1 : ∀ u∈news,u.oneCell'=true)
  (h63:n+m≤maxLen) (hbytes:(n+m) * bytes≤140737488355328) (hbase:base≤w.heap.size)
  (h : ∀ a' c' w',w'.ownsRow base e size (.slice a' (n+m) c') (n+m) (xs++news)→w.grownBy w' v.ownBlock→wpList P ops Q rest (a.put o.dst (.slice a' (n+m) c')) w'):wpList P ops Q (o :: rest) a w :=
 wpList_plain hgd fun K hK=>by
  obtain⟨i,z,hi,hz,hsize,hby,hzs⟩:=E.hi
  refine Z2L s x t ho hs hx (R:=fun v' w'=>∃ a' c',v'=.slice a' (n+m) c'∧w'.ownsRow base e size (.slice a' (n+m) c') (n+m) (xs++news)∧w.grownBy w' v.ownBlock) ?_ ?_
  ·obtain⟨a',c',w',hr,h2,h3⟩:=Z4A (P:=P) w base t o.type e i z size bytes E.ht hi hz hsize hby hzs E.hsz v n xs hown sv m news hsrc h1 h63 hbytes hbase
   exact⟨_,w',hr,a',c',rfl,h2,h3⟩
  ·rintro _ w' ⟨a',c',rfl,h2,h3⟩
   exact hK _ _ (h a' c' w' h2 h3)
def Z1c (w:World) (v:Value) (L:List ByteArray):Prop:=Z2w w 1 v L.length (L.map fun s=>Value.string s)
theorem Z1c.cell {w:World} {a:Option Addr} {n c:Nat} {L:List ByteArray} (h:Z1c w (.slice a n c) L) (i:Nat) (hi:i<L.length) : ∃ b o,a=some ⟨b,o,none⟩∧w.cell? ⟨b,o+i,none⟩=some (.string L[i]):=by
 obtain⟨_,a',c',hv,h1,h2,h3,h4⟩:=h
 cases hv
 exact h4 i _ (by simp[hi])
theorem Z1c.form {w:World} {v:Value} {L:List ByteArray} (h:Z1c w v L) : ∃ a c,v=.slice a L.length c∧L.length≤c∧c≤maxLen:=by
 obtain⟨_,a,c,hv,h1,h2,_⟩:=h
 exact⟨a,c,hv,h1,h2⟩
theorem Z1c.below {w w':World} {v:Value} {l:List ByteArray} (h:Z1c w v l) (hb:Below w.heap.size w w'):Z1c w' v l:=Z2w.below h hb
theorem Z1c.take {w:World} {a:Option Addr} {n c:Nat} {l:List ByteArray} (h:Z1c w (.slice a n c) l) (k c2:Nat) (hk:k≤l.length) (hc2:k≤c2) (hc3:c2≤c):Z1c w (.slice a k c2) (l.take k):=by
 obtain⟨_,a',c',hv,h1,h2,h3,h4⟩:=h
 cases hv
 refine⟨by simp,a,c2,by simp;omega,by simp;omega,by omega,fun h=>(by have:=h3 h;omega),fun i u hu=>?_⟩
 have hi:i<(l.take k).length:=by have:=(List.getElem?_eq_some_iff.1 hu).1;simpa using this
 simp only[List.length_take]at hi
 refine h4 i u ?_
 rw[←hu];simp[List.getElem?_take];omega
theorem Z1c.of_own {w:World} {base e:Nat} {v:Value} {L:List ByteArray} (h:w.ownsRow base e 1 v L.length (L.map fun s=>Value.string s)):Z1c w v L:=(Z15.of_own h).weak
theorem Z1c.nil {w:World}:Z1c w (.slice none 0 0) []:=Z15.nil.weak
end
section
open Go.RowKit
def Z5y (l:List ByteArray) (s:ByteArray):Bool:=l.any fun x=>decide (x=s)
theorem Z7d {l:List ByteArray} {s:ByteArray}:Z5y l s=true↔s∈l:=by
 unfold Z5y
 rw[List.any_eq_true]
 exact⟨fun⟨x,h,e⟩=>of_decide_eq_true e ▸ h,fun h=>⟨s,h,decide_eq_true rfl⟩⟩
theorem Z8Q {l:List ByteArray} {s:ByteArray} {i:Nat} (hi:i<l.length) (h:l[i]=s):Z5y l s=true :=
 Z7d.2 (h ▸ List.getElem_mem hi)
theorem Z7K {l:List ByteArray} {s:ByteArray} (h : ∀ j (h:j<l.length),j<l.length→l[j]≠s):Z5y l s=false:=by
 rw[Bool.eq_false_iff]
 intro hm
 obtain⟨j,hj,e⟩:=List.getElem_of_mem (Z7d.1 hm)
 exact h j hj hj e
def Zcl (w:World) (r:Bool) (e:Ending) (w':World):Prop:=∃ i:Int,e=.returned (.int .i64 i)∧decide (0≤i)=r∧w'=w
theorem Z7L (v:Value) (l:List ByteArray) (s:ByteArray) (w:World) (hv:Z1c w v l) (hl:l.length<4611686018427387904) :
  Calls Tryz.prog 172 #[v,.string s] w (Zcl w (Z5y l s)):=by
 obtain⟨a,c,rfl,g1,g2⟩:=hv.form
 unfold maxLen at g2
 replace hv:=hid hv
 go_enter Tryz.func172,Tryz.ntmps172
 go_wp2_with fail
 go_loopw [8] (fun kv wr=>∃ k:Nat,k≤l.length∧kv=.int .i64 (k:Int)∧wr=w∧Hid (∀ j (h:j<l.length),j<k→l[j]≠s)) (fun kv _=>l.length - (intOf kv).toNat)
 case atStart=>exact⟨0,by omega,rfl,rfl,hid (fun j _ h=>by omega)⟩
 case round =>
  obtain⟨k,hk,rfl,rfl,hall⟩:=hrel
  by_cases hkl:k<l.length
  ·obtain⟨b1,o1,ha1,hc1⟩:=Z1c.cell hv.out k hkl
   subst ha1
   by_cases hs:l[k]=s
   ·have hT:=hid (Z8Q hkl hs)
    rw[hs]at hc1
    clear hs
    go_wp2_with fail
    go_ret
    exact⟨(k:Int),rfl,by rw[hT.out];simp,rfl⟩
   ·have hq:(s.toList == l[k].toList)=false:=by rw[Z3l];exact decide_eq_false fun e=>hs e.symm
    replace hs:=hid hs
    generalize hs1:l[k]=s1 at *
    replace hs1:=hid hs1
    go_wp2_with fail
    go_roundw
    case rel=>exact⟨k+1,by omega,by go_num,by first | rfl | trivial,hid (fun j h h2=>by
     by_cases hjk:j<k
     ·exact hall.out j h hjk
     ·obtain rfl:j=k:=by omega
      rw[hs1.out];exact hs.out)⟩
    case measure=>simp[intOf];omega
  ·obtain rfl:k=l.length:=by omega
   go_wp2_with fail
   go_ret
   exact⟨-1,rfl,by rw[Z7K hall.out];rfl,rfl⟩
theorem Z2P (v:Value) (l:List ByteArray) (s:ByteArray) (w:World) (hv:Z1c w v l) (hl:l.length<4611686018427387904) :
  Calls Tryz.prog 134 #[v,.string s] w fun e w'=>e=.returned (.bool (Z5y l s))∧w'=w:=by
 have h:=hid (Z7L v l s w hv hl)
 obtain⟨a,c,rfl,g1,g2⟩:=hv.form
 clear hv
 go_enter Tryz.func134,Tryz.ntmps134
 go_wp2_with fail
 refine h.out.mono ?_
 rintro e w1 ⟨i,rfl,hi,rfl⟩
 replace hi:=hid hi
 go_wp2_with fail
 go_ret
 exact⟨ZR (by rw[←hi.out]),rfl⟩
end
section
open Go.RowKit
structure Grp where
 name:ByteArray
 mv:Value
 mem:List ByteArray
def Grp.cells (g:Grp):List Value:=[.string g.name,g.mv]
def Z1Y (w:World) (v:Value) (gs:List Grp):Prop:=Z2w w 2 v gs.length (gs.flatMap Grp.cells)∧∀ g∈gs,Z1c w g.mv g.mem
theorem Z8R (gs:List Grp) (i:Nat) (hi:i<gs.length):(gs.flatMap Grp.cells)[i * 2]?=some (.string gs[i].name)∧(gs.flatMap Grp.cells)[i * 2+1]?=some gs[i].mv:=by
 induction gs generalizing i with
 | nil=>simp at hi
 | cons g r ih =>
  cases i with
  | zero=>simp[List.flatMap_cons,Grp.cells]
  | succ k =>
   have:=ih k (by simpa using hi)
   simp only[List.flatMap_cons]
   rw[List.getElem?_append_right (by simp[Grp.cells];omega),List.getElem?_append_right (by simp[Grp.cells];omega)]
   simp only[Grp.cells,List.length_cons,List.length_nil,List.getElem_cons_succ]
   rw[show(k+1) * 2 - (0+1+1)=k * 2 by omega,show(k+1) * 2+1 - (0+1+1)=k * 2+1 by omega]
   exact this
theorem Z1Y.form {w:World} {v:Value} {gs:List Grp} (h:Z1Y w v gs) : ∃ a c,v=.slice a gs.length c∧gs.length≤c∧c≤maxLen:=by
 obtain⟨⟨_,a',c',hv,h1,h2,_⟩,_⟩:=h
 exact⟨a',c',hv,h1,h2⟩
theorem Z1Y.cell {w:World} {a:Option Addr} {n c:Nat} {gs:List Grp} (h:Z1Y w (.slice a n c) gs) (i:Nat) (hi:i<gs.length) :
  ∃ b o,a=some ⟨b,o,none⟩∧w.cell? ⟨b,o+i * 2,none⟩=some (.string gs[i].name)∧w.cell? ⟨b,o+i * 2+1,none⟩=some gs[i].mv∧Z1c w gs[i].mv gs[i].mem:=by
 obtain⟨⟨_,a',c',hv,h1,h2,h3,h4⟩,hm⟩:=h
 cases hv
 obtain⟨e1,e2⟩:=Z8R gs i hi
 obtain⟨b,o,ha,hc⟩:=h4 (i * 2) _ e1
 obtain⟨b',o',ha',hc'⟩:=h4 (i * 2+1) _ e2
 rw[ha]at ha'
 cases ha'
 exact⟨b,o,ha,hc,hc',hm _ (List.getElem_mem hi)⟩
theorem Z1Y.below {w w':World} {v:Value} {gs:List Grp} (h:Z1Y w v gs) (hb:Below w.heap.size w w'):Z1Y w' v gs :=
 ⟨Z2w.below h.1 hb,fun g hg=>Z2w.below (h.2 g hg) hb⟩
def Zdq (grp usr:ByteArray) (g:Grp):Bool:=decide (g.name=grp) && Z5y g.mem usr
def Zdz (w:World) (b:Nat) (s:ByteArray):Prop:=w.heap[b]?=some (.cells #[.string s] 9 (0,0))
theorem Zcm (g:Grp) (bg bu:Nat) (grp usr:ByteArray) (w:World) (hm:Z1c w g.mv g.mem) (hl:g.mem.length<4611686018427387904) (h1:Zdz w bg grp) (h2:Zdz w bu usr) :
  Calls Tryz.prog 144 #[.agg #[.string g.name,g.mv],.pointer (some ⟨bg,0,none⟩),.pointer (some ⟨bu,0,none⟩)] w fun e w'=>e=.returned (.bool (Zdq grp usr g))∧Below w.heap.size w w':=by
 have hb0:=(Below.refl w.heap.size w).alloc (Nat.le_refl _) (.cells #[.string g.name,g.mv] 154)
 have c1:(w.alloc (.cells #[.string g.name,g.mv] 154)).cell? ⟨bg,0,none⟩=some (.string grp):=Z0 ((hb0.block bg (lt_of_block h1)).trans h1) 0
 have c2:(w.alloc (.cells #[.string g.name,g.mv] 154)).cell? ⟨bu,0,none⟩=some (.string usr):=Z0 ((hb0.block bu (lt_of_block h2)).trans h2) 0
 have hc:=hid (Z2P g.mv g.mem usr _ (hm.below hb0) hl)
 replace hb0:=hid hb0
 replace h1:=hid h1
 replace h2:=hid h2
 unfold Zdq
 by_cases hn:g.name=grp
 ·have hq:(g.name.toList == grp.toList)=true:=by rw[hn];simp
  rw[show decide (g.name=grp)=true from decide_eq_true hn,Bool.true_and]
  clear hn
  go_enter Tryz.func144,Tryz.ntmps144
  go_wp2_with fail
  refine hc.out.mono ?_
  rintro e w1 ⟨rfl,rfl⟩
  go_wp2_with fail
  go_ret
  exact⟨rfl,hb0.out⟩
 ·have hq:(g.name.toList == grp.toList)=false:=by rw[Z3l];exact decide_eq_false hn
  rw[show decide (g.name=grp)=false from decide_eq_false hn,Bool.false_and]
  clear hn
  go_enter Tryz.func144,Tryz.ntmps144
  go_wp2_with fail
  go_ret
  exact⟨rfl,hb0.out⟩
def ZdA (f:FuncId) (cap:Array Value) (w:World) (p:Grp→Bool) (gs:List Grp):Prop:=∀ g∈gs,∀ w',Below w.heap.size w w'→Calls Tryz.prog f (#[.agg #[.string g.name,g.mv]]++cap) w' fun e w2=>e=.returned (.bool (p g))∧Below w'.heap.size w' w2
set_option maxHeartbeats 1600000 in
theorem Z8S (v:Value) (gs:List Grp) (f:FuncId) (cap:Array Value) (p:Grp→Bool) (w:World) (hv:Z1Y w v gs) (hl:gs.length<4611686018427387904) (hT:ZdA f cap w p gs)
  (hE : ∀ args W,Sem.run Tryz.prog (callFunc f args) W=.ok (.enter f args) W) :
  Calls Tryz.prog 181 #[v,.func (.func f) #[] cap] w fun e w'=>∃ i:Int,e=.returned (.int .i64 i)∧decide (0≤i)=gs.any p∧Below w.heap.size w w':=by
 obtain⟨a,c,rfl,g1,g2⟩:=hv.form
 unfold maxLen at g2
 replace hv:=hid hv
 replace hT:=hid hT
 replace hE:=hid hE
 go_enter Tryz.func181,Tryz.ntmps181
 go_wp2_with fail
 go_loopw [8] (fun kv wr=>∃ k:Nat,k≤gs.length∧kv=.int .i64 (k:Int)∧Hid (Below w.heap.size w wr)∧Hid ((gs.take k).any p=false)) (fun kv _=>gs.length - (intOf kv).toNat)
 case atStart=>exact⟨0,by omega,rfl,hid (Below.refl _ _),hid (by simp)⟩
 case round =>
  obtain⟨k,hk,rfl,hB,hall⟩:=hrel
  by_cases hkl:k<gs.length
  ·have hv1:=hv.out.below hB.out
   obtain⟨b1,o1,ha1,hc1,hc2,_⟩:=Z1Y.cell hv1 k hkl
   subst ha1
   have Z2C:=hid (hT.out _ (List.getElem_mem hkl) wr hB.out)
   clear hv1
   generalize hg:gs[k]=g at *
   replace hg:=hid hg
   have hE':=hE.out (#[.agg #[.string g.name,g.mv]]++cap) wr
   go_wp2_with fail
   refine Z2C.out.mono ?_
   rintro e w2 ⟨rfl,hb2⟩
   have hB2:=hid (sn hB.out hb2)
   clear hb2 Z2C hE' hc1 hc2
   cases hp:p g with
   | true =>
    go_wp2_with fail
    go_ret
    exact⟨(k:Int),rfl,by
     rw[List.any_eq_true.2 ⟨g,by rw[←hg.out];exact List.getElem_mem hkl,hp⟩];simp,hB2.out⟩
   | false =>
    have hall2:=hid (show(gs.take (k+1)).any p=false by
     rw[List.take_succ_eq_append_getElem hkl,List.any_append,hall.out,hg.out]
     simp[hp])
    replace hp:=hid hp
    go_wp2_with fail
    go_roundw
    case rel=>exact⟨k+1,by omega,by go_num,hB2,hall2⟩
    case measure=>simp[intOf];omega
  ·obtain rfl:k=gs.length:=by omega
   go_wp2_with fail
   go_ret
   exact⟨-1,rfl,by have:=hall.out;rw[List.take_length]at this;rw[this];rfl,hB.out⟩
theorem Z6b (v:Value) (gs:List Grp) (f:FuncId) (cap:Array Value) (p:Grp→Bool) (w:World) (hv:Z1Y w v gs) (hl:gs.length<4611686018427387904) (hT:ZdA f cap w p gs)
  (hE : ∀ args W,Sem.run Tryz.prog (callFunc f args) W=.ok (.enter f args) W) :
  Calls Tryz.prog 143 #[v,.func (.func f) #[] cap] w fun e w'=>e=.returned (.bool (gs.any p))∧Below w.heap.size w w':=by
 have h:=hid (Z8S v gs f cap p w hv hl hT hE)
 obtain⟨a,c,rfl,g1,g2⟩:=hv.form
 clear hv hT hE
 go_enter Tryz.func143,Tryz.ntmps143
 go_wp2_with fail
 refine h.out.mono ?_
 rintro e w1 ⟨i,rfl,hi,hb⟩
 replace hi:=hid hi
 replace hb:=hid hb
 go_wp2_with fail
 go_ret
 exact⟨ZR (by rw[←hi.out]),hb.out⟩
theorem Z8T (args:Array Value) (W:World):Sem.run Tryz.prog (callFunc 144 args) W=.ok (.enter 144 args) W:=by
 rfl
theorem Z6c (args:Array Value) (W:World):Sem.run Tryz.prog (callFunc 178 args) W=.ok (.enter 178 args) W:=by
 rfl
end
section
open Go.RowKit
structure UB (us:List ByteArray) (gs:List Grp):Prop where
 users:us.length<4611686018427387904
 groups:gs.length<4611686018427387904
 mems : ∀ g∈gs,g.mem.length<4611686018427387904
def Z2Z (w:World) (p:Nat) (us:List ByteArray) (gs:List Grp):Prop :=
 ∃ uv gv,w.heap[p]?=some (.cells #[uv,gv] 211 (0,0))∧Z1c w uv us∧Z1Y w gv gs
theorem Z2Z.lt {w:World} {p:Nat} {us:List ByteArray} {gs:List Grp} (h:Z2Z w p us gs):p<w.heap.size:=by
 obtain⟨_,_,h,_⟩:=h
 exact lt_of_block h
theorem Z2Z.below {w w':World} {p:Nat} {us:List ByteArray} {gs:List Grp} (h:Z2Z w p us gs) (hb:Below w.heap.size w w'):Z2Z w' p us gs:=by
 obtain⟨uv,gv,h1,h2,h3⟩:=h
 exact⟨uv,gv,(hb.block p (lt_of_block h1)).trans h1,h2.below hb,h3.below hb⟩
theorem Z5z (p:Nat) (us:List ByteArray) (gs:List Grp) (s:ByteArray) (w:World) (h:Z2Z w p us gs) (hl:us.length<4611686018427387904) :
  Calls Tryz.prog 83 #[.pointer (some ⟨p,0,none⟩),.string s] w fun e w'=>e=.returned (.bool (Z5y us s))∧w'=w:=by
 obtain⟨uv,gv,h1,h2,h3⟩:=h
 have hc:=hid (Z2P uv us s w h2 hl)
 have c1:=Z0 h1 0
 replace h1:=hid h1
 clear h2 h3
 go_enter Tryz.func83,Tryz.ntmps83
 go_wp2_with fail
 refine hc.out.mono ?_
 rintro e w1 ⟨rfl,rfl⟩
 go_wp2_with fail
 go_ret
 exact⟨rfl,rfl⟩
def inB (us:List ByteArray) (gs:List Grp) (who grp:ByteArray):Bool:=Z5y us who && (decide (who=grp) || gs.any (Zdq grp who))
set_option maxHeartbeats 800000 in
theorem ZdB (p:Nat) (us:List ByteArray) (gs:List Grp) (who grp:ByteArray) (w:World) (h:Z2Z w p us gs) (hl:UB us gs) :
  Calls Tryz.prog 88 #[.pointer (some ⟨p,0,none⟩),.string who,.string grp] w fun e w'=>e=.returned (.bool (inB us gs who grp))∧Below w.heap.size w w':=by
 obtain⟨W,hW⟩ : ∃ W,W=(w.alloc (.cells #[.string who] 9)).alloc (.cells #[.string grp] 9):=⟨_,rfl⟩
 have hb0:Below w.heap.size w W:=by rw[hW];exact((Below.refl w.heap.size w).alloc (Nat.le_refl _) _).alloc (by simp) _
 have hz:W.heap.size=w.heap.size+2:=by rw[hW];simp
 have hw1:Zdz W w.heap.size who:=by
  rw[hW]
  have:=heap_alloc_new w (.cells #[.string who] 9)
  exact(((Below.refl _ _).alloc (Nat.le_refl _) _).block _ (by simp)).trans this
 have hw2:Zdz W (w.heap.size+1) grp:=by
  rw[hW]
  have:=heap_alloc_new (w.alloc (.cells #[.string who] 9)) (.cells #[.string grp] 9)
  simpa[Zdz] using this
 have hT:=h.below hb0
 have hhas:=hid (Z5z p us gs who W hT hl.users)
 have hmf : ∀ (fn:Fn) (first cap:Array Value) (w:World),(Instr.makeFunc fn first cap).run Tryz.prog w=.ok (.func fn first cap) w:=fun _ _ _ _=>rfl
 obtain⟨uv,gv,h1,h2,h3⟩:=hT
 have hcf:=hid (Z6b gv gs 144 #[.pointer (some ⟨w.heap.size+1,0,none⟩),.pointer (some ⟨w.heap.size,0,none⟩)] (Zdq grp who) W h3 hl.groups
  (fun g hg w' hw=>Zcm g (w.heap.size+1) w.heap.size grp who w' (Z2w.below (h3.2 g hg) hw) (hl.mems g hg) ((hw.block _ (by omega)).trans hw2) ((hw.block _ (by omega)).trans hw1)) Z8T)
 have d1:W.cell? ⟨w.heap.size,0,none⟩=some (.string who):=Z0 hw1 0
 have d2:W.cell? ⟨w.heap.size+1,0,none⟩=some (.string grp):=Z0 hw2 0
 have d3:W.cell? ⟨p,1,none⟩=some gv:=Z0 h1 1
 replace h1:=hid h1
 replace hb0:=hid hb0
 replace hw1:=hid hw1
 replace hw2:=hid hw2
 replace hz:=hid hz
 unfold inB
 clear h h2 h3 hl
 cases hu:Z5y us who with
 | false =>
  rw[hu]at hhas
  go_enter Tryz.func88,Tryz.ntmps88
  go_wp2_with (rw[←hW];replace hW:=hid hW)
  refine hhas.out.mono ?_
  rintro e w1 ⟨rfl,rfl⟩
  go_wp2_with fail
  go_ret
  exact⟨rfl,hb0.out⟩
 | true =>
 rw[hu]at hhas
 replace hu:=hid hu
 by_cases hg:who=grp
 ·have hq:(who.toList == grp.toList)=true:=by rw[hg];simp
  have hr:Hid (decide (who=grp)=true):=hid (decide_eq_true hg)
  clear hg
  go_enter Tryz.func88,Tryz.ntmps88
  go_wp2_with (rw[←hW];replace hW:=hid hW)
  refine hhas.out.mono ?_
  rintro e w1 ⟨rfl,rfl⟩
  go_wp2_with fail
  go_ret
  exact⟨ZR (by rw[hr.out];rfl),hb0.out⟩
 ·have hq:(who.toList == grp.toList)=false:=by rw[Z3l];exact decide_eq_false hg
  have hr:Hid (decide (who=grp)=false):=hid (decide_eq_false hg)
  clear hg
  go_enter Tryz.func88,Tryz.ntmps88
  go_wp2_with (rw[←hW];replace hW:=hid hW)
  refine hhas.out.mono ?_
  rintro e w1 ⟨rfl,rfl⟩
  go_wp2_with fail
  refine hcf.out.mono ?_
  rintro e w1 ⟨rfl,hb1⟩
  have hB:=hid (sn hb0.out hb1)
  clear hb1
  go_wp2_with fail
  go_ret
  exact⟨ZR (by rw[hr.out];rfl),hB.out⟩
end
section
def Zea (g o:Bool) (m:Nat):Nat:=(m % 8 |||(if g then m / 8 % 8 else 0)) |||(if o then m / 64 % 8 else 0)
def Zdr (g o:Bool) (m want:Nat):Bool:=decide (want &&& (7 - Zea g o m)=0)
theorem Zeo (a:Nat):a &&& 7=a % 8:=Nat.and_two_pow_sub_one_eq_mod a 3
theorem Z8U (want h:Nat) (hh:h<4294967296):want &&& 7 &&& (4294967295 - h)=want &&& (7 - h % 8):=by
 rw[Nat.and_assoc,Nat.and_comm 7,Zeo]
 congr 1
 omega
theorem ZaD (want h:Nat) (hw:want<4294967296) (hh:h<4294967296):(bits .andNot .u32 (bits .and .u32 (want:Int) 7) (h:Int) == 0)=decide (want &&& (7 - h % 8)=0):=by
 have h7:want &&& 7<4294967296:=Nat.lt_of_le_of_lt Nat.and_le_left hw
 rw[show(7:Int)=((7:Nat):Int) from rfl,u32_and_nat _ _ hw (by omega),u32_andNot_nat _ _ h7 hh,Z8U want h hh]
 by_cases h0:want &&& (7 - h % 8)=0
 ·simp[h0]
 ·simp only[h0,decide_false]
  simpa using h0
theorem Z8V {a b:Nat} (ha:a<4294967296) (hb:b<4294967296):a ||| b<4294967296:=Nat.or_lt_two_pow (n:=32) ha hb
theorem Zcn (a b:Nat):(a ||| b) % 8=a % 8 ||| b % 8:=Nat.or_mod_two_pow (n:=3)
def ZbZ (g o:Bool) (m:Nat):Nat:=if o then(if g then m ||| m / 8 else m) ||| m / 64 else(if g then m ||| m / 8 else m)
theorem Zco (g o:Bool) (m:Nat) (hm:m<4294967296):ZbZ g o m<4294967296:=by
 unfold ZbZ
 have h8:m / 8<4294967296:=by omega
 have h64:m / 64<4294967296:=by omega
 cases g <;> cases o <;> simp[Z8V,hm,h8,h64]
theorem ZaE (g o:Bool) (m:Nat):ZbZ g o m % 8=Zea g o m:=by
 unfold ZbZ Zea
 cases g <;> cases o <;> simp[Zcn]
theorem Zcp (m:Nat) (hm:m<4294967296):bits .or .u32 (bits .or .u32 (m:Int) ((m:Int) / 8)) ((m:Int) / 64)=((ZbZ true true m:Nat):Int):=by
 rw[show(m:Int) / 8=((m / 8:Nat):Int) from rfl,show(m:Int) / 64=((m / 64:Nat):Int) from rfl,u32_or_nat _ _ hm (by omega),u32_or_nat _ _ (Z8V hm (by omega)) (by omega)]
 rfl
theorem Zcq (m:Nat) (hm:m<4294967296):bits .or .u32 (m:Int) ((m:Int) / 8)=((ZbZ true false m:Nat):Int):=by
 rw[show(m:Int) / 8=((m / 8:Nat):Int) from rfl,u32_or_nat _ _ hm (by omega)]
 rfl
theorem Zcr (m:Nat) (hm:m<4294967296):bits .or .u32 (m:Int) ((m:Int) / 64)=((ZbZ false true m:Nat):Int):=by
 rw[show(m:Int) / 64=((m / 64:Nat):Int) from rfl,u32_or_nat _ _ hm (by omega)]
 rfl
theorem Z4m (g o:Bool) (m want:Nat) (hm:m<4294967296) (hw:want<4294967296):(bits .andNot .u32 (bits .and .u32 (want:Int) 7) ((ZbZ g o m:Nat):Int) == 0)=Zdr g o m want:=by
 rw[ZaD want _ hw (Zco g o m hm),ZaE]
 rfl
end
end Go.Proofs.YtkefjeabckainaaGreat
