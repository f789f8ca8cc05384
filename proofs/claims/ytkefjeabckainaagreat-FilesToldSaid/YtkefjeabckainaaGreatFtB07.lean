/- A slice of nodes; the binary search for a path, and what Get returns, for a sorted tree. Conditions: numbers in their types, the list sorted. And the texts behind it. -/
import Derived.Test.YtkefjeabckainaaGreatFtB04
import Derived.Deep.MidRow
import Derived.Test.YtkefjeabckainaaGreatFtB06
namespace Go.Proofs.YtkefjeabckainaaGreat
set_option maxRecDepth 100000
set_option linter.unusedVariables false
section
open Go.RowKit
def ZB (l:List Nod):List Value:=l.flatMap fun n=>n.cells.toList
theorem Z17 (l:List Nod):(ZB l).length=l.length * 12:=by
 induction l with
 | nil=>rfl
 | cons n l ih =>
  show(n.cells.toList++ZB l).length=_
  rw[List.length_append,ih,Z7,List.length_cons]
  simp;omega
theorem Z28 (l m:List Nod):ZB (l++m)=ZB l++ZB m:=List.flatMap_append
theorem Z2p (l:List Nod) (i j:Nat) (hi:i<l.length) (hj:j<12):(ZB l)[i * 12+j]?=l[i].cells.toList[j]?:=by
 induction l generalizing i with
 | nil=>simp at hi
 | cons n l ih =>
  show(n.cells.toList++ZB l)[i * 12+j]?=_
  have h12:n.cells.toList.length=12:=by rw[Z7];rfl
  cases i with
  | zero=>rw[Nat.zero_mul,Nat.zero_add,List.getElem?_append_left (by omega)];rfl
  | succ k =>
   rw[List.getElem?_append_right (by omega),h12,show(k+1) * 12+j - 12=k * 12+j by omega]
   exact ih k (by simpa using hi)
theorem Z4E (l:List Nod) : ∀ u∈ZB l,u.oneCell'=true:=by
 intro u hu
 obtain⟨n,_,hn⟩:=List.mem_flatMap.1 hu
 have:=Zw n
 exact(Array.all_eq_true_iff_forall_mem.1 this) u (by simpa using hn)
def Z3 (w:World) (v:Value) (l:List Nod):Prop:=Z2w w 12 v l.length (ZB l)
theorem Z3.form {w:World} {v:Value} {l:List Nod} (h:Z3 w v l) : ∃ a c,v=.slice a l.length c∧l.length≤c∧c≤maxLen:=by
 obtain⟨_,a,c,hv,h1,h2,_⟩:=h
 exact⟨a,c,hv,h1,h2⟩
theorem Z3.below {w w':World} {v:Value} {l:List Nod} (h:Z3 w v l) (hb:Below w.heap.size w w'):Z3 w' v l:=Z2w.below h hb
theorem Z3.range {w:World} {a:Option Addr} {n c:Nat} {l:List Nod} (h:Z3 w (.slice a n c) l) (i:Nat) (hi:i<l.length) : ∃ b o,a=some ⟨b,o,none⟩∧w.rangeAt b (o+i * 12) l[i].cells.toList:=by
 obtain⟨_,a',c',hv,h1,h2,h3,h4⟩:=h
 cases hv
 obtain⟨b,o,ha,_⟩:=h4 (i * 12) _ (by rw[show i * 12=i * 12+0 from rfl,Z2p l i 0 hi (by omega),Z7];rfl)
 refine⟨b,o,ha,fun j u hu=>?_⟩
 have hj:j<12:=by have:=(List.getElem?_eq_some_iff.1 hu).1;rw[Z7]at this;simpa using this
 obtain⟨b',o',ha',hc⟩:=h4 (i * 12+j) u (by rw[Z2p l i j hi hj];exact hu)
 rw[ha]at ha';cases ha'
 rw[Nat.add_assoc];exact hc
theorem Z3.of_own {w:World} {base e n:Nat} {v:Value} {l:List Nod} (h:w.ownsRow base e 12 v n (ZB l)):Z3 w v l:=by
 have hn:n=l.length:=by have:=h.1;rw[Z17]at this;omega
 subst hn
 exact(Z15.of_own h).weak
theorem Z3.nil {w:World}:Z3 w (.slice none 0 0) []:=Z15.nil.weak
theorem Z3.clip {w:World} {a:Option Addr} {c:Nat} {l:List Nod} (h:Z3 w (.slice a l.length c) l):Z3 w (.slice a l.length l.length) l:=by
 obtain⟨hl,a',c',hv,h1,h2,h3,h4⟩:=h
 cases hv
 exact⟨hl,a,l.length,rfl,Nat.le_refl _,by omega,fun h=>by have:=h3 h;omega,h4⟩
def Zcx (a b:Nat):Int:=if a<b then -1 else if b<a then 1 else 0
theorem ZaL (a b:Nat):decide (Zcx a b<0)=decide (a<b):=by
 unfold Zcx;by_cases h:a<b <;> by_cases h2:b<a <;> simp[h,h2]
theorem Z93 (a b:Nat):(Zcx a b == 0)=decide (a=b):=by
 unfold Zcx
 by_cases h:a<b
 ·rw[if_pos h,decide_eq_false (by omega)];rfl
 ·by_cases h2:b<a
  ·rw[if_neg h,if_pos h2,decide_eq_false (by omega)];rfl
  ·rw[if_neg h,if_neg h2,decide_eq_true (by omega)];rfl
theorem Z4F (a:Nat) (w:World):Calls Tryz.prog 185 #[.int .u64 (a:Int)] w fun e w'=>e=.returned (.bool false)∧w'=w:=by
 go_enter Tryz.func185,Tryz.ntmps185
 go_wp2
 go_ret
 exact⟨ZR (by simp),rfl⟩
theorem Z94 (a b:Nat) (w:World):Calls Tryz.prog 150 #[.int .u64 (a:Int),.int .u64 (b:Int)] w fun e w'=>e=.returned (.int .i64 (Zcx a b))∧w'=w:=by
 have n1:=hid (fun W=>Z4F a W)
 have n2:=hid (fun W=>Z4F b W)
 unfold Zcx
 by_cases h:a<b
 ·rw[if_pos h]
  have k1:decide ((a:Int)<(b:Int))=true:=by simpa using h
  have k2:decide (a<b)=true:=by simpa using h
  go_enter Tryz.func150,Tryz.ntmps150
  go_wp2_with fail
  refine(n1.out _).mono ?_
  rintro e w1 ⟨rfl,rfl⟩
  go_wp2_with fail
  refine(n2.out _).mono ?_
  rintro e w1 ⟨rfl,rfl⟩
  go_wp2_with fail
  go_ret
  exact⟨rfl,rfl⟩
 ·rw[if_neg h]
  have k1:decide ((a:Int)<(b:Int))=false:=by simpa using h
  have k2:decide (a<b)=false:=by simpa using h
  by_cases h2:b<a
  ·rw[if_pos h2]
   have k3:decide ((b:Int)<(a:Int))=true:=by simpa using h2
   have k4:decide (b<a)=true:=by simpa using h2
   go_enter Tryz.func150,Tryz.ntmps150
   go_wp2_with fail
   refine(n1.out _).mono ?_
   rintro e w1 ⟨rfl,rfl⟩
   go_wp2_with fail
   refine(n2.out _).mono ?_
   rintro e w1 ⟨rfl,rfl⟩
   go_wp2_with fail
   go_ret
   exact⟨rfl,rfl⟩
  ·rw[if_neg h2]
   have k3:decide ((b:Int)<(a:Int))=false:=by simpa using h2
   have k4:decide (b<a)=false:=by simpa using h2
   go_enter Tryz.func150,Tryz.ntmps150
   go_wp2_with fail
   refine(n1.out _).mono ?_
   rintro e w1 ⟨rfl,rfl⟩
   go_wp2_with fail
   refine(n2.out _).mono ?_
   rintro e w1 ⟨rfl,rfl⟩
   go_wp2_with fail
   go_ret
   exact⟨rfl,rfl⟩
theorem Z6f (n:Nod) (p:Nat) (w:World):Calls Tryz.prog 149 #[.agg n.cells,.int .u64 (p:Int)] w fun e w'=>e=.returned (.int .i64 (Zcx n.path p))∧Below w.heap.size w w':=by
 have hb:=hid ((Below.refl w.heap.size w).alloc (Nat.le_refl _) (.cells n.cells 89))
 have hc:=hid (fun W=>Z94 n.path p W)
 rw[Z7]at hb ⊢
 go_enter Tryz.func149,Tryz.ntmps149
 go_wp2_with fail
 refine(hc.out _).mono ?_
 rintro e w1 ⟨rfl,rfl⟩
 go_wp2_with fail
 go_ret
 exact⟨rfl,hb.out⟩
theorem Z6O (args:Array Value) (W:World):Sem.run Tryz.prog (callFunc 149 args) W=.ok (.enter 149 args) W:=by
 rfl
theorem Zx {P:Program} {ops:Array Oper} {rest:List Oper} {op:Oper} {a:Act} {w:World} {Q:Exit→Act→World→Prop} (hgd:op.guard=none) (ty:TypeId) (x:Operand) (ho:op.op=.load ty x)
  (b o:Nat) (hx:a.eval x=.pointer (some ⟨b,o,none⟩)) (cs:Array Value) (d:TypeDesc) (hc:w.rangeAt b o cs.toList)
  (hu:P.underlying ty=some d) (hd:d.isRow=true) (hi:(P.info? ty).map (·.size)=some cs.size)
  (h:wpList P ops Q rest (a.put op.dst (.agg cs)) w):wpList P ops Q (op :: rest) a w :=
 wpList_load_mid hgd ty x ho b o hx cs.toList d hc hu hd (by rw[hi];simp) (by simpa using h)
theorem Zcy {w:World} {b o:Nat} {n:Nod} (h:w.rangeAt b o n.cells.toList):w.cell? ⟨b,o,none⟩=some (.int .u64 (n.path:Int))∧w.cell? ⟨b,o+1,none⟩=some (.int .u32 (n.vers:Int))∧w.cell? ⟨b,o+2,none⟩=some (.int .u32 (n.mode:Int))∧w.cell? ⟨b,o+3,none⟩=some (.int .u32 (n.atm:Int))∧w.cell? ⟨b,o+4,none⟩=some (.int .u32 (n.mtm:Int))∧w.cell? ⟨b,o+5,none⟩=some (.string n.name)∧w.cell? ⟨b,o+6,none⟩=some (.string n.uid)∧w.cell? ⟨b,o+7,none⟩=some (.string n.gid)∧w.cell? ⟨b,o+8,none⟩=some (.string n.muid)∧w.cell? ⟨b,o+9,none⟩=some (.int .u64 (n.up:Int))∧w.cell? ⟨b,o+10,none⟩=some (.bool n.gone)∧w.cell? ⟨b,o+11,none⟩=some (.string n.data) :=
 ⟨h 0 _ rfl,h 1 _ rfl,h 2 _ rfl,h 3 _ rfl,h 4 _ rfl,h 5 _ rfl,h 6 _ rfl,h 7 _ rfl,h 8 _ rfl,h 9 _ rfl,h 10 _ rfl,h 11 _ rfl⟩
theorem Z4G {l:List Nod} (h:Z16 l) (p:Nat):(ZM l p).isSome=(match l[Z14 l p]? with | some n=>decide (n.path=p) | none=>false):=by
 rw[Z8O h p]
 cases l[Z14 l p]? with
 | none=>rfl
 | some n=>by_cases e:n.path=p <;> simp[e]
set_option maxHeartbeats 3200000 in
theorem Z6P (v:Value) (l:List Nod) (p:Nat) (w:World) (hv:Z3 w v l) (hs:Z16 l) (hl:l.length≤1000) :
  Calls Tryz.prog 148 #[v,.int .u64 (p:Int),.func (.func 149) #[] #[]] w fun e w'=>e=.returned (.tuple #[.int .i64 (Z14 l p:Int),.bool (ZM l p).isSome])∧Below w.heap.size w w':=by
 obtain⟨a,c,rfl,g1,g2⟩:=hv.form
 unfold maxLen at g2
 have hbl:=Z8N l p
 have hbg:=hid (fun i hi=>Z3y hs p i hi)
 have hga:=hid (Z4G hs p)
 have hE:=hid Z6O
 generalize (ZM l p).isSome=r at *
 generalize Z14 l p=q at *
 replace hv:=hid hv
 replace hs:=hid hs
 go_enter Tryz.func148,Tryz.ntmps148
 go_wp2_with fail
 go_loopw [9,10] (fun iv jv wr=>∃ i j:Nat,i≤q∧q≤j∧j≤l.length∧iv=.int .i64 (i:Int)∧jv=.int .i64 (j:Int)∧Hid (Below w.heap.size w wr)) (fun iv jv _=>(intOf jv - intOf iv).toNat)
 case atStart=>exact⟨0,l.length,by omega,hbl,by omega,rfl,rfl,hid (Below.refl _ _)⟩
 case round =>
  obtain⟨i,j,h1,h2,h3,rfl,rfl,hB⟩:=hrel
  by_cases hij:i<j
  ·obtain⟨m,hm⟩ : ∃ m,m=(i+j) / 2:=⟨_,rfl⟩
   have em:((i:Int)+(j:Int)) / 2=(m:Int):=by omega
   have hmi:i≤m:=by omega
   have hmj:m<j:=by omega
   have hml:m<l.length:=by omega
   replace hm:=hid hm
   obtain⟨b,o,ha,hr⟩:=(hv.out.below hB.out).range m hml
   subst ha
   have hiff:=hid (hbg.out m hml)
   generalize l[m]=n at *
   have Z2C:=hid (Z6f n p wr)
   have hE':=hE.out #[.agg n.cells,.int .u64 (p:Int)] wr
   replace hr:=hid hr
   go_wp2_with (refine Zx (by rfl) 89 (.tmp 27) (by rfl) b (o+m * 12) (by rfl) n.cells _ hr.out Tryz.underlying89 (by rfl) (by kernel_rfl) ?_)
   refine Z2C.out.mono ?_
   rintro e w2 ⟨rfl,hb2⟩
   have hB2:=hid (sn hB.out hb2)
   clear hb2 Z2C hE' hr em
   have hneg:=ZaL n.path p
   by_cases hlt:n.path<p
   ·have hq:=hiff.out.1 hlt
    rw[decide_eq_true hlt]at hneg
    clear hlt hiff
    go_wp2_with fail
    go_roundw
    case rel=>exact⟨m+1,j,by omega,h2,h3,by go_num,rfl,hB2⟩
    case measure=>simp[intOf];omega
   ·have hq:¬ m<q:=fun hh=>hlt (hiff.out.2 hh)
    rw[decide_eq_false hlt]at hneg
    clear hlt hiff
    go_wp2_with fail
    go_roundw
    case rel=>exact⟨i,m,h1,by omega,by omega,rfl,rfl,hB2⟩
    case measure=>simp[intOf];omega
  ·obtain rfl:i=q:=by omega
   by_cases hil:i<l.length
   ·obtain⟨b,o,ha,hr⟩:=(hv.out.below hB.out).range i hil
    subst ha
    have hr2:Hid (r=decide (l[i].path=p)):=hid (by rw[hga.out,List.getElem?_eq_getElem hil])
    generalize l[i]=n at *
    have Z2C:=hid (Z6f n p wr)
    have hE':=hE.out #[.agg n.cells,.int .u64 (p:Int)] wr
    have hz:=Z93 n.path p
    rw[←hr2.out]at hz
    obtain⟨d0,d1,d2,d3,d4,d5,d6,d7,d8,d9,d10,d11⟩:=Zcy hr
    rw[Z7]at hE'
    replace hr:=hid hr
    go_wp2_with fail
    refine Z2C.out.mono ?_
    rintro e w2 ⟨rfl,hb2⟩
    have hB2:=hid (sn hB.out hb2)
    clear hb2 Z2C hE' hr d0 d1 d2 d3 d4 d5 d6 d7 d8 d9 d10 d11
    go_wp2_with fail
    go_ret2
    exact⟨rfl,hB2.out⟩
   ·have hr2:r=false:=by rw[hga.out,List.getElem?_eq_none (by omega)]
    subst hr2
    have k1:decide ((i:Int)<(l.length:Int))=false:=by simp;omega
    have k2:decide (i<l.length)=false:=by simp;omega
    go_wp2_with fail
    go_ret2
    exact⟨rfl,hB.out⟩
end
section
variable {V:ByteArray→Bool}
theorem Z7P {l:List Nod} (h:Z16 l) (p:Nat):Z1G l p=l.filter (fun n=>decide (n.path<p))++l.filter (fun n=>decide (p<n.path)):=by
 induction l with
 | nil=>rfl
 | cons a l ih =>
  have h1:=h.head
  unfold Z1G at ih ⊢
  rcases Nat.lt_trichotomy a.path p with hh | hh | hh
  ·rw[List.filter_cons_of_pos (by simp;omega),List.filter_cons_of_pos (by simpa using hh),List.filter_cons_of_neg (by simp;omega),ih h.tail,List.cons_append]
  ·rw[List.filter_cons_of_neg (by simpa using hh),List.filter_cons_of_neg (by simp;omega),List.filter_cons_of_neg (by simp;omega),ih h.tail]
  ·have e1:l.filter (fun n=>decide (n.path<p))=[]:=List.filter_eq_nil_iff.2 fun b hb=>by have:=h1 b hb;simp;omega
   rw[List.filter_cons_of_pos (by simp;omega),List.filter_cons_of_neg (by simp;omega),List.filter_cons_of_pos (by simpa using hh),ih h.tail,e1]
   rfl
theorem Z3B {l:List Nod} (h:Z16 l) (y:Nod):(Z1B l y).Perm (y :: Z1G l y.path):=by
 unfold Z1B
 rw[Z7P h]
 exact List.perm_middle
theorem Z5B {l:List Nod} (h:Z16 l) {x:Nod} (hx:x∈l):l.Perm (x :: Z1G l x.path):=by
 have e:Z1B l x=l:=by
  refine List.Perm.eq_of_pairwise (le:=fun a b:Nod=>a.path<b.path) (fun a b _ _ h1 h2=>by omega) (h.set x) h ?_
  have hn : ∀ m:List Nod,Z16 m→m.Nodup:=fun m hm=>List.Pairwise.imp (fun {a b} hh e=>by rw[e]at hh;omega) hm
  refine(List.perm_ext_iff_of_nodup (hn _ (h.set x)) (hn _ h)).2 fun n=>?_
  rw[ZA]
  constructor
  ·rintro(e |⟨e,_⟩)
   ·rw[e];exact hx
   ·exact e
  ·intro hn
   by_cases e:n.path=x.path
   ·exact .inl (h.inj hn hx e)
   ·exact .inr ⟨hn,e⟩
 have:=Z3B h x
 rwa [e]at this
theorem Z6g {l:List Nod} {p:Nat} (h:ZM l p=none):Z1G l p=l:=List.filter_eq_self.2 fun n hn=>by simpa using Z1X.1 h n hn
theorem Z3b {l m:List Nod} (h:l.Perm m):Z10 l=Z10 m:=(h.map _).sum_nat
theorem Z2i (x:Nod) (l:List Nod):Z10 (x :: l)=x.data.size+Z10 l:=by unfold Z10;simp
theorem Z3C {l:List Nod} (h:Z16 l) {x:Nod} (hx:x∈l) (y:Nod) (hp:y.path=x.path):Z10 (Z1B l y)+x.data.size=Z10 l+y.data.size:=by
 rw[Z3b (Z3B h y),Z3b (Z5B h hx),Z2i,Z2i,hp];omega
theorem Z4H {l:List Nod} (h:Z16 l) {x:Nod} (hx:x∈l) (y:Nod) (hp:y.path=x.path):(Z1B l y).length=l.length:=by
 rw[(Z3B h y).length_eq,(Z5B h hx).length_eq,List.length_cons,List.length_cons,hp]
theorem Z95 {l:List Nod} (h:Z16 l) (y:Nod) (hp:ZM l y.path=none):Z10 (Z1B l y)=Z10 l+y.data.size:=by
 rw[Z3b (Z3B h y),Z2i,Z6g hp];omega
theorem Zcz {l:List Nod} (h:Z16 l) (y:Nod) (hp:ZM l y.path=none):(Z1B l y).length=l.length+1:=by
 rw[(Z3B h y).length_eq,List.length_cons,Z6g hp]
theorem Z7i (l:List Nod) (p:Nat):(Z1G l p).length≤l.length:=List.length_filter_le _ _
theorem Z7Q {l:List Nod} (h:Z16 l) {x:Nod} (hx:x∈l):Z10 (Z1G l x.path)+x.data.size=Z10 l:=by
 rw[Z3b (Z5B h hx),Z2i];omega
theorem OkV.free {t:Tr} (h:OkV V t):ZM t.n t.next=none:=Z1X.2 fun n hn=>by have:=(h.low n hn).2;omega
theorem OkV.touch {t:Tr} (h:OkV V t) {x y:Nod} (hx:x∈t.n) (hp:y.path=x.path) (hm:y.mode=x.mode) (hn:y.name=x.name) (hu:y.up=x.up) (hg:y.gone=x.gone)
  (hi:V y.uid=true∧V y.gid=true∧V y.muid=true) (hl:y.data.size≤4096) (he:ZF y=true→y.data.size=0) (hb:Z10 (Z1B t.n y)≤16384):OkV V ⟨t.next,Z1B t.n y⟩:=by
 have hd:ZF y=ZF x:=by unfold ZF;rw[hm]
 have hk : ∀ d,Z1m d y=Z1m d x:=fun d=>by unfold Z1m;rw[hp,hu,hg]
 have sw : ∀ u∈t.n,∃ u'∈Z1B t.n y,u'.path=u.path∧ZF u'=ZF u∧u'.gone=u.gone∧u'.up=u.up∧u'.name=u.name:=fun u hu'=>by
  by_cases e:u.path=x.path
  ·have:u=x:=h.sort.inj hu' hx e
   rw[this]
   exact⟨y,ZA.2 (.inl rfl),hp,hd,hg,hu,hn⟩
  ·exact⟨u,ZA.2 (.inr ⟨hu',by rw[hp];exact e⟩),rfl,rfl,rfl,rfl,rfl⟩
 refine⟨h.sort.set y,?_,?_,?_,?_,?_,?_,?_,?_,?_,?_,?_,hb,?_⟩
 ·obtain⟨r,hr,r1,r2,r3,r4,r5⟩:=h.root
  obtain⟨r',hr',s1,s2,s3,s4,s5⟩:=sw r hr
  exact⟨r',hr',s1.trans r1,s2.trans r2,s4.trans r3,s3.trans r4,s5.trans r5⟩
 ·intro n hn'
  rcases ZA.1 hn' with e |⟨e,_⟩
  ·rw[e,hp];exact h.low x hx
  ·exact h.low n e
 ·intro n hn'
  rcases ZA.1 hn' with e |⟨e,_⟩
  ·rw[e,hm];exact h.bits x hx
  ·exact h.bits n e
 ·intro n hn'
  rcases ZA.1 hn' with e |⟨e,_⟩
  ·rw[e];exact he
  ·exact h.empt n e
 ·intro n hn'
  rcases ZA.1 hn' with e |⟨e,_⟩
  ·rw[e,hp,hn];exact h.nam x hx
  ·exact h.nam n e
 ·intro n hn'
  rcases ZA.1 hn' with e |⟨e,_⟩
  ·rw[e];exact hi
  ·exact h.ids n e
 ·intro n hn'
  rcases ZA.1 hn' with e |⟨e,_⟩
  ·rw[e];exact hl
  ·exact h.len n e
 ·intro n hn'
  rcases ZA.1 hn' with e |⟨e,_⟩
  ·rw[e,hg,hu];exact h.gon x hx
  ·exact h.gon n e
 ·intro n hn' hgn
  have old : ∃ m∈t.n,m.gone=false∧m.up=n.up:=by
   rcases ZA.1 hn' with e |⟨e,_⟩
   ·exact⟨x,hx,by rw[←hg,←e];exact hgn,by rw[e,hu]⟩
   ·exact⟨n,e,hgn,rfl⟩
  obtain⟨m,hm1,hm2,hm3⟩:=old
  obtain⟨u,hu1,hu2,hu3,hu4⟩:=h.par m hm1 hm2
  obtain⟨u',v1,v2,v3,v4,_⟩:=sw u hu1
  exact⟨u',v1,v2.trans (hu2.trans hm3),v3.trans hu3,v4.trans hu4⟩
 ·intro a ha b hb' d ka kb hab
  rcases ZA.1 ha with ea |⟨ea,na⟩ <;> rcases ZA.1 hb' with eb |⟨eb,nb⟩
  ·rw[ea,eb]
  ·rw[ea,hk]at ka;rw[ea,hn]at hab
   have:=h.uniq x hx b eb d ka kb hab
   rw[←this]at nb;exact absurd hp.symm nb
  ·rw[eb,hk]at kb;rw[eb,hn]at hab
   have:=h.uniq a ea x hx d ka kb hab
   rw[this]at na;exact absurd hp.symm na
  ·exact h.uniq a ea b eb d ka kb hab
 ·show(Z1B t.n y).length≤64
  rw[Z4H h.sort hx y hp];exact h.few
 ·intro n hn' hgn
  have old : ∃ m∈t.n,m.gone=false∧m.path=n.path:=by
   rcases ZA.1 hn' with e |⟨e,_⟩
   ·exact⟨x,hx,by rw[←hg,←e];exact hgn,by rw[e,hp]⟩
   ·exact⟨n,e,hgn,rfl⟩
  obtain⟨m,hm1,hm2,hm3⟩:=old
  rw[←hm3]
  refine Leads.imp (fun p k hk hgk=>?_) (h.way m hm1 hm2)
  show ∃ n',ZM (Z1B t.n y) p=some n'∧_
  rw[Z5x h.sort]
  by_cases e:p=y.path
  ·rw[if_pos e]
   obtain⟨k1,k2⟩:=Zr hk
   have:k=x:=h.sort.inj k1 hx (by rw[k2,e,hp])
   exact⟨y,rfl,by rw[hg,←this];exact hgk,by rw[hu,this]⟩
  ·rw[if_neg e];exact⟨k,hk,hgk,rfl⟩
theorem OkV.add {t:Tr} (h:OkV V t) {y d:Nod} (hd:d∈t.n) (hd1:ZF d=true) (hd2:d.gone=false) (hp:y.path=t.next) (hu:y.up=d.path) (hg:y.gone=false) (hbi:ZV y.mode=true) (hna:ZJ y.name=0)
  (hi:V y.uid=true∧V y.gid=true∧V y.muid=true) (hz:y.data.size=0) (hf:Z1F t.n d.path y.name=none) (hl:t.n.length<64):OkV V ⟨t.next+1,Z1B t.n y⟩:=by
 have hfree:ZM t.n y.path=none:=by rw[hp];exact h.free
 have old : ∀ n∈t.n,n∈Z1B t.n y:=fun n hn=>ZA.2 (.inr ⟨hn,Z1X.1 hfree n hn⟩)
 have lead : ∀ {p},Leads t.n p→Leads (Z1B t.n y) p:=fun hh=>Leads.imp (fun p k hk hgk=>by
  refine⟨k,?_,hgk,rfl⟩
  rw[Z5x h.sort,if_neg (fun e=>by rw[e,hfree]at hk;cases hk)];exact hk) hh
 obtain⟨r,hr,r1,r2,r3,r4,r5⟩:=h.root
 refine⟨h.sort.set y,⟨r,old r hr,r1,r2,r3,r4,r5⟩,?_,?_,?_,?_,?_,?_,?_,?_,?_,?_,?_,?_⟩
 ·intro n hn
  show 1≤n.path∧n.path<t.next+1
  rcases ZA.1 hn with e |⟨e,_⟩
  ·have:=h.low d hd;rw[e,hp];omega
  ·have:=h.low n e;omega
 ·intro n hn
  rcases ZA.1 hn with e |⟨e,_⟩
  ·rw[e];exact hbi
  ·exact h.bits n e
 ·intro n hn hdn
  rcases ZA.1 hn with e |⟨e,_⟩
  ·rw[e];exact hz
  ·exact h.empt n e hdn
 ·intro n hn h1
  rcases ZA.1 hn with e |⟨e,_⟩
  ·rw[e];exact hna
  ·exact h.nam n e h1
 ·intro n hn
  rcases ZA.1 hn with e |⟨e,_⟩
  ·rw[e];exact hi
  ·exact h.ids n e
 ·intro n hn
  rcases ZA.1 hn with e |⟨e,_⟩
  ·rw[e,hz];omega
  ·exact h.len n e
 ·intro n hn hgn
  rcases ZA.1 hn with e |⟨e,_⟩
  ·rw[e,hg]at hgn;cases hgn
  ·exact h.gon n e hgn
 ·intro n hn hgn
  rcases ZA.1 hn with e |⟨e,_⟩
  ·exact⟨d,old d hd,by rw[e,hu],hd1,hd2⟩
  ·obtain⟨u,h1,h2,h3,h4⟩:=h.par n e hgn
   exact⟨u,old u h1,h2,h3,h4⟩
 ·intro a ha b hb e ka kb hab
  have fresh : ∀ c∈t.n,Z1m e y=true→Z1m e c=true→c.name=y.name→False:=fun c hc ky kc hn=>by
   have e1:e=d.path:=by unfold Z1m at ky;simp only[Bool.and_eq_true,decide_eq_true_eq]at ky;rw[←hu];exact ky.2.symm
   rw[e1]at kc
   exact Z58.1 hf c hc kc hn
  rcases ZA.1 ha with ea |⟨ea,na⟩ <;> rcases ZA.1 hb with eb |⟨eb,nb⟩
  ·rw[ea,eb]
  ·rw[ea]at ka hab;exact absurd (fresh b eb ka kb hab.symm) (by simp)
  ·rw[eb]at kb hab;exact absurd (fresh a ea kb ka hab) (by simp)
  ·exact h.uniq a ea b eb e ka kb hab
 ·show(Z1B t.n y).length≤64
  rw[Zcz h.sort y hfree];omega
 ·show Z10 (Z1B t.n y)≤16384
  rw[Z95 h.sort y hfree,hz];exact h.byt
 ·intro n hn hgn
  rcases ZA.1 hn with e |⟨e,_⟩
  ·rw[e]
   exact .up (Z3U (h.sort.set y) (ZA.2 (.inl rfl))) hg (by rw[hu];exact lead (h.way d hd hd2))
  ·exact lead (h.way n e hgn)
theorem OkV.leaf {t:Tr} (h:OkV V t) {x:Nod} (hx:x∈t.n) (h1:x.path≠1) (hk:Z1r t.n x.path=[]) {n:Nod} (hn:n∈t.n) (hg:n.gone=false):n.up≠x.path:=fun e=>by
 by_cases e1:n.path=1
 ·obtain⟨r,hr,r1,_,r3,_⟩:=h.root
  have:n=r:=h.sort.inj hn hr (by rw[e1,r1])
  rw[this,r3]at e;exact h1 e.symm
 ·have:n∈Z1r t.n x.path:=List.mem_filter.2 ⟨hn,by unfold Z1m;simp[hg,e1,e]⟩
  rw[hk]at this;cases this
theorem OkV.out {t:Tr} (h:OkV V t) {x:Nod} (hx:x∈t.n) (h1:x.path≠1) (hk:Z1r t.n x.path=[]):OkV V ⟨t.next,Z1B t.n (Z3A x)⟩:=by
 have hp:(Z3A x).path=x.path:=rfl
 have keep : ∀ n∈t.n,n.path≠x.path→n∈Z1B t.n (Z3A x):=fun n hn e=>ZA.2 (.inr ⟨hn,e⟩)
 have nok : ∀ d,Z1m d (Z3A x)=false:=fun d=>by unfold Z1m;rfl
 obtain⟨r,hr,r1,r2,r3,r4,r5⟩:=h.root
 refine⟨h.sort.set _,⟨r,keep r hr (by rw[r1];exact fun e=>h1 e.symm),r1,r2,r3,r4,r5⟩,?_,?_,?_,?_,?_,?_,?_,?_,?_,?_,?_,?_⟩
 ·intro n hn
  rcases ZA.1 hn with e |⟨e,_⟩
  ·rw[e];exact h.low x hx
  ·exact h.low n e
 ·intro n hn
  rcases ZA.1 hn with e |⟨e,_⟩
  ·rw[e];exact h.bits x hx
  ·exact h.bits n e
 ·intro n hn
  rcases ZA.1 hn with e |⟨e,_⟩
  ·rw[e];exact h.empt x hx
  ·exact h.empt n e
 ·intro n hn
  rcases ZA.1 hn with e |⟨e,_⟩
  ·rw[e];exact h.nam x hx
  ·exact h.nam n e
 ·intro n hn
  rcases ZA.1 hn with e |⟨e,_⟩
  ·rw[e];exact h.ids x hx
  ·exact h.ids n e
 ·intro n hn
  rcases ZA.1 hn with e |⟨e,_⟩
  ·rw[e];exact h.len x hx
  ·exact h.len n e
 ·intro n hn hgn
  rcases ZA.1 hn with e |⟨e,_⟩
  ·rw[e];rfl
  ·exact h.gon n e hgn
 ·intro n hn hgn
  rcases ZA.1 hn with e |⟨e,_⟩
  ·rw[e]at hgn;cases hgn
  ·obtain⟨u,u1,u2,u3,u4⟩:=h.par n e hgn
   exact⟨u,keep u u1 (by rw[u2];exact h.leaf hx h1 hk e hgn),u2,u3,u4⟩
 ·intro a ha b hb d ka kb hab
  rcases ZA.1 ha with ea |⟨ea,na⟩ <;> rcases ZA.1 hb with eb |⟨eb,nb⟩
  ·rw[ea,eb]
  ·rw[ea,nok]at ka;cases ka
  ·rw[eb,nok]at kb;cases kb
  ·exact h.uniq a ea b eb d ka kb hab
 ·show(Z1B t.n _).length≤64
  rw[Z4H h.sort hx _ hp];exact h.few
 ·show Z10 (Z1B t.n _)≤16384
  have:=Z3C h.sort hx (Z3A x) hp
  have e:(Z3A x).data.size=x.data.size:=rfl
  have:=h.byt
  omega
 ·intro n hn hgn
  rcases ZA.1 hn with e |⟨e,ne⟩
  ·rw[e]at hgn;cases hgn
  ·have lead : ∀ p,Leads t.n p→p≠x.path→Leads (Z1B t.n (Z3A x)) p:=fun p hp=>by
    induction hp with
    | root=>exact fun _=>.root
    | @up p k hg hq _ ih =>
     intro hne
     have hkm:=(Zr hg).1
     refine .up (n:=k) ?_ hq (ih (h.leaf hx h1 hk hkm hq))
     rw[Z5x h.sort,if_neg (by exact hne)];exact hg
   exact lead _ (h.way n e hgn) ne
theorem OkV.forget {t:Tr} (h:OkV V t) {x:Nod} (hx:x∈t.n) (hg:x.gone=true):OkV V ⟨t.next,Z1G t.n x.path⟩:=by
 have keep : ∀ n∈t.n,n.gone=false→n∈Z1G t.n x.path:=fun n hn hgn=>Z1x.2 ⟨hn,fun e=>by rw[h.sort.inj hn hx e,hg]at hgn;cases hgn⟩
 obtain⟨r,hr,r1,r2,r3,r4,r5⟩:=h.root
 refine⟨h.sort.drop _,⟨r,keep r hr r4,r1,r2,r3,r4,r5⟩,fun n hn=>h.low n (Z1x.1 hn).1,fun n hn=>h.bits n (Z1x.1 hn).1,fun n hn=>h.empt n (Z1x.1 hn).1,fun n hn=>h.nam n (Z1x.1 hn).1,fun n hn=>h.ids n (Z1x.1 hn).1,fun n hn=>h.len n (Z1x.1 hn).1,fun n hn=>h.gon n (Z1x.1 hn).1,?_,fun a ha b hb=>h.uniq a (Z1x.1 ha).1 b (Z1x.1 hb).1,Nat.le_trans (Z7i _ _) h.few,?_,?_⟩
 ·intro n hn hgn
  obtain⟨u,u1,u2,u3,u4⟩:=h.par n (Z1x.1 hn).1 hgn
  exact⟨u,keep u u1 u4,u2,u3,u4⟩
 ·show Z10 (Z1G t.n x.path)≤16384
  have:=Z7Q h.sort hx
  have:=h.byt
  omega
 ·intro n hn hgn
  refine Leads.imp (fun p k hk hgk=>⟨k,?_,hgk,rfl⟩) (h.way n (Z1x.1 hn).1 hgn)
  obtain⟨k1,k2⟩:=Zr hk
  rw[←k2]
  exact Z3U (h.sort.drop _) (keep k k1 hgk)
end
section
variable {V:ByteArray→Bool}
theorem Z6h (x:Nod) (who:ByteArray) (now:Nat):(ZW x who now).path=x.path∧(ZW x who now).mode=x.mode∧(ZW x who now).name=x.name∧(ZW x who now).up=x.up∧(ZW x who now).gone=x.gone∧(ZW x who now).uid=x.uid∧(ZW x who now).gid=x.gid∧(ZW x who now).muid=who∧(ZW x who now).data=x.data:=⟨rfl,rfl,rfl,rfl,rfl,rfl,rfl,rfl,rfl⟩
theorem OkV.touched {t:Tr} (h:OkV V t) {x:Nod} (hx:x∈t.n) (who:ByteArray) (now:Nat) (hw:V who=true):OkV V ⟨t.next,Z1B t.n (ZW x who now)⟩:=by
 obtain⟨a1,a2,a3,a4,a5,a6,a7,a8,a9⟩:=Z6h x who now
 generalize ZW x who now=y at *
 have hi:=h.ids x hx
 refine h.touch hx a1 a2 a3 a4 a5 ⟨by rw[a6];exact hi.1,by rw[a7];exact hi.2.1,by rw[a8];exact hw⟩ (by rw[a9];exact h.len x hx) (by rw[a9,show ZF y=ZF x by unfold ZF;rw[a2]];exact h.empt x hx) ?_
 have:=Z3C h.sort hx y a1
 have:=h.byt
 rw[a9]at *
 omega
theorem ZaM {l:List Nod} (h:Z16 l) {x y:Nod} (hx:x∈l) (hp:y.path=x.path) (hn:y.name=x.name) (hu:y.up=x.up) (hg:y.gone=x.gone) (d:Nat) (s:ByteArray) (hf:Z1F l d s=none):Z1F (Z1B l y) d s=none:=by
 rw[Z58]at hf ⊢
 intro n hn' hk hns
 rcases ZA.1 hn' with e |⟨e,_⟩
 ·rw[e]at hk hns
  exact hf x hx (by unfold Z1m at hk ⊢;rw[←hp,←hu,←hg];exact hk) (by rw[←hn];exact hns)
 ·exact hf n e hk hns
theorem ZaN {t:Tr} (h:OkV V t) (d:Nat) (name:ByteArray) (mode:Nat) (uid gid:ByteArray) (now:Nat) (hb:ZV mode=true) (hu:V uid=true) (hg:V gid=true):OkV V (Z11 t d name mode uid gid now).1:=by
 unfold Z11
 cases hq:ZM t.n d with
 | none=>exact h
 | some x =>
  obtain⟨hx,hxp⟩:=Zr hq
  simp only
  split
  ·exact h
  ·rename_i hd
   split
   ·exact h
   ·rename_i hgn
    split
    ·exact h
    ·rename_i hn
     split
     ·exact h
     ·rename_i hf
      split
      ·exact h
      ·rename_i hl
       have hf':Z1F t.n d name=none:=by
        cases hh:Z1F t.n d name with
        | none=>rfl
        | some _=>rw[hh]at hf;exact absurd rfl hf
       have h1:=h.touched hx uid now hu
       obtain⟨a1,a2,a3,a4,a5,a6,a7,a8,a9⟩:=Z6h x uid now
       have hm:ZW x uid now∈Z1B t.n (ZW x uid now):=ZA.2 (.inl rfl)
       refine OkV.add (t:=⟨t.next,Z1B t.n (ZW x uid now)⟩) (d:=ZW x uid now) h1 hm (by unfold ZF at hd ⊢;rw[a2];simpa using hd) (by rw[a5];simpa using hgn) rfl (by rw[a1,hxp];rfl) rfl hb (by show ZJ name=0;omega) ⟨hu,hg,hu⟩ rfl ?_ ?_
       ·show Z1F (Z1B t.n (ZW x uid now)) (ZW x uid now).path name=none
        rw[a1,hxp]
        exact ZaM h.sort hx a1 a3 a4 a5 d name hf'
       ·show(Z1B t.n (ZW x uid now)).length<64
        rw[Z4H h.sort hx _ a1];omega
theorem Z7j {t:Tr} (h:OkV V t) {x:Nod} (hx:x∈t.n) (hd:ZF x=false) (b who:ByteArray) (now:Nat) (hb:b.size≤4096) (hw:V who=true):OkV V (Z2n t x b who now).1:=by
 unfold Z2n
 split
 ·exact h
 ·rename_i hh
  have hi:=h.ids x hx
  have hs:=Z3C h.sort hx {ZW x who now with data:=b} rfl
  have e:({ZW x who now with data:=b}:Nod).data=b:=rfl
  refine h.touch hx rfl rfl rfl rfl rfl ⟨hi.1,hi.2.1,hw⟩ hb (fun hh=>?_) ?_
  ·have:ZF ({ZW x who now with data:=b}:Nod)=ZF x:=rfl
   rw[this,hd]at hh;cases hh
  ·rw[e]at hs;omega
theorem Z3D (d:ByteArray) (off:Nat) (b:ByteArray):(ZaC d off b).size=off+b.size+(d.size - (off+b.size)):=by
 unfold ZaC
 rw[Z2F]
 simp only[List.length_append,Z21,List.length_drop]
 rfl
theorem ZcA {t:Tr} (h:OkV V t) (p off:Nat) (b who:ByteArray) (now:Nat) (hw:V who=true):OkV V (Z3V t p off b who now).1:=by
 unfold Z3V
 cases hq:ZM t.n p with
 | none=>exact h
 | some x =>
  obtain⟨hx,hxp⟩:=Zr hq
  simp only
  split
  ·exact h
  ·rename_i hd
   generalize (if Z69 x=true then x.data.size else off)=o
   split
   ·exact h
   ·rename_i ho
    split
    ·exact h
    ·refine Z7j h hx (by simpa using hd) _ who now ?_ hw
     rw[Z3D]
     have:=h.len x hx
     omega
theorem ZcB {t:Tr} (h:OkV V t) (p size:Nat) (who:ByteArray) (now:Nat) (hw:V who=true):OkV V (Z2e t p size who now).1:=by
 unfold Z2e
 cases hq:ZM t.n p with
 | none=>exact h
 | some x =>
  obtain⟨hx,hxp⟩:=Zr hq
  simp only
  split
  ·exact h
  ·rename_i hd
   split
   ·exact h
   ·refine Z7j h hx (by simpa using hd) _ who now ?_ hw
    rw[Z2F,Z21];omega
theorem ZaO {t:Tr} (h:OkV V t) (p off k now:Nat):OkV V (Z2O t p off k now).1:=by
 unfold Z2O
 cases hq:ZM t.n p with
 | none=>exact h
 | some x =>
  obtain⟨hx,hxp⟩:=Zr hq
  simp only
  split
  ·exact h
  ·refine h.touch hx rfl rfl rfl rfl rfl (h.ids x hx) (h.len x hx) (h.empt x hx) ?_
   have:=Z3C h.sort hx {x with atm:=now} rfl
   have e:({x with atm:=now}:Nod).data=x.data:=rfl
   rw[e]at this
   have:=h.byt
   omega
theorem Z7R {t:Tr} (h:OkV V t) (p:Nat) (who:ByteArray) (now:Nat) (hw:V who=true):OkV V (ZQ t p who now).1:=by
 unfold ZQ
 cases hq:ZM t.n p with
 | none=>exact h
 | some x =>
  obtain⟨hx,hxp⟩:=Zr hq
  simp only
  split
  ·exact h
  ·rename_i h1
   split
   ·exact h
   ·rename_i hg
    split
    ·exact h
    ·rename_i hk
     have hk':Z1r t.n x.path=[]:=by rw[hxp];simpa using hk
     have h2:=h.out hx (by rw[hxp];exact h1) hk'
     cases hu:ZM t.n x.up with
     | none=>exact h2
     | some d =>
      obtain⟨hd,hdp⟩:=Zr hu
      have hne:d.path≠x.path:=by
       rw[hdp]
       exact h.leaf hx (by rw[hxp];exact h1) hk' hx (by simpa using hg)
      exact OkV.touched (t:=⟨t.next,Z1B t.n (Z3A x)⟩) h2 (ZA.2 (.inr ⟨hd,hne⟩)) who now hw
theorem Z7k {t:Tr} (h:OkV V t) (p:Nat):OkV V (Z1O t p).1:=by
 unfold Z1O
 cases hq:ZM t.n p with
 | none=>exact h
 | some x =>
  obtain⟨hx,hxp⟩:=Zr hq
  simp only
  split
  ·rename_i hg
   rw[←hxp];exact h.forget hx hg
  ·exact h
end
section
open Go.RowKit
def Zk:Nod:=⟨0,0,0,0,0,⟨#[]⟩,⟨#[]⟩,⟨#[]⟩,⟨#[]⟩,0,false,⟨#[]⟩⟩
theorem Zc:Zk.cells=#[.int .u64 0,.int .u32 0,.int .u32 0,.int .u32 0,.int .u32 0,.string ⟨#[]⟩,.string ⟨#[]⟩,.string ⟨#[]⟩,.string ⟨#[]⟩,.int .u64 0,.bool false,.string ⟨#[]⟩]:=rfl
def Z1M (l:List Nod) (p:Nat):Nod:=(ZM l p).getD Zk
theorem Zy {P:Program} {fn:Func} {p q:Tmp} {ty:TypeId} (h:fn.results=#[.cell p ty,.tmp q]) (tmps:Array Value) (w:World) (g:Nat) (t:TypeId) (cs:Array Value) (fr:Nat×Nat) (d:TypeDesc) (x:Value)
  (hp:tmps.getD p undef=.pointer (some ⟨g,0,none⟩)) (hq:tmps.getD q undef=x) (hg:w.heap[g]?=some (.cells cs t fr))
  (hu:P.underlying ty=some d) (hd:(match d with | .struct _ | .array _ _=>true | _=>false)=true) (hi:(P.info? ty).map (·.size)=some cs.size) :
  (results fn tmps).run P w=.ok (.tuple #[.agg cs,x]) w:=by
 have hp':tmps[p]?.getD undef=.pointer (some ⟨g,0,none⟩):=by simpa using hp
 have hq':tmps[q]?.getD undef=x:=by simpa using hq
 simp[results,h,hp',hq',asAddr,run_loadVar_row w g t ty cs fr d hg hu hd hi]
theorem Z1f {P:Program} {fn:Func} {p q r:Tmp} {ty:TypeId} (h:fn.results=#[.cell p ty,.tmp q,.tmp r]) (tmps:Array Value) (w:World) (g:Nat) (t:TypeId) (cs:Array Value) (fr:Nat×Nat) (d:TypeDesc) (x y:Value)
  (hp:tmps.getD p undef=.pointer (some ⟨g,0,none⟩)) (hq:tmps.getD q undef=x) (hr:tmps.getD r undef=y) (hg:w.heap[g]?=some (.cells cs t fr))
  (hu:P.underlying ty=some d) (hd:(match d with | .struct _ | .array _ _=>true | _=>false)=true) (hi:(P.info? ty).map (·.size)=some cs.size) :
  (results fn tmps).run P w=.ok (.tuple #[.agg cs,x,y]) w:=by
 have hp':tmps[p]?.getD undef=.pointer (some ⟨g,0,none⟩):=by simpa using hp
 have hq':tmps[q]?.getD undef=x:=by simpa using hq
 have hr':tmps[r]?.getD undef=y:=by simpa using hr
 simp[results,h,hp',hq',hr',asAddr,run_loadVar_row w g t ty cs fr d hg hu hd hi]
theorem Z6i (v:Value) (x:Nat) (l:List Nod) (p:Nat) (w:World) (hv:Z3 w v l) (hs:Z16 l) (hl:l.length≤1000) :
  Calls Tryz.prog 94 #[.agg #[.int .u64 (x:Int),v],.int .u64 (p:Int)] w fun e w'=>e=.returned (.tuple #[.int .i64 (Z14 l p:Int),.bool (ZM l p).isSome])∧Below w.heap.size w w':=by
 obtain⟨a,c,rfl,g1,g2⟩:=hv.form
 have hb0:=(Below.refl w.heap.size w).alloc (Nat.le_refl _) (.cells #[.int .u64 (x:Int),.slice a l.length c] 30)
 have hc:=hid (Z6P _ l p _ (hv.below hb0) hs hl)
 replace hb0:=hid hb0
 generalize (ZM l p).isSome=r at *
 generalize Z14 l p=q at *
 clear hv hs
 go_enter Tryz.func94,Tryz.ntmps94
 go_wp2_with fail
 refine hc.out.mono ?_
 rintro e w1 ⟨rfl,hb1⟩
 have hB:=hid (hb0.out.trans (hb1.mono (by simp)))
 clear hb1
 go_wp2_with fail
 go_ret2
 exact⟨rfl,hB.out⟩
def Z3n (w:World) (l:List Nod) (p:Nat) (e:Ending) (w':World):Prop:=e=.returned (.tuple #[.agg (Z1M l p).cells,.bool (ZM l p).isSome])∧Below w.heap.size w w'
set_option maxHeartbeats 1600000 in
theorem Z22 (v:Value) (x:Nat) (l:List Nod) (p:Nat) (w:World) (hv:Z3 w v l) (hs:Z16 l) (hl:l.length≤1000) :
  Calls Tryz.prog 45 #[.agg #[.int .u64 (x:Int),v],.int .u64 (p:Int)] w (Z3n w l p):=by
 obtain⟨a,c,rfl,g1,g2⟩:=hv.form
 unfold maxLen at g2
 obtain⟨W,hW⟩ : ∃ W,W=(w.alloc (.cells #[.int .u64 (x:Int),.slice a l.length c] 30)).alloc (.cells Zk.cells 89):=⟨_,rfl⟩
 have hb0:Below w.heap.size w W:=by rw[hW];exact((Below.refl w.heap.size w).alloc (Nat.le_refl _) _).alloc (by simp) _
 have hx0:W.heap[w.heap.size]?=some (.cells #[.int .u64 (x:Int),.slice a l.length c] 30 (0,0)):=by rw[hW,heap_alloc_old _ _ (by simp),heap_alloc_new]
 have hy0:W.heap[w.heap.size+1]?=some (.cells Zk.cells 89 (0,0)):=by rw[hW];exact Z27 _ _ _
 have hv0:=hid (hv.below hb0)
 have hc:=hid (fun X (h:Z3 X (.slice a l.length c) l)=>Z6i _ x l p X h hs hl)
 have hga:=hid (Z8O hs p)
 have hgs:=hid (Z4G hs p)
 have e0:=Z0 hx0 0
 have e1:=Z0 hx0 1
 have hz0:=lt_of_block hy0
 replace hb0:=hid hb0
 replace hx0:=hid hx0
 replace hy0:=hid hy0
 rw[Zc]at hW
 clear hv hs
 go_enter Tryz.func45,Tryz.ntmps45
 go_wp2_with (rw[←hW];replace hW:=hid hW)
 try (rw[←hW];replace hW:=hid hW)
 refine(hc.out _ hv0.out).mono ?_
 rintro e w1 ⟨rfl,hb1⟩
 have hB1:=hid (sn hb0.out hb1)
 have hx1:=hid ((hb1.block _ (lt_of_block hx0.out)).trans hx0.out)
 have hy1:=hid ((hb1.block _ (lt_of_block hy0.out)).trans hy0.out)
 have hv1:=hid (hv0.out.below hb1)
 have f0:=Z0 hx1.out 0
 have f1:=Z0 hx1.out 1
 clear hb1 e0 e1
 rcases hr:(ZM l p).isSome with _ | _
 ·have hn:Hid (ZM l p=none):=hid (by simpa using hr)
  rw[hr]at hgs
  clear hr
  go_wp2_with (refine wpList_store_row (by rfl) 89 (.tmp 4) (.tmp 16) (by rfl) (w.heap.size+1) Zk.cells (by rfl) (by rfl) 89 _ hy1.out (by kernel_rfl) (by kernel_rfl) (by kernel_rfl) ?_)
  refine bodyPost_ret (Zy rfl _ _ (w.heap.size+1) _ _ _ _ _ rfl rfl (setRow_heap _ _ _ Zk.cells _ _ hy1.out) Tryz.underlying89 rfl (by kernel_rfl)) rfl ?_
  refine⟨?_,below_setRow hB1.out (by omega) _⟩
  unfold Z1M
  rw[hn.out];rfl
 ·obtain⟨m,hm⟩:=Option.isSome_iff_exists.1 hr
  have hq:Hid (∃ h:Z14 l p<l.length,l[Z14 l p]=m):=hid (by
   have h:=hga.out
   rw[hm]at h
   cases hh:l[Z14 l p]? with
   | none=>rw[hh]at h;cases h
   | some k =>
    rw[hh]at h
    simp only at h
    obtain⟨h1,h2⟩:=List.getElem?_eq_some_iff.1 hh
    by_cases e:k.path=p
    ·rw[if_pos e]at h;exact⟨h1,h2.trans (Option.some.inj h).symm⟩
    ·rw[if_neg e]at h;cases h)
  replace hm:=hid hm
  clear hga hgs
  replace hr:=hid hr
  generalize Z14 l p=q at *
  obtain⟨hql,hqm⟩:=hq.out
  obtain⟨b,o,ha,hrg⟩:=hv1.out.range q hql
  rw[hqm]at hrg
  subst ha
  replace hqm:=hid hqm
  replace hrg:=hid hrg
  go_wp2_with (first
   |(refine Zx (by rfl) 89 (.tmp 20) (by rfl) b (o+q * 12) (by rfl) m.cells _ hrg.out Tryz.underlying89 (by rfl) (by kernel_rfl) ?_)
   |(refine wpList_store_row (by rfl) 89 (.tmp 4) (.tmp 21) (by rfl) (w.heap.size+1) m.cells (by rfl) (by rfl) 89 _ hy1.out (by kernel_rfl) (by kernel_rfl) (Zw m) ?_))
  refine bodyPost_ret (Zy rfl _ _ (w.heap.size+1) _ _ _ _ _ rfl rfl (setRow_heap _ _ _ m.cells _ _ hy1.out) Tryz.underlying89 rfl (by kernel_rfl)) rfl ?_
  refine⟨?_,below_setRow hB1.out (by omega) _⟩
  unfold Z1M
  rw[hm.out];rfl
end
section
open Go.RowKit
theorem Z3E (n:Nod) (w:World) (hn:NodOk n):Calls Tryz.prog 105 #[.agg n.cells] w fun e w'=>e=.returned (.bool (ZF n))∧Below w.heap.size w w':=by
 have hb:=(Below.refl w.heap.size w).alloc (Nat.le_refl _) (.cells n.cells 89)
 have hdm:=Z3x n.mode hn.mode
 have hm:=hn.mode
 have hE:Hid (ZF n = !decide (n.mode &&& 2147483648=0)):=hid rfl
 rw[Z7]at hb ⊢
 replace hb:=hid hb
 replace hn:=hid hn
 replace hdm:=hid hdm
 go_enter Tryz.func105,Tryz.ntmps105
 go_wp2_with fail
 go_ret
 exact⟨ZR (by rw[hE.out,←hdm.out]),hb.out⟩
theorem Z7l (n:Nod) (w:World) (hn:NodOk n):Calls Tryz.prog 89 #[.agg n.cells] w fun e w'=>e=.returned (.bool (ZF n))∧Below w.heap.size w w':=by
 have hb:=(Below.refl w.heap.size w).alloc (Nat.le_refl _) (.cells n.cells 89)
 have hdm:=Z3x n.mode hn.mode
 have hm:=hn.mode
 have hE:Hid (ZF n = !decide (n.mode &&& 2147483648=0)):=hid rfl
 rw[Z7]at hb ⊢
 replace hb:=hid hb
 replace hn:=hid hn
 replace hdm:=hid hdm
 go_enter Tryz.func89,Tryz.ntmps89
 go_wp2_with fail
 go_ret
 exact⟨ZR (by rw[hE.out,←hdm.out]),hb.out⟩
theorem Z96 (n:Nod) (d:Nat) (w:World):Calls Tryz.prog 99 #[.agg n.cells,.int .u64 (d:Int)] w fun e w'=>e=.returned (.bool (Z1m d n))∧Below w.heap.size w w':=by
 have hb:=hid ((Below.refl w.heap.size w).alloc (Nat.le_refl _) (.cells n.cells 89))
 have hE:Hid (Z1m d n=(!n.gone && decide (n.path≠1) && decide (n.up=d))):=hid rfl
 have k1:((n.path:Int) != 1)=decide (n.path≠1):=by
  rw[show(1:Int)=((1:Nat):Int) from rfl,bne,Z2m];simp
 have k2:((n.up:Int) ==(d:Int))=decide (n.up=d):=Z2m _ _
 rw[Z7]at hb ⊢
 generalize decide (n.path≠1)=b1 at *
 generalize decide (n.up=d)=b2 at *
 cases hg:n.gone <;> cases b1 <;> cases b2
 all_goals
  rw[hg]at hb hE
  clear hg
  go_enter Tryz.func99,Tryz.ntmps99
  go_wp2_with fail
  go_ret
  exact⟨ZR (by rw[hE.out];rfl),hb.out⟩
def Z1J (w:World) (n:Nod):World:=(w.alloc (.cells Zk.cells 89)).setRow w.heap.size n.cells
theorem ZK (w:World) (n:Nod):(Z1J w n).heap[w.heap.size]?=some (.cells n.cells 89 (0,0)):=setRow_heap _ _ _ _ _ _ (heap_alloc_new _ _)
theorem ZD (w:World) (n:Nod):Below w.heap.size w (Z1J w n):=below_setRow ((Below.refl _ _).alloc (Nat.le_refl _) _) (Nat.le_refl _) _
def Z7m (w:World) (l:List Nod) (d:Nat) (s:ByteArray) (e:Ending) (w':World):Prop:=e=.returned (.tuple #[.agg ((Z1F l d s).getD Zk).cells,.bool (Z1F l d s).isSome])∧Below w.heap.size w w'
theorem Z97 {l:List Nod} {k:Nat} (hk:k<l.length) (d:Nat) (s:ByteArray):Z1F (l.drop k) d s=if Z1m d l[k] && decide (l[k].name=s) then some l[k] else Z1F (l.drop (k+1)) d s:=by
 unfold Z1F
 rw[List.drop_eq_getElem_cons hk,List.find?_cons]
 cases Z1m d l[k] && decide (l[k].name=s) <;> rfl
set_option maxHeartbeats 3200000 in
theorem Z6j (v:Value) (x:Nat) (l:List Nod) (d:Nat) (s:ByteArray) (w:World) (hv:Z3 w v l) (hl:l.length≤1000) :
  Calls Tryz.prog 57 #[.agg #[.int .u64 (x:Int),v],.int .u64 (d:Int),.string s] w (Z7m w l d s):=by
 obtain⟨a,c,rfl,g1,g2⟩:=hv.form
 unfold maxLen at g2
 obtain⟨W,hW⟩ : ∃ W,W=(w.alloc (.cells #[.int .u64 (x:Int),.slice a l.length c] 30)).alloc (.cells Zk.cells 89):=⟨_,rfl⟩
 have hb0:Below w.heap.size w W:=by rw[hW];exact((Below.refl w.heap.size w).alloc (Nat.le_refl _) _).alloc (by simp) _
 have hx0:W.heap[w.heap.size]?=some (.cells #[.int .u64 (x:Int),.slice a l.length c] 30 (0,0)):=by rw[hW,heap_alloc_old _ _ (by simp),heap_alloc_new]
 have hy0:W.heap[w.heap.size+1]?=some (.cells Zk.cells 89 (0,0)):=by rw[hW];exact Z27 _ _ _
 have e0:=Z0 hx0 0
 have e1:=Z0 hx0 1
 replace hv:=hid hv
 replace hb0:=hid hb0
 replace hy0:=hid hy0
 clear hx0
 rw[Zc]at hW
 go_enter Tryz.func57,Tryz.ntmps57
 go_wp2_with (rw[←hW];replace hW:=hid hW)
 go_loopw [13] (fun kv wr=>∃ k:Nat,k≤l.length∧kv=.int .i64 (k:Int)∧Hid (Below w.heap.size w wr)∧Hid (wr.heap[w.heap.size+1]?=some (.cells Zk.cells 89 (0,0)))∧Hid (Z1F l d s=Z1F (l.drop k) d s)) (fun kv _=>l.length - (intOf kv).toNat)
 case atStart=>exact⟨0,by omega,rfl,hb0,hy0,hid rfl⟩
 case round =>
  obtain⟨k,hk,rfl,hB,hY,hF⟩:=hrel
  by_cases hkl:k<l.length
  ·obtain⟨b,o,ha,hr⟩:=(hv.out.below hB.out).range k hkl
   subst ha
   have hst:=hid (hF.out.trans (Z97 hkl d s))
   generalize l[k]=n at *
   have hnew:=hid (heap_alloc_new wr (.cells Zk.cells 89))
   obtain⟨W3,hW3⟩ : ∃ W,W=Z1J wr n:=⟨_,rfl⟩
   have hb3:Below wr.heap.size wr W3:=by rw[hW3];exact ZD _ _
   have hn3:=hid (show W3.heap[wr.heap.size]?=some (.cells n.cells 89 (0,0)) by rw[hW3];exact ZK _ _)
   have hB3:=hid (sn hB.out hb3)
   have hY3:=hid ((hb3.block _ (lt_of_block hY.out)).trans hY.out)
   have hkc:=hid (Z96 n d W3)
   unfold Z1J at hW3
   rw[Zc]at hW3 hnew
   replace hr:=hid hr
   clear hb3 hB hY hF
   go_wp2_with (first
    |(refine Zx (by rfl) 89 (.tmp 15) (by rfl) b (o+k * 12) (by rfl) n.cells _ hr.out Tryz.underlying89 (by rfl) (by kernel_rfl) ?_)
    |(refine wpList_store_row (by rfl) 89 (.tmp 9) (.tmp 16) (by rfl) wr.heap.size n.cells (by rfl) (by rfl) 89 _ hnew.out (by kernel_rfl) (by kernel_rfl) (Zw n) ?_)
    |(rw[←hW3];replace hW3:=hid hW3)
    |(refine wpList_load_row (by rfl) 89 (.tmp 9) (by rfl) wr.heap.size (by rfl) 89 n.cells (0,0) _ hn3.out Tryz.underlying89 (by rfl) (by kernel_rfl) ?_))
   refine hkc.out.mono ?_
   rintro e w4 ⟨rfl,hb4⟩
   have hB4:=hid (sn hB3.out hb4)
   have hY4:=hid ((hb4.block _ (lt_of_block hY3.out)).trans hY3.out)
   have hn4:=hid ((hb4.block _ (lt_of_block hn3.out)).trans hn3.out)
   have q5:w4.cell? ⟨wr.heap.size,5,none⟩=some (.string n.name):=Z0 hn4.out 5
   clear hb4 hkc hr hnew hn3 hB3 hY3
   generalize wr.heap.size=z at *
   rcases hkb:Z1m d n with _ | _
   ·have hF2:=hid (show Z1F l d s=Z1F (l.drop (k+1)) d s by rw[hst.out,hkb];rfl)
    clear hkb hst
    go_wp2_with fail
    go_roundw
    case rel=>exact⟨k+1,by omega,by go_num,hB4,hY4,hF2⟩
    case measure=>simp[intOf];omega
   ·have hq:(n.name.toList == s.toList)=decide (n.name=s):=Z3l _ _
    rcases hnb:decide (n.name=s) with _ | _
    ·have hF2:=hid (show Z1F l d s=Z1F (l.drop (k+1)) d s by rw[hst.out,hkb,hnb];rfl)
     rw[hnb]at hq
     clear hkb hst hnb
     go_wp2_with fail
     go_roundw
     case rel=>exact⟨k+1,by omega,by go_num,hB4,hY4,hF2⟩
     case measure=>simp[intOf];omega
    ·have hF2:=hid (show Z1F l d s=some n by rw[hst.out,hkb,hnb];rfl)
     rw[hnb]at hq
     clear hkb hst hnb
     go_wp2_with (first
      |(refine wpList_load_row (by rfl) 89 (.tmp 9) (by rfl) z (by rfl) 89 n.cells (0,0) _ hn4.out Tryz.underlying89 (by rfl) (by kernel_rfl) ?_)
      |(refine wpList_store_row (by rfl) 89 (.tmp 6) (.tmp 26) (by rfl) (w.heap.size+1) n.cells (by rfl) (by rfl) 89 _ hY4.out (by kernel_rfl) (by kernel_rfl) (Zw n) ?_))
     refine bodyPost_ret (Zy rfl _ _ (w.heap.size+1) _ _ _ _ _ rfl rfl (setRow_heap _ _ _ n.cells _ _ hY4.out) Tryz.underlying89 rfl (by kernel_rfl)) rfl ?_
     refine⟨?_,below_setRow hB4.out (by omega) _⟩
     rw[hF2.out];rfl
  ·obtain rfl:k=l.length:=by omega
   have hF2:=hid (show Z1F l d s=none by rw[hF.out,List.drop_length];rfl)
   go_wp2_with (refine wpList_store_row (by rfl) 89 (.tmp 6) (.tmp 28) (by rfl) (w.heap.size+1) Zk.cells (by rfl) (by rfl) 89 _ hY.out (by kernel_rfl) (by kernel_rfl) (by kernel_rfl) ?_)
   refine bodyPost_ret (Zy rfl _ _ (w.heap.size+1) _ _ _ _ _ rfl rfl (setRow_heap _ _ _ Zk.cells _ _ hY.out) Tryz.underlying89 rfl (by kernel_rfl)) rfl ?_
   refine⟨?_,below_setRow hB.out (by omega) _⟩
   rw[hF2.out];rfl
end
end Go.Proofs.YtkefjeabckainaaGreat
