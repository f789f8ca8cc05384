/- Load and store of one element of an own row of nodes, as equations of the model's runs. Conditions: the index in range. And the texts behind it. -/
import Derived.Test.YtkefjeabckainaaGreatFtB13
import Derived.Shelf.RegionOpenPlain
import Derived.IntWalk
import Derived.Test.YtkefjeabckainaaGreatFtB01
import Derived.Laws.StructEq
import Derived.Test.YtkefjeabckainaaGreatFtB12
import Derived.Test.YtkefjeabckainaaGreatFtB11
import Derived.Deep.RegionHeld3
import Derived.Test.YtkefjeabckainaaGreatFtB07
import Derived.Test.YtkefjeabckainaaGreatFtB02
namespace Go.Proofs.YtkefjeabckainaaGreat
set_option maxRecDepth 100000
set_option linter.unusedVariables false
section
open Go.RowKit
theorem Z1D {P:Program} {w:World} {base e n c g i:Nat} {l:List Nod} (h:w.ownsRow base e 12 (.slice (some ⟨g,0,none⟩) n c) n (ZB l)) (hi:i<l.length) :
  Sem.run P (loadCellsFrom ⟨g,i * 12,none⟩ 0 12 #[]) w=.ok l[i].cells w:=by
 obtain⟨b,o,hb,hr⟩:=(Z3.of_own h).range i hi
 cases hb
 have hl:l[i].cells.toList.length=12:=by rw[Z7];rfl
 have:=run_loadCells_list (P:=P) (w:=w) ⟨g,i * 12,none⟩ l[i].cells.toList (fun j v hv=>by rw[Addr.add_mid];have:=hr j v hv;rwa [Nat.zero_add]at this)
 rw[hl]at this
 simpa[loadCells] using this
theorem Z3K {P:Program} {w:World} {base e n c g i:Nat} {l:List Nod} (h:w.ownsRow base e 12 (.slice (some ⟨g,0,none⟩) n c) n (ZB l)) (hi:i<n) (x:Nod) :
  Sem.run P (storeCells ⟨g,i * 12,none⟩ x.cells.toList 0) w=.ok () (w.setCells g (i * 12) x.cells.toList):=by
 have ht:=Z4K h hi
 have hl:x.cells.toList.length=12:=by rw[Z7];rfl
 have:=run_storeCells_cells (P:=P) g (i * 12) x.cells.toList 0 w (fun j hj=>by rw[Nat.add_zero];exact(ht j (by omega)).1) (fun j hj=>by rw[Nat.add_zero];exact(ht j (by omega)).2) (fun v hv=>(Array.all_eq_true_iff_forall_mem.1 (Zw x)) v (by simpa using hv))
 rwa [Nat.add_zero]at this
theorem Z5N {α:Type} (l:List α) (i j:Nat):(swp l i j).length=l.length:=by unfold swp;repeat (first | split | simp)
def Z19 (a:Addr):Sem (Array Value):=loadCellsFrom a 0 12 #[]
theorem Z2u (a:Addr):loadCellsFrom a 0 12 #[]=Z19 a:=rfl
attribute [local go_sem ↓] Z2u
set_option maxHeartbeats 6400000 in
theorem Z9o (f:Value) (base g c a b k:Nat) (l:List Nod) (w:World) (hv:w.ownsRow base 89 12 (.slice (some ⟨g,0,none⟩) l.length c) l.length (ZB l)) (hab:a+k≤b) (hb:b+k≤l.length) (hl:l.length≤1000) :
  Calls Tryz.prog 204 #[.slice (some ⟨g,0,none⟩) l.length c,.int .i64 (a:Int),.int .i64 (b:Int),.int .i64 (k:Int),f] w fun e w'=>e=.returned (.tuple #[])∧∃ l2,w'.ownsRow base 89 12 (.slice (some ⟨g,0,none⟩) l.length c) l.length (ZB l2)∧Below base w w'∧Z3Z l l2 a b k:=by
 have HV:=hid hv
 clear hv
 have HS:=hid (Z3H.start hab hb)
 have HB:=hid (Below.refl base w)
 have mixed:Tryz.prog.follows Departure.mixedOrders=true:=by first | kernel_rfl | decide
 go_enter Tryz.func204,Tryz.ntmps204
 go_wp2
 go_loopg [10] k (fun g1 vi wr=>∃ (i:Nat) (lk:List Nod),vi=.int .i64 (i:Int)∧i≤k∧k - i≤g1∧lk.length=l.length∧Hid (wr.ownsRow base 89 12 (.slice (some ⟨g,0,none⟩) l.length c) l.length (ZB lk))∧Hid (Below base w wr)∧Hid (Z3H l lk a b k i))
 case atStart=>exact⟨0,l,rfl,by omega,by omega,rfl,HV,HB,HS⟩
 case round =>
  obtain⟨i,lk,rfl,hik,hg1,hlk,HV,HB,HS⟩:=hrel
  by_cases hlt:i<k
  ·have hltz:(i:Int)<(k:Int):=by omega
   obtain⟨p,hp⟩ : ∃ p,p=a+i:=⟨_,rfl⟩
   obtain⟨q,hq⟩ : ∃ q,q=b+i:=⟨_,rfl⟩
   have hpl:p<lk.length:=by omega
   have hql:q<lk.length:=by omega
   have kp:IntKind.i64.wrap ((a:Int)+(i:Int))=(p:Int):=by rw[IntWalk.i64_in _ (by omega)];omega
   have kq:IntKind.i64.wrap ((b:Int)+(i:Int))=(q:Int):=by rw[IntWalk.i64_in _ (by omega)];omega
   have zp:(p:Int)<(l.length:Int):=by omega
   have zq:(q:Int)<(l.length:Int):=by omega
   have HD:wr.drew.ownsRow base 89 12 (.slice (some ⟨g,0,none⟩) l.length c) l.length (ZB lk):=HV.out
   have hs1:=Z3W (x:=lk[q]) HD (i:=p) (by omega)
   have lp:Sem.run Tryz.prog (Z19 ⟨g,p * 12,none⟩) wr.drew=_:=Z1D (P:=Tryz.prog) HD hpl
   have lq:Sem.run Tryz.prog (Z19 ⟨g,q * 12,none⟩) wr.drew=_:=Z1D (P:=Tryz.prog) HD hql
   have s1:=Z3K (P:=Tryz.prog) HD (i:=p) (by omega) lk[q]
   have s2:=Z3K (P:=Tryz.prog) hs1.1 (i:=q) (by omega) lk[p]
   have hs2:=Z3W (x:=lk[p]) hs1.1 (i:=q) (by omega)
   have hfin:Hid (((wr.drew.setCells g (p * 12) lk[q].cells.toList).setCells g (q * 12) lk[p].cells.toList).ownsRow base 89 12 (.slice (some ⟨g,0,none⟩) l.length c) l.length (ZB (swp lk p q))):=hid (by
    have:=hs2.1
    rwa [show(lk.set p lk[q]).set q lk[p]=swp lk p q by unfold swp;simp[hpl,hql]]at this)
   have hbel:=hid ((HB.out.trans ((Below.refl base wr).drew)).trans (hs1.2.1.trans hs2.2.1))
   have hst:=hid (HS.out.step hlt)
   replace hs1:=hid hs1
   replace hs2:=hid hs2
   replace HD:=hid HD
   obtain⟨cp,hcp⟩ : ∃ c,c=lk[p].cells:=⟨_,rfl⟩
   obtain⟨cq,hcq⟩ : ∃ c,c=lk[q].cells:=⟨_,rfl⟩
   rw[←hcp]at lp s2 hfin
   rw[←hcq]at lq s1 s2 hfin
   rw[←hcp,←hcq]at hbel
   have sz1:cp.size=12:=by rw[hcp,Z7];rfl
   have sz2:cq.size=12:=by rw[hcq,Z7];rfl
   replace hcp:=hid hcp
   replace hcq:=hid hcq
   replace hp:=hid hp
   replace hq:=hid hq
   go_wp2_with fail
   go_big_region_o
   all_goals go_wp2
   go_roundg (k - (i+1))
   case measure=>omega
   case rel=>exact⟨i+1,swp lk p q,by first | rfl | go_num,by omega,by omega,by rw[Z5N];exact hlk,hfin,hbel,hid (by rw[hp.out,hq.out];exact hst.out)⟩
  ·have hltz:¬ (i:Int)<(k:Int):=by omega
   go_wp2
   go_end0
   have:i=k:=by omega
   subst this
   exact⟨rfl,lk,HV.out,HB.out,HS.out.done⟩
end
section
open Go.RowKit
structure Stat where
 kind:Nat
 dev:Nat
 qt:Nat
 qv:Nat
 qp:Nat
 mode:Nat
 atm:Nat
 mtm:Nat
 len:Nat
 name:ByteArray
 uid:ByteArray
 gid:ByteArray
 muid:ByteArray
def Stat.cells (s:Stat):Array Value:=#[.int .u16 (s.kind:Int),.int .u32 (s.dev:Int),.int .u8 (s.qt:Int),.int .u32 (s.qv:Int),.int .u64 (s.qp:Int),.int .u32 (s.mode:Int),.int .u32 (s.atm:Int),.int .u32 (s.mtm:Int),.int .u64 (s.len:Int),.string s.name,.string s.uid,.string s.gid,.string s.muid]
structure StatOk (s:Stat):Prop where
 kind:s.kind<65536
 dev:s.dev<4294967296
 qt:s.qt<256
 qv:s.qv<4294967296
 qp:s.qp<18446744073709551616
 mode:s.mode<4294967296
 atm:s.atm<4294967296
 mtm:s.mtm<4294967296
 len:s.len<18446744073709551616
 name:s.name.size≤maxLen
 uid:s.uid.size≤maxLen
 gid:s.gid.size≤maxLen
 muid:s.muid.size≤maxLen
structure Few (s:Stat):Prop where
 name:s.name.size≤200
 uid:s.uid.size≤200
 gid:s.gid.size≤200
 muid:s.muid.size≤200
def Stat.size (s:Stat):Nat:=49+s.name.size+s.uid.size+s.gid.size+s.muid.size
end
section
open Go.RowKit
end
section
open Go.RowKit
attribute [local go_sem ↓] Z2u
theorem ZdJ {s t:ByteArray} (h:s.toList=t.toList):s=t:=by
 rw[ByteArray.toList_eq,ByteArray.toList_eq]at h
 cases s;cases t
 simpa using h
def Zee (a b:Value):Sem Value:=binOp .neq 157 a b
theorem Zb8 (a b:Value):binOp .neq 157 a b=Zee a b:=rfl
attribute [local go_sem ↓] Zb8
theorem Zdt {P:Program} {w:World} {b o:Nat} {n:Nod} (h:w.rangeAt b o n.cells.toList):Sem.run P (Z19 ⟨b,o,none⟩) w=.ok n.cells w:=by
 have hl:n.cells.toList.length=12:=by rw[Z7];rfl
 have:=run_loadCells_list (P:=P) (w:=w) ⟨b,o,none⟩ n.cells.toList (fun j v hv=>by rw[Addr.add_mid];exact h j v hv)
 rw[hl]at this
 simpa[loadCells,Z19] using this
end
section
open Go.RowKit
section
variable {P:Program} {ops:Array Oper} {Q:Exit→Act→World→Prop} {S:World→Prop} {o:Oper} {rest:List Oper} {a:Act} {w:World} {N:Nat} {fx:List (Nat×Value)} {listed:Array Bool} {fuel:Nat}
theorem hst {i:Nat} (hF:FrL N fx a) (d:Nat) (W:Bool) (v:Value) (hi:ops[i]?=some o) (hd:o.dst=some d) (hN:d<N) (hs:Region.noSelect ops=true) (hf:Region.free .any ops listed i=true) (hr:(Region.ready .any ops listed).contains i=true)
  (hQ : ∀ c a w,Q (.panic c) (a.put (some d) (cond W v undef)) w→Q (.panic c) a w) (hw:Region.wanted o (yielded ops a.tmps)=W) (hrun:W=true→∀ w,S w→(execOp a.eval o).run P w=.ok (.value v) w) (hS:S w)
  (hk : ∀ b,FrL N ((d,cond W v undef) :: fx) b→wpAnyH P .any ops Q S fuel (listed.setIfInBounds i true) b w):wpAnyH P .any ops Q S (fuel+1) listed a w:=by
 refine wpAnyH_take (i:=i) (oi:=o) (v:=cond W v undef) hi hs hf hr (by rw[hd];exact hQ) ?_ hS ?_
 ·cases W with
  | true=>exact .inl ⟨hw,hrun rfl⟩
  | false=>exact .inr ⟨hw,rfl⟩
 ·rw[hd]
  exact hk _ (hF.put d _ hN)
theorem Z2C {i:Nat} (hF:FrL N fx a) (d:Nat) (W:Bool) (v:Value) (hi:ops[i]?=some o) (hd:o.dst=some d) (hN:d<N) (hr:Region.ready .any ops listed=[i])
  (hw:Region.wanted o (yielded ops a.tmps)=W) (hrun:W=true→∃ f args,(execOp a.eval o).run P w=.ok (.enter f args) w∧Calls P f args w fun e w'=>e=.returned v∧S w') (hS:S w)
  (hk : ∀ b w',FrL N ((d,cond W v undef) :: fx) b→S w'→wpAnyH P .any ops Q S fuel (listed.setIfInBounds i true) b w'):wpAnyH P .any ops Q S (fuel+1) listed a w:=by
 refine wpAnyH_all (rs:=[i]) hr (by simp) fun j hj=>?_
 obtain rfl:j=i:=by simpa using hj
 unfold wpOp
 simp only[hi]
 cases W with
 | true =>
  rw[if_pos hw]
  refine .inl ?_
  obtain⟨f,args,h1,h2⟩:=hrun rfl
  unfold Oper.wp
  rw[h1]
  refine h2.mono ?_
  rintro e w' ⟨rfl,h3⟩
  show S w'∧_
  rw[hd]
  exact⟨h3,hk _ _ (hF.put d v hN) h3⟩
 | false =>
  rw[if_neg (by rw[hw];simp)]
  refine⟨hS,?_⟩
  rw[hd]
  exact hk _ _ (hF.put d undef hN) hS
theorem Z3L (hF:FrL N fx a) (d:Nat) (W:Bool) (v:Value) (hd:o.dst=some d) (hN:d<N)
  (hw:Region.wanted o (yielded ops a.tmps)=W) (hrun:W=true→∃ f args,(execOp a.eval o).run P w=.ok (.enter f args) w∧Calls P f args w fun e w'=>e=.returned v∧S w') (hS:S w)
  (hk : ∀ b w',FrL N ((d,cond W v undef) :: fx) b→S w'→wpList P ops Q rest b w'):wpList P ops Q (o :: rest) a w:=by
 unfold wpList
 cases W with
 | true =>
  rw[if_pos hw]
  refine .inl ?_
  obtain⟨f,args,h1,h2⟩:=hrun rfl
  unfold Oper.wp
  rw[h1]
  refine h2.mono ?_
  rintro e w' ⟨rfl,h3⟩
  show wpList P ops Q rest (a.put o.dst v) w'
  rw[hd]
  exact hk _ _ (hF.put d v hN) h3
 | false =>
  rw[if_neg (by rw[hw];simp),hd]
  exact hk _ _ (hF.put d undef hN) hS
end
section
variable {o:Oper} {ev:Operand→Value} {w:World} {x y z:Operand}
theorem ZS {op:BinOp} {ty ty2:TypeId} {u v r:Value} (ho:o.op=.binOp op ty x y ty2) (hx:ev x=u) (hy:ev y=v) (hg:(eqGuard op ty x y u v).run Tryz.prog w=.ok () w) (hb:(binOp op ty u v).run Tryz.prog w=.ok r w):(execOp ev o).run Tryz.prog w=.ok (.value r) w:=by
 simp only[execOp,ho,hx,hy,Sem.run_bind,hg,hb,Result.andThen_ok,Sem.run_pure]
theorem Z2f {ty:TypeId} {b:Bool} (ho:o.op=.unOp .not ty x) (hx:ev x=.bool b):(execOp ev o).run Tryz.prog w=.ok (.value (.bool (!b))) w:=by
 simp[execOp,ho,hx,go_sem]
theorem Z1L {ty:TypeId} {b f n c:Nat} {j:Nat} (k:Nat) (ho:o.op=.indexAddr ty x y) (hx:ev x=.slice (some ⟨b,f,none⟩) n c) (hy:ev y=.int .i64 (j:Int)) (hj:j<n) (hk:(Instr.indexAt ty (.slice (some ⟨b,f,none⟩) n c) (.int .i64 (j:Int))).run Tryz.prog w=.ok (ptr b (f+j * k)) w):(execOp ev o).run Tryz.prog w=.ok (.value (ptr b (f+j * k))) w:=by
 simp only[execOp,ho,hx,hy,Sem.run_bind,hk,Result.andThen_ok,Sem.run_pure]
theorem Z1a {t:TypeId} {fn:Nat} {v:Value} (hf:ev (.func fn)=.func (.func fn) #[] #[]) (hc:(callFunc fn #[v]).run Tryz.prog w=.ok (.enter fn #[v]) w) (ho:o.op=.call {callee:=.value (.func fn),args:=#[x],argTypes:=#[t]}) (hx:ev x=v):(execOp ev o).run Tryz.prog w=.ok (.enter fn #[v]) w:=by
 simp[execOp,ho,hx,hf,hc,go_sem]
theorem Z2j {t u:TypeId} {fn:Nat} {v v2:Value} (hf:ev (.func fn)=.func (.func fn) #[] #[]) (hc:(callFunc fn #[v,v2]).run Tryz.prog w=.ok (.enter fn #[v,v2]) w) (ho:o.op=.call {callee:=.value (.func fn),args:=#[x,y],argTypes:=#[t,u]}) (hx:ev x=v) (hy:ev y=v2):(execOp ev o).run Tryz.prog w=.ok (.enter fn #[v,v2]) w:=by
 simp[execOp,ho,hx,hy,hf,hc,go_sem]
theorem Zb9 {t:TypeId} {n c:Nat} {ad:Option Addr} (ho:o.op=.call {callee:=.builtin .len,args:=#[x],argTypes:=#[t]}) (hx:ev x=.slice ad n c) (hl:(Builtin.len_ #[t] o.type #[.slice ad n c]).run Tryz.prog w=.ok (.int .i64 (n:Int)) w):(execOp ev o).run Tryz.prog w=.ok (.value (.int .i64 (n:Int))) w:=by
 simp[execOp,ho,hx,hl,go_sem]
theorem Z6m {W c b:Bool} (hW:W=true) (ho:o.op=.pick x y z) (hx:ev x=cond W (.bool c) undef) (hy:ev y=cond (W && (c == true)) (.bool b) undef) (hz:ev z=.bool false):(execOp ev o).run Tryz.prog w=.ok (.value (.bool (c && b))) w:=by
 subst hW
 exact Z2y ho hx hy hz
theorem Z5O (s t:Nat) (W:World):(binOp .gtr 3 (.int .i64 (s:Int)) (.int .i64 (t:Int))).run Tryz.prog W=.ok (.bool (decide (t<s))) W:=by
 simp[go_sem]
theorem Z5P (s t:Nat) (W:World):(binOp .geq 27 (.int .u64 (s:Int)) (.int .u64 (t:Int))).run Tryz.prog W=.ok (.bool (decide (t≤s))) W:=by
 simp[go_sem]
theorem Z6X (s t:ByteArray) (W:World):(binOp .neq 9 (.string s) (.string t)).run Tryz.prog W=.ok (.bool (!decide (s=t))) W:=by
 by_cases h:s=t
 ·subst h;simp[go_sem]
 ·have hq:(s.toList == t.toList)=false:=by rw[Z5L];exact decide_eq_false h
  simp[go_sem,hq,h]
theorem Z41 (s t:Nat) (W:World):(binOp .neq 27 (.int .u64 (s:Int)) (.int .u64 (t:Int))).run Tryz.prog W=.ok (.bool (!decide (s=t))) W:=by
 by_cases h:s=t
 ·subst h;simp[go_sem]
 ·have h2:¬ ((s:Int)=(t:Int)):=by omega
  simp[go_sem,h,h2]
theorem Z9p (s t:Nat) (W:World):(binOp .neq 3 (.int .i64 (s:Int)) (.int .i64 (t:Int))).run Tryz.prog W=.ok (.bool (!decide (s=t))) W:=by
 by_cases h:s=t
 ·subst h;simp[go_sem]
 ·have h2:¬ ((s:Int)=(t:Int)):=by omega
  simp[go_sem,h,h2]
theorem Z9q (s t:Nat) (W:World):(binOp .eql 3 (.int .i64 (s:Int)) (.int .i64 (t:Int))).run Tryz.prog W=.ok (.bool (decide (s=t))) W:=by
 by_cases h:s=t
 ·subst h;simp[go_sem]
 ·have h2:¬ ((s:Int)=(t:Int)):=by omega
  simp[go_sem,h,h2]
theorem Z7n (s:Nat) (hs:0<s) (h2:s≤9223372036854775807) (W:World):(binOp .sub 3 (.int .i64 (s:Int)) (.int .i64 1)).run Tryz.prog W=.ok (.int .i64 ((s - 1:Nat):Int)) W:=by
 have h1:IntKind.i64.wrap ((s:Int) - 1)=((s - 1:Nat):Int):=by rw[show((s - 1:Nat):Int)=(s:Int) - 1 by omega];exact IntWalk.i64_in _ (by omega)
 simp[go_sem,h1]
theorem Z7o {p:Addr} {v:Value} {w:World} (h:w.cell? p=some v):(loadVar 4 p).run Tryz.prog w=.ok v w:=by simp[go_sem,h]
theorem Z24 {p:Addr} {v:Value} {w:World} (h:w.cell? p=some v):(loadVar 84 p).run Tryz.prog w=.ok v w:=by simp[go_sem,h]
theorem Z5Q {b f:Nat} {n:Nod} {w:World} (h:w.rangeAt b f n.cells.toList):(loadVar 157 ⟨b,f,none⟩).run Tryz.prog w=.ok (.agg n.cells) w:=by
 have hl:(loadCells ⟨b,f,none⟩ 12).run Tryz.prog w=.ok n.cells w:=by
  have:=run_loadCells_list (P:=Tryz.prog) (w:=w) ⟨b,f,none⟩ n.cells.toList (fun j v hv=>by rw[Addr.add_mid];exact h j v hv)
  rw[show n.cells.toList.length=12 by rw[Z7];rfl]at this
  simpa using this
 obtain⟨i0,hi0,hz0⟩ : ∃ i0,Tryz.prog.info? 157=some i0∧i0.size=12:=⟨_,rfl,rfl⟩
 have hagg:(isAgg 157).run Tryz.prog w=.ok true w:=by kernel_rfl
 simp[loadVar,Sem.run_bind,hagg,sizeOf,typeInfo,hi0,hz0,hl]
theorem Z2g (b f n c j:Nat) (hj:j<n) (hn:n≤9223372036854775807) (w:World):(Instr.indexAt 84 (.slice (some ⟨b,f,none⟩) n c) (.int .i64 (j:Int))).run Tryz.prog w=.ok (ptr b (f+j * 12)) w:=by
 have h1:(0:Int)≤(j:Int):=by omega
 have h2:(j:Int)<(n:Int):=by omega
 simp[go_sem,h1,h2,ptr]
end
end
section
open Go.RowKit
theorem Z2w.take {w:World} {k n c m:Nat} {a:Option Addr} {xs:List Value} (h:Z2w w k (.slice a n c) n xs) (hm:m≤n):Z2w w k (.slice a m c) m (xs.take (m * k)):=by
 obtain⟨hl,a',c',hv,h1,h2,h3,h4⟩:=h
 cases hv
 have hk:=Nat.mul_le_mul_right k hm
 refine⟨by rw[List.length_take,hl];omega,a,c,rfl,Nat.le_trans hm h1,h2,h3,fun i u hu=>?_⟩
 refine h4 i u ?_
 have hi:i<m * k:=by
  have:=(List.getElem?_eq_some_iff.1 hu).1
  rw[List.length_take]at this
  omega
 rw[List.getElem?_take_of_lt hi]at hu
 exact hu
theorem Z2w.drop {w:World} {k n c m:Nat} {a:Option Addr} {xs:List Value} (h:Z2w w k (.slice a n c) n xs) (hm:m≤n) :
  Z2w w k (.slice (if c=m then a else a.map (fun ad=>ad.add (m * k))) (n - m) (c - m)) (n - m) (xs.drop (m * k)):=by
 obtain⟨hl,a',c',hv,h1,h2,h3,h4⟩:=h
 cases hv
 refine⟨by rw[List.length_drop,hl,Nat.sub_mul],_,_,rfl,by omega,by omega,fun h0=>?_,fun i u hu=>?_⟩
 ·cases a with
  | none=>have:=h3 rfl;omega
  | some ad=>revert h0;split <;> simp
 ·rw[List.getElem?_drop]at hu
  obtain⟨b,o,ha,hc⟩:=h4 _ u hu
  have hi:=(List.getElem?_eq_some_iff.1 hu).1
  have hne:¬ c=m:=fun he=>by
   have:n=m:=by omega
   subst this
   omega
  subst ha
  refine⟨b,o+m * k,by rw[if_neg hne];simp[Z2h],?_⟩
  rw[Nat.add_assoc];exact hc
theorem Z7Y (l:List Nod) (m:Nat):(ZB l).take (m * 12)=ZB (l.take m):=by
 induction l generalizing m with
 | nil=>simp[ZB]
 | cons n l ih =>
  have h12:n.cells.toList.length=12:=by rw[Z7];rfl
  cases m with
  | zero=>rw[Nat.zero_mul];rfl
  | succ m =>
   show(n.cells.toList++ZB l).take _=n.cells.toList++ZB (l.take m)
   rw[List.take_append,h12,show(m+1) * 12 - 12=m * 12 by omega,ih,List.take_of_length_le (by omega)]
theorem Z7Z (l:List Nod) (m:Nat):(ZB l).drop (m * 12)=ZB (l.drop m):=by
 induction l generalizing m with
 | nil=>simp[ZB]
 | cons n l ih =>
  have h12:n.cells.toList.length=12:=by rw[Z7];rfl
  cases m with
  | zero=>rw[Nat.zero_mul];rfl
  | succ m =>
   show(n.cells.toList++ZB l).drop _=ZB (l.drop m)
   rw[List.drop_append,h12,show(m+1) * 12 - 12=m * 12 by omega,ih,List.drop_of_length_le (by omega)]
   rfl
theorem Z3.take {w:World} {c m:Nat} {a:Option Addr} {l:List Nod} (h:Z3 w (.slice a l.length c) l) (hm:m≤l.length):Z2w w 12 (.slice a m c) m (ZB (l.take m)):=by
 rw[←Z7Y];exact Z2w.take h hm
theorem Z3.drop {w:World} {c m:Nat} {a:Option Addr} {l:List Nod} (h:Z3 w (.slice a l.length c) l) (hm:m≤l.length) :
  Z2w w 12 (.slice (if c=m then a else a.map (fun ad=>ad.add (m * 12))) (l.length - m) (c - m)) (l.length - m) (ZB (l.drop m)):=by
 rw[←Z7Z];exact Z2w.drop h hm
end
section
open Go.RowKit
section
variable {P:Program} {ops:Array Oper} {Q:Exit→Act→World→Prop} {o:Oper} {a:Act} {w:World} {N:Nat} {fx:List (Nat×Value)}
theorem hdo {i:Nat} {K:Act→World→Prop} (hF:FrL N fx a) (d:Nat) (v:Value) (w':World) (hi:ops[i]?=some o) (hd:o.dst=some d) (hN:d<N) (hw:Region.wanted o (yielded ops a.tmps)=true)
  (hrun:(execOp a.eval o).run P w=.ok (.value v) w') (hk : ∀ b,FrL N ((d,v) :: fx) b→K b w'):wpOp P ops Q i K a w:=by
 unfold wpOp
 simp only[hi]
 rw[if_pos hw]
 refine .inl ?_
 unfold Oper.wp
 rw[hrun]
 show K (a.put o.dst v) w'
 rw[hd]
 exact hk _ (hF.put d v hN)
theorem Z6Y {i:Nat} {K:Act→World→Prop} (w':World) (hi:ops[i]?=some o) (hd:o.dst=none) (hw:Region.wanted o (yielded ops a.tmps)=true)
  (hrun:(execOp a.eval o).run P w=.ok .skip w') (hk:K a w'):wpOp P ops Q i K a w:=by
 unfold wpOp
 simp only[hi]
 rw[if_pos hw]
 refine .inl ?_
 unfold Oper.wp
 rw[hrun]
 show K (a.put o.dst undef) w'
 rw[hd]
 exact hk
theorem Z80 {i:Nat} {K:Act→World→Prop} {R:Value→World→Prop} (hF:FrL N fx a) (d:Nat) (hi:ops[i]?=some o) (hd:o.dst=some d) (hN:d<N) (hw:Region.wanted o (yielded ops a.tmps)=true)
  (hrun : ∃ f args,(execOp a.eval o).run P w=.ok (.enter f args) w∧Calls P f args w fun e w'=>∃ v,e=.returned v∧R v w')
  (hk : ∀ v b w',R v w'→FrL N ((d,v) :: fx) b→K b w'):wpOp P ops Q i K a w:=by
 unfold wpOp
 simp only[hi]
 rw[if_pos hw]
 refine .inl ?_
 obtain⟨f,args,h1,h2⟩:=hrun
 unfold Oper.wp
 rw[h1]
 refine h2.mono ?_
 rintro e w' ⟨v,rfl,h3⟩
 show K (a.put o.dst v) w'
 rw[hd]
 exact hk v _ _ h3 (hF.put d v hN)
theorem ZdK {S:World→Prop} {listed:Array Bool} {fuel i:Nat} {R:Value→World→Prop} (hF:FrL N fx a) (d:Nat) (hi:ops[i]?=some o) (hd:o.dst=some d) (hN:d<N) (hr:Region.ready .any ops listed=[i])
  (hw:Region.wanted o (yielded ops a.tmps)=true) (hrun : ∃ f args,(execOp a.eval o).run P w=.ok (.enter f args) w∧Calls P f args w fun e w'=>∃ v,e=.returned v∧R v w'∧S w')
  (hk : ∀ v b w',R v w'→FrL N ((d,v) :: fx) b→S w'→wpAnyH P .any ops Q S fuel (listed.setIfInBounds i true) b w'):wpAnyH P .any ops Q S (fuel+1) listed a w:=by
 refine wpAnyH_all (rs:=[i]) hr (by simp) fun j hj=>?_
 obtain rfl:j=i:=by simpa using hj
 unfold wpOp
 simp only[hi]
 rw[if_pos hw]
 refine .inl ?_
 obtain⟨f,args,h1,h2⟩:=hrun
 unfold Oper.wp
 rw[h1]
 refine h2.mono ?_
 rintro e w' ⟨v,rfl,h3,h4⟩
 show S w'∧_
 rw[hd]
 exact⟨h4,hk v _ _ h3 (hF.put d v hN) h4⟩
end
section
variable {o:Oper} {ev:Operand→Value} {w w':World} {x y:Operand}
theorem Z1t {t:TypeId} {z:Value} (ho:o.op=.alloc t) (hz:(zeroValue t).run Tryz.prog w=.ok z w):(execOp ev o).run Tryz.prog w=.ok (.value (.pointer (some ⟨w.heap.size,0,none⟩))) (w.alloc (.cells z.cells t)):=by
 simp[execOp,ho,hz,go_sem]
theorem Z1u {t T:TypeId} {g:Nat} {old cells:Array Value} (ho:o.op=.store t x y) (hx:ev x=.pointer (some ⟨g,0,none⟩)) (hy:ev y=.agg cells) (hg:w.heap[g]?=some (.cells old T (0,0))) (hi:(Tryz.prog.info? t).map (·.size)=some cells.size)
  (hold:old.size=cells.size) (h1:cells.all (·.oneCell')=true):(execOp ev o).run Tryz.prog w=.ok .skip (w.setRow g cells):=by
 unfold execOp
 simp only[ho,hx,hy,Instr.storeAt,Instr.sureAddr,Sem.run_bind,Sem.run_pure,Result.andThen_ok,run_storeVar_row w g T t old cells hg hi hold h1]
theorem ZZ {n:Nat} {vs:Array Value} {v:Value} (ho:o.op=.extract x n) (hx:ev x=.tuple vs) (hv:vs[n]?=some v):(execOp ev o).run Tryz.prog w=.ok (.value v) w:=by
 simp[execOp,ho,hx,hv,go_sem]
end
end
section
open Go.RowKit
structure NmS (B g:Nat) (n:Nod) (w0 w:World):Prop where
 bel:Below B w0 w
 nod:w.heap[g]?=some (.cells n.cells 89 (0,0))
 hB:B≤w.heap.size
theorem NmS.next {B g:Nat} {n:Nod} {w0 w w':World} (h:NmS B g n w0 w) (hb:Below w.heap.size w w'):NmS B g n w0 w' :=
 ⟨h.bel.trans (hb.mono h.hB),(hb.block _ (lt_of_block h.nod)).trans h.nod,Nat.le_trans h.hB hb.size⟩
noncomputable def Z5R:Array Oper:=match Tryz.f173.body with | some c=>(Z1i c).getD 5 #[] | none=>#[]
noncomputable def Z2D:List Oper:=Z5R.toList
theorem Z1N:Z2D.length=16:=by kernel_rfl
set_option maxHeartbeats 4000000 in
theorem Z9r {w0:World} {B g:Nat} {n:Nod} (hn:NodOk n)  {v0 v2 v3:Value} {Q:Exit→Act→World→Prop} {a:Act} {w:World} (hF:FrL 28 [(1,ptr g 0),(0,v0),(2,v2),(3,v3)] a) (hS:(NmS B g n w0) w) (hE : ∀ a w',FrL 28 ((27,.bool (((!(Z8 n.uid)) ||(!(Z8 n.gid))) ||(!(Z8 n.muid)))) :: [(1,ptr g 0),(0,v0),(2,v2),(3,v3)]) a→(NmS B g n w0) w'→Q .normal a w'):wpList Tryz.prog Z5R Q (Z2D.drop 0) a w:=by
 rw[List.drop_eq_getElem_cons (show 0<Z2D.length by rw[Z1N];decide)]
 refine st hF 12 (ptr g 6) (by kernel_rfl) (by decide) (by kernel_rfl) (Zo (T:=89) (x:=.tmp 1) (f:=6) (by kernel_rfl) (hF.ev 1 (ptr g 0) rfl) (by kernel_rfl)) (fun a hF=>?_)
 rw[List.drop_eq_getElem_cons (show 1<Z2D.length by rw[Z1N];decide)]
 refine st hF 13 (.string n.uid) (by kernel_rfl) (by decide) (by kernel_rfl) (Ze (ty:=9) (x:=.tmp 12) (by kernel_rfl) (hF.ev 12 (ptr g 6) rfl) (Z1k (Z0 hS.nod 6))) (fun a hF=>?_)
 rw[List.drop_eq_getElem_cons (show 2<Z2D.length by rw[Z1N];decide)]
 refine Z3L hF 14 true (.bool (Z8 n.uid)) (by kernel_rfl) (by decide) (Z2 (by kernel_rfl)) (fun hW=>⟨133,#[.string n.uid],Z1a (fn:=133) (t:=9) rfl (by kernel_rfl) (by kernel_rfl) (hF.ev 13 (.string n.uid) rfl),(Z2E n.uid w hn.uid).mono (by rintro e w' ⟨rfl,hb⟩;exact⟨rfl,hS.next hb⟩)⟩) hS (fun a w hF hS=>?_)
 rw[show cond true (.bool (Z8 n.uid)) undef=.bool (Z8 n.uid) from rfl]at hF
 rw[List.drop_eq_getElem_cons (show 3<Z2D.length by rw[Z1N];decide)]
 refine st hF 15 (.bool (!(Z8 n.uid))) (by kernel_rfl) (by decide) (by kernel_rfl) (Z2f (ty:=4) (x:=.tmp 14) (by kernel_rfl) (hF.ev 14 (.bool (Z8 n.uid)) rfl)) (fun a hF=>?_)
 rw[List.drop_eq_getElem_cons (show 4<Z2D.length by rw[Z1N];decide)]
 refine st hF 16 (.bool (!(Z8 n.uid))) (by kernel_rfl) (by decide) (by kernel_rfl) (Z5 (x:=.tmp 15) (.inl (by kernel_rfl)) (hF.ev 15 (.bool (!(Z8 n.uid))) rfl)) (fun a hF=>?_)
 rw[List.drop_eq_getElem_cons (show 5<Z2D.length by rw[Z1N];decide)]
 refine Z18 hF 17 ((!(Z8 n.uid)) == false) (ptr g 7) (by kernel_rfl) (by decide) (Zh (gi:=4) (g:=16) (c:=(!(Z8 n.uid))) hF (by kernel_rfl) (by kernel_rfl) rfl) (fun hW=>Zo (T:=89) (x:=.tmp 1) (f:=7) (by kernel_rfl) (hF.ev 1 (ptr g 0) rfl) (by kernel_rfl)) (fun a hF=>?_)
 rw[List.drop_eq_getElem_cons (show 6<Z2D.length by rw[Z1N];decide)]
 refine Z18 hF 18 ((!(Z8 n.uid)) == false) (.string n.gid) (by kernel_rfl) (by decide) (Zh (gi:=4) (g:=16) (c:=(!(Z8 n.uid))) hF (by kernel_rfl) (by kernel_rfl) rfl) (fun hW=>Ze (ty:=9) (x:=.tmp 17) (by kernel_rfl) ((hF.ev 17 (cond ((!(Z8 n.uid)) == false) (ptr g 7) undef) rfl).trans (Zl hW)) (Z1k (Z0 hS.nod 7))) (fun a hF=>?_)
 rw[List.drop_eq_getElem_cons (show 7<Z2D.length by rw[Z1N];decide)]
 refine Z3L hF 19 ((!(Z8 n.uid)) == false) (.bool (Z8 n.gid)) (by kernel_rfl) (by decide) (Zh (gi:=4) (g:=16) (c:=(!(Z8 n.uid))) hF (by kernel_rfl) (by kernel_rfl) rfl) (fun hW=>⟨133,#[.string n.gid],Z1a (fn:=133) (t:=9) rfl (by kernel_rfl) (by kernel_rfl) ((hF.ev 18 (cond ((!(Z8 n.uid)) == false) (.string n.gid) undef) rfl).trans (Zl hW)),(Z2E n.gid w hn.gid).mono (by rintro e w' ⟨rfl,hb⟩;exact⟨rfl,hS.next hb⟩)⟩) hS (fun a w hF hS=>?_)
 rw[List.drop_eq_getElem_cons (show 8<Z2D.length by rw[Z1N];decide)]
 refine Z18 hF 20 ((!(Z8 n.uid)) == false) (.bool (!(Z8 n.gid))) (by kernel_rfl) (by decide) (Zh (gi:=4) (g:=16) (c:=(!(Z8 n.uid))) hF (by kernel_rfl) (by kernel_rfl) rfl) (fun hW=>Z2f (ty:=4) (x:=.tmp 19) (by kernel_rfl) ((hF.ev 19 (cond ((!(Z8 n.uid)) == false) (.bool (Z8 n.gid)) undef) rfl).trans (Zl hW))) (fun a hF=>?_)
 rw[List.drop_eq_getElem_cons (show 9<Z2D.length by rw[Z1N];decide)]
 refine st hF 21 (.bool ((!(Z8 n.uid)) ||(!(Z8 n.gid)))) (by kernel_rfl) (by decide) (by kernel_rfl) (Z1j (y:=.const (.bool true)) (x:=.tmp 16) (b:=(!(Z8 n.uid))) (b':=(!(Z8 n.gid))) (by kernel_rfl) (hF.ev 16 _ rfl) rfl (hF.ev 20 (cond ((!(Z8 n.uid)) == false) (.bool (!(Z8 n.gid))) undef) rfl)) (fun a hF=>?_)
 rw[List.drop_eq_getElem_cons (show 10<Z2D.length by rw[Z1N];decide)]
 refine st hF 22 (.bool ((!(Z8 n.uid)) ||(!(Z8 n.gid)))) (by kernel_rfl) (by decide) (by kernel_rfl) (Z5 (x:=.tmp 21) (.inl (by kernel_rfl)) (hF.ev 21 (.bool ((!(Z8 n.uid)) ||(!(Z8 n.gid)))) rfl)) (fun a hF=>?_)
 rw[List.drop_eq_getElem_cons (show 11<Z2D.length by rw[Z1N];decide)]
 refine Z18 hF 23 (((!(Z8 n.uid)) ||(!(Z8 n.gid))) == false) (ptr g 8) (by kernel_rfl) (by decide) (Zh (gi:=10) (g:=22) (c:=((!(Z8 n.uid)) ||(!(Z8 n.gid)))) hF (by kernel_rfl) (by kernel_rfl) rfl) (fun hW=>Zo (T:=89) (x:=.tmp 1) (f:=8) (by kernel_rfl) (hF.ev 1 (ptr g 0) rfl) (by kernel_rfl)) (fun a hF=>?_)
 rw[List.drop_eq_getElem_cons (show 12<Z2D.length by rw[Z1N];decide)]
 refine Z18 hF 24 (((!(Z8 n.uid)) ||(!(Z8 n.gid))) == false) (.string n.muid) (by kernel_rfl) (by decide) (Zh (gi:=10) (g:=22) (c:=((!(Z8 n.uid)) ||(!(Z8 n.gid)))) hF (by kernel_rfl) (by kernel_rfl) rfl) (fun hW=>Ze (ty:=9) (x:=.tmp 23) (by kernel_rfl) ((hF.ev 23 (cond (((!(Z8 n.uid)) ||(!(Z8 n.gid))) == false) (ptr g 8) undef) rfl).trans (Zl hW)) (Z1k (Z0 hS.nod 8))) (fun a hF=>?_)
 rw[List.drop_eq_getElem_cons (show 13<Z2D.length by rw[Z1N];decide)]
 refine Z3L hF 25 (((!(Z8 n.uid)) ||(!(Z8 n.gid))) == false) (.bool (Z8 n.muid)) (by kernel_rfl) (by decide) (Zh (gi:=10) (g:=22) (c:=((!(Z8 n.uid)) ||(!(Z8 n.gid)))) hF (by kernel_rfl) (by kernel_rfl) rfl) (fun hW=>⟨133,#[.string n.muid],Z1a (fn:=133) (t:=9) rfl (by kernel_rfl) (by kernel_rfl) ((hF.ev 24 (cond (((!(Z8 n.uid)) ||(!(Z8 n.gid))) == false) (.string n.muid) undef) rfl).trans (Zl hW)),(Z2E n.muid w hn.muid).mono (by rintro e w' ⟨rfl,hb⟩;exact⟨rfl,hS.next hb⟩)⟩) hS (fun a w hF hS=>?_)
 rw[List.drop_eq_getElem_cons (show 14<Z2D.length by rw[Z1N];decide)]
 refine Z18 hF 26 (((!(Z8 n.uid)) ||(!(Z8 n.gid))) == false) (.bool (!(Z8 n.muid))) (by kernel_rfl) (by decide) (Zh (gi:=10) (g:=22) (c:=((!(Z8 n.uid)) ||(!(Z8 n.gid)))) hF (by kernel_rfl) (by kernel_rfl) rfl) (fun hW=>Z2f (ty:=4) (x:=.tmp 25) (by kernel_rfl) ((hF.ev 25 (cond (((!(Z8 n.uid)) ||(!(Z8 n.gid))) == false) (.bool (Z8 n.muid)) undef) rfl).trans (Zl hW))) (fun a hF=>?_)
 rw[List.drop_eq_getElem_cons (show 15<Z2D.length by rw[Z1N];decide)]
 refine st hF 27 (.bool (((!(Z8 n.uid)) ||(!(Z8 n.gid))) ||(!(Z8 n.muid)))) (by kernel_rfl) (by decide) (by kernel_rfl) (Z1j (y:=.const (.bool true)) (x:=.tmp 22) (b:=((!(Z8 n.uid)) ||(!(Z8 n.gid)))) (b':=(!(Z8 n.muid))) (by kernel_rfl) (hF.ev 22 _ rfl) rfl (hF.ev 26 (cond (((!(Z8 n.uid)) ||(!(Z8 n.gid))) == false) (.bool (!(Z8 n.muid))) undef) rfl)) (fun a hF=>?_)
 rw[show Z2D.drop 16=[] from by kernel_rfl]
 exact hE _ _ (hF.sub ((27,.bool (((!(Z8 n.uid)) ||(!(Z8 n.gid))) ||(!(Z8 n.muid)))) :: [(1,ptr g 0),(0,v0),(2,v2),(3,v3)]) ⟨rfl,rfl,rfl,rfl,rfl,trivial⟩) hS
end
end Go.Proofs.YtkefjeabckainaaGreat
