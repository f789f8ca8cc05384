/- A node of a tree, and its cells. Plain. And the texts behind it. -/
import Derived.Test.YtkefjeabckainaaGreatProg
import Derived.ProofKit
import Derived.WalkKit
import Derived.WalkSpells
import Derived.WalkLawsBesides
import Derived.Deep.AppendLies
import Derived.Deep.RegionLaw
import Derived.BigRegion
import Derived.Recover
namespace Go.Proofs.YtkefjeabckainaaGreat
set_option maxRecDepth 100000
set_option linter.unusedVariables false
section
open Go.RowKit
structure Nod where
 path:Nat
 vers:Nat
 mode:Nat
 atm:Nat
 mtm:Nat
 name:ByteArray
 uid:ByteArray
 gid:ByteArray
 muid:ByteArray
 up:Nat
 gone:Bool
 data:ByteArray
def Nod.cells (n:Nod):Array Value:=#[.int .u64 (n.path:Int),.int .u32 (n.vers:Int),.int .u32 (n.mode:Int),.int .u32 (n.atm:Int),.int .u32 (n.mtm:Int),.string n.name,.string n.uid,.string n.gid,.string n.muid,.int .u64 (n.up:Int),.bool n.gone,.string n.data]
structure NodOk (n:Nod):Prop where
 path:n.path<18446744073709551616
 vers:n.vers<4294967296
 mode:n.mode<4294967296
 atm:n.atm<4294967296
 mtm:n.mtm<4294967296
 name:n.name.size≤maxLen
 uid:n.uid.size≤maxLen
 gid:n.gid.size≤maxLen
 muid:n.muid.size≤maxLen
 up:n.up<18446744073709551616
 data:n.data.size≤maxLen
theorem Z7 (n:Nod):n.cells=#[.int .u64 (n.path:Int),.int .u32 (n.vers:Int),.int .u32 (n.mode:Int),.int .u32 (n.atm:Int),.int .u32 (n.mtm:Int),.string n.name,.string n.uid,.string n.gid,.string n.muid,.int .u64 (n.up:Int),.bool n.gone,.string n.data]:=rfl
theorem Zw (n:Nod):n.cells.all (·.oneCell')=true:=by simp[Z7,Value.oneCell']
end
section
open Go.RowKit
theorem hid {p:Prop} (h:p):Hid p:=h
theorem Ze6 {W w1:World} (hb:Below W.heap.size W w1):(∀ b o,b<W.heap.size→w1.cell? ⟨b,o,none⟩=W.cell? ⟨b,o,none⟩)∧(∀ b o,b<W.heap.size→w1.frozen? ⟨b,o,none⟩=W.frozen? ⟨b,o,none⟩) :=
 ⟨fun b o h=>hb.cell (p:=⟨b,o,none⟩) h,fun b o h=>hb.frozen (p:=⟨b,o,none⟩) h⟩
theorem Z8F {k:IntKind} {a b:Int} (h:a=b):Ending.returned (.int k a)=.returned (.int k b):=by rw[h]
theorem ZR {a b:Bool} (h:a=b):Ending.returned (.bool a)=.returned (.bool b):=by rw[h]
theorem Z3v {P:Program} {fn:Func} {c₀:Frame} {cs:List Frame} {u':FrameMode} {R:Ending→FrameMode→World→Prop} {c:Code} {a:Act} {w:World}
  (h:c.wp P (bodyPost P fn (fun e w'=>R e u' w')) a w):c.wpS P (bodyPostS P fn c₀ cs R) a ({c₀ with mode:=u'} :: cs) w :=
 wpS_of_wp (Code.wp_mono (fun e a w q=>by
  cases e with
  | normal=>obtain⟨hd,v,hv,hr⟩:=q;exact⟨hd,u',rfl,v,hv,hr⟩
  | ret=>obtain⟨hd,v,hv,hr⟩:=q;exact⟨hd,u',rfl,v,hv,hr⟩
  | panic chain=>obtain⟨hd,hr⟩:=q;exact⟨hd,u',rfl,hr⟩
  | outgrown=>exact⟨u',q⟩
  | exit id=>exact q.elim
  | goto l=>exact q.elim) h)
theorem Z49 (t:ByteArray):t.toList.isEmpty=decide (t.size=0):=by
 rw[←decide_eq_emptyBytes]
 refine decide_eq_decide.2 ⟨fun h=>by subst h;rfl,fun h=>?_⟩
 obtain⟨⟨l⟩⟩:=t
 have:l=[]:=List.eq_nil_of_length_eq_zero h
 subst this;rfl
theorem Z3w {t:ByteArray} (h:t.size=0):t.toList.isEmpty=true∧(!t.toList.isEmpty)=false:=by rw[Z49];simp[h]
theorem Z4l {t:ByteArray} (h:0<t.size):t.toList.isEmpty=false∧(!t.toList.isEmpty)=true:=by
 rw[Z49,show decide (t.size=0)=false from decide_eq_false (by omega)];exact⟨rfl,rfl⟩
end
section
open Go.RowKit
structure Keeps (w w':World):Prop where
 size:w.heap.size≤w'.heap.size
 cells : ∀ a u,w.cell? a=some u→w'.cell? a=some u
theorem Keeps.of_below {w w':World} (h:Below w.heap.size w w'):Keeps w w':=⟨h.size,fun a u hu=>by
 rw[h.cell (World.block_lt_of_cell? w a hu)];exact hu⟩
theorem Keeps.trans {a b c:World} (h:Keeps a b) (k:Keeps b c):Keeps a c:=⟨Nat.le_trans h.size k.size,fun x u hu=>k.cells x u (h.cells x u hu)⟩
theorem Keeps.refl (w:World):Keeps w w:=⟨Nat.le_refl _,fun _ _ h=>h⟩
theorem Z2h {b o i:Nat}:(⟨b,o,none⟩:Addr).add i=⟨b,o+i,none⟩:=by unfold Addr.add;split <;> simp_all
def Z15 (w:World) (k:Nat) (v:Value) (n:Nat) (xs:List Value):Prop :=
 xs.length=n * k∧∃ a c,v=.slice a n c∧n≤c∧c≤maxLen∧(a=none→c=0)∧(∀ ad,a=some ad→ad.spot=none∧ad.block<w.heap.size)∧∀ i u,xs[i]?=some u→∃ b o,a=some ⟨b,o,none⟩∧w.cell? ⟨b,o+i,none⟩=some u
theorem Z15.keeps {w w':World} {k n:Nat} {v:Value} {xs:List Value} (h:Z15 w k v n xs) (hk:Keeps w w'):Z15 w' k v n xs:=by
 obtain⟨hl,a,c,hv,h1,h2,h3,h5,h4⟩:=h
 refine⟨hl,a,c,hv,h1,h2,h3,fun ad ha=>⟨(h5 ad ha).1,Nat.lt_of_lt_of_le (h5 ad ha).2 hk.size⟩,fun i u hu=>?_⟩
 obtain⟨b,o,ha,hc⟩:=h4 i u hu
 exact⟨b,o,ha,hk.cells _ _ hc⟩
theorem Z15.below {w w':World} {k n:Nat} {v:Value} {xs:List Value} (h:Z15 w k v n xs) (hb:Below w.heap.size w w'):Z15 w' k v n xs:=h.keeps (.of_below hb)
theorem Z15.of_own {w:World} {base e k n:Nat} {v:Value} {xs:List Value} (h:w.ownsRow base e k v n xs):Z15 w k v n xs:=by
 refine⟨h.1,?_⟩
 have hc:=@World.ownsRow.cells w base e k v n xs h
 rcases h.2 with ⟨rfl,rfl⟩ |⟨g,cap,cur,rfl,hb,hg,h1,h2,_,_⟩
 ·refine⟨none,0,rfl,Nat.le_refl _,by unfold maxLen;omega,fun _=>rfl,fun _ h=>(by cases h),fun i u hu=>?_⟩
  have:xs=[]:=List.eq_nil_of_length_eq_zero (by simpa using h.1)
  subst this;simp at hu
 ·refine⟨_,cap,rfl,h1,h2,fun h=>(by cases h),fun ad ha=>(by cases ha;exact⟨rfl,lt_of_block hg⟩),fun i u hu=>⟨g,0,rfl,?_⟩⟩
  have:=hc (g:=g) rfl i u hu
  rw[Z2h]at this;exact this
theorem Z15.nil {w:World} {k:Nat}:Z15 w k (.slice none 0 0) 0 []:=.of_own (base:=0) (e:=0) (World.ownsRow_nil w 0 0 k)
theorem Z15.of_block {w:World} {b:Nat} {cs:Array Value} {e:TypeId} {fr:Nat×Nat} {k n:Nat} (h:w.heap[b]?=some (.cells cs e fr)) (hn:cs.size=n * k) (hm:n≤maxLen) :
  Z15 w k (.slice (some ⟨b,0,none⟩) n n) n cs.toList :=
 ⟨by simpa using hn,_,n,rfl,Nat.le_refl _,hm,fun h=>(by cases h),fun ad ha=>(by cases ha;exact⟨rfl,lt_of_block h⟩),fun i u hu=>⟨b,0,rfl,by simp[World.cell?,h];simpa using hu⟩⟩
theorem Z1V {w:World} {base e k n:Nat} {v:Value} {xs:List Value} (h:w.ownsRow base e k v n xs) : ∃ a c,v=.slice a n c:=by
 rcases h.2 with ⟨rfl,rfl⟩ |⟨g,cap,cur,rfl,_⟩
 ·exact⟨_,_,rfl⟩
 ·exact⟨_,_,rfl⟩
theorem Z2B {P:Program} (w:World) (base:Nat) (t ty e:TypeId) (i:TypeInfo) (z:Value) (size bytes:Nat) (ht:P.underlying t=some (.slice e)) (hi:P.info? e=some i) (hz:i.zero=some z)
  (hsize:i.size=size) (hby:i.bytes=bytes) (hzs:z.cells.size=size) (hsz:0<size)
  (v:Value) (n:Nat) (xs:List Value) (hown:w.ownsRow base e size v n xs)
  (sv:Value) (m:Nat) (news:List Value) (hsrc:Z15 w size sv m news) (h1 : ∀ u∈news,u.oneCell'=true)
  (h63:n+m≤maxLen) (hbytes:(n+m) * bytes≤140737488355328) (hbase:base≤w.heap.size) :
  ∃ a' c' w',(Builtin.append_ #[t,t] ty #[v,sv]).run P w=.ok (.slice a' (n+m) c') w'∧w'.ownsRow base e size (.slice a' (n+m) c') (n+m) (xs++news)∧w.grownBy w' v.ownBlock:=by
 obtain⟨hl,a,c,rfl,hc1,hc2,hc3,_,hcell⟩:=hsrc
 cases a with
 | some ad =>
  have hnews : ∀ j u,news[j]?=some u→w.cell? (ad.add j)=some u:=fun j u hu=>by
   obtain⟨b,o,hb,hcc⟩:=hcell j u hu
   cases hb
   rw[Z2h];exact hcc
  obtain⟨v',w',hr,ho,hg,_⟩:=run_append_own (P:=P) w base t ty e i z size bytes ht hi hz hsize hby hzs hsz v n xs hown ad m c news hl hnews h1 h63 hbytes hbase
  obtain⟨a',c',rfl⟩:=Z1V ho
  exact⟨a',c',w',hr,ho,hg⟩
 | none =>
  have hc0:=hc3 rfl
  obtain rfl:c=0:=hc0
  obtain rfl:m=0:=by omega
  have:news=[]:=List.eq_nil_of_length_eq_zero (by simpa using hl)
  subst this
  obtain⟨a',c',rfl⟩:=Z1V hown
  refine⟨a',c',w,?_,by simpa using hown,⟨rfl,rfl,rfl,Nat.le_refl _,fun _ _ _=>rfl⟩⟩
  subst hsize
  rcases hown.2 with ⟨he,_⟩ |⟨g,cap,cur,he,_,_,hnc,_⟩
  ·cases he
   simp[Builtin.append_,run_underlying ht,sizeOf,typeInfo,hi,Builtin.lenOf,Builtin.firstCells]
  ·cases he
   simp[Builtin.append_,run_underlying ht,sizeOf,typeInfo,hi,Builtin.lenOf,Builtin.firstCells,loadCells,storeCells,hnc]
section
variable {P:Program} {ops:Array Oper} {rest:List Oper} {o:Oper} {a:Act} {Q:Exit→Act→World→Prop} {w:World}
theorem Z2L {K:Act→World→Prop} (s x:Operand) (t:TypeId) (ho:o.op=.call {callee:=.builtin .append,args:=#[s,x],argTypes:=#[t,t]})
  {v u:Value} (hs:a.eval s=v) (hx:a.eval x=u) {R:Value→World→Prop} (hrun : ∃ v' w',(Builtin.append_ #[t,t] o.type #[v,u]).run P w=.ok v' w'∧R v' w')
  (h : ∀ v' w',R v' w'→K (a.put o.dst v') w'):o.wp P a w K Q:=by
 obtain⟨v',w',hr,hR⟩:=hrun
 unfold Oper.wp execOp
 simp only[ho,resolve,invoke,builtin,Sem.run_bind,Sem.run_pure,Result.andThen_ok,List.map_toArray,List.map_cons,List.map_nil,hs,hx,hr]
 exact h v' w' hR
end
structure ElemOk (P:Program) (t e:TypeId) (size bytes:Nat):Prop where
 ht:P.underlying t=some (.slice e)
 hi : ∃ i z,P.info? e=some i∧i.zero=some z∧i.size=size∧i.bytes=bytes∧z.cells.size=size
 hsz:0<size
theorem Z1q {P:Program} {t e size bytes:Nat} (E:ElemOk P t e size bytes) {ops:Array Oper} {rest:List Oper} {o:Oper} {a:Act} {Q:Exit→Act→World→Prop} (w:World) (hgd:o.guard=none) (s x:Operand)
  (ho:o.op=.call {callee:=.builtin .append,args:=#[s,x],argTypes:=#[t,t]})
  (base:Nat) (v:Value) (n:Nat) (xs:List Value) (hs:a.eval s=v) (hown:w.ownsRow base e size v n xs)
  (sv:Value) (m:Nat) (news:List Value) (hx:a.eval x=sv) (hsrc:Z15 w size sv m news) (h1 : ∀ u∈news,u.oneCell'=true)
  (h63:n+m≤maxLen) (hbytes:(n+m) * bytes≤140737488355328) (hbase:base≤w.heap.size)
  (h : ∀ a' c' w',w'.ownsRow base e size (.slice a' (n+m) c') (n+m) (xs++news)→w.grownBy w' v.ownBlock→wpList P ops Q rest (a.put o.dst (.slice a' (n+m) c')) w'):wpList P ops Q (o :: rest) a w :=
 wpList_plain hgd fun K hK=>by
  obtain⟨i,z,hi,hz,hsize,hby,hzs⟩:=E.hi
  refine Z2L s x t ho hs hx (R:=fun v' w'=>∃ a' c',v'=.slice a' (n+m) c'∧w'.ownsRow base e size (.slice a' (n+m) c') (n+m) (xs++news)∧w.grownBy w' v.ownBlock) ?_ ?_
  ·obtain⟨a',c',w',hr,h2,h3⟩:=Z2B (P:=P) w base t o.type e i z size bytes E.ht hi hz hsize hby hzs E.hsz v n xs hown sv m news hsrc h1 h63 hbytes hbase
   exact⟨_,w',hr,a',c',rfl,h2,h3⟩
  ·rintro _ w' ⟨a',c',rfl,h2,h3⟩
   exact hK _ _ (h a' c' w' h2 h3)
theorem Z1W {P:Program} {t e size bytes:Nat} (E:ElemOk P t e size bytes) {ops:Array Oper} {o:Oper} {a:Act} {K:Act→World→Prop} {Q:Exit→Act→World→Prop} {F:Prop} (w:World) (hgd:o.guard=none) (s x:Operand)
  (ho:o.op=.call {callee:=.builtin .append,args:=#[s,x],argTypes:=#[t,t]})
  (base:Nat) (v:Value) (n:Nat) (xs:List Value) (hs:a.eval s=v) (hown:w.ownsRow base e size v n xs)
  (sv:Value) (m:Nat) (news:List Value) (hx:a.eval x=sv) (hsrc:Z15 w size sv m news) (h1 : ∀ u∈news,u.oneCell'=true)
  (h63:n+m≤maxLen) (hbytes:(n+m) * bytes≤140737488355328) (hbase:base≤w.heap.size)
  (h : ∀ a' c' w',w'.ownsRow base e size (.slice a' (n+m) c') (n+m) (xs++news)→w.grownBy w' v.ownBlock→K (a.put o.dst (.slice a' (n+m) c')) w') :
  if Region.wanted o (yielded ops a.tmps)=true then Oper.wp P o a w K Q else F:=by
 have hw:Region.wanted o (yielded ops a.tmps)=true:=by simp[Region.wanted,hgd]
 rw[if_pos hw]
 obtain⟨i,z,hi,hz,hsize,hby,hzs⟩:=E.hi
 refine Z2L s x t ho hs hx (R:=fun v' w'=>∃ a' c',v'=.slice a' (n+m) c'∧w'.ownsRow base e size (.slice a' (n+m) c') (n+m) (xs++news)∧w.grownBy w' v.ownBlock) ?_ ?_
 ·obtain⟨a',c',w',hr,h2,h3⟩:=Z2B (P:=P) w base t o.type e i z size bytes E.ht hi hz hsize hby hzs E.hsz v n xs hown sv m news hsrc h1 h63 hbytes hbase
  exact⟨_,w',hr,a',c',rfl,h2,h3⟩
 ·rintro _ w' ⟨a',c',rfl,h2,h3⟩
  exact h a' c' w' h2 h3
theorem Z2l {P:Program} {t e size bytes:Nat} {z:Value} (ht:P.underlying t=some (.slice e)) (hi:(P.info? e).map (fun i=>(i.zero,i.size,i.bytes))=some (some z,size,bytes)) (hz:z.cells.size=size) (hsz:0<size):ElemOk P t e size bytes:=by
 obtain⟨i,h1,h2,h3,h4⟩:=info_parts hi
 exact⟨ht,⟨i,z,h1,h2,h3,h4,hz⟩,hsz⟩
/-! Bytes. -/
def Z6H (c:UInt8):Value:=.int .u8 (c.toNat:Int)
def Z1e (w:World) (v:Value) (l:List UInt8):Prop:=Z15 w 1 v l.length (l.map Z6H)
theorem Z1e.form {w:World} {v:Value} {l:List UInt8} (h:Z1e w v l) : ∃ a c,v=.slice a l.length c∧l.length≤c∧c≤maxLen∧(a=none→c=0):=by
 obtain⟨_,a,c,hv,h1,h2,h3,_,_⟩:=h
 exact⟨a,c,hv,h1,h2,h3⟩
theorem Z1e.lt {w:World} {v:Value} {l:List UInt8} {j:Nat} (h:Z1e w v l) (hj:v.ownBlock=some j):j<w.heap.size:=by
 obtain⟨_,a,c,rfl,_,_,_,h5,_⟩:=h
 cases a with
 | none=>cases hj
 | some ad=>cases hj;exact(h5 ad rfl).2
theorem Z1e.below {w w':World} {v:Value} {l:List UInt8} (h:Z1e w v l) (hb:Below w.heap.size w w'):Z1e w' v l:=Z15.below h hb
theorem Z1e.keeps {w w':World} {v:Value} {l:List UInt8} (h:Z1e w v l) (hb:Keeps w w'):Z1e w' v l:=Z15.keeps h hb
theorem Z1e.cell {w:World} {a:Option Addr} {n c:Nat} {l:List UInt8} (h:Z1e w (.slice a n c) l) (i:Nat) (hi:i<l.length) : ∃ b o,a=some ⟨b,o,none⟩∧w.cell? ⟨b,o+i,none⟩=some (.int .u8 (l[i].toNat:Int)):=by
 obtain⟨_,a',c',hv,h1,h2,h3,h5,h4⟩:=h
 cases hv
 exact h4 i _ (by simp[hi,Z6H])
theorem Z1e.take {w:World} {a:Option Addr} {n c:Nat} {l:List UInt8} (h:Z1e w (.slice a n c) l) (k c2:Nat) (hk:k≤l.length) (hc2:k≤c2) (hc3:c2≤c):Z1e w (.slice a k c2) (l.take k):=by
 obtain⟨_,a',c',hv,h1,h2,h3,h5,h4⟩:=h
 cases hv
 refine⟨by simp,a,c2,by simp;omega,by simp;omega,by omega,fun h=>(by have:=h3 h;omega),h5,fun i u hu=>?_⟩
 have hi:i<(l.take k).length:=by have:=(List.getElem?_eq_some_iff.1 hu).1;simpa using this
 simp only[List.length_take]at hi
 refine h4 i u ?_
 rw[←hu];simp[List.getElem?_take];omega
end
namespace S
section
def head (c:Nat):Option (Nat×Nat×Nat) :=
 if c<128 then some (0,c,0) else if c / 32=6 then some (1,c % 32,128) else if c / 16=14 then some (2,c % 16,2048)
 else if c / 8=30 then some (3,c % 8,65536) else none
def cont:Nat→Nat→List UInt8→Option Nat
 | 0,v,_=>some v
 | _+1,_,[]=>none
 | k+1,v,b :: l=>if b.toNat / 64=2 then cont k (v * 64+b.toNat % 64) l else none
def good (v least:Nat):Bool:=!(v<least || 1114111<v ||(55296≤v && v≤57343))
def one (l:List UInt8):Option Nat :=
 match l with
 | []=>none
 | c :: t=>match head c.toNat with
  | none=>none
  | some (n,v,least)=>if l.length≤n then none else match cont n v t with
   | none=>none
   | some v=>if good v least then some (n+1) else none
theorem head_lt {c n v least:Nat} (h:head c=some (n,v,least)):n≤3∧(v+1) * 64 ^ n≤2097152:=by
 unfold head at h
 split at h
 ·simp at h;obtain⟨rfl,rfl,rfl⟩:=h;simp;omega
 split at h
 ·simp at h;obtain⟨rfl,rfl,rfl⟩:=h;simp;omega
 split at h
 ·simp at h;obtain⟨rfl,rfl,rfl⟩:=h;simp;omega
 split at h
 ·simp at h;obtain⟨rfl,rfl,rfl⟩:=h;simp;omega
 ·simp at h
theorem cont_step {k v:Nat} {l:List UInt8} (j:Nat) (hj:j<l.length) (hb:l[j].toNat / 64=2) :
  cont (k+1) v (l.drop j)=cont k (v * 64+l[j].toNat % 64) (l.drop (j+1)):=by
 rw[List.drop_eq_getElem_cons hj]
 simp[cont,hb]
theorem cont_stop {k v:Nat} {l:List UInt8} (j:Nat) (hj:j<l.length) (hb:¬ l[j].toNat / 64=2) :
  cont (k+1) v (l.drop j)=none:=by
 rw[List.drop_eq_getElem_cons hj]
 simp[cont,hb]
theorem bound_step {v b k:Nat} (h:(v+1) * 64 ^ (k+1)≤2097152) (hb:b<64):(v * 64+b+1) * 64 ^ k≤2097152:=by
 refine Nat.le_trans ?_ h
 rw[Nat.pow_succ,Nat.mul_comm (64 ^ k) 64,←Nat.mul_assoc]
 exact Nat.mul_le_mul_right _ (by omega)
theorem bound_v {v k:Nat} (h:(v+1) * 64 ^ k≤2097152):v<2097152:=by
 have:=Nat.le_mul_of_pos_right (v+1) (Nat.pow_pos (n:=k) (show 0<64 by omega))
 omega
theorem one_le {l:List UInt8} {n:Nat} (h:one l=some n):1≤n∧n≤l.length:=by
 unfold one at h
 split at h
 ·cases h
 ·split at h
  ·cases h
  ·split at h
   ·cases h
   ·split at h
    ·cases h
    ·split at h
     ·simp at h;omega
     ·cases h
def Z54:Nat→List UInt8→Option Nat
 | 0,l=>if l=[] then some 0 else none
 | f+1,l=>if l=[] then some 0 else match one l with
  | none=>none
  | some n=>(Z54 f (l.drop n)).map (· + 1)
def runes (l:List UInt8):Option Nat:=Z54 l.length l
theorem Z4t : ∀ (f:Nat) (l:List UInt8),l.length≤f→Z54 f l=runes l:=by
 intro f
 induction f using Nat.strongRecOn with
 | ind f ih =>
  intro l hl
  cases f with
  | zero=>obtain rfl:l=[]:=List.eq_nil_of_length_eq_zero (by omega);rfl
  | succ f =>
   unfold runes
   cases hll:l.length with
   | zero=>obtain rfl:l=[]:=List.eq_nil_of_length_eq_zero hll;rfl
   | succ m =>
    simp only[Z54]
    split
    ·rfl
    ·cases h:one l with
     | none=>rfl
     | some n =>
      have:=one_le h
      simp only
      rw[ih f (by omega) (l.drop n) (by simp;omega),ih m (by omega) (l.drop n) (by simp;omega)]
theorem runes_nil:runes []=some 0:=rfl
theorem runes_none {l:List UInt8} (hl:l≠[]) (h:one l=none):runes l=none:=by
 rw[←Z4t (l.length+1) l (by omega)];simp[Z54,hl,h]
theorem runes_some {l:List UInt8} {n:Nat} (h:one l=some n):runes l=(runes (l.drop n)).map (· + 1):=by
 have hl:l≠[]:=by intro e;subst e;simp[one]at h
 rw[←Z4t (l.length+1) l (by omega)];simp only[Z54,hl,h,if_false]
 rw[Z4t _ _ (by simp)]
def valid (l:List UInt8):Bool:=(runes l).isSome && decide (l.length≤64) && !(l.contains 0)
def badByte (c:UInt8):Bool:=c.toNat<32 || c.toNat == 47
def name (l:List UInt8):Nat:=if !valid l || l.isEmpty || l == [46] || l == [46,46] then 6 else if l.any badByte then 6 else if 28<l.length then 3 else 0
def may (l:List UInt8):Nat:=if 64<l.length then 3 else if !valid l then 2 else 0
theorem take_any (s:ByteArray) (p:UInt8→Bool) (k:Nat) (h:k<s.size):(s.data.toList.take (k+1)).any p=((s.data.toList.take k).any p || p s[k]):=by
 rw[List.take_succ_eq_append_getElem (by simpa using h),List.any_append]
 show(_ ||([s[k]].any p))=_
 simp
theorem any_of_take {l:List UInt8} {p:UInt8→Bool} (k:Nat) (h:(l.take k).any p=true):l.any p=true:=by
 rw[List.any_eq_true]at h ⊢
 obtain⟨x,hx,hp⟩:=h
 exact⟨x,List.mem_of_mem_take hx,hp⟩
theorem data_extract (s:ByteArray) (a:Nat):(s.extract a s.size).data.toList=s.data.toList.drop a:=by
 rw[ByteArray.data_extract,Array.toList_extract,List.extract_eq_take_drop]
 refine List.take_of_length_le ?_
 rw[List.length_drop]
 exact Nat.le_refl _
end
end S
section
open Go.RowKit
def Z5s (w:World) (b:Nat) (xs:List UInt8):Prop :=
 ∃ v,∃ ot:TypeId,w.heap[b]?=some (.cells #[v] ot (0,0))∧w.ownsRow (b+1) 5 1 v xs.length (xs.map Z6H)
theorem Z62 (w:World) (e k:Nat):(w.alloc (.cells #[] e)).ownsRow w.heap.size e k (.slice (some ⟨w.heap.size,0,none⟩) 0 0) 0 [] :=
 World.ownsRow_made w #[] 0 (Nat.le_refl _) (by unfold maxLen;omega) (by simp)
theorem Z1e.of_own {w:World} {base e n:Nat} {v:Value} {xs:List Value} {l:List UInt8} (h:w.ownsRow base e 1 v n xs) (hx:xs=l.map Z6H):Z1e w v l:=by
 subst hx
 have:=Z15.of_own h
 obtain rfl:n=l.length:=by have:=h.1;simp at this;omega
 exact this
theorem Z5s.bytes {w:World} {b:Nat} {xs:List UInt8} (h:Z5s w b xs) : ∃ v,∃ ot:TypeId,w.heap[b]?=some (.cells #[v] ot (0,0))∧Z1e w v xs:=by
 obtain⟨v,ot,h1,h2⟩:=h
 exact⟨v,ot,h1,Z1e.of_own h2 rfl⟩
end
section
open Go.RowKit
theorem Z0 {w:World} {b:Nat} {cs:Array Value} {t:TypeId} {fr:Nat×Nat} (h:w.heap[b]?=some (.cells cs t fr)) (i:Nat):w.cell? ⟨b,i,none⟩=cs[i]?:=by simp[World.cell?,h]
theorem Zb {w:World} {b:Nat} {cs:Array Value} {t:TypeId} (h:w.heap[b]?=some (.cells cs t (0,0))) (i:Nat):w.frozen? ⟨b,i,none⟩=false:=by simp[World.frozen?,h]
theorem Zg {w:World} {b:Nat} {cs:Array Value} {t:TypeId} {fr:Nat×Nat} (h:w.heap[b]?=some (.cells cs t fr)) (i:Nat) (u:Value):(w.setCell ⟨b,i,none⟩ u).heap[b]?=some (.cells (cs.setIfInBounds i u) t fr):=by
 have hlt:=lt_of_block h
 have h':w.heap[b]=.cells cs t fr:=by simpa[Array.getElem?_eq_getElem hlt] using h
 show(w.heap.modify b _)[b]?=_
 rw[Array.getElem?_modify,if_pos rfl,h]
 rfl
theorem Z1 {w:World} {b:Nat} {p:Addr} {u:Value} (hne:b≠p.block):(w.setCell p u).heap[b]?=w.heap[b]?:=Below.heap_setCell _ _ _ _ hne
theorem Z15.other {w w':World} {k n:Nat} {v:Value} {xs:List Value} (h:Z15 w k v n xs) (hsz:w.heap.size≤w'.heap.size) (hk : ∀ j,v.ownBlock=some j→w'.heap[j]?=w.heap[j]?):Z15 w' k v n xs:=by
 obtain⟨hl,a,c,rfl,h1,h2,h3,h5,h4⟩:=h
 refine⟨hl,a,c,rfl,h1,h2,h3,fun ad ha=>⟨(h5 ad ha).1,Nat.lt_of_lt_of_le (h5 ad ha).2 hsz⟩,fun i u hu=>?_⟩
 obtain⟨b,o,rfl,hc⟩:=h4 i u hu
 refine⟨b,o,rfl,?_⟩
 rw[World.cell?_of_block (w:=w) (hk b rfl)];exact hc
theorem Z1e.setCell {w:World} {v:Value} {l:List UInt8} (h:Z1e w v l) {p:Addr} (u:Value) (hne:v.ownBlock≠some p.block):Z1e (w.setCell p u) v l :=
 Z15.other h (by simp[World.setCell]) fun j hj=>Z1 fun e=>hne (by rw[hj,e])
def ZY (e:Nat):List PanicEntry:=[{v:=.iface 33 (.int .i64 (e:Int)),recovered:=false}]
def Z63 (e:Nat):List PanicEntry:=[{v:=.iface 33 (.int .i64 (e:Int)),recovered:=true}]
end
end Go.Proofs.YtkefjeabckainaaGreat
