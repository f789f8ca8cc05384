/- Laws 14 and 17: valid, Few of a tree. Conditions: lengths of strings and slices. And the texts behind it. -/
import Derived.Test.YtkefjeabckainaaGreatFtB27
import Derived.Test.YtkefjeabckainaaGreatFtB23
import Derived.Test.YtkefjeabckainaaGreatFtB38
import Derived.Test.YtkefjeabckainaaGreatFtB14
import Derived.Test.YtkefjeabckainaaGreatFtB03
import Derived.BigQuiet
import Derived.Deep.QuietTactic
import Derived.Deep.RegionHeld3
import Derived.Test.YtkefjeabckainaaGreatFtB32
namespace Go.Proofs.YtkefjeabckainaaGreat
set_option maxRecDepth 100000
set_option linter.unusedVariables false
section
open Go.RowKit
def Zdi (n:Nod):Bool:=decide (n.name.size≤100) && decide (n.uid.size≤100) && decide (n.gid.size≤100) && decide (n.muid.size≤100) && decide (n.data.size≤5000)
def Z8E (l:List Nod):Bool:=decide (l.length≤70) && l.all Zdi
set_option maxHeartbeats 6400000 in
theorem Z8z (v:Value) (x:Nat) (l:List Nod) (w:World) (hv:Z3 w v l) :
  Calls Tryz.prog 54 #[.agg #[.int .u64 (x:Int),v]] w fun e w'=>e=.returned (.bool (Z8E l))∧Below w.heap.size w w':=by
 obtain⟨a,c,rfl,g1,g2⟩:=hv.form
 unfold maxLen at g2
 obtain⟨W,hW⟩ : ∃ W,W=w.alloc (.cells #[.int .u64 (x:Int),.slice a l.length c] 30):=⟨_,rfl⟩
 have hb0:Below w.heap.size w W:=by rw[hW];exact(Below.refl w.heap.size w).alloc (Nat.le_refl _) _
 have hX0:=hid (show W.heap[w.heap.size]?=some (.cells #[.int .u64 (x:Int),.slice a l.length c] 30 (0,0)) by rw[hW,heap_alloc_new])
 obtain⟨r,hr⟩ : ∃ r,r=Z8E l:=⟨_,rfl⟩
 rw[←hr]
 replace hv:=hid hv
 have e1:=Z0 hX0.out 1
 go_enter Tryz.func54,Tryz.ntmps54
 by_cases hlen:l.length≤70
 case neg =>
  have hR2:=hid (show r=false by rw[hr];unfold Z8E;rw[decide_eq_false hlen];rfl)
  have hz:(70:Int)<(l.length:Int):=by omega
  replace hb0:=hid hb0
  replace hr:=hid hr
  go_wp2_with (rw[←hW];replace hW:=hid hW)
  go_ret
  exact⟨by rw[hR2.out];rfl,hb0.out⟩
 have hz:¬ (70:Int)<(l.length:Int):=by omega
 have hR0:=hid (show r=(l.drop 0).all Zdi by rw[hr];unfold Z8E;rw[decide_eq_true hlen];rfl)
 replace hb0:=hid hb0
 replace hr:=hid hr
 go_wp2_with (rw[←hW];replace hW:=hid hW)
 clear e1
 go_loopg [3] l.length (fun g1 kv wr=>∃ k:Nat,kv=.int .i64 (k:Int)∧k≤l.length∧l.length - k≤g1∧Hid (Below w.heap.size w wr)∧Hid (wr.heap[w.heap.size]?=some (.cells #[.int .u64 (x:Int),.slice a l.length c] 30 (0,0)))∧Hid (r=(l.drop k).all Zdi))
 case atStart=>exact⟨0,by first | rfl | go_num,by omega,by omega,hb0,hX0,hR0⟩
 case round =>
  clear hb0 hX0 hR0
  obtain⟨k,rfl,hk,hg,hB,hX,hR⟩:=hrel
  have e1:=Z0 hX.out 1
  by_cases hkl:k<l.length
  ·have hkz:(k:Int)<(l.length:Int):=by omega
   obtain⟨b,o,ha,hrg⟩:=(hv.out.below hB.out).range k hkl
   subst ha
   have hR1:=hR.out
   rw[List.drop_eq_getElem_cons hkl,List.all_cons]at hR1
   generalize l[k]=n at *
   have hnew:=hid (heap_alloc_new wr (.cells Zk.cells 89))
   obtain⟨W3,hW3⟩ : ∃ W,W=Z1J wr n:=⟨_,rfl⟩
   have hb3:Below wr.heap.size wr W3:=by rw[hW3];exact ZD _ _
   have hn3:W3.heap[wr.heap.size]?=some (.cells n.cells 89 (0,0)):=by rw[hW3];exact ZK _ _
   have hB3:=hid (sn hB.out hb3)
   have hX3:=hid ((hb3.block _ (lt_of_block hX.out)).trans hX.out)
   have q5:W3.cell? ⟨wr.heap.size,5,none⟩=some (.string n.name):=Z0 hn3 5
   have q6:W3.cell? ⟨wr.heap.size,6,none⟩=some (.string n.uid):=Z0 hn3 6
   have q7:W3.cell? ⟨wr.heap.size,7,none⟩=some (.string n.gid):=Z0 hn3 7
   have q8:W3.cell? ⟨wr.heap.size,8,none⟩=some (.string n.muid):=Z0 hn3 8
   have q11:W3.cell? ⟨wr.heap.size,11,none⟩=some (.string n.data):=Z0 hn3 11
   unfold Z1J at hW3
   rw[Zc]at hW3 hnew
   replace hrg:=hid hrg
   clear hb3 hn3 hB hX hR
   go_upto_region 7 with (first
    |(refine Zx (by rfl) 89 (.tmp 19) (by rfl) b (o+k * 12) (by rfl) n.cells _ hrg.out Tryz.underlying89 (by rfl) (by kernel_rfl) ?_)
    |(refine wpList_store_row (by rfl) 89 (.tmp 4) (.tmp 20) (by rfl) wr.heap.size n.cells (by rfl) (by rfl) 89 _ hnew.out (by kernel_rfl) (by kernel_rfl) (Zw n) ?_)
    |(rw[←hW3];replace hW3:=hid hW3))
   try (rw[←hW3];replace hW3:=hid hW3)
   clear hnew e1
   generalize wr.heap.size=z at *
   have hfn:Zdi n=(decide (n.name.size≤100) && decide (n.uid.size≤100) && decide (n.gid.size≤100) && decide (n.muid.size≤100) && decide (n.data.size≤5000)):=rfl
   by_cases h1:n.name.size≤100
   case neg =>
    have hR2:=hid (show r=false by rw[hR1,hfn,decide_eq_false h1];rfl)
    have z1:(100:Int)<(n.name.size:Int):=by omega
    clear hR1 hfn h1
    go_wp2_with fail
    go_ret
    exact⟨by rw[hR2.out];rfl,hB3.out⟩
   have z1:¬ (100:Int)<(n.name.size:Int):=by omega
   by_cases h2:n.uid.size≤100
   case neg =>
    have hR2:=hid (show r=false by rw[hR1,hfn,decide_eq_false h2];simp)
    have z2:(100:Int)<(n.uid.size:Int):=by omega
    clear hR1 hfn h1 h2
    go_wp2_with fail
    go_ret
    exact⟨by rw[hR2.out];rfl,hB3.out⟩
   have z2:¬ (100:Int)<(n.uid.size:Int):=by omega
   by_cases h3:n.gid.size≤100
   case neg =>
    have hR2:=hid (show r=false by rw[hR1,hfn,decide_eq_false h3];simp)
    have z3:(100:Int)<(n.gid.size:Int):=by omega
    clear hR1 hfn h1 h2 h3
    go_wp2_with fail
    go_ret
    exact⟨by rw[hR2.out];rfl,hB3.out⟩
   have z3:¬ (100:Int)<(n.gid.size:Int):=by omega
   by_cases h4:n.muid.size≤100
   case neg =>
    have hR2:=hid (show r=false by rw[hR1,hfn,decide_eq_false h4];simp)
    have z4:(100:Int)<(n.muid.size:Int):=by omega
    clear hR1 hfn h1 h2 h3 h4
    go_wp2_with fail
    go_ret
    exact⟨by rw[hR2.out];rfl,hB3.out⟩
   have z4:¬ (100:Int)<(n.muid.size:Int):=by omega
   by_cases h5:n.data.size≤5000
   case neg =>
    have hR2:=hid (show r=false by rw[hR1,hfn,decide_eq_false h5];simp)
    have z5:(5000:Int)<(n.data.size:Int):=by omega
    clear hR1 hfn h1 h2 h3 h4 h5
    go_wp2_with fail
    go_ret
    exact⟨by rw[hR2.out];rfl,hB3.out⟩
   have z5:¬ (5000:Int)<(n.data.size:Int):=by omega
   have hR2:=hid (show r=(l.drop (k+1)).all Zdi by rw[hR1,hfn,decide_eq_true h1,decide_eq_true h2,decide_eq_true h3,decide_eq_true h4,decide_eq_true h5];rfl)
   clear hR1 hfn h1 h2 h3 h4 h5
   go_wp2_with fail
   go_roundg (l.length - (k+1))
   case measure=>omega
   case rel=>exact⟨k+1,by first | rfl | go_num,by omega,by omega,hB3,hX3,hR2⟩
  ·have hkz:¬ (k:Int)<(l.length:Int):=by omega
   have hR2:=hid (show r=true by rw[hR.out,List.drop_of_length_le (by omega)];rfl)
   go_wp2_with fail
   go_ret
   exact⟨by rw[hR2.out];rfl,hB.out⟩
end
section
open Go.RowKit
theorem ZbO {l:List Nod} (h:Z8E l=true):l.length≤70:=by unfold Z8E at h;simp at h;exact h.1
theorem Zag {l:List Nod} (h:Z8E l=true) : ∀ n∈l,n.data.size≤1000000:=fun n hn=>by
 unfold Z8E Zdi at h
 simp at h
 have:=h.2 n hn
 omega
def Zdj (w:World) (x:Nat) (l:List Nod) (e:Ending) (w':World):Prop:=∃ b:Bool,e=.returned (.bool b)∧(b=true→OkC ⟨x,l⟩∧Z8E l=true)∧Below w.heap.size w w'
set_option maxHeartbeats 3200000 in
theorem Zah (v:Value) (x:Nat) (l:List Nod) (w:World) (hv:Z3 w v l) (hok : ∀ n∈l,NodOk n) :
  Calls Tryz.prog 18 #[.agg #[.int .u64 (x:Int),v]] w (Zdj w x l):=by
 obtain⟨a,c,rfl,g1,g2⟩:=hv.form
 unfold maxLen at g2
 obtain⟨W,hW⟩ : ∃ W,W=w.alloc (.cells #[.int .u64 (x:Int),.slice a l.length c] 30):=⟨_,rfl⟩
 have hb0:Below w.heap.size w W:=by rw[hW];exact(Below.refl w.heap.size w).alloc (Nat.le_refl _) _
 have hX0:W.heap[w.heap.size]?=some (.cells #[.int .u64 (x:Int),.slice a l.length c] 30 (0,0)):=by rw[hW,heap_alloc_new]
 have hvW:=hv.below hb0
 have hfew:=hid (Z8z _ x l W hvW)
 have e0:=Z0 hX0 0
 have e1:=Z0 hX0 1
 rcases hf:Z8E l with _ | _
 ·rw[hf]at hfew
  replace hf:=hid hf
  replace hb0:=hid hb0
  clear hX0
  go_enter Tryz.func18,Tryz.ntmps18
  go_wp2_with (rw[←hW];replace hW:=hid hW)
  refine hfew.out.mono ?_
  rintro e w2 ⟨rfl,hb2⟩
  have hB2:=hid (sn hb0.out hb2)
  go_wp2_with fail
  go_ret
  exact⟨false,rfl,(fun h=>by cases h),hB2.out⟩
 ·rw[hf]at hfew
  have hlen:=ZbO hf
  have hdat:=Zag hf
  replace hf:=hid hf
  replace hb0:=hid hb0
  replace hX0:=hid hX0
  replace hvW:=hid hvW
  replace hdat:=hid hdat
  replace hok:=hid hok
  go_enter Tryz.func18,Tryz.ntmps18
  go_wp2_with (rw[←hW];replace hW:=hid hW)
  refine hfew.out.mono ?_
  rintro e w2 ⟨rfl,hb2⟩
  have hB2:=hid (sn hb0.out hb2)
  have hX2:=(hb2.block _ (lt_of_block hX0.out)).trans hX0.out
  have hof:=hid (Z7z _ x l w2 (hvW.out.below hb2) (by omega))
  clear e0 e1 hb2 hfew
  have e0:=Z0 hX2 0
  have e1:=Z0 hX2 1
  replace hX2:=hid hX2
  go_wp2_with fail
  refine hof.out.mono ?_
  rintro e w3 ⟨v3,rfl,hv3,_,hb3⟩
  have hB3:=hid (sn hB2.out hb3)
  have hck:=hid (Z8y v3 x l w3 hv3 (by omega) hok.out hdat.out)
  obtain⟨a3,c3,rfl,_,_⟩:=hv3.form
  clear e0 e1 hb3 hof hv3
  go_wp2_with fail
  refine hck.out.mono ?_
  rintro e w4 ⟨E,rfl,hE,hb4⟩
  have hB4:=hid (sn hB3.out hb4)
  obtain⟨bE,hbE⟩ : ∃ bE,bE=(E == 0):=⟨_,rfl⟩
  have hR:=hid (show bE=true→OkC ⟨x,l⟩ from fun h=>Zc5.1 (hE.1 (by rw[hbE]at h;simpa using h)))
  have q1:(E == 0)=bE:=hbE.symm
  replace hbE:=hid hbE
  replace hE:=hid hE
  clear hb4 hck
  cases bE
  all_goals
   go_wp2_with fail
   go_ret
   exact⟨_,rfl,(fun h=>⟨(by first | exact hR.out h | exact hR.out trivial | cases h),hf.out⟩),hB4.out⟩
end
section
open Go.RowKit
set_option maxHeartbeats 400000 in
theorem Z8A (t v p:Int) (w:World):Calls Tryz.prog 58 #[.agg #[.int .u8 t,.int .u32 v,.int .u64 p]] w fun e w'=>e=.returned (.agg #[.int .u8 t,.int .u32 v,.int .u64 p])∧Below w.heap.size w w':=by
 go_enter Tryz.func58,Tryz.ntmps58
 go_wp2
 refine bodyPost_ret (v:=.agg #[.int .u8 t,.int .u32 v,.int .u64 p]) (by simp[results,Tryz.results58,go_sem]) rfl ⟨rfl,?_⟩
 exact((Below.refl _ _).alloc (Nat.le_refl _) _).alloc (by simp) _
theorem kc {w w':World} {a:Addr} {u:Value} (hb:Below w.heap.size w w') (h:w.cell? a=some u):w'.cell? a=some u:=(Keeps.of_below hb).cells _ _ h
set_option maxHeartbeats 1600000 in
theorem ZdY (s:Stat) (w:World):Calls Tryz.prog 22 #[.agg s.cells] w fun e w'=>e=.returned (.agg s.cells)∧Below w.heap.size w w':=by
 obtain⟨kind,dev,qt,qv,qp,mode,atm,mtm,len,name,uid,gid,muid⟩:=s
 simp only[Stat.cells]at *
 go_enter Tryz.func22,Tryz.ntmps22
 go_wp2
 go_region_held3 (fun w'=>w'.cell? ⟨w.heap.size,0,none⟩=some (.int .u16 (kind:Int))∧w'.cell? ⟨w.heap.size,1,none⟩=some (.int .u32 (dev:Int))
  ∧ w'.cell? ⟨w.heap.size,2,none⟩=some (.int .u8 (qt:Int))∧w'.cell? ⟨w.heap.size,3,none⟩=some (.int .u32 (qv:Int))∧w'.cell? ⟨w.heap.size,4,none⟩=some (.int .u64 (qp:Int))
  ∧ w'.cell? ⟨w.heap.size,5,none⟩=some (.int .u32 (mode:Int))∧w'.cell? ⟨w.heap.size,6,none⟩=some (.int .u32 (atm:Int))∧w'.cell? ⟨w.heap.size,7,none⟩=some (.int .u32 (mtm:Int))∧w'.cell? ⟨w.heap.size,8,none⟩=some (.int .u64 (len:Int))
  ∧ w'.cell? ⟨w.heap.size,9,none⟩=some (.string name)∧w'.cell? ⟨w.heap.size,10,none⟩=some (.string uid)∧w'.cell? ⟨w.heap.size,11,none⟩=some (.string gid)∧w'.cell? ⟨w.heap.size,12,none⟩=some (.string muid))
  (first | go_keep |(have hH:=‹World.cell? _ ⟨_,0,none⟩=some _∧_›;exact⟨kc hb5 hH.1,kc hb5 hH.2.1,kc hb5 hH.2.2.1,kc hb5 hH.2.2.2.1,kc hb5 hH.2.2.2.2.1,kc hb5 hH.2.2.2.2.2.1,kc hb5 hH.2.2.2.2.2.2.1,kc hb5 hH.2.2.2.2.2.2.2.1,kc hb5 hH.2.2.2.2.2.2.2.2.1,kc hb5 hH.2.2.2.2.2.2.2.2.2.1,kc hb5 hH.2.2.2.2.2.2.2.2.2.2.1,kc hb5 hH.2.2.2.2.2.2.2.2.2.2.2.1,kc hb5 hH.2.2.2.2.2.2.2.2.2.2.2.2⟩))
  ((go_at_call 58;refine(Z8A _ _ _ _).mono ?_;rintro e w5 ⟨rfl,hb5⟩;obtain⟨hc5,hf5⟩:=Ze6 hb5;have hz5:w.heap.size+1<w5.heap.size:=by have:=hb5.size;simp at this;omega))
 go_wp2_with fail
 have hbox:w5.heap[w.heap.size+1]?=some (.cells #[.int .u16 0,.int .u32 0,.int .u8 0,.int .u32 0,.int .u64 0,.int .u32 0,.int .u32 0,.int .u32 0,.int .u64 0,.string ⟨#[]⟩,.string ⟨#[]⟩,.string ⟨#[]⟩,.string ⟨#[]⟩] 60 (0,0)):=by
  rw[hb5.block _ (by simp)]
  exact Z27 w _ _
 refine bodyPost_ret (results_cell_row rfl _ _ (w.heap.size+1) _ _ _ _ rfl (Ze7 hbox rfl) Tryz.underlying60 rfl (by kernel_rfl)) rfl ?_
 exact⟨rfl,Zcc (by omega) ((((Below.refl _ _).alloc (Nat.le_refl _) _).alloc (by simp) _).drew.trans (hb5.mono (by simp;omega)))⟩
end
section
open Go.RowKit
theorem Z6G (l:List Nod) (i j:Nat) (hi:i<l.length) (hj:j<13):(Z47 l)[i * 13+j]?=(Z3T l[i])[j]?:=by
 induction l generalizing i with
 | nil=>simp at hi
 | cons n l ih =>
  show((Z3T n).toList++Z47 l)[i * 13+j]?=_
  have h3:(Z3T n).toList.length=13:=rfl
  cases i with
  | zero=>rw[Nat.zero_mul,Nat.zero_add,List.getElem?_append_left (by omega)];simp
  | succ k =>
   rw[List.getElem?_append_right (by omega),h3,show(k+1) * 13+j - 13=k * 13+j by omega]
   exact ih k (by simpa using hi)
theorem Z1P.range {w:World} {a:Option Addr} {n c:Nat} {l:List Nod} (h:Z1P w (.slice a n c) l) (i:Nat) (hi:i<l.length) : ∃ b o,a=some ⟨b,o,none⟩∧w.rangeAt b (o+i * 13) (Z3T l[i]).toList:=by
 obtain⟨_,a',c',hv,h1,h2,h3,h4⟩:=h
 cases hv
 obtain⟨b,o,ha,_⟩:=h4 (i * 13) _ (by rw[show i * 13=i * 13+0 from rfl,Z6G l i 0 hi (by omega)];rfl)
 refine⟨b,o,ha,fun j u hu=>?_⟩
 have hj:j<13:=(List.getElem?_eq_some_iff.1 hu).1
 obtain⟨b',o',ha',hc⟩:=h4 (i * 13+j) u (by rw[Z6G l i j hi hj];simpa using hu)
 rw[ha]at ha';cases ha'
 rw[Nat.add_assoc];exact hc
theorem Z1P.form {w:World} {v:Value} {l:List Nod} (h:Z1P w v l) : ∃ a c,v=.slice a l.length c∧l.length≤c∧c≤maxLen:=by
 obtain⟨_,a,c,hv,h1,h2,_⟩:=h
 exact⟨a,c,hv,h1,h2⟩
theorem Zdk (b f n c j:Nat) (hj:j<n) (hn:n≤9223372036854775807) (w:World):(Instr.indexAt 42 (.slice (some ⟨b,f,none⟩) n c) (.int .i64 (j:Int))).run Tryz.prog w=.ok (ptr b (f+j * 13)) w:=by
 have h1:(0:Int)≤(j:Int):=by omega
 have h2:(j:Int)<(n:Int):=by omega
 simp[go_sem,h1,h2,ptr]
theorem Zdl (s t:ByteArray):(Op.bytesLess s.toList t.toList || s.toList == t.toList) = !Op.bytesLess t.toList s.toList:=by
 rw[bytesLess_eq,bytesLess_eq]
 by_cases h1:t.toList<s.toList
 ·have h2:¬ s.toList<t.toList:=List.lt_asymm h1
  have h3:s.toList≠t.toList:=fun e=>by rw[e]at h1;exact List.lt_irrefl _ h1
  simp[h1,h2,h3]
 ·have hle:=List.not_lt.1 h1
  by_cases h2:s.toList<t.toList
  ·simp[h1,h2]
  ·have he:=List.le_antisymm hle (List.not_lt.1 h2)
   simp[he]
theorem ZbP (s t:ByteArray) (w:World):(binOp .leq 9 (.string s) (.string t)).run Tryz.prog w=.ok (.bool (!Op.bytesLess t.toList s.toList)) w:=by
 rw[←Zdl]
 simp[go_sem]
theorem ZbQ (a b:Nat) (w:World):(binOp .lss 3 (.int .i64 (a:Int)) (.int .i64 (b:Int))).run Tryz.prog w=.ok (.bool (decide (a<b))) w:=by simp[go_sem]
theorem Z4X {b f:Nat} {n:Nod} {w:World} (h:w.rangeAt b f (Z3T n).toList):(loadVar 53 ⟨b,f,none⟩).run Tryz.prog w=.ok (.agg (Z3T n)) w:=by
 have hl:(loadCells ⟨b,f,none⟩ 13).run Tryz.prog w=.ok (Z3T n) w:=by
  have:=run_loadCells_list (P:=Tryz.prog) (w:=w) ⟨b,f,none⟩ (Z3T n).toList (fun j v hv=>by rw[Addr.add_mid];exact h j v hv)
  rw[show(Z3T n).toList.length=13 from rfl]at this
  simpa using this
 obtain⟨i0,hi0,hz0⟩ : ∃ i0,Tryz.prog.info? 53=some i0∧i0.size=13:=⟨_,rfl,rfl⟩
 have hagg:(isAgg 53).run Tryz.prog w=.ok true w:=by kernel_rfl
 simp[loadVar,Sem.run_bind,hagg,sizeOf,typeInfo,hi0,hz0,hl]
def Z3u (n:Nod):Stat:=⟨0,0,Z6v n.mode,n.vers,n.path,n.mode,n.atm,n.mtm,Z75 n,n.name,n.uid,n.gid,n.muid⟩
theorem ZbR (s:Stat) (W:World):(binOp .neq 53 (.agg s.cells) (.agg s.cells)).run Tryz.prog W=.ok (.bool false) W:=by
 have h1:Tryz.prog.underlying 53=some (.struct (Tryz.prog.fieldsOf 53)):=by kernel_rfl
 have h2:Tryz.prog.stoodInHeld 53=false:=by kernel_rfl
 have h4:Tryz.prog.stoodInHeld 51=false:=by kernel_rfl
 have h5:=Tryz.underlying5
 have h6:=Tryz.underlying49
 have h7:=Tryz.underlying32
 have h8:=Tryz.underlying27
 have h9:=Tryz.underlying9
 rw[run_neq_struct,run_equalIn_agg W _ _ _ _ h1 h2]
 have g1:=Tryz.underlying53
 have g2:=Tryz.underlying51
 clear h1
 simp[go_sem,h4,h5,h6,h7,h8,h9,g1,g2,Stat.cells]
theorem Z8B (s:Stat) (w:World) (h:Few s):Calls Tryz.prog 21 #[.agg s.cells] w fun e w'=>e=.returned (.int .i64 (s.size:Int))∧Below w.heap.size w w':=by
 obtain⟨h1,h2,h3,h4⟩:=h
 obtain⟨kind,dev,qt,qv,qp,mode,atm,mtm,len,name,uid,gid,muid⟩:=s
 simp only[Stat.cells]at *
 go_enter Tryz.func21,Tryz.ntmps21
 go_wp2
 go_ret
 exact⟨Z8F (by simp only[Stat.size];omega),(Below.refl _ _).alloc (Nat.le_refl _) _⟩
theorem Z7H {w1 w:World} {p:Addr} {v:Value} (h:w1.cell? p=some v) (hS:Below w1.heap.size w1 w):w.cell? p=some v:=(hS.cell (p:=p) (World.block_lt_of_cell? _ _ h)).trans h
theorem Zdm {w1 w:World} {b f:Nat} {vs:List Value} (h:w1.rangeAt b f vs) (hS:Below w1.heap.size w1 w):w.rangeAt b f vs:=fun j u hu=>Z7H (h j u hu) hS
theorem Zai {w:World} {g:Nat} {n:Nod} (h:w.heap[g]?=some (.cells (Z3T n) 53 (0,0))):w.rangeAt g 0 (Z3T n).toList:=fun j u hu=>by
 rw[Nat.zero_add,Z0 h j]
 simpa using hu
noncomputable def Z6:Array Oper:=match Tryz.f4.body with | some c=>(Z1i c).getD 16 #[] | none=>#[]
theorem Zd:Z6.size=39:=by kernel_rfl
set_option maxHeartbeats 4000000 in
theorem ZbS {w1:World} {b f L lc i z pp E:Nat} {last:ByteArray} {x:Nod} (hi:i<L) (hL:L≤1000) (hfew:Few (Z3u x)) (hz:w1.heap[z]?=some (.cells (Z3T x) 53 (0,0))) (hr:w1.rangeAt b (f+i * 13) (Z3T x).toList) {v0 v1 v2 v3 v4 v5 v6 v7 v9 v16 v17 v18 v19 v20 v21 v22 v23 v24 v25 v26 v27 v28 v29 v30 v31 v32 v33 v34 v35 v36 v37 v38 v39 v40 v41 v42 v43 v44 v45 v46 v47 v48 v49 v50 v51 v52 v53 v54 v55 v56 v57 v58 v59 v60 v61 v62 v63 v64 v65 v66 v67 v107 v108 v109 v110 v111:Value} {Q:Exit→Act→World→Prop} {a:Act} {w:World} (hQ : ∀ d u c a w,Q (.panic c) (a.put d u) w→Q (.panic c) a w) (hF:FrL 112 [(8,.slice (some ⟨b,f,none⟩) L lc),(10,.string last),(11,.int .i64 ((i:Nat):Int)),(12,ptr z 0),(13,.int .i64 ((0:Nat):Int)),(14,.int .u64 ((pp:Nat):Int)),(15,.int .i64 ((E:Nat):Int)),(0,v0),(1,v1),(2,v2),(3,v3),(4,v4),(5,v5),(6,v6),(7,v7),(9,v9),(16,v16),(17,v17),(18,v18),(19,v19),(20,v20),(21,v21),(22,v22),(23,v23),(24,v24),(25,v25),(26,v26),(27,v27),(28,v28),(29,v29),(30,v30),(31,v31),(32,v32),(33,v33),(34,v34),(35,v35),(36,v36),(37,v37),(38,v38),(39,v39),(40,v40),(41,v41),(42,v42),(43,v43),(44,v44),(45,v45),(46,v46),(47,v47),(48,v48),(49,v49),(50,v50),(51,v51),(52,v52),(53,v53),(54,v54),(55,v55),(56,v56),(57,v57),(58,v58),(59,v59),(60,v60),(61,v61),(62,v62),(63,v63),(64,v64),(65,v65),(66,v66),(67,v67),(107,v107),(108,v108),(109,v109),(110,v110),(111,v111)] a) (hS:(Below w1.heap.size w1) w) (hE : ∀ a w',FrL 112 ((106,.bool (((((!decide (0=0)) || false) ||(!Op.bytesLess last.toList x.name.toList)) ||((decide (E=0)) && (!decide (pp=x.path)))) ||(decide ((Z3u x).size<49)))) :: [(8,.slice (some ⟨b,f,none⟩) L lc),(10,.string last),(11,.int .i64 ((i:Nat):Int)),(12,ptr z 0),(13,.int .i64 ((0:Nat):Int)),(14,.int .u64 ((pp:Nat):Int)),(15,.int .i64 ((E:Nat):Int)),(0,v0),(1,v1),(2,v2),(3,v3),(4,v4),(5,v5),(6,v6),(7,v7),(9,v9),(16,v16),(17,v17),(18,v18),(19,v19),(20,v20),(21,v21),(22,v22),(23,v23),(24,v24),(25,v25),(26,v26),(27,v27),(28,v28),(29,v29),(30,v30),(31,v31),(32,v32),(33,v33),(34,v34),(35,v35),(36,v36),(37,v37),(38,v38),(39,v39),(40,v40),(41,v41),(42,v42),(43,v43),(44,v44),(45,v45),(46,v46),(47,v47),(48,v48),(49,v49),(50,v50),(51,v51),(52,v52),(53,v53),(54,v54),(55,v55),(56,v56),(57,v57),(58,v58),(59,v59),(60,v60),(61,v61),(62,v62),(63,v63),(64,v64),(65,v65),(66,v66),(67,v67),(107,v107),(108,v108),(109,v109),(110,v110),(111,v111)]) a→(Below w1.heap.size w1) w'→Q .normal a w'):wpAnyH Tryz.prog .any Z6 Q ((Below w1.heap.size w1)) 39 (Array.replicate 39 false) a w:=by
 refine hst (i:=0) (o:=Z6[0]'(show 0<Z6.size by rw[Zd];decide)) hF 68 true (.int .i64 ((0:Nat):Int)) (Array.getElem?_eq_getElem (show 0<Z6.size by rw[Zd];decide)) (by kernel_rfl) (by decide) (by kernel_rfl) (by kernel_rfl) (by kernel_rfl) (hQ _ _) (Z2 (by kernel_rfl)) (fun hW w hS=>Z5 (x:=.tmp 13) (.inl (by kernel_rfl)) (hF.ev 13 (.int .i64 ((0:Nat):Int)) rfl)) hS (fun a hF=>?_)
 rw[show cond true (.int .i64 ((0:Nat):Int)) undef=.int .i64 ((0:Nat):Int) from rfl]at hF
 refine hst (i:=1) (o:=Z6[1]'(show 1<Z6.size by rw[Zd];decide)) hF 69 true (.bool (!decide (0=0))) (Array.getElem?_eq_getElem (show 1<Z6.size by rw[Zd];decide)) (by kernel_rfl) (by decide) (by kernel_rfl) (by kernel_rfl) (by kernel_rfl) (hQ _ _) (Z2 (by kernel_rfl)) (fun hW w hS=>ZS (op:=.neq) (ty:=3) (ty2:=3) (x:=.tmp 68) (y:=.const (.int .i64 0)) (u:=.int .i64 ((0:Nat):Int)) (v:=.int .i64 ((0:Nat):Int)) (by kernel_rfl) (hF.ev 68 (.int .i64 ((0:Nat):Int)) rfl) (rfl) (by kernel_rfl) (Z9p _ _ w)) hS (fun a hF=>?_)
 rw[show cond true (.bool (!decide (0=0))) undef=.bool (!decide (0=0)) from rfl]at hF
 refine hst (i:=2) (o:=Z6[2]'(show 2<Z6.size by rw[Zd];decide)) hF 70 true (.bool (!decide (0=0))) (Array.getElem?_eq_getElem (show 2<Z6.size by rw[Zd];decide)) (by kernel_rfl) (by decide) (by kernel_rfl) (by kernel_rfl) (by kernel_rfl) (hQ _ _) (Z2 (by kernel_rfl)) (fun hW w hS=>Z5 (x:=.tmp 69) (.inl (by kernel_rfl)) (hF.ev 69 (.bool (!decide (0=0))) rfl)) hS (fun a hF=>?_)
 rw[show cond true (.bool (!decide (0=0))) undef=.bool (!decide (0=0)) from rfl]at hF
 refine hst (i:=3) (o:=Z6[3]'(show 3<Z6.size by rw[Zd];decide)) hF 71 ((!decide (0=0)) == false) (.agg (Z3u x).cells) (Array.getElem?_eq_getElem (show 3<Z6.size by rw[Zd];decide)) (by kernel_rfl) (by decide) (by kernel_rfl) (by kernel_rfl) (by kernel_rfl) (hQ _ _) (Zh (gi:=2) (g:=70) (c:=(!decide (0=0))) hF (by kernel_rfl) (by kernel_rfl) rfl) (fun hW w hS=>Ze (ty:=53) (x:=.tmp 12) (by kernel_rfl) (hF.ev 12 (ptr z 0) rfl) (Z4X (Zai ((hS.block _ (lt_of_block hz)).trans hz)))) hS (fun a hF=>?_)
 refine hst (i:=4) (o:=Z6[4]'(show 4<Z6.size by rw[Zd];decide)) hF 72 ((!decide (0=0)) == false) (.slice (some ⟨b,f,none⟩) L lc) (Array.getElem?_eq_getElem (show 4<Z6.size by rw[Zd];decide)) (by kernel_rfl) (by decide) (by kernel_rfl) (by kernel_rfl) (by kernel_rfl) (hQ _ _) (Zh (gi:=2) (g:=70) (c:=(!decide (0=0))) hF (by kernel_rfl) (by kernel_rfl) rfl) (fun hW w hS=>Z5 (x:=.tmp 8) (.inl (by kernel_rfl)) (hF.ev 8 (.slice (some ⟨b,f,none⟩) L lc) rfl)) hS (fun a hF=>?_)
 refine hst (i:=5) (o:=Z6[5]'(show 5<Z6.size by rw[Zd];decide)) hF 73 ((!decide (0=0)) == false) (.int .i64 ((i:Nat):Int)) (Array.getElem?_eq_getElem (show 5<Z6.size by rw[Zd];decide)) (by kernel_rfl) (by decide) (by kernel_rfl) (by kernel_rfl) (by kernel_rfl) (hQ _ _) (Zh (gi:=2) (g:=70) (c:=(!decide (0=0))) hF (by kernel_rfl) (by kernel_rfl) rfl) (fun hW w hS=>Z5 (x:=.tmp 11) (.inl (by kernel_rfl)) (hF.ev 11 (.int .i64 ((i:Nat):Int)) rfl)) hS (fun a hF=>?_)
 refine hst (i:=6) (o:=Z6[6]'(show 6<Z6.size by rw[Zd];decide)) hF 74 ((!decide (0=0)) == false) (ptr b ((f+i * 13))) (Array.getElem?_eq_getElem (show 6<Z6.size by rw[Zd];decide)) (by kernel_rfl) (by decide) (by kernel_rfl) (by kernel_rfl) (by kernel_rfl) (hQ _ _) (Zh (gi:=2) (g:=70) (c:=(!decide (0=0))) hF (by kernel_rfl) (by kernel_rfl) rfl) (fun hW w hS=>Z1L 13 (ty:=42) (x:=.tmp 72) (y:=.tmp 73) (by kernel_rfl) ((hF.ev 72 (cond ((!decide (0=0)) == false) (.slice (some ⟨b,f,none⟩) L lc) undef) rfl).trans (Zl hW)) ((hF.ev 73 (cond ((!decide (0=0)) == false) (.int .i64 ((i:Nat):Int)) undef) rfl).trans (Zl hW)) hi (Zdk _ _ _ _ _ hi (by omega) w)) hS (fun a hF=>?_)
 refine hst (i:=7) (o:=Z6[7]'(show 7<Z6.size by rw[Zd];decide)) hF 75 ((!decide (0=0)) == false) (.agg (Z3u x).cells) (Array.getElem?_eq_getElem (show 7<Z6.size by rw[Zd];decide)) (by kernel_rfl) (by decide) (by kernel_rfl) (by kernel_rfl) (by kernel_rfl) (hQ _ _) (Zh (gi:=2) (g:=70) (c:=(!decide (0=0))) hF (by kernel_rfl) (by kernel_rfl) rfl) (fun hW w hS=>Ze (ty:=53) (x:=.tmp 74) (by kernel_rfl) ((hF.ev 74 (cond ((!decide (0=0)) == false) (ptr b ((f+i * 13))) undef) rfl).trans (Zl hW)) (Z4X (Zdm hr hS))) hS (fun a hF=>?_)
 refine hst (i:=8) (o:=Z6[8]'(show 8<Z6.size by rw[Zd];decide)) hF 76 ((!decide (0=0)) == false) (.bool false) (Array.getElem?_eq_getElem (show 8<Z6.size by rw[Zd];decide)) (by kernel_rfl) (by decide) (by kernel_rfl) (by kernel_rfl) (by kernel_rfl) (hQ _ _) (Zh (gi:=2) (g:=70) (c:=(!decide (0=0))) hF (by kernel_rfl) (by kernel_rfl) rfl) (fun hW w hS=>ZS (op:=.neq) (ty:=53) (ty2:=53) (x:=.tmp 71) (y:=.tmp 75) (u:=.agg (Z3u x).cells) (v:=.agg (Z3u x).cells) (by kernel_rfl) ((hF.ev 71 (cond ((!decide (0=0)) == false) (.agg (Z3u x).cells) undef) rfl).trans (Zl hW)) ((hF.ev 75 (cond ((!decide (0=0)) == false) (.agg (Z3u x).cells) undef) rfl).trans (Zl hW)) (by kernel_rfl) (ZbR (Z3u x) w)) hS (fun a hF=>?_)
 refine hst (i:=9) (o:=Z6[9]'(show 9<Z6.size by rw[Zd];decide)) hF 77 true (.bool ((!decide (0=0)) || false)) (Array.getElem?_eq_getElem (show 9<Z6.size by rw[Zd];decide)) (by kernel_rfl) (by decide) (by kernel_rfl) (by kernel_rfl) (by kernel_rfl) (hQ _ _) (Z2 (by kernel_rfl)) (fun hW w hS=>Z1j (y:=.const (.bool true)) (x:=.tmp 70) (b:=(!decide (0=0))) (b':=false) (by kernel_rfl) (hF.ev 70 _ rfl) rfl (hF.ev 76 (cond ((!decide (0=0)) == false) (.bool false) undef) rfl)) hS (fun a hF=>?_)
 rw[show cond true (.bool ((!decide (0=0)) || false)) undef=.bool ((!decide (0=0)) || false) from rfl]at hF
 refine hst (i:=10) (o:=Z6[10]'(show 10<Z6.size by rw[Zd];decide)) hF 78 true (.bool ((!decide (0=0)) || false)) (Array.getElem?_eq_getElem (show 10<Z6.size by rw[Zd];decide)) (by kernel_rfl) (by decide) (by kernel_rfl) (by kernel_rfl) (by kernel_rfl) (hQ _ _) (Z2 (by kernel_rfl)) (fun hW w hS=>Z5 (x:=.tmp 77) (.inl (by kernel_rfl)) (hF.ev 77 (.bool ((!decide (0=0)) || false)) rfl)) hS (fun a hF=>?_)
 rw[show cond true (.bool ((!decide (0=0)) || false)) undef=.bool ((!decide (0=0)) || false) from rfl]at hF
 refine hst (i:=11) (o:=Z6[11]'(show 11<Z6.size by rw[Zd];decide)) hF 79 (((!decide (0=0)) || false) == false) (.slice (some ⟨b,f,none⟩) L lc) (Array.getElem?_eq_getElem (show 11<Z6.size by rw[Zd];decide)) (by kernel_rfl) (by decide) (by kernel_rfl) (by kernel_rfl) (by kernel_rfl) (hQ _ _) (Zh (gi:=10) (g:=78) (c:=((!decide (0=0)) || false)) hF (by kernel_rfl) (by kernel_rfl) rfl) (fun hW w hS=>Z5 (x:=.tmp 8) (.inl (by kernel_rfl)) (hF.ev 8 (.slice (some ⟨b,f,none⟩) L lc) rfl)) hS (fun a hF=>?_)
 refine hst (i:=12) (o:=Z6[12]'(show 12<Z6.size by rw[Zd];decide)) hF 80 (((!decide (0=0)) || false) == false) (.int .i64 ((i:Nat):Int)) (Array.getElem?_eq_getElem (show 12<Z6.size by rw[Zd];decide)) (by kernel_rfl) (by decide) (by kernel_rfl) (by kernel_rfl) (by kernel_rfl) (hQ _ _) (Zh (gi:=10) (g:=78) (c:=((!decide (0=0)) || false)) hF (by kernel_rfl) (by kernel_rfl) rfl) (fun hW w hS=>Z5 (x:=.tmp 11) (.inl (by kernel_rfl)) (hF.ev 11 (.int .i64 ((i:Nat):Int)) rfl)) hS (fun a hF=>?_)
 refine hst (i:=13) (o:=Z6[13]'(show 13<Z6.size by rw[Zd];decide)) hF 81 (((!decide (0=0)) || false) == false) (ptr b ((f+i * 13))) (Array.getElem?_eq_getElem (show 13<Z6.size by rw[Zd];decide)) (by kernel_rfl) (by decide) (by kernel_rfl) (by kernel_rfl) (by kernel_rfl) (hQ _ _) (Zh (gi:=10) (g:=78) (c:=((!decide (0=0)) || false)) hF (by kernel_rfl) (by kernel_rfl) rfl) (fun hW w hS=>Z1L 13 (ty:=42) (x:=.tmp 79) (y:=.tmp 80) (by kernel_rfl) ((hF.ev 79 (cond (((!decide (0=0)) || false) == false) (.slice (some ⟨b,f,none⟩) L lc) undef) rfl).trans (Zl hW)) ((hF.ev 80 (cond (((!decide (0=0)) || false) == false) (.int .i64 ((i:Nat):Int)) undef) rfl).trans (Zl hW)) hi (Zdk _ _ _ _ _ hi (by omega) w)) hS (fun a hF=>?_)
 refine hst (i:=14) (o:=Z6[14]'(show 14<Z6.size by rw[Zd];decide)) hF 82 (((!decide (0=0)) || false) == false) (ptr b ((f+i * 13)+9)) (Array.getElem?_eq_getElem (show 14<Z6.size by rw[Zd];decide)) (by kernel_rfl) (by decide) (by kernel_rfl) (by kernel_rfl) (by kernel_rfl) (hQ _ _) (Zh (gi:=10) (g:=78) (c:=((!decide (0=0)) || false)) hF (by kernel_rfl) (by kernel_rfl) rfl) (fun hW w hS=>Zo (T:=53) (x:=.tmp 81) (f:=7) (by kernel_rfl) ((hF.ev 81 (cond (((!decide (0=0)) || false) == false) (ptr b ((f+i * 13))) undef) rfl).trans (Zl hW)) (by kernel_rfl)) hS (fun a hF=>?_)
 refine hst (i:=15) (o:=Z6[15]'(show 15<Z6.size by rw[Zd];decide)) hF 83 (((!decide (0=0)) || false) == false) (.string x.name) (Array.getElem?_eq_getElem (show 15<Z6.size by rw[Zd];decide)) (by kernel_rfl) (by decide) (by kernel_rfl) (by kernel_rfl) (by kernel_rfl) (hQ _ _) (Zh (gi:=10) (g:=78) (c:=((!decide (0=0)) || false)) hF (by kernel_rfl) (by kernel_rfl) rfl) (fun hW w hS=>Ze (ty:=9) (x:=.tmp 82) (by kernel_rfl) ((hF.ev 82 (cond (((!decide (0=0)) || false) == false) (ptr b ((f+i * 13)+9)) undef) rfl).trans (Zl hW)) (Z1k (Z7H (hr 9 _ rfl) hS))) hS (fun a hF=>?_)
 refine hst (i:=16) (o:=Z6[16]'(show 16<Z6.size by rw[Zd];decide)) hF 84 (((!decide (0=0)) || false) == false) (.string last) (Array.getElem?_eq_getElem (show 16<Z6.size by rw[Zd];decide)) (by kernel_rfl) (by decide) (by kernel_rfl) (by kernel_rfl) (by kernel_rfl) (hQ _ _) (Zh (gi:=10) (g:=78) (c:=((!decide (0=0)) || false)) hF (by kernel_rfl) (by kernel_rfl) rfl) (fun hW w hS=>Z5 (x:=.tmp 10) (.inl (by kernel_rfl)) (hF.ev 10 (.string last) rfl)) hS (fun a hF=>?_)
 refine hst (i:=17) (o:=Z6[17]'(show 17<Z6.size by rw[Zd];decide)) hF 85 (((!decide (0=0)) || false) == false) (.bool (!Op.bytesLess last.toList x.name.toList)) (Array.getElem?_eq_getElem (show 17<Z6.size by rw[Zd];decide)) (by kernel_rfl) (by decide) (by kernel_rfl) (by kernel_rfl) (by kernel_rfl) (hQ _ _) (Zh (gi:=10) (g:=78) (c:=((!decide (0=0)) || false)) hF (by kernel_rfl) (by kernel_rfl) rfl) (fun hW w hS=>ZS (op:=.leq) (ty:=9) (ty2:=9) (x:=.tmp 83) (y:=.tmp 84) (u:=.string x.name) (v:=.string last) (by kernel_rfl) ((hF.ev 83 (cond (((!decide (0=0)) || false) == false) (.string x.name) undef) rfl).trans (Zl hW)) ((hF.ev 84 (cond (((!decide (0=0)) || false) == false) (.string last) undef) rfl).trans (Zl hW)) (by kernel_rfl) (ZbP _ _ w)) hS (fun a hF=>?_)
 refine hst (i:=18) (o:=Z6[18]'(show 18<Z6.size by rw[Zd];decide)) hF 86 true (.bool (((!decide (0=0)) || false) ||(!Op.bytesLess last.toList x.name.toList))) (Array.getElem?_eq_getElem (show 18<Z6.size by rw[Zd];decide)) (by kernel_rfl) (by decide) (by kernel_rfl) (by kernel_rfl) (by kernel_rfl) (hQ _ _) (Z2 (by kernel_rfl)) (fun hW w hS=>Z1j (y:=.const (.bool true)) (x:=.tmp 78) (b:=((!decide (0=0)) || false)) (b':=(!Op.bytesLess last.toList x.name.toList)) (by kernel_rfl) (hF.ev 78 _ rfl) rfl (hF.ev 85 (cond (((!decide (0=0)) || false) == false) (.bool (!Op.bytesLess last.toList x.name.toList)) undef) rfl)) hS (fun a hF=>?_)
 rw[show cond true (.bool (((!decide (0=0)) || false) ||(!Op.bytesLess last.toList x.name.toList))) undef=.bool (((!decide (0=0)) || false) ||(!Op.bytesLess last.toList x.name.toList)) from rfl]at hF
 refine hst (i:=19) (o:=Z6[19]'(show 19<Z6.size by rw[Zd];decide)) hF 87 true (.bool (((!decide (0=0)) || false) ||(!Op.bytesLess last.toList x.name.toList))) (Array.getElem?_eq_getElem (show 19<Z6.size by rw[Zd];decide)) (by kernel_rfl) (by decide) (by kernel_rfl) (by kernel_rfl) (by kernel_rfl) (hQ _ _) (Z2 (by kernel_rfl)) (fun hW w hS=>Z5 (x:=.tmp 86) (.inl (by kernel_rfl)) (hF.ev 86 (.bool (((!decide (0=0)) || false) ||(!Op.bytesLess last.toList x.name.toList))) rfl)) hS (fun a hF=>?_)
 rw[show cond true (.bool (((!decide (0=0)) || false) ||(!Op.bytesLess last.toList x.name.toList))) undef=.bool (((!decide (0=0)) || false) ||(!Op.bytesLess last.toList x.name.toList)) from rfl]at hF
 refine hst (i:=20) (o:=Z6[20]'(show 20<Z6.size by rw[Zd];decide)) hF 88 ((((!decide (0=0)) || false) ||(!Op.bytesLess last.toList x.name.toList)) == false) (.int .i64 ((E:Nat):Int)) (Array.getElem?_eq_getElem (show 20<Z6.size by rw[Zd];decide)) (by kernel_rfl) (by decide) (by kernel_rfl) (by kernel_rfl) (by kernel_rfl) (hQ _ _) (Zh (gi:=19) (g:=87) (c:=(((!decide (0=0)) || false) ||(!Op.bytesLess last.toList x.name.toList))) hF (by kernel_rfl) (by kernel_rfl) rfl) (fun hW w hS=>Z5 (x:=.tmp 15) (.inl (by kernel_rfl)) (hF.ev 15 (.int .i64 ((E:Nat):Int)) rfl)) hS (fun a hF=>?_)
 refine hst (i:=21) (o:=Z6[21]'(show 21<Z6.size by rw[Zd];decide)) hF 89 ((((!decide (0=0)) || false) ||(!Op.bytesLess last.toList x.name.toList)) == false) (.bool (decide (E=0))) (Array.getElem?_eq_getElem (show 21<Z6.size by rw[Zd];decide)) (by kernel_rfl) (by decide) (by kernel_rfl) (by kernel_rfl) (by kernel_rfl) (hQ _ _) (Zh (gi:=19) (g:=87) (c:=(((!decide (0=0)) || false) ||(!Op.bytesLess last.toList x.name.toList))) hF (by kernel_rfl) (by kernel_rfl) rfl) (fun hW w hS=>ZS (op:=.eql) (ty:=3) (ty2:=3) (x:=.tmp 88) (y:=.const (.int .i64 0)) (u:=.int .i64 ((E:Nat):Int)) (v:=.int .i64 ((0:Nat):Int)) (by kernel_rfl) ((hF.ev 88 (cond ((((!decide (0=0)) || false) ||(!Op.bytesLess last.toList x.name.toList)) == false) (.int .i64 ((E:Nat):Int)) undef) rfl).trans (Zl hW)) (rfl) (by kernel_rfl) (Z9q _ _ w)) hS (fun a hF=>?_)
 refine hst (i:=22) (o:=Z6[22]'(show 22<Z6.size by rw[Zd];decide)) hF 90 ((((!decide (0=0)) || false) ||(!Op.bytesLess last.toList x.name.toList)) == false) (.bool (decide (E=0))) (Array.getElem?_eq_getElem (show 22<Z6.size by rw[Zd];decide)) (by kernel_rfl) (by decide) (by kernel_rfl) (by kernel_rfl) (by kernel_rfl) (hQ _ _) (Zh (gi:=19) (g:=87) (c:=(((!decide (0=0)) || false) ||(!Op.bytesLess last.toList x.name.toList))) hF (by kernel_rfl) (by kernel_rfl) rfl) (fun hW w hS=>Z5 (x:=.tmp 89) (.inl (by kernel_rfl)) ((hF.ev 89 (cond ((((!decide (0=0)) || false) ||(!Op.bytesLess last.toList x.name.toList)) == false) (.bool (decide (E=0))) undef) rfl).trans (Zl hW))) hS (fun a hF=>?_)
 refine hst (i:=23) (o:=Z6[23]'(show 23<Z6.size by rw[Zd];decide)) hF 91 (((((!decide (0=0)) || false) ||(!Op.bytesLess last.toList x.name.toList)) == false) && ((decide (E=0)) == true)) (.int .u64 ((pp:Nat):Int)) (Array.getElem?_eq_getElem (show 23<Z6.size by rw[Zd];decide)) (by kernel_rfl) (by decide) (by kernel_rfl) (by kernel_rfl) (by kernel_rfl) (hQ _ _) (Z32 (gi:=22) (g:=90) (c:=((((!decide (0=0)) || false) ||(!Op.bytesLess last.toList x.name.toList)) == false)) (b:=(decide (E=0))) hF (by kernel_rfl) (by kernel_rfl) rfl) (fun hW w hS=>Z5 (x:=.tmp 14) (.inl (by kernel_rfl)) (hF.ev 14 (.int .u64 ((pp:Nat):Int)) rfl)) hS (fun a hF=>?_)
 refine hst (i:=24) (o:=Z6[24]'(show 24<Z6.size by rw[Zd];decide)) hF 92 (((((!decide (0=0)) || false) ||(!Op.bytesLess last.toList x.name.toList)) == false) && ((decide (E=0)) == true)) (.slice (some ⟨b,f,none⟩) L lc) (Array.getElem?_eq_getElem (show 24<Z6.size by rw[Zd];decide)) (by kernel_rfl) (by decide) (by kernel_rfl) (by kernel_rfl) (by kernel_rfl) (hQ _ _) (Z32 (gi:=22) (g:=90) (c:=((((!decide (0=0)) || false) ||(!Op.bytesLess last.toList x.name.toList)) == false)) (b:=(decide (E=0))) hF (by kernel_rfl) (by kernel_rfl) rfl) (fun hW w hS=>Z5 (x:=.tmp 8) (.inl (by kernel_rfl)) (hF.ev 8 (.slice (some ⟨b,f,none⟩) L lc) rfl)) hS (fun a hF=>?_)
 refine hst (i:=25) (o:=Z6[25]'(show 25<Z6.size by rw[Zd];decide)) hF 93 (((((!decide (0=0)) || false) ||(!Op.bytesLess last.toList x.name.toList)) == false) && ((decide (E=0)) == true)) (.int .i64 ((i:Nat):Int)) (Array.getElem?_eq_getElem (show 25<Z6.size by rw[Zd];decide)) (by kernel_rfl) (by decide) (by kernel_rfl) (by kernel_rfl) (by kernel_rfl) (hQ _ _) (Z32 (gi:=22) (g:=90) (c:=((((!decide (0=0)) || false) ||(!Op.bytesLess last.toList x.name.toList)) == false)) (b:=(decide (E=0))) hF (by kernel_rfl) (by kernel_rfl) rfl) (fun hW w hS=>Z5 (x:=.tmp 11) (.inl (by kernel_rfl)) (hF.ev 11 (.int .i64 ((i:Nat):Int)) rfl)) hS (fun a hF=>?_)
 refine hst (i:=26) (o:=Z6[26]'(show 26<Z6.size by rw[Zd];decide)) hF 94 (((((!decide (0=0)) || false) ||(!Op.bytesLess last.toList x.name.toList)) == false) && ((decide (E=0)) == true)) (ptr b ((f+i * 13))) (Array.getElem?_eq_getElem (show 26<Z6.size by rw[Zd];decide)) (by kernel_rfl) (by decide) (by kernel_rfl) (by kernel_rfl) (by kernel_rfl) (hQ _ _) (Z32 (gi:=22) (g:=90) (c:=((((!decide (0=0)) || false) ||(!Op.bytesLess last.toList x.name.toList)) == false)) (b:=(decide (E=0))) hF (by kernel_rfl) (by kernel_rfl) rfl) (fun hW w hS=>Z1L 13 (ty:=42) (x:=.tmp 92) (y:=.tmp 93) (by kernel_rfl) ((hF.ev 92 (cond (((((!decide (0=0)) || false) ||(!Op.bytesLess last.toList x.name.toList)) == false) && ((decide (E=0)) == true)) (.slice (some ⟨b,f,none⟩) L lc) undef) rfl).trans (Zl hW)) ((hF.ev 93 (cond (((((!decide (0=0)) || false) ||(!Op.bytesLess last.toList x.name.toList)) == false) && ((decide (E=0)) == true)) (.int .i64 ((i:Nat):Int)) undef) rfl).trans (Zl hW)) hi (Zdk _ _ _ _ _ hi (by omega) w)) hS (fun a hF=>?_)
 refine hst (i:=27) (o:=Z6[27]'(show 27<Z6.size by rw[Zd];decide)) hF 95 (((((!decide (0=0)) || false) ||(!Op.bytesLess last.toList x.name.toList)) == false) && ((decide (E=0)) == true)) (ptr b ((f+i * 13)+2)) (Array.getElem?_eq_getElem (show 27<Z6.size by rw[Zd];decide)) (by kernel_rfl) (by decide) (by kernel_rfl) (by kernel_rfl) (by kernel_rfl) (hQ _ _) (Z32 (gi:=22) (g:=90) (c:=((((!decide (0=0)) || false) ||(!Op.bytesLess last.toList x.name.toList)) == false)) (b:=(decide (E=0))) hF (by kernel_rfl) (by kernel_rfl) rfl) (fun hW w hS=>Zo (T:=53) (x:=.tmp 94) (f:=2) (by kernel_rfl) ((hF.ev 94 (cond (((((!decide (0=0)) || false) ||(!Op.bytesLess last.toList x.name.toList)) == false) && ((decide (E=0)) == true)) (ptr b ((f+i * 13))) undef) rfl).trans (Zl hW)) (by kernel_rfl)) hS (fun a hF=>?_)
 refine hst (i:=28) (o:=Z6[28]'(show 28<Z6.size by rw[Zd];decide)) hF 96 (((((!decide (0=0)) || false) ||(!Op.bytesLess last.toList x.name.toList)) == false) && ((decide (E=0)) == true)) (ptr b ((f+i * 13)+2+2)) (Array.getElem?_eq_getElem (show 28<Z6.size by rw[Zd];decide)) (by kernel_rfl) (by decide) (by kernel_rfl) (by kernel_rfl) (by kernel_rfl) (hQ _ _) (Z32 (gi:=22) (g:=90) (c:=((((!decide (0=0)) || false) ||(!Op.bytesLess last.toList x.name.toList)) == false)) (b:=(decide (E=0))) hF (by kernel_rfl) (by kernel_rfl) rfl) (fun hW w hS=>Zo (T:=51) (x:=.tmp 95) (f:=2) (by kernel_rfl) ((hF.ev 95 (cond (((((!decide (0=0)) || false) ||(!Op.bytesLess last.toList x.name.toList)) == false) && ((decide (E=0)) == true)) (ptr b ((f+i * 13)+2)) undef) rfl).trans (Zl hW)) (by kernel_rfl)) hS (fun a hF=>?_)
 refine hst (i:=29) (o:=Z6[29]'(show 29<Z6.size by rw[Zd];decide)) hF 97 (((((!decide (0=0)) || false) ||(!Op.bytesLess last.toList x.name.toList)) == false) && ((decide (E=0)) == true)) (.int .u64 (x.path:Int)) (Array.getElem?_eq_getElem (show 29<Z6.size by rw[Zd];decide)) (by kernel_rfl) (by decide) (by kernel_rfl) (by kernel_rfl) (by kernel_rfl) (hQ _ _) (Z32 (gi:=22) (g:=90) (c:=((((!decide (0=0)) || false) ||(!Op.bytesLess last.toList x.name.toList)) == false)) (b:=(decide (E=0))) hF (by kernel_rfl) (by kernel_rfl) rfl) (fun hW w hS=>Ze (ty:=27) (x:=.tmp 96) (by kernel_rfl) ((hF.ev 96 (cond (((((!decide (0=0)) || false) ||(!Op.bytesLess last.toList x.name.toList)) == false) && ((decide (E=0)) == true)) (ptr b ((f+i * 13)+2+2)) undef) rfl).trans (Zl hW)) (Z1A (Z7H (hr 4 _ rfl) hS))) hS (fun a hF=>?_)
 refine hst (i:=30) (o:=Z6[30]'(show 30<Z6.size by rw[Zd];decide)) hF 98 (((((!decide (0=0)) || false) ||(!Op.bytesLess last.toList x.name.toList)) == false) && ((decide (E=0)) == true)) (.bool (!decide (pp=x.path))) (Array.getElem?_eq_getElem (show 30<Z6.size by rw[Zd];decide)) (by kernel_rfl) (by decide) (by kernel_rfl) (by kernel_rfl) (by kernel_rfl) (hQ _ _) (Z32 (gi:=22) (g:=90) (c:=((((!decide (0=0)) || false) ||(!Op.bytesLess last.toList x.name.toList)) == false)) (b:=(decide (E=0))) hF (by kernel_rfl) (by kernel_rfl) rfl) (fun hW w hS=>ZS (op:=.neq) (ty:=27) (ty2:=27) (x:=.tmp 91) (y:=.tmp 97) (u:=.int .u64 ((pp:Nat):Int)) (v:=.int .u64 (x.path:Int)) (by kernel_rfl) ((hF.ev 91 (cond (((((!decide (0=0)) || false) ||(!Op.bytesLess last.toList x.name.toList)) == false) && ((decide (E=0)) == true)) (.int .u64 ((pp:Nat):Int)) undef) rfl).trans (Zl hW)) ((hF.ev 97 (cond (((((!decide (0=0)) || false) ||(!Op.bytesLess last.toList x.name.toList)) == false) && ((decide (E=0)) == true)) (.int .u64 (x.path:Int)) undef) rfl).trans (Zl hW)) (by kernel_rfl) (Z41 _ _ w)) hS (fun a hF=>?_)
 refine hst (i:=31) (o:=Z6[31]'(show 31<Z6.size by rw[Zd];decide)) hF 99 ((((!decide (0=0)) || false) ||(!Op.bytesLess last.toList x.name.toList)) == false) (.bool ((decide (E=0)) && (!decide (pp=x.path)))) (Array.getElem?_eq_getElem (show 31<Z6.size by rw[Zd];decide)) (by kernel_rfl) (by decide) (by kernel_rfl) (by kernel_rfl) (by kernel_rfl) (hQ _ _) (Zh (gi:=19) (g:=87) (c:=(((!decide (0=0)) || false) ||(!Op.bytesLess last.toList x.name.toList))) hF (by kernel_rfl) (by kernel_rfl) rfl) (fun hW w hS=>Z6m (z:=.const (.bool false)) (x:=.tmp 90) (W:=((((!decide (0=0)) || false) ||(!Op.bytesLess last.toList x.name.toList)) == false)) (c:=(decide (E=0))) (b:=(!decide (pp=x.path))) hW (by kernel_rfl) (hF.ev 90 _ rfl) (hF.ev 98 (cond (((((!decide (0=0)) || false) ||(!Op.bytesLess last.toList x.name.toList)) == false) && ((decide (E=0)) == true)) (.bool (!decide (pp=x.path))) undef) rfl) rfl) hS (fun a hF=>?_)
 refine hst (i:=32) (o:=Z6[32]'(show 32<Z6.size by rw[Zd];decide)) hF 100 true (.bool ((((!decide (0=0)) || false) ||(!Op.bytesLess last.toList x.name.toList)) ||((decide (E=0)) && (!decide (pp=x.path))))) (Array.getElem?_eq_getElem (show 32<Z6.size by rw[Zd];decide)) (by kernel_rfl) (by decide) (by kernel_rfl) (by kernel_rfl) (by kernel_rfl) (hQ _ _) (Z2 (by kernel_rfl)) (fun hW w hS=>Z1j (y:=.const (.bool true)) (x:=.tmp 87) (b:=(((!decide (0=0)) || false) ||(!Op.bytesLess last.toList x.name.toList))) (b':=((decide (E=0)) && (!decide (pp=x.path)))) (by kernel_rfl) (hF.ev 87 _ rfl) rfl (hF.ev 99 (cond ((((!decide (0=0)) || false) ||(!Op.bytesLess last.toList x.name.toList)) == false) (.bool ((decide (E=0)) && (!decide (pp=x.path)))) undef) rfl)) hS (fun a hF=>?_)
 rw[show cond true (.bool ((((!decide (0=0)) || false) ||(!Op.bytesLess last.toList x.name.toList)) ||((decide (E=0)) && (!decide (pp=x.path))))) undef=.bool ((((!decide (0=0)) || false) ||(!Op.bytesLess last.toList x.name.toList)) ||((decide (E=0)) && (!decide (pp=x.path)))) from rfl]at hF
 refine hst (i:=33) (o:=Z6[33]'(show 33<Z6.size by rw[Zd];decide)) hF 101 true (.bool ((((!decide (0=0)) || false) ||(!Op.bytesLess last.toList x.name.toList)) ||((decide (E=0)) && (!decide (pp=x.path))))) (Array.getElem?_eq_getElem (show 33<Z6.size by rw[Zd];decide)) (by kernel_rfl) (by decide) (by kernel_rfl) (by kernel_rfl) (by kernel_rfl) (hQ _ _) (Z2 (by kernel_rfl)) (fun hW w hS=>Z5 (x:=.tmp 100) (.inl (by kernel_rfl)) (hF.ev 100 (.bool ((((!decide (0=0)) || false) ||(!Op.bytesLess last.toList x.name.toList)) ||((decide (E=0)) && (!decide (pp=x.path))))) rfl)) hS (fun a hF=>?_)
 rw[show cond true (.bool ((((!decide (0=0)) || false) ||(!Op.bytesLess last.toList x.name.toList)) ||((decide (E=0)) && (!decide (pp=x.path))))) undef=.bool ((((!decide (0=0)) || false) ||(!Op.bytesLess last.toList x.name.toList)) ||((decide (E=0)) && (!decide (pp=x.path)))) from rfl]at hF
 refine hst (i:=34) (o:=Z6[34]'(show 34<Z6.size by rw[Zd];decide)) hF 102 (((((!decide (0=0)) || false) ||(!Op.bytesLess last.toList x.name.toList)) ||((decide (E=0)) && (!decide (pp=x.path)))) == false) (.agg (Z3u x).cells) (Array.getElem?_eq_getElem (show 34<Z6.size by rw[Zd];decide)) (by kernel_rfl) (by decide) (by kernel_rfl) (by kernel_rfl) (by kernel_rfl) (hQ _ _) (Zh (gi:=33) (g:=101) (c:=((((!decide (0=0)) || false) ||(!Op.bytesLess last.toList x.name.toList)) ||((decide (E=0)) && (!decide (pp=x.path))))) hF (by kernel_rfl) (by kernel_rfl) rfl) (fun hW w hS=>Ze (ty:=53) (x:=.tmp 12) (by kernel_rfl) (hF.ev 12 (ptr z 0) rfl) (Z4X (Zai ((hS.block _ (lt_of_block hz)).trans hz)))) hS (fun a hF=>?_)
 refine Z2C (i:=35) (o:=Z6[35]'(show 35<Z6.size by rw[Zd];decide)) hF 103 (((((!decide (0=0)) || false) ||(!Op.bytesLess last.toList x.name.toList)) ||((decide (E=0)) && (!decide (pp=x.path)))) == false) (.agg (Z3u x).cells) (Array.getElem?_eq_getElem (show 35<Z6.size by rw[Zd];decide)) (by kernel_rfl) (by decide) (by kernel_rfl) (Zh (gi:=33) (g:=101) (c:=((((!decide (0=0)) || false) ||(!Op.bytesLess last.toList x.name.toList)) ||((decide (E=0)) && (!decide (pp=x.path))))) hF (by kernel_rfl) (by kernel_rfl) rfl) (fun hW=>⟨22,#[.agg (Z3u x).cells],Z1a (fn:=22) (t:=53) rfl (by kernel_rfl) (by kernel_rfl) ((hF.ev 102 (cond (((((!decide (0=0)) || false) ||(!Op.bytesLess last.toList x.name.toList)) ||((decide (E=0)) && (!decide (pp=x.path)))) == false) (.agg (Z3u x).cells) undef) rfl).trans (Zl hW)),(ZdY (Z3u x) w).mono (fun e w' ⟨h,hb⟩=>⟨h,hS.trans (hb.mono hS.size)⟩)⟩) hS (fun a w hF hS=>?_)
 refine Z2C (i:=36) (o:=Z6[36]'(show 36<Z6.size by rw[Zd];decide)) hF 104 (((((!decide (0=0)) || false) ||(!Op.bytesLess last.toList x.name.toList)) ||((decide (E=0)) && (!decide (pp=x.path)))) == false) (.int .i64 (((Z3u x).size:Nat):Int)) (Array.getElem?_eq_getElem (show 36<Z6.size by rw[Zd];decide)) (by kernel_rfl) (by decide) (by kernel_rfl) (Zh (gi:=33) (g:=101) (c:=((((!decide (0=0)) || false) ||(!Op.bytesLess last.toList x.name.toList)) ||((decide (E=0)) && (!decide (pp=x.path))))) hF (by kernel_rfl) (by kernel_rfl) rfl) (fun hW=>⟨21,#[.agg (Z3u x).cells],Z1a (fn:=21) (t:=60) rfl (by kernel_rfl) (by kernel_rfl) ((hF.ev 103 (cond (((((!decide (0=0)) || false) ||(!Op.bytesLess last.toList x.name.toList)) ||((decide (E=0)) && (!decide (pp=x.path)))) == false) (.agg (Z3u x).cells) undef) rfl).trans (Zl hW)),(Z8B (Z3u x) w hfew).mono (fun e w' ⟨h,hb⟩=>⟨h,hS.trans (hb.mono hS.size)⟩)⟩) hS (fun a w hF hS=>?_)
 refine hst (i:=37) (o:=Z6[37]'(show 37<Z6.size by rw[Zd];decide)) hF 105 (((((!decide (0=0)) || false) ||(!Op.bytesLess last.toList x.name.toList)) ||((decide (E=0)) && (!decide (pp=x.path)))) == false) (.bool (decide ((Z3u x).size<49))) (Array.getElem?_eq_getElem (show 37<Z6.size by rw[Zd];decide)) (by kernel_rfl) (by decide) (by kernel_rfl) (by kernel_rfl) (by kernel_rfl) (hQ _ _) (Zh (gi:=33) (g:=101) (c:=((((!decide (0=0)) || false) ||(!Op.bytesLess last.toList x.name.toList)) ||((decide (E=0)) && (!decide (pp=x.path))))) hF (by kernel_rfl) (by kernel_rfl) rfl) (fun hW w hS=>ZS (op:=.lss) (ty:=3) (ty2:=3) (x:=.tmp 104) (y:=.const (.int .i64 49)) (u:=.int .i64 (((Z3u x).size:Nat):Int)) (v:=.int .i64 ((49:Nat):Int)) (by kernel_rfl) ((hF.ev 104 (cond (((((!decide (0=0)) || false) ||(!Op.bytesLess last.toList x.name.toList)) ||((decide (E=0)) && (!decide (pp=x.path)))) == false) (.int .i64 (((Z3u x).size:Nat):Int)) undef) rfl).trans (Zl hW)) (rfl) (by kernel_rfl) (ZbQ _ _ w)) hS (fun a hF=>?_)
 refine hst (i:=38) (o:=Z6[38]'(show 38<Z6.size by rw[Zd];decide)) hF 106 true (.bool (((((!decide (0=0)) || false) ||(!Op.bytesLess last.toList x.name.toList)) ||((decide (E=0)) && (!decide (pp=x.path)))) ||(decide ((Z3u x).size<49)))) (Array.getElem?_eq_getElem (show 38<Z6.size by rw[Zd];decide)) (by kernel_rfl) (by decide) (by kernel_rfl) (by kernel_rfl) (by kernel_rfl) (hQ _ _) (Z2 (by kernel_rfl)) (fun hW w hS=>Z1j (y:=.const (.bool true)) (x:=.tmp 101) (b:=((((!decide (0=0)) || false) ||(!Op.bytesLess last.toList x.name.toList)) ||((decide (E=0)) && (!decide (pp=x.path))))) (b':=(decide ((Z3u x).size<49))) (by kernel_rfl) (hF.ev 101 _ rfl) rfl (hF.ev 105 (cond (((((!decide (0=0)) || false) ||(!Op.bytesLess last.toList x.name.toList)) ||((decide (E=0)) && (!decide (pp=x.path)))) == false) (.bool (decide ((Z3u x).size<49))) undef) rfl)) hS (fun a hF=>?_)
 rw[show cond true (.bool (((((!decide (0=0)) || false) ||(!Op.bytesLess last.toList x.name.toList)) ||((decide (E=0)) && (!decide (pp=x.path)))) ||(decide ((Z3u x).size<49)))) undef=.bool (((((!decide (0=0)) || false) ||(!Op.bytesLess last.toList x.name.toList)) ||((decide (E=0)) && (!decide (pp=x.path)))) ||(decide ((Z3u x).size<49))) from rfl]at hF
 exact wpAnyH_done (by kernel_rfl) (hE _ _ (hF.sub ((106,.bool (((((!decide (0=0)) || false) ||(!Op.bytesLess last.toList x.name.toList)) ||((decide (E=0)) && (!decide (pp=x.path)))) ||(decide ((Z3u x).size<49)))) :: [(8,.slice (some ⟨b,f,none⟩) L lc),(10,.string last),(11,.int .i64 ((i:Nat):Int)),(12,ptr z 0),(13,.int .i64 ((0:Nat):Int)),(14,.int .u64 ((pp:Nat):Int)),(15,.int .i64 ((E:Nat):Int)),(0,v0),(1,v1),(2,v2),(3,v3),(4,v4),(5,v5),(6,v6),(7,v7),(9,v9),(16,v16),(17,v17),(18,v18),(19,v19),(20,v20),(21,v21),(22,v22),(23,v23),(24,v24),(25,v25),(26,v26),(27,v27),(28,v28),(29,v29),(30,v30),(31,v31),(32,v32),(33,v33),(34,v34),(35,v35),(36,v36),(37,v37),(38,v38),(39,v39),(40,v40),(41,v41),(42,v42),(43,v43),(44,v44),(45,v45),(46,v46),(47,v47),(48,v48),(49,v49),(50,v50),(51,v51),(52,v52),(53,v53),(54,v54),(55,v55),(56,v56),(57,v57),(58,v58),(59,v59),(60,v60),(61,v61),(62,v62),(63,v63),(64,v64),(65,v65),(66,v66),(67,v67),(107,v107),(108,v108),(109,v109),(110,v110),(111,v111)]) ⟨rfl,rfl,rfl,rfl,rfl,rfl,rfl,rfl,rfl,rfl,rfl,rfl,rfl,rfl,rfl,rfl,rfl,rfl,rfl,rfl,rfl,rfl,rfl,rfl,rfl,rfl,rfl,rfl,rfl,rfl,rfl,rfl,rfl,rfl,rfl,rfl,rfl,rfl,rfl,rfl,rfl,rfl,rfl,rfl,rfl,rfl,rfl,rfl,rfl,rfl,rfl,rfl,rfl,rfl,rfl,rfl,rfl,rfl,rfl,rfl,rfl,rfl,rfl,rfl,rfl,rfl,rfl,rfl,rfl,rfl,rfl,rfl,rfl,rfl,trivial⟩) hS) _
end
end Go.Proofs.YtkefjeabckainaaGreat
