/- Bytes of a tree; a slice of nodes cloned, clipped; a new tree. Conditions: numbers in their types. And the texts behind it. -/
import Derived.Test.YtkefjeabckainaaGreatFtB07
import Derived.Deep.RegionHeld3
import Derived.Test.YtkefjeabckainaaGreatFtB03
import Derived.Deep.DeepCutAuto
import Derived.Lib.SliceRun
namespace Go.Proofs.YtkefjeabckainaaGreat
set_option maxRecDepth 100000
set_option linter.unusedVariables false
section
open Go.RowKit
theorem Z4I {l:List Nod} {k:Nat} (hk:k<l.length):Z10 (l.take (k+1))=Z10 (l.take k)+l[k].data.size:=by
 unfold Z10
 rw[List.take_succ_eq_append_getElem hk,List.map_append,List.sum_append_nat]
 rfl
theorem Z4J {l:List Nod} (h : ∀ n∈l,n.data.size≤1000000):Z10 l≤l.length * 1000000:=by
 induction l with
 | nil=>simp[Z10]
 | cons a l ih =>
  have h1:=ih fun n hn=>h n (by simp[hn])
  have h2:=h a (by simp)
  rw[Z2i]
  simp only[List.length_cons];omega
set_option maxHeartbeats 3200000 in
theorem Z5a (v:Value) (x:Nat) (l:List Nod) (w:World) (hv:Z3 w v l) (hl:l.length≤1000) (hd : ∀ n∈l,n.data.size≤1000000) :
  Calls Tryz.prog 136 #[.agg #[.int .u64 (x:Int),v]] w fun e w'=>e=.returned (.int .i64 (Z10 l:Int))∧Below w.heap.size w w':=by
 obtain⟨a,c,rfl,g1,g2⟩:=hv.form
 unfold maxLen at g2
 obtain⟨W,hW⟩ : ∃ W,W=w.alloc (.cells #[.int .u64 (x:Int),.slice a l.length c] 30):=⟨_,rfl⟩
 have hb0:Below w.heap.size w W:=by rw[hW];exact(Below.refl w.heap.size w).alloc (Nat.le_refl _) _
 have hx0:W.heap[w.heap.size]?=some (.cells #[.int .u64 (x:Int),.slice a l.length c] 30 (0,0)):=by rw[hW,heap_alloc_new]
 have e1:=Z0 hx0 1
 replace hv:=hid hv
 replace hb0:=hid hb0
 replace hd:=hid hd
 clear hx0
 go_enter Tryz.func136,Tryz.ntmps136
 go_wp2_with (rw[←hW];replace hW:=hid hW)
 go_loopw [3,9] (fun sv kv wr=>∃ k s:Nat,k≤l.length∧kv=.int .i64 (k:Int)∧sv=.int .i64 (s:Int)∧Hid (Below w.heap.size w wr)∧Hid (s=Z10 (l.take k))) (fun _ kv _=>l.length - (intOf kv).toNat)
 case atStart=>exact⟨0,0,by omega,rfl,rfl,hb0,hid rfl⟩
 case round =>
  obtain⟨k,s,hk,rfl,rfl,hB,hs⟩:=hrel
  by_cases hkl:k<l.length
  ·obtain⟨b,o,ha,hr⟩:=(hv.out.below hB.out).range k hkl
   subst ha
   have hst:=hid (Z4I hkl)
   have hle:=Z4J (l:=l.take (k+1)) fun n hn=>hd.out n (List.mem_of_mem_take hn)
   have hlt:(l.take (k+1)).length≤1000:=by simp;omega
   have hsz:=hd.out _ (List.getElem_mem hkl)
   have hs2:s+l[k].data.size≤1000000000:=by rw[hs.out,←hst.out];omega
   clear hle hlt
   generalize l[k]=n at *
   have hnew:=hid (heap_alloc_new wr (.cells Zk.cells 89))
   obtain⟨W3,hW3⟩ : ∃ W,W=Z1J wr n:=⟨_,rfl⟩
   have hb3:Below wr.heap.size wr W3:=by rw[hW3];exact ZD _ _
   have hn3:W3.heap[wr.heap.size]?=some (.cells n.cells 89 (0,0)):=by rw[hW3];exact ZK _ _
   have q11:W3.cell? ⟨wr.heap.size,11,none⟩=some (.string n.data):=Z0 hn3 11
   have hB3:=hid (sn hB.out hb3)
   unfold Z1J at hW3
   rw[Zc]at hW3 hnew
   replace hr:=hid hr
   clear hb3 hB hn3
   go_wp2_with (first
    |(refine Zx (by rfl) 89 (.tmp 11) (by rfl) b (o+k * 12) (by rfl) n.cells _ hr.out Tryz.underlying89 (by rfl) (by kernel_rfl) ?_)
    |(refine wpList_store_row (by rfl) 89 (.tmp 5) (.tmp 12) (by rfl) wr.heap.size n.cells (by rfl) (by rfl) 89 _ hnew.out (by kernel_rfl) (by kernel_rfl) (Zw n) ?_)
    |(rw[←hW3];replace hW3:=hid hW3))
   go_roundw
   case rel=>exact⟨k+1,s+n.data.size,by omega,by go_num,by go_num,hB3,hid (by rw[hst.out,←hs.out])⟩
   case measure=>simp[intOf];omega
  ·obtain rfl:k=l.length:=by omega
   have hs2:s=Z10 l:=by have:=hs.out;rwa [List.take_length]at this
   subst hs2
   go_wp2_with fail
   go_ret
   exact⟨rfl,hB.out⟩
theorem Z98 (v:Value) (l:List Nod) (w:World) (hv:Z3 w v l) :
  Calls Tryz.prog 103 #[v] w fun e w'=>∃ v',e=.returned v'∧Z3 w v' l∧w'=w:=by
 obtain⟨a,c,rfl,g1,g2⟩:=hv.form
 unfold maxLen at g2
 have hc:=hid hv.clip
 clear hv
 go_enter Tryz.func103,Tryz.ntmps103
 go_wp2_with fail
 go_ret
 exact⟨_,rfl,hc.out,rfl⟩
theorem ZaP:ElemOk Tryz.prog 28 89 12 120:=Z2l (z:=.agg Zk.cells) Tryz.underlying28 (by kernel_rfl) rfl (by decide)
def ZdD (w:World) (l:List Nod) (e:Ending) (w':World):Prop:=∃ v',e=.returned v'∧w'.ownsRow w.heap.size 89 12 v' l.length (ZB l)∧Below w.heap.size w w'
theorem Z5b (v:Value) (l:List Nod) (w:World) (hv:Z3 w v l) (hl:l.length≤1000) :
  Calls Tryz.prog 146 #[v] w (ZdD w l):=by
 obtain⟨a,c,rfl,g1,g2⟩:=hv.form
 unfold maxLen at g2
 have qT:=fun(w:World) (a:Option Addr) (n c n' c':Nat)=>Lib.run_eql_slice_nil (P:=Tryz.prog) w 28 89 a n c n' c' Tryz.underlying28
 cases a with
 | none =>
  have hc0:c=0:=by
   obtain⟨_,a',c',he,_,_,h3,_⟩:=hv
   cases he
   exact h3 rfl
  subst hc0
  have hl0:l=[]:=List.eq_nil_of_length_eq_zero (by omega)
  subst hl0
  simp only[List.length_nil]at *
  go_enter Tryz.func146,Tryz.ntmps146
  go_wp2_with fail
  go_ret
  exact⟨_,rfl,World.ownsRow_nil _ _ _ _,Below.refl _ _⟩
 | some ad =>
  have hbA:=(Below.refl w.heap.size w).alloc (Nat.le_refl _) (.cells #[] 89)
  have hvA:=hid (hv.below hbA)
  replace hv:=hid hv
  replace hbA:=hid hbA
  go_enter Tryz.func146,Tryz.ntmps146
  go_wp2_with (at_builtin;refine Z1C ZaP _ rfl (.tmp 5) (.tmp 6) rfl w.heap.size _ 0 [] rfl (Z62 w _ _) _ l.length (ZB l) rfl hvA.out (Z4E l) (by unfold maxLen;omega) (by omega) (by simp) ?_)
  intro a6 c6 w6 h6 g6
  have hB6:=hid (hbA.out.grown g6 (by simp) (fun j hj=>by cases hj;exact Nat.le_refl _))
  go_wp2_with fail
  go_ret
  (try simp only[Nat.zero_add]at h6)
  exact⟨_,rfl,h6,hB6.out⟩
end
section
open Go.RowKit
def stA (cs:Array Value):Nat→List Value→Array Value
 | _,[]=>cs
 | i,u :: us=>stA (cs.setIfInBounds i u) (i+1) us
theorem Z5C : ∀ (us:List Value) (i:Nat) (cs:Array Value),(stA cs i us).size=cs.size
 | [],_,_=>rfl
 | u :: us,i,cs=>by show(stA (cs.setIfInBounds i u) (i+1) us).size=_;rw[Z5C us];simp
theorem Z6Q : ∀ (us:List Value) (i:Nat) (cs:Array Value) (k:Nat),k<cs.size→(stA cs i us)[k]?=if i≤k∧k<i+us.length then us[k - i]? else cs[k]?
 | [],i,cs,k,_=>by rw[if_neg (by simp only[List.length_nil];omega)];rfl
 | u :: us,i,cs,k,hk=>by
  show(stA (cs.setIfInBounds i u) (i+1) us)[k]?=_
  rw[Z6Q us (i+1) _ k (by simpa using hk)]
  by_cases h1:i+1≤k∧k<i+1+us.length
  ·rw[if_pos h1,if_pos (by simp only[List.length_cons];omega)]
   obtain⟨j,rfl⟩ : ∃ j,k=i+1+j:=⟨k - (i+1),by omega⟩
   rw[show i+1+j - (i+1)=j by omega,show i+1+j - i=j+1 by omega,List.getElem?_cons_succ]
  ·rw[if_neg h1]
   by_cases h2:k=i
   ·subst h2
    rw[if_pos (by simp only[List.length_cons];omega),Nat.sub_self,List.getElem?_cons_zero,Array.getElem?_setIfInBounds_self_of_lt hk]
   ·rw[if_neg (by simp only[List.length_cons];omega),Array.getElem?_setIfInBounds_ne (by omega)]
theorem Z5D {q:Nat} {T:TypeId} : ∀ (us:List Value) (i:Nat) (w:World) (cs:Array Value),w.heap[q]?=some (.cells cs T (0,0))→(w.setCells q i us).heap[q]?=some (.cells (stA cs i us) T (0,0))∧(∀ k,k≠q→(w.setCells q i us).heap[k]?=w.heap[k]?)∧Below q w (w.setCells q i us)
 | [],_,w,_,h=>⟨h,fun _ _=>rfl,Below.refl _ _⟩
 | u :: us,i,w,cs,h=>by
  obtain⟨h1,h2,h3⟩:=Z5D us (i+1) (w.setCell ⟨q,i,none⟩ u) (cs.setIfInBounds i u) (Zg h i u)
  refine⟨h1,fun k hk=>(h2 k hk).trans (Z1 hk),((Below.refl q w).setCell (by simp) _).trans h3⟩
theorem Z4K {w:World} {base e k n c i:Nat} {g:Nat} {xs:List Value} (h:w.ownsRow base e k (.slice (some ⟨g,0,none⟩) n c) n xs) (hi:i<n):w.there g (i * k) k:=by
 rcases h.2 with ⟨h1,_⟩ |⟨g',cap,cur,hv,hb,hg,h1,h2,h3,h4⟩
 ·cases h1
 ·cases hv
  intro j hj
  have hlt:i * k+j<cur.size:=by
   have:=Nat.mul_le_mul_right k (show i+1≤n from hi)
   rw[Nat.add_mul,Nat.one_mul]at this
   have:=Nat.mul_le_mul_right k h1
   omega
  refine⟨?_,Zb hg _⟩
  rw[Z0 hg,Array.getElem?_eq_getElem hlt];rfl
theorem Z99 (l:List Nod) (i:Nat) (x:Nod) (hi:i<l.length) (k:Nat) (hk:k<l.length * 12):(ZB (l.set i x))[k]?=if i * 12≤k∧k<i * 12+12 then x.cells.toList[k - i * 12]? else(ZB l)[k]?:=by
 have hq:k=k / 12 * 12+k % 12:=by omega
 have h1:k / 12<l.length:=by omega
 have h2:k % 12<12:=by omega
 by_cases h:i * 12≤k∧k<i * 12+12
 ·rw[if_pos h]
  have e:k / 12=i:=by omega
  conv=>lhs;rw[hq,Z2p _ _ _ (by simpa using h1) h2]
  simp only[e,List.getElem_set_self]
  rw[show k - i * 12=k % 12 by omega]
 ·rw[if_neg h]
  have e:i≠k / 12:=by omega
  conv=>lhs;rw[hq,Z2p _ _ _ (by simpa using h1) h2]
  conv=>rhs;rw[hq,Z2p _ _ _ h1 h2]
  rw[List.getElem_set_ne e]
theorem Z3W {w:World} {base e n c g i:Nat} {l:List Nod} {x:Nod} (h:w.ownsRow base e 12 (.slice (some ⟨g,0,none⟩) n c) n (ZB l)) (hi:i<n) :
  (w.setCells g (i * 12) x.cells.toList).ownsRow base e 12 (.slice (some ⟨g,0,none⟩) n c) n (ZB (l.set i x))∧Below base w (w.setCells g (i * 12) x.cells.toList)∧∀ k,k≠g→(w.setCells g (i * 12) x.cells.toList).heap[k]?=w.heap[k]?:=by
 have hln:n=l.length:=by have:=h.1;rw[Z17]at this;omega
 rcases h.2 with ⟨h1,_⟩ |⟨g',cap,cur,hv,hb,hg,h1,h2,h3,h4⟩
 ·cases h1
 ·cases hv
  obtain⟨a1,a2,a3⟩:=Z5D x.cells.toList (i * 12) w cur hg
  refine⟨⟨by rw[Z17,List.length_set,←hln],.inr ⟨g,c,_,rfl,hb,a1,h1,h2,by rw[Z5C];exact h3,?_⟩⟩,a3.mono hb,a2⟩
  have hl12:x.cells.toList.length=12:=by rw[Z7];rfl
  apply List.ext_getElem?
  intro k
  by_cases hk:k<n * 12
  ·rw[List.getElem?_take_of_lt hk,Array.getElem?_toList,Z6Q _ _ _ _ (by have:=Nat.mul_le_mul_right 12 h1;omega),Z99 l i x (by omega) k (by omega),hl12]
   by_cases hh:i * 12≤k∧k<i * 12+12
   ·rw[if_pos hh,if_pos hh]
   ·rw[if_neg hh,if_neg hh,←h4,List.getElem?_take_of_lt hk,Array.getElem?_toList]
  ·rw[List.getElem?_eq_none (by simp;omega),List.getElem?_eq_none (by rw[Z17];simp;omega)]
theorem Z6R {w:World} {base e k n:Nat} {v:Value} {xs:List Value} (h:w.ownsRow base e k v n xs) (h0:0<n) : ∃ g c,v=.slice (some ⟨g,0,none⟩) n c∧n≤c∧c≤maxLen∧base≤g:=by
 rcases h.2 with ⟨_,h1⟩ |⟨g',cap,cur,hv,hb,hg,h1,h2,h3,h4⟩
 ·omega
 ·exact⟨g',cap,hv,h1,h2,hb⟩
end
section
open Go.RowKit
theorem Z5E (a:Option Addr) (n c:Nat) (w:World) (h1:n≤c) (h2:c≤maxLen) :
  Calls Tryz.prog 103 #[.slice a n c] w fun e w'=>e=.returned (.slice a n n)∧w'=w:=by
 unfold maxLen at h2
 go_enter Tryz.func103,Tryz.ntmps103
 go_wp2_with fail
 go_ret
 exact⟨rfl,rfl⟩
def Z3o (uid:ByteArray) (now:Nat):Nod:=⟨1,0,2147484157,now,now,Z3z,uid,uid,uid,1,false,⟨#[]⟩⟩
theorem Z3.block {w:World} {g:Nat} {l:List Nod} {t:TypeId} {fr:Nat×Nat} (h:w.heap[g]?=some (.cells (ZB l).toArray t fr)) (hl:l.length≤maxLen):Z3 w (.slice (some ⟨g,0,none⟩) l.length l.length) l:=by
 have:=(Z15.of_block (k:=12) (n:=l.length) h (by simp[Z17]) hl).weak
 unfold Z3
 simpa using this
set_option maxHeartbeats 1600000 in
theorem ZcC (uid:ByteArray) (now:Nat) (w:World) :
  Calls Tryz.prog 9 #[.string uid,.int .u32 (now:Int)] w fun e w'=>∃ v',e=.returned (.agg #[.int .u64 2,v'])∧Z3 w' v' [Z3o uid now]∧Below w.heap.size w w':=by
 go_enter Tryz.func9,Tryz.ntmps9
 go_wp2_with fail
 have hB:Below w.heap.size w ((w.alloc (.cells #[.int .u64 2,.slice (some ⟨w.heap.size+1,0,none⟩) 1 1] 30)).alloc (.cells (Z3o uid now).cells 89)):=((Below.refl w.heap.size w).alloc (Nat.le_refl _) _).alloc (by simp) _
 refine bodyPost_ret (results_cell_row rfl _ _ w.heap.size _ #[.int .u64 2,.slice (some ⟨w.heap.size+1,0,none⟩) 1 1] _ _ rfl (by rw[heap_alloc_old _ _ (by simp),heap_alloc_new]) Tryz.underlying30 rfl (by kernel_rfl)) rfl ?_
 exact⟨_,rfl,Z3.block (l:=[Z3o uid now]) (Z27 _ _ (.cells (Z3o uid now).cells 89)) (by unfold maxLen;simp),hB⟩
set_option maxHeartbeats 1600000 in
theorem Z7S (v:Value) (l:List Nod) (x:Nod) (g base:Nat) (w:World) (hv:w.ownsRow base 89 12 v l.length (ZB l)) (hg:w.heap[g]?=some (.cells x.cells 89 (0,0))) (hl:l.length≤1000) (hb:base≤w.heap.size) :
  Calls Tryz.prog 147 #[v,.int .i64 (l.length:Int),.slice (some ⟨g,0,none⟩) 1 1] w fun e w'=>∃ v',e=.returned v'∧w'.ownsRow base 89 12 v' (l++[x]).length (ZB (l++[x]))∧w.grownBy w' v.ownBlock:=by
 obtain⟨a,c,rfl,g1,g2⟩:=(Z3.of_own hv).form
 unfold maxLen at g2
 have hx:Hid (Z3 w (.slice (some ⟨g,0,none⟩) 1 1) [x]):=hid (by
  have hg':w.heap[g]?=some (.cells (ZB [x]).toArray 89 (0,0)):=hg
  exact Z3.block (l:=[x]) hg' (by unfold maxLen;simp))
 have k1:((l.length:Int) ==(l.length:Int))=true:=by simp
 replace hv:=hid hv
 clear hg
 by_cases hc:c=l.length
 ·subst hc
  go_enter Tryz.func147,Tryz.ntmps147
  go_wp2_with (at_builtin;refine Z1C ZaP _ rfl (.tmp 23) (.tmp 24) rfl base _ l.length (ZB l) rfl hv.out _ 1 (ZB [x]) rfl hx.out (Z4E _) (by unfold maxLen;omega) (by omega) hb ?_)
  intro a6 c6 w6 h6 g6
  go_wp2_with fail
  go_ret
  exact⟨_,rfl,by rw[Z28,List.length_append];exact h6,g6⟩
 ·go_enter Tryz.func147,Tryz.ntmps147
  go_wp2_with (at_builtin;refine Z1C ZaP _ rfl (.tmp 23) (.tmp 24) rfl base _ l.length (ZB l) rfl hv.out _ 1 (ZB [x]) rfl hx.out (Z4E _) (by unfold maxLen;omega) (by omega) hb ?_)
  intro a6 c6 w6 h6 g6
  go_wp2_with fail
  go_ret
  exact⟨_,rfl,by rw[Z28,List.length_append];exact h6,g6⟩
end
section
open Go.RowKit
theorem ZT {w w':World} {base e k n:Nat} {v:Value} {xs:List Value} (h2:w.ownsRow base e k v n xs) (hb:Below w.heap.size w w'):w'.ownsRow base e k v n xs:=by
 refine⟨h2.1,?_⟩
 rcases h2.2 with h3 |⟨g,cap,cur,hv,hg,hh,r⟩
 ·exact .inl h3
 ·exact .inr ⟨g,cap,cur,hv,hg,(hb.block g (lt_of_block hh)).trans hh,r⟩
end
section
open Go.RowKit
theorem Z3.other {w w':World} {v:Value} {l:List Nod} (h:Z3 w v l) (z:Nat) (hz:v.ownBlock≠some z) (hs:w.heap.size≤w'.heap.size) (hk : ∀ k,k≠z→w'.heap[k]?=w.heap[k]?):Z3 w' v l:=by
 obtain⟨hl,a,c,hv,h1,h2,h3,h4⟩:=h
 refine⟨hl,a,c,hv,h1,h2,h3,fun i u hu=>?_⟩
 obtain⟨b,o,ha,hc⟩:=h4 i u hu
 refine⟨b,o,ha,?_⟩
 subst hv ha
 rw[World.cell?_of_block (w:=w) (hk b (fun e=>hz (by rw[←e];rfl)))]
 exact hc
theorem Z1S (a:Option Addr) (n c n' c':Nat):(Value.slice a n c).ownBlock=(Value.slice a n' c').ownBlock:=by cases a <;> rfl
def Z2q (w:World) (x:Nat) (L:List Nod) (e:Ending) (w':World):Prop:=∃ v',e=.returned (.agg #[.int .u64 (x:Int),v'])∧Z3 w' v' L∧(∀ k,v'.ownBlock=some k→w.heap.size≤k)∧Below w.heap.size w w'
set_option maxHeartbeats 6400000 in
theorem Z3c (v:Value) (x:Nat) (l:List Nod) (n:Nod) (w:World) (hv:Z3 w v l) (hs:Z16 l) (hl:l.length≤900) (hn:(ZM l n.path).isSome=true∨Z14 l n.path=l.length) :
  Calls Tryz.prog 92 #[.agg #[.int .u64 (x:Int),v],.agg n.cells] w (Z2q w x (Z1B l n)):=by
 obtain⟨a,c,rfl,g1,g2⟩:=hv.form
 unfold maxLen at g2
 obtain⟨W,hW⟩ : ∃ W,W=((w.alloc (.cells #[.int .u64 (x:Int),.slice a l.length c] 30)).alloc (.cells n.cells 89)).alloc (.cells #[.int .u64 0,.slice none 0 0] 30):=⟨_,rfl⟩
 have hb0:Below w.heap.size w W:=by rw[hW];exact(((Below.refl w.heap.size w).alloc (Nat.le_refl _) _).alloc (by simp) _).alloc (by simp;omega) _
 have hx0:W.heap[w.heap.size]?=some (.cells #[.int .u64 (x:Int),.slice a l.length c] 30 (0,0)):=by rw[hW,heap_alloc_old _ _ (by simp;omega),heap_alloc_old _ _ (by simp),heap_alloc_new]
 have hy0:W.heap[w.heap.size+1]?=some (.cells n.cells 89 (0,0)):=by rw[hW,heap_alloc_old _ _ (by simp)];exact Z27 _ _ _
 have hz0:W.heap[w.heap.size+2]?=some (.cells #[.int .u64 0,.slice none 0 0] 30 (0,0)):=by
  rw[hW]
  have:=heap_alloc_new ((w.alloc (.cells #[.int .u64 (x:Int),.slice a l.length c] 30)).alloc (.cells n.cells 89)) (.cells #[.int .u64 0,.slice none 0 0] 30)
  simpa using this
 have hv0:=hid (hv.below hb0)
 have hf:=hid (fun X (h:Z3 X (.slice a l.length c) l)=>Z6i _ x l n.path X h hs (by omega))
 have hcl0:=hid (fun X (h:Z3 X (.slice a l.length c) l)=>Z5b _ l X h (by omega))
 have hhit:=hid (Zck hs n)
 have hmiss:=hid (ZaB hs n)
 have hga:=hid (Z8O hs n.path)
 have e0:=Z0 hx0 0
 have e1:=Z0 hx0 1
 have e2:W.cell? ⟨w.heap.size+1,0,none⟩=some (.int .u64 (n.path:Int)):=Z0 hy0 0
 have hzz:=lt_of_block hz0
 replace hb0:=hid hb0
 replace hx0:=hid hx0
 replace hy0:=hid hy0
 replace hz0:=hid hz0
 clear hv hs
 go_enter Tryz.func92,Tryz.ntmps92
 go_wp2_with (rw[←hW];replace hW:=hid hW)
 try (rw[←hW];replace hW:=hid hW)
 refine(hf.out _ hv0.out).mono ?_
 rintro e w1 ⟨rfl,hb1⟩
 have hB1:=hid (sn hb0.out hb1)
 have hx1:=hid ((hb1.block _ (lt_of_block hx0.out)).trans hx0.out)
 have hy1:=hid ((hb1.block _ (lt_of_block hy0.out)).trans hy0.out)
 have hz1:=hid ((hb1.block _ (lt_of_block hz0.out)).trans hz0.out)
 have hv1:=hid (hv0.out.below hb1)
 have hlt1:=lt_of_block hz1.out
 clear e0 e1 e2 hb1
 have e1:=Z0 hx1.out 1
 go_wp2_with fail
 refine(hcl0.out _ hv1.out).mono ?_
 rintro e w2 ⟨v2,rfl,ho2,hb2⟩
 have hB2:=hid (sn hB1.out hb2)
 have hx2:=hid ((hb2.block _ (lt_of_block hx1.out)).trans hx1.out)
 have hy2:=hid ((hb2.block _ (lt_of_block hy1.out)).trans hy1.out)
 have hz2:=hid ((hb2.block _ (lt_of_block hz1.out)).trans hz1.out)
 have hsz2:=hb2.size
 replace ho2:=hid ho2
 clear e1 hb2
 rcases hr:(ZM l n.path).isSome with _ | _
 ·have hend:Z14 l n.path=l.length:=by
   rcases hn with h | h
   ·rw[hr]at h;cases h
   ·exact h
  have hgn:ZM l n.path=none:=by simpa using hr
  have hL:=hid (show Z1B l n=l++[n] by rw[hmiss.out hgn,hend,List.take_length,List.drop_length])
  rw[hend]
  clear hn hr hend hgn hmiss hhit hga
  have hbx:Below w2.heap.size w2 (w2.alloc (.cells n.cells 89)):=(Below.refl _ _).alloc (Nat.le_refl _) _
  have ho3:=ZT ho2.out hbx
  have hins:=hid (Z7S v2 l n w2.heap.size w1.heap.size (w2.alloc (.cells n.cells 89)) ho3 (heap_alloc_new _ _) (by omega) (by simp;omega))
  have hB3:=hid (sn hB2.out hbx)
  have hx3:=hid ((hbx.block _ (lt_of_block hx2.out)).trans hx2.out)
  have hz3:=hid ((hbx.block _ (lt_of_block hz2.out)).trans hz2.out)
  have hown : ∀ k,v2.ownBlock=some k→w1.heap.size≤k:=fun k hk=>(ho2.out.lt k hk).1
  have hown:=hid hown
  rw[Z7]at hins hx3 hz3 hB3 hy2
  clear hbx ho3
  go_wp2_with (refine wpList_load_row (by rfl) 89 (.tmp 3) (by rfl) (w.heap.size+1) (by rfl) 89 _ (0,0) _ hy2.out Tryz.underlying89 (by rfl) (by kernel_rfl) ?_)
  refine hins.out.mono ?_
  rintro e X ⟨vX,rfl,hoX,hgX⟩
  obtain⟨L,hLL⟩ : ∃ L,L=l++[n]:=⟨_,rfl⟩
  rw[←hLL]at hoX hL
  replace hLL:=hid hLL
  have hXN:=hid (Z3.of_own hoX)
  have hX0:=hid ((hgX.block _ (lt_of_block hx3.out) (fun e=>by have:=hown.out _ e.symm;omega)).trans hx3.out)
  have hX2:=hid ((hgX.block _ (lt_of_block hz3.out) (fun e=>by have:=hown.out _ e.symm;omega)).trans hz3.out)
  have hXB:=hid (hB3.out.grown hgX (by have:=hB3.out.size;exact this) (fun j hj=>by have:=hown.out _ hj;omega))
  have hXf:=hid (show ∀ k,vX.ownBlock=some k→w.heap.size≤k from fun k hk=>by have:=(hoX.lt _ hk).1;omega)
  have hXn:=hid (show vX.ownBlock≠some (w.heap.size+2) from fun e=>by have:=(hoX.lt _ e).1;omega)
  clear hoX hgX hins
  have q0:X.cell? ⟨w.heap.size,0,none⟩=some (.int .u64 (x:Int)):=Z0 hX0.out 0
  have q0d:X.drew.cell? ⟨w.heap.size,0,none⟩=some (.int .u64 (x:Int)):=Z0 hX0.out 0
  have g0:X.cell? ⟨w.heap.size+1+1,0,none⟩=some (.int .u64 0):=Z0 hX2.out 0
  have g1:X.cell? ⟨w.heap.size+1+1,1,none⟩=some (.slice none 0 0):=Z0 hX2.out 1
  have f0:X.frozen? ⟨w.heap.size+1+1,0,none⟩=false:=Zb hX2.out 0
  have f1:X.frozen? ⟨w.heap.size+1+1,1,none⟩=false:=Zb hX2.out 1
  have ff0:X.drew.frozen? ⟨w.heap.size+1+1,0,none⟩=false:=f0
  have ff1:X.drew.frozen? ⟨w.heap.size+1+1,1,none⟩=false:=f1
  have gg0:X.drew.cell? ⟨w.heap.size+1+1,0,none⟩=some (.int .u64 0):=g0
  have gg1:X.drew.cell? ⟨w.heap.size+1+1,1,none⟩=some (.slice none 0 0):=g1
  obtain⟨ax,cx,rfl,x1,x2⟩:=hXN.out.form
  have hzz:=hid (Zg (Zg hX2.out 0 (.int .u64 (x:Int))) 1 (.slice ax L.length L.length))
  have hzB:=hid (((hXB.out.setCell (p:=⟨w.heap.size+1+1,0,none⟩) (by show w.heap.size≤w.heap.size+1+1;omega) (.int .u64 (x:Int))).setCell (p:=⟨w.heap.size+1+1,1,none⟩) (by show w.heap.size≤w.heap.size+1+1;omega) (.slice ax L.length L.length)).drew)
  have hx9:Hid (((X.setCell ⟨w.heap.size+1+1,0,none⟩ (.int .u64 (x:Int))).setCell ⟨w.heap.size+1+1,1,none⟩ (.slice ax L.length L.length)).drew.heap[w.heap.size]?=_):=hid ((Z1 (by show w.heap.size≠w.heap.size+1+1;omega)).trans ((Z1 (by show w.heap.size≠w.heap.size+1+1;omega)).trans hX0.out))
  have hNz:=hid (Z3.below hXN.out.clip (show Below X.heap.size X X from Below.refl _ _))
  have hN9:Hid (Z3 ((X.setCell ⟨w.heap.size+1+1,0,none⟩ (.int .u64 (x:Int))).setCell ⟨w.heap.size+1+1,1,none⟩ (.slice ax L.length L.length)).drew (.slice ax L.length L.length) L):=hid (Z3.other hXN.out.clip (w.heap.size+1+1) (by rw[Z1S ax _ _ L.length cx];exact hXn.out) (by simp) fun k hk=>(Z1 (by show k≠_;exact hk)).trans (Z1 (by show k≠_;exact hk)))
  have hcl:=hid (fun W=>Z5E ax L.length cx W x1 x2)
  replace hX0:=hid hX0.out
  go_wp2_with fail
  go_region_held3 (fun w'=>w'.cell? ⟨w.heap.size,0,none⟩=some (.int .u64 (x:Int)))
   (first | exact q0d | exact Z0 hx9.out 0 | go_keep)
   ((go_at_call 103;(with_reducible refine(hcl.out _).mono ?_);rintro e wc ⟨rfl,rfl⟩))
  clear q0 q0d g0 g1 f0 f1 ff0 ff1 gg0 gg1
  all_goals
   go_wp2_with fail
   refine bodyPost_ret (results_cell_row rfl _ _ (w.heap.size+1+1) _ _ _ _ rfl hzz.out Tryz.underlying30 rfl (by kernel_rfl)) rfl ?_
   exact⟨_,rfl,by rw[hL.out];exact hN9.out,fun k hk=>hXf.out k (by rw[Z1S ax _ _ L.length L.length];exact hk),hzB.out⟩
 ·obtain⟨m,hm⟩:=Option.isSome_iff_exists.1 hr
  have hq:Hid (∃ h:Z14 l n.path<l.length,l[Z14 l n.path].path=n.path):=hid (by
   have h:=hga.out
   rw[hm]at h
   cases hh:l[Z14 l n.path]? with
   | none=>rw[hh]at h;cases h
   | some k =>
    rw[hh]at h
    simp only at h
    obtain⟨h1,h2⟩:=List.getElem?_eq_some_iff.1 hh
    by_cases e:k.path=n.path
    ·exact⟨h1,by rw[h2];exact e⟩
    ·rw[if_neg e]at h;cases h)
  obtain⟨hql,hqp⟩:=hq.out
  have hL:=hid (hhit.out hql hqp)
  clear hn hr hm hmiss hhit hga hqp hq
  generalize Z14 l n.path=q at *
  obtain⟨g,c2,rfl,c21,c22,hgb⟩:=Z6R ho2.out (by omega)
  unfold maxLen at c22
  have hth:=hid (Z4K ho2.out hql)
  obtain⟨s1,s2,s3⟩:=Z3W (x:=n) ho2.out hql
  obtain⟨X,hX⟩ : ∃ X,X=w2.setCells g (q * 12) n.cells.toList:=⟨_,rfl⟩
  rw[←hX]at s1 s2 s3
  obtain⟨L,hLL⟩ : ∃ L,L=l.set q n:=⟨_,rfl⟩
  rw[←hLL]at hL s1
  have hlen:L.length=l.length:=by rw[hLL];simp
  replace hLL:=hid hLL
  have hXN:Hid (Z3 X (.slice (some ⟨g,0,none⟩) l.length c2) L):=hid (Z3.of_own s1)
  have hX0:=hid ((s3 w.heap.size (by omega)).trans hx2.out)
  have hX2:=hid ((s3 (w.heap.size+2) (by omega)).trans hz2.out)
  have hXB:=hid (hB2.out.trans (s2.mono (by omega)))
  have hXf:=hid (show ∀ k,(Value.slice (some ⟨g,0,none⟩) l.length c2).ownBlock=some k→w.heap.size≤k from fun k hk=>by have h3:g=k:=Option.some.inj hk;omega)
  have hXn:=hid (show(Value.slice (some ⟨g,0,none⟩) l.length c2).ownBlock≠some (w.heap.size+2) from fun e=>by have h3:g=w.heap.size+2:=Option.some.inj e;omega)
  clear s1 s2 s3
  rw[←hlen]at hXN hXn hXf
  go_upto_region 6 with (first
   |(refine wpList_load_row (by rfl) 89 (.tmp 3) (by rfl) (w.heap.size+1) (by rfl) 89 n.cells (0,0) _ hy2.out Tryz.underlying89 (by rfl) (by kernel_rfl) ?_)
   |(refine wpList_store_mid (by rfl) 89 (.tmp 22) (.tmp 21) (by rfl) g (q * 12) n.cells (by rfl) (by rfl) hth.out (by kernel_rfl) (Zw n) ?_)
   |(rw[←hX];replace hX:=hid hX))
  try (rw[←hX];replace hX:=hid hX)
  rw[←hlen]
  have q0:X.cell? ⟨w.heap.size,0,none⟩=some (.int .u64 (x:Int)):=Z0 hX0.out 0
  have q0d:X.drew.cell? ⟨w.heap.size,0,none⟩=some (.int .u64 (x:Int)):=Z0 hX0.out 0
  have g0:X.cell? ⟨w.heap.size+1+1,0,none⟩=some (.int .u64 0):=Z0 hX2.out 0
  have g1:X.cell? ⟨w.heap.size+1+1,1,none⟩=some (.slice none 0 0):=Z0 hX2.out 1
  have f0:X.frozen? ⟨w.heap.size+1+1,0,none⟩=false:=Zb hX2.out 0
  have f1:X.frozen? ⟨w.heap.size+1+1,1,none⟩=false:=Zb hX2.out 1
  have ff0:X.drew.frozen? ⟨w.heap.size+1+1,0,none⟩=false:=f0
  have ff1:X.drew.frozen? ⟨w.heap.size+1+1,1,none⟩=false:=f1
  have gg0:X.drew.cell? ⟨w.heap.size+1+1,0,none⟩=some (.int .u64 0):=g0
  have gg1:X.drew.cell? ⟨w.heap.size+1+1,1,none⟩=some (.slice none 0 0):=g1
  have x1:L.length≤c2:=by omega
  have x2:c2≤maxLen:=by unfold maxLen;omega
  have hzz:=hid (Zg (Zg hX2.out 0 (.int .u64 (x:Int))) 1 (.slice (some ⟨g,0,none⟩) L.length L.length))
  have hzB:=hid (((hXB.out.setCell (p:=⟨w.heap.size+1+1,0,none⟩) (by show w.heap.size≤w.heap.size+1+1;omega) (.int .u64 (x:Int))).setCell (p:=⟨w.heap.size+1+1,1,none⟩) (by show w.heap.size≤w.heap.size+1+1;omega) (.slice (some ⟨g,0,none⟩) L.length L.length)).drew)
  have hx9:Hid (((X.setCell ⟨w.heap.size+1+1,0,none⟩ (.int .u64 (x:Int))).setCell ⟨w.heap.size+1+1,1,none⟩ (.slice (some ⟨g,0,none⟩) L.length L.length)).drew.heap[w.heap.size]?=_):=hid ((Z1 (by show w.heap.size≠w.heap.size+1+1;omega)).trans ((Z1 (by show w.heap.size≠w.heap.size+1+1;omega)).trans hX0.out))
  have hNz:=hid (Z3.below hXN.out.clip (show Below X.heap.size X X from Below.refl _ _))
  have hN9:Hid (Z3 ((X.setCell ⟨w.heap.size+1+1,0,none⟩ (.int .u64 (x:Int))).setCell ⟨w.heap.size+1+1,1,none⟩ (.slice (some ⟨g,0,none⟩) L.length L.length)).drew (.slice (some ⟨g,0,none⟩) L.length L.length) L):=hid (Z3.other hXN.out.clip (w.heap.size+1+1) (by rw[Z1S (some ⟨g,0,none⟩) _ _ L.length c2];exact hXn.out) (by simp) fun k hk=>(Z1 (by show k≠_;exact hk)).trans (Z1 (by show k≠_;exact hk)))
  have hcl:=hid (fun W=>Z5E (some ⟨g,0,none⟩) L.length c2 W x1 x2)
  replace hX0:=hid hX0.out
  replace hlen:=hid hlen
  go_region_held3 (fun w'=>w'.cell? ⟨w.heap.size,0,none⟩=some (.int .u64 (x:Int)))
   (first | exact q0d | exact Z0 hx9.out 0 | go_keep)
   ((go_at_call 103;(with_reducible refine(hcl.out _).mono ?_);rintro e wc ⟨rfl,rfl⟩))
  clear q0 q0d g0 g1 f0 f1 ff0 ff1 gg0 gg1
  all_goals
   go_wp2_with fail
   refine bodyPost_ret (results_cell_row rfl _ _ (w.heap.size+1+1) _ _ _ _ rfl hzz.out Tryz.underlying30 rfl (by kernel_rfl)) rfl ?_
   exact⟨_,rfl,by rw[hL.out];exact hN9.out,fun k hk=>hXf.out k (by rw[Z1S (some ⟨g,0,none⟩) _ _ L.length L.length];exact hk),hzB.out⟩
end
section
open Go.RowKit
def Z5c (f:FuncId) (cap:Array Value) (base:Nat) (w:World) (p:Nod→Bool):Prop:=∀ n w',Below base w w'→Calls Tryz.prog f (#[.agg n.cells]++cap) w' fun e w2=>e=.returned (.bool (p n))∧Below w'.heap.size w' w2
def Z5d (f:FuncId):Prop:=∀ args W,Sem.run Tryz.prog (callFunc f args) W=.ok (.enter f args) W
theorem sb {B:Nat} {w w1 w2:World} (h:Below B w w1) (h2:Below w1.heap.size w1 w2) (hB:B≤w.heap.size):Below B w w2:=h.trans (h2.mono (Nat.le_trans hB h.size))
def Zeq (base:Nat) (w:World) (l:List Nod) (p:Nod→Bool) (e:Ending) (w':World):Prop :=
 ∃ i:Int,e=.returned (.int .i64 i)∧((i = -1∧∀ n∈l,p n=false)∨∃ (k:Nat) (h:k<l.length),i=(k:Int)∧p l[k]=true∧∀ j (h:j<l.length),j<k→p l[j]=false)∧Below w.heap.size w w'
set_option maxHeartbeats 1600000 in
theorem Z5F (v:Value) (l:List Nod) (f:FuncId) (cap:Array Value) (base:Nat) (p:Nod→Bool) (w:World) (hv:Z3 w v l) (hl:l.length≤1000) (hT:Z5c f cap base w p) (hE:Z5d f) (hB:base≤w.heap.size) :
  Calls Tryz.prog 188 #[v,.func (.func f) #[] cap] w (Zeq base w l p):=by
 obtain⟨a,c,rfl,g1,g2⟩:=hv.form
 unfold maxLen at g2
 replace hv:=hid hv
 replace hT:=hid hT
 replace hE:=hid hE
 replace hB:=hid hB
 go_enter Tryz.func188,Tryz.ntmps188
 go_wp2_with fail
 go_loopw [8] (fun kv wr=>∃ k:Nat,k≤l.length∧kv=.int .i64 (k:Int)∧Hid (Below w.heap.size w wr)∧Hid (∀ j (h:j<l.length),j<k→p l[j]=false)) (fun kv _=>l.length - (intOf kv).toNat)
 case atStart=>exact⟨0,by omega,rfl,hid (Below.refl _ _),hid (fun j _ h=>by omega)⟩
 case round =>
  obtain⟨k,hk,rfl,hBr,hall⟩:=hrel
  by_cases hkl:k<l.length
  ·obtain⟨b,o,ha,hr⟩:=(hv.out.below hBr.out).range k hkl
   subst ha
   have hpk:Hid (∀ q,p l[k]=q→q=p l[k]):=hid (fun q h=>h.symm)
   obtain⟨n,hn⟩ : ∃ n,n=l[k]:=⟨_,rfl⟩
   rw[←hn]at hr
   replace hn:=hid hn
   have Z2C:=hid (hT.out n wr (hBr.out.mono hB.out))
   have hE':=hE.out (#[.agg n.cells]++cap) wr
   replace hr:=hid hr
   go_wp2_with (refine Zx (by rfl) 89 (.tmp 14) (by rfl) b (o+k * 12) (by rfl) n.cells _ hr.out Tryz.underlying89 (by rfl) (by kernel_rfl) ?_)
   refine Z2C.out.mono ?_
   rintro e w2 ⟨rfl,hb2⟩
   have hB2:=hid (sn hBr.out hb2)
   clear hb2 Z2C hE' hr
   cases hp:p n with
   | true =>
    replace hp:=hid hp
    go_wp2_with fail
    go_ret
    exact⟨(k:Int),rfl,.inr ⟨k,hkl,rfl,by rw[←hn.out];exact hp.out,hall.out⟩,hB2.out⟩
   | false =>
    have hall2:=hid (show ∀ j (h:j<l.length),j<k+1→p l[j]=false from fun j h hj=>by
     by_cases e:j<k
     ·exact hall.out j h e
     ·obtain rfl:j=k:=by omega
      rw[←hn.out];exact hp)
    clear hp
    go_wp2_with fail
    go_roundw
    case rel=>exact⟨k+1,by omega,by go_num,hB2,hall2⟩
    case measure=>simp[intOf];omega
  ·obtain rfl:k=l.length:=by omega
   go_wp2_with fail
   go_ret
   exact⟨-1,rfl,.inl ⟨rfl,fun n hn=>by obtain⟨i,hi,rfl⟩:=List.mem_iff_getElem.1 hn;exact hall.out i hi hi⟩,hBr.out⟩
theorem Z9a (b:Nat) (q:Nat) (base:Nat) (w:World) (hb:w.heap[b]?=some (.cells #[.int .u64 (q:Int)] 27 (0,0))) (hlt:b<base) :
  Z5c 155 #[.pointer (some ⟨b,0,none⟩)] base w (fun n=>decide (n.path=q)):=by
 intro n w' hB
 have hb0:=(Below.refl w'.heap.size w').alloc (Nat.le_refl _) (.cells n.cells 89)
 have c0:(w'.alloc (.cells n.cells 89)).cell? ⟨b,0,none⟩=some (.int .u64 (q:Int)):=by
  have h1:=(hB.block b hlt).trans hb
  exact Z0 ((hb0.block b (lt_of_block h1)).trans h1) 0
 have k1:((n.path:Int) ==(q:Int))=decide (n.path=q):=Z2m _ _
 replace hb0:=hid hb0
 replace hb:=hid hb
 replace hB:=hid hB
 rw[Z7]at c0 hb0 ⊢
 show Calls _ _ #[_,_] _ _
 go_enter Tryz.func155,Tryz.ntmps155
 go_wp2_with fail
 go_ret
 exact⟨rfl,hb0.out⟩
theorem Z6S:Z5d 155:=fun args W=>rfl
end
section
open Go.RowKit
theorem Z4L (w:World) (ty:TypeId) (b o n c:Nat) (hn:0<n) (ht:w.there b o (n * 12)) :
  ∃ vs:List Value,vs.length=n * 12∧(Builtin.clear_ #[28] ty #[.slice (some ⟨b,o,none⟩) n c]).run Tryz.prog w=.ok (.tuple #[]) (w.setCells b o vs):=by
 have hz : ∀ w,(zeroValue 89).run Tryz.prog w=.ok (.agg Zk.cells) w:=fun w=>by kernel_rfl
 have h1 : ∀ v∈(Builtin.zeroCells Zk.cells n).toList,v.oneCell'=true:=by
  intro v hv
  simp only[Builtin.zeroCells,Array.toList_map,List.mem_map]at hv
  obtain⟨i,_,rfl⟩:=hv
  have hm:i % 12<12:=Nat.mod_lt _ (by omega)
  show(Zk.cells[i % 12]!).oneCell'=true
  generalize i % 12=j at hm
  rw[Zc]
  match j,hm with
  | 0,_=>rfl
  | 1,_=>rfl
  | 2,_=>rfl
  | 3,_=>rfl
  | 4,_=>rfl
  | 5,_=>rfl
  | 6,_=>rfl
  | 7,_=>rfl
  | 8,_=>rfl
  | 9,_=>rfl
  | 10,_=>rfl
  | 11,_=>rfl
 have hl:(Builtin.zeroCells Zk.cells n).toList.length=n * 12:=by simp[Builtin.zeroCells,Zc]
 have hst:=run_storeCells_cells (P:=Tryz.prog) b o (Builtin.zeroCells Zk.cells n).toList 0 w (fun j hj=>by simpa using (ht j (by rw[hl]at hj;exact hj)).1) (fun j hj=>by simpa using (ht j (by rw[hl]at hj;exact hj)).2) h1
 simp only[Nat.add_zero]at hst
 obtain⟨m,rfl⟩ : ∃ m,n=m+1:=⟨n - 1,by omega⟩
 have hzc:(Value.agg Zk.cells).cells=Zk.cells:=rfl
 refine⟨_,hl,?_⟩
 simp[Builtin.clear_,run_underlying Tryz.underlying28,hz,hzc,hst]
theorem Z7T {w:World} {base e k n c i m:Nat} {g:Nat} {xs:List Value} (h:w.ownsRow base e k (.slice (some ⟨g,0,none⟩) n c) n xs) (hi:i+m≤n):w.there g (i * k) (m * k):=by
 rcases h.2 with ⟨h1,_⟩ |⟨g',cap,cur,hv,hb,hg,h1,h2,h3,h4⟩
 ·cases h1
 ·cases hv
  intro j hj
  have hlt:i * k+j<cur.size:=by
   have:=Nat.mul_le_mul_right k hi
   rw[Nat.add_mul]at this
   have:=Nat.mul_le_mul_right k h1
   omega
  refine⟨?_,Zb hg _⟩
  rw[Z0 hg,Array.getElem?_eq_getElem hlt];rfl
theorem ZcD {w:World} {base e n c g i:Nat} {M:List Nod} {vs:List Value} (h:w.ownsRow base e 12 (.slice (some ⟨g,0,none⟩) n c) n (ZB M)) (hi:i≤n) :
  (w.setCells g (i * 12) vs).ownsRow base e 12 (.slice (some ⟨g,0,none⟩) i c) i (ZB (M.take i))∧Below base w (w.setCells g (i * 12) vs):=by
 have hln:n=M.length:=by have:=h.1;rw[Z17]at this;omega
 rcases h.2 with ⟨h1,_⟩ |⟨g',cap,cur,hv,hb,hg,h1,h2,h3,h4⟩
 ·cases h1
 ·cases hv
  obtain⟨a1,a2,a3⟩:=Z5D vs (i * 12) w cur hg
  refine⟨⟨by rw[Z17,List.length_take];congr 1;omega,.inr ⟨g,c,_,rfl,hb,a1,by omega,h2,by rw[Z5C];exact h3,?_⟩⟩,a3.mono hb⟩
  apply List.ext_getElem?
  intro k
  by_cases hk:k<i * 12
  ·have hkn:k<n * 12:=by have:=Nat.mul_le_mul_right 12 hi;omega
   rw[List.getElem?_take_of_lt hk,Array.getElem?_toList,Z6Q _ _ _ _ (by have:=Nat.mul_le_mul_right 12 h1;omega),if_neg (by omega)]
   have e1:(ZB M)[k]?=cur[k]?:=by rw[←h4,List.getElem?_take_of_lt hkn,Array.getElem?_toList]
   rw[←e1]
   have hq:k=k / 12 * 12+k % 12:=by omega
   rw[hq,Z2p _ _ _ (by omega) (by omega),Z2p _ _ _ (by rw[List.length_take];omega) (by omega),List.getElem_take]
  ·rw[List.getElem?_eq_none (by simp;omega),List.getElem?_eq_none (by rw[Z17,List.length_take];omega)]
def ZcE (base:Nat) (w:World) (l:List Nod) (p:Nod→Bool) (e:Ending) (w':World):Prop :=
 ∃ v',e=.returned v'∧w'.ownsRow base 89 12 v' (l.filter fun n=>!p n).length (ZB (l.filter fun n=>!p n))∧Below base w w'
structure DelAt (l M:List Nod) (p:Nod→Bool) (i j:Nat):Prop where
 len:M.length=l.length
 lt:i<j∧j≤l.length
 front:M.take i=(l.take j).filter fun n=>!p n
 back:M.drop j=l.drop j
theorem DelAt.start {l:List Nod} {p:Nod→Bool} {k:Nat} (hk:k<l.length) (hp:p l[k]=true) (ha : ∀ j (h:j<l.length),j<k→p l[j]=false):DelAt l l p k (k+1):=by
 refine⟨rfl,⟨by omega,by omega⟩,?_,rfl⟩
 rw[List.take_succ_eq_append_getElem hk,List.filter_append,List.filter_cons_of_neg (by simp[hp]),List.filter_nil,List.append_nil]
 refine(List.filter_eq_self.2 fun n hn=>?_).symm
 obtain⟨i,hi,rfl⟩:=List.mem_iff_getElem.1 hn
 rw[List.length_take]at hi
 rw[List.getElem_take]
 simp[ha i (by omega) (by omega)]
theorem DelAt.get {l M:List Nod} {p:Nod→Bool} {i j:Nat} (h:DelAt l M p i j) (hj:j<l.length) : ∃ hh:j<M.length,M[j]=l[j]:=by
 have hM:j<M.length:=by rw[h.len];exact hj
 refine⟨hM,?_⟩
 have e:=congrArg (fun z=>z[0]?) h.back
 simp only[List.getElem?_drop,Nat.add_zero]at e
 rw[List.getElem?_eq_getElem hM,List.getElem?_eq_getElem hj]at e
 exact Option.some.inj e
theorem DelAt.keep {l M:List Nod} {p:Nod→Bool} {i j:Nat} (h:DelAt l M p i j) (hj:j<l.length) (hp:p l[j]=false):DelAt l (M.set i l[j]) p (i+1) (j+1):=by
 have hi:=h.lt
 refine⟨by rw[List.length_set];exact h.len,⟨by omega,by omega⟩,?_,?_⟩
 ·rw[List.take_succ_eq_append_getElem (by rw[List.length_set,h.len];omega),List.getElem_set_self,List.take_set_of_le (Nat.le_refl _),h.front,List.take_succ_eq_append_getElem hj,List.filter_append,List.filter_cons_of_pos (by simp[hp]),List.filter_nil]
 ·rw[List.drop_set_of_lt (by omega)]
  have e:=congrArg (fun z=>z.drop 1) h.back
  simpa using e
theorem DelAt.skip {l M:List Nod} {p:Nod→Bool} {i j:Nat} (h:DelAt l M p i j) (hj:j<l.length) (hp:p l[j]=true):DelAt l M p i (j+1):=by
 have hi:=h.lt
 refine⟨h.len,⟨by omega,by omega⟩,?_,?_⟩
 ·rw[h.front,List.take_succ_eq_append_getElem hj,List.filter_append,List.filter_cons_of_neg (by simp[hp]),List.filter_nil,List.append_nil]
 ·have e:=congrArg (fun z=>z.drop 1) h.back
  simpa using e
set_option maxHeartbeats 3200000 in
theorem ZaQ (v:Value) (l:List Nod) (f:FuncId) (cap:Array Value) (base:Nat) (p:Nod→Bool) (w:World) (hv:w.ownsRow base 89 12 v l.length (ZB l)) (hl:l.length≤1000) (hT:Z5c f cap base w p) (hE:Z5d f) (hB:base≤w.heap.size) :
  Calls Tryz.prog 154 #[v,.func (.func f) #[] cap] w (ZcE base w l p):=by
 obtain⟨a,c,rfl,g1,g2⟩:=(Z3.of_own hv).form
 unfold maxLen at g2
 have hix:=hid (Z5F _ l f cap base p w (Z3.of_own hv) hl hT hE hB)
 replace hv:=hid hv
 replace hT:=hid hT
 replace hE:=hid hE
 replace hB:=hid hB
 go_enter Tryz.func154,Tryz.ntmps154
 go_wp2_with fail
 refine hix.out.mono ?_
 rintro e w1 ⟨i,rfl,hi,hb1⟩
 have hv1:=hid (ZT hv.out hb1)
 have hB1:=hid (hb1.mono hB.out)
 have hs1:=hid hb1.size
 clear hb1 hix
 rcases hi with ⟨rfl,hnone⟩ |⟨k,hk,rfl,hpk,hbef⟩
 ·have hfil:=hid (show(l.filter fun n=>!p n)=l from List.filter_eq_self.2 fun n hn=>by simp[hnone n hn])
  clear hnone
  go_wp2_with fail
  go_ret
  exact⟨_,rfl,by rw[hfil.out];exact hv1.out,hB1.out⟩
 ·have hst:=hid (DelAt.start hk hpk hbef)
  have hne:((k:Int) == -1)=false:=by rw[beq_eq_false_iff_ne];omega
  clear hpk hbef
  go_wp2_with fail
  obtain⟨g,c2,hvv,_,_,hgb⟩:=Z6R hv1.out (by omega)
  obtain⟨rfl,-,rfl⟩:a=some ⟨g,0,none⟩∧True∧c=c2:=by cases hvv;exact⟨rfl,trivial,rfl⟩
  clear hvv
  go_loopw [5,6] (fun iv jv wr=>∃ (i j:Nat) (M:List Nod),iv=.int .i64 (i:Int)∧jv=.int .i64 (j:Int)∧j≤l.length∧i<j∧Hid (DelAt l M p i j)∧Hid (wr.ownsRow base 89 12 (.slice (some ⟨g,0,none⟩) l.length c) l.length (ZB M))∧Hid (Below base w wr)) (fun _ jv _=>l.length - (intOf jv).toNat)
  case atStart=>exact⟨k,k+1,l,rfl,by go_num,by omega,by omega,hst,hv1,hB1⟩
  case round =>
   obtain⟨i,j,M,rfl,rfl,hj,hij,hD,hO,hBr⟩:=hrel
   clear hst
   by_cases hjl:j<l.length
   ·obtain⟨hM,hMl⟩:=hD.out.get hjl
    obtain⟨b,o,ha,hr⟩:=(Z3.of_own hO.out).range j hM
    have hkeep:=hid (hD.out.keep hjl)
    have hskip:=hid (hD.out.skip hjl)
    rw[hMl]at hr
    generalize l[j]=n at *
    cases ha
    rw[Nat.zero_add]at hr
    have hnew:=hid (heap_alloc_new wr (.cells Zk.cells 89))
    obtain⟨W3,hW3⟩ : ∃ W,W=Z1J wr n:=⟨_,rfl⟩
    have hb3:Below wr.heap.size wr W3:=by rw[hW3];exact ZD _ _
    have hn3:=hid (show W3.heap[wr.heap.size]?=some (.cells n.cells 89 (0,0)) by rw[hW3];exact ZK _ _)
    have hO3:=hid (ZT hO.out hb3)
    have hlt:base≤wr.heap.size:=Nat.le_trans hB.out hBr.out.size
    have hB3:=hid (sb hBr.out hb3 hB.out)
    unfold Z1J at hW3
    rw[Zc]at hW3 hnew
    replace hr:=hid hr
    replace hMl:=hid hMl
    have Z2C:=hid (hT.out n W3 hB3.out)
    have hE':=hE.out (#[.agg n.cells]++cap) W3
    clear hb3 hO hBr hD
    go_wp2_with (first
     |(refine Zx (by rfl) 89 (.tmp 24) (by rfl) g (j * 12) (by rfl) n.cells _ hr.out Tryz.underlying89 (by rfl) (by kernel_rfl) ?_)
     |(refine wpList_store_row (by rfl) 89 (.tmp 7) (.tmp 25) (by rfl) wr.heap.size n.cells (by rfl) (by rfl) 89 _ hnew.out (by kernel_rfl) (by kernel_rfl) (Zw n) ?_)
     |(rw[←hW3];replace hW3:=hid hW3)
     |(refine wpList_load_row (by rfl) 89 (.tmp 7) (by rfl) wr.heap.size (by rfl) 89 n.cells (0,0) _ hn3.out Tryz.underlying89 (by rfl) (by kernel_rfl) ?_))
    refine Z2C.out.mono ?_
    rintro e w4 ⟨rfl,hb4⟩
    have hO4:=hid (ZT hO3.out hb4)
    have hn4:=hid ((hb4.block _ (lt_of_block hn3.out)).trans hn3.out)
    have hB4:=hid (sb hB3.out hb4 hB.out)
    clear hb4 Z2C hE' hr hn3 hO3 hB3 hnew hlt
    generalize wr.heap.size=z at *
    cases hp:p n with
    | true =>
     have hD2:=hid (hskip.out hp)
     clear hp hkeep hskip
     go_wp2_with fail
     go_roundw
     case rel=>exact⟨i,j+1,M,rfl,by go_num,by omega,by omega,hD2,hO4,hB4⟩
     case measure=>simp[intOf];omega
    | false =>
     have hD2:=hid (hkeep.out hp)
     have hth:=hid (Z4K hO4.out (show i<l.length by omega))
     obtain⟨s1,s2,s3⟩:=Z3W (x:=n) hO4.out (show i<l.length by omega)
     obtain⟨X,hX⟩ : ∃ X,X=w4.setCells g (i * 12) n.cells.toList:=⟨_,rfl⟩
     rw[←hX]at s1 s2
     have hOX:=hid s1
     have hBX:=hid (hB4.out.trans s2)
     clear hp hkeep hskip s1 s2 s3
     go_wp2_with (first
      |(rw[←hX];replace hX:=hid hX)
      |(refine wpList_load_row (by rfl) 89 (.tmp 7) (by rfl) z (by rfl) 89 n.cells (0,0) _ hn4.out Tryz.underlying89 (by rfl) (by kernel_rfl) ?_)
      |(refine wpList_store_mid (by rfl) 89 (.tmp 33) (.tmp 32) (by rfl) g (i * 12) n.cells (by rfl) (by rfl) hth.out (by kernel_rfl) (Zw n) ?_))
     go_roundw
     case rel=>exact⟨i+1,j+1,_,by go_num,by go_num,by omega,by omega,hD2,hOX,hBX⟩
     case measure=>simp[intOf];omega
   ·obtain rfl:j=l.length:=by omega
    obtain⟨vs,hvs,hcl⟩:=Z4L wr 0 g (i * 12) (l.length - i) (c - i) (by omega) (Z7T hO.out (by omega))
    obtain⟨s1,s2⟩:=ZcD (vs:=vs) hO.out (show i≤l.length by omega)
    obtain⟨X,hX⟩ : ∃ X,X=wr.setCells g (i * 12) vs:=⟨_,rfl⟩
    rw[←hX]at s1 s2 hcl
    have hfr:=hid (show M.take i=l.filter fun n=>!p n by rw[hD.out.front,List.take_length])
    rw[hfr.out]at s1
    have hil:Hid (i=(l.filter fun n=>!p n).length):=hid (by have:=s1.1;rw[Z17]at this;omega)
    have hOX:=hid s1
    have hBX:=hid (hBr.out.trans s2)
    have hcl2 : ∀ ty,Sem.run Tryz.prog (Builtin.clear_ #[28] ty #[.slice (some ⟨g,i * 12,none⟩) (l.length - i) (c - i)]) wr=.ok (.tuple #[]) X:=fun ty=>hcl
    replace hX:=hid hX
    clear s1 s2 hvs hcl hD
    go_wp2_with fail
    go_ret
    exact⟨_,rfl,by rw[←hil.out];exact hOX.out,hBX.out⟩
end
section
open Go.RowKit
theorem ZaR (l:List Nod) (p:Nat):(l.filter fun n=>!decide (n.path=p))=Z1G l p:=by
 unfold Z1G;congr 1;funext n;simp
set_option maxHeartbeats 6400000 in
theorem Z4M (v:Value) (x:Nat) (l:List Nod) (p:Nat) (w:World) (hv:Z3 w v l) (hl:l.length≤900) :
  Calls Tryz.prog 106 #[.agg #[.int .u64 (x:Int),v],.int .u64 (p:Int)] w (Z2q w x (Z1G l p)):=by
 obtain⟨a,c,rfl,g1,g2⟩:=hv.form
 unfold maxLen at g2
 obtain⟨W,hW⟩ : ∃ W,W=((w.alloc (.cells #[.int .u64 (x:Int),.slice a l.length c] 30)).alloc (.cells #[.int .u64 (p:Int)] 27)).alloc (.cells #[.int .u64 0,.slice none 0 0] 30):=⟨_,rfl⟩
 have hb0:Below w.heap.size w W:=by rw[hW];exact(((Below.refl w.heap.size w).alloc (Nat.le_refl _) _).alloc (by simp) _).alloc (by simp;omega) _
 have hx0:W.heap[w.heap.size]?=some (.cells #[.int .u64 (x:Int),.slice a l.length c] 30 (0,0)):=by rw[hW,heap_alloc_old _ _ (by simp;omega),heap_alloc_old _ _ (by simp),heap_alloc_new]
 have hy0:W.heap[w.heap.size+1]?=some (.cells #[.int .u64 (p:Int)] 27 (0,0)):=by rw[hW,heap_alloc_old _ _ (by simp)];exact Z27 _ _ _
 have hz0:W.heap[w.heap.size+2]?=some (.cells #[.int .u64 0,.slice none 0 0] 30 (0,0)):=by
  rw[hW]
  have:=heap_alloc_new ((w.alloc (.cells #[.int .u64 (x:Int),.slice a l.length c] 30)).alloc (.cells #[.int .u64 (p:Int)] 27)) (.cells #[.int .u64 0,.slice none 0 0] 30)
  simpa using this
 have hcl0:=hid (Z5b _ l W (hv.below hb0) (by omega))
 have e1:=Z0 hx0 1
 have hlt0:=lt_of_block hz0
 replace hb0:=hid hb0
 replace hx0:=hid hx0
 replace hy0:=hid hy0
 replace hz0:=hid hz0
 clear hv
 go_enter Tryz.func106,Tryz.ntmps106
 go_wp2_with (rw[←hW];replace hW:=hid hW)
 try (rw[←hW];replace hW:=hid hW)
 refine hcl0.out.mono ?_
 rintro e w2 ⟨v2,rfl,ho2,hb2⟩
 have hB2:=hid (sn hb0.out hb2)
 have hx2:=hid ((hb2.block _ (lt_of_block hx0.out)).trans hx0.out)
 have hy2:=hid ((hb2.block _ (lt_of_block hy0.out)).trans hy0.out)
 have hz2:=hid ((hb2.block _ (lt_of_block hz0.out)).trans hz0.out)
 have hsz2:=hb2.size
 clear e1 hb2
 have hdel:=hid (ZaQ v2 l 155 #[.pointer (some ⟨w.heap.size+1,0,none⟩)] W.heap.size (fun n=>decide (n.path=p)) w2 ho2 (by omega) (Z9a (w.heap.size+1) p W.heap.size w2 hy2.out (by omega)) Z6S (by omega))
 clear ho2 hcl0
 go_wp2_with fail
 refine hdel.out.mono ?_
 rintro e X ⟨vX,rfl,hoX,hbX⟩
 rw[ZaR]at hoX
 obtain⟨L,hLL⟩ : ∃ L,L=Z1G l p:=⟨_,rfl⟩
 rw[←hLL]at hoX
 have hL:=hid hLL.symm
 replace hLL:=hid hLL
 have hXN:=hid (Z3.of_own hoX)
 have hX0:=hid ((hbX.block w.heap.size (by omega)).trans hx2.out)
 have hX2:=hid ((hbX.block (w.heap.size+2) (by omega)).trans hz2.out)
 have hXB:=hid (hB2.out.trans (hbX.mono (by omega)))
 have hXf:=hid (show ∀ k,vX.ownBlock=some k→w.heap.size≤k from fun k hk=>by have:=(hoX.lt _ hk).1;omega)
 have hXn:=hid (show vX.ownBlock≠some (w.heap.size+2) from fun e=>by have:=(hoX.lt _ e).1;omega)
 clear hoX hbX hdel
 have q0:X.cell? ⟨w.heap.size,0,none⟩=some (.int .u64 (x:Int)):=Z0 hX0.out 0
 have q0d:X.drew.cell? ⟨w.heap.size,0,none⟩=some (.int .u64 (x:Int)):=Z0 hX0.out 0
 have g0:X.cell? ⟨w.heap.size+1+1,0,none⟩=some (.int .u64 0):=Z0 hX2.out 0
 have g1:X.cell? ⟨w.heap.size+1+1,1,none⟩=some (.slice none 0 0):=Z0 hX2.out 1
 have f0:X.frozen? ⟨w.heap.size+1+1,0,none⟩=false:=Zb hX2.out 0
 have f1:X.frozen? ⟨w.heap.size+1+1,1,none⟩=false:=Zb hX2.out 1
 have ff0:X.drew.frozen? ⟨w.heap.size+1+1,0,none⟩=false:=f0
 have ff1:X.drew.frozen? ⟨w.heap.size+1+1,1,none⟩=false:=f1
 have gg0:X.drew.cell? ⟨w.heap.size+1+1,0,none⟩=some (.int .u64 0):=g0
 have gg1:X.drew.cell? ⟨w.heap.size+1+1,1,none⟩=some (.slice none 0 0):=g1
 obtain⟨ax,cx,rfl,x1,x2⟩:=hXN.out.form
 have hzz:=hid (Zg (Zg hX2.out 0 (.int .u64 (x:Int))) 1 (.slice ax L.length L.length))
 have hzB:=hid (((hXB.out.setCell (p:=⟨w.heap.size+1+1,0,none⟩) (by show w.heap.size≤w.heap.size+1+1;omega) (.int .u64 (x:Int))).setCell (p:=⟨w.heap.size+1+1,1,none⟩) (by show w.heap.size≤w.heap.size+1+1;omega) (.slice ax L.length L.length)).drew)
 have hx9:Hid (((X.setCell ⟨w.heap.size+1+1,0,none⟩ (.int .u64 (x:Int))).setCell ⟨w.heap.size+1+1,1,none⟩ (.slice ax L.length L.length)).drew.heap[w.heap.size]?=_):=hid ((Z1 (by show w.heap.size≠w.heap.size+1+1;omega)).trans ((Z1 (by show w.heap.size≠w.heap.size+1+1;omega)).trans hX0.out))
 have hNz:=hid (Z3.below hXN.out.clip (show Below X.heap.size X X from Below.refl _ _))
 have hN9:Hid (Z3 ((X.setCell ⟨w.heap.size+1+1,0,none⟩ (.int .u64 (x:Int))).setCell ⟨w.heap.size+1+1,1,none⟩ (.slice ax L.length L.length)).drew (.slice ax L.length L.length) L):=hid (Z3.other hXN.out.clip (w.heap.size+1+1) (by rw[Z1S ax _ _ L.length cx];exact hXn.out) (by simp) fun k hk=>(Z1 (by show k≠_;exact hk)).trans (Z1 (by show k≠_;exact hk)))
 have hcl:=hid (fun W=>Z5E ax L.length cx W x1 x2)
 replace hX0:=hid hX0.out
 go_wp2_with fail
 go_region_held3 (fun w'=>w'.cell? ⟨w.heap.size,0,none⟩=some (.int .u64 (x:Int)))
  (first | exact q0d | exact Z0 hx9.out 0 | go_keep)
  ((go_at_call 103;(with_reducible refine(hcl.out _).mono ?_);rintro e wc ⟨rfl,rfl⟩))
 clear q0 q0d g0 g1 f0 f1 ff0 ff1 gg0 gg1
 all_goals
  go_wp2_with fail
  refine bodyPost_ret (results_cell_row rfl _ _ (w.heap.size+1+1) _ _ _ _ rfl hzz.out Tryz.underlying30 rfl (by kernel_rfl)) rfl ?_
  exact⟨_,rfl,by rw[hL.out];exact hN9.out,fun k hk=>hXf.out k (by rw[Z1S ax _ _ L.length L.length];exact hk),hzB.out⟩
end
end Go.Proofs.YtkefjeabckainaaGreat
