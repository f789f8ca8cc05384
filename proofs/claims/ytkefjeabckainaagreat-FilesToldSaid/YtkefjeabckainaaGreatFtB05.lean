/- What may be a name of a user, in the program and in the reference; a clone of texts. Conditions: texts of the machine's size. And the texts behind it. -/
import Derived.Test.YtkefjeabckainaaGreatFtB04
import Derived.Test.YtkefjeabckainaaGreatFtB02
import Derived.Deep.RegionHeld3
import Derived.BigQuiet
namespace Go.Proofs.YtkefjeabckainaaGreat
set_option maxRecDepth 100000
set_option linter.unusedVariables false
section
open Go.RowKit
def Z2Q (s:ByteArray):Bool:=!s.data.toList.any (· == 32) && decide (ZJ s=0)
theorem Zcs (s:ByteArray):decide (0≤Lib.indexByte s.data.toList 32)=s.data.toList.any (· == 32):=by
 rw[Z2N]
 have h : ∀ l:List UInt8,l.contains 32=l.any (· == 32):=by
  intro l
  induction l with
  | nil=>rfl
  | cons b l ih=>rw[List.contains_cons,List.any_cons,ih,Bool.beq_comm]
 exact h _
set_option maxHeartbeats 800000 in
theorem Z6d (s:ByteArray) (w:World) (hs:s.size≤maxLen) :
  Calls Tryz.prog 177 #[.string s] w fun e w'=>e=.returned (.bool (Z2Q s))∧Below w.heap.size w w':=by
 have hn:=hid (Z5u s w hs)
 have hc:=hid (fun W=>Tryz.strings_Contains_one s 32 W)
 have hE:Hid (Z2Q s=(decide (ZJ s=0) && !decide (0≤Lib.indexByte s.data.toList 32))):=hid (by rw[Zcs];unfold Z2Q;rw[Bool.and_comm])
 by_cases h0:ZJ s=0
 ·rw[h0]at hn hE
  go_enter Tryz.func177,Tryz.ntmps177
  go_wp2_with fail
  refine hn.out.mono ?_
  rintro e w1 ⟨rfl,hb⟩
  replace hb:=hid hb
  go_wp2_with fail
  refine(hc.out _).mono ?_
  rintro e w2 ⟨rfl,rfl⟩
  go_wp2_with fail
  go_ret
  exact⟨ZR (by rw[hE.out];simp),hb.out⟩
 ·have hk:(((ZJ s:Nat):Int) == 0)=false:=by simpa using h0
  have hE2:Hid (Z2Q s=false):=hid (by rw[hE.out,decide_eq_false h0];rfl)
  clear h0 hE
  go_enter Tryz.func177,Tryz.ntmps177
  go_wp2_with fail
  refine hn.out.mono ?_
  rintro e w1 ⟨rfl,hb⟩
  replace hb:=hid hb
  go_wp2_with fail
  go_ret
  exact⟨ZR (by rw[hE2.out]),hb.out⟩
theorem Z2R (e:Nat) (w:World):Calls Tryz.prog 139 #[.bool false,.int .i64 (e:Int)] w fun en w'=>en=.returned (.tuple #[])∧w'=w:=by
 go_enter Tryz.func139,Tryz.ntmps139
 go_wp2_with fail
 go_end0
 exact⟨rfl,rfl⟩
def Z3i (w:World) (v:Value) (l:List ByteArray):Prop:=Z1c w v l∧∀ a n c,v=.slice (some a) n c→∃ cs,w.heap[a.block]?=some (.cells cs 9 (0,0))
theorem Z3i.of_own {w:World} {base:Nat} {v:Value} {l:List ByteArray} (h:w.ownsRow base 9 1 v l.length (l.map fun s=>Value.string s)):Z3i w v l:=by
 refine⟨Z1c.of_own h,?_⟩
 rintro a n c rfl
 rcases h.2 with ⟨h1,h2⟩ |⟨g,cap,cur,hv,hb,hg,r⟩
 ·cases h1
 ·cases hv
  exact⟨cur,hg⟩
theorem Zc0:ElemOk Tryz.prog 78 9 1 16:=Z2l Tryz.underlying78 Ze8 rfl (by decide)
theorem Z7M (v:Value) (l:List ByteArray) (w:World) (hv:Z1c w v l) (hl:l.length≤1000) :
  Calls Tryz.prog 179 #[v] w fun e w'=>∃ v',e=.returned v'∧Z3i w' v' l∧Below w.heap.size w w':=by
 obtain⟨a,c,rfl,g1,g2⟩:=hv.form
 unfold maxLen at g2
 have qT:=fun(w:World) (a:Option Addr) (n c n' c':Nat)=>Lib.run_eql_slice_nil (P:=Tryz.prog) w 78 9 a n c n' c' Tryz.underlying78
 cases a with
 | none =>
  have hc0:c=0:=by
   obtain⟨_,a',c',he,_,_,h3,_⟩:=hv
   cases he
   exact h3 rfl
  subst hc0
  have hl0:l=[]:=List.eq_nil_of_length_eq_zero (by omega)
  subst hl0
  simp only[List.length_nil]at *
  go_enter Tryz.func179,Tryz.ntmps179
  go_wp2_with fail
  go_ret
  exact⟨_,rfl,⟨Z1c.nil,fun _ _ _ h=>by cases h⟩,Below.refl _ _⟩
 | some ad =>
  have hbA:=(Below.refl w.heap.size w).alloc (Nat.le_refl _) (.cells #[] 9)
  have hvA:=hid (hv.below hbA)
  replace hv:=hid hv
  replace hbA:=hid hbA
  go_enter Tryz.func179,Tryz.ntmps179
  go_wp2_with (at_builtin;refine Z1C Zc0 _ rfl (.tmp 5) (.tmp 6) rfl w.heap.size _ 0 [] rfl (Z62 w _ _) _ l.length (l.map fun s=>Value.string s) rfl hvA.out (by intro u hu;simp at hu;obtain⟨s,_,rfl⟩:=hu;rfl) (by unfold maxLen;omega) (by omega) (by simp) ?_)
  intro a6 c6 w6 h6 g6
  have hB6:=hid (hbA.out.grown g6 (by simp) (fun j hj=>by cases hj;exact Nat.le_refl _))
  go_wp2_with fail
  go_ret
  (try simp only[Nat.zero_add]at h6)
  exact⟨_,rfl,Z3i.of_own h6,hB6.out⟩
end
section
open Go.RowKit
def UAt (w:World) (p:Nat) (us:List ByteArray):Prop :=
 ∃ uv,w.heap[p]?=some (.cells #[uv,.slice none 0 0] 211 (0,0))∧w.ownsRow (p+1) 9 1 uv us.length (us.map fun s=>Value.string s)
theorem UAt.tab {w:World} {p:Nat} {us:List ByteArray} (h:UAt w p us):Z2Z w p us []:=by
 obtain⟨uv,h1,h2⟩:=h
 exact⟨uv,_,h1,Z1c.of_own h2,Z15.nil.weak,fun _ h=>by cases h⟩
theorem UAt.below {w w':World} {p:Nat} {us:List ByteArray} (h:UAt w p us) (hb:Below w.heap.size w w'):UAt w' p us:=by
 obtain⟨uv,h1,h2⟩:=h
 exact⟨uv,(hb.block p (lt_of_block h1)).trans h1,Z2x h2 (fun j hj=>hb.block j (h2.lt j hj).2)⟩
set_option maxHeartbeats 800000 in
theorem Z8W (p:Nat) (us:List ByteArray) (s:ByteArray) (w:World) (h:UAt w p us) (hl:us.length≤1000) (hs:s.size≤maxLen) (hc:Z2Q s=true) (hn:Z5y us s=false) :
  Calls Tryz.prog 140 #[.pointer (some ⟨p,0,none⟩),.string s] w fun e w'=>e=.returned (.tuple #[])∧UAt w' p (us++[s])∧Below p w w':=by
 have hname:=hid (Z6d s w hs)
 rw[hc]at hname
 have hpl:p<w.heap.size:=by obtain⟨_,h1,_⟩:=h;exact lt_of_block h1
 replace h:=hid h
 replace hpl:=hid hpl
 replace hc:=hid hc
 go_enter Tryz.func140,Tryz.ntmps140
 go_wp2_with fail
 refine hname.out.mono ?_
 rintro e w1 ⟨rfl,hb1⟩
 have h1:=h.out.below hb1
 have hB1:=hid (hb1.mono (Nat.le_of_lt hpl.out))
 have hhas:=hid (Z5z p us [] s w1 h1.tab (by omega))
 rw[hn]at hhas
 have hm6:=hid (Z2R 6 w1)
 have hm7:=hid (Z2R 7 w1)
 replace h1:=hid h1
 clear hb1 hname
 go_wp2_with fail
 refine hm6.out.mono ?_
 rintro e w2 ⟨rfl,rfl⟩
 go_wp2_with fail
 refine hhas.out.mono ?_
 rintro e w3 ⟨rfl,rfl⟩
 go_wp2_with fail
 refine hm7.out.mono ?_
 rintro e w4 ⟨rfl,rfl⟩
 obtain⟨uv,hb,hown⟩:=h1.out
 have hA:=(Below.refl w4.heap.size w4).alloc (Nat.le_refl _) (.cells #[.string s] 9)
 have hownA:=hid (Z2x hown (fun j hj=>hA.block j (hown.lt j hj).2))
 have hsrc:Hid (Z15 (w4.alloc (.cells #[.string s] 9)) 1 (.slice (some ⟨w4.heap.size,0,none⟩) 1 1) 1 [.string s]):=hid (Z15.of_block (n:=1) (heap_alloc_new _ _) rfl (by unfold maxLen;omega))
 have e0:w4.cell? ⟨p,0,none⟩=some uv:=Z0 hb 0
 have hplt:=lt_of_block hb
 have hbA:=hid ((hA.block p hplt).trans hb)
 have hneq:=hid (show some p≠uv.ownBlock from fun e=>by have:=(hown.lt _ e.symm).1;omega)
 have hvl:=hid hown.lt
 have hBA:=hid (hB1.out.trans (hA.mono (Nat.le_of_lt hplt)))
 replace hb:=hid hb
 replace hown:=hid hown
 replace hA:=hid hA
 clear hm6 hm7 hhas h1 h hB1
 go_wp2_with (at_builtin;refine Z1q Zc0 _ rfl (.tmp 16) (.tmp 18) rfl (p+1) uv us.length _ rfl hownA.out _ 1 [.string s] rfl hsrc.out (by intro u hu;simp at hu;subst hu;rfl) (by unfold maxLen;omega) (by omega) (by simp;omega) ?_)
 intro a' c' w' h2 h3
 have hb':=(h3.block p (by simp;omega) hneq.out).trans hbA.out
 have f0:w'.frozen? ⟨p,0,none⟩=false:=Zb hb' 0
 have e0':w'.cell? ⟨p,0,none⟩=some uv:=Z0 hb' 0
 have hset:=hid (Zg hb' 0 (.slice a' (us.length+1) c'))
 have hown2:=hid (ownsRow_setCell_below h2 (a:=⟨p,0,none⟩) (by show p<p+1;omega) (.slice a' (us.length+1) c'))
 have hbl2:Hid (Below p w (w'.setCell ⟨p,0,none⟩ (.slice a' (us.length+1) c'))):=hid ((hBA.out.grown h3 (by simp;omega) (fun j hj=>by have:=(hvl.out j hj).1;omega)).setCell (Nat.le_refl _) _)
 replace hb':=hid hb'
 clear h2 h3
 go_wp2_with fail
 go_end0
 refine⟨rfl,⟨_,hset.out,?_⟩,hbl2.out⟩
 have h:=hown2.out
 rw[show(us++[s]).length=us.length+1 by simp,show(us++[s]).map (fun s=>Value.string s)=us.map (fun s=>Value.string s)++[.string s] by simp]
 exact h
end
section
open Go.RowKit
theorem Z3i.keep {w w':World} {v:Value} {l:List ByteArray} (h:Z3i w v l) (hk : ∀ (b:Nat) (cs:Array Value),w.heap[b]?=some (Obj.cells cs 9 (0,0))→w'.heap[b]?=w.heap[b]?) (hz:w.heap.size≤w'.heap.size):Z3i w' v l:=by
 obtain⟨⟨hl,a,c,hv,h1,h2,h3,h4⟩,hb⟩:=h
 refine⟨⟨hl,a,c,hv,h1,h2,h3,fun i u hu=>?_⟩,fun ad n c' hv'=>?_⟩
 ·obtain⟨b,o,ha,hc⟩:=h4 i u hu
  subst ha
  obtain⟨cs,hcs⟩:=hb _ _ _ hv
  exact⟨b,o,rfl,by simpa[World.cell?,hk b cs hcs] using hc⟩
 ·obtain⟨cs,hcs⟩:=hb _ _ _ hv'
  exact⟨cs,(hk _ _ hcs).trans hcs⟩
def ZdC (w:World) (p:Nat) (uv gv:Value) (us:List ByteArray) (gs:List Grp):Prop :=
 w.heap[p]?=some (.cells #[uv,gv] 211 (0,0))∧Z3i w uv us∧w.ownsRow (p+1) 154 2 gv gs.length (gs.flatMap Grp.cells)∧∀ g∈gs,Z3i w g.mv g.mem
def GAt (w:World) (p:Nat) (us:List ByteArray) (gs:List Grp):Prop:=∃ uv gv,ZdC w p uv gv us gs
theorem GAt.tab {w:World} {p:Nat} {us:List ByteArray} {gs:List Grp} (h:GAt w p us gs):Z2Z w p us gs:=by
 obtain⟨uv,gv,h1,h2,h3,h4⟩:=h
 exact⟨uv,gv,h1,h2.1,(Z15.of_own h3).weak,fun g hg=>(h4 g hg).1⟩
theorem ZdC.below {w w':World} {p:Nat} {uv gv:Value} {us:List ByteArray} {gs:List Grp} (h:ZdC w p uv gv us gs) (hb:Below w.heap.size w w'):ZdC w' p uv gv us gs:=by
 obtain⟨h1,h2,h3,h4⟩:=h
 have hk : ∀ (b:Nat) (cs:Array Value),w.heap[b]?=some (Obj.cells cs 9 (0,0))→w'.heap[b]?=w.heap[b]?:=fun b cs h=>hb.block b (lt_of_block h)
 exact⟨(hb.block p (lt_of_block h1)).trans h1,h2.keep hk hb.size,Z2x h3 (fun j hj=>hb.block j (h3.lt j hj).2),fun g hg=>(h4 g hg).keep hk hb.size⟩
theorem Z7N (x:Grp) (bx:Nat) (nm:ByteArray) (v:Value) (w:World) (h1:w.heap[bx]?=some (.cells #[.string nm,v] 154 (0,0))) :
  Calls Tryz.prog 178 #[.agg #[.string x.name,x.mv],.pointer (some ⟨bx,0,none⟩)] w fun e w'=>e=.returned (.bool (decide (x.name=nm)))∧Below w.heap.size w w':=by
 have hb0:=(Below.refl w.heap.size w).alloc (Nat.le_refl _) (.cells #[.string x.name,x.mv] 154)
 have c1:(w.alloc (.cells #[.string x.name,x.mv] 154)).cell? ⟨bx,0,none⟩=some (.string nm):=Z0 ((hb0.block bx (lt_of_block h1)).trans h1) 0
 have hq:=hid (Z3l x.name nm)
 replace hb0:=hid hb0
 replace h1:=hid h1
 by_cases hn:x.name=nm
 ·have hq2:(x.name.toList == nm.toList)=true:=by rw[hq.out];exact decide_eq_true hn
  have hr:=hid (decide_eq_true hn)
  clear hn
  go_enter Tryz.func178,Tryz.ntmps178
  go_wp2_with fail
  go_ret
  exact⟨ZR (by rw[hr.out]),hb0.out⟩
 ·have hq2:(x.name.toList == nm.toList)=false:=by rw[hq.out];exact decide_eq_false hn
  have hr:=hid (decide_eq_false hn)
  clear hn
  go_enter Tryz.func178,Tryz.ntmps178
  go_wp2_with fail
  go_ret
  exact⟨ZR (by rw[hr.out]),hb0.out⟩
structure GOk (us:List ByteArray) (gs:List Grp) (g:Grp):Prop where
 name:Z2Q g.name=true
 new:gs.any (fun x=>decide (x.name=g.name))=false
 mems : ∀ k (h:k<g.mem.length),k<g.mem.length→Z5y us g.mem[k]=true∧Z5y (g.mem.take k) g.mem[k]=false
theorem Zct:(Tryz.prog.info? 154).map (fun i=>(i.zero,i.size,i.bytes))=some (some (.agg #[.string ⟨#[]⟩,.slice none 0 0]),2,40):=by kernel_rfl
theorem Z8X:ElemOk Tryz.prog 151 154 2 40:=Z2l Tryz.underlying151 Zct rfl (by decide)
structure GMid (wD wA:World) (p s:Nat) (uv gv:Value) (us:List ByteArray) (gs:List Grp) (nm:ByteArray) (v:Value) (mem:List ByteArray):Prop where
 blk:wA.heap[p]?=some (.cells #[uv,gv] 211 (0,0))
 users:Z3i wA uv us
 own:wA.ownsRow (p+1) 154 2 gv gs.length (gs.flatMap Grp.cells)
 mems : ∀ g∈gs,Z3i wA g.mv g.mem
 new:Z3i wA v mem
 src:Z15 wA 2 (.slice (some ⟨s,0,none⟩) 1 1) 1 [.string nm,v]
 below:Below p wD wA
theorem Zcu {w0 wD wm:World} {p:Nat} {uv gv v:Value} {us:List ByteArray} {gs:List Grp} {nm:ByteArray} {mem:List ByteArray}
  (q1:wD.heap[p]?=some (.cells #[uv,gv] 211 (0,0))) (q2:Z3i wD uv us) (q3:wD.ownsRow (p+1) 154 2 gv gs.length (gs.flatMap Grp.cells)) (q4 : ∀ g∈gs,Z3i wD g.mv g.mem)
  (hbm:Below wD.heap.size wD wm) (hv:Z3i wm v mem) (hB:Below p w0 wD):GMid w0 (wm.alloc (.cells #[.string nm,v] 154)) p wm.heap.size uv gv us gs nm v mem:=by
 have hA:=(Below.refl wm.heap.size wm).alloc (Nat.le_refl _) (.cells #[.string nm,v] 154)
 have hbA:Below wD.heap.size wD (wm.alloc (.cells #[.string nm,v] 154)):=hbm.trans (hA.mono hbm.size)
 have hk : ∀ (b:Nat) (cs:Array Value),wD.heap[b]?=some (Obj.cells cs 9 (0,0))→(wm.alloc (.cells #[.string nm,v] 154)).heap[b]?=wD.heap[b]?:=fun b cs h=>hbA.block b (lt_of_block h)
 exact⟨(hbA.block p (lt_of_block q1)).trans q1,q2.keep hk hbA.size,Z2x q3 (fun j hj=>hbA.block j (q3.lt j hj).2),fun g hg=>(q4 g hg).keep hk hbA.size,
  hv.keep (fun b cs h=>hA.block b (lt_of_block h)) hA.size,Z15.of_block (n:=1) (heap_alloc_new _ _) rfl (by unfold maxLen;omega),hB.trans (hbA.mono (Nat.le_of_lt (lt_of_block q1)))⟩
theorem ZaF {wD wA w':World} {p s:Nat} {uv gv v:Value} {us:List ByteArray} {gs:List Grp} {nm:ByteArray} {mem:List ByteArray} {a':Option Addr} {c':Nat}
  (h:GMid wD wA p s uv gv us gs nm v mem) (h2:w'.ownsRow (p+1) 154 2 (.slice a' (gs.length+1) c') (gs.length+1) (gs.flatMap Grp.cells++[.string nm,v])) (h3:wA.grownBy w' gv.ownBlock) :
  w'.cell? ⟨p,1,none⟩=some gv∧w'.frozen? ⟨p,1,none⟩=false∧GAt (w'.setCell ⟨p,1,none⟩ (.slice a' (gs.length+1) c')) p us (gs++[⟨nm,v,mem⟩])∧Below p wD (w'.setCell ⟨p,1,none⟩ (.slice a' (gs.length+1) c')):=by
 have hpA:=lt_of_block h.blk
 have hneq:some p≠gv.ownBlock:=fun e=>by have:=(h.own.lt _ e.symm).1;omega
 have hb':=(h3.block p hpA hneq).trans h.blk
 have hset:=Zg hb' 1 (.slice a' (gs.length+1) c')
 have hk : ∀ (b:Nat) (cs:Array Value),wA.heap[b]?=some (Obj.cells cs 9 (0,0))→(w'.setCell ⟨p,1,none⟩ (.slice a' (gs.length+1) c')).heap[b]?=wA.heap[b]?:=fun b cs hb=>by
  have hbp:b≠p:=fun e=>by
   subst e
   rw[h.blk]at hb
   simp at hb
  have hbg:some b≠gv.ownBlock:=fun e=>by
   rcases h.own.2 with ⟨e1,e2⟩ |⟨g,cap,cur,hv,hg1,hg2,r⟩
   ·rw[e1]at e;cases e
   ·rw[hv]at e
    cases e
    rw[hg2]at hb
    simp at hb
  exact(Z1 (by show _≠_;exact hbp)).trans (h3.block b (lt_of_block hb) hbg)
 have hz:wA.heap.size≤(w'.setCell ⟨p,1,none⟩ (.slice a' (gs.length+1) c')).heap.size:=by have:=h3.size;simpa[World.setCell] using this
 refine⟨Z0 hb' 1,Zb hb' 1,⟨uv,_,hset,h.users.keep hk hz,?_,?_⟩,(h.below.grown h3 (Nat.le_of_lt hpA) (fun j hj=>by have:=(h.own.lt j hj).1;omega)).setCell (Nat.le_refl _) _⟩
 ·have:=ownsRow_setCell_below h2 (a:=⟨p,1,none⟩) (by show p<p+1;omega) (.slice a' (gs.length+1) c')
  rw[show(gs++[(⟨nm,v,mem⟩:Grp)]).length=gs.length+1 by simp,show(gs++[(⟨nm,v,mem⟩:Grp)]).flatMap Grp.cells=gs.flatMap Grp.cells++[.string nm,v] by simp[Grp.cells]]
  exact this
 ·intro x hx
  rcases List.mem_append.1 hx with hx | hx
  ·exact(h.mems x hx).keep hk hz
  ·simp only[List.mem_singleton]at hx
   subst hx
   exact h.new.keep hk hz
set_option maxHeartbeats 3200000 in
theorem Z7O (p:Nat) (us:List ByteArray) (gs:List Grp) (g:Grp) (w:World) (h:GAt w p us gs) (hm:Z1c w g.mv g.mem) (hlu:us.length≤1000) (hlg:gs.length≤1000) (hlm:g.mem.length≤1000) (hs:g.name.size≤maxLen) (hok:GOk us gs g) :
  Calls Tryz.prog 141 #[.pointer (some ⟨p,0,none⟩),.agg #[.string g.name,g.mv]] w fun e w'=>e=.returned (.tuple #[])∧(∃ v,GAt w' p us (gs++[⟨g.name,v,g.mem⟩]))∧Below p w w':=by
 obtain⟨uv,gv,h⟩:=h
 have hpl:p<w.heap.size:=lt_of_block h.1
 have hgl:Hid (∀ j,gv.ownBlock=some j→j<w.heap.size):=hid (fun j hj=>(h.2.2.1.lt j hj).2)
 have hbW:=(Below.refl w.heap.size w).alloc (Nat.le_refl _) (.cells #[.string g.name,g.mv] 154)
 obtain⟨W,hW⟩ : ∃ W,W=w.alloc (.cells #[.string g.name,g.mv] 154):=⟨_,rfl⟩
 have hx:W.heap[w.heap.size]?=some (.cells #[.string g.name,g.mv] 154 (0,0)):=by rw[hW,heap_alloc_new]
 rw[←hW]at hbW
 have hW1:=h.below hbW
 have hmW:=hid (hm.below hbW)
 have hname:=hid (Z6d g.name W hs)
 rw[hok.name]at hname
 have hmf : ∀ (fn:Fn) (first cap:Array Value) (w:World),(Instr.makeFunc fn first cap).run Tryz.prog w=.ok (.func fn first cap) w:=fun _ _ _ _=>rfl
 have d0:W.cell? ⟨w.heap.size,0,none⟩=some (.string g.name):=Z0 hx 0
 have hBp:Hid (Below p w W):=hid (hbW.mono (Nat.le_of_lt hpl))
 obtain⟨am,cm,hmv,gm1,gm2⟩:=hm.form
 unfold maxLen at gm2
 have hzW:w.heap.size<W.heap.size:=lt_of_block hx
 replace hW1:=hid hW1
 replace hbW:=hid hbW
 replace hx:=hid hx
 replace hok:=hid hok
 replace hmv:=hid hmv
 replace hpl:=hid hpl
 replace hzW:=hid hzW
 clear h hm
 go_enter Tryz.func141,Tryz.ntmps141
 go_wp2_with (rw[←hW];replace hW:=hid hW)
 refine hname.out.mono ?_
 rintro e w1 ⟨rfl,hb1⟩
 have hW2:=hW1.out.below hb1
 have hm2:=hmW.out.below hb1
 have hx2:=(hb1.block _ hzW.out).trans hx.out
 have hBp2:=hid (hBp.out.trans (hb1.mono (Nat.le_of_lt (Nat.lt_trans hpl.out hzW.out))))
 have hm6:=hid (Z2R 6 w1)
 obtain⟨q1,q2,q3,q4⟩:=hW2
 have d1:w1.cell? ⟨p,1,none⟩=some gv:=Z0 q1 1
 have hcf:=hid (Z6b gv gs 178 #[.pointer (some ⟨w.heap.size,0,none⟩)] (fun x=>decide (x.name=g.name)) w1 ⟨(Z15.of_own q3).weak,fun g hg=>(q4 g hg).1⟩ (by omega)
  (fun x hx w' hw=>Z7N x w.heap.size g.name g.mv w' ((hw.block _ (lt_of_block hx2)).trans hx2)) Z6c)
 rw[hok.out.new]at hcf
 have hW2:Hid (ZdC w1 p uv gv us gs):=hid ⟨q1,q2,q3,q4⟩
 replace hm2:=hid hm2
 replace hx2:=hid hx2
 clear q1 q2 q3 q4 hb1 hmW hW1 hname
 go_wp2_with fail
 refine hm6.out.mono ?_
 rintro e w2 ⟨rfl,rfl⟩
 go_wp2_with fail
 refine hcf.out.mono ?_
 rintro e w3 ⟨rfl,hb3⟩
 have hm7:=hid (Z2R 7 w3)
 have hW3:=hid (hW2.out.below hb3)
 have hm3:=hid (hm2.out.below hb3)
 have hx3:=hid ((hb3.block _ (lt_of_block hx2.out)).trans hx2.out)
 have hBp3:=hid (hBp2.out.trans (hb3.mono (Nat.le_of_lt (Nat.lt_of_lt_of_le (Nat.lt_trans hpl.out (lt_of_block hx2.out)) (Nat.le_refl _)))))
 have e0:w3.cell? ⟨w.heap.size,0,none⟩=some (.string g.name):=Z0 hx3.out 0
 have e1:w3.cell? ⟨w.heap.size,1,none⟩=some (.slice am g.mem.length cm):=by have:=Z0 hx3.out 1;rw[this];simp[hmv.out]
 rw[hmv.out]at hm3
 clear hb3 hcf hW2 hm2 hx2 hBp2 d1 d0 hm6 hmf
 go_wp2_with fail
 refine hm7.out.mono ?_
 rintro e w4 ⟨rfl,rfl⟩
 go_wp2_with fail
 go_loopw [21] (fun kv wr=>∃ k:Nat,k≤g.mem.length∧kv=.int .i64 (k:Int)∧wr=w4) (fun kv _=>g.mem.length - (intOf kv).toNat)
 case atStart=>exact⟨0,by omega,rfl,rfl⟩
 case round =>
  obtain⟨k,hk,rfl,rfl⟩:=hrel
  by_cases hkl:k<g.mem.length
  ·obtain⟨b1,o1,ha1,hc1⟩:=Z1c.cell hm3.out k hkl
   subst ha1
   obtain⟨t1,t2⟩:=hok.out.mems k hkl hkl
   have hhas:=hid (Z5z p us gs g.mem[k] wr (GAt.tab ⟨uv,gv,hW3.out⟩) (by omega))
   rw[t1]at hhas
   have hcon:=hid (Z2P (.slice (some ⟨b1,o1,none⟩) k cm) (g.mem.take k) g.mem[k] wr (hm3.out.take k cm (by omega) (by omega) (Nat.le_refl _)) (by rw[List.length_take];omega))
   rw[t2]at hcon
   have n6:=hid (Z2R 6 wr)
   have n7:=hid (Z2R 7 wr)
   replace t1:=hid t1
   replace t2:=hid t2
   generalize hs1:g.mem[k]=s1 at *
   replace hs1:=hid hs1
   go_wp2_with fail
   refine hhas.out.mono ?_
   rintro e w5 ⟨rfl,rfl⟩
   go_wp2_with fail
   refine n6.out.mono ?_
   rintro e w6 ⟨rfl,rfl⟩
   go_wp2_with fail
   refine hcon.out.mono ?_
   rintro e w7 ⟨rfl,rfl⟩
   go_wp2_with fail
   refine n7.out.mono ?_
   rintro e w8 ⟨rfl,rfl⟩
   go_wp2_with fail
   go_roundw
   case rel=>exact⟨k+1,by omega,by go_num,by first | rfl | trivial⟩
   case measure=>simp[intOf];omega
  ·obtain rfl:k=g.mem.length:=by omega
   clear hok hm7 hW hbW hpl hzW hBp hx
   have hbd:=(Below.refl wr.heap.size wr).drew
   have hG:=hW3.out.below hbd
   have hM:=hm3.out.below hbd
   have hBd:=hBp3.out.drew
   obtain⟨q1,q2,q3,q4⟩:=hG
   obtain⟨ag,cg,rfl⟩:=Z1V q3
   have s1:wr.drew.cell? ⟨p,1,none⟩=some (.slice ag gs.length cg):=Z0 q1 1
   have s2:wr.drew.cell? ⟨w.heap.size,0,none⟩=some (.string g.name):=e0
   have s3:wr.drew.cell? ⟨w.heap.size,1,none⟩=some (.slice am g.mem.length cm):=e1
   replace q1:=hid q1
   replace q2:=hid q2
   replace q3:=hid q3
   replace q4:=hid q4
   replace hM:=hid hM
   replace hBd:=hid hBd
   have hx3':Hid (wr.drew.heap[w.heap.size]?=some (.cells #[.string g.name,g.mv] 154 (0,0))):=hx3
   clear hW3 hm3 hBp3
   go_wp2_with fail
   go_region_law (first |(refine Z1W Z8X _ rfl (.tmp 43) (.tmp 50) rfl (p+1) (.slice ag gs.length cg) gs.length _ rfl hmid.out.own _ 1 [.string g.name,.slice a9 g.mem.length c9] rfl hmid.out.src (by intro u hu;simp at hu;rcases hu with rfl | rfl <;> rfl) (by unfold maxLen;omega) (by omega) (by have:=lt_of_block hmid.out.blk;omega) ?_;intro a' c' w' h2 h3;obtain⟨k2,k3,k4,k5⟩:=ZaF hmid.out h2 h3;replace k4:=hid k4;replace k5:=hid k5) |(go_simp;((go_at_call 179);(with_reducible refine(Z7M _ _ _ hM.out hlm).mono ?_);rintro e wm ⟨v',rfl,hv',hbm⟩;obtain⟨a9,c9,rfl,g91,g92⟩:=hv'.1.form;have hmid:=hid (Zcu (nm:=g.name) q1.out q2.out q3.out q4.out hbm hv' hBd.out);have k1:(wm.alloc (.cells #[.string g.name,.slice a9 g.mem.length c9] 154)).cell? ⟨p,1,none⟩=some (.slice ag gs.length cg):=Z0 hmid.out.blk 1;replace s1:=(hbm.cell (p:=⟨p,1,none⟩) (lt_of_block q1.out)).trans s1;replace s2:=(hbm.cell (p:=⟨w.heap.size,0,none⟩) (lt_of_block hx3'.out)).trans s2;replace s3:=(hbm.cell (p:=⟨w.heap.size,1,none⟩) (lt_of_block hx3'.out)).trans s3)))
   all_goals
    clear s1 s2 s3 k1 k2 k3 h2 h3 hbm hv' hmid q1 q2 q3 q4 hM hBd hx3' hx3 e0 e1 hbd
    go_wp2_with fail
    go_end0
    exact⟨rfl,⟨_,k4.out⟩,k5.out⟩
end
section
open Go.RowKit
structure UOk (us:List ByteArray) (gs:List Grp):Prop where
 nu:us.length≤32
 ng:gs.length≤32
 users : ∀ k (h:k<us.length),k<us.length→Z2Q us[k]=true∧Z5y (us.take k) us[k]=false
 groups : ∀ k (h:k<gs.length),k<gs.length→GOk us (gs.take k) gs[k]
def Z1U (gs gs':List Grp):Prop:=gs.map (fun g=>(g.name,g.mem))=gs'.map (fun g=>(g.name,g.mem))
theorem Z1U.length {gs gs':List Grp} (h:Z1U gs gs'):gs.length=gs'.length:=by simpa using congrArg List.length h
theorem Z1U.any {gs gs':List Grp} (h:Z1U gs gs') (p:ByteArray×List ByteArray→Bool):gs.any (fun g=>p (g.name,g.mem))=gs'.any (fun g=>p (g.name,g.mem)):=by
 have e : ∀ l:List Grp,l.any (fun g=>p (g.name,g.mem))=(l.map (fun g=>(g.name,g.mem))).any p:=fun l=>by rw[List.any_map];rfl
 rw[e,e,h]
theorem Z1U.inB {gs gs':List Grp} (h:Z1U gs gs') (us:List ByteArray) (who grp:ByteArray):inB us gs who grp=inB us gs' who grp:=by
 unfold Go.Proofs.YtkefjeabckainaaGreat.inB
 rw[show gs.any (Zdq grp who)=gs'.any (Zdq grp who) from h.any (fun x=>decide (x.1=grp) && Z5y x.2 who)]
theorem Z1U.snoc {gs gs':List Grp} (h:Z1U gs gs') (g:Grp) (v:Value):Z1U (gs++[g]) (gs'++[⟨g.name,v,g.mem⟩]):=by
 unfold Z1U at *
 simp[h]
theorem Z4B {s:ByteArray} (h:Z2Q s=true):s.size≤maxLen:=by
 unfold Z2Q at h
 simp only[Bool.and_eq_true,decide_eq_true_eq]at h
 have h2:=h.2
 rw[Z6J]at h2
 unfold maxLen
 split at h2
 ·omega
 ·split at h2
  ·omega
  ·split at h2 <;> omega
theorem Z6e (t k:Nat) (w:World) :
  CallsD Tryz.prog 138 #[.pointer (some ⟨t,0,none⟩),.pointer (some ⟨k,0,none⟩)] .returning w fun en u' w'=>en=.returned (.tuple #[])∧u'=.returning∧w=w':=by
 refine callsD_of_wpS Tryz.func138 rfl fun c₀ cs hu=>?_
 apply wpS_seq
 apply wpS_region
 simp[wpOpsS,go_sem,recoverD,hu,Tryz.ntmps138,Exit.thenS,Array.replicate_succ]
 rw[show c₀={c₀ with mode:=.returning} from by cases c₀;simp_all]
 apply Z3v
 go_wp2
 go_end0
 exact⟨rfl,rfl⟩
theorem Z6L {tmps:Array Value} {w:World} {t k:Nat} {v:Value} {e:Int} (h2:tmps.getD 4 undef=.pointer (some ⟨t,0,none⟩)) (h4:tmps.getD 5 undef=.pointer (some ⟨k,0,none⟩))
  (h1:w.cell? ⟨t,0,none⟩=some v) (h3:w.cell? ⟨k,0,none⟩=some (.int .i64 e)):(results Tryz.f85 tmps).run Tryz.prog w=.ok (.tuple #[v,.int .i64 e]) w:=by
 have h2':tmps[4]?.getD undef=.pointer (some ⟨t,0,none⟩):=by simpa using h2
 have h4':tmps[5]?.getD undef=.pointer (some ⟨k,0,none⟩):=by simpa using h4
 have htv:(loadVar 76 ⟨t,0,none⟩).run Tryz.prog w=.ok v w:=by simp[go_sem,h1]
 have hkv:(loadVar 33 ⟨k,0,none⟩).run Tryz.prog w=.ok (.int .i64 e) w:=by simp[go_sem,h3]
 simp[results,Tryz.results85,h2',h4',asAddr,htv,hkv]
theorem GAt.store {w:World} {p:Nat} {us:List ByteArray} {gs:List Grp} (h:GAt w p us gs) (a:Addr) (u:Value) (ha:a.block<p) (hne : ∀ cs,w.heap[a.block]?≠some (Obj.cells cs 9 (0,0))):GAt (w.setCell a u) p us gs:=by
 obtain⟨uv,gv,h1,h2,h3,h4⟩:=h
 have hk : ∀ (b:Nat) (cs:Array Value),w.heap[b]?=some (Obj.cells cs 9 (0,0))→(w.setCell a u).heap[b]?=w.heap[b]?:=fun b cs hb=>Z1 (fun e=>hne cs (e ▸ hb))
 have hz:w.heap.size≤(w.setCell a u).heap.size:=by simp[World.setCell]
 exact⟨uv,gv,(Z1 (by omega)).trans h1,h2.keep hk hz,ownsRow_setCell_below h3 (by omega) u,fun g hg=>(h4 g hg).keep hk hz⟩
def Zcv (w:World) (us:List ByteArray) (gs:List Grp) (e:Ending) (w':World):Prop :=
 ∃ p gs',e=.returned (.tuple #[.pointer (some ⟨p,0,none⟩),.int .i64 0])∧Z2Z w' p us gs'∧Z1U gs gs'∧Below w.heap.size w w'
set_option maxHeartbeats 3200000 in
theorem ZaG (uv gv:Value) (us:List ByteArray) (gs:List Grp) (w:World) (h2:Z1c w uv us) (h3:Z1Y w gv gs) (hok:UOk us gs) (hlm : ∀ g∈gs,g.mem.length≤1000) :
  Calls Tryz.prog 85 #[uv,gv] w (Zcv w us gs):=by
 obtain⟨au,cu,rfl,gu1,gu2⟩:=h2.form
 obtain⟨ag,cg,rfl,gg1,gg2⟩:=h3.form
 unfold maxLen at gu2 gg2
 have hnu:=hok.nu
 have hng:=hok.ng
 replace hok:=hid hok
 replace h2:=hid h2
 replace h3:=hid h3
 replace hlm:=hid hlm
 have knu:decide ((32:Int)<(us.length:Int))=false:=by simp;omega
 have kng:decide ((32:Int)<(gs.length:Int))=false:=by simp;omega
 have hm:=hid (fun W=>Z2R 3 W)
 obtain⟨W2,hW2⟩ : ∃ W,W=((w.alloc (.cells #[.pointer none] 76)).alloc (.cells #[.int .i64 0] 33)).alloc (.cells #[.slice none 0 0,.slice none 0 0] 211):=⟨_,rfl⟩
 have hB2:Below w.heap.size w W2:=by rw[hW2];exact(((Below.refl w.heap.size w).alloc (Nat.le_refl _) _).alloc (by simp) _).alloc (by simp;omega) _
 have hz2:W2.heap.size=w.heap.size+3:=by rw[hW2];simp
 have ht:W2.heap[w.heap.size]?=some (.cells #[.pointer none] 76 (0,0)):=by
  rw[hW2,heap_alloc_old _ _ (by simp;omega),heap_alloc_old _ _ (by simp),heap_alloc_new]
 have hk:W2.heap[w.heap.size+1]?=some (.cells #[.int .i64 0] 33 (0,0)):=by
  have:=heap_alloc_new (w.alloc (.cells #[.pointer none] 76)) (.cells #[.int .i64 0] 33)
  rw[hW2,heap_alloc_old _ _ (by simp)]
  simpa using this
 have hp:W2.heap[w.heap.size+2]?=some (.cells #[.slice none 0 0,.slice none 0 0] 211 (0,0)):=by
  have:=heap_alloc_new ((w.alloc (.cells #[.pointer none] 76)).alloc (.cells #[.int .i64 0] 33)) (.cells #[.slice none 0 0,.slice none 0 0] 211)
  rw[hW2]
  simpa using this
 have hU0:Hid (UAt W2 (w.heap.size+2) []):=hid ⟨_,hp,World.ownsRow_nil _ _ _ _⟩
 replace hB2:=hid hB2
 replace ht:=hid ht
 replace hk:=hid hk
 replace hp:=hid hp
 replace hz2:=hid hz2
 go_enter_defers Tryz.func85,Tryz.ntmps85
 go_wp2_with fail
 refine(hm.out _).mono ?_
 rintro e w1 ⟨rfl,rfl⟩
 go_wp2_with fail
 rw[←hW2]
 replace hW2:=hid hW2
 rw[show w.heap.size+1+1=w.heap.size+2 from rfl]
 go_loopw [24] (fun kv wr=>∃ k:Nat,k≤us.length∧kv=.int .i64 (k:Int)∧Hid (UAt wr (w.heap.size+2) (us.take k))∧Hid (Below (w.heap.size+2) W2 wr)) (fun kv _=>us.length - (intOf kv).toNat)
 case atStart=>exact⟨0,by omega,rfl,hU0,hid (Below.refl _ _)⟩
 case round =>
  obtain⟨k,hk1,rfl,hU,hB⟩:=hrel
  have hBw:=hid (hB2.out.trans (hB.out.mono (by omega)))
  by_cases hkl:k<us.length
  ·obtain⟨b1,o1,ha1,hc1⟩:=Z1c.cell (h2.out.below hBw.out) k hkl
   subst ha1
   obtain⟨u1,u2⟩:=hok.out.users k hkl hkl
   have htu:=hid (Z8W (w.heap.size+2) (us.take k) us[k] wr hU.out (by rw[List.length_take];omega) (Z4B u1) u1 u2)
   replace u1:=hid u1
   replace u2:=hid u2
   generalize hs1:us[k]=s1 at *
   replace hs1:=hid hs1
   go_wp2_with fail
   refine htu.out.mono ?_
   rintro e w5 ⟨rfl,hU5,hB5⟩
   have hU6:=hid hU5
   have hB6:=hid (hB.out.trans hB5)
   clear hU5 hB5 htu
   go_wp2_with fail
   go_roundw
   case rel=>exact⟨k+1,by omega,by go_num,hid (by rw[List.take_succ_eq_append_getElem hkl,hs1.out];exact hU6.out),hB6⟩
   case measure=>simp[intOf];omega
  ·obtain rfl:k=us.length:=by omega
   rw[List.take_length]at hU
   obtain⟨uv,x1,x2⟩:=hU.out
   have hG0:Hid (GAt wr (w.heap.size+2) us []):=hid ⟨uv,_,x1,Z3i.of_own x2,World.ownsRow_nil _ _ _ _,fun g hg=>by cases hg⟩
   clear x1 x2 hU hBw
   go_wp2_with fail
   go_loopw [34] (fun kv wx=>∃ (k:Nat) (gs':List Grp),k≤gs.length∧kv=.int .i64 (k:Int)∧Hid (GAt wx (w.heap.size+2) us gs')∧Hid (Z1U (gs.take k) gs')∧Hid (Below (w.heap.size+2) W2 wx)) (fun kv _=>gs.length - (intOf kv).toNat)
   case atStart=>exact⟨0,[],by omega,rfl,hG0,hid rfl,hB⟩
   case round =>
    obtain⟨k,gs',hk2,rfl,hG,hS,hB⟩:=hrel
    have hBw:=hid (hB2.out.trans (hB.out.mono (by omega)))
    by_cases hkl:k<gs.length
    ·obtain⟨b1,o1,ha1,hc1,hc2,hm1⟩:=Z1Y.cell (h3.out.below hBw.out) k hkl
     subst ha1
     have hgl:gs'.length=k:=by
      have:=hS.out.length
      rw[List.length_take]at this
      omega
     have hgo:=hok.out.groups k hkl hkl
     have hgo':Hid (GOk us gs' gs[k]):=hid ⟨hgo.name,by rw[←hS.out.any (fun x=>decide (x.1=gs[k].name))];exact hgo.new,hgo.mems⟩
     have hlk:=hlm.out gs[k] (List.getElem_mem hkl)
     have hS2:=hid (hS.out.snoc gs[k])
     replace hm1:=hid hm1
     replace hgo:=hid hgo
     generalize hg1:gs[k]=g at *
     replace hg1:=hid hg1
     obtain⟨nm,mv,mem⟩:=g
     simp only at hc1 hc2 hm1 hlk
     obtain⟨am,cm,rfl,gm1,gm2⟩:=hm1.out.form
     have hbA:=(Below.refl wr.heap.size wr).alloc (Nat.le_refl _) (.cells #[.string nm,.slice am mem.length cm] 154)
     have htg:=hid (Z7O (w.heap.size+2) us gs' ⟨nm,.slice am mem.length cm,mem⟩ _ (by obtain⟨uv,gv,hh⟩:=hG.out;exact⟨uv,gv,hh.below hbA⟩) (hm1.out.below hbA) (by omega) (by omega) hlk (Z4B hgo.out.name) hgo'.out)
     have hB3:=hid (hB.out.trans (hbA.mono (by have:=hB.out.size;have:=hz2.out;omega)))
     replace hbA:=hid hbA
     clear gm1 gm2
     go_wp2_with fail
     refine htg.out.mono ?_
     rintro e w5 ⟨rfl,⟨v5,hG5⟩,hB5⟩
     have hG6:=hid hG5
     have hB6:=hid (hB3.out.trans hB5)
     clear hG5 hB5 htg hB3
     go_wp2_with fail
     go_roundw
     case rel=>exact⟨k+1,_,by omega,by go_num,hG6,hid (by rw[List.take_succ_eq_append_getElem hkl,hg1.out];exact hS2.out v5),hB6⟩
     case measure=>simp[intOf];omega
    ·obtain rfl:k=gs.length:=by omega
     rw[List.take_length]at hS
     have hbt:=(hB.out.block w.heap.size (by omega)).trans ht.out
     have hbk:=(hB.out.block (w.heap.size+1) (by omega)).trans hk.out
     have c1:wr.cell? ⟨w.heap.size,0,none⟩=some (.pointer none):=Z0 hbt 0
     have f1:wr.frozen? ⟨w.heap.size,0,none⟩=false:=Zb hbt 0
     have hbk2:=(Z1 (p:=⟨w.heap.size,0,none⟩) (u:=.pointer (some ⟨w.heap.size+2,0,none⟩)) (by show _≠_;simp)).trans hbk
     have c2:(wr.setCell ⟨w.heap.size,0,none⟩ (.pointer (some ⟨w.heap.size+2,0,none⟩))).cell? ⟨w.heap.size+1,0,none⟩=some (.int .i64 0):=Z0 hbk2 0
     have f2:(wr.setCell ⟨w.heap.size,0,none⟩ (.pointer (some ⟨w.heap.size+2,0,none⟩))).frozen? ⟨w.heap.size+1,0,none⟩=false:=Zb hbk2 0
     have hbt3:Hid (((wr.setCell ⟨w.heap.size,0,none⟩ (.pointer (some ⟨w.heap.size+2,0,none⟩))).setCell ⟨w.heap.size+1,0,none⟩ (.int .i64 0)).heap[w.heap.size]?=some (.cells #[.pointer (some ⟨w.heap.size+2,0,none⟩)] 76 (0,0))):=hid ((Z1 (by show _≠_;simp)).trans (Zg hbt 0 _))
     have hbk3:Hid (((wr.setCell ⟨w.heap.size,0,none⟩ (.pointer (some ⟨w.heap.size+2,0,none⟩))).setCell ⟨w.heap.size+1,0,none⟩ (.int .i64 0)).heap[w.heap.size+1]?=some (.cells #[.int .i64 0] 33 (0,0))):=hid (Zg hbk2 0 _)
     replace hbt:=hid hbt
     replace hbk:=hid hbk
     replace hbk2:=hid hbk2
     go_wp2_with fail
     refine leaves_cons (f:=138) (args:=#[.pointer (some ⟨w.heap.size,0,none⟩),.pointer (some ⟨w.heap.size+1,0,none⟩)]) (by simp) (by simp[go_sem]) ?_
     refine(Z6e _ _ _).mono ?_
     rintro en u' w'' ⟨rfl,rfl,rfl⟩
     simp only[settle]
     refine⟨_,Z6L rfl rfl (Z0 hbt3.out 0) (Z0 hbk3.out 0),w.heap.size+2,gs',rfl,?_,hS.out,(hBw.out.setCell (by simp) _).setCell (by simp) _⟩
     refine GAt.tab ((hG.out.store _ _ (by show w.heap.size<_;omega) (fun cs e=>?_)).store _ _ (by show w.heap.size+1<_;omega) (fun cs e=>?_))
     ·have e2:=hbt.out.symm.trans e
      simp at e2
     ·have e2:=hbk2.out.symm.trans e
      simp at e2
end
section
open Go.RowKit
structure FewU (us:List ByteArray) (gs:List Grp):Prop where
 nu:us.length≤40
 us : ∀ s∈us,s.size≤100
 ng:gs.length≤40
 names : ∀ g∈gs,g.name.size≤100
 nm : ∀ g∈gs,g.mem.length≤40
 ms : ∀ g∈gs,∀ s∈g.mem,s.size≤100
theorem FewU.ub {us:List ByteArray} {gs:List Grp} (h:FewU us gs):UB us gs:=⟨by have:=h.nu;omega,by have:=h.ng;omega,fun g hg=>by have:=h.nm g hg;omega⟩
end
end Go.Proofs.YtkefjeabckainaaGreat
