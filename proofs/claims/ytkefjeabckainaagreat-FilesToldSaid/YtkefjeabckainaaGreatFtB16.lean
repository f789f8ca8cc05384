/- A way that exists needs no more steps than there are nodes, where the root is one of them. Plain; conditions in the statements. And the texts behind it. -/
import Derived.Test.YtkefjeabckainaaGreatFtB04
import Derived.Test.YtkefjeabckainaaGreatFtB08
import Derived.Test.YtkefjeabckainaaGreatFtB14
import Derived.Test.YtkefjeabckainaaGreatFtB07
import Derived.Test.YtkefjeabckainaaGreatFtB15
namespace Go.Proofs.YtkefjeabckainaaGreat
set_option maxRecDepth 100000
set_option linter.unusedVariables false
section
theorem Z5g {l:List Nod} : ∀ (k p:Nat) {o:List ByteArray},Z1w l k p=some o →
  ∃ ps:List Nat,ps.length=o.length∧ps.Nodup∧∀ q∈ps,q≠1∧(∃ n,ZM l q=some n)∧∃ k' o',Z1w l k' q=some o'∧o'.length≤o.length
 | 0,_,_,h=>by cases h
 | k+1,p,o,h=>by
  have h0:=h
  unfold Z1w at h
  by_cases e:p=1
  ·rw[if_pos e]at h;cases h
   exact⟨[],rfl,List.nodup_nil,fun q hq=>by cases hq⟩
  ·rw[if_neg e]at h
   cases hg:ZM l p with
   | none=>rw[hg]at h;cases h
   | some n =>
    rw[hg]at h
    simp only at h
    cases hq:n.gone with
    | true=>rw[hq,if_pos rfl]at h;cases h
    | false =>
     rw[hq,if_neg (by simp)]at h
     obtain⟨o',ho,rfl⟩:=Option.map_eq_some_iff.1 h
     obtain⟨ps,i1,i2,i3⟩:=Z5g k n.up ho
     refine⟨p :: ps,by simp[i1],List.nodup_cons.2 ⟨fun hp=>?_,i2⟩,fun q hq2=>?_⟩
     ·obtain⟨_,_,k',o2,hk',hl⟩:=i3 p hp
      have:=Z7c hk' h0
      rw[this]at hl;simp at hl;omega
     ·rcases List.mem_cons.1 hq2 with hh | hh
      ·rw[hh];exact⟨e,⟨n,hg⟩,k+1,_,h0,Nat.le_refl _⟩
      ·obtain⟨a0,a,k',o2,hk',hl⟩:=i3 q hh
       exact⟨a0,a,k',o2,hk',by simp;omega⟩
theorem Z9w {l:List Nod} {r:Nod} (hr:ZM l 1=some r) {k p:Nat} {o:List ByteArray} (h:Z1w l k p=some o):o.length+1≤l.length:=by
 obtain⟨ps,h1,h2,h3⟩:=Z5g k p h
 have hm : ∀ q n,ZM l q=some n→q∈l.map (·.path):=fun q n hq=>by
  obtain⟨a,b⟩:=Zr hq
  exact List.mem_map.2 ⟨n,a,b⟩
 have:=Z4x (1 :: ps) (l.map (·.path)) (List.nodup_cons.2 ⟨fun h=>(h3 1 h).1 rfl,h2⟩) fun q hq=>by
  rcases List.mem_cons.1 hq with e | hq
  ·rw[e];exact hm 1 r hr
  ·obtain⟨n,hn⟩:=(h3 q hq).2.1
   exact hm q n hn
 simp at this;omega
theorem Z5h {l:List Nod} {r:Nod} (hr:ZM l 1=some r) (p:Nat):Z1w l (l.length+1) p=Z1w l l.length p:=by
 cases h:Z1w l (l.length+1) p with
 | none =>
  cases h2:Z1w l l.length p with
  | none=>rfl
  | some o=>rw[Z3a _ (l.length+1) p h2 (by have:=Z9w hr h2;omega)]at h;cases h
 | some o =>
  have h1:=Z4y _ _ h
  have h2:=Z9w hr h
  rw[Z3a _ l.length p h1 (by omega)]
end
section
open Go.RowKit
theorem Z7q {w:World} {base e n c g i:Nat} {xs:List Value} {u:Value} (h:w.ownsRow base e 1 (.slice (some ⟨g,0,none⟩) n c) n xs) (hi:i<n) :
  (w.setCell ⟨g,i,none⟩ u).ownsRow base e 1 (.slice (some ⟨g,0,none⟩) n c) n (xs.set i u)∧Below base w (w.setCell ⟨g,i,none⟩ u):=by
 rcases h.2 with ⟨h1,_⟩ |⟨g',cap,cur,hv,hb,hg,h1,h2,h3,h4⟩
 ·cases h1
 ·cases hv
  refine⟨⟨by rw[List.length_set];exact h.1,.inr ⟨g,c,cur.setIfInBounds i u,rfl,hb,Zg hg i u,h1,h2,by rw[Array.size_setIfInBounds];exact h3,?_⟩⟩,(Below.refl _ _).setCell (by exact hb) _⟩
  rw[Array.toList_setIfInBounds,List.take_set,h4]
theorem Z3N {w:World} {base e n c g i:Nat} {xs:List Value} (h:w.ownsRow base e 1 (.slice (some ⟨g,0,none⟩) n c) n xs) (hi:i<n):w.cell? ⟨g,i,none⟩=xs[i]?∧w.frozen? ⟨g,i,none⟩=false:=by
 rcases h.2 with ⟨h1,_⟩ |⟨g',cap,cur,hv,hb,hg,h1,h2,h3,h4⟩
 ·cases h1
 ·cases hv
  refine⟨?_,Zb hg _⟩
  rw[Z0 hg,←h4,List.getElem?_take_of_lt (by omega),Array.getElem?_toList]
def Z9x (xs ys:List Value) (i:Nat):Prop:=ys.length=xs.length∧∀ k,k<xs.length→ys[k]?=if k<i∨xs.length≤k+i then xs[xs.length - 1 - k]? else xs[k]?
theorem Z9x.start (xs:List Value):Z9x xs xs 0:=⟨rfl,fun k hk=>by rw[if_neg (by omega)]⟩
theorem Z9x.step {xs ys:List Value} {i:Nat} {u v:Value} (h:Z9x xs ys i) (hi:i<xs.length - 1 - i) (hu:ys[xs.length - 1 - i]?=some u) (hv:ys[i]?=some v):Z9x xs ((ys.set i u).set (xs.length - 1 - i) v) (i+1):=by
 refine⟨by rw[List.length_set,List.length_set];exact h.1,fun k hk=>?_⟩
 have hl:=h.1
 have e1:=h.2 (xs.length - 1 - i) (by omega)
 have e2:=h.2 i (by omega)
 rw[if_neg (by omega)]at e1 e2
 by_cases k1:k=xs.length - 1 - i
 ·rw[k1,List.getElem?_set_self (by rw[List.length_set];omega),if_pos (by omega),show xs.length - 1 - (xs.length - 1 - i)=i by omega,←e2,hv]
 ·rw[List.getElem?_set_ne (fun e=>k1 e.symm)]
  by_cases k2:k=i
  ·rw[k2,List.getElem?_set_self (by omega),if_pos (by omega),←e1,hu]
  ·rw[List.getElem?_set_ne (fun e=>k2 e.symm),h.2 k hk]
   by_cases k3:k<i∨xs.length≤k+i
   ·rw[if_pos k3,if_pos (by omega)]
   ·rw[if_neg k3,if_neg (by omega)]
theorem Z9x.done {xs ys:List Value} {i:Nat} (h:Z9x xs ys i) (hi:xs.length - 1 - i≤i):ys=xs.reverse:=by
 have hl:=h.1
 apply List.ext_getElem?
 intro k
 by_cases hk:k<xs.length
 ·rw[h.2 k hk,List.getElem?_reverse hk]
  by_cases k3:k<i∨xs.length≤k+i
  ·rw[if_pos k3]
  ·rw[if_neg k3,show k=xs.length - 1 - k by omega]
   congr 1
   omega
 ·rw[List.getElem?_eq_none (by omega),List.getElem?_eq_none (by simp;omega)]
end
section
open Go.RowKit
section
variable {o:Oper} {ev:Operand→Value} {w:World} {x y:Operand}
theorem Z2T {g i:Nat} {u:Value} {s:ByteArray} (ho:o.op=.store 9 x y) (hx:ev x=ptr g i) (hy:ev y=.string s) (hc:w.cell? ⟨g,i,none⟩=some u) (hf:w.frozen? ⟨g,i,none⟩=false):(execOp ev o).run Tryz.prog w=.ok .skip (w.setCell ⟨g,i,none⟩ (.string s)):=by
 simp[execOp,ho,hx,hy,hc,hf,go_sem,ptr]
theorem Zba (b n c j:Nat) (hj:j<n):(Instr.indexAt 78 (.slice (some ⟨b,0,none⟩) n c) (.int .i64 (j:Int))).run Tryz.prog w=.ok (ptr b j) w:=by
 have h1:(0:Int)≤(j:Int):=by omega
 have h2:(j:Int)<(n:Int):=by omega
 simp[go_sem,h1,h2,ptr]
theorem Z2I {b n c j:Nat} (ho:o.op=.indexAddr 78 x y) (hx:ev x=.slice (some ⟨b,0,none⟩) n c) (hy:ev y=.int .i64 (j:Int)) (hj:j<n):(execOp ev o).run Tryz.prog w=.ok (.value (ptr b j)) w:=by
 simp only[execOp,ho,hx,hy,Sem.run_bind,Zba b n c j hj,Result.andThen_ok,Sem.run_pure]
end
noncomputable def Zv:Array Oper:=match Tryz.f175.body with | some c=>(Z1i c).getD 2 #[] | none=>#[]
theorem ZH:Zv.size=16:=by kernel_rfl
set_option maxHeartbeats 4000000 in
theorem ZcQ {g n c i j:Nat} {a b:ByteArray} {v1 v4 v5 v6:Value} {Q:Exit→Act→World→Prop} {f:Act} {w:World} (hi:i<n) (hj:j<n) (hca:w.cell? ⟨g,i,none⟩=some (.string a)) (hcb:w.cell? ⟨g,j,none⟩=some (.string b)) (hfi:w.frozen? ⟨g,i,none⟩=false) (hcj:(w.setCell ⟨g,i,none⟩ (.string b)).cell? ⟨g,j,none⟩=some (.string b)) (hfj:(w.setCell ⟨g,i,none⟩ (.string b)).frozen? ⟨g,j,none⟩=false)
  (hQ : ∀ d u c a w,Q (.panic c) (a.put d u) w→Q (.panic c) a w) (hF:FrL 28 [(0,.slice (some ⟨g,0,none⟩) n c),(2,.int .i64 ((i:Nat):Int)),(3,.int .i64 ((j:Nat):Int)),(1,v1),(4,v4),(5,v5),(6,v6)] f) (hE : ∀ f,FrL 28 [(0,.slice (some ⟨g,0,none⟩) n c),(2,.int .i64 ((i:Nat):Int)),(3,.int .i64 ((j:Nat):Int)),(1,v1),(4,v4),(5,v5),(6,v6)] f→Q .normal f ((w.setCell ⟨g,i,none⟩ (.string b)).setCell ⟨g,j,none⟩ (.string a))) :
  wpAnyH Tryz.prog .any Zv Q (fun _=>True) 16 (Array.replicate 16 false) f w:=by
 have hS:(fun(_:World)=>True) w:=trivial
 refine hst (i:=0) (o:=Zv[0]'(show 0<Zv.size by rw[ZH];decide)) hF 14 true (.slice (some ⟨g,0,none⟩) n c) (Array.getElem?_eq_getElem (show 0<Zv.size by rw[ZH];decide)) (by kernel_rfl) (by decide) (by kernel_rfl) (by kernel_rfl) (by kernel_rfl) (hQ _ _) (Z2 (by kernel_rfl)) (fun hW w hS=>Z5 (x:=.tmp 0) (.inl (by kernel_rfl)) (hF.ev 0 (.slice (some ⟨g,0,none⟩) n c) rfl)) hS (fun f hF=>?_)
 rw[show cond true (.slice (some ⟨g,0,none⟩) n c) undef=.slice (some ⟨g,0,none⟩) n c from rfl]at hF
 refine hst (i:=1) (o:=Zv[1]'(show 1<Zv.size by rw[ZH];decide)) hF 15 true (.int .i64 ((i:Nat):Int)) (Array.getElem?_eq_getElem (show 1<Zv.size by rw[ZH];decide)) (by kernel_rfl) (by decide) (by kernel_rfl) (by kernel_rfl) (by kernel_rfl) (hQ _ _) (Z2 (by kernel_rfl)) (fun hW w hS=>Z5 (x:=.tmp 2) (.inl (by kernel_rfl)) (hF.ev 2 (.int .i64 ((i:Nat):Int)) rfl)) hS (fun f hF=>?_)
 rw[show cond true (.int .i64 ((i:Nat):Int)) undef=.int .i64 ((i:Nat):Int) from rfl]at hF
 refine hst (i:=2) (o:=Zv[2]'(show 2<Zv.size by rw[ZH];decide)) hF 16 true (.slice (some ⟨g,0,none⟩) n c) (Array.getElem?_eq_getElem (show 2<Zv.size by rw[ZH];decide)) (by kernel_rfl) (by decide) (by kernel_rfl) (by kernel_rfl) (by kernel_rfl) (hQ _ _) (Z2 (by kernel_rfl)) (fun hW w hS=>Z5 (x:=.tmp 0) (.inl (by kernel_rfl)) (hF.ev 0 (.slice (some ⟨g,0,none⟩) n c) rfl)) hS (fun f hF=>?_)
 rw[show cond true (.slice (some ⟨g,0,none⟩) n c) undef=.slice (some ⟨g,0,none⟩) n c from rfl]at hF
 refine hst (i:=3) (o:=Zv[3]'(show 3<Zv.size by rw[ZH];decide)) hF 17 true (.int .i64 ((j:Nat):Int)) (Array.getElem?_eq_getElem (show 3<Zv.size by rw[ZH];decide)) (by kernel_rfl) (by decide) (by kernel_rfl) (by kernel_rfl) (by kernel_rfl) (hQ _ _) (Z2 (by kernel_rfl)) (fun hW w hS=>Z5 (x:=.tmp 3) (.inl (by kernel_rfl)) (hF.ev 3 (.int .i64 ((j:Nat):Int)) rfl)) hS (fun f hF=>?_)
 rw[show cond true (.int .i64 ((j:Nat):Int)) undef=.int .i64 ((j:Nat):Int) from rfl]at hF
 refine hst (i:=4) (o:=Zv[4]'(show 4<Zv.size by rw[ZH];decide)) hF 18 true (.slice (some ⟨g,0,none⟩) n c) (Array.getElem?_eq_getElem (show 4<Zv.size by rw[ZH];decide)) (by kernel_rfl) (by decide) (by kernel_rfl) (by kernel_rfl) (by kernel_rfl) (hQ _ _) (Z2 (by kernel_rfl)) (fun hW w hS=>Z5 (x:=.tmp 0) (.inl (by kernel_rfl)) (hF.ev 0 (.slice (some ⟨g,0,none⟩) n c) rfl)) hS (fun f hF=>?_)
 rw[show cond true (.slice (some ⟨g,0,none⟩) n c) undef=.slice (some ⟨g,0,none⟩) n c from rfl]at hF
 refine hst (i:=5) (o:=Zv[5]'(show 5<Zv.size by rw[ZH];decide)) hF 19 true (.int .i64 ((j:Nat):Int)) (Array.getElem?_eq_getElem (show 5<Zv.size by rw[ZH];decide)) (by kernel_rfl) (by decide) (by kernel_rfl) (by kernel_rfl) (by kernel_rfl) (hQ _ _) (Z2 (by kernel_rfl)) (fun hW w hS=>Z5 (x:=.tmp 3) (.inl (by kernel_rfl)) (hF.ev 3 (.int .i64 ((j:Nat):Int)) rfl)) hS (fun f hF=>?_)
 rw[show cond true (.int .i64 ((j:Nat):Int)) undef=.int .i64 ((j:Nat):Int) from rfl]at hF
 refine hst (i:=6) (o:=Zv[6]'(show 6<Zv.size by rw[ZH];decide)) hF 20 true (ptr g j) (Array.getElem?_eq_getElem (show 6<Zv.size by rw[ZH];decide)) (by kernel_rfl) (by decide) (by kernel_rfl) (by kernel_rfl) (by kernel_rfl) (hQ _ _) (Z2 (by kernel_rfl)) (fun hW w hS=>Z2I (x:=.tmp 18) (y:=.tmp 19) (by kernel_rfl) (hF.ev 18 (.slice (some ⟨g,0,none⟩) n c) rfl) (hF.ev 19 (.int .i64 ((j:Nat):Int)) rfl) hj) hS (fun f hF=>?_)
 rw[show cond true (ptr g j) undef=ptr g j from rfl]at hF
 refine hst (i:=8) (o:=Zv[8]'(show 8<Zv.size by rw[ZH];decide)) hF 22 true (.slice (some ⟨g,0,none⟩) n c) (Array.getElem?_eq_getElem (show 8<Zv.size by rw[ZH];decide)) (by kernel_rfl) (by decide) (by kernel_rfl) (by kernel_rfl) (by kernel_rfl) (hQ _ _) (Z2 (by kernel_rfl)) (fun hW w hS=>Z5 (x:=.tmp 0) (.inl (by kernel_rfl)) (hF.ev 0 (.slice (some ⟨g,0,none⟩) n c) rfl)) hS (fun f hF=>?_)
 rw[show cond true (.slice (some ⟨g,0,none⟩) n c) undef=.slice (some ⟨g,0,none⟩) n c from rfl]at hF
 refine hst (i:=9) (o:=Zv[9]'(show 9<Zv.size by rw[ZH];decide)) hF 23 true (.int .i64 ((i:Nat):Int)) (Array.getElem?_eq_getElem (show 9<Zv.size by rw[ZH];decide)) (by kernel_rfl) (by decide) (by kernel_rfl) (by kernel_rfl) (by kernel_rfl) (hQ _ _) (Z2 (by kernel_rfl)) (fun hW w hS=>Z5 (x:=.tmp 2) (.inl (by kernel_rfl)) (hF.ev 2 (.int .i64 ((i:Nat):Int)) rfl)) hS (fun f hF=>?_)
 rw[show cond true (.int .i64 ((i:Nat):Int)) undef=.int .i64 ((i:Nat):Int) from rfl]at hF
 refine hst (i:=10) (o:=Zv[10]'(show 10<Zv.size by rw[ZH];decide)) hF 24 true (ptr g i) (Array.getElem?_eq_getElem (show 10<Zv.size by rw[ZH];decide)) (by kernel_rfl) (by decide) (by kernel_rfl) (by kernel_rfl) (by kernel_rfl) (hQ _ _) (Z2 (by kernel_rfl)) (fun hW w hS=>Z2I (x:=.tmp 22) (y:=.tmp 23) (by kernel_rfl) (hF.ev 22 (.slice (some ⟨g,0,none⟩) n c) rfl) (hF.ev 23 (.int .i64 ((i:Nat):Int)) rfl) hi) hS (fun f hF=>?_)
 rw[show cond true (ptr g i) undef=ptr g i from rfl]at hF
 refine wpAnyH_all (rs:=[7,11]) (by kernel_rfl) (by simp) fun j0 hj0=>?_
 have hj2:j0=7∨j0=11:=by simpa using hj0
 rcases hj2 with rfl | rfl
 ·skip
  refine hdo (i:=7) (o:=Zv[7]'(show 7<Zv.size by rw[ZH];decide)) hF 21 (.string b) w (Array.getElem?_eq_getElem (show 7<Zv.size by rw[ZH];decide)) (by kernel_rfl) (by decide) (Z2 (by kernel_rfl)) (Ze (ty:=9) (x:=.tmp 20) (by kernel_rfl) (hF.ev 20 _ rfl) (Z1k hcb)) (fun f hF=>?_)
  refine⟨trivial,?_⟩
  refine wpAnyH_all (rs:=[11]) (by kernel_rfl) (by simp) fun j0 hj0=>?_
  obtain rfl:j0=11:=by simpa using hj0
  refine hdo (i:=11) (o:=Zv[11]'(show 11<Zv.size by rw[ZH];decide)) hF 25 (.string a) w (Array.getElem?_eq_getElem (show 11<Zv.size by rw[ZH];decide)) (by kernel_rfl) (by decide) (Z2 (by kernel_rfl)) (Ze (ty:=9) (x:=.tmp 24) (by kernel_rfl) (hF.ev 24 _ rfl) (Z1k hca)) (fun f hF=>?_)
  refine⟨trivial,?_⟩
  refine hst (i:=12) (o:=Zv[12]'(show 12<Zv.size by rw[ZH];decide)) hF 26 true (ptr g i) (Array.getElem?_eq_getElem (show 12<Zv.size by rw[ZH];decide)) (by kernel_rfl) (by decide) (by kernel_rfl) (by kernel_rfl) (by kernel_rfl) (hQ _ _) (Z2 (by kernel_rfl)) (fun hW w hS=>Z2I (x:=.tmp 14) (y:=.tmp 15) (by kernel_rfl) (hF.ev 14 _ rfl) (hF.ev 15 _ rfl) hi) trivial (fun f hF=>?_)
  rw[show cond true (ptr g i) undef=ptr g i from rfl]at hF
  refine wpAnyH_all (rs:=[13]) (by kernel_rfl) (by simp) fun j0 hj0=>?_
  obtain rfl:j0=13:=by simpa using hj0
  refine Z6Y (o:=Zv[13]'(show 13<Zv.size by rw[ZH];decide)) (w.setCell ⟨g,i,none⟩ (.string b)) (Array.getElem?_eq_getElem (show 13<Zv.size by rw[ZH];decide)) (by kernel_rfl) (Z2 (by kernel_rfl)) (Z2T (x:=.tmp 26) (y:=.tmp 21) (by kernel_rfl) (hF.ev 26 _ rfl) (hF.ev 21 _ rfl) hca hfi) ?_
  refine⟨trivial,?_⟩
  refine hst (i:=14) (o:=Zv[14]'(show 14<Zv.size by rw[ZH];decide)) hF 27 true (ptr g j) (Array.getElem?_eq_getElem (show 14<Zv.size by rw[ZH];decide)) (by kernel_rfl) (by decide) (by kernel_rfl) (by kernel_rfl) (by kernel_rfl) (hQ _ _) (Z2 (by kernel_rfl)) (fun hW w hS=>Z2I (x:=.tmp 16) (y:=.tmp 17) (by kernel_rfl) (hF.ev 16 _ rfl) (hF.ev 17 _ rfl) hj) trivial (fun f hF=>?_)
  rw[show cond true (ptr g j) undef=ptr g j from rfl]at hF
  refine wpAnyH_all (rs:=[15]) (by kernel_rfl) (by simp) fun j0 hj0=>?_
  obtain rfl:j0=15:=by simpa using hj0
  refine Z6Y (o:=Zv[15]'(show 15<Zv.size by rw[ZH];decide)) ((w.setCell ⟨g,i,none⟩ (.string b)).setCell ⟨g,j,none⟩ (.string a)) (Array.getElem?_eq_getElem (show 15<Zv.size by rw[ZH];decide)) (by kernel_rfl) (Z2 (by kernel_rfl)) (Z2T (x:=.tmp 27) (y:=.tmp 25) (by kernel_rfl) (hF.ev 27 _ rfl) (hF.ev 25 _ rfl) hcj hfj) ?_
  refine⟨trivial,?_⟩
  exact wpAnyH_done (by kernel_rfl) (hE _ (hF.sub [(0,.slice (some ⟨g,0,none⟩) n c),(2,.int .i64 ((i:Nat):Int)),(3,.int .i64 ((j:Nat):Int)),(1,v1),(4,v4),(5,v5),(6,v6)] ⟨rfl,rfl,rfl,rfl,rfl,rfl,rfl, trivial⟩)) _
 ·skip
  refine hdo (i:=11) (o:=Zv[11]'(show 11<Zv.size by rw[ZH];decide)) hF 25 (.string a) w (Array.getElem?_eq_getElem (show 11<Zv.size by rw[ZH];decide)) (by kernel_rfl) (by decide) (Z2 (by kernel_rfl)) (Ze (ty:=9) (x:=.tmp 24) (by kernel_rfl) (hF.ev 24 _ rfl) (Z1k hca)) (fun f hF=>?_)
  refine⟨trivial,?_⟩
  refine wpAnyH_all (rs:=[7]) (by kernel_rfl) (by simp) fun j0 hj0=>?_
  obtain rfl:j0=7:=by simpa using hj0
  refine hdo (i:=7) (o:=Zv[7]'(show 7<Zv.size by rw[ZH];decide)) hF 21 (.string b) w (Array.getElem?_eq_getElem (show 7<Zv.size by rw[ZH];decide)) (by kernel_rfl) (by decide) (Z2 (by kernel_rfl)) (Ze (ty:=9) (x:=.tmp 20) (by kernel_rfl) (hF.ev 20 _ rfl) (Z1k hcb)) (fun f hF=>?_)
  refine⟨trivial,?_⟩
  refine hst (i:=12) (o:=Zv[12]'(show 12<Zv.size by rw[ZH];decide)) hF 26 true (ptr g i) (Array.getElem?_eq_getElem (show 12<Zv.size by rw[ZH];decide)) (by kernel_rfl) (by decide) (by kernel_rfl) (by kernel_rfl) (by kernel_rfl) (hQ _ _) (Z2 (by kernel_rfl)) (fun hW w hS=>Z2I (x:=.tmp 14) (y:=.tmp 15) (by kernel_rfl) (hF.ev 14 _ rfl) (hF.ev 15 _ rfl) hi) trivial (fun f hF=>?_)
  rw[show cond true (ptr g i) undef=ptr g i from rfl]at hF
  refine wpAnyH_all (rs:=[13]) (by kernel_rfl) (by simp) fun j0 hj0=>?_
  obtain rfl:j0=13:=by simpa using hj0
  refine Z6Y (o:=Zv[13]'(show 13<Zv.size by rw[ZH];decide)) (w.setCell ⟨g,i,none⟩ (.string b)) (Array.getElem?_eq_getElem (show 13<Zv.size by rw[ZH];decide)) (by kernel_rfl) (Z2 (by kernel_rfl)) (Z2T (x:=.tmp 26) (y:=.tmp 21) (by kernel_rfl) (hF.ev 26 _ rfl) (hF.ev 21 _ rfl) hca hfi) ?_
  refine⟨trivial,?_⟩
  refine hst (i:=14) (o:=Zv[14]'(show 14<Zv.size by rw[ZH];decide)) hF 27 true (ptr g j) (Array.getElem?_eq_getElem (show 14<Zv.size by rw[ZH];decide)) (by kernel_rfl) (by decide) (by kernel_rfl) (by kernel_rfl) (by kernel_rfl) (hQ _ _) (Z2 (by kernel_rfl)) (fun hW w hS=>Z2I (x:=.tmp 16) (y:=.tmp 17) (by kernel_rfl) (hF.ev 16 _ rfl) (hF.ev 17 _ rfl) hj) trivial (fun f hF=>?_)
  rw[show cond true (ptr g j) undef=ptr g j from rfl]at hF
  refine wpAnyH_all (rs:=[15]) (by kernel_rfl) (by simp) fun j0 hj0=>?_
  obtain rfl:j0=15:=by simpa using hj0
  refine Z6Y (o:=Zv[15]'(show 15<Zv.size by rw[ZH];decide)) ((w.setCell ⟨g,i,none⟩ (.string b)).setCell ⟨g,j,none⟩ (.string a)) (Array.getElem?_eq_getElem (show 15<Zv.size by rw[ZH];decide)) (by kernel_rfl) (Z2 (by kernel_rfl)) (Z2T (x:=.tmp 27) (y:=.tmp 25) (by kernel_rfl) (hF.ev 27 _ rfl) (hF.ev 25 _ rfl) hcj hfj) ?_
  refine⟨trivial,?_⟩
  exact wpAnyH_done (by kernel_rfl) (hE _ (hF.sub [(0,.slice (some ⟨g,0,none⟩) n c),(2,.int .i64 ((i:Nat):Int)),(3,.int .i64 ((j:Nat):Int)),(1,v1),(4,v4),(5,v5),(6,v6)] ⟨rfl,rfl,rfl,rfl,rfl,rfl,rfl, trivial⟩)) _
end
section
open Go.RowKit
theorem Z9y (a:Option Addr) (n c:Nat) (w:World) (h1:n≤c) (h2:c≤maxLen) :
  Calls Tryz.prog 176 #[.slice a n c] w fun e w'=>e=.returned (.slice a n n)∧w'=w:=by
 unfold maxLen at h2
 go_enter Tryz.func176,Tryz.ntmps176
 go_wp2_with fail
 go_ret
 exact⟨rfl,rfl⟩
def ZcR (w:World) (base:Nat) (v:Value) (n:Nat) (xs:List Value) (e:Ending) (w':World):Prop:=e=.returned (.tuple #[])∧w'.ownsRow base 9 1 v n xs.reverse∧Below base w w'
set_option maxHeartbeats 3200000 in
theorem Zbb (a:Option Addr) (n c base:Nat) (xs:List ByteArray) (w:World) (hown:w.ownsRow base 9 1 (.slice a n c) n (xs.map Value.string)) (hn:n≤1000) :
  Calls Tryz.prog 175 #[.slice a n c] w (ZcR w base (.slice a n c) n (xs.map Value.string)):=by
 have mixed:Tryz.prog.follows Departure.mixedOrders=true:=by first | kernel_rfl | decide
 have hxl:xs.length=n:=by have:=hown.1;simpa using this
 have kw:IntKind.i64.wrap ((n:Int) - 1)=(n:Int) - 1:=IntWalk.i64_in _ (by omega)
 replace hown:=hid hown
 go_enter Tryz.func175,Tryz.ntmps175
 go_wp2_with fail
 go_loopw [2,3] (fun iv jv wr=>∃ (i:Nat) (ys:List Value),i≤n∧iv=.int .i64 (i:Int)∧jv=.int .i64 ((n:Int) - 1 - (i:Int))∧Hid (wr.ownsRow base 9 1 (.slice a n c) n ys)∧Hid (Z9x (xs.map Value.string) ys i)∧Hid (Below base w wr)) (fun iv _ _=>n - (intOf iv).toNat)
 case atStart=>exact⟨0,_,by omega,rfl,by simp,hown,hid (Z9x.start _),hid (Below.refl _ _)⟩
 case round =>
  obtain⟨i,ys,hi,rfl,rfl,hO,hR,hB⟩:=hrel
  by_cases hlt:(i:Int)<(n:Int) - 1 - (i:Int)
  ·obtain⟨j,hj⟩ : ∃ j:Nat,j=n - 1 - i:=⟨_,rfl⟩
   have hjz:(n:Int) - 1 - (i:Int)=(j:Int):=by omega
   rw[hjz]at hlt ⊢
   obtain⟨g,c',hv,_,_,_⟩:=Z6R hO.out (by omega)
   cases hv
   obtain⟨ua,hua⟩ : ∃ s:ByteArray,ys[i]?=some (.string s):=by
    have h1:=hR.out.2 i (by rw[List.length_map];omega)
    rw[if_neg (by rw[List.length_map];omega)]at h1
    exact⟨xs[i]'(by omega),by rw[h1];simp[show i<xs.length by omega]⟩
   obtain⟨ub,hub⟩ : ∃ s:ByteArray,ys[j]?=some (.string s):=by
    have h1:=hR.out.2 j (by rw[List.length_map];omega)
    rw[if_neg (by rw[List.length_map];omega)]at h1
    exact⟨xs[j]'(by omega),by rw[h1];simp[show j<xs.length by omega]⟩
   replace hua:=hid hua
   replace hub:=hid hub
   go_wp2_with fail
   have hOd:wr.drew.ownsRow base 9 1 (.slice (some ⟨g,0,none⟩) n c) n ys:=ZT hO.out (Below.refl _ _).drew
   have hO1:=Z7q (u:=.string ub) hOd (show i<n by omega)
   have hO2:=Z7q (u:=.string ua) hO1.1 (show j<n by omega)
   refine wp_region_noPanic ?_
   refine wp_region_held (S:=fun _=>True) mixed ?_
   refine(show wpAnyH Tryz.prog .any Zv _ _ _ _ _ _→_ from fun h=>h) ?_
   refine ZcQ (g:=g) (n:=n) (c:=c) (i:=i) (j:=j) (a:=ua) (b:=ub) (by omega) (by omega) ((Z3N hOd (show i<n by omega)).1.trans hua.out) ((Z3N hOd (show j<n by omega)).1.trans hub.out) (Z3N hOd (show i<n by omega)).2 ((Z3N hO1.1 (show j<n by omega)).1.trans (by rw[List.getElem?_set_ne (by omega)];exact hub.out)) (Z3N hO1.1 (show j<n by omega)).2 (fun _ _ _ _ _ h=>h) (FrL.of_all (by rfl) rfl ⟨rfl,rfl,rfl,rfl,rfl,rfl,rfl,trivial⟩) (fun f hF=>?_)
   have he:=Z1n hF [.slice (some ⟨g,0,none⟩) n c,undef,.int .i64 (i:Int),.int .i64 (j:Int),.slice (some ⟨g,0,none⟩) n c,.int .i64 (n:Int),.int .i64 ((n:Int) - 1),f.tmps.getD 7 undef,f.tmps.getD 8 undef,f.tmps.getD 9 undef,f.tmps.getD 10 undef,f.tmps.getD 11 undef,f.tmps.getD 12 undef,f.tmps.getD 13 undef,f.tmps.getD 14 undef,f.tmps.getD 15 undef,f.tmps.getD 16 undef,f.tmps.getD 17 undef,f.tmps.getD 18 undef,f.tmps.getD 19 undef,f.tmps.getD 20 undef,f.tmps.getD 21 undef,f.tmps.getD 22 undef,f.tmps.getD 23 undef,f.tmps.getD 24 undef,f.tmps.getD 25 undef,f.tmps.getD 26 undef,f.tmps.getD 27 undef] (by rfl) ⟨hF.get 0 _ rfl,hF.get 1 _ rfl,hF.get 2 _ rfl,hF.get 3 _ rfl,hF.get 4 _ rfl,hF.get 5 _ rfl,hF.get 6 _ rfl,hF.any 7 (by decide),hF.any 8 (by decide),hF.any 9 (by decide),hF.any 10 (by decide),hF.any 11 (by decide),hF.any 12 (by decide),hF.any 13 (by decide),hF.any 14 (by decide),hF.any 15 (by decide),hF.any 16 (by decide),hF.any 17 (by decide),hF.any 18 (by decide),hF.any 19 (by decide),hF.any 20 (by decide),hF.any 21 (by decide),hF.any 22 (by decide),hF.any 23 (by decide),hF.any 24 (by decide),hF.any 25 (by decide),hF.any 26 (by decide),hF.any 27 (by decide),trivial⟩
   rw[he]
   clear he
   generalize f.tmps.getD 7 undef=u7
   generalize f.tmps.getD 8 undef=u8
   generalize f.tmps.getD 9 undef=u9
   generalize f.tmps.getD 10 undef=u10
   generalize f.tmps.getD 11 undef=u11
   generalize f.tmps.getD 12 undef=u12
   generalize f.tmps.getD 13 undef=u13
   generalize f.tmps.getD 14 undef=u14
   generalize f.tmps.getD 15 undef=u15
   generalize f.tmps.getD 16 undef=u16
   generalize f.tmps.getD 17 undef=u17
   generalize f.tmps.getD 18 undef=u18
   generalize f.tmps.getD 19 undef=u19
   generalize f.tmps.getD 20 undef=u20
   generalize f.tmps.getD 21 undef=u21
   generalize f.tmps.getD 22 undef=u22
   generalize f.tmps.getD 23 undef=u23
   generalize f.tmps.getD 24 undef=u24
   generalize f.tmps.getD 25 undef=u25
   generalize f.tmps.getD 26 undef=u26
   generalize f.tmps.getD 27 undef=u27
   clear hF
   refine NoPanic.normal ?_
   have hO3:=hid hO2.1
   have hbd:Below base wr wr.drew:=(Below.refl _ _).drew
   have hB3:=hid (hB.out.trans (hbd.trans (hO1.2.trans hO2.2)))
   have hR3:=hid (Z9x.step (u:=.string ub) (v:=.string ua) hR.out (by rw[List.length_map,hxl];omega) (by rw[List.length_map,hxl,←hj];exact hub.out) hua.out)
   rw[List.length_map,hxl,←hj]at hR3
   change Exit.inBlock _ _ _ _ ((wr.drew.setCell ⟨g,i,none⟩ (.string ub)).setCell ⟨g,j,none⟩ (.string ua))
   generalize (wr.drew.setCell ⟨g,i,none⟩ (.string ub)).setCell ⟨g,j,none⟩ (.string ua)=W3 at hO3 hB3 ⊢
   have kj:IntKind.i64.wrap ((j:Int) - 1)=(j:Int) - 1:=IntWalk.i64_in _ (by omega)
   clear hO1 hO2 hOd hbd hO hR hB
   replace hj:=hid hj
   go_wp2_with fail
   go_roundw
   case rel =>
    exact⟨i+1,_,by omega,by go_num,by first | rfl |(congr 1;have:=hj.out;omega),hO3,hR3,hB3⟩
   case measure=>simp[intOf];omega
  ·have hd:=hid (Z9x.done hR.out (by rw[List.length_map,hxl];omega))
   go_wp2_with fail
   refine bodyPost_ret (results_none rfl _ _ _) rfl ?_
   exact⟨rfl,by rw[←hd.out];exact hO.out,hB.out⟩
end
section
open Go.RowKit
theorem Zbc:ElemOk Tryz.prog 78 9 1 16:=Z2l (z:=.string ⟨#[]⟩) Tryz.underlying78 (by kernel_rfl) rfl (by decide)
def ZcS (w:World) (l:List Nod) (p:Nat) (e:Ending) (w':World):Prop:=∃ rv,e=.returned (.tuple #[rv,.bool (Z1w l l.length p).isSome])∧Z2w w' 1 rv ((Z1w l l.length p).getD []).length ((((Z1w l l.length p).getD []).reverse).map Value.string)∧Below w.heap.size w w'
theorem Z9z {l:List Nod} {k:Nat}:Z1w l (k+1) 1=some []:=by unfold Z1w;rfl
theorem Z9A {l:List Nod} {k p:Nat} (h1:p≠1) (h:ZM l p=none):Z1w l (k+1) p=none:=by unfold Z1w;rw[if_neg h1,h]
theorem Z9B {l:List Nod} {k p:Nat} {n:Nod} (h1:p≠1) (h:ZM l p=some n) (hg:n.gone=true):Z1w l (k+1) p=none:=by unfold Z1w;rw[if_neg h1,h];simp[hg]
theorem ZcT {l:List Nod} {k p:Nat} {n:Nod} (h1:p≠1) (h:ZM l p=some n) (hg:n.gone=false):Z1w l (k+1) p=(Z1w l k n.up).map (n.name :: ·):=by
 conv=>lhs;unfold Z1w
 rw[if_neg h1,h];simp[hg]
theorem Z2w.clip {w:World} {k n c:Nat} {a:Option Addr} {xs:List Value} (h:Z2w w k (.slice a n c) n xs):Z2w w k (.slice a n n) n xs:=by
 obtain⟨hl,a',c',hv,h1,h2,h3,h4⟩:=h
 cases hv
 exact⟨hl,a,n,rfl,Nat.le_refl _,by omega,fun h=>by have:=h3 h;omega,h4⟩
theorem Z70 {w:World} {k:Nat}:Z2w w k (.slice none 0 0) 0 []:=Z15.nil.weak
set_option maxHeartbeats 6400000 in
theorem Zbd (v:Value) (x:Nat) (l:List Nod) (p:Nat) (w:World) (hv:Z3 w v l) (hs:Z16 l) (hl:l.length≤900) (hroot : ∃ r,ZM l 1=some r∧r.gone=false) :
  Calls Tryz.prog 137 #[.agg #[.int .u64 (x:Int),v],.int .u64 (p:Int)] w (ZcS w l p):=by
 obtain⟨a,c,rfl,g1,g2⟩:=hv.form
 unfold maxLen at g2
 obtain⟨W,hW⟩ : ∃ W,W=w.alloc (.cells #[.int .u64 (x:Int),.slice a l.length c] 30):=⟨_,rfl⟩
 have hb0:Below w.heap.size w W:=by rw[hW];exact(Below.refl w.heap.size w).alloc (Nat.le_refl _) _
 have hX0:=hid (show W.heap[w.heap.size]?=some (.cells #[.int .u64 (x:Int),.slice a l.length c] 30 (0,0)) by rw[hW,heap_alloc_new])
 have e1:=Z0 hX0.out 1
 replace hv:=hid hv
 replace hb0:=hid hb0
 replace hs:=hid hs
 replace hroot:=hid hroot
 obtain⟨R,hR⟩ : ∃ R,R=Z1w l l.length p:=⟨_,rfl⟩
 replace hR:=hid hR
 have hR0:=hid (show R=(Z1w l (l.length - 0) p).map (fun o=>[]++o) by rw[hR.out,Nat.sub_zero];simp)
 go_enter Tryz.func137,Tryz.ntmps137
 go_wp2_with (rw[←hW];replace hW:=hid hW)
 go_loopg [1,6,12] (l.length) (fun g1 pv ov kv wr=>∃ (q k m:Nat) (ys:List ByteArray),pv=.int .u64 (q:Int)∧kv=.int .i64 (k:Int)∧k≤l.length∧l.length - k≤g1∧m≤k∧wr.ownsRow (w.heap.size+1) 9 1 ov m (ys.map Value.string)∧Hid (Below w.heap.size w wr)∧Hid (wr.heap[w.heap.size]?=some (.cells #[.int .u64 (x:Int),.slice a l.length c] 30 (0,0)))∧Hid (R=(Z1w l (l.length - k) q).map (fun o=>ys++o)))
 case atStart=>exact⟨p,0,0,[],rfl,by first | rfl | go_num,by omega,by omega,by omega,World.ownsRow_nil _ _ _ _,hb0,hX0,hR0⟩
 case round =>
  clear hb0 hX0 hR0 e1
  obtain⟨q,k,m,ys,rfl,rfl,hk,hg,hmk,hown,hB,hX,hRk⟩:=hrel
  obtain⟨oa,oc,rfl⟩:=Z1V hown
  have e0:=Z0 hX.out 0
  have e1:=Z0 hX.out 1
  replace hown:=hid hown
  by_cases hkl:k<l.length
  ·have hkz:(k:Int)<(l.length:Int):=by omega
   obtain⟨j,hj⟩ : ∃ j,l.length - k=j+1:=⟨l.length - k - 1,by omega⟩
   rw[hj]at hRk
   replace hj:=hid hj
   have hget:=hid (Z22 _ x l q wr (hv.out.below hB.out) hs.out (by omega))
   go_wp2_with fail
   refine hget.out.mono ?_
   rintro e w3 ⟨rfl,hb3⟩
   obtain⟨n,hn⟩ : ∃ n,n=Z1M l q:=⟨_,rfl⟩
   rw[←hn]
   have hnew:=hid (heap_alloc_new w3 (.cells Zk.cells 89))
   obtain⟨X2,hX2⟩ : ∃ W,W=Z1J w3 n:=⟨_,rfl⟩
   have hbX:Below w3.heap.size w3 X2:=by rw[hX2];exact ZD _ _
   have hD0:X2.heap[w3.heap.size]?=some (.cells n.cells 89 (0,0)):=by rw[hX2];exact ZK _ _
   have hoz:=hid (show ∀ j,(Value.slice oa m oc).ownBlock=some j→j<w3.heap.size from fun j hj=>Nat.lt_of_lt_of_le (hown.out.lt j hj).2 hb3.size)
   have hbb:=sn hb3 hbX
   have hB2:=hid (sn hB.out hbb)
   have hown2:=hid (ZT hown.out hbb)
   have hXa:=hid ((hbb.block _ (lt_of_block hX.out)).trans hX.out)
   have c0:X2.cell? ⟨w3.heap.size,0,none⟩=some (.int .u64 (n.path:Int)):=Z0 hD0 0
   have c10:X2.cell? ⟨w3.heap.size,10,none⟩=some (.bool n.gone):=Z0 hD0 10
   have c5:X2.cell? ⟨w3.heap.size,5,none⟩=some (.string n.name):=Z0 hD0 5
   have c9:X2.cell? ⟨w3.heap.size,9,none⟩=some (.int .u64 (n.up:Int)):=Z0 hD0 9
   have hD1:=hid hD0
   unfold Z1J at hX2
   rw[Zc]at hX2 hnew
   replace hn:=hid hn
   clear hget hb3 hbX hbb hD0 e0 e1 hB hown hX
   go_upto_region 5 with (first
    |(rw[←hX2];replace hX2:=hid hX2)
    |(refine wpList_store_row (by rfl) 89 (.tmp 7) (.tmp 18) (by rfl) w3.heap.size n.cells (by rfl) (by rfl) 89 _ hnew.out (by kernel_rfl) (by kernel_rfl) (Zw n) ?_))
   try (rw[←hX2];replace hX2:=hid hX2)
   clear hnew
   generalize w3.heap.size=z2 at *
   cases hgt:ZM l q with
   | none =>
    have hq1:q≠1:=fun e=>by
     obtain⟨r,hr,_⟩:=hroot.out
     rw[e,hr]at hgt;cases hgt
    have hR2:=hid (show Z1w l l.length p=none by rw[←hR.out,hRk.out,Z9A hq1 hgt];rfl)
    simp only[Option.isSome_none]
    clear hgt hRk hq1
    go_wp2_with fail
    go_ret2
    exact⟨_,by rw[hR2.out];rfl,by rw[hR2.out];exact Z70,hB2.out⟩
   | some y =>
    have hny:n=y:=by rw[hn.out];unfold Z1M;rw[hgt];rfl
    subst hny
    have hnp:n.path=q:=(Zr hgt).2
    simp only[Option.isSome_some]
    cases hgn:n.gone with
    | true =>
     have hq1:q≠1:=fun e=>by
      obtain⟨r,hr,h1⟩:=hroot.out
      rw[e,hr]at hgt;cases hgt
      rw[hgn]at h1;cases h1
     have hR2:=hid (show Z1w l l.length p=none by rw[←hR.out,hRk.out,Z9B hq1 hgt hgn];rfl)
     rw[hgn]at c10
     clear hgt hRk hq1 hgn hnp
     go_wp2_with fail
     go_ret2
     exact⟨_,by rw[hR2.out];rfl,by rw[hR2.out];exact Z70,hB2.out⟩
    | false =>
     rw[hgn]at c10
     have hyl:ys.length=m:=by have:=hown2.out.1;simpa using this
     by_cases hq1:q=1
     ·have k1:((n.path:Int) == 1)=true:=by rw[hnp,hq1];rfl
      have hR2:=hid (show Z1w l l.length p=some ys by rw[←hR.out,hRk.out,hq1,Z9z];simp)
      have hsr:=hid (Zbb oa m oc (w.heap.size+1) ys X2 hown2.out (by omega))
      obtain⟨q1,q2⟩:m≤oc∧oc≤maxLen:=by
       obtain⟨_,a',c',hv',h1,h2,_⟩:=Z15.of_own hown2.out
       cases hv';exact⟨h1,h2⟩
      have hcl:=hid (fun Z=>Z9y oa m oc Z q1 q2)
      replace hyl:=hid hyl
      clear hgt hRk hq1 hgn hnp q1 q2
      go_wp2_with fail
      refine hsr.out.mono ?_
      rintro e w4 ⟨rfl,hrv,hb4⟩
      have hB4:=hid (hB2.out.trans (hb4.mono (Nat.le_succ _)))
      have hrw:=hid (Z2w.clip (Z15.of_own hrv).weak)
      clear hrv hb4 hsr
      go_wp2_with fail
      refine(hcl.out w4).mono ?_
      rintro e w5 ⟨rfl,hw5⟩
      subst hw5
      go_wp2_with fail
      go_ret2
      exact⟨_,by rw[hR2.out];rfl,by rw[hR2.out];show Z2w _ 1 _ ys.length (ys.reverse.map Value.string);rw[hyl.out,List.map_reverse];exact hrw.out,hB4.out⟩
     ·have k1:((n.path:Int) == 1)=false:=by rw[hnp,beq_eq_false_iff_ne];omega
      have hR2:=hid (show R=(Z1w l (l.length - (k+1)) n.up).map (fun o=>(ys++[n.name])++o) by
       rw[hRk.out,ZcT hq1 hgt hgn,show l.length - (k+1)=j by have:=hj.out;omega,Option.map_map]
       congr 1
       funext o
       simp)
      replace hyl:=hid hyl
      clear hgt hRk hgn hnp
      replace hq1:=hid hq1
      obtain⟨W5,hW5⟩ : ∃ W,W=X2.alloc (.cells #[.string n.name] 9):=⟨_,rfl⟩
      have hb5:Below X2.heap.size X2 W5:=by rw[hW5];exact(Below.refl _ _).alloc (Nat.le_refl _) _
      have hN5:=hid (show W5.heap[X2.heap.size]?=some (.cells #[.string n.name] 9 (0,0)) by rw[hW5];exact heap_alloc_new _ _)
      have hown5:=hid (ZT hown2.out hb5)
      have hB5:=hid (sn hB2.out hb5)
      have hX5:=hid ((hb5.block _ (lt_of_block hXa.out)).trans hXa.out)
      have hD5:=hid ((hb5.block _ (lt_of_block hD1.out)).trans hD1.out)
      have hzl:=hid (lt_of_block hD1.out)
      have hs5:=hid (lt_of_block hX5.out)
      have hbase:w.heap.size+1≤W5.heap.size:=hs5.out
      replace hbase:=hid hbase
      clear hb5
      go_wp2_with (first
       |(rw[←hW5];replace hW5:=hid hW5)
       |(at_builtin;refine Z1q Zbc _ rfl (.tmp 33) (.tmp 36) rfl (w.heap.size+1) (.slice oa m oc) m (ys.map Value.string) rfl hown5.out (.slice (some ⟨X2.heap.size,0,none⟩) 1 1) 1 [.string n.name] rfl (Z15.of_block hN5.out rfl (by unfold maxLen;omega)) (by intro u hu;simp at hu;subst hu;rfl) (by unfold maxLen;omega) (by omega) hbase.out ?_))
      intro a' c' w' h2 h3
      have hB6:=hid (hB5.out.grown h3 hB5.out.size (fun j hj=>by have:=(hown5.out.lt j hj).1;omega))
      have hX6:=hid ((h3.block w.heap.size hs5.out (fun e=>by have:=(hown5.out.lt _ e.symm).1;omega)).trans hX5.out)
      have hD6:=(h3.block z2 (lt_of_block hD5.out) (fun e=>by have:=hoz.out _ e.symm;omega)).trans hD5.out
      have c9:w'.cell? ⟨z2,9,none⟩=some (.int .u64 (n.up:Int)):=Z0 hD6 9
      have hown6:=hid (show w'.ownsRow (w.heap.size+1) 9 1 (.slice a' (m+1) c') (m+1) ((ys++[n.name]).map Value.string) by rw[List.map_append];exact h2)
      clear h2 h3 hD6
      go_wp2_with fail
      go_roundg (l.length - (k+1))
      case measure=>omega
      case rel=>exact⟨n.up,k+1,m+1,ys++[n.name],rfl,by first | rfl | go_num,by omega,by omega,by omega,hown6.out,hB6,hX6,hR2⟩
  ·have hR2:=hid (show Z1w l l.length p=none by rw[←hR.out,hRk.out,show l.length - k=0 by omega];rfl)
   clear hRk
   go_wp2_with fail
   go_ret2
   exact⟨_,by rw[hR2.out];rfl,by rw[hR2.out];exact Z70,hB.out⟩
end
section
open Go.RowKit
theorem Z4R {b f:Nat} {n:Nod} {w:World} (h:w.rangeAt b f n.cells.toList):(loadVar 89 ⟨b,f,none⟩).run Tryz.prog w=.ok (.agg n.cells) w:=by
 have hl:(loadCells ⟨b,f,none⟩ 12).run Tryz.prog w=.ok n.cells w:=by
  have:=run_loadCells_list (P:=Tryz.prog) (w:=w) ⟨b,f,none⟩ n.cells.toList (fun j v hv=>by rw[Addr.add_mid];exact h j v hv)
  rw[show n.cells.toList.length=12 by rw[Z7];rfl]at this
  simpa using this
 obtain⟨i0,hi0,hz0⟩ : ∃ i0,Tryz.prog.info? 89=some i0∧i0.size=12:=⟨_,rfl,rfl⟩
 have hagg:(isAgg 89).run Tryz.prog w=.ok true w:=by kernel_rfl
 simp[loadVar,Sem.run_bind,hagg,sizeOf,typeInfo,hi0,hz0,hl]
theorem Z34 {w:World} {z:Nat} {cs:Array Value} {T:TypeId} {fr:Nat×Nat} (h:w.heap[z]?=some (.cells cs T fr)):w.rangeAt z 0 cs.toList:=fun j v hv=>by
 rw[Nat.zero_add,Z0 h j];simpa using hv
noncomputable def Z71:Array Oper:=match Tryz.f84.body with | some c=>(Z1i c).getD 4 #[] | none=>#[]
noncomputable def Z29:List Oper:=Z71.toList
theorem Z1o:Z29.length=22:=by kernel_rfl
set_option maxHeartbeats 4000000 in
theorem ZcU {w0:World} {B g z b f x c:Nat} {l:List Nod} {n:Nod} (hn:NodOk n)  {v0 v1 v2 v4 v5 v6 v7 v8 v9 v42 v43 v53 v58 v63 v64 v65:Value} {Q:Exit→Act→World→Prop} {a:Act} {w:World} (hF:FrL 88 [(3,ptr z 0),(0,v0),(1,v1),(2,v2),(4,v4),(5,v5),(6,v6),(7,v7),(8,v8),(9,v9),(42,v42),(43,v43),(53,v53),(58,v58),(63,v63),(64,v64),(65,v65)] a) (hS:(PwS B g z b f x c l n w0) w) (hE : ∀ a w',FrL 88 ((39,.bool (((((!decide (n.path=1)) ||(!(ZF n))) ||(!decide (n.up=1))) || n.gone) ||(!decide (n.name=⟨#[47]⟩)))) :: [(3,ptr z 0),(0,v0),(1,v1),(2,v2),(4,v4),(5,v5),(6,v6),(7,v7),(8,v8),(9,v9),(42,v42),(43,v43),(53,v53),(58,v58),(63,v63),(64,v64),(65,v65)]) a→(PwS B g z b f x c l n w0) w'→Q .normal a w'):wpList Tryz.prog Z71 Q (Z29.drop 0) a w:=by
 rw[List.drop_eq_getElem_cons (show 0<Z29.length by rw[Z1o];decide)]
 refine st hF 18 (ptr z 0) (by kernel_rfl) (by decide) (by kernel_rfl) (Zo (T:=89) (x:=.tmp 3) (f:=0) (by kernel_rfl) (hF.ev 3 (ptr z 0) rfl) (by kernel_rfl)) (fun a hF=>?_)
 rw[List.drop_eq_getElem_cons (show 1<Z29.length by rw[Z1o];decide)]
 refine st hF 19 (.int .u64 ((n.path:Nat):Int)) (by kernel_rfl) (by decide) (by kernel_rfl) (Ze (ty:=27) (x:=.tmp 18) (by kernel_rfl) (hF.ev 18 (ptr z 0) rfl) (Z1A (Z0 hS.nod 0))) (fun a hF=>?_)
 rw[List.drop_eq_getElem_cons (show 2<Z29.length by rw[Z1o];decide)]
 refine st hF 20 (.bool (!decide (n.path=1))) (by kernel_rfl) (by decide) (by kernel_rfl) (ZS (op:=.neq) (ty:=27) (ty2:=27) (x:=.tmp 19) (y:=.const (.int .u64 1)) (u:=.int .u64 ((n.path:Nat):Int)) (v:=.int .u64 ((1:Nat):Int)) (by kernel_rfl) (hF.ev 19 (.int .u64 ((n.path:Nat):Int)) rfl) (rfl) (by kernel_rfl) (Z41 _ _ w)) (fun a hF=>?_)
 rw[List.drop_eq_getElem_cons (show 3<Z29.length by rw[Z1o];decide)]
 refine st hF 21 (.bool (!decide (n.path=1))) (by kernel_rfl) (by decide) (by kernel_rfl) (Z5 (x:=.tmp 20) (.inl (by kernel_rfl)) (hF.ev 20 (.bool (!decide (n.path=1))) rfl)) (fun a hF=>?_)
 rw[List.drop_eq_getElem_cons (show 4<Z29.length by rw[Z1o];decide)]
 refine Z18 hF 22 ((!decide (n.path=1)) == false) (.agg n.cells) (by kernel_rfl) (by decide) (Zh (gi:=3) (g:=21) (c:=(!decide (n.path=1))) hF (by kernel_rfl) (by kernel_rfl) rfl) (fun hW=>Ze (ty:=89) (x:=.tmp 3) (by kernel_rfl) (hF.ev 3 (ptr z 0) rfl) (Z4R (Z34 hS.nod))) (fun a hF=>?_)
 rw[List.drop_eq_getElem_cons (show 5<Z29.length by rw[Z1o];decide)]
 refine Z3L hF 23 ((!decide (n.path=1)) == false) (.bool (ZF n)) (by kernel_rfl) (by decide) (Zh (gi:=3) (g:=21) (c:=(!decide (n.path=1))) hF (by kernel_rfl) (by kernel_rfl) rfl) (fun hW=>⟨105,#[.agg n.cells],Z1a (fn:=105) (t:=89) rfl (by kernel_rfl) (by kernel_rfl) ((hF.ev 22 (cond ((!decide (n.path=1)) == false) (.agg n.cells) undef) rfl).trans (Zl hW)),(Z3E n w hn).mono (by rintro e w' ⟨rfl,hb⟩;exact⟨rfl,hS.next hb⟩)⟩) hS (fun a w hF hS=>?_)
 rw[List.drop_eq_getElem_cons (show 6<Z29.length by rw[Z1o];decide)]
 refine Z18 hF 24 ((!decide (n.path=1)) == false) (.bool (!(ZF n))) (by kernel_rfl) (by decide) (Zh (gi:=3) (g:=21) (c:=(!decide (n.path=1))) hF (by kernel_rfl) (by kernel_rfl) rfl) (fun hW=>Z2f (ty:=4) (x:=.tmp 23) (by kernel_rfl) ((hF.ev 23 (cond ((!decide (n.path=1)) == false) (.bool (ZF n)) undef) rfl).trans (Zl hW))) (fun a hF=>?_)
 rw[List.drop_eq_getElem_cons (show 7<Z29.length by rw[Z1o];decide)]
 refine st hF 25 (.bool ((!decide (n.path=1)) ||(!(ZF n)))) (by kernel_rfl) (by decide) (by kernel_rfl) (Z1j (y:=.const (.bool true)) (x:=.tmp 21) (b:=(!decide (n.path=1))) (b':=(!(ZF n))) (by kernel_rfl) (hF.ev 21 _ rfl) rfl (hF.ev 24 (cond ((!decide (n.path=1)) == false) (.bool (!(ZF n))) undef) rfl)) (fun a hF=>?_)
 rw[List.drop_eq_getElem_cons (show 8<Z29.length by rw[Z1o];decide)]
 refine st hF 26 (.bool ((!decide (n.path=1)) ||(!(ZF n)))) (by kernel_rfl) (by decide) (by kernel_rfl) (Z5 (x:=.tmp 25) (.inl (by kernel_rfl)) (hF.ev 25 (.bool ((!decide (n.path=1)) ||(!(ZF n)))) rfl)) (fun a hF=>?_)
 rw[List.drop_eq_getElem_cons (show 9<Z29.length by rw[Z1o];decide)]
 refine Z18 hF 27 (((!decide (n.path=1)) ||(!(ZF n))) == false) (ptr z 9) (by kernel_rfl) (by decide) (Zh (gi:=8) (g:=26) (c:=((!decide (n.path=1)) ||(!(ZF n)))) hF (by kernel_rfl) (by kernel_rfl) rfl) (fun hW=>Zo (T:=89) (x:=.tmp 3) (f:=9) (by kernel_rfl) (hF.ev 3 (ptr z 0) rfl) (by kernel_rfl)) (fun a hF=>?_)
 rw[List.drop_eq_getElem_cons (show 10<Z29.length by rw[Z1o];decide)]
 refine Z18 hF 28 (((!decide (n.path=1)) ||(!(ZF n))) == false) (.int .u64 ((n.up:Nat):Int)) (by kernel_rfl) (by decide) (Zh (gi:=8) (g:=26) (c:=((!decide (n.path=1)) ||(!(ZF n)))) hF (by kernel_rfl) (by kernel_rfl) rfl) (fun hW=>Ze (ty:=27) (x:=.tmp 27) (by kernel_rfl) ((hF.ev 27 (cond (((!decide (n.path=1)) ||(!(ZF n))) == false) (ptr z 9) undef) rfl).trans (Zl hW)) (Z1A (Z0 hS.nod 9))) (fun a hF=>?_)
 rw[List.drop_eq_getElem_cons (show 11<Z29.length by rw[Z1o];decide)]
 refine Z18 hF 29 (((!decide (n.path=1)) ||(!(ZF n))) == false) (.bool (!decide (n.up=1))) (by kernel_rfl) (by decide) (Zh (gi:=8) (g:=26) (c:=((!decide (n.path=1)) ||(!(ZF n)))) hF (by kernel_rfl) (by kernel_rfl) rfl) (fun hW=>ZS (op:=.neq) (ty:=27) (ty2:=27) (x:=.tmp 28) (y:=.const (.int .u64 1)) (u:=.int .u64 ((n.up:Nat):Int)) (v:=.int .u64 ((1:Nat):Int)) (by kernel_rfl) ((hF.ev 28 (cond (((!decide (n.path=1)) ||(!(ZF n))) == false) (.int .u64 ((n.up:Nat):Int)) undef) rfl).trans (Zl hW)) (rfl) (by kernel_rfl) (Z41 _ _ w)) (fun a hF=>?_)
 rw[List.drop_eq_getElem_cons (show 12<Z29.length by rw[Z1o];decide)]
 refine st hF 30 (.bool (((!decide (n.path=1)) ||(!(ZF n))) ||(!decide (n.up=1)))) (by kernel_rfl) (by decide) (by kernel_rfl) (Z1j (y:=.const (.bool true)) (x:=.tmp 26) (b:=((!decide (n.path=1)) ||(!(ZF n)))) (b':=(!decide (n.up=1))) (by kernel_rfl) (hF.ev 26 _ rfl) rfl (hF.ev 29 (cond (((!decide (n.path=1)) ||(!(ZF n))) == false) (.bool (!decide (n.up=1))) undef) rfl)) (fun a hF=>?_)
 rw[List.drop_eq_getElem_cons (show 13<Z29.length by rw[Z1o];decide)]
 refine st hF 31 (.bool (((!decide (n.path=1)) ||(!(ZF n))) ||(!decide (n.up=1)))) (by kernel_rfl) (by decide) (by kernel_rfl) (Z5 (x:=.tmp 30) (.inl (by kernel_rfl)) (hF.ev 30 (.bool (((!decide (n.path=1)) ||(!(ZF n))) ||(!decide (n.up=1)))) rfl)) (fun a hF=>?_)
 rw[List.drop_eq_getElem_cons (show 14<Z29.length by rw[Z1o];decide)]
 refine Z18 hF 32 ((((!decide (n.path=1)) ||(!(ZF n))) ||(!decide (n.up=1))) == false) (ptr z 10) (by kernel_rfl) (by decide) (Zh (gi:=13) (g:=31) (c:=(((!decide (n.path=1)) ||(!(ZF n))) ||(!decide (n.up=1)))) hF (by kernel_rfl) (by kernel_rfl) rfl) (fun hW=>Zo (T:=89) (x:=.tmp 3) (f:=10) (by kernel_rfl) (hF.ev 3 (ptr z 0) rfl) (by kernel_rfl)) (fun a hF=>?_)
 rw[List.drop_eq_getElem_cons (show 15<Z29.length by rw[Z1o];decide)]
 refine Z18 hF 33 ((((!decide (n.path=1)) ||(!(ZF n))) ||(!decide (n.up=1))) == false) (.bool n.gone) (by kernel_rfl) (by decide) (Zh (gi:=13) (g:=31) (c:=(((!decide (n.path=1)) ||(!(ZF n))) ||(!decide (n.up=1)))) hF (by kernel_rfl) (by kernel_rfl) rfl) (fun hW=>Ze (ty:=4) (x:=.tmp 32) (by kernel_rfl) ((hF.ev 32 (cond ((((!decide (n.path=1)) ||(!(ZF n))) ||(!decide (n.up=1))) == false) (ptr z 10) undef) rfl).trans (Zl hW)) (Z7o (Z0 hS.nod 10))) (fun a hF=>?_)
 rw[List.drop_eq_getElem_cons (show 16<Z29.length by rw[Z1o];decide)]
 refine st hF 34 (.bool ((((!decide (n.path=1)) ||(!(ZF n))) ||(!decide (n.up=1))) || n.gone)) (by kernel_rfl) (by decide) (by kernel_rfl) (Z1j (y:=.const (.bool true)) (x:=.tmp 31) (b:=(((!decide (n.path=1)) ||(!(ZF n))) ||(!decide (n.up=1)))) (b':=n.gone) (by kernel_rfl) (hF.ev 31 _ rfl) rfl (hF.ev 33 (cond ((((!decide (n.path=1)) ||(!(ZF n))) ||(!decide (n.up=1))) == false) (.bool n.gone) undef) rfl)) (fun a hF=>?_)
 rw[List.drop_eq_getElem_cons (show 17<Z29.length by rw[Z1o];decide)]
 refine st hF 35 (.bool ((((!decide (n.path=1)) ||(!(ZF n))) ||(!decide (n.up=1))) || n.gone)) (by kernel_rfl) (by decide) (by kernel_rfl) (Z5 (x:=.tmp 34) (.inl (by kernel_rfl)) (hF.ev 34 (.bool ((((!decide (n.path=1)) ||(!(ZF n))) ||(!decide (n.up=1))) || n.gone)) rfl)) (fun a hF=>?_)
 rw[List.drop_eq_getElem_cons (show 18<Z29.length by rw[Z1o];decide)]
 refine Z18 hF 36 (((((!decide (n.path=1)) ||(!(ZF n))) ||(!decide (n.up=1))) || n.gone) == false) (ptr z 5) (by kernel_rfl) (by decide) (Zh (gi:=17) (g:=35) (c:=((((!decide (n.path=1)) ||(!(ZF n))) ||(!decide (n.up=1))) || n.gone)) hF (by kernel_rfl) (by kernel_rfl) rfl) (fun hW=>Zo (T:=89) (x:=.tmp 3) (f:=5) (by kernel_rfl) (hF.ev 3 (ptr z 0) rfl) (by kernel_rfl)) (fun a hF=>?_)
 rw[List.drop_eq_getElem_cons (show 19<Z29.length by rw[Z1o];decide)]
 refine Z18 hF 37 (((((!decide (n.path=1)) ||(!(ZF n))) ||(!decide (n.up=1))) || n.gone) == false) (.string n.name) (by kernel_rfl) (by decide) (Zh (gi:=17) (g:=35) (c:=((((!decide (n.path=1)) ||(!(ZF n))) ||(!decide (n.up=1))) || n.gone)) hF (by kernel_rfl) (by kernel_rfl) rfl) (fun hW=>Ze (ty:=9) (x:=.tmp 36) (by kernel_rfl) ((hF.ev 36 (cond (((((!decide (n.path=1)) ||(!(ZF n))) ||(!decide (n.up=1))) || n.gone) == false) (ptr z 5) undef) rfl).trans (Zl hW)) (Z1k (Z0 hS.nod 5))) (fun a hF=>?_)
 rw[List.drop_eq_getElem_cons (show 20<Z29.length by rw[Z1o];decide)]
 refine Z18 hF 38 (((((!decide (n.path=1)) ||(!(ZF n))) ||(!decide (n.up=1))) || n.gone) == false) (.bool (!decide (n.name=⟨#[47]⟩))) (by kernel_rfl) (by decide) (Zh (gi:=17) (g:=35) (c:=((((!decide (n.path=1)) ||(!(ZF n))) ||(!decide (n.up=1))) || n.gone)) hF (by kernel_rfl) (by kernel_rfl) rfl) (fun hW=>ZS (op:=.neq) (ty:=9) (ty2:=9) (x:=.tmp 37) (y:=.const (.string ⟨#[47]⟩)) (u:=.string n.name) (v:=.string ⟨#[47]⟩) (by kernel_rfl) ((hF.ev 37 (cond (((((!decide (n.path=1)) ||(!(ZF n))) ||(!decide (n.up=1))) || n.gone) == false) (.string n.name) undef) rfl).trans (Zl hW)) (rfl) (by kernel_rfl) (Z6X _ _ w)) (fun a hF=>?_)
 rw[List.drop_eq_getElem_cons (show 21<Z29.length by rw[Z1o];decide)]
 refine st hF 39 (.bool (((((!decide (n.path=1)) ||(!(ZF n))) ||(!decide (n.up=1))) || n.gone) ||(!decide (n.name=⟨#[47]⟩)))) (by kernel_rfl) (by decide) (by kernel_rfl) (Z1j (y:=.const (.bool true)) (x:=.tmp 35) (b:=((((!decide (n.path=1)) ||(!(ZF n))) ||(!decide (n.up=1))) || n.gone)) (b':=(!decide (n.name=⟨#[47]⟩))) (by kernel_rfl) (hF.ev 35 _ rfl) rfl (hF.ev 38 (cond (((((!decide (n.path=1)) ||(!(ZF n))) ||(!decide (n.up=1))) || n.gone) == false) (.bool (!decide (n.name=⟨#[47]⟩))) undef) rfl)) (fun a hF=>?_)
 rw[show Z29.drop 22=[] from by kernel_rfl]
 exact hE _ _ (hF.sub ((39,.bool (((((!decide (n.path=1)) ||(!(ZF n))) ||(!decide (n.up=1))) || n.gone) ||(!decide (n.name=⟨#[47]⟩)))) :: [(3,ptr z 0),(0,v0),(1,v1),(2,v2),(4,v4),(5,v5),(6,v6),(7,v7),(8,v8),(9,v9),(42,v42),(43,v43),(53,v53),(58,v58),(63,v63),(64,v64),(65,v65)]) ⟨rfl,rfl,rfl,rfl,rfl,rfl,rfl,rfl,rfl,rfl,rfl,rfl,rfl,rfl,rfl,rfl,rfl,rfl,trivial⟩) hS
end
end Go.Proofs.YtkefjeabckainaaGreat
