/- above of package fsys. Conditions: in the statements.
next, live, Has, Tree of package fsys. Conditions: in the statements.
The insertion of one node among sorted ones, in plain lists: the nodes' order (name, then path) and the two loops' invariants. No condition. -/
import Derived.Test.YtkefjeabckainaaGreatFtB11
import Derived.Test.YtkefjeabckainaaGreatFtB14
import Derived.Test.YtkefjeabckainaaGreatFtB16
import Derived.Test.YtkefjeabckainaaGreatFtB13
namespace Go.Proofs.YtkefjeabckainaaGreat
set_option maxRecDepth 100000
set_option linter.unusedVariables false
section
open Go.RowKit Go.Maps
section
variable {o:Oper} {ev:Operand→Value} {w:World} {x:Operand}
theorem Z2z {k i:Nat} (ho:o.op=.nilCheck x) (hx:ev x=ptr k i):(execOp ev o).run Tryz.prog w=.ok (.value (ptr k i)) w:=by
 simp[execOp,ho,hx,go_sem,ptr]
theorem Z43 {y z y2:Operand} {t u s r:TypeId} {fn:Nat} {v v2 v3 v4:Value} (hf:ev (.func fn)=.func (.func fn) #[] #[]) (hc:(callFunc fn #[v,v2,v3,v4]).run Tryz.prog w=.ok (.enter fn #[v,v2,v3,v4]) w) (ho:o.op=.call {callee:=.value (.func fn),args:=#[x,y,z,y2],argTypes:=#[t,u,s,r]}) (hx:ev x=v) (hy:ev y=v2) (hz:ev z=v3) (hw:ev y2=v4):(execOp ev o).run Tryz.prog w=.ok (.enter fn #[v,v2,v3,v4]) w:=by
 simp[execOp,ho,hx,hy,hz,hw,hf,hc,go_sem]
end
theorem Z4p {z o:Nat} {u v:Value} {w:World} (h0:w.cell? ⟨z,o,none⟩=some u) (h1:w.cell? ⟨z,o+1,none⟩=some v):(loadVar 30 ⟨z,o,none⟩).run Tryz.prog w=.ok (.agg #[u,v]) w:=by
 have hl:(loadCells ⟨z,o,none⟩ 2).run Tryz.prog w=.ok #[u,v] w:=by
  refine run_loadCells_list (P:=Tryz.prog) (w:=w) ⟨z,o,none⟩ [u,v] (fun j s hv=>?_)
  match j,hv with
  | 0,hv=>cases hv;exact h0
  | 1,hv=>cases hv;exact h1
 obtain⟨i0,hi0,hz0⟩ : ∃ i0,Tryz.prog.info? 30=some i0∧i0.size=2:=⟨_,rfl,rfl⟩
 have hagg:(isAgg 30).run Tryz.prog w=.ok true w:=by kernel_rfl
 simp[loadVar,Sem.run_bind,hagg,sizeOf,typeInfo,hi0,hz0,hl]
theorem ZcV {p:Addr} {v:Value} {w:World} (h:w.cell? p=some v):(loadVar 76 p).run Tryz.prog w=.ok v w:=by simp[go_sem,h]
noncomputable def Zp:Array Oper:=match Tryz.f47.body with | some c=>(Z1i c).getD 1 #[] | none=>#[]
theorem ZC:Zp.size=13:=by kernel_rfl
set_option maxHeartbeats 4000000 in
theorem Zbe {w1:World} {b k5 m p n:Nat} {f:FsV} {u:Usr} {x:Nod} {a0:Option Addr} {c0:Nat} (hFo:FSo w1 b m (.slice a0 f.t.n.length c0) p f u n) (hx:w1.heap[k5]?=some (.cells x.cells 89 (0,0))) (ht:TrOk f.t.n) {v1:Value} {Q:Exit→Act→World→Prop} {a:Act} {w:World}
  (hQ : ∀ d u c a w,Q (.panic c) (a.put d u) w→Q (.panic c) a w) (hF:FrL 34 [(0,ptr b 0),(5,ptr k5 0),(1,v1)] a) (hS:Below w1.heap.size w1 w)
  (hE : ∀ a w' g,FrL 34 ((8,.bool (ZM f.t.n x.up).isSome) ::(7,ptr g 0) :: [(0,ptr b 0),(5,ptr k5 0),(1,v1)]) a→Below w1.heap.size w1 w'→w'.heap[g]?=some (.cells (Z1M f.t.n x.up).cells 89 (0,0))→w1.heap.size≤g→Q .normal a w') :
  wpAnyH Tryz.prog .any Zp Q (Below w1.heap.size w1) 13 (Array.replicate 13 false) a w:=by
 refine hst (i:=0) (o:=Zp[0]'(show 0<Zp.size by rw[ZC];decide)) hF 10 true (ptr b 0) (Array.getElem?_eq_getElem (show 0<Zp.size by rw[ZC];decide)) (by kernel_rfl) (by decide) (by kernel_rfl) (by kernel_rfl) (by kernel_rfl) (hQ _ _) (Z2 (by kernel_rfl)) (fun hW w hS=>Z5 (x:=.tmp 0) (.inl (by kernel_rfl)) (hF.ev 0 (ptr b 0) rfl)) hS (fun a hF=>?_)
 rw[show cond true (ptr b 0) undef=ptr b 0 from rfl]at hF
 refine hst (i:=1) (o:=Zp[1]'(show 1<Zp.size by rw[ZC];decide)) hF 11 true (ptr b 0) (Array.getElem?_eq_getElem (show 1<Zp.size by rw[ZC];decide)) (by kernel_rfl) (by decide) (by kernel_rfl) (by kernel_rfl) (by kernel_rfl) (hQ _ _) (Z2 (by kernel_rfl)) (fun hW w hS=>Z2z (x:=.tmp 10) (by kernel_rfl) (hF.ev 10 (ptr b 0) rfl)) hS (fun a hF=>?_)
 rw[show cond true (ptr b 0) undef=ptr b 0 from rfl]at hF
 refine hst (i:=2) (o:=Zp[2]'(show 2<Zp.size by rw[ZC];decide)) hF 12 true (ptr b 0) (Array.getElem?_eq_getElem (show 2<Zp.size by rw[ZC];decide)) (by kernel_rfl) (by decide) (by kernel_rfl) (by kernel_rfl) (by kernel_rfl) (hQ _ _) (Z2 (by kernel_rfl)) (fun hW w hS=>Zo (T:=93) (x:=.tmp 11) (f:=0) (by kernel_rfl) (hF.ev 11 (ptr b 0) rfl) (by kernel_rfl)) hS (fun a hF=>?_)
 rw[show cond true (ptr b 0) undef=ptr b 0 from rfl]at hF
 refine hst (i:=3) (o:=Zp[3]'(show 3<Zp.size by rw[ZC];decide)) hF 13 true (.agg #[.int .u64 ((f.t.next:Nat):Int),.slice a0 f.t.n.length c0]) (Array.getElem?_eq_getElem (show 3<Zp.size by rw[ZC];decide)) (by kernel_rfl) (by decide) (by kernel_rfl) (by kernel_rfl) (by kernel_rfl) (hQ _ _) (Z2 (by kernel_rfl)) (fun hW w hS=>Ze (ty:=30) (x:=.tmp 12) (by kernel_rfl) (hF.ev 12 (ptr b 0) rfl) (Z4p (Z0 (hFo.below hS).blk 0) (Z0 (hFo.below hS).blk 1))) hS (fun a hF=>?_)
 rw[show cond true (.agg #[.int .u64 ((f.t.next:Nat):Int),.slice a0 f.t.n.length c0]) undef=.agg #[.int .u64 ((f.t.next:Nat):Int),.slice a0 f.t.n.length c0] from rfl]at hF
 refine hst (i:=4) (o:=Zp[4]'(show 4<Zp.size by rw[ZC];decide)) hF 14 true (ptr k5 9) (Array.getElem?_eq_getElem (show 4<Zp.size by rw[ZC];decide)) (by kernel_rfl) (by decide) (by kernel_rfl) (by kernel_rfl) (by kernel_rfl) (hQ _ _) (Z2 (by kernel_rfl)) (fun hW w hS=>Zo (T:=89) (x:=.tmp 5) (f:=9) (by kernel_rfl) (hF.ev 5 (ptr k5 0) rfl) (by kernel_rfl)) hS (fun a hF=>?_)
 rw[show cond true (ptr k5 9) undef=ptr k5 9 from rfl]at hF
 refine hst (i:=5) (o:=Zp[5]'(show 5<Zp.size by rw[ZC];decide)) hF 15 true (.int .u64 ((x.up:Nat):Int)) (Array.getElem?_eq_getElem (show 5<Zp.size by rw[ZC];decide)) (by kernel_rfl) (by decide) (by kernel_rfl) (by kernel_rfl) (by kernel_rfl) (hQ _ _) (Z2 (by kernel_rfl)) (fun hW w hS=>Ze (ty:=27) (x:=.tmp 14) (by kernel_rfl) (hF.ev 14 (ptr k5 9) rfl) (Z1A (Z0 ((hS.block _ (lt_of_block hx)).trans hx) 9))) hS (fun a hF=>?_)
 rw[show cond true (.int .u64 ((x.up:Nat):Int)) undef=.int .u64 ((x.up:Nat):Int) from rfl]at hF
 refine wpAnyH_all (rs:=[6,10]) (by kernel_rfl) (by simp) fun j hj=>?_
 have hj2:j=6∨j=10:=by simpa using hj
 rcases hj2 with rfl | rfl
 ·skip
  refine Z80 (i:=6) (o:=Zp[6]'(show 6<Zp.size by rw[ZC];decide)) (R:=fun v w'=>v=.tuple #[.agg (Z1M f.t.n x.up).cells,.bool (ZM f.t.n x.up).isSome]∧Below w.heap.size w w') hF 16 (Array.getElem?_eq_getElem (show 6<Zp.size by rw[ZC];decide)) (by kernel_rfl) (by decide) (Z2 (by kernel_rfl)) ⟨45,#[.agg #[.int .u64 ((f.t.next:Nat):Int),.slice a0 f.t.n.length c0],.int .u64 ((x.up:Nat):Int)],Z2j (x:=.tmp 13) (y:=.tmp 15) (fn:=45) (t:=30) (u:=27) rfl (by kernel_rfl) (by kernel_rfl) (hF.ev 13 _ rfl) (hF.ev 15 _ rfl),(Z22 _ f.t.next f.t.n x.up w (hFo.below hS).row ht.sort (by have:=ht.few;omega)).mono (by rintro e w' ⟨rfl,h⟩;exact⟨_,rfl,rfl,h⟩)⟩ ?_
  rintro _ a wc ⟨rfl,hb⟩ hF
  replace hS:=hS.trans (hb.mono hS.size)
  refine⟨hS,?_⟩
  clear hb
  refine hst (i:=7) (o:=Zp[7]'(show 7<Zp.size by rw[ZC];decide)) hF 9 true (.tuple #[.agg (Z1M f.t.n x.up).cells,.bool (ZM f.t.n x.up).isSome]) (Array.getElem?_eq_getElem (show 7<Zp.size by rw[ZC];decide)) (by kernel_rfl) (by decide) (by kernel_rfl) (by kernel_rfl) (by kernel_rfl) (hQ _ _) (Z2 (by kernel_rfl)) (fun hW w hS=>Z5 (x:=.tmp 16) (.inl (by kernel_rfl)) (hF.ev 16 _ rfl)) hS (fun a hF=>?_)
  rw[show cond true (.tuple #[.agg (Z1M f.t.n x.up).cells,.bool (ZM f.t.n x.up).isSome]) undef=.tuple #[.agg (Z1M f.t.n x.up).cells,.bool (ZM f.t.n x.up).isSome] from rfl]at hF
  refine hst (i:=8) (o:=Zp[8]'(show 8<Zp.size by rw[ZC];decide)) hF 17 true (.agg (Z1M f.t.n x.up).cells) (Array.getElem?_eq_getElem (show 8<Zp.size by rw[ZC];decide)) (by kernel_rfl) (by decide) (by kernel_rfl) (by kernel_rfl) (by kernel_rfl) (hQ _ _) (Z2 (by kernel_rfl)) (fun hW w hS=>ZZ (x:=.tmp 9) (n:=0) (by kernel_rfl) (hF.ev 9 _ rfl) rfl) hS (fun a hF=>?_)
  rw[show cond true (.agg (Z1M f.t.n x.up).cells) undef=.agg (Z1M f.t.n x.up).cells from rfl]at hF
  refine hst (i:=9) (o:=Zp[9]'(show 9<Zp.size by rw[ZC];decide)) hF 18 true (.bool (ZM f.t.n x.up).isSome) (Array.getElem?_eq_getElem (show 9<Zp.size by rw[ZC];decide)) (by kernel_rfl) (by decide) (by kernel_rfl) (by kernel_rfl) (by kernel_rfl) (hQ _ _) (Z2 (by kernel_rfl)) (fun hW w hS=>ZZ (x:=.tmp 9) (n:=1) (by kernel_rfl) (hF.ev 9 _ rfl) rfl) hS (fun a hF=>?_)
  rw[show cond true (.bool (ZM f.t.n x.up).isSome) undef=.bool (ZM f.t.n x.up).isSome from rfl]at hF
  refine wpAnyH_all (rs:=[10]) (by kernel_rfl) (by simp) fun j hj=>?_
  obtain rfl:j=10:=by simpa using hj
  refine hdo (i:=10) (o:=Zp[10]'(show 10<Zp.size by rw[ZC];decide)) hF 7 (ptr wc.heap.size 0) (wc.alloc (.cells Zk.cells 89)) (Array.getElem?_eq_getElem (show 10<Zp.size by rw[ZC];decide)) (by kernel_rfl) (by decide) (Z2 (by kernel_rfl)) (Z1t (t:=89) (z:=.agg Zk.cells) (by kernel_rfl) (by kernel_rfl)) (fun a hF=>?_)
  have hb:=(Below.refl wc.heap.size wc).alloc (Nat.le_refl _) (.cells Zk.cells 89)
  have gA:=hS.size
  have fA:=heap_alloc_new wc (.cells Zk.cells 89)
  replace hS:=hS.trans (hb.mono hS.size)
  refine⟨hS,?_⟩
  clear hb
  generalize wc.alloc (.cells Zk.cells 89)=wca at hS fA ⊢
  generalize wc.heap.size=g at fA gA hF
  refine wpAnyH_all (rs:=[11]) (by kernel_rfl) (by simp) fun j hj=>?_
  obtain rfl:j=11:=by simpa using hj
  refine Z6Y (o:=Zp[11]'(show 11<Zp.size by rw[ZC];decide)) (wca.setRow g (Z1M f.t.n x.up).cells) (Array.getElem?_eq_getElem (show 11<Zp.size by rw[ZC];decide)) (by kernel_rfl) (Z2 (by kernel_rfl)) (Z1u (t:=89) (x:=.tmp 7) (y:=.tmp 17) (by kernel_rfl) (hF.ev 7 _ rfl) (hF.ev 17 _ rfl) fA (by kernel_rfl) rfl (Zw _)) ?_
  have hS3:=below_setRow (g:=g) hS gA (Z1M f.t.n x.up).cells
  refine⟨hS3,?_⟩
  have fA3:=setRow_heap wca g _ (Z1M f.t.n x.up).cells _ _ fA
  generalize wca.setRow g (Z1M f.t.n x.up).cells=wz at hS3 fA3 ⊢
  refine hst (i:=12) (o:=Zp[12]'(show 12<Zp.size by rw[ZC];decide)) hF 8 true (.bool (ZM f.t.n x.up).isSome) (Array.getElem?_eq_getElem (show 12<Zp.size by rw[ZC];decide)) (by kernel_rfl) (by decide) (by kernel_rfl) (by kernel_rfl) (by kernel_rfl) (hQ _ _) (Z2 (by kernel_rfl)) (fun hW w hS=>Z5 (x:=.tmp 18) (.inr (by kernel_rfl)) (hF.ev 18 _ rfl)) hS3 (fun a hF=>?_)
  rw[show cond true (.bool (ZM f.t.n x.up).isSome) undef=.bool (ZM f.t.n x.up).isSome from rfl]at hF
  exact wpAnyH_done (by kernel_rfl) (hE _ _ g (hF.sub ((8,.bool (ZM f.t.n x.up).isSome) ::(7,ptr g 0) :: [(0,ptr b 0),(5,ptr k5 0),(1,v1)]) ⟨rfl,rfl,rfl,rfl,rfl,trivial⟩) hS3 fA3 gA) _
 ·skip
  refine hdo (i:=10) (o:=Zp[10]'(show 10<Zp.size by rw[ZC];decide)) hF 7 (ptr w.heap.size 0) (w.alloc (.cells Zk.cells 89)) (Array.getElem?_eq_getElem (show 10<Zp.size by rw[ZC];decide)) (by kernel_rfl) (by decide) (Z2 (by kernel_rfl)) (Z1t (t:=89) (z:=.agg Zk.cells) (by kernel_rfl) (by kernel_rfl)) (fun a hF=>?_)
  have hb:=(Below.refl w.heap.size w).alloc (Nat.le_refl _) (.cells Zk.cells 89)
  have gA:=hS.size
  have fA:=heap_alloc_new w (.cells Zk.cells 89)
  replace hS:=hS.trans (hb.mono hS.size)
  refine⟨hS,?_⟩
  clear hb
  generalize w.alloc (.cells Zk.cells 89)=wa at hS fA ⊢
  generalize w.heap.size=g at fA gA hF
  refine wpAnyH_all (rs:=[6]) (by kernel_rfl) (by simp) fun j hj=>?_
  obtain rfl:j=6:=by simpa using hj
  refine Z80 (i:=6) (o:=Zp[6]'(show 6<Zp.size by rw[ZC];decide)) (R:=fun v w'=>v=.tuple #[.agg (Z1M f.t.n x.up).cells,.bool (ZM f.t.n x.up).isSome]∧Below wa.heap.size wa w') hF 16 (Array.getElem?_eq_getElem (show 6<Zp.size by rw[ZC];decide)) (by kernel_rfl) (by decide) (Z2 (by kernel_rfl)) ⟨45,#[.agg #[.int .u64 ((f.t.next:Nat):Int),.slice a0 f.t.n.length c0],.int .u64 ((x.up:Nat):Int)],Z2j (x:=.tmp 13) (y:=.tmp 15) (fn:=45) (t:=30) (u:=27) rfl (by kernel_rfl) (by kernel_rfl) (hF.ev 13 _ rfl) (hF.ev 15 _ rfl),(Z22 _ f.t.next f.t.n x.up wa (hFo.below hS).row ht.sort (by have:=ht.few;omega)).mono (by rintro e w' ⟨rfl,h⟩;exact⟨_,rfl,rfl,h⟩)⟩ ?_
  rintro _ a wac ⟨rfl,hb⟩ hF
  replace hS:=hS.trans (hb.mono hS.size)
  replace fA:=(hb.block _ (lt_of_block fA)).trans fA
  refine⟨hS,?_⟩
  clear hb
  refine hst (i:=7) (o:=Zp[7]'(show 7<Zp.size by rw[ZC];decide)) hF 9 true (.tuple #[.agg (Z1M f.t.n x.up).cells,.bool (ZM f.t.n x.up).isSome]) (Array.getElem?_eq_getElem (show 7<Zp.size by rw[ZC];decide)) (by kernel_rfl) (by decide) (by kernel_rfl) (by kernel_rfl) (by kernel_rfl) (hQ _ _) (Z2 (by kernel_rfl)) (fun hW w hS=>Z5 (x:=.tmp 16) (.inl (by kernel_rfl)) (hF.ev 16 _ rfl)) hS (fun a hF=>?_)
  rw[show cond true (.tuple #[.agg (Z1M f.t.n x.up).cells,.bool (ZM f.t.n x.up).isSome]) undef=.tuple #[.agg (Z1M f.t.n x.up).cells,.bool (ZM f.t.n x.up).isSome] from rfl]at hF
  refine hst (i:=8) (o:=Zp[8]'(show 8<Zp.size by rw[ZC];decide)) hF 17 true (.agg (Z1M f.t.n x.up).cells) (Array.getElem?_eq_getElem (show 8<Zp.size by rw[ZC];decide)) (by kernel_rfl) (by decide) (by kernel_rfl) (by kernel_rfl) (by kernel_rfl) (hQ _ _) (Z2 (by kernel_rfl)) (fun hW w hS=>ZZ (x:=.tmp 9) (n:=0) (by kernel_rfl) (hF.ev 9 _ rfl) rfl) hS (fun a hF=>?_)
  rw[show cond true (.agg (Z1M f.t.n x.up).cells) undef=.agg (Z1M f.t.n x.up).cells from rfl]at hF
  refine hst (i:=9) (o:=Zp[9]'(show 9<Zp.size by rw[ZC];decide)) hF 18 true (.bool (ZM f.t.n x.up).isSome) (Array.getElem?_eq_getElem (show 9<Zp.size by rw[ZC];decide)) (by kernel_rfl) (by decide) (by kernel_rfl) (by kernel_rfl) (by kernel_rfl) (hQ _ _) (Z2 (by kernel_rfl)) (fun hW w hS=>ZZ (x:=.tmp 9) (n:=1) (by kernel_rfl) (hF.ev 9 _ rfl) rfl) hS (fun a hF=>?_)
  rw[show cond true (.bool (ZM f.t.n x.up).isSome) undef=.bool (ZM f.t.n x.up).isSome from rfl]at hF
  refine wpAnyH_all (rs:=[11]) (by kernel_rfl) (by simp) fun j hj=>?_
  obtain rfl:j=11:=by simpa using hj
  refine Z6Y (o:=Zp[11]'(show 11<Zp.size by rw[ZC];decide)) (wac.setRow g (Z1M f.t.n x.up).cells) (Array.getElem?_eq_getElem (show 11<Zp.size by rw[ZC];decide)) (by kernel_rfl) (Z2 (by kernel_rfl)) (Z1u (t:=89) (x:=.tmp 7) (y:=.tmp 17) (by kernel_rfl) (hF.ev 7 _ rfl) (hF.ev 17 _ rfl) fA (by kernel_rfl) rfl (Zw _)) ?_
  have hS3:=below_setRow (g:=g) hS gA (Z1M f.t.n x.up).cells
  refine⟨hS3,?_⟩
  have fA3:=setRow_heap wac g _ (Z1M f.t.n x.up).cells _ _ fA
  generalize wac.setRow g (Z1M f.t.n x.up).cells=wz at hS3 fA3 ⊢
  refine hst (i:=12) (o:=Zp[12]'(show 12<Zp.size by rw[ZC];decide)) hF 8 true (.bool (ZM f.t.n x.up).isSome) (Array.getElem?_eq_getElem (show 12<Zp.size by rw[ZC];decide)) (by kernel_rfl) (by decide) (by kernel_rfl) (by kernel_rfl) (by kernel_rfl) (hQ _ _) (Z2 (by kernel_rfl)) (fun hW w hS=>Z5 (x:=.tmp 18) (.inr (by kernel_rfl)) (hF.ev 18 _ rfl)) hS3 (fun a hF=>?_)
  rw[show cond true (.bool (ZM f.t.n x.up).isSome) undef=.bool (ZM f.t.n x.up).isSome from rfl]at hF
  exact wpAnyH_done (by kernel_rfl) (hE _ _ g (hF.sub ((8,.bool (ZM f.t.n x.up).isSome) ::(7,ptr g 0) :: [(0,ptr b 0),(5,ptr k5 0),(1,v1)]) ⟨rfl,rfl,rfl,rfl,rfl,trivial⟩) hS3 fA3 gA) _
noncomputable def Zz:Array Oper:=match Tryz.f47.body with | some c=>(Z1i c).getD 2 #[] | none=>#[]
theorem ZL:Zz.size=16:=by kernel_rfl
set_option maxHeartbeats 4000000 in
theorem Zbf {w1:World} {b k5 k7 m p n:Nat} {v:Value} {f:FsV} {u:Usr} {x d:Nod} {who:ByteArray} {ok:Bool} (hFo:FSo w1 b m v p f u n) (hub:UB u.us u.gs) (hx:w1.heap[k5]?=some (.cells x.cells 89 (0,0))) (hd:w1.heap[k7]?=some (.cells d.cells 89 (0,0))) (hdk:ok=true→NodOk d)  {v0:Value} {Q:Exit→Act→World→Prop} {a:Act} {w:World} (hQ : ∀ d u c a w,Q (.panic c) (a.put d u) w→Q (.panic c) a w) (hF:FrL 34 [(0,ptr b 0),(1,.string who),(5,ptr k5 0),(7,ptr k7 0),(8,.bool ok)] a) (hS:(Below w1.heap.size w1) w) (hE : ∀ a w',FrL 34 ((6,.bool (((!decide (x.path=1)) && ok) && (u.may who d 2))) :: [(0,ptr b 0),(1,.string who),(5,ptr k5 0),(7,ptr k7 0),(8,.bool ok)]) a→(Below w1.heap.size w1) w'→Q .normal a w'):wpAnyH Tryz.prog .any Zz Q ((Below w1.heap.size w1)) 16 (Array.replicate 16 false) a w:=by
 refine hst (i:=0) (o:=Zz[0]'(show 0<Zz.size by rw[ZL];decide)) hF 19 true (ptr k5 0) (Array.getElem?_eq_getElem (show 0<Zz.size by rw[ZL];decide)) (by kernel_rfl) (by decide) (by kernel_rfl) (by kernel_rfl) (by kernel_rfl) (hQ _ _) (Z2 (by kernel_rfl)) (fun hW w hS=>Zo (T:=89) (x:=.tmp 5) (f:=0) (by kernel_rfl) (hF.ev 5 (ptr k5 0) rfl) (by kernel_rfl)) hS (fun a hF=>?_)
 rw[show cond true (ptr k5 0) undef=ptr k5 0 from rfl]at hF
 refine hst (i:=1) (o:=Zz[1]'(show 1<Zz.size by rw[ZL];decide)) hF 20 true (.int .u64 ((x.path:Nat):Int)) (Array.getElem?_eq_getElem (show 1<Zz.size by rw[ZL];decide)) (by kernel_rfl) (by decide) (by kernel_rfl) (by kernel_rfl) (by kernel_rfl) (hQ _ _) (Z2 (by kernel_rfl)) (fun hW w hS=>Ze (ty:=27) (x:=.tmp 19) (by kernel_rfl) (hF.ev 19 (ptr k5 0) rfl) (Z1A (Z0 ((hS.block _ (lt_of_block hx)).trans hx) 0))) hS (fun a hF=>?_)
 rw[show cond true (.int .u64 ((x.path:Nat):Int)) undef=.int .u64 ((x.path:Nat):Int) from rfl]at hF
 refine hst (i:=2) (o:=Zz[2]'(show 2<Zz.size by rw[ZL];decide)) hF 21 true (.bool (!decide (x.path=1))) (Array.getElem?_eq_getElem (show 2<Zz.size by rw[ZL];decide)) (by kernel_rfl) (by decide) (by kernel_rfl) (by kernel_rfl) (by kernel_rfl) (hQ _ _) (Z2 (by kernel_rfl)) (fun hW w hS=>ZS (op:=.neq) (ty:=27) (ty2:=27) (x:=.tmp 20) (y:=.const (.int .u64 1)) (u:=.int .u64 ((x.path:Nat):Int)) (v:=.int .u64 ((1:Nat):Int)) (by kernel_rfl) (hF.ev 20 (.int .u64 ((x.path:Nat):Int)) rfl) (rfl) (by kernel_rfl) (Z41 _ _ w)) hS (fun a hF=>?_)
 rw[show cond true (.bool (!decide (x.path=1))) undef=.bool (!decide (x.path=1)) from rfl]at hF
 refine hst (i:=3) (o:=Zz[3]'(show 3<Zz.size by rw[ZL];decide)) hF 22 true (.bool (!decide (x.path=1))) (Array.getElem?_eq_getElem (show 3<Zz.size by rw[ZL];decide)) (by kernel_rfl) (by decide) (by kernel_rfl) (by kernel_rfl) (by kernel_rfl) (hQ _ _) (Z2 (by kernel_rfl)) (fun hW w hS=>Z5 (x:=.tmp 21) (.inl (by kernel_rfl)) (hF.ev 21 (.bool (!decide (x.path=1))) rfl)) hS (fun a hF=>?_)
 rw[show cond true (.bool (!decide (x.path=1))) undef=.bool (!decide (x.path=1)) from rfl]at hF
 refine hst (i:=4) (o:=Zz[4]'(show 4<Zz.size by rw[ZL];decide)) hF 23 ((!decide (x.path=1)) == true) (.bool ok) (Array.getElem?_eq_getElem (show 4<Zz.size by rw[ZL];decide)) (by kernel_rfl) (by decide) (by kernel_rfl) (by kernel_rfl) (by kernel_rfl) (hQ _ _) (Zh (gi:=3) (g:=22) (c:=(!decide (x.path=1))) hF (by kernel_rfl) (by kernel_rfl) rfl) (fun hW w hS=>Z5 (x:=.tmp 8) (.inl (by kernel_rfl)) (hF.ev 8 (.bool ok) rfl)) hS (fun a hF=>?_)
 refine hst (i:=5) (o:=Zz[5]'(show 5<Zz.size by rw[ZL];decide)) hF 24 true (.bool ((!decide (x.path=1)) && ok)) (Array.getElem?_eq_getElem (show 5<Zz.size by rw[ZL];decide)) (by kernel_rfl) (by decide) (by kernel_rfl) (by kernel_rfl) (by kernel_rfl) (hQ _ _) (Z2 (by kernel_rfl)) (fun hW w hS=>Z2y (z:=.const (.bool false)) (x:=.tmp 22) (c:=(!decide (x.path=1))) (b:=ok) (by kernel_rfl) (hF.ev 22 _ rfl) (hF.ev 23 (cond ((!decide (x.path=1)) == true) (.bool ok) undef) rfl) rfl) hS (fun a hF=>?_)
 rw[show cond true (.bool ((!decide (x.path=1)) && ok)) undef=.bool ((!decide (x.path=1)) && ok) from rfl]at hF
 refine hst (i:=6) (o:=Zz[6]'(show 6<Zz.size by rw[ZL];decide)) hF 25 true (.bool ((!decide (x.path=1)) && ok)) (Array.getElem?_eq_getElem (show 6<Zz.size by rw[ZL];decide)) (by kernel_rfl) (by decide) (by kernel_rfl) (by kernel_rfl) (by kernel_rfl) (hQ _ _) (Z2 (by kernel_rfl)) (fun hW w hS=>Z5 (x:=.tmp 24) (.inl (by kernel_rfl)) (hF.ev 24 (.bool ((!decide (x.path=1)) && ok)) rfl)) hS (fun a hF=>?_)
 rw[show cond true (.bool ((!decide (x.path=1)) && ok)) undef=.bool ((!decide (x.path=1)) && ok) from rfl]at hF
 refine hst (i:=7) (o:=Zz[7]'(show 7<Zz.size by rw[ZL];decide)) hF 26 (((!decide (x.path=1)) && ok) == true) (ptr b 0) (Array.getElem?_eq_getElem (show 7<Zz.size by rw[ZL];decide)) (by kernel_rfl) (by decide) (by kernel_rfl) (by kernel_rfl) (by kernel_rfl) (hQ _ _) (Zh (gi:=6) (g:=25) (c:=((!decide (x.path=1)) && ok)) hF (by kernel_rfl) (by kernel_rfl) rfl) (fun hW w hS=>Z5 (x:=.tmp 0) (.inl (by kernel_rfl)) (hF.ev 0 (ptr b 0) rfl)) hS (fun a hF=>?_)
 refine hst (i:=8) (o:=Zz[8]'(show 8<Zz.size by rw[ZL];decide)) hF 27 (((!decide (x.path=1)) && ok) == true) (ptr b 0) (Array.getElem?_eq_getElem (show 8<Zz.size by rw[ZL];decide)) (by kernel_rfl) (by decide) (by kernel_rfl) (by kernel_rfl) (by kernel_rfl) (hQ _ _) (Zh (gi:=6) (g:=25) (c:=((!decide (x.path=1)) && ok)) hF (by kernel_rfl) (by kernel_rfl) rfl) (fun hW w hS=>Z2z (x:=.tmp 26) (by kernel_rfl) ((hF.ev 26 (cond (((!decide (x.path=1)) && ok) == true) (ptr b 0) undef) rfl).trans (Zl hW))) hS (fun a hF=>?_)
 refine hst (i:=9) (o:=Zz[9]'(show 9<Zz.size by rw[ZL];decide)) hF 28 (((!decide (x.path=1)) && ok) == true) (ptr b 2) (Array.getElem?_eq_getElem (show 9<Zz.size by rw[ZL];decide)) (by kernel_rfl) (by decide) (by kernel_rfl) (by kernel_rfl) (by kernel_rfl) (hQ _ _) (Zh (gi:=6) (g:=25) (c:=((!decide (x.path=1)) && ok)) hF (by kernel_rfl) (by kernel_rfl) rfl) (fun hW w hS=>Zo (T:=93) (x:=.tmp 27) (f:=1) (by kernel_rfl) ((hF.ev 27 (cond (((!decide (x.path=1)) && ok) == true) (ptr b 0) undef) rfl).trans (Zl hW)) (by kernel_rfl)) hS (fun a hF=>?_)
 refine hst (i:=10) (o:=Zz[10]'(show 10<Zz.size by rw[ZL];decide)) hF 29 (((!decide (x.path=1)) && ok) == true) (ptr p 0) (Array.getElem?_eq_getElem (show 10<Zz.size by rw[ZL];decide)) (by kernel_rfl) (by decide) (by kernel_rfl) (by kernel_rfl) (by kernel_rfl) (hQ _ _) (Zh (gi:=6) (g:=25) (c:=((!decide (x.path=1)) && ok)) hF (by kernel_rfl) (by kernel_rfl) rfl) (fun hW w hS=>Ze (ty:=76) (x:=.tmp 28) (by kernel_rfl) ((hF.ev 28 (cond (((!decide (x.path=1)) && ok) == true) (ptr b 2) undef) rfl).trans (Zl hW)) (ZcV (Z0 (hFo.below hS).blk 2))) hS (fun a hF=>?_)
 refine hst (i:=11) (o:=Zz[11]'(show 11<Zz.size by rw[ZL];decide)) hF 30 (((!decide (x.path=1)) && ok) == true) (.string who) (Array.getElem?_eq_getElem (show 11<Zz.size by rw[ZL];decide)) (by kernel_rfl) (by decide) (by kernel_rfl) (by kernel_rfl) (by kernel_rfl) (hQ _ _) (Zh (gi:=6) (g:=25) (c:=((!decide (x.path=1)) && ok)) hF (by kernel_rfl) (by kernel_rfl) rfl) (fun hW w hS=>Z5 (x:=.tmp 1) (.inl (by kernel_rfl)) (hF.ev 1 (.string who) rfl)) hS (fun a hF=>?_)
 refine hst (i:=12) (o:=Zz[12]'(show 12<Zz.size by rw[ZL];decide)) hF 31 (((!decide (x.path=1)) && ok) == true) (.agg d.cells) (Array.getElem?_eq_getElem (show 12<Zz.size by rw[ZL];decide)) (by kernel_rfl) (by decide) (by kernel_rfl) (by kernel_rfl) (by kernel_rfl) (hQ _ _) (Zh (gi:=6) (g:=25) (c:=((!decide (x.path=1)) && ok)) hF (by kernel_rfl) (by kernel_rfl) rfl) (fun hW w hS=>Ze (ty:=89) (x:=.tmp 7) (by kernel_rfl) (hF.ev 7 (ptr k7 0) rfl) (Z4R (Z34 ((hS.block _ (lt_of_block hd)).trans hd)))) hS (fun a hF=>?_)
 refine Z2C (i:=13) (o:=Zz[13]'(show 13<Zz.size by rw[ZL];decide)) hF 32 (((!decide (x.path=1)) && ok) == true) (.bool (u.may who d 2)) (Array.getElem?_eq_getElem (show 13<Zz.size by rw[ZL];decide)) (by kernel_rfl) (by decide) (by kernel_rfl) (Zh (gi:=6) (g:=25) (c:=((!decide (x.path=1)) && ok)) hF (by kernel_rfl) (by kernel_rfl) rfl) (fun hW=>⟨39,#[ptr p 0,.string who,.agg d.cells,.int .u32 ((2:Nat):Int)],Z43 (fn:=39) (y2:=.const (.int .u32 2)) (t:=76) (u:=9) (s:=89) (r:=32) rfl (by kernel_rfl) (by kernel_rfl) ((hF.ev 29 (cond (((!decide (x.path=1)) && ok) == true) (ptr p 0) undef) rfl).trans (Zl hW)) ((hF.ev 30 (cond (((!decide (x.path=1)) && ok) == true) (.string who) undef) rfl).trans (Zl hW)) ((hF.ev 31 (cond (((!decide (x.path=1)) && ok) == true) (.agg d.cells) undef) rfl).trans (Zl hW)) (rfl),(Z4n p u.us u.gs who d 2 w (hFo.below hS).tabs hub (hdk (by revert hW;cases ok <;> simp)) (by omega)).mono (by rintro e w' ⟨rfl,hb⟩;exact⟨rfl,hS.trans (hb.mono hS.size)⟩)⟩) hS (fun a w hF hS=>?_)
 refine hst (i:=14) (o:=Zz[14]'(show 14<Zz.size by rw[ZL];decide)) hF 33 true (.bool (((!decide (x.path=1)) && ok) && (u.may who d 2))) (Array.getElem?_eq_getElem (show 14<Zz.size by rw[ZL];decide)) (by kernel_rfl) (by decide) (by kernel_rfl) (by kernel_rfl) (by kernel_rfl) (hQ _ _) (Z2 (by kernel_rfl)) (fun hW w hS=>Z2y (z:=.const (.bool false)) (x:=.tmp 25) (c:=((!decide (x.path=1)) && ok)) (b:=(u.may who d 2)) (by kernel_rfl) (hF.ev 25 _ rfl) (hF.ev 32 (cond (((!decide (x.path=1)) && ok) == true) (.bool (u.may who d 2)) undef) rfl) rfl) hS (fun a hF=>?_)
 rw[show cond true (.bool (((!decide (x.path=1)) && ok) && (u.may who d 2))) undef=.bool (((!decide (x.path=1)) && ok) && (u.may who d 2)) from rfl]at hF
 refine hst (i:=15) (o:=Zz[15]'(show 15<Zz.size by rw[ZL];decide)) hF 6 true (.bool (((!decide (x.path=1)) && ok) && (u.may who d 2))) (Array.getElem?_eq_getElem (show 15<Zz.size by rw[ZL];decide)) (by kernel_rfl) (by decide) (by kernel_rfl) (by kernel_rfl) (by kernel_rfl) (hQ _ _) (Z2 (by kernel_rfl)) (fun hW w hS=>Z5 (x:=.tmp 33) (.inr (by kernel_rfl)) (hF.ev 33 (.bool (((!decide (x.path=1)) && ok) && (u.may who d 2))) rfl)) hS (fun a hF=>?_)
 rw[show cond true (.bool (((!decide (x.path=1)) && ok) && (u.may who d 2))) undef=.bool (((!decide (x.path=1)) && ok) && (u.may who d 2)) from rfl]at hF
 exact wpAnyH_done (by kernel_rfl) (hE _ _ (hF.sub ((6,.bool (((!decide (x.path=1)) && ok) && (u.may who d 2))) :: [(0,ptr b 0),(1,.string who),(5,ptr k5 0),(7,ptr k7 0),(8,.bool ok)]) ⟨rfl,rfl,rfl,rfl,rfl,rfl,trivial⟩) hS) _
set_option maxHeartbeats 3200000 in
theorem Z5i (b m p n:Nat) (v:Value) (f:FsV) (u:Usr) (who:ByteArray) (x:Nod) (w:World) (h:FSo w b m v p f u n) (ht:TrOk f.t.n) (hub:UB u.us u.gs) :
  Calls Tryz.prog 47 #[.pointer (some ⟨b,0,none⟩),.string who,.agg x.cells] w fun e w'=>e=.returned (.bool (Z2H u f who x))∧Below w.heap.size w w':=by
 have mixed:Tryz.prog.follows Departure.mixedOrders=true:=by first | kernel_rfl | decide
 obtain⟨a0,c0,rfl,g1,g2⟩:=h.row.form
 obtain⟨W,hW⟩ : ∃ W,W=w.alloc (.cells x.cells 89):=⟨_,rfl⟩
 have hb0:Below w.heap.size w W:=by rw[hW];exact(Below.refl _ _).alloc (Nat.le_refl _) _
 have hX0:W.heap[w.heap.size]?=some (.cells x.cells 89 (0,0)):=by rw[hW];exact heap_alloc_new _ _
 have hF0:=hid ((h.below hb0).below ((Below.refl _ _).drew))
 have hX:=hid (show W.drew.heap[w.heap.size]?=some (.cells x.cells 89 (0,0)) from hX0)
 have hB0:=hid (sn hb0 ((Below.refl _ _).drew))
 have hE:Hid (Z2H u f who x=(((!decide (x.path=1)) && (ZM f.t.n x.up).isSome) && (u.may who (Z1M f.t.n x.up) 2))):=hid (by
  unfold Z2H Z1M
  cases ZM f.t.n x.up with
  | none=>simp
  | some d=>by_cases hp:x.path=1 <;> simp[hp])
 clear h hb0 hX0
 go_enter Tryz.func47,Tryz.ntmps47
 go_upto_region 1 with (rw[←hW];replace hW:=hid hW)
 try (rw[←hW];replace hW:=hid hW)
 refine wp_region_held (S:=Below W.drew.heap.size W.drew) mixed ?_
 refine(show wpAnyH Tryz.prog .any Zp _ _ _ _ _ _→_ from fun h=>h) ?_
 refine Zbe (w1:=W.drew) (k5:=w.heap.size) hF0.out hX.out ht (fun d u c a w h=>by cases d <;> exact h) (FrL.of_all (by rfl) rfl ⟨rfl,rfl,rfl,trivial⟩) (Below.refl _ _) (fun a w1 g hF hS f1 f2=>?_)
 have he:=Z1n hF [.pointer (some ⟨b,0,none⟩),.string who,a.tmps.getD 2 undef,a.tmps.getD 3 undef,a.tmps.getD 4 undef,.pointer (some ⟨w.heap.size,0,none⟩),a.tmps.getD 6 undef,.pointer (some ⟨g,0,none⟩),.bool (ZM f.t.n x.up).isSome,a.tmps.getD 9 undef,a.tmps.getD 10 undef,a.tmps.getD 11 undef,a.tmps.getD 12 undef,a.tmps.getD 13 undef,a.tmps.getD 14 undef,a.tmps.getD 15 undef,a.tmps.getD 16 undef,a.tmps.getD 17 undef,a.tmps.getD 18 undef,a.tmps.getD 19 undef,a.tmps.getD 20 undef,a.tmps.getD 21 undef,a.tmps.getD 22 undef,a.tmps.getD 23 undef,a.tmps.getD 24 undef,a.tmps.getD 25 undef,a.tmps.getD 26 undef,a.tmps.getD 27 undef,a.tmps.getD 28 undef,a.tmps.getD 29 undef,a.tmps.getD 30 undef,a.tmps.getD 31 undef,a.tmps.getD 32 undef,a.tmps.getD 33 undef] (by rfl) ⟨hF.get 0 _ rfl,hF.get 1 _ rfl,hF.any 2 (by decide),hF.any 3 (by decide),hF.any 4 (by decide),hF.get 5 _ rfl,hF.any 6 (by decide),hF.get 7 _ rfl,hF.get 8 _ rfl,hF.any 9 (by decide),hF.any 10 (by decide),hF.any 11 (by decide),hF.any 12 (by decide),hF.any 13 (by decide),hF.any 14 (by decide),hF.any 15 (by decide),hF.any 16 (by decide),hF.any 17 (by decide),hF.any 18 (by decide),hF.any 19 (by decide),hF.any 20 (by decide),hF.any 21 (by decide),hF.any 22 (by decide),hF.any 23 (by decide),hF.any 24 (by decide),hF.any 25 (by decide),hF.any 26 (by decide),hF.any 27 (by decide),hF.any 28 (by decide),hF.any 29 (by decide),hF.any 30 (by decide),hF.any 31 (by decide),hF.any 32 (by decide),hF.any 33 (by decide),trivial⟩
 rw[he]
 clear he hF
 generalize a.tmps.getD 2 undef=y2
 generalize a.tmps.getD 3 undef=y3
 generalize a.tmps.getD 4 undef=y4
 generalize a.tmps.getD 6 undef=y6
 generalize a.tmps.getD 9 undef=y9
 generalize a.tmps.getD 10 undef=y10
 generalize a.tmps.getD 11 undef=y11
 generalize a.tmps.getD 12 undef=y12
 generalize a.tmps.getD 13 undef=y13
 generalize a.tmps.getD 14 undef=y14
 generalize a.tmps.getD 15 undef=y15
 generalize a.tmps.getD 16 undef=y16
 generalize a.tmps.getD 17 undef=y17
 generalize a.tmps.getD 18 undef=y18
 generalize a.tmps.getD 19 undef=y19
 generalize a.tmps.getD 20 undef=y20
 generalize a.tmps.getD 21 undef=y21
 generalize a.tmps.getD 22 undef=y22
 generalize a.tmps.getD 23 undef=y23
 generalize a.tmps.getD 24 undef=y24
 generalize a.tmps.getD 25 undef=y25
 generalize a.tmps.getD 26 undef=y26
 generalize a.tmps.getD 27 undef=y27
 generalize a.tmps.getD 28 undef=y28
 generalize a.tmps.getD 29 undef=y29
 generalize a.tmps.getD 30 undef=y30
 generalize a.tmps.getD 31 undef=y31
 generalize a.tmps.getD 32 undef=y32
 generalize a.tmps.getD 33 undef=y33
 clear a
 have hd:Hid (w1.drew.heap[g]?=some (.cells (Z1M f.t.n x.up).cells 89 (0,0))):=hid f1
 have hX2:=hid (show w1.drew.heap[w.heap.size]?=some (.cells x.cells 89 (0,0)) from(hS.block _ (lt_of_block hX.out)).trans hX.out)
 have hF2:=hid ((hF0.out.below hS).below ((Below.refl _ _).drew))
 have hB2:=hid (sn (sn hB0.out hS) ((Below.refl _ _).drew))
 have hdk:Hid ((ZM f.t.n x.up).isSome=true→NodOk (Z1M f.t.n x.up)):=hid (by
  intro hs
  obtain⟨d,hd⟩:=Option.isSome_iff_exists.1 hs
  unfold Z1M
  rw[hd]
  exact ht.ok d (Zr hd).1)
 clear hS f1 f2 hF0 hX hB0
 go_upto_region 2 with fail
 refine wp_region_held (S:=Below w1.drew.heap.size w1.drew) mixed ?_
 refine(show wpAnyH Tryz.prog .any Zz _ _ _ _ _ _→_ from fun h=>h) ?_
 refine Zbf (w1:=w1.drew) (v0:=undef) (k5:=w.heap.size) (k7:=g) hF2.out hub hX2.out hd.out hdk.out (fun d u c a w h=>by cases d <;> exact h) (FrL.of_all (by rfl) rfl ⟨rfl,rfl,rfl,rfl,rfl,trivial⟩) (Below.refl _ _) (fun a w2 hF hS=>?_)
 have he:=Z1n hF [a.tmps.getD 0 undef,a.tmps.getD 1 undef,a.tmps.getD 2 undef,a.tmps.getD 3 undef,a.tmps.getD 4 undef,a.tmps.getD 5 undef,.bool (((!decide (x.path=1)) && (ZM f.t.n x.up).isSome) && (u.may who (Z1M f.t.n x.up) 2)),a.tmps.getD 7 undef,a.tmps.getD 8 undef,a.tmps.getD 9 undef,a.tmps.getD 10 undef,a.tmps.getD 11 undef,a.tmps.getD 12 undef,a.tmps.getD 13 undef,a.tmps.getD 14 undef,a.tmps.getD 15 undef,a.tmps.getD 16 undef,a.tmps.getD 17 undef,a.tmps.getD 18 undef,a.tmps.getD 19 undef,a.tmps.getD 20 undef,a.tmps.getD 21 undef,a.tmps.getD 22 undef,a.tmps.getD 23 undef,a.tmps.getD 24 undef,a.tmps.getD 25 undef,a.tmps.getD 26 undef,a.tmps.getD 27 undef,a.tmps.getD 28 undef,a.tmps.getD 29 undef,a.tmps.getD 30 undef,a.tmps.getD 31 undef,a.tmps.getD 32 undef,a.tmps.getD 33 undef] (by rfl) ⟨hF.any 0 (by decide),hF.any 1 (by decide),hF.any 2 (by decide),hF.any 3 (by decide),hF.any 4 (by decide),hF.any 5 (by decide),hF.get 6 _ rfl,hF.any 7 (by decide),hF.any 8 (by decide),hF.any 9 (by decide),hF.any 10 (by decide),hF.any 11 (by decide),hF.any 12 (by decide),hF.any 13 (by decide),hF.any 14 (by decide),hF.any 15 (by decide),hF.any 16 (by decide),hF.any 17 (by decide),hF.any 18 (by decide),hF.any 19 (by decide),hF.any 20 (by decide),hF.any 21 (by decide),hF.any 22 (by decide),hF.any 23 (by decide),hF.any 24 (by decide),hF.any 25 (by decide),hF.any 26 (by decide),hF.any 27 (by decide),hF.any 28 (by decide),hF.any 29 (by decide),hF.any 30 (by decide),hF.any 31 (by decide),hF.any 32 (by decide),hF.any 33 (by decide),trivial⟩
 rw[he]
 clear he hF
 generalize a.tmps.getD 0 undef=y0
 generalize a.tmps.getD 1 undef=y1
 generalize a.tmps.getD 2 undef=y2
 generalize a.tmps.getD 3 undef=y3
 generalize a.tmps.getD 4 undef=y4
 generalize a.tmps.getD 5 undef=y5
 generalize a.tmps.getD 7 undef=y7
 generalize a.tmps.getD 8 undef=y8
 generalize a.tmps.getD 9 undef=y9
 generalize a.tmps.getD 10 undef=y10
 generalize a.tmps.getD 11 undef=y11
 generalize a.tmps.getD 12 undef=y12
 generalize a.tmps.getD 13 undef=y13
 generalize a.tmps.getD 14 undef=y14
 generalize a.tmps.getD 15 undef=y15
 generalize a.tmps.getD 16 undef=y16
 generalize a.tmps.getD 17 undef=y17
 generalize a.tmps.getD 18 undef=y18
 generalize a.tmps.getD 19 undef=y19
 generalize a.tmps.getD 20 undef=y20
 generalize a.tmps.getD 21 undef=y21
 generalize a.tmps.getD 22 undef=y22
 generalize a.tmps.getD 23 undef=y23
 generalize a.tmps.getD 24 undef=y24
 generalize a.tmps.getD 25 undef=y25
 generalize a.tmps.getD 26 undef=y26
 generalize a.tmps.getD 27 undef=y27
 generalize a.tmps.getD 28 undef=y28
 generalize a.tmps.getD 29 undef=y29
 generalize a.tmps.getD 30 undef=y30
 generalize a.tmps.getD 31 undef=y31
 generalize a.tmps.getD 32 undef=y32
 generalize a.tmps.getD 33 undef=y33
 clear a
 go_wp2_with fail
 go_ret
 rw[hE.out]
 exact⟨rfl,sn hB2.out hS⟩
end
section
open Go.RowKit Go.Maps
theorem Z1E (b m p n:Nat) (v v':Value) (f:FsV) (u:Usr) (t:Tr) (w:World) (h:FSo w b m v p f u n) (hv:Z3 w v' t.n) (n1:v'.ownBlock≠some b) (n2:v'.ownBlock≠some m) :
  Calls Tryz.prog 43 #[.pointer (some ⟨b,0,none⟩),.agg #[.int .u64 (t.next:Int),v'],.int .i64 0] w fun e w'=>e=.returned (.tuple #[])∧FSo w' b m v' p (f.set t) u n∧FStep b m w w':=by
 obtain⟨a',c',rfl,_,_⟩:=hv.form
 obtain⟨X,hX⟩ : ∃ X,X=w.alloc (.cells #[.int .u64 (t.next:Int),.slice a' t.n.length c'] 30):=⟨_,rfl⟩
 have hXn:X.heap[w.heap.size]?=some (.cells #[.int .u64 (t.next:Int),.slice a' t.n.length c'] 30 (0,0)):=by rw[hX];exact heap_alloc_new _ _
 have hXb:Below w.heap.size w X:=by rw[hX];exact(Below.refl _ _).alloc (Nat.le_refl _) _
 have hFX:=h.below hXb
 have x0:X.cell? ⟨w.heap.size,0,none⟩=some (.int .u64 (t.next:Int)):=Z0 hXn 0
 have x1:X.cell? ⟨w.heap.size,1,none⟩=some (.slice a' t.n.length c'):=Z0 hXn 1
 have b0:=Zb hFX.blk 0
 have c0:=Z0 hFX.blk 0
 have hs1:=Zg hFX.blk 0 (.int .u64 (t.next:Int))
 have b1:(X.setCell ⟨b,0,none⟩ (.int .u64 (t.next:Int))).frozen? ⟨b,1,none⟩=false:=Zb hs1 1
 have c1:(X.setCell ⟨b,0,none⟩ (.int .u64 (t.next:Int))).cell? ⟨b,1,none⟩=some _:=Z0 hs1 1
 have hF2:=hid (hFX.put t (hv.below hXb) n1 n2)
 have hS2:=hid ((FStep.pure (b:=b) (m:=m) hXb).trans (FStep.put (.int .u64 (t.next:Int)) (.slice a' t.n.length c')))
 have hmu:Hid (Calls Tryz.prog 37 #[.bool false,.int .i64 0] X fun x w'=>x=.returned (.tuple #[])∧w'=X):=hid (Z1h 0 X)
 clear hs1 hXb hXn h hv hFX n1 n2
 go_enter Tryz.func43,Tryz.ntmps43
 go_wp2_with (rw[←hX];replace hX:=hid hX)
 try (rw[←hX];replace hX:=hid hX)
 refine hmu.out.mono ?_
 rintro e w2 ⟨rfl,rfl⟩
 go_wp2_with fail
 go_end0
 exact⟨rfl,hF2.out,hS2.out⟩
theorem Z35 (b next E:Nat) (a:Option Addr) (l c:Nat) (w:World) (hE:E≠0) :
  Calls Tryz.prog 43 #[.pointer (some ⟨b,0,none⟩),.agg #[.int .u64 (next:Int),.slice a l c],.int .i64 (E:Int)] w fun e w'=>e=.panicked (ZY E)∧Below w.heap.size w w':=by
 have hB:=hid ((Below.refl w.heap.size w).alloc (Nat.le_refl _) (.cells #[.int .u64 (next:Int),.slice a l c] 30))
 have k0:((E:Int) != 0)=true:=by simpa using hE
 have hmu:=hid (fun X=>Z1g E X)
 go_enter Tryz.func43,Tryz.ntmps43
 go_wp2_with fail
 refine(hmu.out _).mono ?_
 rintro e w2 ⟨rfl,rfl⟩
 go_wp2_with fail
 exact⟨rfl,rfl,hB.out⟩
theorem Zbg (b m p n:Nat) (v:Value) (f:FsV) (u:Usr) (s:ByteArray) (w:World) (h:FSo w b m v p f u n) (hl:u.us.length<4611686018427387904) :
  Calls Tryz.prog 29 #[.pointer (some ⟨b,0,none⟩),.string s] w fun e w'=>e=.returned (.bool (Z5y u.us s))∧w'=w:=by
 have c2:=Z0 h.blk 2
 have hh:=hid (Z5z p u.us u.gs s w h.tabs hl)
 clear h
 go_enter Tryz.func29,Tryz.ntmps29
 go_wp2_with fail
 refine hh.out.mono ?_
 rintro e w1 ⟨rfl,rfl⟩
 go_wp2_with fail
 go_ret
 exact⟨rfl,rfl⟩
theorem Z5T (b m p n:Nat) (v:Value) (f:FsV) (u:Usr) (q:Nat) (x:Nod) (w:World) (h:FSo w b m v p f u n) (ht:TrOk f.t.n) (hg:ZM f.t.n q=some x) (hgo:x.gone=false) :
  Calls Tryz.prog 36 #[.pointer (some ⟨b,0,none⟩),.int .u64 (q:Int)] w fun e w'=>e=.returned (.agg x.cells)∧Below w.heap.size w w':=by
 obtain⟨W,hW⟩ : ∃ W,W=w.alloc (.cells Zk.cells 89):=⟨_,rfl⟩
 have hb0:Below w.heap.size w W:=by rw[hW];exact(Below.refl _ _).alloc (Nat.le_refl _) _
 have hR:=hid (show W.heap[w.heap.size]?=some (.cells Zk.cells 89 (0,0)) by rw[hW];exact heap_alloc_new _ _)
 have hga:=hid (Z4O b m p n v f u q x W (h.below hb0) ht hg)
 replace hb0:=hid hb0
 rw[Zc]at hW
 clear h hg ht
 go_enter Tryz.func36,Tryz.ntmps36
 go_wp2_with (rw[←hW];replace hW:=hid hW)
 try (rw[←hW];replace hW:=hid hW)
 refine hga.out.mono ?_
 rintro e w1 ⟨rfl,hb1⟩
 have hB1:=hid (sn hb0.out hb1)
 have hR1:=hid ((hb1.block _ (lt_of_block hR.out)).trans hR.out)
 have hnew:=hid (heap_alloc_new w1 (.cells Zk.cells 89))
 obtain⟨X,hX⟩ : ∃ W,W=Z1J w1 x:=⟨_,rfl⟩
 have hbX:Below w1.heap.size w1 X:=by rw[hX];exact ZD _ _
 have hBX:=hid (sn hB1.out hbX)
 have hRX:=hid ((hbX.block _ (lt_of_block hR1.out)).trans hR1.out)
 have hnX:=hid (show X.heap[w1.heap.size]?=some (.cells x.cells 89 (0,0)) by rw[hX];exact ZK _ _)
 have q10:X.cell? ⟨w1.heap.size,10,none⟩=some (.bool x.gone):=Z0 hnX.out 10
 rw[hgo]at q10
 unfold Z1J at hX
 rw[Zc]at hX hnew
 have hmu:Hid (Calls Tryz.prog 37 #[.bool false,.int .i64 6] X fun x w'=>x=.returned (.tuple #[])∧w'=X):=hid (Z1h 6 X)
 clear hb1 hbX hga
 go_wp2_with (first
  |(rw[←hX];replace hX:=hid hX)
  |(refine wpList_store_row (by rfl) 89 (.tmp 5) (.tmp 8) (by rfl) w1.heap.size x.cells (by rfl) (by rfl) 89 _ hnew.out (by kernel_rfl) (by kernel_rfl) (Zw x) ?_))
 try (rw[←hX];replace hX:=hid hX)
 refine hmu.out.mono ?_
 rintro e w2 ⟨rfl,rfl⟩
 clear hnew hmu
 go_wp2_with (first
  |(refine wpList_load_row (by rfl) 89 (.tmp 5) (by rfl) w1.heap.size (by rfl) 89 x.cells (0,0) _ hnX.out Tryz.underlying89 (by rfl) (by kernel_rfl) ?_)
  |(refine wpList_store_row (by rfl) 89 (.tmp 4) (.tmp 12) (by rfl) w.heap.size x.cells (by rfl) (by rfl) 89 _ hRX.out (by kernel_rfl) (by kernel_rfl) (Zw x) ?_))
 refine bodyPost_ret (results_cell_row rfl _ _ w.heap.size _ _ _ _ rfl (setRow_heap _ _ _ x.cells _ _ hRX.out) Tryz.underlying89 rfl (by kernel_rfl)) rfl ?_
 exact⟨rfl,below_setRow hBX.out (Nat.le_refl _) _⟩
theorem Z5U (b m p n:Nat) (v:Value) (f:FsV) (u:Usr) (q:Nat) (w:World) (h:FSo w b m v p f u n) (ht:TrOk f.t.n) (hg:ZM f.t.n q=none) :
  Calls Tryz.prog 36 #[.pointer (some ⟨b,0,none⟩),.int .u64 (q:Int)] w fun e w'=>e=.panicked (ZY 6)∧Below w.heap.size w w':=by
 obtain⟨W,hW⟩ : ∃ W,W=w.alloc (.cells Zk.cells 89):=⟨_,rfl⟩
 have hb0:Below w.heap.size w W:=by rw[hW];exact(Below.refl _ _).alloc (Nat.le_refl _) _
 have hga:=hid (Z5K b m p n v f u q W (h.below hb0) ht hg)
 replace hb0:=hid hb0
 rw[Zc]at hW
 clear h hg ht
 go_enter Tryz.func36,Tryz.ntmps36
 go_wp2_with (rw[←hW];replace hW:=hid hW)
 try (rw[←hW];replace hW:=hid hW)
 refine hga.out.mono ?_
 rintro e w1 ⟨rfl,hb1⟩
 have hB1:=hid (sn hb0.out hb1)
 clear hb1
 go_wp2_with fail
 exact⟨rfl,rfl,hB1.out⟩
theorem Z44 (b m p n:Nat) (v:Value) (f:FsV) (u:Usr) (q:Nat) (x:Nod) (w:World) (h:FSo w b m v p f u n) (ht:TrOk f.t.n) (hg:ZM f.t.n q=some x) (hgo:x.gone=true) :
  Calls Tryz.prog 36 #[.pointer (some ⟨b,0,none⟩),.int .u64 (q:Int)] w fun e w'=>e=.panicked (ZY 6)∧Below w.heap.size w w':=by
 obtain⟨W,hW⟩ : ∃ W,W=w.alloc (.cells Zk.cells 89):=⟨_,rfl⟩
 have hb0:Below w.heap.size w W:=by rw[hW];exact(Below.refl _ _).alloc (Nat.le_refl _) _
 have hga:=hid (Z4O b m p n v f u q x W (h.below hb0) ht hg)
 replace hb0:=hid hb0
 rw[Zc]at hW
 clear h hg ht
 go_enter Tryz.func36,Tryz.ntmps36
 go_wp2_with (rw[←hW];replace hW:=hid hW)
 try (rw[←hW];replace hW:=hid hW)
 refine hga.out.mono ?_
 rintro e w1 ⟨rfl,hb1⟩
 have hB1:=hid (sn hb0.out hb1)
 have hnew:=hid (heap_alloc_new w1 (.cells Zk.cells 89))
 obtain⟨X,hX⟩ : ∃ W,W=Z1J w1 x:=⟨_,rfl⟩
 have hbX:Below w1.heap.size w1 X:=by rw[hX];exact ZD _ _
 have hBX:=hid (sn hB1.out hbX)
 have hnX:=hid (show X.heap[w1.heap.size]?=some (.cells x.cells 89 (0,0)) by rw[hX];exact ZK _ _)
 have q10:X.cell? ⟨w1.heap.size,10,none⟩=some (.bool x.gone):=Z0 hnX.out 10
 rw[hgo]at q10
 unfold Z1J at hX
 rw[Zc]at hX hnew
 have hmu:Hid (Calls Tryz.prog 37 #[.bool true,.int .i64 6] X fun x w'=>x=.panicked (ZY 6)∧w'=X):=hid (Z1g 6 X)
 clear hb1 hbX hga
 go_wp2_with (first
  |(rw[←hX];replace hX:=hid hX)
  |(refine wpList_store_row (by rfl) 89 (.tmp 5) (.tmp 8) (by rfl) w1.heap.size x.cells (by rfl) (by rfl) 89 _ hnew.out (by kernel_rfl) (by kernel_rfl) (Zw x) ?_))
 try (rw[←hX];replace hX:=hid hX)
 refine hmu.out.mono ?_
 rintro e w2 ⟨rfl,rfl⟩
 go_wp2_with fail
 exact⟨rfl,rfl,hBX.out⟩
set_option maxHeartbeats 1600000 in
theorem Z5j (v:Value) (x:Nat) (l:List Nod) (w:World) (hv:Z3 w v l) (hl:l.length≤900) (h1 : ∀ n∈l,1≤n.path) :
  Calls Tryz.prog 53 #[.agg #[.int .u64 (x:Int),v]] w (Z2q w x l):=by
 obtain⟨a,c,rfl,g1,g2⟩:=hv.form
 unfold maxLen at g2
 have hd0:Z1G l 0=l:=List.filter_eq_self.2 fun n hn=>by have:=h1 n hn;simp;omega
 obtain⟨W,hW⟩ : ∃ W,W=(w.alloc (.cells #[.int .u64 (x:Int),.slice a l.length c] 30)).alloc (.cells #[.int .u64 0,.slice none 0 0] 30):=⟨_,rfl⟩
 have hb0:Below w.heap.size w W:=by rw[hW];exact((Below.refl w.heap.size w).alloc (Nat.le_refl _) _).alloc (by simp) _
 have hx0:W.heap[w.heap.size]?=some (.cells #[.int .u64 (x:Int),.slice a l.length c] 30 (0,0)):=by rw[hW,heap_alloc_old _ _ (by simp),heap_alloc_new]
 have hy0:W.heap[w.heap.size+1]?=some (.cells #[.int .u64 0,.slice none 0 0] 30 (0,0)):=by rw[hW];exact Z27 _ _ _
 have hdr:=hid (Z4M _ x l 0 W (hv.below hb0) hl)
 rw[hd0]at hdr
 have e0:=Z0 hx0 0
 have e1:=Z0 hx0 1
 replace hb0:=hid hb0
 replace hy0:=hid hy0
 clear hv h1 hd0 hx0
 go_enter Tryz.func53,Tryz.ntmps53
 go_wp2_with (rw[←hW];replace hW:=hid hW)
 try (rw[←hW];replace hW:=hid hW)
 refine hdr.out.mono ?_
 rintro e w1 ⟨v1,rfl,hv1,hf1,hb1⟩
 obtain⟨a1,c1,rfl,_,_⟩:=hv1.form
 have hB1:=hid (sn hb0.out hb1)
 have hy1:=hid ((hb1.block _ (lt_of_block hy0.out)).trans hy0.out)
 have hlt0:=hid (lt_of_block hy0.out)
 have hsz0:=hid hb0.out.size
 have hE:=hid (Z3.other (w':=w1.setRow (w.heap.size+1) #[.int .u64 (x:Int),.slice a1 l.length c1]) hv1 (w.heap.size+1) (fun e=>by have:=hf1 _ e;have:=hlt0.out;omega) (by simp) (fun k hk=>setRow_other _ _ _ _ hk))
 have hF:=hid (show ∀ k,(Value.slice a1 l.length c1).ownBlock=some k→w.heap.size≤k from fun k hk=>Nat.le_trans hsz0.out (hf1 k hk))
 clear e0 e1 hb1 hv1 hf1
 go_wp2_with (refine wpList_store_row (by rfl) 30 (.tmp 2) (.tmp 4) (by rfl) (w.heap.size+1) #[.int .u64 (x:Int),.slice a1 l.length c1] (by rfl) (by rfl) 30 _ hy1.out (by kernel_rfl) (by kernel_rfl) (by kernel_rfl) ?_)
 refine bodyPost_ret (results_cell_row rfl _ _ (w.heap.size+1) _ _ _ _ rfl (setRow_heap _ _ _ #[.int .u64 (x:Int),.slice a1 l.length c1] _ _ hy1.out) Tryz.underlying30 rfl (by kernel_rfl)) rfl ?_
 exact⟨_,rfl,hE.out,hF.out,below_setRow hB1.out (by omega) _⟩
set_option maxHeartbeats 1600000 in
theorem Z9C (b m p n:Nat) (v:Value) (f:FsV) (u:Usr) (w:World) (h:FSo w b m v p f u n) (ht:TrOk f.t.n) :
  Calls Tryz.prog 17 #[.pointer (some ⟨b,0,none⟩)] w (Z2q w f.t.next f.t.n):=by
 obtain⟨a,c,rfl,g1,g2⟩:=h.row.form
 obtain⟨W,hW⟩ : ∃ W,W=w.alloc (.cells #[.int .u64 0,.slice none 0 0] 30):=⟨_,rfl⟩
 have hb0:Below w.heap.size w W:=by rw[hW];exact(Below.refl w.heap.size w).alloc (Nat.le_refl _) _
 have hy0:W.heap[w.heap.size]?=some (.cells #[.int .u64 0,.slice none 0 0] 30 (0,0)):=by rw[hW,heap_alloc_new]
 have hFX:=h.below hb0
 have hap:=hid (Z5j _ f.t.next f.t.n W hFX.row (by have:=ht.few;omega) ht.low)
 have e0:=Z0 hFX.blk 0
 have e1:=Z0 hFX.blk 1
 replace hb0:=hid hb0
 replace hy0:=hid hy0
 clear h hFX ht
 go_enter Tryz.func17,Tryz.ntmps17
 go_wp2_with (rw[←hW];replace hW:=hid hW)
 try (rw[←hW];replace hW:=hid hW)
 refine hap.out.mono ?_
 rintro e w1 ⟨v1,rfl,hv1,hf1,hb1⟩
 obtain⟨a1,c1,rfl,_,_⟩:=hv1.form
 have hB1:=hid (sn hb0.out hb1)
 have hy1:=hid ((hb1.block _ (lt_of_block hy0.out)).trans hy0.out)
 have hlt0:=hid (lt_of_block hy0.out)
 have hsz0:=hid hb0.out.size
 have hE:=hid (Z3.other (w':=w1.setRow w.heap.size #[.int .u64 (f.t.next:Int),.slice a1 f.t.n.length c1]) hv1 w.heap.size (fun e=>by have:=hf1 _ e;have:=hlt0.out;omega) (by simp) (fun k hk=>setRow_other _ _ _ _ hk))
 have hF:=hid (show ∀ k,(Value.slice a1 f.t.n.length c1).ownBlock=some k→w.heap.size≤k from fun k hk=>Nat.le_trans hsz0.out (hf1 k hk))
 clear e0 e1 hb1 hv1 hf1
 go_wp2_with (refine wpList_store_row (by rfl) 30 (.tmp 2) (.tmp 7) (by rfl) w.heap.size #[.int .u64 (f.t.next:Int),.slice a1 f.t.n.length c1] (by rfl) (by rfl) 30 _ hy1.out (by kernel_rfl) (by kernel_rfl) (by kernel_rfl) ?_)
 refine bodyPost_ret (results_cell_row rfl _ _ w.heap.size _ _ _ _ rfl (setRow_heap _ _ _ #[.int .u64 (f.t.next:Int),.slice a1 f.t.n.length c1] _ _ hy1.out) Tryz.underlying30 rfl (by kernel_rfl)) rfl ?_
 exact⟨_,rfl,hE.out,hF.out,below_setRow hB1.out (Nat.le_refl _) _⟩
end
section
def Z25 (x y:Nod):Bool:=leS x.name y.name && (!leS y.name x.name || decide (x.path≤y.path))
theorem Z1z:Ordr Z25 where
 total a b h:=by
  unfold Z25 at *
  cases h1:leS a.name b.name with
  | false =>
   have:=Z3J.total _ _ h1
   rw[this];simp
  | true =>
   rw[h1]at h
   cases h2:leS b.name a.name with
   | false=>rw[h2]at h;simp at h
   | true =>
    rw[h2]at h
    simp at h ⊢
    omega
 trans a b c h1 h2:=by
  unfold Z25 at *
  simp only[Bool.and_eq_true,Bool.or_eq_true,Bool.not_eq_true',decide_eq_true_eq]at *
  refine⟨Z3J.trans _ _ _ h1.1 h2.1,?_⟩
  cases h:leS c.name a.name with
  | false=>exact .inl rfl
  | true =>
   right
   have e1:leS b.name a.name=true:=Z3J.trans _ _ _ h2.1 h
   have e2:leS c.name b.name=true:=Z3J.trans _ _ _ h h1.1
   rcases h1.2 with k | k
   ·rw[e1]at k;cases k
   ·rcases h2.2 with k2 | k2
    ·rw[e2]at k2;cases k2
    ·omega
def Z72 (xs ys:List Nod) (a i j:Nat):Prop:=∃ P T L1 x L2 R,xs=P++T++R∧ys=P++(L1++x :: L2)++R∧P.length=a∧a+L1.length=j∧a+L1.length+L2.length=i∧(L1++x :: L2).Perm T∧Srt Z25 (L1++L2)∧(∀ y∈L2.head?,Z25 x y=true)∧∀ y∈L1++L2,y.path<x.path
def Z3O (xs ys:List Nod) (a i:Nat):Prop:=∃ P T T' R,xs=P++T++R∧ys=P++T'++R∧P.length=a∧(P++T).length=i∧T'.Perm T∧Srt Z25 T'
theorem Z7r {α:Type} {Q1 Q3:List α} {x y:α} {i j:Nat} (hi:i=Q1.length+1) (hj:j=Q1.length):swp (Q1++x :: y :: Q3) i j=Q1++y :: x :: Q3:=by
 subst hi hj
 unfold swp
 have e1:(Q1++x :: y :: Q3)[Q1.length]?=some x:=by simp
 have e2:(Q1++x :: y :: Q3)[Q1.length+1]?=some y:=by
  rw[List.getElem?_append_right (by omega),show Q1.length+1 - Q1.length=1 by omega];simp
 rw[e1,e2]
 simp only
 rw[List.set_append_right _ _ (by omega),show Q1.length+1 - Q1.length=1 by omega,List.set_append_right _ _ (Nat.le_refl _),Nat.sub_self]
 rfl
theorem Z72.swap {xs ys:List Nod} {a i j:Nat} (h:Z72 xs ys a i j) (hj:a<j) {x y:Nod} (hx:ys[j]?=some x) (hy:ys[j - 1]?=some y) (hlt:leS y.name x.name=false):Z72 xs (swp ys j (j - 1)) a i (j - 1):=by
 obtain⟨P,T,L1,x',L2,R,hxs,rfl,ha,hj2,hi,hp,hs,h1,h2⟩:=h
 rcases List.eq_nil_or_concat L1 with e |⟨M,y',e⟩
 ·subst e;simp at hj2;omega
 rw[List.concat_eq_append]at e
 subst e
 have el:(M++[y']).length=M.length+1:=by simp
 rw[el]at hj2 hi
 have e0:P++(M++[y']++x' :: L2)++R=(P++M)++y' ::([]++x' ::(L2++R)):=by simp
 have ej:j=(P++M).length+1:=by simp;omega
 rw[e0]at hx hy ⊢
 have hy':y'=y:=by
  rw[show j - 1=(P++M).length by omega]at hy
  simpa using hy
 have hx':x'=x:=by
  rw[ej,List.getElem?_append_right (by omega),show(P++M).length+1 - (P++M).length=1 by omega]at hx
  simpa using hx
 subst hy' hx'
 rw[List.nil_append,Z7r (by simp;omega) (by simp;omega)]
 have hxy:Z25 x' y'=true:=by
  have:=Z3J.total _ _ hlt
  unfold Z25;rw[this,hlt];rfl
 refine⟨P,T,M,x',y' :: L2,R,hxs,by simp,ha,by omega,by simp;omega,?_,by simpa using hs,?_,by simpa using h2⟩
 ·refine List.Perm.trans ?_ hp
  simp only[List.append_assoc,List.cons_append,List.nil_append]
  exact(List.Perm.swap _ _ _).append_left M
 ·intro z hz
  simp at hz
  rw[←hz];exact hxy
theorem Z72.done {xs ys:List Nod} {a i j:Nat} (h:Z72 xs ys a i j) (hst:j≤a∨∃ x y,ys[j]?=some x∧ys[j - 1]?=some y∧leS y.name x.name=true):Z3O xs ys a (i+1):=by
 obtain⟨P,T,L1,x',L2,R,hxs,rfl,ha,hj2,hi,hp,hs,h1,h2⟩:=h
 refine⟨P,T,L1++x' :: L2,R,hxs,rfl,ha,?_,hp,?_⟩
 ·have:=hp.length_eq
  simp at this ⊢
  omega
 ·refine Z6V Z1z.trans hs ?_ h1
  intro z hz
  rcases List.eq_nil_or_concat L1 with e |⟨M,y',e⟩
  ·subst e;cases hz
  rw[List.concat_eq_append]at e
  subst e
  simp at hz
  subst hz
  have el:(M++[y']).length=M.length+1:=by simp
  rw[el]at hj2 hi
  rcases hst with hst |⟨x,y,hx,hy,hle⟩
  ·omega
  have e0:P++(M++[y']++x' :: L2)++R=(P++M)++y' ::([]++x' ::(L2++R)):=by simp
  have ej:j=(P++M).length+1:=by simp;omega
  rw[e0]at hx hy
  have hy':y'=y:=by
   rw[show j - 1=(P++M).length by omega]at hy
   simpa using hy
  have hx':x'=x:=by
   rw[ej,List.getElem?_append_right (by omega),show(P++M).length+1 - (P++M).length=1 by omega]at hx
   simpa using hx
  subst hy' hx'
  have hp2:=h2 y' (by simp)
  unfold Z25
  rw[hle]
  simp
  exact .inr (by omega)
theorem Z3O.start {xs:List Nod} {a:Nat} (h:a<xs.length):Z3O xs xs a (a+1):=by
 refine⟨xs.take a,[xs[a]],[xs[a]],xs.drop (a+1),?_,?_,by simp;omega,by simp;omega,List.Perm.refl _,List.pairwise_singleton _ _⟩ <;>
 ·rw[List.append_assoc,List.singleton_append,List.getElem_cons_drop,List.take_append_drop]
theorem Z3O.next {xs ys:List Nod} {a i b:Nat} (h:Z3O xs ys a i) (hi:i<b) (hb:b≤xs.length) (hp:(seg xs a b).Pairwise fun x y=>x.path<y.path):Z72 xs ys a i i:=by
 obtain⟨P,T,T',R,hxs,rfl,ha,hai,hpm,hs⟩:=h
 have hR:R≠[]:=by
  intro e;subst e;rw[hxs]at hb;simp at hb hai;omega
 obtain⟨x,R',rfl⟩:=List.exists_cons_of_ne_nil hR
 have hl:=hpm.length_eq
 rw[List.length_append]at hai
 have hseg:seg xs a b=T++x :: R'.take (b - i - 1):=by
  unfold seg
  rw[hxs,List.append_assoc,←ha,List.drop_left',List.take_append,List.take_of_length_le (by omega),show b - P.length - T.length=(b - i - 1)+1 by omega,List.take_succ_cons]
  rfl
 rw[hseg]at hp
 have hx:=(List.pairwise_append.1 hp).2.2
 refine⟨P,T++[x],T',x,[],R',by rw[hxs];simp,by simp,ha,by omega,by simp;omega,hpm.append_right [x],by simpa using hs,by simp,?_⟩
 intro y hy
 rw[List.append_nil]at hy
 exact hx y (hpm.mem_iff.1 hy) x (by simp)
theorem Z3O.mended {xs ys:List Nod} {a b:Nat} (h:Z3O xs ys a b):Z1p xs ys a b∧Srt Z25 (seg ys a b):=by
 obtain⟨P,T,T',R,hxs,rfl,ha,hai,hpm,hs⟩:=h
 refine⟨⟨P,T,T',R,hxs,rfl,ha,hai,hpm⟩,?_⟩
 rw[Z9m ha (by rw[List.length_append,hpm.length_eq,←List.length_append];exact hai)]
 exact hs
end
end Go.Proofs.YtkefjeabckainaaGreat
