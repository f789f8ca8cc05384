/- Close of package fsys. Conditions: in the statements.
Tick of package fsys. Conditions: in the statements.
Files stay right when one is made. Plain. -/
import Derived.Test.YtkefjeabckainaaGreatFtB24
import Derived.Test.YtkefjeabckainaaGreatFtB23
import Derived.Test.YtkefjeabckainaaGreatFtB11
namespace Go.Proofs.YtkefjeabckainaaGreat
set_option maxRecDepth 100000
set_option linter.unusedVariables false
section
open Go.RowKit Go.Maps
theorem Zbt (mode:Nat) (h:mode<256):(bits .and .u8 (mode:Int) 64 == 0)=decide (mode &&& 64=0):=by
 rw[show(64:Int)=((64:Nat):Int) from rfl,u8_and_nat _ _ h (by omega)]
 by_cases h0:mode &&& 64=0
 ·simp[h0]
 ·simp[h0]
noncomputable def Zj:Array Oper:=match Tryz.f24.body with | some c=>(Z1i c).getD 6 #[] | none=>#[]
theorem Zq:Zj.size=18:=by kernel_rfl
set_option maxHeartbeats 4000000 in
theorem Z7x {w1:World} {b m p n q k8:Nat} {f:FsV} {u:Usr} {x:Nod} {a0:Option Addr} {c0:Nat} {R:Tr×Nat} (hFo:FSo w1 b m (.slice a0 f.t.n.length c0) p f u n) (hx:w1.heap[k8]?=some (.cells x.cells 89 (0,0))) (ht:TrOk f.t.n) (hnow:f.now<4294967296) (hR:ZQ f.t q x.uid f.now=R) {v0:Value} {Q:Exit→Act→World→Prop} {a:Act} {w:World}
  (hQ : ∀ d u c a w,Q (.panic c) (a.put d u) w→Q (.panic c) a w) (hF:FrL 73 [(0,ptr b 0),(1,.int .u64 ((q:Nat):Int)),(8,ptr k8 0)] a) (hS:Below w1.heap.size w1 w)
  (hE : ∀ a w' g v',FrL 73 ((11,.int .i64 (R.2:Int)) ::(10,ptr g 0) :: [(0,ptr b 0),(1,.int .u64 ((q:Nat):Int)),(8,ptr k8 0)]) a→Below w1.heap.size w1 w'→w'.heap[g]?=some (.cells #[.int .u64 (R.1.next:Int),v'] 30 (0,0))→w1.heap.size≤g→Z3 w' v' R.1.n→(∀ k,v'.ownBlock=some k→w1.heap.size≤k)→Q .normal a w') :
  wpAnyH Tryz.prog .any Zj Q (Below w1.heap.size w1) 18 (Array.replicate 18 false) a w:=by
 refine hst (i:=0) (o:=Zj[0]'(show 0<Zj.size by rw[Zq];decide)) hF 50 true (ptr b 0) (Array.getElem?_eq_getElem (show 0<Zj.size by rw[Zq];decide)) (by kernel_rfl) (by decide) (by kernel_rfl) (by kernel_rfl) (by kernel_rfl) (hQ _ _) (Z2 (by kernel_rfl)) (fun hW w hS=>Z5 (x:=.tmp 0) (.inl (by kernel_rfl)) (hF.ev 0 (ptr b 0) rfl)) hS (fun a hF=>?_)
 rw[show cond true (ptr b 0) undef=ptr b 0 from rfl]at hF
 refine hst (i:=1) (o:=Zj[1]'(show 1<Zj.size by rw[Zq];decide)) hF 51 true (ptr b 0) (Array.getElem?_eq_getElem (show 1<Zj.size by rw[Zq];decide)) (by kernel_rfl) (by decide) (by kernel_rfl) (by kernel_rfl) (by kernel_rfl) (hQ _ _) (Z2 (by kernel_rfl)) (fun hW w hS=>Z2z (x:=.tmp 50) (by kernel_rfl) (hF.ev 50 (ptr b 0) rfl)) hS (fun a hF=>?_)
 rw[show cond true (ptr b 0) undef=ptr b 0 from rfl]at hF
 refine hst (i:=2) (o:=Zj[2]'(show 2<Zj.size by rw[Zq];decide)) hF 52 true (ptr b 0) (Array.getElem?_eq_getElem (show 2<Zj.size by rw[Zq];decide)) (by kernel_rfl) (by decide) (by kernel_rfl) (by kernel_rfl) (by kernel_rfl) (hQ _ _) (Z2 (by kernel_rfl)) (fun hW w hS=>Zo (T:=93) (x:=.tmp 51) (f:=0) (by kernel_rfl) (hF.ev 51 (ptr b 0) rfl) (by kernel_rfl)) hS (fun a hF=>?_)
 rw[show cond true (ptr b 0) undef=ptr b 0 from rfl]at hF
 refine hst (i:=3) (o:=Zj[3]'(show 3<Zj.size by rw[Zq];decide)) hF 53 true (.agg #[.int .u64 ((f.t.next:Nat):Int),.slice a0 f.t.n.length c0]) (Array.getElem?_eq_getElem (show 3<Zj.size by rw[Zq];decide)) (by kernel_rfl) (by decide) (by kernel_rfl) (by kernel_rfl) (by kernel_rfl) (hQ _ _) (Z2 (by kernel_rfl)) (fun hW w hS=>Ze (ty:=30) (x:=.tmp 52) (by kernel_rfl) (hF.ev 52 (ptr b 0) rfl) (Z4p (Z0 (hFo.below hS).blk 0) (Z0 (hFo.below hS).blk 1))) hS (fun a hF=>?_)
 rw[show cond true (.agg #[.int .u64 ((f.t.next:Nat):Int),.slice a0 f.t.n.length c0]) undef=.agg #[.int .u64 ((f.t.next:Nat):Int),.slice a0 f.t.n.length c0] from rfl]at hF
 refine hst (i:=4) (o:=Zj[4]'(show 4<Zj.size by rw[Zq];decide)) hF 54 true (.int .u64 ((q:Nat):Int)) (Array.getElem?_eq_getElem (show 4<Zj.size by rw[Zq];decide)) (by kernel_rfl) (by decide) (by kernel_rfl) (by kernel_rfl) (by kernel_rfl) (hQ _ _) (Z2 (by kernel_rfl)) (fun hW w hS=>Z5 (x:=.tmp 1) (.inl (by kernel_rfl)) (hF.ev 1 (.int .u64 ((q:Nat):Int)) rfl)) hS (fun a hF=>?_)
 rw[show cond true (.int .u64 ((q:Nat):Int)) undef=.int .u64 ((q:Nat):Int) from rfl]at hF
 refine hst (i:=5) (o:=Zj[5]'(show 5<Zj.size by rw[Zq];decide)) hF 55 true (ptr k8 6) (Array.getElem?_eq_getElem (show 5<Zj.size by rw[Zq];decide)) (by kernel_rfl) (by decide) (by kernel_rfl) (by kernel_rfl) (by kernel_rfl) (hQ _ _) (Z2 (by kernel_rfl)) (fun hW w hS=>Zo (T:=89) (x:=.tmp 8) (f:=6) (by kernel_rfl) (hF.ev 8 (ptr k8 0) rfl) (by kernel_rfl)) hS (fun a hF=>?_)
 rw[show cond true (ptr k8 6) undef=ptr k8 6 from rfl]at hF
 refine hst (i:=6) (o:=Zj[6]'(show 6<Zj.size by rw[Zq];decide)) hF 56 true (.string x.uid) (Array.getElem?_eq_getElem (show 6<Zj.size by rw[Zq];decide)) (by kernel_rfl) (by decide) (by kernel_rfl) (by kernel_rfl) (by kernel_rfl) (hQ _ _) (Z2 (by kernel_rfl)) (fun hW w hS=>Ze (ty:=9) (x:=.tmp 55) (by kernel_rfl) (hF.ev 55 (ptr k8 6) rfl) (Z1k (Z0 ((hS.block _ (lt_of_block hx)).trans hx) 6))) hS (fun a hF=>?_)
 rw[show cond true (.string x.uid) undef=.string x.uid from rfl]at hF
 refine hst (i:=7) (o:=Zj[7]'(show 7<Zj.size by rw[Zq];decide)) hF 57 true (ptr b 0) (Array.getElem?_eq_getElem (show 7<Zj.size by rw[Zq];decide)) (by kernel_rfl) (by decide) (by kernel_rfl) (by kernel_rfl) (by kernel_rfl) (hQ _ _) (Z2 (by kernel_rfl)) (fun hW w hS=>Z5 (x:=.tmp 0) (.inl (by kernel_rfl)) (hF.ev 0 (ptr b 0) rfl)) hS (fun a hF=>?_)
 rw[show cond true (ptr b 0) undef=ptr b 0 from rfl]at hF
 refine hst (i:=8) (o:=Zj[8]'(show 8<Zj.size by rw[Zq];decide)) hF 58 true (ptr b 0) (Array.getElem?_eq_getElem (show 8<Zj.size by rw[Zq];decide)) (by kernel_rfl) (by decide) (by kernel_rfl) (by kernel_rfl) (by kernel_rfl) (hQ _ _) (Z2 (by kernel_rfl)) (fun hW w hS=>Z2z (x:=.tmp 57) (by kernel_rfl) (hF.ev 57 (ptr b 0) rfl)) hS (fun a hF=>?_)
 rw[show cond true (ptr b 0) undef=ptr b 0 from rfl]at hF
 refine hst (i:=9) (o:=Zj[9]'(show 9<Zj.size by rw[Zq];decide)) hF 59 true (ptr b 3) (Array.getElem?_eq_getElem (show 9<Zj.size by rw[Zq];decide)) (by kernel_rfl) (by decide) (by kernel_rfl) (by kernel_rfl) (by kernel_rfl) (hQ _ _) (Z2 (by kernel_rfl)) (fun hW w hS=>Zo (T:=93) (x:=.tmp 58) (f:=2) (by kernel_rfl) (hF.ev 58 (ptr b 0) rfl) (by kernel_rfl)) hS (fun a hF=>?_)
 rw[show cond true (ptr b 3) undef=ptr b 3 from rfl]at hF
 refine hst (i:=10) (o:=Zj[10]'(show 10<Zj.size by rw[Zq];decide)) hF 60 true (.int .u32 ((f.now:Nat):Int)) (Array.getElem?_eq_getElem (show 10<Zj.size by rw[Zq];decide)) (by kernel_rfl) (by decide) (by kernel_rfl) (by kernel_rfl) (by kernel_rfl) (hQ _ _) (Z2 (by kernel_rfl)) (fun hW w hS=>Ze (ty:=32) (x:=.tmp 59) (by kernel_rfl) (hF.ev 59 (ptr b 3) rfl) (Z3q (Z0 (hFo.below hS).blk 3))) hS (fun a hF=>?_)
 rw[show cond true (.int .u32 ((f.now:Nat):Int)) undef=.int .u32 ((f.now:Nat):Int) from rfl]at hF
 refine wpAnyH_all (rs:=[11,15]) (by kernel_rfl) (by simp) fun j hj=>?_
 have hS0:=hS.size
 have hj2:j=11∨j=15:=by simpa using hj
 rcases hj2 with rfl | rfl
 ·skip
  refine Z80 (i:=11) (o:=Zj[11]'(show 11<Zj.size by rw[Zq];decide)) (R:=fun v w'=>∃ v',v=.tuple #[.agg #[.int .u64 (R.1.next:Int),v'],.int .i64 (R.2:Int)]∧Z3 w' v' R.1.n∧(∀ k,v'.ownBlock=some k→w.heap.size≤k)∧Below w.heap.size w w') hF 61 (Array.getElem?_eq_getElem (show 11<Zj.size by rw[Zq];decide)) (by kernel_rfl) (by decide) (Z2 (by kernel_rfl)) ⟨48,#[.agg #[.int .u64 ((f.t.next:Nat):Int),.slice a0 f.t.n.length c0],.int .u64 ((q:Nat):Int),.string x.uid,.int .u32 ((f.now:Nat):Int)],Z43 (x:=.tmp 53) (y:=.tmp 54) (z:=.tmp 56) (y2:=.tmp 60) (fn:=48) (t:=30) (u:=27) (s:=9) (r:=32) rfl (by kernel_rfl) (by kernel_rfl) (hF.ev 53 _ rfl) (hF.ev 54 _ rfl) (hF.ev 56 _ rfl) (hF.ev 60 _ rfl),(Z3r _ f.t.next f.t.n q x.uid f.now w (hFo.below hS).row ht hnow).mono (by intro e w' h;rw[show(⟨f.t.next,f.t.n⟩:Tr)=f.t from rfl,hR]at h;obtain⟨v',rfl,h1,h2,h3⟩:=h;exact⟨_,rfl,v',rfl,h1,h2,h3⟩)⟩ ?_
  rintro _ a wc ⟨v',rfl,hv,hf,hb⟩ hF
  replace hS:=hS.trans (hb.mono hS.size)
  have hfr : ∀ k,v'.ownBlock=some k→w1.heap.size≤k:=fun k hk=>Nat.le_trans hS0 (hf k hk)
  clear hf
  refine⟨hS,?_⟩
  clear hb
  refine hst (i:=12) (o:=Zj[12]'(show 12<Zj.size by rw[Zq];decide)) hF 49 true (.tuple #[.agg #[.int .u64 (R.1.next:Int),v'],.int .i64 (R.2:Int)]) (Array.getElem?_eq_getElem (show 12<Zj.size by rw[Zq];decide)) (by kernel_rfl) (by decide) (by kernel_rfl) (by kernel_rfl) (by kernel_rfl) (hQ _ _) (Z2 (by kernel_rfl)) (fun hW w hS=>Z5 (x:=.tmp 61) (.inl (by kernel_rfl)) (hF.ev 61 _ rfl)) hS (fun a hF=>?_)
  rw[show cond true (.tuple #[.agg #[.int .u64 (R.1.next:Int),v'],.int .i64 (R.2:Int)]) undef=.tuple #[.agg #[.int .u64 (R.1.next:Int),v'],.int .i64 (R.2:Int)] from rfl]at hF
  refine hst (i:=13) (o:=Zj[13]'(show 13<Zj.size by rw[Zq];decide)) hF 62 true (.agg #[.int .u64 (R.1.next:Int),v']) (Array.getElem?_eq_getElem (show 13<Zj.size by rw[Zq];decide)) (by kernel_rfl) (by decide) (by kernel_rfl) (by kernel_rfl) (by kernel_rfl) (hQ _ _) (Z2 (by kernel_rfl)) (fun hW w hS=>ZZ (x:=.tmp 49) (n:=0) (by kernel_rfl) (hF.ev 49 _ rfl) rfl) hS (fun a hF=>?_)
  rw[show cond true (.agg #[.int .u64 (R.1.next:Int),v']) undef=.agg #[.int .u64 (R.1.next:Int),v'] from rfl]at hF
  refine hst (i:=14) (o:=Zj[14]'(show 14<Zj.size by rw[Zq];decide)) hF 63 true (.int .i64 (R.2:Int)) (Array.getElem?_eq_getElem (show 14<Zj.size by rw[Zq];decide)) (by kernel_rfl) (by decide) (by kernel_rfl) (by kernel_rfl) (by kernel_rfl) (hQ _ _) (Z2 (by kernel_rfl)) (fun hW w hS=>ZZ (x:=.tmp 49) (n:=1) (by kernel_rfl) (hF.ev 49 _ rfl) rfl) hS (fun a hF=>?_)
  rw[show cond true (.int .i64 (R.2:Int)) undef=.int .i64 (R.2:Int) from rfl]at hF
  refine wpAnyH_all (rs:=[15]) (by kernel_rfl) (by simp) fun j hj=>?_
  obtain rfl:j=15:=by simpa using hj
  refine hdo (i:=15) (o:=Zj[15]'(show 15<Zj.size by rw[Zq];decide)) hF 10 (ptr wc.heap.size 0) (wc.alloc (.cells #[.int .u64 0,.slice none 0 0] 30)) (Array.getElem?_eq_getElem (show 15<Zj.size by rw[Zq];decide)) (by kernel_rfl) (by decide) (Z2 (by kernel_rfl)) (Z1t (t:=30) (z:=.agg #[.int .u64 0,.slice none 0 0]) (by kernel_rfl) (by kernel_rfl)) (fun a hF=>?_)
  have hb:=(Below.refl wc.heap.size wc).alloc (Nat.le_refl _) (.cells #[.int .u64 0,.slice none 0 0] 30)
  have gA:=hS.size
  have fA:=heap_alloc_new wc (.cells #[.int .u64 0,.slice none 0 0] 30)
  have hrow:Z3 ((wc.alloc (.cells #[.int .u64 0,.slice none 0 0] 30)).setRow wc.heap.size #[.int .u64 (R.1.next:Int),v']) v' R.1.n:=hv.below (below_setRow hb (Nat.le_refl _) #[.int .u64 (R.1.next:Int),v'])
  replace hS:=hS.trans (hb.mono hS.size)
  refine⟨hS,?_⟩
  clear hb hv
  generalize wc.alloc (.cells #[.int .u64 0,.slice none 0 0] 30)=wca at hS fA hrow ⊢
  generalize wc.heap.size=g at fA gA hF hrow
  refine wpAnyH_all (rs:=[16]) (by kernel_rfl) (by simp) fun j hj=>?_
  obtain rfl:j=16:=by simpa using hj
  refine Z6Y (o:=Zj[16]'(show 16<Zj.size by rw[Zq];decide)) (wca.setRow g #[.int .u64 (R.1.next:Int),v']) (Array.getElem?_eq_getElem (show 16<Zj.size by rw[Zq];decide)) (by kernel_rfl) (Z2 (by kernel_rfl)) (Z1u (t:=30) (x:=.tmp 10) (y:=.tmp 62) (by kernel_rfl) (hF.ev 10 _ rfl) (hF.ev 62 _ rfl) fA (by kernel_rfl) rfl (by obtain⟨q1,q2,hq,_⟩:=hrow.form;rw[hq];kernel_rfl)) ?_
  have hS3:=below_setRow (g:=g) hS gA #[.int .u64 (R.1.next:Int),v']
  refine⟨hS3,?_⟩
  have fA3:=setRow_heap wca g _ #[.int .u64 (R.1.next:Int),v'] _ _ fA
  have hv3:Z3 (wca.setRow g #[.int .u64 (R.1.next:Int),v']) v' R.1.n:=hrow
  generalize wca.setRow g #[.int .u64 (R.1.next:Int),v']=wz at hS3 fA3 hv3 ⊢
  refine hst (i:=17) (o:=Zj[17]'(show 17<Zj.size by rw[Zq];decide)) hF 11 true (.int .i64 (R.2:Int)) (Array.getElem?_eq_getElem (show 17<Zj.size by rw[Zq];decide)) (by kernel_rfl) (by decide) (by kernel_rfl) (by kernel_rfl) (by kernel_rfl) (hQ _ _) (Z2 (by kernel_rfl)) (fun hW w hS=>Z5 (x:=.tmp 63) (.inr (by kernel_rfl)) (hF.ev 63 _ rfl)) hS3 (fun a hF=>?_)
  rw[show cond true (.int .i64 (R.2:Int)) undef=.int .i64 (R.2:Int) from rfl]at hF
  exact wpAnyH_done (by kernel_rfl) (hE _ _ g v' (hF.sub ((11,.int .i64 (R.2:Int)) ::(10,ptr g 0) :: [(0,ptr b 0),(1,.int .u64 ((q:Nat):Int)),(8,ptr k8 0)]) ⟨rfl,rfl,rfl,rfl,rfl,trivial⟩) hS3 fA3 gA hv3 hfr) _
 ·skip
  refine hdo (i:=15) (o:=Zj[15]'(show 15<Zj.size by rw[Zq];decide)) hF 10 (ptr w.heap.size 0) (w.alloc (.cells #[.int .u64 0,.slice none 0 0] 30)) (Array.getElem?_eq_getElem (show 15<Zj.size by rw[Zq];decide)) (by kernel_rfl) (by decide) (Z2 (by kernel_rfl)) (Z1t (t:=30) (z:=.agg #[.int .u64 0,.slice none 0 0]) (by kernel_rfl) (by kernel_rfl)) (fun a hF=>?_)
  have hb:=(Below.refl w.heap.size w).alloc (Nat.le_refl _) (.cells #[.int .u64 0,.slice none 0 0] 30)
  have gA:=hS.size
  have fA:=heap_alloc_new w (.cells #[.int .u64 0,.slice none 0 0] 30)
  replace hS:=hS.trans (hb.mono hS.size)
  refine⟨hS,?_⟩
  clear hb
  generalize w.alloc (.cells #[.int .u64 0,.slice none 0 0] 30)=wa at hS fA ⊢
  generalize w.heap.size=g at fA gA hF
  refine wpAnyH_all (rs:=[11]) (by kernel_rfl) (by simp) fun j hj=>?_
  have hS0:=hS.size
  obtain rfl:j=11:=by simpa using hj
  refine Z80 (i:=11) (o:=Zj[11]'(show 11<Zj.size by rw[Zq];decide)) (R:=fun v w'=>∃ v',v=.tuple #[.agg #[.int .u64 (R.1.next:Int),v'],.int .i64 (R.2:Int)]∧Z3 w' v' R.1.n∧(∀ k,v'.ownBlock=some k→wa.heap.size≤k)∧Below wa.heap.size wa w') hF 61 (Array.getElem?_eq_getElem (show 11<Zj.size by rw[Zq];decide)) (by kernel_rfl) (by decide) (Z2 (by kernel_rfl)) ⟨48,#[.agg #[.int .u64 ((f.t.next:Nat):Int),.slice a0 f.t.n.length c0],.int .u64 ((q:Nat):Int),.string x.uid,.int .u32 ((f.now:Nat):Int)],Z43 (x:=.tmp 53) (y:=.tmp 54) (z:=.tmp 56) (y2:=.tmp 60) (fn:=48) (t:=30) (u:=27) (s:=9) (r:=32) rfl (by kernel_rfl) (by kernel_rfl) (hF.ev 53 _ rfl) (hF.ev 54 _ rfl) (hF.ev 56 _ rfl) (hF.ev 60 _ rfl),(Z3r _ f.t.next f.t.n q x.uid f.now wa (hFo.below hS).row ht hnow).mono (by intro e w' h;rw[show(⟨f.t.next,f.t.n⟩:Tr)=f.t from rfl,hR]at h;obtain⟨v',rfl,h1,h2,h3⟩:=h;exact⟨_,rfl,v',rfl,h1,h2,h3⟩)⟩ ?_
  rintro _ a wac ⟨v',rfl,hv,hf,hb⟩ hF
  replace hS:=hS.trans (hb.mono hS.size)
  have hlt:=lt_of_block fA
  replace fA:=(hb.block _ (lt_of_block fA)).trans fA
  have hrow:Z3 (wac.setRow g #[.int .u64 (R.1.next:Int),v']) v' R.1.n:=Z3.other hv g (fun e=>by have:=hf _ e;omega) (by simp) (fun k hk=>setRow_other _ _ _ _ hk)
  have hfr : ∀ k,v'.ownBlock=some k→w1.heap.size≤k:=fun k hk=>Nat.le_trans hS0 (hf k hk)
  clear hf
  refine⟨hS,?_⟩
  clear hb
  refine hst (i:=12) (o:=Zj[12]'(show 12<Zj.size by rw[Zq];decide)) hF 49 true (.tuple #[.agg #[.int .u64 (R.1.next:Int),v'],.int .i64 (R.2:Int)]) (Array.getElem?_eq_getElem (show 12<Zj.size by rw[Zq];decide)) (by kernel_rfl) (by decide) (by kernel_rfl) (by kernel_rfl) (by kernel_rfl) (hQ _ _) (Z2 (by kernel_rfl)) (fun hW w hS=>Z5 (x:=.tmp 61) (.inl (by kernel_rfl)) (hF.ev 61 _ rfl)) hS (fun a hF=>?_)
  rw[show cond true (.tuple #[.agg #[.int .u64 (R.1.next:Int),v'],.int .i64 (R.2:Int)]) undef=.tuple #[.agg #[.int .u64 (R.1.next:Int),v'],.int .i64 (R.2:Int)] from rfl]at hF
  refine hst (i:=13) (o:=Zj[13]'(show 13<Zj.size by rw[Zq];decide)) hF 62 true (.agg #[.int .u64 (R.1.next:Int),v']) (Array.getElem?_eq_getElem (show 13<Zj.size by rw[Zq];decide)) (by kernel_rfl) (by decide) (by kernel_rfl) (by kernel_rfl) (by kernel_rfl) (hQ _ _) (Z2 (by kernel_rfl)) (fun hW w hS=>ZZ (x:=.tmp 49) (n:=0) (by kernel_rfl) (hF.ev 49 _ rfl) rfl) hS (fun a hF=>?_)
  rw[show cond true (.agg #[.int .u64 (R.1.next:Int),v']) undef=.agg #[.int .u64 (R.1.next:Int),v'] from rfl]at hF
  refine hst (i:=14) (o:=Zj[14]'(show 14<Zj.size by rw[Zq];decide)) hF 63 true (.int .i64 (R.2:Int)) (Array.getElem?_eq_getElem (show 14<Zj.size by rw[Zq];decide)) (by kernel_rfl) (by decide) (by kernel_rfl) (by kernel_rfl) (by kernel_rfl) (hQ _ _) (Z2 (by kernel_rfl)) (fun hW w hS=>ZZ (x:=.tmp 49) (n:=1) (by kernel_rfl) (hF.ev 49 _ rfl) rfl) hS (fun a hF=>?_)
  rw[show cond true (.int .i64 (R.2:Int)) undef=.int .i64 (R.2:Int) from rfl]at hF
  refine wpAnyH_all (rs:=[16]) (by kernel_rfl) (by simp) fun j hj=>?_
  obtain rfl:j=16:=by simpa using hj
  refine Z6Y (o:=Zj[16]'(show 16<Zj.size by rw[Zq];decide)) (wac.setRow g #[.int .u64 (R.1.next:Int),v']) (Array.getElem?_eq_getElem (show 16<Zj.size by rw[Zq];decide)) (by kernel_rfl) (Z2 (by kernel_rfl)) (Z1u (t:=30) (x:=.tmp 10) (y:=.tmp 62) (by kernel_rfl) (hF.ev 10 _ rfl) (hF.ev 62 _ rfl) fA (by kernel_rfl) rfl (by obtain⟨q1,q2,hq,_⟩:=hrow.form;rw[hq];kernel_rfl)) ?_
  have hS3:=below_setRow (g:=g) hS gA #[.int .u64 (R.1.next:Int),v']
  refine⟨hS3,?_⟩
  have fA3:=setRow_heap wac g _ #[.int .u64 (R.1.next:Int),v'] _ _ fA
  have hv3:Z3 (wac.setRow g #[.int .u64 (R.1.next:Int),v']) v' R.1.n:=hrow
  generalize wac.setRow g #[.int .u64 (R.1.next:Int),v']=wz at hS3 fA3 hv3 ⊢
  refine hst (i:=17) (o:=Zj[17]'(show 17<Zj.size by rw[Zq];decide)) hF 11 true (.int .i64 (R.2:Int)) (Array.getElem?_eq_getElem (show 17<Zj.size by rw[Zq];decide)) (by kernel_rfl) (by decide) (by kernel_rfl) (by kernel_rfl) (by kernel_rfl) (hQ _ _) (Z2 (by kernel_rfl)) (fun hW w hS=>Z5 (x:=.tmp 63) (.inr (by kernel_rfl)) (hF.ev 63 _ rfl)) hS3 (fun a hF=>?_)
  rw[show cond true (.int .i64 (R.2:Int)) undef=.int .i64 (R.2:Int) from rfl]at hF
  exact wpAnyH_done (by kernel_rfl) (hE _ _ g v' (hF.sub ((11,.int .i64 (R.2:Int)) ::(10,ptr g 0) :: [(0,ptr b 0),(1,.int .u64 ((q:Nat):Int)),(8,ptr k8 0)]) ⟨rfl,rfl,rfl,rfl,rfl,trivial⟩) hS3 fA3 gA hv3 hfr) _
def ZdO (b m p n:Nat) (f:FsV) (u:Usr) (w:World) (e:Ending) (w':World):Prop:=e=.returned (.tuple #[])∧(∃ v',FSo w' b m v' p f u n)∧FStep b m w w'
set_option maxHeartbeats 6400000 in
theorem Z8i (b m p n:Nat) (v:Value) (f:FsV) (u:Usr) (q mode:Nat) (w:World) (h:FSo w b m v p f u n) {V:ByteArray→Bool} (hok:FOkV V f) (hq:q<18446744073709551616) (hm:mode<256) (hn:n<1000000) :
  Calls Tryz.prog 24 #[.pointer (some ⟨b,0,none⟩),.int .u64 (q:Int),.int .u8 (mode:Int)] w (ZdO b m p (n+1) (Z2d f q mode) u w):=by
 have mixed:Tryz.prog.follows Departure.mixedOrders=true:=by first | kernel_rfl | decide
 have ht:=hok.tr
 obtain⟨a0,c0,rfl,g1,g2⟩:=h.row.form
 have hle:=h.map.le q
 have e4:=Z0 h.blk 4
 obtain⟨ok,hlk,hno⟩:=h.map.look_ok q hq
 obtain⟨i,hi⟩ : ∃ i,i=(f.by_ q).1:=⟨_,rfl⟩
 obtain⟨j,hj⟩ : ∃ j,j=(f.by_ q).2:=⟨_,rfl⟩
 obtain⟨j1,hj1⟩ : ∃ j1,j1=j - 1:=⟨_,rfl⟩
 obtain⟨F,hFF⟩ : ∃ F,F=upd f.by_ q (i,j1):=⟨_,rfl⟩
 have hE:Hid (Z2d f q mode=match ZM f.t.n q with
  | none=>(⟨f.t,f.now,F⟩:FsV)
  | some n=>if mode &&& 64=0 then(⟨f.t,f.now,F⟩:FsV) else if (ZQ f.t q n.uid f.now).2≠0 then(⟨f.t,f.now,F⟩:FsV) else Z2c (FsV.set (⟨f.t,f.now,F⟩:FsV) (ZQ f.t q n.uid f.now).1) q):=hid (by rw[hFF,hj1,hi,hj];rfl)
 rw[←hi,←hj]at hle hlk
 obtain⟨X,hX⟩ : ∃ X,X=Zar w i j:=⟨_,rfl⟩
 have hXn:X.heap[w.heap.size]?=some (.cells #[.int .i64 (i:Int),.int .i64 (j:Int)] 107 (0,0)):=by rw[hX];exact Z3F _ _ _
 have hXb:Below w.heap.size w X:=by rw[hX];exact Z3d _ _ _
 have hFX:=hid (h.below hXb)
 have hS:=hid (FStep.pure (b:=b) (m:=m) hXb)
 have hnew:=hid (heap_alloc_new w (.cells #[.int .i64 0,.int .i64 0] 107))
 unfold Zar at hX
 replace h:=hid h
 replace hXb:=hid hXb
 cases ok with
 | false =>
  have hsame:F=f.by_:=by
   have h0:=hno rfl
   rw[h0]at hi hj
   simp only at hi hj
   subst hi hj
   rw[hFF,hj1]
   rw[show((0,0 - 1):Nat×Nat)=f.by_ q from h0.symm]
   exact Z7f _ _
  have hFZ:=hid (show FSo X b m (.slice a0 f.t.n.length c0) p (⟨f.t,f.now,F⟩:FsV) u (n+1) by rw[hsame];exact hFX.out.mono (by omega))
  have hSZ:=hS
  clear hsame hno hXn hFX hS
  replace hi:=hid hi
  replace hj:=hid hj
  replace hj1:=hid hj1
  replace hFF:=hid hFF
  have hge:=Z22 _ f.t.next f.t.n q X hFZ.out.row ht.sort (by have:=ht.few;omega)
  unfold Z3n at hge
  replace hge:=hid hge
  have s0:X.cell? ⟨b,0,none⟩=some (.int .u64 (f.t.next:Int)):=Z0 hFZ.out.blk 0
  have s1:X.cell? ⟨b,1,none⟩=some (.slice a0 f.t.n.length c0):=Z0 hFZ.out.blk 1
  obtain⟨x,hx⟩ : ∃ x,x=Z1M f.t.n q:=⟨_,rfl⟩
  rw[←hx]at hge
  replace hx:=hid hx
  go_enter Tryz.func24,Tryz.ntmps24
  go_wp2_with (first
   |(rw[←hX];replace hX:=hid hX)
   |(refine wpList_store_row (by rfl) 107 (.tmp 6) (.tmp 19) (by rfl) w.heap.size #[.int .i64 (i:Int),.int .i64 (j:Int)] (by rfl) (by rfl) 107 _ hnew.out (by kernel_rfl) (by kernel_rfl) (by kernel_rfl) ?_))
  refine hge.out.mono ?_
  rintro e w4 ⟨rfl,hb4⟩
  obtain⟨Y,hY⟩ : ∃ W,W=Z1J w4 x:=⟨_,rfl⟩
  have hbY:Below w4.heap.size w4 Y:=by rw[hY];exact ZD _ _
  have hBY:=sn hb4 hbY
  have hnY:=hid (show Y.heap[w4.heap.size]?=some (.cells x.cells 89 (0,0)) by rw[hY];exact ZK _ _)
  have hFY:=hid (hFZ.out.below hBY)
  have hSY:=hid (hSZ.out.trans (FStep.pure hBY))
  have hnew9:=hid (heap_alloc_new w4 (.cells Zk.cells 89))
  unfold Z1J at hY
  rw[Zc]at hY hnew9
  clear hb4 hbY hBY s0 s1 hge
  cases hg:ZM f.t.n q with
  | none =>
   have hE2:Hid (Z2d f q mode=(⟨f.t,f.now,F⟩:FsV)):=hid (by rw[hE.out,hg])
   clear hg hE
   simp only[Option.isSome_none]
   go_wp2_with (first
    |(rw[←hY];replace hY:=hid hY)
    |(refine wpList_store_row (by rfl) 89 (.tmp 8) (.tmp 40) (by rfl) w4.heap.size x.cells (by rfl) (by rfl) 89 _ hnew9.out (by kernel_rfl) (by kernel_rfl) (Zw x) ?_))
   try (rw[←hY];replace hY:=hid hY)
   go_end0
   rw[hE2.out]
   exact⟨rfl,⟨_,hFY.out⟩,hSY.out⟩
  | some y =>
   have hxy:x=y:=by rw[hx.out];unfold Z1M;rw[hg];rfl
   subst hxy
   simp only[Option.isSome_some]
   by_cases h64:mode &&& 64=0
   ·have hE2:Hid (Z2d f q mode=(⟨f.t,f.now,F⟩:FsV)):=hid (by rw[hE.out,hg];simp only;rw[if_pos h64])
    have k64:(bits .and .u8 (mode:Int) 64 == 0)=true:=by rw[Zbt mode hm];exact decide_eq_true h64
    clear hg hE h64
    go_wp2_with (first
     |(rw[←hY];replace hY:=hid hY)
     |(refine wpList_store_row (by rfl) 89 (.tmp 8) (.tmp 40) (by rfl) w4.heap.size x.cells (by rfl) (by rfl) 89 _ hnew9.out (by kernel_rfl) (by kernel_rfl) (Zw x) ?_))
    try (rw[←hY];replace hY:=hid hY)
    go_end0
    rw[hE2.out]
    exact⟨rfl,⟨_,hFY.out⟩,hSY.out⟩
   ·have k64:(bits .and .u8 (mode:Int) 64 == 0)=false:=by rw[Zbt mode hm];exact decide_eq_false h64
    obtain⟨R,hR⟩ : ∃ R,ZQ f.t q x.uid f.now=R:=⟨_,rfl⟩
    have hE2:Hid (Z2d f q mode=if R.2≠0 then(⟨f.t,f.now,F⟩:FsV) else Z2c (FsV.set (⟨f.t,f.now,F⟩:FsV) R.1) q):=hid (by rw[hE.out,hg];simp only;rw[if_neg h64,hR])
    have hgd:=Z2a hok.good q x.uid f.now (hok.good.ok.ids x (Zr hg).1).1 hok.now (hok.good.nod x (Zr hg).1).uid
    rw[hR]at hgd
    replace hgd:=hid hgd
    replace hR:=hid hR
    have hnow:=hok.now
    have hFd:=hid (hFY.out.below ((Below.refl _ _).drew))
    have hSd:=hid (hSY.out.trans (FStep.pure ((Below.refl _ _).drew)))
    have hnd:=hid (show Y.drew.heap[w4.heap.size]?=some (.cells x.cells 89 (0,0)) from hnY.out)
    clear hg hE h64
    go_wp2_with (first
     |(rw[←hY];replace hY:=hid hY)
     |(refine wpList_store_row (by rfl) 89 (.tmp 8) (.tmp 40) (by rfl) w4.heap.size x.cells (by rfl) (by rfl) 89 _ hnew9.out (by kernel_rfl) (by kernel_rfl) (Zw x) ?_))
    try (rw[←hY];replace hY:=hid hY)
    generalize w4.heap.size=z at *
    refine wp_region_held (S:=Below Y.drew.heap.size Y.drew) mixed ?_
    refine(show wpAnyH Tryz.prog .any Zj _ _ _ _ _ _→_ from fun h=>h) ?_
    refine Z7x (w1:=Y.drew) (v0:=undef) (f:=(⟨f.t,f.now,F⟩:FsV)) (k8:=z) (x:=x) (R:=R) hFd.out hnd.out ht hnow hR.out (fun d u c a w h=>by cases d <;> exact h) (FrL.of_all (by rfl) rfl ⟨rfl,rfl,rfl,trivial⟩) (Below.refl _ _) (fun a w6 g v' hF hS f1 f2 f3 f4=>?_)
    have he:=Z1n hF [.pointer (some ⟨b,0,none⟩),.int .u64 (q:Int),a.tmps.getD 2 undef,a.tmps.getD 3 undef,a.tmps.getD 4 undef,a.tmps.getD 5 undef,a.tmps.getD 6 undef,a.tmps.getD 7 undef,a.tmps.getD 8 undef,a.tmps.getD 9 undef,.pointer (some ⟨g,0,none⟩),.int .i64 (R.2:Int),a.tmps.getD 12 undef,a.tmps.getD 13 undef,a.tmps.getD 14 undef,a.tmps.getD 15 undef,a.tmps.getD 16 undef,a.tmps.getD 17 undef,a.tmps.getD 18 undef,a.tmps.getD 19 undef,a.tmps.getD 20 undef,a.tmps.getD 21 undef,a.tmps.getD 22 undef,a.tmps.getD 23 undef,a.tmps.getD 24 undef,a.tmps.getD 25 undef,a.tmps.getD 26 undef,a.tmps.getD 27 undef,a.tmps.getD 28 undef,a.tmps.getD 29 undef,a.tmps.getD 30 undef,a.tmps.getD 31 undef,a.tmps.getD 32 undef,a.tmps.getD 33 undef,a.tmps.getD 34 undef,a.tmps.getD 35 undef,a.tmps.getD 36 undef,a.tmps.getD 37 undef,a.tmps.getD 38 undef,a.tmps.getD 39 undef,a.tmps.getD 40 undef,a.tmps.getD 41 undef,a.tmps.getD 42 undef,a.tmps.getD 43 undef,a.tmps.getD 44 undef,a.tmps.getD 45 undef,a.tmps.getD 46 undef,a.tmps.getD 47 undef,a.tmps.getD 48 undef,a.tmps.getD 49 undef,a.tmps.getD 50 undef,a.tmps.getD 51 undef,a.tmps.getD 52 undef,a.tmps.getD 53 undef,a.tmps.getD 54 undef,a.tmps.getD 55 undef,a.tmps.getD 56 undef,a.tmps.getD 57 undef,a.tmps.getD 58 undef,a.tmps.getD 59 undef,a.tmps.getD 60 undef,a.tmps.getD 61 undef,a.tmps.getD 62 undef,a.tmps.getD 63 undef,a.tmps.getD 64 undef,a.tmps.getD 65 undef,a.tmps.getD 66 undef,a.tmps.getD 67 undef,a.tmps.getD 68 undef,a.tmps.getD 69 undef,a.tmps.getD 70 undef,a.tmps.getD 71 undef,a.tmps.getD 72 undef] (by rfl) ⟨hF.get 0 _ rfl,hF.get 1 _ rfl,hF.any 2 (by decide),hF.any 3 (by decide),hF.any 4 (by decide),hF.any 5 (by decide),hF.any 6 (by decide),hF.any 7 (by decide),hF.any 8 (by decide),hF.any 9 (by decide),hF.get 10 _ rfl,hF.get 11 _ rfl,hF.any 12 (by decide),hF.any 13 (by decide),hF.any 14 (by decide),hF.any 15 (by decide),hF.any 16 (by decide),hF.any 17 (by decide),hF.any 18 (by decide),hF.any 19 (by decide),hF.any 20 (by decide),hF.any 21 (by decide),hF.any 22 (by decide),hF.any 23 (by decide),hF.any 24 (by decide),hF.any 25 (by decide),hF.any 26 (by decide),hF.any 27 (by decide),hF.any 28 (by decide),hF.any 29 (by decide),hF.any 30 (by decide),hF.any 31 (by decide),hF.any 32 (by decide),hF.any 33 (by decide),hF.any 34 (by decide),hF.any 35 (by decide),hF.any 36 (by decide),hF.any 37 (by decide),hF.any 38 (by decide),hF.any 39 (by decide),hF.any 40 (by decide),hF.any 41 (by decide),hF.any 42 (by decide),hF.any 43 (by decide),hF.any 44 (by decide),hF.any 45 (by decide),hF.any 46 (by decide),hF.any 47 (by decide),hF.any 48 (by decide),hF.any 49 (by decide),hF.any 50 (by decide),hF.any 51 (by decide),hF.any 52 (by decide),hF.any 53 (by decide),hF.any 54 (by decide),hF.any 55 (by decide),hF.any 56 (by decide),hF.any 57 (by decide),hF.any 58 (by decide),hF.any 59 (by decide),hF.any 60 (by decide),hF.any 61 (by decide),hF.any 62 (by decide),hF.any 63 (by decide),hF.any 64 (by decide),hF.any 65 (by decide),hF.any 66 (by decide),hF.any 67 (by decide),hF.any 68 (by decide),hF.any 69 (by decide),hF.any 70 (by decide),hF.any 71 (by decide),hF.any 72 (by decide),trivial⟩
    rw[he]
    clear he hF
    generalize a.tmps.getD 2 undef=y2
    generalize a.tmps.getD 3 undef=y3
    generalize a.tmps.getD 4 undef=y4
    generalize a.tmps.getD 5 undef=y5
    generalize a.tmps.getD 6 undef=y6
    generalize a.tmps.getD 7 undef=y7
    generalize a.tmps.getD 8 undef=y8
    generalize a.tmps.getD 9 undef=y9
    generalize a.tmps.getD 12 undef=y12
    generalize a.tmps.getD 13 undef=y13
    generalize a.tmps.getD 14 undef=y14
    generalize a.tmps.getD 15 undef=y15
    generalize a.tmps.getD 16 undef=y16
    generalize a.tmps.getD 17 undef=y17
    generalize a.tmps.getD 18 undef=y18
    generalize a.tmps.getD 19 undef=y19
    generalize a.tmps.getD 20 undef=y20
    generalize a.tmps.getD 21 undef=y21
    generalize a.tmps.getD 22 undef=y22
    generalize a.tmps.getD 23 undef=y23
    generalize a.tmps.getD 24 undef=y24
    generalize a.tmps.getD 25 undef=y25
    generalize a.tmps.getD 26 undef=y26
    generalize a.tmps.getD 27 undef=y27
    generalize a.tmps.getD 28 undef=y28
    generalize a.tmps.getD 29 undef=y29
    generalize a.tmps.getD 30 undef=y30
    generalize a.tmps.getD 31 undef=y31
    generalize a.tmps.getD 32 undef=y32
    generalize a.tmps.getD 33 undef=y33
    generalize a.tmps.getD 34 undef=y34
    generalize a.tmps.getD 35 undef=y35
    generalize a.tmps.getD 36 undef=y36
    generalize a.tmps.getD 37 undef=y37
    generalize a.tmps.getD 38 undef=y38
    generalize a.tmps.getD 39 undef=y39
    generalize a.tmps.getD 40 undef=y40
    generalize a.tmps.getD 41 undef=y41
    generalize a.tmps.getD 42 undef=y42
    generalize a.tmps.getD 43 undef=y43
    generalize a.tmps.getD 44 undef=y44
    generalize a.tmps.getD 45 undef=y45
    generalize a.tmps.getD 46 undef=y46
    generalize a.tmps.getD 47 undef=y47
    generalize a.tmps.getD 48 undef=y48
    generalize a.tmps.getD 49 undef=y49
    generalize a.tmps.getD 50 undef=y50
    generalize a.tmps.getD 51 undef=y51
    generalize a.tmps.getD 52 undef=y52
    generalize a.tmps.getD 53 undef=y53
    generalize a.tmps.getD 54 undef=y54
    generalize a.tmps.getD 55 undef=y55
    generalize a.tmps.getD 56 undef=y56
    generalize a.tmps.getD 57 undef=y57
    generalize a.tmps.getD 58 undef=y58
    generalize a.tmps.getD 59 undef=y59
    generalize a.tmps.getD 60 undef=y60
    generalize a.tmps.getD 61 undef=y61
    generalize a.tmps.getD 62 undef=y62
    generalize a.tmps.getD 63 undef=y63
    generalize a.tmps.getD 64 undef=y64
    generalize a.tmps.getD 65 undef=y65
    generalize a.tmps.getD 66 undef=y66
    generalize a.tmps.getD 67 undef=y67
    generalize a.tmps.getD 68 undef=y68
    generalize a.tmps.getD 69 undef=y69
    generalize a.tmps.getD 70 undef=y70
    generalize a.tmps.getD 71 undef=y71
    generalize a.tmps.getD 72 undef=y72
    clear a
    have hF6:=hid (hFd.out.below hS)
    have hS6:=hid (hSd.out.trans (FStep.pure hS))
    have hbl:=lt_of_block hFd.out.blk
    have hml:=hFd.out.map.lt
    have n1:Hid (v'.ownBlock≠some b):=hid (fun e=>by have:=f4 _ e;omega)
    have n2:Hid (v'.ownBlock≠some m):=hid (fun e=>by have:=f4 _ e;omega)
    replace f1:=hid f1
    replace f3:=hid f3
    obtain⟨a',c',rfl,_,_⟩:=f3.out.form
    clear hS f2 f4 k64
    by_cases hE0:R.2=0
    ·have hE3:Hid (Z2d f q mode=Z2c (FsV.set (⟨f.t,f.now,F⟩:FsV) R.1) q):=hid (by rw[hE2.out,if_neg (by rw[hE0];simp)])
     have b0:=Zb hF6.out.blk 0
     have c0':=Z0 hF6.out.blk 0
     have hs1:=Zg hF6.out.blk 0 (.int .u64 (R.1.next:Int))
     have b1:(w6.setCell ⟨b,0,none⟩ (.int .u64 (R.1.next:Int))).frozen? ⟨b,1,none⟩=false:=Zb hs1 1
     have c1:(w6.setCell ⟨b,0,none⟩ (.int .u64 (R.1.next:Int))).cell? ⟨b,1,none⟩=some _:=Z0 hs1 1
     have hF7:=hF6.out.put R.1 f3.out n1.out n2.out
     obtain⟨T,hT⟩ : ∃ T,T=(w6.setCell ⟨b,0,none⟩ (.int .u64 (R.1.next:Int))).setCell ⟨b,1,none⟩ (.slice a' R.1.n.length c'):=⟨_,rfl⟩
     have hS7:=hid (show FStep b m w T by rw[hT];exact hS6.out.trans (FStep.put _ _))
     rw[←hT]at hF7
     have hre:=hid (Z2t b m p (n+1) _ _ u q T hF7 hgd.out.tr hq)
     rw[hE0]
     clear hE2 hE0 hs1 hF7
     go_wp2_with (first
      |(rw[←hT];replace hT:=hid hT)
      |(refine wpList_load_row (by rfl) 30 (.tmp 10) (by rfl) g (by rfl) 30 #[.int .u64 (R.1.next:Int),.slice a' R.1.n.length c'] (0,0) _ f1.out Tryz.underlying30 (by rfl) (by kernel_rfl) ?_))
     refine hre.out.mono ?_
     rintro e w8 ⟨rfl,⟨v8,hF8,_⟩,hs8⟩
     replace hF8:=hid hF8
     replace hs8:=hid hs8
     go_wp2_with fail
     go_end0
     rw[hE3.out]
     exact⟨rfl,⟨v8,hF8.out⟩,hS7.out.trans hs8.out⟩
    ·have hE3:Hid (Z2d f q mode=(⟨f.t,f.now,F⟩:FsV)):=hid (by rw[hE2.out,if_pos hE0])
     have kE:((R.2:Int) == 0)=false:=by simpa using hE0
     clear hE2 hE0
     go_wp2_with fail
     go_end0
     rw[hE3.out]
     exact⟨rfl,⟨_,hF6.out⟩,hS6.out⟩
 | true =>
  have hj2:i≤n+1∧j1≤n+1:=by omega
  have hsub:IntKind.i64.wrap ((j:Int) - 1)=(j:Int) - 1:=IntWalk.i64_in _ (by omega)
  have hmax:max ((j:Int) - 1) 0=(j1:Int):=by omega
  obtain⟨Z,hZ⟩ : ∃ Z,Z=X.setCell ⟨w.heap.size,1,none⟩ (.int .i64 (j1:Int)):=⟨_,rfl⟩
  have hZn:Z.heap[w.heap.size]?=some (.cells #[.int .i64 (i:Int),.int .i64 (j1:Int)] 107 (0,0)):=by rw[hZ];exact Zg hXn 1 _
  have hZb:Below w.heap.size w Z:=by rw[hZ];exact hXb.out.setCell (p:=⟨w.heap.size,1,none⟩) (Nat.le_refl _) _
  have hF0:=hid (h.out.below hZb)
  have hS0:=hid (FStep.pure (b:=b) (m:=m) hZb)
  have y1:X.cell? ⟨w.heap.size,1,none⟩=some (.int .i64 (j:Int)):=Z0 hXn 1
  have z1:X.frozen? ⟨w.heap.size,1,none⟩=false:=Zb hXn 1
  have x0:Z.cell? ⟨w.heap.size,0,none⟩=some (.int .i64 (i:Int)):=Z0 hZn 0
  have x1:Z.cell? ⟨w.heap.size,1,none⟩=some (.int .i64 (j1:Int)):=Z0 hZn 1
  have x4:Z.cell? ⟨b,4,none⟩=some (.map (some m)):=Z0 hF0.out.blk 4
  obtain⟨w3,hrun,hm',ht'⟩:=(show MapAt Z.drew m n f.by_ from hF0.out.map.kept rfl).put q hq hn (i,j1) hj2
  simp only at hrun
  rw[←hFF]at hm'
  have hFZ:=hid (show FSo w3 b m (.slice a0 f.t.n.length c0) p (⟨f.t,f.now,F⟩:FsV) u (n+1) from(hF0.out.below ((Below.refl _ _).drew)).turn ht' hm')
  have hSZ:=hid (hS0.out.trans ((FStep.pure (Below.refl _ _).drew).trans (FStep.turned ht')))
  clear hXn hZn hle hZb hm' ht' hno hF0 hS0 hFX hS
  replace hi:=hid hi
  replace hj:=hid hj
  replace hj1:=hid hj1
  replace hj2:=hid hj2
  replace hFF:=hid hFF
  go_enter Tryz.func24,Tryz.ntmps24
  go_wp2_with (first
   |(rw[←hX];replace hX:=hid hX)
   |(rw[←hZ];replace hZ:=hid hZ)
   |(refine wpList_store_row (by rfl) 107 (.tmp 6) (.tmp 19) (by rfl) w.heap.size #[.int .i64 (i:Int),.int .i64 (j:Int)] (by rfl) (by rfl) 107 _ hnew.out (by kernel_rfl) (by kernel_rfl) (by kernel_rfl) ?_))
  go_region
  all_goals
   have hge:=Z22 _ f.t.next f.t.n q w3 hFZ.out.row ht.sort (by have:=ht.few;omega)
   unfold Z3n at hge
   replace hge:=hid hge
   have s0:w3.cell? ⟨b,0,none⟩=some (.int .u64 (f.t.next:Int)):=Z0 hFZ.out.blk 0
   have s1:w3.cell? ⟨b,1,none⟩=some (.slice a0 f.t.n.length c0):=Z0 hFZ.out.blk 1
   obtain⟨x,hx⟩ : ∃ x,x=Z1M f.t.n q:=⟨_,rfl⟩
   rw[←hx]at hge
   replace hx:=hid hx
   go_wp2_with fail
   refine hge.out.mono ?_
   rintro e w4 ⟨rfl,hb4⟩
   obtain⟨Y,hY⟩ : ∃ W,W=Z1J w4 x:=⟨_,rfl⟩
   have hbY:Below w4.heap.size w4 Y:=by rw[hY];exact ZD _ _
   have hBY:=sn hb4 hbY
   have hnY:=hid (show Y.heap[w4.heap.size]?=some (.cells x.cells 89 (0,0)) by rw[hY];exact ZK _ _)
   have hFY:=hid (hFZ.out.below hBY)
   have hSY:=hid (hSZ.out.trans (FStep.pure hBY))
   have hnew9:=hid (heap_alloc_new w4 (.cells Zk.cells 89))
   unfold Z1J at hY
   rw[Zc]at hY hnew9
   clear hb4 hbY hBY s0 s1 hge
   cases hg:ZM f.t.n q with
   | none =>
    have hE2:Hid (Z2d f q mode=(⟨f.t,f.now,F⟩:FsV)):=hid (by rw[hE.out,hg])
    clear hg hE
    simp only[Option.isSome_none]
    go_wp2_with (first
     |(rw[←hY];replace hY:=hid hY)
     |(refine wpList_store_row (by rfl) 89 (.tmp 8) (.tmp 40) (by rfl) w4.heap.size x.cells (by rfl) (by rfl) 89 _ hnew9.out (by kernel_rfl) (by kernel_rfl) (Zw x) ?_))
    try (rw[←hY];replace hY:=hid hY)
    go_end0
    rw[hE2.out]
    exact⟨rfl,⟨_,hFY.out⟩,hSY.out⟩
   | some y =>
    have hxy:x=y:=by rw[hx.out];unfold Z1M;rw[hg];rfl
    subst hxy
    simp only[Option.isSome_some]
    by_cases h64:mode &&& 64=0
    ·have hE2:Hid (Z2d f q mode=(⟨f.t,f.now,F⟩:FsV)):=hid (by rw[hE.out,hg];simp only;rw[if_pos h64])
     have k64:(bits .and .u8 (mode:Int) 64 == 0)=true:=by rw[Zbt mode hm];exact decide_eq_true h64
     clear hg hE h64
     go_wp2_with (first
      |(rw[←hY];replace hY:=hid hY)
      |(refine wpList_store_row (by rfl) 89 (.tmp 8) (.tmp 40) (by rfl) w4.heap.size x.cells (by rfl) (by rfl) 89 _ hnew9.out (by kernel_rfl) (by kernel_rfl) (Zw x) ?_))
     try (rw[←hY];replace hY:=hid hY)
     go_end0
     rw[hE2.out]
     exact⟨rfl,⟨_,hFY.out⟩,hSY.out⟩
    ·have k64:(bits .and .u8 (mode:Int) 64 == 0)=false:=by rw[Zbt mode hm];exact decide_eq_false h64
     obtain⟨R,hR⟩ : ∃ R,ZQ f.t q x.uid f.now=R:=⟨_,rfl⟩
     have hE2:Hid (Z2d f q mode=if R.2≠0 then(⟨f.t,f.now,F⟩:FsV) else Z2c (FsV.set (⟨f.t,f.now,F⟩:FsV) R.1) q):=hid (by rw[hE.out,hg];simp only;rw[if_neg h64,hR])
     have hgd:=Z2a hok.good q x.uid f.now (hok.good.ok.ids x (Zr hg).1).1 hok.now (hok.good.nod x (Zr hg).1).uid
     rw[hR]at hgd
     replace hgd:=hid hgd
     replace hR:=hid hR
     have hnow:=hok.now
     have hFd:=hid (hFY.out.below ((Below.refl _ _).drew))
     have hSd:=hid (hSY.out.trans (FStep.pure ((Below.refl _ _).drew)))
     have hnd:=hid (show Y.drew.heap[w4.heap.size]?=some (.cells x.cells 89 (0,0)) from hnY.out)
     clear hg hE h64
     go_wp2_with (first
      |(rw[←hY];replace hY:=hid hY)
      |(refine wpList_store_row (by rfl) 89 (.tmp 8) (.tmp 40) (by rfl) w4.heap.size x.cells (by rfl) (by rfl) 89 _ hnew9.out (by kernel_rfl) (by kernel_rfl) (Zw x) ?_))
     try (rw[←hY];replace hY:=hid hY)
     generalize w4.heap.size=z at *
     refine wp_region_held (S:=Below Y.drew.heap.size Y.drew) mixed ?_
     refine(show wpAnyH Tryz.prog .any Zj _ _ _ _ _ _→_ from fun h=>h) ?_
     refine Z7x (w1:=Y.drew) (v0:=undef) (f:=(⟨f.t,f.now,F⟩:FsV)) (k8:=z) (x:=x) (R:=R) hFd.out hnd.out ht hnow hR.out (fun d u c a w h=>by cases d <;> exact h) (FrL.of_all (by rfl) rfl ⟨rfl,rfl,rfl,trivial⟩) (Below.refl _ _) (fun a w6 g v' hF hS f1 f2 f3 f4=>?_)
     have he:=Z1n hF [.pointer (some ⟨b,0,none⟩),.int .u64 (q:Int),a.tmps.getD 2 undef,a.tmps.getD 3 undef,a.tmps.getD 4 undef,a.tmps.getD 5 undef,a.tmps.getD 6 undef,a.tmps.getD 7 undef,a.tmps.getD 8 undef,a.tmps.getD 9 undef,.pointer (some ⟨g,0,none⟩),.int .i64 (R.2:Int),a.tmps.getD 12 undef,a.tmps.getD 13 undef,a.tmps.getD 14 undef,a.tmps.getD 15 undef,a.tmps.getD 16 undef,a.tmps.getD 17 undef,a.tmps.getD 18 undef,a.tmps.getD 19 undef,a.tmps.getD 20 undef,a.tmps.getD 21 undef,a.tmps.getD 22 undef,a.tmps.getD 23 undef,a.tmps.getD 24 undef,a.tmps.getD 25 undef,a.tmps.getD 26 undef,a.tmps.getD 27 undef,a.tmps.getD 28 undef,a.tmps.getD 29 undef,a.tmps.getD 30 undef,a.tmps.getD 31 undef,a.tmps.getD 32 undef,a.tmps.getD 33 undef,a.tmps.getD 34 undef,a.tmps.getD 35 undef,a.tmps.getD 36 undef,a.tmps.getD 37 undef,a.tmps.getD 38 undef,a.tmps.getD 39 undef,a.tmps.getD 40 undef,a.tmps.getD 41 undef,a.tmps.getD 42 undef,a.tmps.getD 43 undef,a.tmps.getD 44 undef,a.tmps.getD 45 undef,a.tmps.getD 46 undef,a.tmps.getD 47 undef,a.tmps.getD 48 undef,a.tmps.getD 49 undef,a.tmps.getD 50 undef,a.tmps.getD 51 undef,a.tmps.getD 52 undef,a.tmps.getD 53 undef,a.tmps.getD 54 undef,a.tmps.getD 55 undef,a.tmps.getD 56 undef,a.tmps.getD 57 undef,a.tmps.getD 58 undef,a.tmps.getD 59 undef,a.tmps.getD 60 undef,a.tmps.getD 61 undef,a.tmps.getD 62 undef,a.tmps.getD 63 undef,a.tmps.getD 64 undef,a.tmps.getD 65 undef,a.tmps.getD 66 undef,a.tmps.getD 67 undef,a.tmps.getD 68 undef,a.tmps.getD 69 undef,a.tmps.getD 70 undef,a.tmps.getD 71 undef,a.tmps.getD 72 undef] (by rfl) ⟨hF.get 0 _ rfl,hF.get 1 _ rfl,hF.any 2 (by decide),hF.any 3 (by decide),hF.any 4 (by decide),hF.any 5 (by decide),hF.any 6 (by decide),hF.any 7 (by decide),hF.any 8 (by decide),hF.any 9 (by decide),hF.get 10 _ rfl,hF.get 11 _ rfl,hF.any 12 (by decide),hF.any 13 (by decide),hF.any 14 (by decide),hF.any 15 (by decide),hF.any 16 (by decide),hF.any 17 (by decide),hF.any 18 (by decide),hF.any 19 (by decide),hF.any 20 (by decide),hF.any 21 (by decide),hF.any 22 (by decide),hF.any 23 (by decide),hF.any 24 (by decide),hF.any 25 (by decide),hF.any 26 (by decide),hF.any 27 (by decide),hF.any 28 (by decide),hF.any 29 (by decide),hF.any 30 (by decide),hF.any 31 (by decide),hF.any 32 (by decide),hF.any 33 (by decide),hF.any 34 (by decide),hF.any 35 (by decide),hF.any 36 (by decide),hF.any 37 (by decide),hF.any 38 (by decide),hF.any 39 (by decide),hF.any 40 (by decide),hF.any 41 (by decide),hF.any 42 (by decide),hF.any 43 (by decide),hF.any 44 (by decide),hF.any 45 (by decide),hF.any 46 (by decide),hF.any 47 (by decide),hF.any 48 (by decide),hF.any 49 (by decide),hF.any 50 (by decide),hF.any 51 (by decide),hF.any 52 (by decide),hF.any 53 (by decide),hF.any 54 (by decide),hF.any 55 (by decide),hF.any 56 (by decide),hF.any 57 (by decide),hF.any 58 (by decide),hF.any 59 (by decide),hF.any 60 (by decide),hF.any 61 (by decide),hF.any 62 (by decide),hF.any 63 (by decide),hF.any 64 (by decide),hF.any 65 (by decide),hF.any 66 (by decide),hF.any 67 (by decide),hF.any 68 (by decide),hF.any 69 (by decide),hF.any 70 (by decide),hF.any 71 (by decide),hF.any 72 (by decide),trivial⟩
     rw[he]
     clear he hF
     generalize a.tmps.getD 2 undef=y2
     generalize a.tmps.getD 3 undef=y3
     generalize a.tmps.getD 4 undef=y4
     generalize a.tmps.getD 5 undef=y5
     generalize a.tmps.getD 6 undef=y6
     generalize a.tmps.getD 7 undef=y7
     generalize a.tmps.getD 8 undef=y8
     generalize a.tmps.getD 9 undef=y9
     generalize a.tmps.getD 12 undef=y12
     generalize a.tmps.getD 13 undef=y13
     generalize a.tmps.getD 14 undef=y14
     generalize a.tmps.getD 15 undef=y15
     generalize a.tmps.getD 16 undef=y16
     generalize a.tmps.getD 17 undef=y17
     generalize a.tmps.getD 18 undef=y18
     generalize a.tmps.getD 19 undef=y19
     generalize a.tmps.getD 20 undef=y20
     generalize a.tmps.getD 21 undef=y21
     generalize a.tmps.getD 22 undef=y22
     generalize a.tmps.getD 23 undef=y23
     generalize a.tmps.getD 24 undef=y24
     generalize a.tmps.getD 25 undef=y25
     generalize a.tmps.getD 26 undef=y26
     generalize a.tmps.getD 27 undef=y27
     generalize a.tmps.getD 28 undef=y28
     generalize a.tmps.getD 29 undef=y29
     generalize a.tmps.getD 30 undef=y30
     generalize a.tmps.getD 31 undef=y31
     generalize a.tmps.getD 32 undef=y32
     generalize a.tmps.getD 33 undef=y33
     generalize a.tmps.getD 34 undef=y34
     generalize a.tmps.getD 35 undef=y35
     generalize a.tmps.getD 36 undef=y36
     generalize a.tmps.getD 37 undef=y37
     generalize a.tmps.getD 38 undef=y38
     generalize a.tmps.getD 39 undef=y39
     generalize a.tmps.getD 40 undef=y40
     generalize a.tmps.getD 41 undef=y41
     generalize a.tmps.getD 42 undef=y42
     generalize a.tmps.getD 43 undef=y43
     generalize a.tmps.getD 44 undef=y44
     generalize a.tmps.getD 45 undef=y45
     generalize a.tmps.getD 46 undef=y46
     generalize a.tmps.getD 47 undef=y47
     generalize a.tmps.getD 48 undef=y48
     generalize a.tmps.getD 49 undef=y49
     generalize a.tmps.getD 50 undef=y50
     generalize a.tmps.getD 51 undef=y51
     generalize a.tmps.getD 52 undef=y52
     generalize a.tmps.getD 53 undef=y53
     generalize a.tmps.getD 54 undef=y54
     generalize a.tmps.getD 55 undef=y55
     generalize a.tmps.getD 56 undef=y56
     generalize a.tmps.getD 57 undef=y57
     generalize a.tmps.getD 58 undef=y58
     generalize a.tmps.getD 59 undef=y59
     generalize a.tmps.getD 60 undef=y60
     generalize a.tmps.getD 61 undef=y61
     generalize a.tmps.getD 62 undef=y62
     generalize a.tmps.getD 63 undef=y63
     generalize a.tmps.getD 64 undef=y64
     generalize a.tmps.getD 65 undef=y65
     generalize a.tmps.getD 66 undef=y66
     generalize a.tmps.getD 67 undef=y67
     generalize a.tmps.getD 68 undef=y68
     generalize a.tmps.getD 69 undef=y69
     generalize a.tmps.getD 70 undef=y70
     generalize a.tmps.getD 71 undef=y71
     generalize a.tmps.getD 72 undef=y72
     clear a
     have hF6:=hid (hFd.out.below hS)
     have hS6:=hid (hSd.out.trans (FStep.pure hS))
     have hbl:=lt_of_block hFd.out.blk
     have hml:=hFd.out.map.lt
     have n1:Hid (v'.ownBlock≠some b):=hid (fun e=>by have:=f4 _ e;omega)
     have n2:Hid (v'.ownBlock≠some m):=hid (fun e=>by have:=f4 _ e;omega)
     replace f1:=hid f1
     replace f3:=hid f3
     obtain⟨a',c',rfl,_,_⟩:=f3.out.form
     clear hS f2 f4 k64
     by_cases hE0:R.2=0
     ·have hE3:Hid (Z2d f q mode=Z2c (FsV.set (⟨f.t,f.now,F⟩:FsV) R.1) q):=hid (by rw[hE2.out,if_neg (by rw[hE0];simp)])
      have b0:=Zb hF6.out.blk 0
      have c0':=Z0 hF6.out.blk 0
      have hs1:=Zg hF6.out.blk 0 (.int .u64 (R.1.next:Int))
      have b1:(w6.setCell ⟨b,0,none⟩ (.int .u64 (R.1.next:Int))).frozen? ⟨b,1,none⟩=false:=Zb hs1 1
      have c1:(w6.setCell ⟨b,0,none⟩ (.int .u64 (R.1.next:Int))).cell? ⟨b,1,none⟩=some _:=Z0 hs1 1
      have hF7:=hF6.out.put R.1 f3.out n1.out n2.out
      obtain⟨T,hT⟩ : ∃ T,T=(w6.setCell ⟨b,0,none⟩ (.int .u64 (R.1.next:Int))).setCell ⟨b,1,none⟩ (.slice a' R.1.n.length c'):=⟨_,rfl⟩
      have hS7:=hid (show FStep b m w T by rw[hT];exact hS6.out.trans (FStep.put _ _))
      rw[←hT]at hF7
      have hre:=hid (Z2t b m p (n+1) _ _ u q T hF7 hgd.out.tr hq)
      rw[hE0]
      clear hE2 hE0 hs1 hF7
      go_wp2_with (first
       |(rw[←hT];replace hT:=hid hT)
       |(refine wpList_load_row (by rfl) 30 (.tmp 10) (by rfl) g (by rfl) 30 #[.int .u64 (R.1.next:Int),.slice a' R.1.n.length c'] (0,0) _ f1.out Tryz.underlying30 (by rfl) (by kernel_rfl) ?_))
      refine hre.out.mono ?_
      rintro e w8 ⟨rfl,⟨v8,hF8,_⟩,hs8⟩
      replace hF8:=hid hF8
      replace hs8:=hid hs8
      go_wp2_with fail
      go_end0
      rw[hE3.out]
      exact⟨rfl,⟨v8,hF8.out⟩,hS7.out.trans hs8.out⟩
     ·have hE3:Hid (Z2d f q mode=(⟨f.t,f.now,F⟩:FsV)):=hid (by rw[hE2.out,if_pos hE0])
      have kE:((R.2:Int) == 0)=false:=by simpa using hE0
      clear hE2 hE0
      go_wp2_with fail
      go_end0
      rw[hE3.out]
      exact⟨rfl,⟨_,hF6.out⟩,hS6.out⟩
end
section
open Go.RowKit Go.Maps
theorem FSo.tick {w:World} {b m p n:Nat} {v:Value} {f:FsV} {u:Usr} (h:FSo w b m v p f u n) (k:Nat):FSo (w.setCell ⟨b,3,none⟩ (.int .u32 (k:Int))) b m v p ⟨f.t,k,f.by_⟩ u n:=by
 obtain⟨W0,h1,h2,h3,h4⟩:=h.tab
 have hk : ∀ j,j≠b→(w.setCell ⟨b,3,none⟩ (.int .u32 (k:Int))).heap[j]?=w.heap[j]?:=fun j hj=>Z1 hj
 exact⟨h.ne,Zg h.blk 3 _,Z3.other h.row b h.nb (by simp[World.setCell]) hk,h.nb,h.nm,⟨W0,h1,h2.setCell (p:=⟨b,3,none⟩) h3 _,h3,h4⟩,h.map.kept (hk m (Ne.symm h.ne))⟩
end
section
variable {V:ByteArray→Bool}
theorem Z8j (d m:Nat):ZV (Z12 d m)=true:=by
 have c1:(2147483648 &&& 536870400:Nat)=0:=by decide
 have c2:(511 &&& 536870400:Nat)=0:=by decide
 have c3:(2147483648 &&& 1610612736:Nat)=0:=by decide
 have c4:(511 &&& 1610612736:Nat)=0:=by decide
 have c5:(1610612736 &&& 536870400:Nat)=0:=by decide
 have c6:(73 &&& 536870400:Nat)=0:=by decide
 have c7:(438 &&& 536870400:Nat)=0:=by decide
 have c8:(1610612736 &&& 2147483648:Nat)=0:=by decide
 have c9:(73 &&& 2147483648:Nat)=0:=by decide
 have c10:(438 &&& 2147483648:Nat)=0:=by decide
 unfold Z12 ZV
 split
 ·have h1:(2147483648 |||(m &&& d &&& 511)) &&& 536870400=0:=by rw[Nat.and_or_distrib_right,c1,Nat.and_assoc (m &&& d),c2,Nat.and_zero];rfl
  have h2:(2147483648 |||(m &&& d &&& 511)) &&& 1610612736=0:=by rw[Nat.and_or_distrib_right,c3,Nat.and_assoc (m &&& d),c4,Nat.and_zero];rfl
  rw[h1,h2]
  simp
 ·have h1:((m &&& 1610612736) |||(m &&& 73) |||(m &&& d &&& 438)) &&& 536870400=0:=by rw[Nat.and_or_distrib_right,Nat.and_or_distrib_right,Nat.and_assoc m,c5,Nat.and_assoc m 73,c6,Nat.and_assoc (m &&& d),c7,Nat.and_zero,Nat.and_zero];rfl
  have h2:((m &&& 1610612736) |||(m &&& 73) |||(m &&& d &&& 438)) &&& 2147483648=0:=by rw[Nat.and_or_distrib_right,Nat.and_or_distrib_right,Nat.and_assoc m,c8,Nat.and_assoc m 73,c9,Nat.and_assoc (m &&& d),c10,Nat.and_zero,Nat.and_zero];rfl
  rw[h1,h2]
  simp
theorem Z4s (d m:Nat) (hm:m<4294967296):Z12 d m<4294967296:=by
 have lt : ∀ a b:Nat,a<4294967296→a &&& b<4294967296:=fun a b h=>Nat.lt_of_le_of_lt Nat.and_le_left h
 unfold Z12
 split
 ·exact Nat.or_lt_two_pow (n:=32) (by decide) (lt _ _ (lt _ _ hm))
 ·exact Nat.or_lt_two_pow (n:=32) (Nat.or_lt_two_pow (n:=32) (lt _ _ hm) (lt _ _ hm)) (lt _ _ (lt _ _ hm))
theorem Z8k {f:FsV} (u:Usr) (h:FOkV V f) (who:ByteArray) (p:Nat) (name:ByteArray) (mode open_:Nat) (hw:V who=true) (h2:who.size≤maxLen) (h1:name.size≤maxLen) (hm:mode<4294967296) (hx:f.t.next+1<9223372036854775808):FOkV V (Z13 u f who p name mode open_).1:=by
 unfold Z13
 split
 ·exact h
 ·rename_i d hd
  have hdm:=(Zr hd).1
  split
  ·exact h
  ·split
   ·exact h
   ·split
    ·exact h
    ·split
     ·exact h
     ·split
      ·exact h
      ·split
       ·exact h
       ·exact Z45 (h.set (Z8a h.good p name (Z12 d.mode mode) who d.gid f.now (Z8j _ _) hw (h.good.ok.ids d hdm).2.1 (Z4s _ _ hm) h.now h1 h2 (h.good.nod d hdm).gid hx)) _
end
end Go.Proofs.YtkefjeabckainaaGreat
