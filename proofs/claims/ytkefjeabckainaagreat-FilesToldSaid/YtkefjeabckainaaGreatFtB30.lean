/- Create of package fsys. Conditions: in the statements. -/
import Derived.Test.YtkefjeabckainaaGreatFtB29
import Derived.Test.YtkefjeabckainaaGreatFtB25
namespace Go.Proofs.YtkefjeabckainaaGreat
set_option maxRecDepth 100000
set_option linter.unusedVariables false
open Go.RowKit Go.Maps
theorem ZbD (mode:Nat) (h:mode<256):(bits .andNot .u8 (mode:Int) 64 != 0) = !decide (mode &&& 191=0):=by
 rw[show(64:Int)=((64:Nat):Int) from rfl,u8_andNot_nat _ _ h (by omega)]
 show(((mode &&& 191:Nat):Int) != 0)=_
 by_cases h0:mode &&& 191=0
 ·simp[h0]
 ·simp[h0]
theorem Zad {g:Nat} {n:Nod} {w:World} (h:w.heap[g]?=some (.cells n.cells 89 (0,0))):(loadVar 89 ⟨g,0,none⟩).run Tryz.prog w=.ok (.agg n.cells) w:=run_loadVar_row w g 89 89 n.cells (0,0) _ h Tryz.underlying89 rfl (by kernel_rfl)
theorem Z48 {o:Oper} {ev:Operand→Value} {w:World} {x y z y2 y3 y4 y5:Operand} {t u s r r2 r3 r4:TypeId} {fn:Nat} {v v2 v3 v4 v5 v6 v7:Value} (hf:ev (.func fn)=.func (.func fn) #[] #[]) (hc:(callFunc fn #[v,v2,v3,v4,v5,v6,v7]).run Tryz.prog w=.ok (.enter fn #[v,v2,v3,v4,v5,v6,v7]) w) (ho:o.op=.call {callee:=.value (.func fn),args:=#[x,y,z,y2,y3,y4,y5],argTypes:=#[t,u,s,r,r2,r3,r4]}) (hx:ev x=v) (hy:ev y=v2) (hz:ev z=v3) (hw:ev y2=v4) (hw5:ev y3=v5) (hw6:ev y4=v6) (hw7:ev y5=v7):(execOp ev o).run Tryz.prog w=.ok (.enter fn #[v,v2,v3,v4,v5,v6,v7]) w:=by
 simp[execOp,ho,hx,hy,hz,hw,hw5,hw6,hw7,hf,hc,go_sem]
theorem Z8q (t:Tr) (d:Nat) (name:ByteArray) (mode:Nat) (uid gid:ByteArray) (now:Nat):(Z11 t d name mode uid gid now).2.1=0∨(Z11 t d name mode uid gid now).2.1=t.next:=by
 unfold Z11
 split
 ·exact .inl rfl
 ·repeat' split
  all_goals first | exact .inl rfl | exact .inr rfl
noncomputable def Z4:Array Oper:=match Tryz.f10.body with | some c=>(Z1i c).getD 7 #[] | none=>#[]
theorem Z9:Z4.size=25:=by kernel_rfl
set_option maxHeartbeats 4000000 in
theorem ZbE {w1:World} {b m p n q mode k8:Nat} {who name:ByteArray} {v5 v12 v13:Value} {f:FsV} {u:Usr} {d:Nod} {a0:Option Addr} {c0:Nat} {R:Tr×Nat×Nat} (hFo:FSo w1 b m (.slice a0 f.t.n.length c0) p f u n) (hx:w1.heap[k8]?=some (.cells d.cells 89 (0,0))) {V:ByteArray→Bool} (hok:FOkV V f) (hd:NodOk d) (hmode:mode<4294967296) (hname:name.size≤maxLen) (hR:Z11 f.t q name (Z12 d.mode mode) who d.gid f.now=R) {v0:Value} {Q:Exit→Act→World→Prop} {a:Act} {w:World}
  (hQ : ∀ d u c a w,Q (.panic c) (a.put d u) w→Q (.panic c) a w) (hF:FrL 86 [(0,ptr b 0),(1,.string who),(2,.int .u64 ((q:Nat):Int)),(3,.string name),(4,.int .u32 ((mode:Nat):Int)),(5,v5),(12,v12),(13,v13),(14,ptr k8 0)] a) (hS:Below w1.heap.size w1 w)
  (hE : ∀ a w' g v',FrL 86 ((17,.int .i64 (R.2.2:Int)) ::(16,.int .u64 (R.2.1:Int)) ::(15,ptr g 0) :: [(0,ptr b 0),(1,.string who),(2,.int .u64 ((q:Nat):Int)),(3,.string name),(4,.int .u32 ((mode:Nat):Int)),(5,v5),(12,v12),(13,v13),(14,ptr k8 0)]) a→Below w1.heap.size w1 w'→w'.heap[g]?=some (.cells #[.int .u64 (R.1.next:Int),v'] 30 (0,0))→w1.heap.size≤g→Z3 w' v' R.1.n→(∀ k,v'.ownBlock=some k→w1.heap.size≤k)→Q .normal a w') :
  wpAnyH Tryz.prog .any Z4 Q (Below w1.heap.size w1) 25 (Array.replicate 25 false) a w:=by
 refine hst (i:=0) (o:=Z4[0]'(show 0<Z4.size by rw[Z9];decide)) hF 58 true (ptr b 0) (Array.getElem?_eq_getElem (show 0<Z4.size by rw[Z9];decide)) (by kernel_rfl) (by decide) (by kernel_rfl) (by kernel_rfl) (by kernel_rfl) (hQ _ _) (Z2 (by kernel_rfl)) (fun hW w hS=>Z5 (x:=.tmp 0) (.inl (by kernel_rfl)) (hF.ev 0 (ptr b 0) rfl)) hS (fun a hF=>?_)
 rw[show cond true (ptr b 0) undef=ptr b 0 from rfl]at hF
 refine hst (i:=1) (o:=Z4[1]'(show 1<Z4.size by rw[Z9];decide)) hF 59 true (ptr b 0) (Array.getElem?_eq_getElem (show 1<Z4.size by rw[Z9];decide)) (by kernel_rfl) (by decide) (by kernel_rfl) (by kernel_rfl) (by kernel_rfl) (hQ _ _) (Z2 (by kernel_rfl)) (fun hW w hS=>Z2z (x:=.tmp 58) (by kernel_rfl) (hF.ev 58 (ptr b 0) rfl)) hS (fun a hF=>?_)
 rw[show cond true (ptr b 0) undef=ptr b 0 from rfl]at hF
 refine hst (i:=2) (o:=Z4[2]'(show 2<Z4.size by rw[Z9];decide)) hF 60 true (ptr b 0) (Array.getElem?_eq_getElem (show 2<Z4.size by rw[Z9];decide)) (by kernel_rfl) (by decide) (by kernel_rfl) (by kernel_rfl) (by kernel_rfl) (hQ _ _) (Z2 (by kernel_rfl)) (fun hW w hS=>Zo (T:=93) (x:=.tmp 59) (f:=0) (by kernel_rfl) (hF.ev 59 (ptr b 0) rfl) (by kernel_rfl)) hS (fun a hF=>?_)
 rw[show cond true (ptr b 0) undef=ptr b 0 from rfl]at hF
 refine hst (i:=3) (o:=Z4[3]'(show 3<Z4.size by rw[Z9];decide)) hF 61 true (.agg #[.int .u64 ((f.t.next:Nat):Int),.slice a0 f.t.n.length c0]) (Array.getElem?_eq_getElem (show 3<Z4.size by rw[Z9];decide)) (by kernel_rfl) (by decide) (by kernel_rfl) (by kernel_rfl) (by kernel_rfl) (hQ _ _) (Z2 (by kernel_rfl)) (fun hW w hS=>Ze (ty:=30) (x:=.tmp 60) (by kernel_rfl) (hF.ev 60 (ptr b 0) rfl) (Z4p (Z0 (hFo.below hS).blk 0) (Z0 (hFo.below hS).blk 1))) hS (fun a hF=>?_)
 rw[show cond true (.agg #[.int .u64 ((f.t.next:Nat):Int),.slice a0 f.t.n.length c0]) undef=.agg #[.int .u64 ((f.t.next:Nat):Int),.slice a0 f.t.n.length c0] from rfl]at hF
 refine hst (i:=4) (o:=Z4[4]'(show 4<Z4.size by rw[Z9];decide)) hF 62 true (.int .u64 ((q:Nat):Int)) (Array.getElem?_eq_getElem (show 4<Z4.size by rw[Z9];decide)) (by kernel_rfl) (by decide) (by kernel_rfl) (by kernel_rfl) (by kernel_rfl) (hQ _ _) (Z2 (by kernel_rfl)) (fun hW w hS=>Z5 (x:=.tmp 2) (.inl (by kernel_rfl)) (hF.ev 2 (.int .u64 ((q:Nat):Int)) rfl)) hS (fun a hF=>?_)
 rw[show cond true (.int .u64 ((q:Nat):Int)) undef=.int .u64 ((q:Nat):Int) from rfl]at hF
 refine hst (i:=5) (o:=Z4[5]'(show 5<Z4.size by rw[Z9];decide)) hF 63 true (.string name) (Array.getElem?_eq_getElem (show 5<Z4.size by rw[Z9];decide)) (by kernel_rfl) (by decide) (by kernel_rfl) (by kernel_rfl) (by kernel_rfl) (hQ _ _) (Z2 (by kernel_rfl)) (fun hW w hS=>Z5 (x:=.tmp 3) (.inl (by kernel_rfl)) (hF.ev 3 (.string name) rfl)) hS (fun a hF=>?_)
 rw[show cond true (.string name) undef=.string name from rfl]at hF
 refine hst (i:=6) (o:=Z4[6]'(show 6<Z4.size by rw[Z9];decide)) hF 64 true (.agg d.cells) (Array.getElem?_eq_getElem (show 6<Z4.size by rw[Z9];decide)) (by kernel_rfl) (by decide) (by kernel_rfl) (by kernel_rfl) (by kernel_rfl) (hQ _ _) (Z2 (by kernel_rfl)) (fun hW w hS=>Ze (ty:=89) (x:=.tmp 14) (by kernel_rfl) (hF.ev 14 (ptr k8 0) rfl) (Zad ((hS.block _ (lt_of_block hx)).trans hx))) hS (fun a hF=>?_)
 rw[show cond true (.agg d.cells) undef=.agg d.cells from rfl]at hF
 refine hst (i:=7) (o:=Z4[7]'(show 7<Z4.size by rw[Z9];decide)) hF 65 true (.int .u32 ((mode:Nat):Int)) (Array.getElem?_eq_getElem (show 7<Z4.size by rw[Z9];decide)) (by kernel_rfl) (by decide) (by kernel_rfl) (by kernel_rfl) (by kernel_rfl) (hQ _ _) (Z2 (by kernel_rfl)) (fun hW w hS=>Z5 (x:=.tmp 4) (.inl (by kernel_rfl)) (hF.ev 4 (.int .u32 ((mode:Nat):Int)) rfl)) hS (fun a hF=>?_)
 rw[show cond true (.int .u32 ((mode:Nat):Int)) undef=.int .u32 ((mode:Nat):Int) from rfl]at hF
 refine hst (i:=9) (o:=Z4[9]'(show 9<Z4.size by rw[Z9];decide)) hF 67 true (.string who) (Array.getElem?_eq_getElem (show 9<Z4.size by rw[Z9];decide)) (by kernel_rfl) (by decide) (by kernel_rfl) (by kernel_rfl) (by kernel_rfl) (hQ _ _) (Z2 (by kernel_rfl)) (fun hW w hS=>Z5 (x:=.tmp 1) (.inl (by kernel_rfl)) (hF.ev 1 (.string who) rfl)) hS (fun a hF=>?_)
 rw[show cond true (.string who) undef=.string who from rfl]at hF
 refine hst (i:=10) (o:=Z4[10]'(show 10<Z4.size by rw[Z9];decide)) hF 68 true (ptr k8 7) (Array.getElem?_eq_getElem (show 10<Z4.size by rw[Z9];decide)) (by kernel_rfl) (by decide) (by kernel_rfl) (by kernel_rfl) (by kernel_rfl) (hQ _ _) (Z2 (by kernel_rfl)) (fun hW w hS=>Zo (T:=89) (x:=.tmp 14) (f:=7) (by kernel_rfl) (hF.ev 14 (ptr k8 0) rfl) (by kernel_rfl)) hS (fun a hF=>?_)
 rw[show cond true (ptr k8 7) undef=ptr k8 7 from rfl]at hF
 refine hst (i:=11) (o:=Z4[11]'(show 11<Z4.size by rw[Z9];decide)) hF 69 true (.string d.gid) (Array.getElem?_eq_getElem (show 11<Z4.size by rw[Z9];decide)) (by kernel_rfl) (by decide) (by kernel_rfl) (by kernel_rfl) (by kernel_rfl) (hQ _ _) (Z2 (by kernel_rfl)) (fun hW w hS=>Ze (ty:=9) (x:=.tmp 68) (by kernel_rfl) (hF.ev 68 (ptr k8 7) rfl) (Z1k (Z0 ((hS.block _ (lt_of_block hx)).trans hx) 7))) hS (fun a hF=>?_)
 rw[show cond true (.string d.gid) undef=.string d.gid from rfl]at hF
 refine hst (i:=12) (o:=Z4[12]'(show 12<Z4.size by rw[Z9];decide)) hF 70 true (ptr b 0) (Array.getElem?_eq_getElem (show 12<Z4.size by rw[Z9];decide)) (by kernel_rfl) (by decide) (by kernel_rfl) (by kernel_rfl) (by kernel_rfl) (hQ _ _) (Z2 (by kernel_rfl)) (fun hW w hS=>Z5 (x:=.tmp 0) (.inl (by kernel_rfl)) (hF.ev 0 (ptr b 0) rfl)) hS (fun a hF=>?_)
 rw[show cond true (ptr b 0) undef=ptr b 0 from rfl]at hF
 refine hst (i:=13) (o:=Z4[13]'(show 13<Z4.size by rw[Z9];decide)) hF 71 true (ptr b 0) (Array.getElem?_eq_getElem (show 13<Z4.size by rw[Z9];decide)) (by kernel_rfl) (by decide) (by kernel_rfl) (by kernel_rfl) (by kernel_rfl) (hQ _ _) (Z2 (by kernel_rfl)) (fun hW w hS=>Z2z (x:=.tmp 70) (by kernel_rfl) (hF.ev 70 (ptr b 0) rfl)) hS (fun a hF=>?_)
 rw[show cond true (ptr b 0) undef=ptr b 0 from rfl]at hF
 refine hst (i:=14) (o:=Z4[14]'(show 14<Z4.size by rw[Z9];decide)) hF 72 true (ptr b 3) (Array.getElem?_eq_getElem (show 14<Z4.size by rw[Z9];decide)) (by kernel_rfl) (by decide) (by kernel_rfl) (by kernel_rfl) (by kernel_rfl) (hQ _ _) (Z2 (by kernel_rfl)) (fun hW w hS=>Zo (T:=93) (x:=.tmp 71) (f:=2) (by kernel_rfl) (hF.ev 71 (ptr b 0) rfl) (by kernel_rfl)) hS (fun a hF=>?_)
 rw[show cond true (ptr b 3) undef=ptr b 3 from rfl]at hF
 refine hst (i:=15) (o:=Z4[15]'(show 15<Z4.size by rw[Z9];decide)) hF 73 true (.int .u32 ((f.now:Nat):Int)) (Array.getElem?_eq_getElem (show 15<Z4.size by rw[Z9];decide)) (by kernel_rfl) (by decide) (by kernel_rfl) (by kernel_rfl) (by kernel_rfl) (hQ _ _) (Z2 (by kernel_rfl)) (fun hW w hS=>Ze (ty:=32) (x:=.tmp 72) (by kernel_rfl) (hF.ev 72 (ptr b 3) rfl) (Z3q (Z0 (hFo.below hS).blk 3))) hS (fun a hF=>?_)
 rw[show cond true (.int .u32 ((f.now:Nat):Int)) undef=.int .u32 ((f.now:Nat):Int) from rfl]at hF
 refine wpAnyH_all (rs:=[8,21]) (by kernel_rfl) (by simp) fun j hj=>?_
 have hj2:j=8∨j=21:=by simpa using hj
 rcases hj2 with rfl | rfl
 ·skip
  refine Z80 (i:=8) (o:=Z4[8]'(show 8<Z4.size by rw[Z9];decide)) (R:=fun v w'=>v=.int .u32 (((Z12 d.mode mode):Nat):Int)∧Below w.heap.size w w') hF 66 (Array.getElem?_eq_getElem (show 8<Z4.size by rw[Z9];decide)) (by kernel_rfl) (by decide) (Z2 (by kernel_rfl)) ⟨42,#[.agg d.cells,.int .u32 ((mode:Nat):Int)],Z2j (x:=.tmp 64) (y:=.tmp 65) (fn:=42) (t:=89) (u:=32) rfl (by kernel_rfl) (by kernel_rfl) (hF.ev 64 _ rfl) (hF.ev 65 _ rfl),(Z6z d mode w hd hmode).mono (by rintro e w' ⟨rfl,hb⟩;exact⟨_,rfl,rfl,hb⟩)⟩ ?_
  rintro _ a wc ⟨rfl,hb⟩ hF
  replace hS:=hS.trans (hb.mono hS.size)
  refine⟨hS,?_⟩
  clear hb
  refine wpAnyH_all (rs:=[16,21]) (by kernel_rfl) (by simp) fun j hj=>?_
  have hS0:=hS.size
  have hj2:j=16∨j=21:=by simpa using hj
  rcases hj2 with rfl | rfl
  ·skip
   refine Z80 (i:=16) (o:=Z4[16]'(show 16<Z4.size by rw[Z9];decide)) (R:=fun v w'=>∃ v',v=.tuple #[.agg #[.int .u64 (R.1.next:Int),v'],.int .u64 (R.2.1:Int),.int .i64 (R.2.2:Int)]∧Z3 w' v' R.1.n∧(∀ k,v'.ownBlock=some k→wc.heap.size≤k)∧Below wc.heap.size wc w') hF 74 (Array.getElem?_eq_getElem (show 16<Z4.size by rw[Z9];decide)) (by kernel_rfl) (by decide) (Z2 (by kernel_rfl)) ⟨41,#[.agg #[.int .u64 ((f.t.next:Nat):Int),.slice a0 f.t.n.length c0],.int .u64 ((q:Nat):Int),.string name,.int .u32 (((Z12 d.mode mode):Nat):Int),.string who,.string d.gid,.int .u32 ((f.now:Nat):Int)],Z48 (x:=.tmp 61) (y:=.tmp 62) (z:=.tmp 63) (y2:=.tmp 66) (y3:=.tmp 67) (y4:=.tmp 69) (y5:=.tmp 73) (fn:=41) (t:=30) (u:=27) (s:=9) (r:=32) (r2:=9) (r3:=9) (r4:=32) rfl (by kernel_rfl) (by kernel_rfl) (hF.ev 61 _ rfl) (hF.ev 62 _ rfl) (hF.ev 63 _ rfl) (hF.ev 66 _ rfl) (hF.ev 67 _ rfl) (hF.ev 69 _ rfl) (hF.ev 73 _ rfl),(Z4Q _ f.t.next f.t.n q name (Z12 d.mode mode) who d.gid f.now wc (hFo.below hS).row hok.tr hname (by have:=hok.good.next;omega) (fun n hn=>(hok.good.ok.low n hn).2) (Z4s _ _ hmode) hok.now).mono (by intro e w' h;rw[show(⟨f.t.next,f.t.n⟩:Tr)=f.t from rfl,hR]at h;obtain⟨v',rfl,h1,h2,h3⟩:=h;exact⟨_,rfl,v',rfl,h1,h2,h3⟩)⟩ ?_
   rintro _ a wcc ⟨v',rfl,hv,hf,hb⟩ hF
   replace hS:=hS.trans (hb.mono hS.size)
   have hfr : ∀ k,v'.ownBlock=some k→w1.heap.size≤k:=fun k hk=>Nat.le_trans hS0 (hf k hk)
   clear hf
   refine⟨hS,?_⟩
   clear hb
   refine hst (i:=17) (o:=Z4[17]'(show 17<Z4.size by rw[Z9];decide)) hF 57 true (.tuple #[.agg #[.int .u64 (R.1.next:Int),v'],.int .u64 (R.2.1:Int),.int .i64 (R.2.2:Int)]) (Array.getElem?_eq_getElem (show 17<Z4.size by rw[Z9];decide)) (by kernel_rfl) (by decide) (by kernel_rfl) (by kernel_rfl) (by kernel_rfl) (hQ _ _) (Z2 (by kernel_rfl)) (fun hW w hS=>Z5 (x:=.tmp 74) (.inl (by kernel_rfl)) (hF.ev 74 _ rfl)) hS (fun a hF=>?_)
   rw[show cond true (.tuple #[.agg #[.int .u64 (R.1.next:Int),v'],.int .u64 (R.2.1:Int),.int .i64 (R.2.2:Int)]) undef=.tuple #[.agg #[.int .u64 (R.1.next:Int),v'],.int .u64 (R.2.1:Int),.int .i64 (R.2.2:Int)] from rfl]at hF
   refine hst (i:=18) (o:=Z4[18]'(show 18<Z4.size by rw[Z9];decide)) hF 75 true (.agg #[.int .u64 (R.1.next:Int),v']) (Array.getElem?_eq_getElem (show 18<Z4.size by rw[Z9];decide)) (by kernel_rfl) (by decide) (by kernel_rfl) (by kernel_rfl) (by kernel_rfl) (hQ _ _) (Z2 (by kernel_rfl)) (fun hW w hS=>ZZ (x:=.tmp 57) (n:=0) (by kernel_rfl) (hF.ev 57 _ rfl) rfl) hS (fun a hF=>?_)
   rw[show cond true (.agg #[.int .u64 (R.1.next:Int),v']) undef=.agg #[.int .u64 (R.1.next:Int),v'] from rfl]at hF
   refine hst (i:=19) (o:=Z4[19]'(show 19<Z4.size by rw[Z9];decide)) hF 76 true (.int .u64 (R.2.1:Int)) (Array.getElem?_eq_getElem (show 19<Z4.size by rw[Z9];decide)) (by kernel_rfl) (by decide) (by kernel_rfl) (by kernel_rfl) (by kernel_rfl) (hQ _ _) (Z2 (by kernel_rfl)) (fun hW w hS=>ZZ (x:=.tmp 57) (n:=1) (by kernel_rfl) (hF.ev 57 _ rfl) rfl) hS (fun a hF=>?_)
   rw[show cond true (.int .u64 (R.2.1:Int)) undef=.int .u64 (R.2.1:Int) from rfl]at hF
   refine hst (i:=20) (o:=Z4[20]'(show 20<Z4.size by rw[Z9];decide)) hF 77 true (.int .i64 (R.2.2:Int)) (Array.getElem?_eq_getElem (show 20<Z4.size by rw[Z9];decide)) (by kernel_rfl) (by decide) (by kernel_rfl) (by kernel_rfl) (by kernel_rfl) (hQ _ _) (Z2 (by kernel_rfl)) (fun hW w hS=>ZZ (x:=.tmp 57) (n:=2) (by kernel_rfl) (hF.ev 57 _ rfl) rfl) hS (fun a hF=>?_)
   rw[show cond true (.int .i64 (R.2.2:Int)) undef=.int .i64 (R.2.2:Int) from rfl]at hF
   refine wpAnyH_all (rs:=[21]) (by kernel_rfl) (by simp) fun j hj=>?_
   obtain rfl:j=21:=by simpa using hj
   refine hdo (i:=21) (o:=Z4[21]'(show 21<Z4.size by rw[Z9];decide)) hF 15 (ptr wcc.heap.size 0) (wcc.alloc (.cells #[.int .u64 0,.slice none 0 0] 30)) (Array.getElem?_eq_getElem (show 21<Z4.size by rw[Z9];decide)) (by kernel_rfl) (by decide) (Z2 (by kernel_rfl)) (Z1t (t:=30) (z:=.agg #[.int .u64 0,.slice none 0 0]) (by kernel_rfl) (by kernel_rfl)) (fun a hF=>?_)
   have hb:=(Below.refl wcc.heap.size wcc).alloc (Nat.le_refl _) (.cells #[.int .u64 0,.slice none 0 0] 30)
   have gA:=hS.size
   have fA:=heap_alloc_new wcc (.cells #[.int .u64 0,.slice none 0 0] 30)
   have hrow:Z3 ((wcc.alloc (.cells #[.int .u64 0,.slice none 0 0] 30)).setRow wcc.heap.size #[.int .u64 (R.1.next:Int),v']) v' R.1.n:=hv.below (below_setRow hb (Nat.le_refl _) #[.int .u64 (R.1.next:Int),v'])
   replace hS:=hS.trans (hb.mono hS.size)
   refine⟨hS,?_⟩
   clear hb hv
   generalize wcc.alloc (.cells #[.int .u64 0,.slice none 0 0] 30)=wcca at hS fA hrow ⊢
   generalize wcc.heap.size=g at fA gA hF hrow
   refine wpAnyH_all (rs:=[22]) (by kernel_rfl) (by simp) fun j hj=>?_
   obtain rfl:j=22:=by simpa using hj
   refine Z6Y (o:=Z4[22]'(show 22<Z4.size by rw[Z9];decide)) (wcca.setRow g #[.int .u64 (R.1.next:Int),v']) (Array.getElem?_eq_getElem (show 22<Z4.size by rw[Z9];decide)) (by kernel_rfl) (Z2 (by kernel_rfl)) (Z1u (t:=30) (x:=.tmp 15) (y:=.tmp 75) (by kernel_rfl) (hF.ev 15 _ rfl) (hF.ev 75 _ rfl) fA (by kernel_rfl) rfl (by obtain⟨q1,q2,hq,_⟩:=hrow.form;rw[hq];kernel_rfl)) ?_
   have hS3:=below_setRow (g:=g) hS gA #[.int .u64 (R.1.next:Int),v']
   refine⟨hS3,?_⟩
   have fA3:=setRow_heap wcca g _ #[.int .u64 (R.1.next:Int),v'] _ _ fA
   have hv3:Z3 (wcca.setRow g #[.int .u64 (R.1.next:Int),v']) v' R.1.n:=hrow
   generalize wcca.setRow g #[.int .u64 (R.1.next:Int),v']=wz at hS3 fA3 hv3 ⊢
   refine hst (i:=23) (o:=Z4[23]'(show 23<Z4.size by rw[Z9];decide)) hF 16 true (.int .u64 (R.2.1:Int)) (Array.getElem?_eq_getElem (show 23<Z4.size by rw[Z9];decide)) (by kernel_rfl) (by decide) (by kernel_rfl) (by kernel_rfl) (by kernel_rfl) (hQ _ _) (Z2 (by kernel_rfl)) (fun hW w hS=>Z5 (x:=.tmp 76) (.inr (by kernel_rfl)) (hF.ev 76 _ rfl)) hS3 (fun a hF=>?_)
   rw[show cond true (.int .u64 (R.2.1:Int)) undef=.int .u64 (R.2.1:Int) from rfl]at hF
   refine hst (i:=24) (o:=Z4[24]'(show 24<Z4.size by rw[Z9];decide)) hF 17 true (.int .i64 (R.2.2:Int)) (Array.getElem?_eq_getElem (show 24<Z4.size by rw[Z9];decide)) (by kernel_rfl) (by decide) (by kernel_rfl) (by kernel_rfl) (by kernel_rfl) (hQ _ _) (Z2 (by kernel_rfl)) (fun hW w hS=>Z5 (x:=.tmp 77) (.inr (by kernel_rfl)) (hF.ev 77 _ rfl)) hS3 (fun a hF=>?_)
   rw[show cond true (.int .i64 (R.2.2:Int)) undef=.int .i64 (R.2.2:Int) from rfl]at hF
   exact wpAnyH_done (by kernel_rfl) (hE _ _ g v' (hF.sub ((17,.int .i64 (R.2.2:Int)) ::(16,.int .u64 (R.2.1:Int)) ::(15,ptr g 0) :: [(0,ptr b 0),(1,.string who),(2,.int .u64 ((q:Nat):Int)),(3,.string name),(4,.int .u32 ((mode:Nat):Int)),(5,v5),(12,v12),(13,v13),(14,ptr k8 0)]) ⟨rfl,rfl,rfl,rfl,rfl,rfl,rfl,rfl,rfl,rfl,rfl,rfl,trivial⟩) hS3 fA3 gA hv3 hfr) _
  ·skip
   refine hdo (i:=21) (o:=Z4[21]'(show 21<Z4.size by rw[Z9];decide)) hF 15 (ptr wc.heap.size 0) (wc.alloc (.cells #[.int .u64 0,.slice none 0 0] 30)) (Array.getElem?_eq_getElem (show 21<Z4.size by rw[Z9];decide)) (by kernel_rfl) (by decide) (Z2 (by kernel_rfl)) (Z1t (t:=30) (z:=.agg #[.int .u64 0,.slice none 0 0]) (by kernel_rfl) (by kernel_rfl)) (fun a hF=>?_)
   have hb:=(Below.refl wc.heap.size wc).alloc (Nat.le_refl _) (.cells #[.int .u64 0,.slice none 0 0] 30)
   have gA:=hS.size
   have fA:=heap_alloc_new wc (.cells #[.int .u64 0,.slice none 0 0] 30)
   replace hS:=hS.trans (hb.mono hS.size)
   refine⟨hS,?_⟩
   clear hb
   generalize wc.alloc (.cells #[.int .u64 0,.slice none 0 0] 30)=wca at hS fA ⊢
   generalize wc.heap.size=g at fA gA hF
   refine wpAnyH_all (rs:=[16]) (by kernel_rfl) (by simp) fun j hj=>?_
   have hS0:=hS.size
   obtain rfl:j=16:=by simpa using hj
   refine Z80 (i:=16) (o:=Z4[16]'(show 16<Z4.size by rw[Z9];decide)) (R:=fun v w'=>∃ v',v=.tuple #[.agg #[.int .u64 (R.1.next:Int),v'],.int .u64 (R.2.1:Int),.int .i64 (R.2.2:Int)]∧Z3 w' v' R.1.n∧(∀ k,v'.ownBlock=some k→wca.heap.size≤k)∧Below wca.heap.size wca w') hF 74 (Array.getElem?_eq_getElem (show 16<Z4.size by rw[Z9];decide)) (by kernel_rfl) (by decide) (Z2 (by kernel_rfl)) ⟨41,#[.agg #[.int .u64 ((f.t.next:Nat):Int),.slice a0 f.t.n.length c0],.int .u64 ((q:Nat):Int),.string name,.int .u32 (((Z12 d.mode mode):Nat):Int),.string who,.string d.gid,.int .u32 ((f.now:Nat):Int)],Z48 (x:=.tmp 61) (y:=.tmp 62) (z:=.tmp 63) (y2:=.tmp 66) (y3:=.tmp 67) (y4:=.tmp 69) (y5:=.tmp 73) (fn:=41) (t:=30) (u:=27) (s:=9) (r:=32) (r2:=9) (r3:=9) (r4:=32) rfl (by kernel_rfl) (by kernel_rfl) (hF.ev 61 _ rfl) (hF.ev 62 _ rfl) (hF.ev 63 _ rfl) (hF.ev 66 _ rfl) (hF.ev 67 _ rfl) (hF.ev 69 _ rfl) (hF.ev 73 _ rfl),(Z4Q _ f.t.next f.t.n q name (Z12 d.mode mode) who d.gid f.now wca (hFo.below hS).row hok.tr hname (by have:=hok.good.next;omega) (fun n hn=>(hok.good.ok.low n hn).2) (Z4s _ _ hmode) hok.now).mono (by intro e w' h;rw[show(⟨f.t.next,f.t.n⟩:Tr)=f.t from rfl,hR]at h;obtain⟨v',rfl,h1,h2,h3⟩:=h;exact⟨_,rfl,v',rfl,h1,h2,h3⟩)⟩ ?_
   rintro _ a wcac ⟨v',rfl,hv,hf,hb⟩ hF
   replace hS:=hS.trans (hb.mono hS.size)
   have hlt:=lt_of_block fA
   replace fA:=(hb.block _ (lt_of_block fA)).trans fA
   have hrow:Z3 (wcac.setRow g #[.int .u64 (R.1.next:Int),v']) v' R.1.n:=Z3.other hv g (fun e=>by have:=hf _ e;omega) (by simp) (fun k hk=>setRow_other _ _ _ _ hk)
   have hfr : ∀ k,v'.ownBlock=some k→w1.heap.size≤k:=fun k hk=>Nat.le_trans hS0 (hf k hk)
   clear hf
   refine⟨hS,?_⟩
   clear hb
   refine hst (i:=17) (o:=Z4[17]'(show 17<Z4.size by rw[Z9];decide)) hF 57 true (.tuple #[.agg #[.int .u64 (R.1.next:Int),v'],.int .u64 (R.2.1:Int),.int .i64 (R.2.2:Int)]) (Array.getElem?_eq_getElem (show 17<Z4.size by rw[Z9];decide)) (by kernel_rfl) (by decide) (by kernel_rfl) (by kernel_rfl) (by kernel_rfl) (hQ _ _) (Z2 (by kernel_rfl)) (fun hW w hS=>Z5 (x:=.tmp 74) (.inl (by kernel_rfl)) (hF.ev 74 _ rfl)) hS (fun a hF=>?_)
   rw[show cond true (.tuple #[.agg #[.int .u64 (R.1.next:Int),v'],.int .u64 (R.2.1:Int),.int .i64 (R.2.2:Int)]) undef=.tuple #[.agg #[.int .u64 (R.1.next:Int),v'],.int .u64 (R.2.1:Int),.int .i64 (R.2.2:Int)] from rfl]at hF
   refine hst (i:=18) (o:=Z4[18]'(show 18<Z4.size by rw[Z9];decide)) hF 75 true (.agg #[.int .u64 (R.1.next:Int),v']) (Array.getElem?_eq_getElem (show 18<Z4.size by rw[Z9];decide)) (by kernel_rfl) (by decide) (by kernel_rfl) (by kernel_rfl) (by kernel_rfl) (hQ _ _) (Z2 (by kernel_rfl)) (fun hW w hS=>ZZ (x:=.tmp 57) (n:=0) (by kernel_rfl) (hF.ev 57 _ rfl) rfl) hS (fun a hF=>?_)
   rw[show cond true (.agg #[.int .u64 (R.1.next:Int),v']) undef=.agg #[.int .u64 (R.1.next:Int),v'] from rfl]at hF
   refine hst (i:=19) (o:=Z4[19]'(show 19<Z4.size by rw[Z9];decide)) hF 76 true (.int .u64 (R.2.1:Int)) (Array.getElem?_eq_getElem (show 19<Z4.size by rw[Z9];decide)) (by kernel_rfl) (by decide) (by kernel_rfl) (by kernel_rfl) (by kernel_rfl) (hQ _ _) (Z2 (by kernel_rfl)) (fun hW w hS=>ZZ (x:=.tmp 57) (n:=1) (by kernel_rfl) (hF.ev 57 _ rfl) rfl) hS (fun a hF=>?_)
   rw[show cond true (.int .u64 (R.2.1:Int)) undef=.int .u64 (R.2.1:Int) from rfl]at hF
   refine hst (i:=20) (o:=Z4[20]'(show 20<Z4.size by rw[Z9];decide)) hF 77 true (.int .i64 (R.2.2:Int)) (Array.getElem?_eq_getElem (show 20<Z4.size by rw[Z9];decide)) (by kernel_rfl) (by decide) (by kernel_rfl) (by kernel_rfl) (by kernel_rfl) (hQ _ _) (Z2 (by kernel_rfl)) (fun hW w hS=>ZZ (x:=.tmp 57) (n:=2) (by kernel_rfl) (hF.ev 57 _ rfl) rfl) hS (fun a hF=>?_)
   rw[show cond true (.int .i64 (R.2.2:Int)) undef=.int .i64 (R.2.2:Int) from rfl]at hF
   refine wpAnyH_all (rs:=[22]) (by kernel_rfl) (by simp) fun j hj=>?_
   obtain rfl:j=22:=by simpa using hj
   refine Z6Y (o:=Z4[22]'(show 22<Z4.size by rw[Z9];decide)) (wcac.setRow g #[.int .u64 (R.1.next:Int),v']) (Array.getElem?_eq_getElem (show 22<Z4.size by rw[Z9];decide)) (by kernel_rfl) (Z2 (by kernel_rfl)) (Z1u (t:=30) (x:=.tmp 15) (y:=.tmp 75) (by kernel_rfl) (hF.ev 15 _ rfl) (hF.ev 75 _ rfl) fA (by kernel_rfl) rfl (by obtain⟨q1,q2,hq,_⟩:=hrow.form;rw[hq];kernel_rfl)) ?_
   have hS3:=below_setRow (g:=g) hS gA #[.int .u64 (R.1.next:Int),v']
   refine⟨hS3,?_⟩
   have fA3:=setRow_heap wcac g _ #[.int .u64 (R.1.next:Int),v'] _ _ fA
   have hv3:Z3 (wcac.setRow g #[.int .u64 (R.1.next:Int),v']) v' R.1.n:=hrow
   generalize wcac.setRow g #[.int .u64 (R.1.next:Int),v']=wz at hS3 fA3 hv3 ⊢
   refine hst (i:=23) (o:=Z4[23]'(show 23<Z4.size by rw[Z9];decide)) hF 16 true (.int .u64 (R.2.1:Int)) (Array.getElem?_eq_getElem (show 23<Z4.size by rw[Z9];decide)) (by kernel_rfl) (by decide) (by kernel_rfl) (by kernel_rfl) (by kernel_rfl) (hQ _ _) (Z2 (by kernel_rfl)) (fun hW w hS=>Z5 (x:=.tmp 76) (.inr (by kernel_rfl)) (hF.ev 76 _ rfl)) hS3 (fun a hF=>?_)
   rw[show cond true (.int .u64 (R.2.1:Int)) undef=.int .u64 (R.2.1:Int) from rfl]at hF
   refine hst (i:=24) (o:=Z4[24]'(show 24<Z4.size by rw[Z9];decide)) hF 17 true (.int .i64 (R.2.2:Int)) (Array.getElem?_eq_getElem (show 24<Z4.size by rw[Z9];decide)) (by kernel_rfl) (by decide) (by kernel_rfl) (by kernel_rfl) (by kernel_rfl) (hQ _ _) (Z2 (by kernel_rfl)) (fun hW w hS=>Z5 (x:=.tmp 77) (.inr (by kernel_rfl)) (hF.ev 77 _ rfl)) hS3 (fun a hF=>?_)
   rw[show cond true (.int .i64 (R.2.2:Int)) undef=.int .i64 (R.2.2:Int) from rfl]at hF
   exact wpAnyH_done (by kernel_rfl) (hE _ _ g v' (hF.sub ((17,.int .i64 (R.2.2:Int)) ::(16,.int .u64 (R.2.1:Int)) ::(15,ptr g 0) :: [(0,ptr b 0),(1,.string who),(2,.int .u64 ((q:Nat):Int)),(3,.string name),(4,.int .u32 ((mode:Nat):Int)),(5,v5),(12,v12),(13,v13),(14,ptr k8 0)]) ⟨rfl,rfl,rfl,rfl,rfl,rfl,rfl,rfl,rfl,rfl,rfl,rfl,trivial⟩) hS3 fA3 gA hv3 hfr) _
 ·skip
  refine hdo (i:=21) (o:=Z4[21]'(show 21<Z4.size by rw[Z9];decide)) hF 15 (ptr w.heap.size 0) (w.alloc (.cells #[.int .u64 0,.slice none 0 0] 30)) (Array.getElem?_eq_getElem (show 21<Z4.size by rw[Z9];decide)) (by kernel_rfl) (by decide) (Z2 (by kernel_rfl)) (Z1t (t:=30) (z:=.agg #[.int .u64 0,.slice none 0 0]) (by kernel_rfl) (by kernel_rfl)) (fun a hF=>?_)
  have hb:=(Below.refl w.heap.size w).alloc (Nat.le_refl _) (.cells #[.int .u64 0,.slice none 0 0] 30)
  have gA:=hS.size
  have fA:=heap_alloc_new w (.cells #[.int .u64 0,.slice none 0 0] 30)
  replace hS:=hS.trans (hb.mono hS.size)
  refine⟨hS,?_⟩
  clear hb
  generalize w.alloc (.cells #[.int .u64 0,.slice none 0 0] 30)=wa at hS fA ⊢
  generalize w.heap.size=g at fA gA hF
  refine wpAnyH_all (rs:=[8]) (by kernel_rfl) (by simp) fun j hj=>?_
  obtain rfl:j=8:=by simpa using hj
  refine Z80 (i:=8) (o:=Z4[8]'(show 8<Z4.size by rw[Z9];decide)) (R:=fun v w'=>v=.int .u32 (((Z12 d.mode mode):Nat):Int)∧Below wa.heap.size wa w') hF 66 (Array.getElem?_eq_getElem (show 8<Z4.size by rw[Z9];decide)) (by kernel_rfl) (by decide) (Z2 (by kernel_rfl)) ⟨42,#[.agg d.cells,.int .u32 ((mode:Nat):Int)],Z2j (x:=.tmp 64) (y:=.tmp 65) (fn:=42) (t:=89) (u:=32) rfl (by kernel_rfl) (by kernel_rfl) (hF.ev 64 _ rfl) (hF.ev 65 _ rfl),(Z6z d mode wa hd hmode).mono (by rintro e w' ⟨rfl,hb⟩;exact⟨_,rfl,rfl,hb⟩)⟩ ?_
  rintro _ a wac ⟨rfl,hb⟩ hF
  replace hS:=hS.trans (hb.mono hS.size)
  replace fA:=(hb.block _ (lt_of_block fA)).trans fA
  refine⟨hS,?_⟩
  clear hb
  refine wpAnyH_all (rs:=[16]) (by kernel_rfl) (by simp) fun j hj=>?_
  have hS0:=hS.size
  obtain rfl:j=16:=by simpa using hj
  refine Z80 (i:=16) (o:=Z4[16]'(show 16<Z4.size by rw[Z9];decide)) (R:=fun v w'=>∃ v',v=.tuple #[.agg #[.int .u64 (R.1.next:Int),v'],.int .u64 (R.2.1:Int),.int .i64 (R.2.2:Int)]∧Z3 w' v' R.1.n∧(∀ k,v'.ownBlock=some k→wac.heap.size≤k)∧Below wac.heap.size wac w') hF 74 (Array.getElem?_eq_getElem (show 16<Z4.size by rw[Z9];decide)) (by kernel_rfl) (by decide) (Z2 (by kernel_rfl)) ⟨41,#[.agg #[.int .u64 ((f.t.next:Nat):Int),.slice a0 f.t.n.length c0],.int .u64 ((q:Nat):Int),.string name,.int .u32 (((Z12 d.mode mode):Nat):Int),.string who,.string d.gid,.int .u32 ((f.now:Nat):Int)],Z48 (x:=.tmp 61) (y:=.tmp 62) (z:=.tmp 63) (y2:=.tmp 66) (y3:=.tmp 67) (y4:=.tmp 69) (y5:=.tmp 73) (fn:=41) (t:=30) (u:=27) (s:=9) (r:=32) (r2:=9) (r3:=9) (r4:=32) rfl (by kernel_rfl) (by kernel_rfl) (hF.ev 61 _ rfl) (hF.ev 62 _ rfl) (hF.ev 63 _ rfl) (hF.ev 66 _ rfl) (hF.ev 67 _ rfl) (hF.ev 69 _ rfl) (hF.ev 73 _ rfl),(Z4Q _ f.t.next f.t.n q name (Z12 d.mode mode) who d.gid f.now wac (hFo.below hS).row hok.tr hname (by have:=hok.good.next;omega) (fun n hn=>(hok.good.ok.low n hn).2) (Z4s _ _ hmode) hok.now).mono (by intro e w' h;rw[show(⟨f.t.next,f.t.n⟩:Tr)=f.t from rfl,hR]at h;obtain⟨v',rfl,h1,h2,h3⟩:=h;exact⟨_,rfl,v',rfl,h1,h2,h3⟩)⟩ ?_
  rintro _ a wacc ⟨v',rfl,hv,hf,hb⟩ hF
  replace hS:=hS.trans (hb.mono hS.size)
  have hlt:=lt_of_block fA
  replace fA:=(hb.block _ (lt_of_block fA)).trans fA
  have hrow:Z3 (wacc.setRow g #[.int .u64 (R.1.next:Int),v']) v' R.1.n:=Z3.other hv g (fun e=>by have:=hf _ e;omega) (by simp) (fun k hk=>setRow_other _ _ _ _ hk)
  have hfr : ∀ k,v'.ownBlock=some k→w1.heap.size≤k:=fun k hk=>Nat.le_trans hS0 (hf k hk)
  clear hf
  refine⟨hS,?_⟩
  clear hb
  refine hst (i:=17) (o:=Z4[17]'(show 17<Z4.size by rw[Z9];decide)) hF 57 true (.tuple #[.agg #[.int .u64 (R.1.next:Int),v'],.int .u64 (R.2.1:Int),.int .i64 (R.2.2:Int)]) (Array.getElem?_eq_getElem (show 17<Z4.size by rw[Z9];decide)) (by kernel_rfl) (by decide) (by kernel_rfl) (by kernel_rfl) (by kernel_rfl) (hQ _ _) (Z2 (by kernel_rfl)) (fun hW w hS=>Z5 (x:=.tmp 74) (.inl (by kernel_rfl)) (hF.ev 74 _ rfl)) hS (fun a hF=>?_)
  rw[show cond true (.tuple #[.agg #[.int .u64 (R.1.next:Int),v'],.int .u64 (R.2.1:Int),.int .i64 (R.2.2:Int)]) undef=.tuple #[.agg #[.int .u64 (R.1.next:Int),v'],.int .u64 (R.2.1:Int),.int .i64 (R.2.2:Int)] from rfl]at hF
  refine hst (i:=18) (o:=Z4[18]'(show 18<Z4.size by rw[Z9];decide)) hF 75 true (.agg #[.int .u64 (R.1.next:Int),v']) (Array.getElem?_eq_getElem (show 18<Z4.size by rw[Z9];decide)) (by kernel_rfl) (by decide) (by kernel_rfl) (by kernel_rfl) (by kernel_rfl) (hQ _ _) (Z2 (by kernel_rfl)) (fun hW w hS=>ZZ (x:=.tmp 57) (n:=0) (by kernel_rfl) (hF.ev 57 _ rfl) rfl) hS (fun a hF=>?_)
  rw[show cond true (.agg #[.int .u64 (R.1.next:Int),v']) undef=.agg #[.int .u64 (R.1.next:Int),v'] from rfl]at hF
  refine hst (i:=19) (o:=Z4[19]'(show 19<Z4.size by rw[Z9];decide)) hF 76 true (.int .u64 (R.2.1:Int)) (Array.getElem?_eq_getElem (show 19<Z4.size by rw[Z9];decide)) (by kernel_rfl) (by decide) (by kernel_rfl) (by kernel_rfl) (by kernel_rfl) (hQ _ _) (Z2 (by kernel_rfl)) (fun hW w hS=>ZZ (x:=.tmp 57) (n:=1) (by kernel_rfl) (hF.ev 57 _ rfl) rfl) hS (fun a hF=>?_)
  rw[show cond true (.int .u64 (R.2.1:Int)) undef=.int .u64 (R.2.1:Int) from rfl]at hF
  refine hst (i:=20) (o:=Z4[20]'(show 20<Z4.size by rw[Z9];decide)) hF 77 true (.int .i64 (R.2.2:Int)) (Array.getElem?_eq_getElem (show 20<Z4.size by rw[Z9];decide)) (by kernel_rfl) (by decide) (by kernel_rfl) (by kernel_rfl) (by kernel_rfl) (hQ _ _) (Z2 (by kernel_rfl)) (fun hW w hS=>ZZ (x:=.tmp 57) (n:=2) (by kernel_rfl) (hF.ev 57 _ rfl) rfl) hS (fun a hF=>?_)
  rw[show cond true (.int .i64 (R.2.2:Int)) undef=.int .i64 (R.2.2:Int) from rfl]at hF
  refine wpAnyH_all (rs:=[22]) (by kernel_rfl) (by simp) fun j hj=>?_
  obtain rfl:j=22:=by simpa using hj
  refine Z6Y (o:=Z4[22]'(show 22<Z4.size by rw[Z9];decide)) (wacc.setRow g #[.int .u64 (R.1.next:Int),v']) (Array.getElem?_eq_getElem (show 22<Z4.size by rw[Z9];decide)) (by kernel_rfl) (Z2 (by kernel_rfl)) (Z1u (t:=30) (x:=.tmp 15) (y:=.tmp 75) (by kernel_rfl) (hF.ev 15 _ rfl) (hF.ev 75 _ rfl) fA (by kernel_rfl) rfl (by obtain⟨q1,q2,hq,_⟩:=hrow.form;rw[hq];kernel_rfl)) ?_
  have hS3:=below_setRow (g:=g) hS gA #[.int .u64 (R.1.next:Int),v']
  refine⟨hS3,?_⟩
  have fA3:=setRow_heap wacc g _ #[.int .u64 (R.1.next:Int),v'] _ _ fA
  have hv3:Z3 (wacc.setRow g #[.int .u64 (R.1.next:Int),v']) v' R.1.n:=hrow
  generalize wacc.setRow g #[.int .u64 (R.1.next:Int),v']=wz at hS3 fA3 hv3 ⊢
  refine hst (i:=23) (o:=Z4[23]'(show 23<Z4.size by rw[Z9];decide)) hF 16 true (.int .u64 (R.2.1:Int)) (Array.getElem?_eq_getElem (show 23<Z4.size by rw[Z9];decide)) (by kernel_rfl) (by decide) (by kernel_rfl) (by kernel_rfl) (by kernel_rfl) (hQ _ _) (Z2 (by kernel_rfl)) (fun hW w hS=>Z5 (x:=.tmp 76) (.inr (by kernel_rfl)) (hF.ev 76 _ rfl)) hS3 (fun a hF=>?_)
  rw[show cond true (.int .u64 (R.2.1:Int)) undef=.int .u64 (R.2.1:Int) from rfl]at hF
  refine hst (i:=24) (o:=Z4[24]'(show 24<Z4.size by rw[Z9];decide)) hF 17 true (.int .i64 (R.2.2:Int)) (Array.getElem?_eq_getElem (show 24<Z4.size by rw[Z9];decide)) (by kernel_rfl) (by decide) (by kernel_rfl) (by kernel_rfl) (by kernel_rfl) (hQ _ _) (Z2 (by kernel_rfl)) (fun hW w hS=>Z5 (x:=.tmp 77) (.inr (by kernel_rfl)) (hF.ev 77 _ rfl)) hS3 (fun a hF=>?_)
  rw[show cond true (.int .i64 (R.2.2:Int)) undef=.int .i64 (R.2.2:Int) from rfl]at hF
  exact wpAnyH_done (by kernel_rfl) (hE _ _ g v' (hF.sub ((17,.int .i64 (R.2.2:Int)) ::(16,.int .u64 (R.2.1:Int)) ::(15,ptr g 0) :: [(0,ptr b 0),(1,.string who),(2,.int .u64 ((q:Nat):Int)),(3,.string name),(4,.int .u32 ((mode:Nat):Int)),(5,v5),(12,v12),(13,v13),(14,ptr k8 0)]) ⟨rfl,rfl,rfl,rfl,rfl,rfl,rfl,rfl,rfl,rfl,rfl,rfl,trivial⟩) hS3 fA3 gA hv3 hfr) _
set_option maxHeartbeats 12800000 in
theorem Z76 (b m p n:Nat) (v:Value) (f:FsV) (u:Usr) (who:ByteArray) (q:Nat) (name:ByteArray) (mode open_:Nat) (w:World) (h:FSo w b m v p f u n) {V:ByteArray→Bool} (hok:FOkV V f) (hub:UB u.us u.gs) (hname:name.size≤maxLen) (hmode:mode<4294967296) (hopen:open_<256) (hn:n<1000000) :
  Calls Tryz.prog 10 #[.pointer (some ⟨b,0,none⟩),.string who,.int .u64 (q:Int),.string name,.int .u32 (mode:Int),.int .u8 (open_:Int)] w (Z5W b m p (n+1) (Z13 u f who q name mode open_).1 u (.int .u64 ((Z13 u f who q name mode open_).2.1:Int)) (Z13 u f who q name mode open_).2.2 w):=by
 have ht:=hok.tr
 have hne:=hok.ne
 have mixed:Tryz.prog.follows Departure.mixedOrders=true:=by first | kernel_rfl | decide
 obtain⟨a0,c0,rfl,g1,g2⟩:=h.row.form
 obtain⟨W,hW⟩ : ∃ W,W=w.alloc (.cells #[.int .i64 0] 33):=⟨_,rfl⟩
 have hb0:Below w.heap.size w W:=by rw[hW];exact(Below.refl _ _).alloc (Nat.le_refl _) _
 have hK0:=hid (show W.heap[w.heap.size]?=some (.cells #[.int .i64 0] 33 (0,0)) by rw[hW];exact heap_alloc_new _ _)
 have hF0:=hid (h.below hb0)
 have hS0:=hid (FStep.pure (b:=b) (m:=m) hb0)
 have hbw:=lt_of_block h.blk
 have hmw:=h.map.lt
 have q0:=Z0 hF0.out.blk 0
 have q1:=Z0 hF0.out.blk 1
 have hlt0:=hid (lt_of_block hK0.out)
 replace hne:=hid hne
 clear h hb0
 cases hg:ZM f.t.n q with
 | none =>
  have hE:Hid (Z13 u f who q name mode open_=(f,0,6)):=hid (by unfold Z13;rw[hg])
  have hli:=hid (Z5U b m p n _ f u q W hF0.out ht hg)
  clear hg
  go_enter_defers Tryz.func10,Tryz.ntmps10
  go_wp2_with (rw[←hW];replace hW:=hid hW)
  try (rw[←hW];replace hW:=hid hW)
  refine hli.out.mono ?_
  rintro e w1 ⟨rfl,hb1⟩
  go_wp2_with fail
  rw[hE.out]
  exact ZU rfl ((hF0.out.below hb1).mono (Nat.le_succ n)) (hS0.out.trans (FStep.pure hb1)) hne.out ((hb1.block _ hlt0.out).trans hK0.out) hbw hmw (Nat.le_refl _) (by simp[go_sem]) rfl rfl
 | some d =>
  cases hgo:d.gone with
  | true =>
   have hE:Hid (Z13 u f who q name mode open_=(f,0,6)):=hid (by unfold Z13;rw[hg];simp only;rw[if_pos hgo])
   have hli:=hid (Z44 b m p n _ f u q d W hF0.out ht hg hgo)
   clear hg hgo
   go_enter_defers Tryz.func10,Tryz.ntmps10
   go_wp2_with (rw[←hW];replace hW:=hid hW)
   try (rw[←hW];replace hW:=hid hW)
   refine hli.out.mono ?_
   rintro e w1 ⟨rfl,hb1⟩
   go_wp2_with fail
   rw[hE.out]
   exact ZU rfl ((hF0.out.below hb1).mono (Nat.le_succ n)) (hS0.out.trans (FStep.pure hb1)) hne.out ((hb1.block _ hlt0.out).trans hK0.out) hbw hmw (Nat.le_refl _) (by simp[go_sem]) rfl rfl
  | false =>
   have hE:Hid (Z13 u f who q name mode open_=(if ZF d=false then(f,0,13) else(if u.may who d 2=false then(f,0,5) else(if ZV mode=false∨open_ &&& 172≠0 then(f,0,1) else(if mode &&& 2147483648≠0∧open_ &&& 191≠0 then(f,0,12) else(if (Z11 f.t q name (Z12 d.mode mode) who d.gid f.now).2.2≠0 then(f,0,(Z11 f.t q name (Z12 d.mode mode) who d.gid f.now).2.2) else(ZP (f.set (Z11 f.t q name (Z12 d.mode mode) who d.gid f.now).1) (Z11 f.t q name (Z12 d.mode mode) who d.gid f.now).2.1,(Z11 f.t q name (Z12 d.mode mode) who d.gid f.now).2.1,0))))))):=hid (by unfold Z13;rw[hg];simp only;rw[if_neg (by rw[hgo];decide)])
   have hli:=hid (Z5T b m p n _ f u q d W hF0.out ht hg hgo)
   have hdk:=ht.ok d (Zr hg).1
   clear hg hgo
   go_enter_defers Tryz.func10,Tryz.ntmps10
   go_wp2_with (rw[←hW];replace hW:=hid hW)
   try (rw[←hW];replace hW:=hid hW)
   refine hli.out.mono ?_
   rintro e w1 ⟨rfl,hb1⟩
   obtain⟨X,hX⟩ : ∃ W,W=Z1J w1 d:=⟨_,rfl⟩
   have hbX:Below w1.heap.size w1 X:=by rw[hX];exact ZD _ _
   have hBX:=sn hb1 hbX
   have hnX:=hid (show X.heap[w1.heap.size]?=some (.cells d.cells 89 (0,0)) by rw[hX];exact ZK _ _)
   have hFX:=hid (hF0.out.below hBX)
   have hSX:=hid (hS0.out.trans (FStep.pure hBX))
   have hKX:=hid ((hBX.block _ hlt0.out).trans hK0.out)
   have hdi:=hid (Z5I d X hdk)
   have hnew:=hid (heap_alloc_new w1 (.cells Zk.cells 89))
   unfold Z1J at hX
   rw[Zc]at hX hnew
   replace hdk:=hid hdk
   clear hb1 hbX hBX q0 q1 hli hF0 hS0 hK0
   go_wp2_with (first
    |(rw[←hX];replace hX:=hid hX)
    |(refine wpList_store_row (by rfl) 89 (.tmp 14) (.tmp 25) (by rfl) w1.heap.size d.cells (by rfl) (by rfl) 89 _ hnew.out (by kernel_rfl) (by kernel_rfl) (Zw d) ?_)
    |(refine wpList_load_row (by rfl) 89 (.tmp 14) (by rfl) w1.heap.size (by rfl) 89 d.cells (0,0) _ hnX.out Tryz.underlying89 (by rfl) (by kernel_rfl) ?_))
   generalize w1.heap.size=z at *
   refine hdi.out.mono ?_
   rintro e w2 ⟨rfl,hb2⟩
   have hF2:=hid (hFX.out.below hb2)
   have hS2:=hid (hSX.out.trans (FStep.pure hb2))
   have hK2:=hid ((hb2.block _ (lt_of_block hKX.out)).trans hKX.out)
   have hn2:=hid ((hb2.block _ (lt_of_block hnX.out)).trans hnX.out)
   clear hdi hb2 hnew hnX hFX hSX hKX
   cases hdd:ZF d with
   | false =>
    have hmu:Hid (Calls Tryz.prog 37 #[.bool true,.int .i64 13] w2 fun x w'=>x=.panicked (ZY 13)∧w'=w2):=hid (Z1g 13 w2)
    have hE2:Hid (Z13 u f who q name mode open_=(f,0,13)):=hid (by rw[hE.out,if_pos hdd])
    clear hdd hE
    go_wp2_with fail
    refine hmu.out.mono ?_
    rintro e w3 ⟨rfl,rfl⟩
    go_wp2_with fail
    rw[hE2.out]
    exact ZU rfl (hF2.out.mono (Nat.le_succ n)) hS2.out hne.out hK2.out hbw hmw (Nat.le_refl _) (by simp[go_sem]) rfl rfl
   | true =>
    have hmu:Hid (Calls Tryz.prog 37 #[.bool false,.int .i64 13] w2 fun x w'=>x=.returned (.tuple #[])∧w'=w2):=hid (Z1h 13 w2)
    have hE2:Hid (Z13 u f who q name mode open_=(if u.may who d 2=false then(f,0,5) else(if ZV mode=false∨open_ &&& 172≠0 then(f,0,1) else(if mode &&& 2147483648≠0∧open_ &&& 191≠0 then(f,0,12) else(if (Z11 f.t q name (Z12 d.mode mode) who d.gid f.now).2.2≠0 then(f,0,(Z11 f.t q name (Z12 d.mode mode) who d.gid f.now).2.2) else(ZP (f.set (Z11 f.t q name (Z12 d.mode mode) who d.gid f.now).1) (Z11 f.t q name (Z12 d.mode mode) who d.gid f.now).2.1,(Z11 f.t q name (Z12 d.mode mode) who d.gid f.now).2.1,0)))))):=hid (by rw[hE.out,if_neg (by rw[hdd];decide)])
    have hFd:=hid (hF2.out.below ((Below.refl _ _).drew))
    have hSd:=hid (hS2.out.trans (FStep.pure ((Below.refl _ _).drew)))
    have hKd:=hid (show w2.drew.heap[w.heap.size]?=some (.cells #[.int .i64 0] 33 (0,0)) from hK2.out)
    have hnd:=hid (show w2.drew.heap[z]?=some (.cells d.cells 89 (0,0)) from hn2.out)
    have hltd:=hid (lt_of_block hKd.out)
    have hmay:Calls Tryz.prog 39 #[.pointer (some ⟨p,0,none⟩),.string who,.agg d.cells,.int .u32 2] w2.drew (fun e w'=>e=.returned (.bool (u.may who d 2))∧Below w2.drew.heap.size w2.drew w'):=Z4n p u.us u.gs who d 2 w2.drew hFd.out.tabs hub hdk.out (by omega)
    have r2:w2.cell? ⟨b,2,none⟩=some (.pointer (some ⟨p,0,none⟩)):=Z0 hF2.out.blk 2
    clear hdd hE
    go_wp2_with fail
    refine hmu.out.mono ?_
    rintro e w3 ⟨rfl,rfl⟩
    clear hmu
    go_wp2_with fail
    obtain⟨d0,d1,d2,d3,d4,d5,d6,d7,d8,d9,d10,d11⟩:=Z4h hn2.out
    cases hmy:u.may who d 2 with
    | false =>
     rw[hmy,Z7]at hmay
     replace hmay:=hid hmay
     have hE3:Hid (Z13 u f who q name mode open_=(f,0,5)):=hid (by rw[hE2.out,if_pos hmy])
     have hmu:=hid (fun X=>show Calls Tryz.prog 37 #[.bool true,.int .i64 5] X (fun x w'=>x=.panicked (ZY 5)∧w'=X) from Z1g 5 X)
     clear hmy hE2
     refine ZX [(12,.int .u64 0),(13,.pointer (some ⟨w.heap.size,0,none⟩))] mixed (by kernel_rfl) ⟨rfl,rfl,trivial⟩ ?_
     refine wpAny_take (i:=0) (v:=?_) rfl (by kernel_rfl) (by kernel_rfl) (by kernel_rfl) (fun _ _ _ h=>h) (Or.inl ⟨by rfl,?_⟩) ?_
     rotate_left
     ·intro w;go_simp;try (with_reducible rfl)
     refine wpAny_take (i:=1) (v:=?_) rfl (by kernel_rfl) (by kernel_rfl) (by kernel_rfl) (fun _ _ _ h=>h) (Or.inl ⟨by rfl,?_⟩) ?_
     rotate_left
     ·intro w;go_simp;try (with_reducible rfl)
     refine wpAny_take (i:=2) (v:=?_) rfl (by kernel_rfl) (by kernel_rfl) (by kernel_rfl) (fun _ _ _ h=>h) (Or.inl ⟨by rfl,?_⟩) ?_
     rotate_left
     ·intro w;go_simp;try (with_reducible rfl)
     refine wpAny_take (i:=4) (v:=?_) rfl (by kernel_rfl) (by kernel_rfl) (by kernel_rfl) (fun _ _ _ h=>h) (Or.inl ⟨by rfl,?_⟩) ?_
     rotate_left
     ·intro w;go_simp;try (with_reducible rfl)
     refine wpAny_ready (rs:=[3,5]) (by kernel_rfl) (by simp) ?_
     refine AllReady.cons rfl (fun K hK=>?_) ?_
     go_simp
     refine hK _ _ ?_;clear hK K
     refine wpAny_ready (rs:=[5]) (by kernel_rfl) (by simp) ?_
     refine AllReady.cons rfl (fun K hK=>?_) ?_
     go_simp
     refine hK _ _ ?_;clear hK K
     refine wpAny_ready (rs:=[6]) (by kernel_rfl) (by simp) ?_
     refine AllReady.cons rfl (fun K hK=>?_) ?_
     go_simp
     go_wp2_with (first
      |(go_at_call 39;(with_reducible refine hmay.out.mono ?_);rintro e w4 ⟨rfl,hb4⟩)
      |(go_at_call 37;(with_reducible refine(hmu.out _).mono ?_);rintro e w5 ⟨rfl,rfl⟩;refine Z1d (fun a' hd hx=>?_) ?_;(
        have hKk:=(hb4.block _ hltd.out).trans hKd.out
        refine(show Leaves _ _ a'.tmps _ a'.defers _ _ from ?_)
        rw[hd,hE3.out]
        exact ZU rfl ((hFd.out.below hb4).mono (Nat.le_succ n)) (hSd.out.trans (FStep.pure hb4)) hne.out hKk hbw hmw (Nat.le_refl _) (by simp[go_sem]) (hx (12,_) (by simp)) (hx (13,_) (by simp)))))
     refine wpAny_take (i:=7) (v:=?_) rfl (by kernel_rfl) (by kernel_rfl) (by kernel_rfl) (fun _ _ _ h=>h) (Or.inl ⟨by rfl,?_⟩) ?_
     rotate_left
     ·intro w;go_simp;try (with_reducible rfl)
     refine wpAny_ready (rs:=[8]) (by kernel_rfl) (by simp) ?_
     refine AllReady.cons rfl (fun K hK=>?_) ?_
     go_simp
     go_wp2_with (first
      |(go_at_call 39;(with_reducible refine hmay.out.mono ?_);rintro e w4 ⟨rfl,hb4⟩)
      |(go_at_call 37;(with_reducible refine(hmu.out _).mono ?_);rintro e w5 ⟨rfl,rfl⟩;refine Z1d (fun a' hd hx=>?_) ?_;(
        have hKk:=(hb4.block _ hltd.out).trans hKd.out
        refine(show Leaves _ _ a'.tmps _ a'.defers _ _ from ?_)
        rw[hd,hE3.out]
        exact ZU rfl ((hFd.out.below hb4).mono (Nat.le_succ n)) (hSd.out.trans (FStep.pure hb4)) hne.out hKk hbw hmw (Nat.le_refl _) (by simp[go_sem]) (hx (12,_) (by simp)) (hx (13,_) (by simp)))))
     refine wpAny_done (by kernel_rfl) ?_ _
     rotate_left
     exact AllReady.nil
     exact AllReady.nil
     exact AllReady.nil
     refine AllReady.cons rfl (fun K hK=>?_) ?_
     go_simp
     refine hK _ _ ?_;clear hK K
     refine wpAny_ready (rs:=[3]) (by kernel_rfl) (by simp) ?_
     refine AllReady.cons rfl (fun K hK=>?_) ?_
     go_simp
     refine hK _ _ ?_;clear hK K
     refine wpAny_ready (rs:=[6]) (by kernel_rfl) (by simp) ?_
     refine AllReady.cons rfl (fun K hK=>?_) ?_
     go_simp
     go_wp2_with (first
      |(go_at_call 39;(with_reducible refine hmay.out.mono ?_);rintro e w4 ⟨rfl,hb4⟩)
      |(go_at_call 37;(with_reducible refine(hmu.out _).mono ?_);rintro e w5 ⟨rfl,rfl⟩;refine Z1d (fun a' hd hx=>?_) ?_;(
        have hKk:=(hb4.block _ hltd.out).trans hKd.out
        refine(show Leaves _ _ a'.tmps _ a'.defers _ _ from ?_)
        rw[hd,hE3.out]
        exact ZU rfl ((hFd.out.below hb4).mono (Nat.le_succ n)) (hSd.out.trans (FStep.pure hb4)) hne.out hKk hbw hmw (Nat.le_refl _) (by simp[go_sem]) (hx (12,_) (by simp)) (hx (13,_) (by simp)))))
     refine wpAny_take (i:=7) (v:=?_) rfl (by kernel_rfl) (by kernel_rfl) (by kernel_rfl) (fun _ _ _ h=>h) (Or.inl ⟨by rfl,?_⟩) ?_
     rotate_left
     ·intro w;go_simp;try (with_reducible rfl)
     refine wpAny_ready (rs:=[8]) (by kernel_rfl) (by simp) ?_
     refine AllReady.cons rfl (fun K hK=>?_) ?_
     go_simp
     go_wp2_with (first
      |(go_at_call 39;(with_reducible refine hmay.out.mono ?_);rintro e w4 ⟨rfl,hb4⟩)
      |(go_at_call 37;(with_reducible refine(hmu.out _).mono ?_);rintro e w5 ⟨rfl,rfl⟩;refine Z1d (fun a' hd hx=>?_) ?_;(
        have hKk:=(hb4.block _ hltd.out).trans hKd.out
        refine(show Leaves _ _ a'.tmps _ a'.defers _ _ from ?_)
        rw[hd,hE3.out]
        exact ZU rfl ((hFd.out.below hb4).mono (Nat.le_succ n)) (hSd.out.trans (FStep.pure hb4)) hne.out hKk hbw hmw (Nat.le_refl _) (by simp[go_sem]) (hx (12,_) (by simp)) (hx (13,_) (by simp)))))
     refine wpAny_done (by kernel_rfl) ?_ _
     rotate_left
     exact AllReady.nil
     exact AllReady.nil
     exact AllReady.nil
     exact AllReady.nil
     all_goals trivial
    | true =>
     rw[hmy,Z7]at hmay
     replace hmay:=hid hmay
     have hE3:Hid (Z13 u f who q name mode open_=(if ZV mode=false∨open_ &&& 172≠0 then(f,0,1) else(if mode &&& 2147483648≠0∧open_ &&& 191≠0 then(f,0,12) else(if (Z11 f.t q name (Z12 d.mode mode) who d.gid f.now).2.2≠0 then(f,0,(Z11 f.t q name (Z12 d.mode mode) who d.gid f.now).2.2) else(ZP (f.set (Z11 f.t q name (Z12 d.mode mode) who d.gid f.now).1) (Z11 f.t q name (Z12 d.mode mode) who d.gid f.now).2.1,(Z11 f.t q name (Z12 d.mode mode) who d.gid f.now).2.1,0))))):=hid (by rw[hE2.out,if_neg (by rw[hmy];decide)])
     have hmu:=hid (fun X=>show Calls Tryz.prog 37 #[.bool false,.int .i64 5] X (fun x w'=>x=.returned (.tuple #[])∧w'=X) from Z1h 5 X)
     clear hmy hE2
     refine ZX [(12,.int .u64 0),(13,.pointer (some ⟨w.heap.size,0,none⟩))] mixed (by kernel_rfl) ⟨rfl,rfl,trivial⟩ ?_
     refine wpAny_take (i:=0) (v:=?_) rfl (by kernel_rfl) (by kernel_rfl) (by kernel_rfl) (fun _ _ _ h=>h) (Or.inl ⟨by rfl,?_⟩) ?_
     rotate_left
     ·intro w;go_simp;try (with_reducible rfl)
     refine wpAny_take (i:=1) (v:=?_) rfl (by kernel_rfl) (by kernel_rfl) (by kernel_rfl) (fun _ _ _ h=>h) (Or.inl ⟨by rfl,?_⟩) ?_
     rotate_left
     ·intro w;go_simp;try (with_reducible rfl)
     refine wpAny_take (i:=2) (v:=?_) rfl (by kernel_rfl) (by kernel_rfl) (by kernel_rfl) (fun _ _ _ h=>h) (Or.inl ⟨by rfl,?_⟩) ?_
     rotate_left
     ·intro w;go_simp;try (with_reducible rfl)
     refine wpAny_take (i:=4) (v:=?_) rfl (by kernel_rfl) (by kernel_rfl) (by kernel_rfl) (fun _ _ _ h=>h) (Or.inl ⟨by rfl,?_⟩) ?_
     rotate_left
     ·intro w;go_simp;try (with_reducible rfl)
     refine wpAny_ready (rs:=[3,5]) (by kernel_rfl) (by simp) ?_
     refine AllReady.cons rfl (fun K hK=>?_) ?_
     go_simp
     refine hK _ _ ?_;clear hK K
     refine wpAny_ready (rs:=[5]) (by kernel_rfl) (by simp) ?_
     refine AllReady.cons rfl (fun K hK=>?_) ?_
     go_simp
     refine hK _ _ ?_;clear hK K
     refine wpAny_ready (rs:=[6]) (by kernel_rfl) (by simp) ?_
     refine AllReady.cons rfl (fun K hK=>?_) ?_
     go_simp
     go_wp2_with (first
      |(go_at_call 39;(with_reducible refine hmay.out.mono ?_);rintro e w4 ⟨rfl,hb4⟩;replace hb4:=hid hb4)
      |(go_at_call 37;(with_reducible refine(hmu.out _).mono ?_);rintro e w5 ⟨rfl,rfl⟩))
     refine wpAny_take (i:=7) (v:=?_) rfl (by kernel_rfl) (by kernel_rfl) (by kernel_rfl) (fun _ _ _ h=>h) (Or.inl ⟨by rfl,?_⟩) ?_
     rotate_left
     ·intro w;go_simp;try (with_reducible rfl)
     refine wpAny_ready (rs:=[8]) (by kernel_rfl) (by simp) ?_
     refine AllReady.cons rfl (fun K hK=>?_) ?_
     go_simp
     go_wp2_with (first
      |(go_at_call 39;(with_reducible refine hmay.out.mono ?_);rintro e w4 ⟨rfl,hb4⟩;replace hb4:=hid hb4)
      |(go_at_call 37;(with_reducible refine(hmu.out _).mono ?_);rintro e w5 ⟨rfl,rfl⟩))
     refine wpAny_done (by kernel_rfl) ?_ _
     rotate_left
     exact AllReady.nil
     exact AllReady.nil
     exact AllReady.nil
     refine AllReady.cons rfl (fun K hK=>?_) ?_
     go_simp
     refine hK _ _ ?_;clear hK K
     refine wpAny_ready (rs:=[3]) (by kernel_rfl) (by simp) ?_
     refine AllReady.cons rfl (fun K hK=>?_) ?_
     go_simp
     refine hK _ _ ?_;clear hK K
     refine wpAny_ready (rs:=[6]) (by kernel_rfl) (by simp) ?_
     refine AllReady.cons rfl (fun K hK=>?_) ?_
     go_simp
     go_wp2_with (first
      |(go_at_call 39;(with_reducible refine hmay.out.mono ?_);rintro e w4 ⟨rfl,hb4⟩;replace hb4:=hid hb4)
      |(go_at_call 37;(with_reducible refine(hmu.out _).mono ?_);rintro e w5 ⟨rfl,rfl⟩))
     refine wpAny_take (i:=7) (v:=?_) rfl (by kernel_rfl) (by kernel_rfl) (by kernel_rfl) (fun _ _ _ h=>h) (Or.inl ⟨by rfl,?_⟩) ?_
     rotate_left
     ·intro w;go_simp;try (with_reducible rfl)
     refine wpAny_ready (rs:=[8]) (by kernel_rfl) (by simp) ?_
     refine AllReady.cons rfl (fun K hK=>?_) ?_
     go_simp
     go_wp2_with (first
      |(go_at_call 39;(with_reducible refine hmay.out.mono ?_);rintro e w4 ⟨rfl,hb4⟩;replace hb4:=hid hb4)
      |(go_at_call 37;(with_reducible refine(hmu.out _).mono ?_);rintro e w5 ⟨rfl,rfl⟩))
     refine wpAny_done (by kernel_rfl) ?_ _
     rotate_left
     exact AllReady.nil
     exact AllReady.nil
     exact AllReady.nil
     exact AllReady.nil
     all_goals
      refine Z1H ?_
      clear d0 d1 d2 d3 d4 d5 d6 d7 d8 d9 d10 d11 r2
      have hF4:=hid (hFd.out.below hb4.out)
      have hS4:=hid (hSd.out.trans (FStep.pure hb4.out))
      have hK4:=hid ((hb4.out.block _ hltd.out).trans hKd.out)
      have hn4:=hid ((hb4.out.block _ (lt_of_block hnd.out)).trans hnd.out)
      clear hmay hmu hFd hSd hKd hnd hb4 hF2 hS2 hK2 hn2 hltd
      have hbi:=hid (Z68 mode w5 hmode)
      cases hbt:ZV mode with
      | false =>
       have hmu:Hid (Calls Tryz.prog 37 #[.bool true,.int .i64 1] w5 fun x w'=>x=.panicked (ZY 1)∧w'=w5):=hid (Z1g 1 w5)
       rw[hbt]at hbi
       have hE4:Hid (Z13 u f who q name mode open_=(f,0,1)):=hid (by rw[hE3.out,if_pos (.inl hbt)])
       clear hE3 hbt
       go_wp2_with fail
       refine hbi.out.mono ?_
       rintro e w6 ⟨rfl,rfl⟩
       go_wp2_with fail
       refine hmu.out.mono ?_
       rintro e w7 ⟨rfl,rfl⟩
       go_wp2_with fail
       rw[hE4.out]
       exact ZU rfl (hF4.out.mono (Nat.le_succ n)) hS4.out hne.out hK4.out hbw hmw (Nat.le_refl _) (by simp[go_sem]) rfl rfl
      | true =>
       rw[hbt]at hbi
       have hbm:=Z7e open_ hopen
       by_cases h172:open_ &&& 172=0
       ·have hmu:Hid (Calls Tryz.prog 37 #[.bool false,.int .i64 1] w5 fun x w'=>x=.returned (.tuple #[])∧w'=w5):=hid (Z1h 1 w5)
        have hE4:Hid (Z13 u f who q name mode open_=(if mode &&& 2147483648≠0∧open_ &&& 191≠0 then(f,0,12) else(if (Z11 f.t q name (Z12 d.mode mode) who d.gid f.now).2.2≠0 then(f,0,(Z11 f.t q name (Z12 d.mode mode) who d.gid f.now).2.2) else(ZP (f.set (Z11 f.t q name (Z12 d.mode mode) who d.gid f.now).1) (Z11 f.t q name (Z12 d.mode mode) who d.gid f.now).2.1,(Z11 f.t q name (Z12 d.mode mode) who d.gid f.now).2.1,0)))):=hid (by rw[hE3.out,if_neg (fun e=>e.elim (fun e=>by rw[hbt]at e;cases e) (fun e=>e h172))])
        rw[h172]at hbm
        simp only[decide_true,Bool.not_true]at hbm
        clear hE3 hbt h172
        go_wp2_with fail
        refine hbi.out.mono ?_
        rintro e w6 ⟨rfl,rfl⟩
        go_wp2_with fail
        refine hmu.out.mono ?_
        rintro e w7 ⟨rfl,rfl⟩
        clear hmu hbi hbm
        go_upto_region 6 with fail
        go_cut [] from 18 (fun wx=>wx=w7∧Z13 u f who q name mode open_=(if (Z11 f.t q name (Z12 d.mode mode) who d.gid f.now).2.2≠0 then(f,0,(Z11 f.t q name (Z12 d.mode mode) who d.gid f.now).2.2) else(ZP (f.set (Z11 f.t q name (Z12 d.mode mode) who d.gid f.now).1) (Z11 f.t q name (Z12 d.mode mode) who d.gid f.now).2.1,(Z11 f.t q name (Z12 d.mode mode) who d.gid f.now).2.1,0)))
        case first =>
         have m31:(bits .and .u32 (mode:Int) 2147483648 != 0) = !decide (mode &&& 2147483648=0):=Zca mode 2147483648 hmode (by omega)
         by_cases h31:mode &&& 2147483648=0
         ·have hmu:Hid (Calls Tryz.prog 37 #[.bool false,.int .i64 12] w7 fun x w'=>x=.returned (.tuple #[])∧w'=w7):=hid (Z1h 12 w7)
          have hE5:Z13 u f who q name mode open_=(if (Z11 f.t q name (Z12 d.mode mode) who d.gid f.now).2.2≠0 then(f,0,(Z11 f.t q name (Z12 d.mode mode) who d.gid f.now).2.2) else(ZP (f.set (Z11 f.t q name (Z12 d.mode mode) who d.gid f.now).1) (Z11 f.t q name (Z12 d.mode mode) who d.gid f.now).2.1,(Z11 f.t q name (Z12 d.mode mode) who d.gid f.now).2.1,0)):=by rw[hE4.out,if_neg (fun e=>e.1 h31)]
          rw[h31]at m31
          simp only[decide_true,Bool.not_true]at m31
          replace hE5:=hid hE5
          clear hE4 h31
          go_wp2_with fail
          refine hmu.out.mono ?_
          rintro e w8 ⟨rfl,rfl⟩
          go_wp2_with fail
          go_meet
          case rel=>exact⟨rfl,hE5.out⟩
         ·have k31:(!decide (mode &&& 2147483648=0))=true:=by simpa using h31
          rw[k31]at m31
          have hbo:=ZbD open_ hopen
          by_cases h191:open_ &&& 191=0
          ·have hmu:Hid (Calls Tryz.prog 37 #[.bool false,.int .i64 12] w7 fun x w'=>x=.returned (.tuple #[])∧w'=w7):=hid (Z1h 12 w7)
           have hE5:Z13 u f who q name mode open_=(if (Z11 f.t q name (Z12 d.mode mode) who d.gid f.now).2.2≠0 then(f,0,(Z11 f.t q name (Z12 d.mode mode) who d.gid f.now).2.2) else(ZP (f.set (Z11 f.t q name (Z12 d.mode mode) who d.gid f.now).1) (Z11 f.t q name (Z12 d.mode mode) who d.gid f.now).2.1,(Z11 f.t q name (Z12 d.mode mode) who d.gid f.now).2.1,0)):=by rw[hE4.out,if_neg (fun e=>e.2 h191)]
           rw[h191]at hbo
           simp only[decide_true,Bool.not_true]at hbo
           replace hE5:=hid hE5
           clear hE4 h31 h191 k31
           go_wp2_with fail
           refine hmu.out.mono ?_
           rintro e w8 ⟨rfl,rfl⟩
           go_wp2_with fail
           go_meet
           case rel=>exact⟨rfl,hE5.out⟩
          ·have hmu:Hid (Calls Tryz.prog 37 #[.bool true,.int .i64 12] w7 fun x w'=>x=.panicked (ZY 12)∧w'=w7):=hid (Z1g 12 w7)
           have k191:(!decide (open_ &&& 191=0))=true:=by simpa using h191
           rw[k191]at hbo
           have hE5:Hid (Z13 u f who q name mode open_=(f,0,12)):=hid (by rw[hE4.out,if_pos ⟨h31,h191⟩])
           clear hE4 h31 h191 k31 k191
           go_wp2_with fail
           refine hmu.out.mono ?_
           rintro e w8 ⟨rfl,rfl⟩
           go_wp2_with fail
           rw[hE5.out]
           exact ZU rfl (hF4.out.mono (Nat.le_succ n)) hS4.out hne.out hK4.out hbw hmw (Nat.le_refl _) (by simp[go_sem]) rfl rfl
        case rest =>
         obtain⟨hwc,hE5⟩:=hcut
         rw[←hwc]at hF4 hS4 hK4 hn4
         replace hE5:=hid hE5
         clear hE4 hwc
         have hFd:=hid (hF4.out.below ((Below.refl _ _).drew))
         have hSd:=hid (hS4.out.trans (FStep.pure ((Below.refl _ _).drew)))
         have hKd:=hid (show wc.drew.heap[w.heap.size]?=some (.cells #[.int .i64 0] 33 (0,0)) from hK4.out)
         have hnd:=hid (show wc.drew.heap[z]?=some (.cells d.cells 89 (0,0)) from hn4.out)
         have hltd:=hid (lt_of_block hKd.out)
         have hbl:=hid (lt_of_block hFd.out.blk)
         have hml:=hid hFd.out.map.lt
         obtain⟨R,hR⟩ : ∃ R,Z11 f.t q name (Z12 d.mode mode) who d.gid f.now=R:=⟨_,rfl⟩
         have hp2:Hid (R.2.1<18446744073709551616):=hid (by have h:=Z8q f.t q name (Z12 d.mode mode) who d.gid f.now;rw[hR]at h;have:=hok.good.next;rcases h with h | h <;> omega)
         rw[hR]at hE5
         replace hR:=hid hR
         go_upto_region 7 with fail
         refine Z36 (S:=Below wc.drew.heap.size wc.drew) [] mixed (by kernel_rfl) trivial ?_
         refine(show wpAnyH Tryz.prog .any Z4 _ _ _ _ _ _→_ from fun h=>h) ?_
         refine ZbE (w1:=wc.drew) (v0:=undef) (d:=d) hFd.out hnd.out hok hdk.out hmode hname hR.out (fun d u c a w h=>by cases d <;> exact h) (FrL.of_all (by rfl) rfl ⟨rfl,rfl,rfl,rfl,rfl,rfl,rfl,rfl,rfl,trivial⟩) (Below.refl _ _) (fun a w1 g v' hF hS f1 f2 f3 f4=>?_)
         refine Z1H ?_
         have he:=Z1n hF [.pointer (some ⟨b,0,none⟩),.string who,.int .u64 (q:Int),.string name,.int .u32 (mode:Int),.int .u8 (open_:Int),a.tmps.getD 6 undef,a.tmps.getD 7 undef,a.tmps.getD 8 undef,a.tmps.getD 9 undef,a.tmps.getD 10 undef,a.tmps.getD 11 undef,.int .u64 0,.pointer (some ⟨w.heap.size,0,none⟩),.pointer (some ⟨z,0,none⟩),.pointer (some ⟨g,0,none⟩),.int .u64 (R.2.1:Int),.int .i64 (R.2.2:Int),a.tmps.getD 18 undef,a.tmps.getD 19 undef,a.tmps.getD 20 undef,a.tmps.getD 21 undef,a.tmps.getD 22 undef,a.tmps.getD 23 undef,a.tmps.getD 24 undef,a.tmps.getD 25 undef,a.tmps.getD 26 undef,a.tmps.getD 27 undef,a.tmps.getD 28 undef,a.tmps.getD 29 undef,a.tmps.getD 30 undef,a.tmps.getD 31 undef,a.tmps.getD 32 undef,a.tmps.getD 33 undef,a.tmps.getD 34 undef,a.tmps.getD 35 undef,a.tmps.getD 36 undef,a.tmps.getD 37 undef,a.tmps.getD 38 undef,a.tmps.getD 39 undef,a.tmps.getD 40 undef,a.tmps.getD 41 undef,a.tmps.getD 42 undef,a.tmps.getD 43 undef,a.tmps.getD 44 undef,a.tmps.getD 45 undef,a.tmps.getD 46 undef,a.tmps.getD 47 undef,a.tmps.getD 48 undef,a.tmps.getD 49 undef,a.tmps.getD 50 undef,a.tmps.getD 51 undef,a.tmps.getD 52 undef,a.tmps.getD 53 undef,a.tmps.getD 54 undef,a.tmps.getD 55 undef,a.tmps.getD 56 undef,a.tmps.getD 57 undef,a.tmps.getD 58 undef,a.tmps.getD 59 undef,a.tmps.getD 60 undef,a.tmps.getD 61 undef,a.tmps.getD 62 undef,a.tmps.getD 63 undef,a.tmps.getD 64 undef,a.tmps.getD 65 undef,a.tmps.getD 66 undef,a.tmps.getD 67 undef,a.tmps.getD 68 undef,a.tmps.getD 69 undef,a.tmps.getD 70 undef,a.tmps.getD 71 undef,a.tmps.getD 72 undef,a.tmps.getD 73 undef,a.tmps.getD 74 undef,a.tmps.getD 75 undef,a.tmps.getD 76 undef,a.tmps.getD 77 undef,a.tmps.getD 78 undef,a.tmps.getD 79 undef,a.tmps.getD 80 undef,a.tmps.getD 81 undef,a.tmps.getD 82 undef,a.tmps.getD 83 undef,a.tmps.getD 84 undef,a.tmps.getD 85 undef] (by rfl) ⟨hF.get 0 _ rfl,hF.get 1 _ rfl,hF.get 2 _ rfl,hF.get 3 _ rfl,hF.get 4 _ rfl,hF.get 5 _ rfl,hF.any 6 (by decide),hF.any 7 (by decide),hF.any 8 (by decide),hF.any 9 (by decide),hF.any 10 (by decide),hF.any 11 (by decide),hF.get 12 _ rfl,hF.get 13 _ rfl,hF.get 14 _ rfl,hF.get 15 _ rfl,hF.get 16 _ rfl,hF.get 17 _ rfl,hF.any 18 (by decide),hF.any 19 (by decide),hF.any 20 (by decide),hF.any 21 (by decide),hF.any 22 (by decide),hF.any 23 (by decide),hF.any 24 (by decide),hF.any 25 (by decide),hF.any 26 (by decide),hF.any 27 (by decide),hF.any 28 (by decide),hF.any 29 (by decide),hF.any 30 (by decide),hF.any 31 (by decide),hF.any 32 (by decide),hF.any 33 (by decide),hF.any 34 (by decide),hF.any 35 (by decide),hF.any 36 (by decide),hF.any 37 (by decide),hF.any 38 (by decide),hF.any 39 (by decide),hF.any 40 (by decide),hF.any 41 (by decide),hF.any 42 (by decide),hF.any 43 (by decide),hF.any 44 (by decide),hF.any 45 (by decide),hF.any 46 (by decide),hF.any 47 (by decide),hF.any 48 (by decide),hF.any 49 (by decide),hF.any 50 (by decide),hF.any 51 (by decide),hF.any 52 (by decide),hF.any 53 (by decide),hF.any 54 (by decide),hF.any 55 (by decide),hF.any 56 (by decide),hF.any 57 (by decide),hF.any 58 (by decide),hF.any 59 (by decide),hF.any 60 (by decide),hF.any 61 (by decide),hF.any 62 (by decide),hF.any 63 (by decide),hF.any 64 (by decide),hF.any 65 (by decide),hF.any 66 (by decide),hF.any 67 (by decide),hF.any 68 (by decide),hF.any 69 (by decide),hF.any 70 (by decide),hF.any 71 (by decide),hF.any 72 (by decide),hF.any 73 (by decide),hF.any 74 (by decide),hF.any 75 (by decide),hF.any 76 (by decide),hF.any 77 (by decide),hF.any 78 (by decide),hF.any 79 (by decide),hF.any 80 (by decide),hF.any 81 (by decide),hF.any 82 (by decide),hF.any 83 (by decide),hF.any 84 (by decide),hF.any 85 (by decide),trivial⟩
         rw[he]
         clear he hF
         generalize a.tmps.getD 6 undef=y6
         generalize a.tmps.getD 7 undef=y7
         generalize a.tmps.getD 8 undef=y8
         generalize a.tmps.getD 9 undef=y9
         generalize a.tmps.getD 10 undef=y10
         generalize a.tmps.getD 11 undef=y11
         generalize a.tmps.getD 18 undef=y18
         generalize a.tmps.getD 19 undef=y19
         generalize a.tmps.getD 20 undef=y20
         generalize a.tmps.getD 21 undef=y21
         generalize a.tmps.getD 22 undef=y22
         generalize a.tmps.getD 23 undef=y23
         generalize a.tmps.getD 24 undef=y24
         generalize a.tmps.getD 25 undef=y25
         generalize a.tmps.getD 26 undef=y26
         generalize a.tmps.getD 27 undef=y27
         generalize a.tmps.getD 28 undef=y28
         generalize a.tmps.getD 29 undef=y29
         generalize a.tmps.getD 30 undef=y30
         generalize a.tmps.getD 31 undef=y31
         generalize a.tmps.getD 32 undef=y32
         generalize a.tmps.getD 33 undef=y33
         generalize a.tmps.getD 34 undef=y34
         generalize a.tmps.getD 35 undef=y35
         generalize a.tmps.getD 36 undef=y36
         generalize a.tmps.getD 37 undef=y37
         generalize a.tmps.getD 38 undef=y38
         generalize a.tmps.getD 39 undef=y39
         generalize a.tmps.getD 40 undef=y40
         generalize a.tmps.getD 41 undef=y41
         generalize a.tmps.getD 42 undef=y42
         generalize a.tmps.getD 43 undef=y43
         generalize a.tmps.getD 44 undef=y44
         generalize a.tmps.getD 45 undef=y45
         generalize a.tmps.getD 46 undef=y46
         generalize a.tmps.getD 47 undef=y47
         generalize a.tmps.getD 48 undef=y48
         generalize a.tmps.getD 49 undef=y49
         generalize a.tmps.getD 50 undef=y50
         generalize a.tmps.getD 51 undef=y51
         generalize a.tmps.getD 52 undef=y52
         generalize a.tmps.getD 53 undef=y53
         generalize a.tmps.getD 54 undef=y54
         generalize a.tmps.getD 55 undef=y55
         generalize a.tmps.getD 56 undef=y56
         generalize a.tmps.getD 57 undef=y57
         generalize a.tmps.getD 58 undef=y58
         generalize a.tmps.getD 59 undef=y59
         generalize a.tmps.getD 60 undef=y60
         generalize a.tmps.getD 61 undef=y61
         generalize a.tmps.getD 62 undef=y62
         generalize a.tmps.getD 63 undef=y63
         generalize a.tmps.getD 64 undef=y64
         generalize a.tmps.getD 65 undef=y65
         generalize a.tmps.getD 66 undef=y66
         generalize a.tmps.getD 67 undef=y67
         generalize a.tmps.getD 68 undef=y68
         generalize a.tmps.getD 69 undef=y69
         generalize a.tmps.getD 70 undef=y70
         generalize a.tmps.getD 71 undef=y71
         generalize a.tmps.getD 72 undef=y72
         generalize a.tmps.getD 73 undef=y73
         generalize a.tmps.getD 74 undef=y74
         generalize a.tmps.getD 75 undef=y75
         generalize a.tmps.getD 76 undef=y76
         generalize a.tmps.getD 77 undef=y77
         generalize a.tmps.getD 78 undef=y78
         generalize a.tmps.getD 79 undef=y79
         generalize a.tmps.getD 80 undef=y80
         generalize a.tmps.getD 81 undef=y81
         generalize a.tmps.getD 82 undef=y82
         generalize a.tmps.getD 83 undef=y83
         generalize a.tmps.getD 84 undef=y84
         generalize a.tmps.getD 85 undef=y85
         clear a
         rw[Z9P]
         have hFz:=hid (hFd.out.below hS)
         have hSz:=hid (hSd.out.trans (FStep.pure hS))
         have hKz:=hid ((hS.block _ hltd.out).trans hKd.out)
         have ho1:=hid (show v'.ownBlock≠some w.heap.size from fun e=>by have:=f4 _ e;have:=hltd.out;omega)
         have n1:Hid (v'.ownBlock≠some b):=hid (fun e=>by have:=f4 _ e;have:=hbl.out;omega)
         have n2:Hid (v'.ownBlock≠some m):=hid (fun e=>by have:=f4 _ e;have:=hml.out;omega)
         replace f1:=hid f1
         replace f3:=hid f3
         obtain⟨a',c',rfl,_,_⟩:=f3.out.form
         clear hS f2 f4 hF4 hS4 hK4 hn4 hnd hFd hSd hKd
         by_cases hE0:R.2.2=0
         ·have hE6:Hid (Z13 u f who q name mode open_=(ZP (f.set R.1) R.2.1,R.2.1,0)):=hid (by rw[hE5.out,if_neg (by rw[hE0];simp)])
          have hnx:=hid (Z1E b m p n _ _ f u R.1 w1 hFz.out f3.out n1.out n2.out)
          rw[hE0]
          clear hE5 hE0
          go_wp2_with (refine wpList_load_row (by rfl) 30 (.tmp 15) (by rfl) g (by rfl) 30 #[.int .u64 (R.1.next:Int),.slice a' R.1.n.length c'] (0,0) _ f1.out Tryz.underlying30 (by rfl) (by kernel_rfl) ?_)
          refine hnx.out.mono ?_
          rintro e w5 ⟨rfl,hF5,hs5⟩
          have hK5:=hid ((hs5.block _ (lt_of_block hKz.out) (by omega) (by omega)).trans hKz.out)
          have hS5:=hid (hSz.out.trans hs5)
          have hop:=hid (Z2S b m p n _ (f.set R.1) u R.2.1 w5 hF5 hp2.out hn)
          clear hs5 hF5 hnx hFz hSz hKz f1 f3
          go_wp2_with fail
          refine hop.out.mono ?_
          rintro e w8 ⟨rfl,hF8,hs8⟩
          have hK9:=hid ((hs8.block _ (lt_of_block hK5.out) (by omega) (by omega)).trans hK5.out)
          have k0:w8.cell? ⟨w.heap.size,0,none⟩=some (.int .i64 0):=Z0 hK9.out 0
          have k1:w8.frozen? ⟨w.heap.size,0,none⟩=false:=Zb hK9.out 0
          have hK3:=hid (Zg hK9.out 0 (.int .i64 0))
          have hF3:=hid (hF8.aside ho1.out hbw hmw (.int .i64 0))
          have hS3:=hid ((hS5.out.trans hs8).aside (Nat.le_refl _) (.int .i64 0))
          clear hK9 hF8 hs8 hop
          go_wp2_with fail
          rw[hE6.out]
          exact Z3f rfl hF3.out hS3.out hK3.out (by simp[go_sem]) rfl rfl
         ·have hE6:Hid (Z13 u f who q name mode open_=(f,0,R.2.2)):=hid (by rw[hE5.out,if_pos hE0])
          have hnx:=hid (Z35 b R.1.next R.2.2 a' R.1.n.length c' w1 hE0)
          clear hE5 hE0
          go_wp2_with (refine wpList_load_row (by rfl) 30 (.tmp 15) (by rfl) g (by rfl) 30 #[.int .u64 (R.1.next:Int),.slice a' R.1.n.length c'] (0,0) _ f1.out Tryz.underlying30 (by rfl) (by kernel_rfl) ?_)
          refine hnx.out.mono ?_
          rintro e w5 ⟨rfl,hb5⟩
          go_wp2_with fail
          rw[hE6.out]
          exact ZU rfl ((hFz.out.below hb5).mono (Nat.le_succ n)) (hSz.out.trans (FStep.pure hb5)) hne.out ((hb5.block _ (lt_of_block hKz.out)).trans hKz.out) hbw hmw (Nat.le_refl _) (by simp[go_sem]) rfl rfl
       ·have hmu:Hid (Calls Tryz.prog 37 #[.bool true,.int .i64 1] w5 fun x w'=>x=.panicked (ZY 1)∧w'=w5):=hid (Z1g 1 w5)
        have k172:(!decide (open_ &&& 172=0))=true:=by simpa using h172
        rw[k172]at hbm
        have hE4:Hid (Z13 u f who q name mode open_=(f,0,1)):=hid (by rw[hE3.out,if_pos (.inr h172)])
        clear hE3 hbt h172 k172
        go_wp2_with fail
        refine hbi.out.mono ?_
        rintro e w6 ⟨rfl,rfl⟩
        go_wp2_with fail
        refine hmu.out.mono ?_
        rintro e w7 ⟨rfl,rfl⟩
        go_wp2_with fail
        rw[hE4.out]
        exact ZU rfl (hF4.out.mono (Nat.le_succ n)) hS4.out hne.out hK4.out hbw hmw (Nat.le_refl _) (by simp[go_sem]) rfl rfl
end Go.Proofs.YtkefjeabckainaaGreat
