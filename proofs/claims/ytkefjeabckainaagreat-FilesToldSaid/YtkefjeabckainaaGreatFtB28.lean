/- The qid of a node, in the program and in the reference. Conditions: numbers in their types. And the texts behind it. -/
import Derived.Test.YtkefjeabckainaaGreatFtB03
import Derived.Test.YtkefjeabckainaaGreatFtB08
import Derived.Test.YtkefjeabckainaaGreatFtB16
import Derived.Test.YtkefjeabckainaaGreatFtB25
import Derived.Test.YtkefjeabckainaaGreatFtB20
import Derived.Test.YtkefjeabckainaaGreatFtB27
namespace Go.Proofs.YtkefjeabckainaaGreat
set_option maxRecDepth 100000
set_option linter.unusedVariables false
section
open Go.RowKit
def Z6v (m:Nat):Nat:=m / 16777216 &&& 224
theorem Zaa (m:Nat) (hm:m<4294967296):bits .and .u8 ((m:Int) / 16777216) 224=((Z6v m:Nat):Int):=by
 rw[show(m:Int) / 16777216=((m / 16777216:Nat):Int) from rfl,show(224:Int)=((224:Nat):Int) from rfl,u8_and_nat _ _ (by omega) (by omega)]
 rfl
theorem Zab (m:Nat) (w:World) (hm:m<4294967296) :
  Calls Tryz.prog 153 #[.int .u32 (m:Int)] w fun e w'=>e=.returned (.int .u8 (Z6v m:Int))∧w'=w:=by
 have hE:=hid (Zaa m hm)
 go_enter Tryz.func153,Tryz.ntmps153
 go_wp2_with fail
 go_ret
 exact⟨Z8F (by rw[hE.out]),rfl⟩
def ZdP (n:Nod):Array Value:=#[.int .u8 (Z6v n.mode:Int),.int .u32 (n.vers:Int),.int .u64 (n.path:Int)]
set_option maxHeartbeats 1600000 in
theorem Z7C (n:Nod) (w:World) (hn:NodOk n) :
  Calls Tryz.prog 104 #[.agg n.cells] w fun e w'=>e=.returned (.agg (ZdP n))∧Below w.heap.size w w':=by
 obtain⟨W,hW⟩ : ∃ W,W=(w.alloc (.cells n.cells 89)).alloc (.cells #[.int .u8 0,.int .u32 0,.int .u64 0] 51):=⟨_,rfl⟩
 have hb0:Below w.heap.size w W:=by rw[hW];exact((Below.refl w.heap.size w).alloc (Nat.le_refl _) _).alloc (by simp) _
 have hx:W.heap[w.heap.size]?=some (.cells n.cells 89 (0,0)):=by rw[hW,heap_alloc_old _ _ (by simp),heap_alloc_new]
 have hy:W.heap[w.heap.size+1]?=some (.cells #[.int .u8 0,.int .u32 0,.int .u64 0] 51 (0,0)):=by
  rw[hW]
  have:=heap_alloc_new (w.alloc (.cells n.cells 89)) (.cells #[.int .u8 0,.int .u32 0,.int .u64 0] 51)
  simpa using this
 have hm:=hn.mode
 rw[Z7]at hx hW ⊢
 have c0:W.drew.cell? ⟨w.heap.size,0,none⟩=some (.int .u64 (n.path:Int)):=Z0 hx 0
 have c1:W.drew.cell? ⟨w.heap.size,1,none⟩=some (.int .u32 (n.vers:Int)):=Z0 hx 1
 have c2:W.drew.cell? ⟨w.heap.size,2,none⟩=some (.int .u32 (n.mode:Int)):=Z0 hx 2
 have g0:W.cell? ⟨w.heap.size+1,0,none⟩=some (.int .u8 0):=Z0 hy 0
 have g1:W.cell? ⟨w.heap.size+1,1,none⟩=some (.int .u32 0):=Z0 hy 1
 have g2:W.cell? ⟨w.heap.size+1,2,none⟩=some (.int .u64 0):=Z0 hy 2
 have f0:W.frozen? ⟨w.heap.size+1,0,none⟩=false:=Zb hy 0
 have f1:W.frozen? ⟨w.heap.size+1,1,none⟩=false:=Zb hy 1
 have f2:W.frozen? ⟨w.heap.size+1,2,none⟩=false:=Zb hy 2
 have ff0:W.drew.frozen? ⟨w.heap.size+1,0,none⟩=false:=f0
 have gg0:W.drew.cell? ⟨w.heap.size+1,0,none⟩=some (.int .u8 0):=g0
 have hz4:=hid (Zg (Zg (Zg hy 0 (.int .u8 (Z6v n.mode:Int))) 1 (.int .u32 (n.vers:Int))) 2 (.int .u64 (n.path:Int)))
 have hzB:=hid (((hb0.setCell (p:=⟨w.heap.size+1,0,none⟩) (by simp) (.int .u8 (Z6v n.mode:Int))).setCell (p:=⟨w.heap.size+1,1,none⟩) (by simp) (.int .u32 (n.vers:Int))).setCell (p:=⟨w.heap.size+1,2,none⟩) (by simp) (.int .u64 (n.path:Int))).drew
 have hx9:Hid ((((W.setCell ⟨w.heap.size+1,0,none⟩ (.int .u8 (Z6v n.mode:Int))).setCell ⟨w.heap.size+1,1,none⟩ (.int .u32 (n.vers:Int))).setCell ⟨w.heap.size+1,2,none⟩ (.int .u64 (n.path:Int))).drew.heap[w.heap.size]?=_):=hid ((Z1 (by show _≠_;simp)).trans ((Z1 (by show _≠_;simp)).trans ((Z1 (by show _≠_;simp)).trans hx)))
 have hqt:=hid (fun W=>Zab n.mode W hm)
 replace hx:=hid hx
 replace hy:=hid hy
 replace hb0:=hid hb0
 replace hn:=hid hn
 go_enter Tryz.func104,Tryz.ntmps104
 go_wp2_with (rw[←hW];replace hW:=hid hW)
 go_region_held3 (fun w'=>w'.cell? ⟨w.heap.size,0,none⟩=some (.int .u64 (n.path:Int))∧w'.cell? ⟨w.heap.size,1,none⟩=some (.int .u32 (n.vers:Int))∧w'.cell? ⟨w.heap.size,2,none⟩=some (.int .u32 (n.mode:Int)))
  (first | exact⟨c0,c1,c2⟩ | exact⟨Z0 hx9.out 0,Z0 hx9.out 1,Z0 hx9.out 2⟩ | go_keep)
  ((go_at_call 153;(with_reducible refine(hqt.out _).mono ?_);rintro e w1 ⟨rfl,rfl⟩))
 clear c0 c1 c2 g0 g1 g2 f0 f1 f2 ff0 gg0
 all_goals
  go_wp2_with fail
  refine bodyPost_ret (results_cell_row rfl _ _ (w.heap.size+1) _ _ _ _ rfl hz4.out Tryz.underlying51 rfl (by kernel_rfl)) rfl ?_
  exact⟨rfl,hzB.out⟩
end
section
open Go.RowKit
def Z1I (n:Nod) (len:Nat):Array Value:=#[.int .u16 0,.int .u32 0,.int .u8 (Z6v n.mode:Int),.int .u32 (n.vers:Int),.int .u64 (n.path:Int),.int .u32 (n.mode:Int),.int .u32 (n.atm:Int),.int .u32 (n.mtm:Int),.int .u64 (len:Int),.string n.name,.string n.uid,.string n.gid,.string n.muid]
theorem Z8o (n:Nod):Tryz.prog.built 53 [(2,.agg (ZdP n)),(3,.int .u32 (n.mode:Int)),(4,.int .u32 (n.atm:Int)),(5,.int .u32 (n.mtm:Int)),(7,.string n.name),(8,.string n.uid),(9,.string n.gid),(10,.string n.muid)]=some (Z1I n 0):=by kernel_rfl
section
variable {o:Oper} {ev:Operand→Value} {w:World}
theorem Z8p {t:TypeId} {parts:Array (Nat×Operand)} {cells:Array Value} (ho:o.op=.build t parts) (hb:Tryz.prog.built t (parts.map fun(i,x)=>(i,ev x)).toList=some cells):(execOp ev o).run Tryz.prog w=.ok (.value (.agg cells)) w:=by
 unfold execOp
 simp only[ho,Sem.run_bind,run_build w t _ cells hb,Result.andThen_ok]
 rfl
theorem Z3k {n:Nod} (ho:o.op=.build 53 #[(2,.tmp 5),(3,.tmp 7),(4,.tmp 9),(5,.tmp 11),(7,.tmp 13),(8,.tmp 15),(9,.tmp 17),(10,.tmp 19)]) (h5:ev (.tmp 5)=.agg (ZdP n)) (h7:ev (.tmp 7)=.int .u32 (n.mode:Int)) (h9:ev (.tmp 9)=.int .u32 (n.atm:Int)) (h11:ev (.tmp 11)=.int .u32 (n.mtm:Int)) (h13:ev (.tmp 13)=.string n.name) (h15:ev (.tmp 15)=.string n.uid) (h17:ev (.tmp 17)=.string n.gid) (h19:ev (.tmp 19)=.string n.muid):(execOp ev o).run Tryz.prog w=.ok (.value (.agg (Z1I n 0))) w:=by
 refine Z8p ho ?_
 simp only[List.map_toArray,List.map_cons,List.map_nil,h5,h7,h9,h11,h13,h15,h17,h19]
 exact Z8o n
end
noncomputable def Zs:Array Oper:=match Tryz.f52.body with | some c=>(Z1i c).getD 1 #[] | none=>#[]
theorem ZE:Zs.size=19:=by kernel_rfl
set_option maxHeartbeats 4000000 in
theorem Zd7 {w1:World} {g r:Nat} {n:Nod} {v0:Value} {Q:Exit→Act→World→Prop} {a:Act} {w:World} (hn:NodOk n) (hg:w1.heap[g]?=some (.cells n.cells 89 (0,0)))
  (hQ : ∀ d u c a w,Q (.panic c) (a.put d u) w→Q (.panic c) a w) (hF:FrL 30 [(1,ptr g 0),(2,ptr r 0),(0,v0)] a) (hS:Below w1.heap.size w1 w)
  (hE : ∀ a w' k,FrL 30 ((3,ptr k 0) :: [(1,ptr g 0),(2,ptr r 0),(0,v0)]) a→Below w1.heap.size w1 w'→w'.heap[k]?=some (.cells (Z1I n 0) 53 (0,0))→w1.heap.size≤k→Q .normal a w') :
  wpAnyH Tryz.prog .any Zs Q (Below w1.heap.size w1) 19 (Array.replicate 19 false) a w:=by
 have hb0 : ∀ w,Below w1.heap.size w1 w→w.heap[g]?=some (.cells n.cells 89 (0,0)):=fun w h=>(h.block _ (lt_of_block hg)).trans hg
 refine hst (i:=0) (o:=Zs[0]'(show 0<Zs.size by rw[ZE];decide)) hF 4 true (.agg n.cells) (Array.getElem?_eq_getElem (show 0<Zs.size by rw[ZE];decide)) (by kernel_rfl) (by decide) (by kernel_rfl) (by kernel_rfl) (by kernel_rfl) (hQ _ _) (Z2 (by kernel_rfl)) (fun hW w hS=>Ze (ty:=89) (x:=.tmp 1) (by kernel_rfl) (hF.ev 1 (ptr g 0) rfl) (Z4R (Z34 (hb0 w hS)))) hS (fun a hF=>?_)
 rw[show cond true (.agg n.cells) undef=.agg n.cells from rfl]at hF
 refine hst (i:=2) (o:=Zs[2]'(show 2<Zs.size by rw[ZE];decide)) hF 6 true (ptr g 2) (Array.getElem?_eq_getElem (show 2<Zs.size by rw[ZE];decide)) (by kernel_rfl) (by decide) (by kernel_rfl) (by kernel_rfl) (by kernel_rfl) (hQ _ _) (Z2 (by kernel_rfl)) (fun hW w hS=>Zo (T:=89) (x:=.tmp 1) (f:=2) (by kernel_rfl) (hF.ev 1 (ptr g 0) rfl) (by kernel_rfl)) hS (fun a hF=>?_)
 rw[show cond true (ptr g 2) undef=ptr g 2 from rfl]at hF
 refine hst (i:=3) (o:=Zs[3]'(show 3<Zs.size by rw[ZE];decide)) hF 7 true (.int .u32 ((n.mode:Nat):Int)) (Array.getElem?_eq_getElem (show 3<Zs.size by rw[ZE];decide)) (by kernel_rfl) (by decide) (by kernel_rfl) (by kernel_rfl) (by kernel_rfl) (hQ _ _) (Z2 (by kernel_rfl)) (fun hW w hS=>Ze (ty:=32) (x:=.tmp 6) (by kernel_rfl) (hF.ev 6 (ptr g 2) rfl) (Z3q (Z0 (hb0 w hS) 2))) hS (fun a hF=>?_)
 rw[show cond true (.int .u32 ((n.mode:Nat):Int)) undef=.int .u32 ((n.mode:Nat):Int) from rfl]at hF
 refine hst (i:=4) (o:=Zs[4]'(show 4<Zs.size by rw[ZE];decide)) hF 8 true (ptr g 3) (Array.getElem?_eq_getElem (show 4<Zs.size by rw[ZE];decide)) (by kernel_rfl) (by decide) (by kernel_rfl) (by kernel_rfl) (by kernel_rfl) (hQ _ _) (Z2 (by kernel_rfl)) (fun hW w hS=>Zo (T:=89) (x:=.tmp 1) (f:=3) (by kernel_rfl) (hF.ev 1 (ptr g 0) rfl) (by kernel_rfl)) hS (fun a hF=>?_)
 rw[show cond true (ptr g 3) undef=ptr g 3 from rfl]at hF
 refine hst (i:=5) (o:=Zs[5]'(show 5<Zs.size by rw[ZE];decide)) hF 9 true (.int .u32 ((n.atm:Nat):Int)) (Array.getElem?_eq_getElem (show 5<Zs.size by rw[ZE];decide)) (by kernel_rfl) (by decide) (by kernel_rfl) (by kernel_rfl) (by kernel_rfl) (hQ _ _) (Z2 (by kernel_rfl)) (fun hW w hS=>Ze (ty:=32) (x:=.tmp 8) (by kernel_rfl) (hF.ev 8 (ptr g 3) rfl) (Z3q (Z0 (hb0 w hS) 3))) hS (fun a hF=>?_)
 rw[show cond true (.int .u32 ((n.atm:Nat):Int)) undef=.int .u32 ((n.atm:Nat):Int) from rfl]at hF
 refine hst (i:=6) (o:=Zs[6]'(show 6<Zs.size by rw[ZE];decide)) hF 10 true (ptr g 4) (Array.getElem?_eq_getElem (show 6<Zs.size by rw[ZE];decide)) (by kernel_rfl) (by decide) (by kernel_rfl) (by kernel_rfl) (by kernel_rfl) (hQ _ _) (Z2 (by kernel_rfl)) (fun hW w hS=>Zo (T:=89) (x:=.tmp 1) (f:=4) (by kernel_rfl) (hF.ev 1 (ptr g 0) rfl) (by kernel_rfl)) hS (fun a hF=>?_)
 rw[show cond true (ptr g 4) undef=ptr g 4 from rfl]at hF
 refine hst (i:=7) (o:=Zs[7]'(show 7<Zs.size by rw[ZE];decide)) hF 11 true (.int .u32 ((n.mtm:Nat):Int)) (Array.getElem?_eq_getElem (show 7<Zs.size by rw[ZE];decide)) (by kernel_rfl) (by decide) (by kernel_rfl) (by kernel_rfl) (by kernel_rfl) (hQ _ _) (Z2 (by kernel_rfl)) (fun hW w hS=>Ze (ty:=32) (x:=.tmp 10) (by kernel_rfl) (hF.ev 10 (ptr g 4) rfl) (Z3q (Z0 (hb0 w hS) 4))) hS (fun a hF=>?_)
 rw[show cond true (.int .u32 ((n.mtm:Nat):Int)) undef=.int .u32 ((n.mtm:Nat):Int) from rfl]at hF
 refine hst (i:=8) (o:=Zs[8]'(show 8<Zs.size by rw[ZE];decide)) hF 12 true (ptr g 5) (Array.getElem?_eq_getElem (show 8<Zs.size by rw[ZE];decide)) (by kernel_rfl) (by decide) (by kernel_rfl) (by kernel_rfl) (by kernel_rfl) (hQ _ _) (Z2 (by kernel_rfl)) (fun hW w hS=>Zo (T:=89) (x:=.tmp 1) (f:=5) (by kernel_rfl) (hF.ev 1 (ptr g 0) rfl) (by kernel_rfl)) hS (fun a hF=>?_)
 rw[show cond true (ptr g 5) undef=ptr g 5 from rfl]at hF
 refine hst (i:=9) (o:=Zs[9]'(show 9<Zs.size by rw[ZE];decide)) hF 13 true (.string n.name) (Array.getElem?_eq_getElem (show 9<Zs.size by rw[ZE];decide)) (by kernel_rfl) (by decide) (by kernel_rfl) (by kernel_rfl) (by kernel_rfl) (hQ _ _) (Z2 (by kernel_rfl)) (fun hW w hS=>Ze (ty:=9) (x:=.tmp 12) (by kernel_rfl) (hF.ev 12 (ptr g 5) rfl) (Z1k (Z0 (hb0 w hS) 5))) hS (fun a hF=>?_)
 rw[show cond true (.string n.name) undef=.string n.name from rfl]at hF
 refine hst (i:=10) (o:=Zs[10]'(show 10<Zs.size by rw[ZE];decide)) hF 14 true (ptr g 6) (Array.getElem?_eq_getElem (show 10<Zs.size by rw[ZE];decide)) (by kernel_rfl) (by decide) (by kernel_rfl) (by kernel_rfl) (by kernel_rfl) (hQ _ _) (Z2 (by kernel_rfl)) (fun hW w hS=>Zo (T:=89) (x:=.tmp 1) (f:=6) (by kernel_rfl) (hF.ev 1 (ptr g 0) rfl) (by kernel_rfl)) hS (fun a hF=>?_)
 rw[show cond true (ptr g 6) undef=ptr g 6 from rfl]at hF
 refine hst (i:=11) (o:=Zs[11]'(show 11<Zs.size by rw[ZE];decide)) hF 15 true (.string n.uid) (Array.getElem?_eq_getElem (show 11<Zs.size by rw[ZE];decide)) (by kernel_rfl) (by decide) (by kernel_rfl) (by kernel_rfl) (by kernel_rfl) (hQ _ _) (Z2 (by kernel_rfl)) (fun hW w hS=>Ze (ty:=9) (x:=.tmp 14) (by kernel_rfl) (hF.ev 14 (ptr g 6) rfl) (Z1k (Z0 (hb0 w hS) 6))) hS (fun a hF=>?_)
 rw[show cond true (.string n.uid) undef=.string n.uid from rfl]at hF
 refine hst (i:=12) (o:=Zs[12]'(show 12<Zs.size by rw[ZE];decide)) hF 16 true (ptr g 7) (Array.getElem?_eq_getElem (show 12<Zs.size by rw[ZE];decide)) (by kernel_rfl) (by decide) (by kernel_rfl) (by kernel_rfl) (by kernel_rfl) (hQ _ _) (Z2 (by kernel_rfl)) (fun hW w hS=>Zo (T:=89) (x:=.tmp 1) (f:=7) (by kernel_rfl) (hF.ev 1 (ptr g 0) rfl) (by kernel_rfl)) hS (fun a hF=>?_)
 rw[show cond true (ptr g 7) undef=ptr g 7 from rfl]at hF
 refine hst (i:=13) (o:=Zs[13]'(show 13<Zs.size by rw[ZE];decide)) hF 17 true (.string n.gid) (Array.getElem?_eq_getElem (show 13<Zs.size by rw[ZE];decide)) (by kernel_rfl) (by decide) (by kernel_rfl) (by kernel_rfl) (by kernel_rfl) (hQ _ _) (Z2 (by kernel_rfl)) (fun hW w hS=>Ze (ty:=9) (x:=.tmp 16) (by kernel_rfl) (hF.ev 16 (ptr g 7) rfl) (Z1k (Z0 (hb0 w hS) 7))) hS (fun a hF=>?_)
 rw[show cond true (.string n.gid) undef=.string n.gid from rfl]at hF
 refine hst (i:=14) (o:=Zs[14]'(show 14<Zs.size by rw[ZE];decide)) hF 18 true (ptr g 8) (Array.getElem?_eq_getElem (show 14<Zs.size by rw[ZE];decide)) (by kernel_rfl) (by decide) (by kernel_rfl) (by kernel_rfl) (by kernel_rfl) (hQ _ _) (Z2 (by kernel_rfl)) (fun hW w hS=>Zo (T:=89) (x:=.tmp 1) (f:=8) (by kernel_rfl) (hF.ev 1 (ptr g 0) rfl) (by kernel_rfl)) hS (fun a hF=>?_)
 rw[show cond true (ptr g 8) undef=ptr g 8 from rfl]at hF
 refine hst (i:=15) (o:=Zs[15]'(show 15<Zs.size by rw[ZE];decide)) hF 19 true (.string n.muid) (Array.getElem?_eq_getElem (show 15<Zs.size by rw[ZE];decide)) (by kernel_rfl) (by decide) (by kernel_rfl) (by kernel_rfl) (by kernel_rfl) (hQ _ _) (Z2 (by kernel_rfl)) (fun hW w hS=>Ze (ty:=9) (x:=.tmp 18) (by kernel_rfl) (hF.ev 18 (ptr g 8) rfl) (Z1k (Z0 (hb0 w hS) 8))) hS (fun a hF=>?_)
 rw[show cond true (.string n.muid) undef=.string n.muid from rfl]at hF
 refine wpAnyH_all (rs:=[1,17]) (by kernel_rfl) (by simp) fun j hj=>?_
 have hj2:j=1∨j=17:=by simpa using hj
 rcases hj2 with rfl | rfl
 ·skip
  refine Z80 (i:=1) (o:=Zs[1]'(show 1<Zs.size by rw[ZE];decide)) (R:=fun v w'=>v=.agg (ZdP n)∧Below w.heap.size w w') hF 5 (Array.getElem?_eq_getElem (show 1<Zs.size by rw[ZE];decide)) (by kernel_rfl) (by decide) (Z2 (by kernel_rfl)) ⟨104,#[.agg n.cells],Z1a (fn:=104) (t:=89) rfl (by kernel_rfl) (by kernel_rfl) (hF.ev 4 _ rfl),(Z7C n w hn).mono (by rintro e w' ⟨rfl,hb⟩;exact⟨_,rfl,rfl,hb⟩)⟩ ?_
  rintro _ a wc ⟨rfl,hb⟩ hF
  replace hS:=hS.trans (hb.mono hS.size)
  refine⟨hS,?_⟩
  clear hb
  refine hst (i:=16) (o:=Zs[16]'(show 16<Zs.size by rw[ZE];decide)) hF 20 true (.agg (Z1I n 0)) (Array.getElem?_eq_getElem (show 16<Zs.size by rw[ZE];decide)) (by kernel_rfl) (by decide) (by kernel_rfl) (by kernel_rfl) (by kernel_rfl) (hQ _ _) (Z2 (by kernel_rfl)) (fun hW w hS=>Z3k (by kernel_rfl) (hF.ev 5 _ rfl) (hF.ev 7 _ rfl) (hF.ev 9 _ rfl) (hF.ev 11 _ rfl) (hF.ev 13 _ rfl) (hF.ev 15 _ rfl) (hF.ev 17 _ rfl) (hF.ev 19 _ rfl)) hS (fun a hF=>?_)
  rw[show cond true (Value.agg (Z1I n 0)) undef=.agg (Z1I n 0) from rfl]at hF
  refine wpAnyH_all (rs:=[17]) (by kernel_rfl) (by simp) fun j hj=>?_
  obtain rfl:j=17:=by simpa using hj
  refine hdo (i:=17) (o:=Zs[17]'(show 17<Zs.size by rw[ZE];decide)) hF 3 (ptr wc.heap.size 0) (wc.alloc (.cells #[.int .u16 0,.int .u32 0,.int .u8 0,.int .u32 0,.int .u64 0,.int .u32 0,.int .u32 0,.int .u32 0,.int .u64 0,.string ⟨#[]⟩,.string ⟨#[]⟩,.string ⟨#[]⟩,.string ⟨#[]⟩] 53)) (Array.getElem?_eq_getElem (show 17<Zs.size by rw[ZE];decide)) (by kernel_rfl) (by decide) (Z2 (by kernel_rfl)) (Z1t (t:=53) (z:=.agg #[.int .u16 0,.int .u32 0,.int .u8 0,.int .u32 0,.int .u64 0,.int .u32 0,.int .u32 0,.int .u32 0,.int .u64 0,.string ⟨#[]⟩,.string ⟨#[]⟩,.string ⟨#[]⟩,.string ⟨#[]⟩]) (by kernel_rfl) (by kernel_rfl)) (fun a hF=>?_)
  have gA:=hS.size
  have fA:=heap_alloc_new wc (.cells #[.int .u16 0,.int .u32 0,.int .u8 0,.int .u32 0,.int .u64 0,.int .u32 0,.int .u32 0,.int .u32 0,.int .u64 0,.string ⟨#[]⟩,.string ⟨#[]⟩,.string ⟨#[]⟩,.string ⟨#[]⟩] 53)
  replace hS:=hS.alloc hS.size (.cells #[.int .u16 0,.int .u32 0,.int .u8 0,.int .u32 0,.int .u64 0,.int .u32 0,.int .u32 0,.int .u32 0,.int .u64 0,.string ⟨#[]⟩,.string ⟨#[]⟩,.string ⟨#[]⟩,.string ⟨#[]⟩] 53)
  refine⟨hS,?_⟩
  generalize wc.alloc (.cells #[.int .u16 0,.int .u32 0,.int .u8 0,.int .u32 0,.int .u64 0,.int .u32 0,.int .u32 0,.int .u32 0,.int .u64 0,.string ⟨#[]⟩,.string ⟨#[]⟩,.string ⟨#[]⟩,.string ⟨#[]⟩] 53)=wa at hS fA ⊢
  generalize wc.heap.size=k at gA fA hF
  refine wpAnyH_all (rs:=[18]) (by kernel_rfl) (by simp) fun j hj=>?_
  obtain rfl:j=18:=by simpa using hj
  refine Z6Y (o:=Zs[18]'(show 18<Zs.size by rw[ZE];decide)) (wa.setRow k (Z1I n 0)) (Array.getElem?_eq_getElem (show 18<Zs.size by rw[ZE];decide)) (by kernel_rfl) (Z2 (by kernel_rfl)) (Z1u (t:=53) (x:=.tmp 3) (y:=.tmp 20) (by kernel_rfl) (hF.ev 3 _ rfl) (hF.ev 20 _ rfl) fA (by kernel_rfl) rfl (by kernel_rfl)) ?_
  have hS2:=below_setRow (g:=k) hS gA (Z1I n 0)
  refine⟨hS2,?_⟩
  exact wpAnyH_done (by kernel_rfl) (hE _ _ k (hF.sub ((3,ptr k 0) :: [(1,ptr g 0),(2,ptr r 0),(0,v0)]) ⟨rfl,rfl,rfl,rfl,trivial⟩) hS2 (setRow_heap wa k _ _ _ _ fA) gA) _
 ·skip
  refine hdo (i:=17) (o:=Zs[17]'(show 17<Zs.size by rw[ZE];decide)) hF 3 (ptr w.heap.size 0) (w.alloc (.cells #[.int .u16 0,.int .u32 0,.int .u8 0,.int .u32 0,.int .u64 0,.int .u32 0,.int .u32 0,.int .u32 0,.int .u64 0,.string ⟨#[]⟩,.string ⟨#[]⟩,.string ⟨#[]⟩,.string ⟨#[]⟩] 53)) (Array.getElem?_eq_getElem (show 17<Zs.size by rw[ZE];decide)) (by kernel_rfl) (by decide) (Z2 (by kernel_rfl)) (Z1t (t:=53) (z:=.agg #[.int .u16 0,.int .u32 0,.int .u8 0,.int .u32 0,.int .u64 0,.int .u32 0,.int .u32 0,.int .u32 0,.int .u64 0,.string ⟨#[]⟩,.string ⟨#[]⟩,.string ⟨#[]⟩,.string ⟨#[]⟩]) (by kernel_rfl) (by kernel_rfl)) (fun a hF=>?_)
  have gA:=hS.size
  have fA:=heap_alloc_new w (.cells #[.int .u16 0,.int .u32 0,.int .u8 0,.int .u32 0,.int .u64 0,.int .u32 0,.int .u32 0,.int .u32 0,.int .u64 0,.string ⟨#[]⟩,.string ⟨#[]⟩,.string ⟨#[]⟩,.string ⟨#[]⟩] 53)
  replace hS:=hS.alloc hS.size (.cells #[.int .u16 0,.int .u32 0,.int .u8 0,.int .u32 0,.int .u64 0,.int .u32 0,.int .u32 0,.int .u32 0,.int .u64 0,.string ⟨#[]⟩,.string ⟨#[]⟩,.string ⟨#[]⟩,.string ⟨#[]⟩] 53)
  refine⟨hS,?_⟩
  generalize w.alloc (.cells #[.int .u16 0,.int .u32 0,.int .u8 0,.int .u32 0,.int .u64 0,.int .u32 0,.int .u32 0,.int .u32 0,.int .u64 0,.string ⟨#[]⟩,.string ⟨#[]⟩,.string ⟨#[]⟩,.string ⟨#[]⟩] 53)=wa at hS fA ⊢
  generalize w.heap.size=k at gA fA hF
  refine wpAnyH_all (rs:=[1]) (by kernel_rfl) (by simp) fun j hj=>?_
  obtain rfl:j=1:=by simpa using hj
  refine Z80 (i:=1) (o:=Zs[1]'(show 1<Zs.size by rw[ZE];decide)) (R:=fun v w'=>v=.agg (ZdP n)∧Below wa.heap.size wa w') hF 5 (Array.getElem?_eq_getElem (show 1<Zs.size by rw[ZE];decide)) (by kernel_rfl) (by decide) (Z2 (by kernel_rfl)) ⟨104,#[.agg n.cells],Z1a (fn:=104) (t:=89) rfl (by kernel_rfl) (by kernel_rfl) (hF.ev 4 _ rfl),(Z7C n wa hn).mono (by rintro e w' ⟨rfl,hb⟩;exact⟨_,rfl,rfl,hb⟩)⟩ ?_
  rintro _ a wc ⟨rfl,hb⟩ hF
  replace fA:=(hb.block _ (lt_of_block fA)).trans fA
  replace hS:=hS.trans (hb.mono hS.size)
  refine⟨hS,?_⟩
  clear hb
  refine hst (i:=16) (o:=Zs[16]'(show 16<Zs.size by rw[ZE];decide)) hF 20 true (.agg (Z1I n 0)) (Array.getElem?_eq_getElem (show 16<Zs.size by rw[ZE];decide)) (by kernel_rfl) (by decide) (by kernel_rfl) (by kernel_rfl) (by kernel_rfl) (hQ _ _) (Z2 (by kernel_rfl)) (fun hW w hS=>Z3k (by kernel_rfl) (hF.ev 5 _ rfl) (hF.ev 7 _ rfl) (hF.ev 9 _ rfl) (hF.ev 11 _ rfl) (hF.ev 13 _ rfl) (hF.ev 15 _ rfl) (hF.ev 17 _ rfl) (hF.ev 19 _ rfl)) hS (fun a hF=>?_)
  rw[show cond true (Value.agg (Z1I n 0)) undef=.agg (Z1I n 0) from rfl]at hF
  refine wpAnyH_all (rs:=[18]) (by kernel_rfl) (by simp) fun j hj=>?_
  obtain rfl:j=18:=by simpa using hj
  refine Z6Y (o:=Zs[18]'(show 18<Zs.size by rw[ZE];decide)) (wc.setRow k (Z1I n 0)) (Array.getElem?_eq_getElem (show 18<Zs.size by rw[ZE];decide)) (by kernel_rfl) (Z2 (by kernel_rfl)) (Z1u (t:=53) (x:=.tmp 3) (y:=.tmp 20) (by kernel_rfl) (hF.ev 3 _ rfl) (hF.ev 20 _ rfl) fA (by kernel_rfl) rfl (by kernel_rfl)) ?_
  have hS2:=below_setRow (g:=k) hS gA (Z1I n 0)
  refine⟨hS2,?_⟩
  exact wpAnyH_done (by kernel_rfl) (hE _ _ k (hF.sub ((3,ptr k 0) :: [(1,ptr g 0),(2,ptr r 0),(0,v0)]) ⟨rfl,rfl,rfl,rfl,trivial⟩) hS2 (setRow_heap wc k _ _ _ _ fA) gA) _
end
section
open Go.RowKit
def Z75 (n:Nod):Nat:=if ZF n then 0 else n.data.size
theorem Z4U (n:Nod) (k:Nat):(Z1I n k).all (·.oneCell')=true:=by kernel_rfl
set_option maxHeartbeats 3200000 in
theorem Z6w (n:Nod) (w:World) (hn:NodOk n) (hd:n.data.size≤1000000) :
  Calls Tryz.prog 52 #[.agg n.cells] w fun e w'=>e=.returned (.agg (Z1I n (Z75 n)))∧Below w.heap.size w w':=by
 have mixed:Tryz.prog.follows Departure.mixedOrders=true:=by first | kernel_rfl | decide
 obtain⟨W,hW⟩ : ∃ W,W=(w.alloc (.cells n.cells 89)).alloc (.cells #[.int .u16 0,.int .u32 0,.int .u8 0,.int .u32 0,.int .u64 0,.int .u32 0,.int .u32 0,.int .u32 0,.int .u64 0,.string ⟨#[]⟩,.string ⟨#[]⟩,.string ⟨#[]⟩,.string ⟨#[]⟩] 53):=⟨_,rfl⟩
 have hb0:Below w.heap.size w W:=by rw[hW];exact((Below.refl w.heap.size w).alloc (Nat.le_refl _) _).alloc (by simp) _
 have hN:=hid (show W.heap[w.heap.size]?=some (.cells n.cells 89 (0,0)) by rw[hW,heap_alloc_old _ _ (by simp),heap_alloc_new])
 have hR:=hid (show W.heap[w.heap.size+1]?=some (.cells #[.int .u16 0,.int .u32 0,.int .u8 0,.int .u32 0,.int .u64 0,.int .u32 0,.int .u32 0,.int .u32 0,.int .u64 0,.string ⟨#[]⟩,.string ⟨#[]⟩,.string ⟨#[]⟩,.string ⟨#[]⟩] 53 (0,0)) by rw[hW];exact Z27 _ _ _)
 have hsz:W.heap.size=w.heap.size+2:=by rw[hW];simp
 replace hb0:=hid hb0
 replace hn:=hid hn
 go_enter Tryz.func52,Tryz.ntmps52
 go_upto_region 1 with (rw[←hW];replace hW:=hid hW)
 try (rw[←hW];replace hW:=hid hW)
 go_cut [3] (fun s wx=>∃ k,s=ptr k 0∧Hid (Below W.drew.heap.size W.drew wx∧wx.heap[k]?=some (.cells (Z1I n 0) 53 (0,0))∧W.drew.heap.size≤k))
 case first=>as_aux_lemma =>
  rename_i J K' hJ hK
  refine wp_region_noPanic ?_
  refine wp_region_held (S:=(Below W.drew.heap.size W.drew)) mixed ?_
  refine(show wpAnyH Tryz.prog .any Zs _ _ _ _ _ _→_ from fun h=>h) ?_
  refine Zd7 (w1:=W.drew) (g:=w.heap.size) (r:=w.heap.size+1) (n:=n) hn.out hN.out (fun _ _ _ _ _ h=>h) (FrL.of_all (by rfl) rfl ⟨rfl,rfl,rfl,trivial⟩) (Below.refl _ _) (fun a w' k hF hS hk hge=>?_)
  exact hK _ _ (Met.intro (hJ _ _ ⟨ptr k 0,a.tmps.getD 4 undef,a.tmps.getD 5 undef,a.tmps.getD 6 undef,a.tmps.getD 7 undef,a.tmps.getD 8 undef,a.tmps.getD 9 undef,a.tmps.getD 10 undef,a.tmps.getD 11 undef,a.tmps.getD 12 undef,a.tmps.getD 13 undef,a.tmps.getD 14 undef,a.tmps.getD 15 undef,a.tmps.getD 16 undef,a.tmps.getD 17 undef,a.tmps.getD 18 undef,a.tmps.getD 19 undef,a.tmps.getD 20 undef,a.tmps.getD 21 undef,a.tmps.getD 22 undef,a.tmps.getD 23 undef,a.tmps.getD 24 undef,a.tmps.getD 25 undef,a.tmps.getD 26 undef,a.tmps.getD 27 undef,a.tmps.getD 28 undef,a.tmps.getD 29 undef,⟨k,rfl,hid ⟨hS,hk,hge⟩⟩,Z1n hF _ (by rfl) ⟨hF.get 0 _ rfl,hF.get 1 _ rfl,hF.get 2 _ rfl,hF.get 3 _ rfl,hF.any 4 (by decide),hF.any 5 (by decide),hF.any 6 (by decide),hF.any 7 (by decide),hF.any 8 (by decide),hF.any 9 (by decide),hF.any 10 (by decide),hF.any 11 (by decide),hF.any 12 (by decide),hF.any 13 (by decide),hF.any 14 (by decide),hF.any 15 (by decide),hF.any 16 (by decide),hF.any 17 (by decide),hF.any 18 (by decide),hF.any 19 (by decide),hF.any 20 (by decide),hF.any 21 (by decide),hF.any 22 (by decide),hF.any 23 (by decide),hF.any 24 (by decide),hF.any 25 (by decide),hF.any 26 (by decide),hF.any 27 (by decide),hF.any 28 (by decide),hF.any 29 (by decide),trivial⟩⟩))
 case rest =>
  obtain⟨k,rfl,hC⟩:=hcut
  obtain⟨hb,hk,hge⟩:=hC.out
  unfold ptr
  have hge2:w.heap.size+2≤k:=by have:W.drew.heap.size=W.heap.size:=rfl;omega
  have hB:=hid (hb0.out.drew.trans (hb.mono (show w.heap.size≤W.drew.heap.size from by have:W.drew.heap.size=W.heap.size:=rfl;omega)))
  have hN2:=hid ((hb.block _ (show w.heap.size<W.drew.heap.size from lt_of_block hN.out)).trans hN.out)
  have hR2:=hid ((hb.block _ (show w.heap.size+1<W.drew.heap.size from lt_of_block hR.out)).trans hR.out)
  have hdir:=hid (Z3E n wc hn.out)
  obtain⟨bD,hbD⟩ : ∃ b,b=ZF n:=⟨_,rfl⟩
  rw[←hbD]at hdir
  replace hbD:=hid hbD
  replace hk:=hid hk
  clear hC hb hN hR hge
  go_wp2_with (refine wpList_load_row (by rfl) 89 (.tmp 1) (by rfl) w.heap.size (by rfl) 89 n.cells (0,0) _ hN2.out Tryz.underlying89 (by rfl) (by kernel_rfl) ?_)
  refine hdir.out.mono ?_
  rintro e w3 ⟨rfl,hb3⟩
  have hB3:=hid (sn hB.out hb3)
  have hk3:=hid ((hb3.block _ (lt_of_block hk.out)).trans hk.out)
  have hN3:=hid ((hb3.block _ (lt_of_block hN2.out)).trans hN2.out)
  have hR3:=hid ((hb3.block _ (lt_of_block hR2.out)).trans hR2.out)
  clear hdir hb3 hk hN2 hR2 hB
  cases bD with
  | true =>
   have hL:=hid (show Z75 n=0 by unfold Z75;rw[←hbD.out];rfl)
   have hF:=hid (setRow_heap w3 (w.heap.size+1) _ (Z1I n 0) _ _ hR3.out)
   have hBF:=hid (below_setRow (g:=w.heap.size+1) hB3.out (by omega) (Z1I n 0))
   go_wp2_with (first
    |(refine wpList_load_row (by rfl) 53 (.tmp 3) (by rfl) k (by rfl) 53 (Z1I n 0) (0,0) _ hk3.out Tryz.underlying53 (by rfl) (by kernel_rfl) ?_)
    |(refine wpList_store_row (by rfl) 53 (.tmp 2) (.tmp 29) (by rfl) (w.heap.size+1) (Z1I n 0) (by rfl) (by rfl) 53 _ hR3.out (by kernel_rfl) (by kernel_rfl) (Z4U n 0) ?_))
   refine bodyPost_ret (results_cell_row rfl _ _ (w.heap.size+1) _ _ _ _ rfl hF.out Tryz.underlying53 rfl (by kernel_rfl)) rfl ?_
   exact⟨by rw[hL.out],hBF.out⟩
  | false =>
   have hL:=hid (show Z75 n=n.data.size by unfold Z75;rw[←hbD.out];rfl)
   have z11:w3.cell? ⟨w.heap.size,11,none⟩=some (.string n.data):=Z0 hN3.out 11
   have y8:w3.cell? ⟨k,8,none⟩=some (.int .u64 0):=Z0 hk3.out 8
   have y8f:w3.frozen? ⟨k,8,none⟩=false:=Zb hk3.out 8
   have cv:IntKind.u64.wrap ((n.data.size:Nat):Int)=((n.data.size:Nat):Int):=IntWalk.u64_in _ (by omega)
   obtain⟨X,hX⟩ : ∃ X,X=w3.setCell ⟨k,8,none⟩ (.int .u64 (n.data.size:Int)):=⟨_,rfl⟩
   have hkX:=hid (show X.heap[k]?=some (.cells (Z1I n n.data.size) 53 (0,0)) by rw[hX];exact Zg hk3.out 8 _)
   have hRX:=hid (show X.heap[w.heap.size+1]?=some (.cells #[.int .u16 0,.int .u32 0,.int .u8 0,.int .u32 0,.int .u64 0,.int .u32 0,.int .u32 0,.int .u32 0,.int .u64 0,.string ⟨#[]⟩,.string ⟨#[]⟩,.string ⟨#[]⟩,.string ⟨#[]⟩] 53 (0,0)) by rw[hX];exact(Z1 (by show w.heap.size+1≠k;omega)).trans hR3.out)
   have hBX:=hid (show Below w.heap.size w X by rw[hX];exact hB3.out.setCell (p:=⟨k,8,none⟩) (by show w.heap.size≤k;omega) _)
   have hF:=hid (setRow_heap X (w.heap.size+1) _ (Z1I n n.data.size) _ _ hRX.out)
   have hBF:=hid (below_setRow (g:=w.heap.size+1) hBX.out (by omega) (Z1I n n.data.size))
   go_wp2_with (first
    |(rw[←hX];replace hX:=hid hX)
    |(refine wpList_load_row (by rfl) 53 (.tmp 3) (by rfl) k (by rfl) 53 (Z1I n n.data.size) (0,0) _ hkX.out Tryz.underlying53 (by rfl) (by kernel_rfl) ?_)
    |(refine wpList_store_row (by rfl) 53 (.tmp 2) (.tmp 29) (by rfl) (w.heap.size+1) (Z1I n n.data.size) (by rfl) (by rfl) 53 _ hRX.out (by kernel_rfl) (by kernel_rfl) (Z4U n _) ?_))
   refine bodyPost_ret (results_cell_row rfl _ _ (w.heap.size+1) _ _ _ _ rfl hF.out Tryz.underlying53 rfl (by kernel_rfl)) rfl ?_
   exact⟨by rw[hL.out],hBF.out⟩
end
section
open Go.RowKit Go.Maps
theorem Zd8:ElemOk Tryz.prog 42 53 13 112:=Z2l (z:=.agg #[.int .u16 0,.int .u32 0,.int .u8 0,.int .u32 0,.int .u64 0,.int .u32 0,.int .u32 0,.int .u32 0,.int .u64 0,.string ⟨#[]⟩,.string ⟨#[]⟩,.string ⟨#[]⟩,.string ⟨#[]⟩]) Tryz.underlying42 (by kernel_rfl) rfl (by decide)
def Z3T (n:Nod):Array Value:=Z1I n (Z75 n)
theorem ZbB (n:Nod) : ∀ u∈(Z3T n).toList,u.oneCell'=true:=fun u hu=>(Array.all_eq_true_iff_forall_mem.1 (Z4U n (Z75 n))) u (by simpa[Z3T] using hu)
def Z47 (l:List Nod):List Value:=l.flatMap fun n=>(Z3T n).toList
theorem Z6x (l:List Nod) (n:Nod):Z47 (l++[n])=Z47 l++(Z3T n).toList:=by simp[Z47]
def Z1P (w:World) (v:Value) (l:List Nod):Prop:=Z2w w 13 v l.length (Z47 l)
theorem Z1P.below {w w':World} {v:Value} {l:List Nod} (h:Z1P w v l) (hb:Below w.heap.size w w'):Z1P w' v l:=Z2w.below h hb
theorem Z1P.other {w w':World} {v:Value} {l:List Nod} (h:Z1P w v l) (z:Nat) (hz:v.ownBlock≠some z) (hs:w.heap.size≤w'.heap.size) (hk : ∀ k,k≠z→w'.heap[k]?=w.heap[k]?):Z1P w' v l:=by
 obtain⟨hl,a,c,hv,h1,h2,h3,h4⟩:=h
 refine⟨hl,a,c,hv,h1,h2,h3,fun i u hu=>?_⟩
 obtain⟨b,o,ha,hc⟩:=h4 i u hu
 refine⟨b,o,ha,?_⟩
 subst hv ha
 rw[World.cell?_of_block (w:=w) (hk b (fun e=>hz (by rw[←e];rfl)))]
 exact hc
theorem Z1P.of_own {w:World} {base e n:Nat} {v:Value} {l:List Nod} (h:w.ownsRow base e 13 v n (Z47 l)) (hn:n=l.length):Z1P w v l:=by
 subst hn
 exact(Z15.of_own h).weak
def Z2X (f:FsV) (q:Nat):Nat:=match ZM f.t.n q with | none=>6 | some d=>if d.gone then 6 else if ZF d=false then 13 else 0
def Zd9 (b m p n:Nat) (f:FsV) (u:Usr) (q:Nat) (w:World) (e:Ending) (w':World):Prop:=∃ v ks,e=.returned (.tuple #[v,.int .i64 (Z2X f q:Int)])∧(∃ v',FSo w' b m v' p f u n)∧FStep b m w w'∧((Z2X f q=0∧Z1P w' v ks∧Srt Z25 ks∧ks.Perm (Z1r f.t.n q))∨(Z2X f q≠0∧v=.slice none 0 0))
theorem Z4V {fn:Func} {s t:Tmp} (hres:fn.results=#[.tmp s,.cell t 33]) {tmps:Array Value} {b m p n k E q:Nat} {a:Option Addr} {l c:Nat} {y:Value} {f:FsV} {u:Usr} {w0 w:World} {fv:Fn} {cap:Array Value} (hE:Z2X f q=E) (hE0:E≠0) (h:FSo w b m (.slice a l c) p f u n) (hS:FStep b m w0 w) (hne:f.t.n≠[]) (hk:w.heap[k]?=some (.cells #[y] 33 (0,0))) (hbk:b<k) (hmk:m<k) (hk0:w0.heap.size≤k)
  (hi:(invoke (.fn fv cap) #[.pointer (some ⟨b,0,none⟩),.agg #[.int .u64 (f.t.next:Int),.slice a l c],.pointer (some ⟨k,0,none⟩)]).run Tryz.prog w=.ok (.enter 35 #[.pointer (some ⟨b,0,none⟩),.agg #[.int .u64 (f.t.next:Int),.slice a l c],.pointer (some ⟨k,0,none⟩)]) w)
  (hs:tmps.getD s undef=.slice none 0 0) (ht:tmps.getD t undef=.pointer (some ⟨k,0,none⟩)) :
  Leaves Tryz.prog fn tmps (Zd9 b m p n f u q w0) [{target:=.fn fv cap,args:=#[.pointer (some ⟨b,0,none⟩),.agg #[.int .u64 (f.t.next:Int),.slice a l c],.pointer (some ⟨k,0,none⟩)]}] (.panicking (ZY E)) w :=
 Z4q h hk hbk hi ⟨_,Z3e hres _ _ k _ _ hs ht (Z1T (Z3Q hk hbk)),_,[],by rw[hE],⟨_,h.back hne hk hbk hmk⟩,hS.back hk0 _ _ _,.inr ⟨by rw[hE];exact hE0,rfl⟩⟩
theorem ZbC {fn:Func} {s t:Tmp} (hres:fn.results=#[.tmp s,.cell t 33]) {tmps:Array Value} {b m p n k next q:Nat} {a:Option Addr} {l c:Nat} {v x:Value} {f:FsV} {u:Usr} {ks:List Nod} {w0 w:World} {fv:Fn} {cap:Array Value} (hE:Z2X f q=0) (hst:Z1P w x ks) (hsr:Srt Z25 ks) (hpm:ks.Perm (Z1r f.t.n q)) (h:FSo w b m v p f u n) (hS:FStep b m w0 w) (hk:w.heap[k]?=some (.cells #[.int .i64 0] 33 (0,0)))
  (hi:(invoke (.fn fv cap) #[.pointer (some ⟨b,0,none⟩),.agg #[.int .u64 (next:Int),.slice a l c],.pointer (some ⟨k,0,none⟩)]).run Tryz.prog w=.ok (.enter 35 #[.pointer (some ⟨b,0,none⟩),.agg #[.int .u64 (next:Int),.slice a l c],.pointer (some ⟨k,0,none⟩)]) w)
  (hs:tmps.getD s undef=x) (ht:tmps.getD t undef=.pointer (some ⟨k,0,none⟩)) :
  Leaves Tryz.prog fn tmps (Zd9 b m p n f u q w0) [{target:=.fn fv cap,args:=#[.pointer (some ⟨b,0,none⟩),.agg #[.int .u64 (next:Int),.slice a l c],.pointer (some ⟨k,0,none⟩)]}] .returning w:=by
 have hA:=(Below.refl w.heap.size w).alloc (Nat.le_refl _) (.cells #[.int .u64 (next:Int),.slice a l c] 30)
 exact Z5X hi ⟨_,Z3e hres _ _ k _ _ hs ht (Z1T (Z0 ((hA.block _ (lt_of_block hk)).trans hk) 0)),x,ks,by rw[hE];rfl,⟨_,h.below hA⟩,hS.trans (FStep.pure hA),.inl ⟨hE,hst.below hA,hsr,hpm⟩⟩
set_option maxHeartbeats 1600000 in
theorem Z6y (b m p n:Nat) (v:Value) (f:FsV) (u:Usr) (q:Nat) (w:World) (h:FSo w b m v p f u n) (ht:TrOk f.t.n) (hne:f.t.n≠[]) :
  Calls Tryz.prog 15 #[.pointer (some ⟨b,0,none⟩),.int .u64 (q:Int)] w (Zd9 b m p n f u q w):=by
 have mixed:Tryz.prog.follows Departure.mixedOrders=true:=by first | kernel_rfl | decide
 obtain⟨a0,c0,rfl,g1,g2⟩:=h.row.form
 obtain⟨W,hW⟩ : ∃ W,W=w.alloc (.cells #[.int .i64 0] 33):=⟨_,rfl⟩
 have hb0:Below w.heap.size w W:=by rw[hW];exact(Below.refl _ _).alloc (Nat.le_refl _) _
 have hK0:=hid (show W.heap[w.heap.size]?=some (.cells #[.int .i64 0] 33 (0,0)) by rw[hW];exact heap_alloc_new _ _)
 have hF0:=hid (h.below hb0)
 have hS0:=hid (FStep.pure (b:=b) (m:=m) hb0)
 have hbw:=lt_of_block h.blk
 have hmw:=h.map.lt
 have q0:=Z0 hF0.out.blk 0
 have q1:=Z0 hF0.out.blk 1
 have hlt0:=hid (lt_of_block hK0.out)
 replace hne:=hid hne
 clear h hb0
 cases hg:ZM f.t.n q with
 | none =>
  have hE:Z2X f q=6:=by unfold Z2X;rw[hg]
  have hli:=hid (Z5U b m p n _ f u q W hF0.out ht hg)
  replace hE:=hid hE
  clear hg
  go_enter_defers Tryz.func15,Tryz.ntmps15
  go_wp2_with (rw[←hW];replace hW:=hid hW)
  try (rw[←hW];replace hW:=hid hW)
  refine hli.out.mono ?_
  rintro e w1 ⟨rfl,hb1⟩
  go_wp2_with fail
  exact Z4V rfl hE.out (by decide) (hF0.out.below hb1) (hS0.out.trans (FStep.pure hb1)) hne.out ((hb1.block _ hlt0.out).trans hK0.out) hbw hmw (Nat.le_refl _) (by simp[go_sem]) rfl rfl
 | some d =>
  cases hgo:d.gone with
  | true =>
   have hE:Z2X f q=6:=by unfold Z2X;rw[hg];simp only;rw[if_pos hgo]
   have hli:=hid (Z44 b m p n _ f u q d W hF0.out ht hg hgo)
   replace hE:=hid hE
   clear hg hgo
   go_enter_defers Tryz.func15,Tryz.ntmps15
   go_wp2_with (rw[←hW];replace hW:=hid hW)
   try (rw[←hW];replace hW:=hid hW)
   refine hli.out.mono ?_
   rintro e w1 ⟨rfl,hb1⟩
   go_wp2_with fail
   exact Z4V rfl hE.out (by decide) (hF0.out.below hb1) (hS0.out.trans (FStep.pure hb1)) hne.out ((hb1.block _ hlt0.out).trans hK0.out) hbw hmw (Nat.le_refl _) (by simp[go_sem]) rfl rfl
  | false =>
   have hE:Hid (Z2X f q=if ZF d=false then 13 else 0):=hid (by unfold Z2X;rw[hg];simp only;rw[if_neg (by rw[hgo];decide)])
   have hli:=hid (Z5T b m p n _ f u q d W hF0.out ht hg hgo)
   have hdk:=ht.ok d (Zr hg).1
   clear hg hgo
   have hdi:=hid (fun X=>Z5I d X hdk)
   replace hdk:=hid hdk
   go_enter_defers Tryz.func15,Tryz.ntmps15
   go_wp2_with (rw[←hW];replace hW:=hid hW)
   try (rw[←hW];replace hW:=hid hW)
   refine hli.out.mono ?_
   rintro e w1 ⟨rfl,hb1⟩
   go_wp2_with fail
   refine(hdi.out _).mono ?_
   rintro e w2 ⟨rfl,hb2⟩
   have hbb:=sn hb1 hb2
   have hF2:=hid (hF0.out.below hbb)
   have hS2:=hid (hS0.out.trans (FStep.pure hbb))
   have hK2:=hid ((hbb.block _ hlt0.out).trans hK0.out)
   clear hb1 hb2 hbb q0 q1 hli hdi hF0 hS0 hK0 hlt0
   cases hdd:ZF d with
   | false =>
    have hmu:Hid (Calls Tryz.prog 37 #[.bool true,.int .i64 13] w2 fun x w'=>x=.panicked (ZY 13)∧w'=w2):=hid (Z1g 13 w2)
    have hE2:=hid (show Z2X f q=13 by rw[hE.out,if_pos hdd])
    clear hdd hE
    go_wp2_with fail
    refine hmu.out.mono ?_
    rintro e w3 ⟨rfl,rfl⟩
    go_wp2_with fail
    exact Z4V rfl hE2.out (by decide) hF2.out hS2.out hne.out hK2.out hbw hmw (Nat.le_refl _) (by simp[go_sem]) rfl rfl
   | true =>
    have hmu:Hid (Calls Tryz.prog 37 #[.bool false,.int .i64 13] w2 fun x w'=>x=.returned (.tuple #[])∧w'=w2):=hid (Z1h 13 w2)
    have hE2:=hid (show Z2X f q=0 by rw[hE.out,if_neg (by rw[hdd];decide)])
    have r0:w2.cell? ⟨b,0,none⟩=some (.int .u64 (f.t.next:Int)):=Z0 hF2.out.blk 0
    have r1:w2.cell? ⟨b,1,none⟩=some (.slice a0 f.t.n.length c0):=Z0 hF2.out.blk 1
    have hki:=Z7u _ f.t.next f.t.n q w2 hF2.out.row ht.sort (by have:=ht.few;omega)
    unfold Z7t at hki
    replace hki:=hid hki
    clear hdd hE
    go_wp2_with fail
    refine hmu.out.mono ?_
    rintro e w3 ⟨rfl,rfl⟩
    go_wp2_with fail
    refine hki.out.mono ?_
    rintro e wk ⟨vk,ks,rfl,hvk,hbk,hsk,hpk⟩
    have hlen:ks.length≤80:=by rw[hpk.length_eq];exact Nat.le_trans (List.length_filter_le _ _) ht.few
    have hmem : ∀ x∈ks,x∈f.t.n:=fun x hx=>(List.mem_filter.1 (hpk.mem_iff.1 hx)).1
    obtain⟨ak,ck,rfl,gk1,gk2⟩:=hvk.form
    unfold maxLen at gk2
    have hFk:=hid (hF2.out.below hbk)
    have hSk:=hid (hS2.out.trans (FStep.pure hbk))
    have hKk:=hid ((hbk.block _ (lt_of_block hK2.out)).trans hK2.out)
    have hltk:=hid (lt_of_block hKk.out)
    replace hvk:=hid hvk
    replace hsk:=hid hsk
    replace hpk:=hid hpk
    replace hmem:=hid hmem
    clear hbk hki hmu r0 r1 hF2 hS2 hK2
    go_wp2_with fail
    go_loopw [4,26] (fun ov kv wr=>∃ (k m:Nat),k≤ks.length∧kv=.int .i64 (k:Int)∧Hid (Below wk.heap.size wk wr)∧m=k∧Hid (wr.ownsRow wk.heap.size 53 13 ov m (Z47 (ks.take k)))) (fun _ kv _=>ks.length - (intOf kv).toNat)
    case atStart=>exact⟨0,0,by omega,rfl,hid (Below.refl _ _),rfl,hid (World.ownsRow_nil _ _ _ _)⟩
    case round =>
     obtain⟨k,m,hk,rfl,hB,hm,hown⟩:=hrel
     obtain⟨oa,oc,rfl⟩:=Z1V hown.out
     by_cases hkl:k<ks.length
     ·obtain⟨bb,o,ha,hr⟩:=(hvk.out.below hB.out).range k hkl
      subst ha
      have hst:=hid (show Z47 (ks.take (k+1))=Z47 (ks.take k)++(Z3T ks[k]).toList by rw[List.take_succ_eq_append_getElem hkl,Z6x])
      have hxm:=hmem.out _ (List.getElem_mem hkl)
      have hxk:=ht.ok _ hxm
      have hxd:=ht.len _ hxm
      generalize ks[k]=x at *
      have hnew:=hid (heap_alloc_new wr (.cells Zk.cells 89))
      obtain⟨W3,hW3⟩ : ∃ W,W=Z1J wr x:=⟨_,rfl⟩
      have hb3:Below wr.heap.size wr W3:=by rw[hW3];exact ZD _ _
      have hn3:=hid (show W3.heap[wr.heap.size]?=some (.cells x.cells 89 (0,0)) by rw[hW3];exact ZK _ _)
      have hB3:=hid (sn hB.out hb3)
      have hown3:=hid (ZT hown.out hb3)
      have hns:=Z6w x W3 hxk (by omega)
      unfold Z1I at hns
      replace hns:=hid hns
      unfold Z1J at hW3
      rw[Zc]at hW3 hnew
      replace hr:=hid hr
      have hm80:m≤80:=by omega
      replace hm:=hid hm
      clear hb3 hB hown hxm hxk hxd
      go_wp2_with (first
       |(refine Zx (by rfl) 89 (.tmp 28) (by rfl) bb (o+k * 12) (by rfl) x.cells _ hr.out Tryz.underlying89 (by rfl) (by kernel_rfl) ?_)
       |(refine wpList_store_row (by rfl) 89 (.tmp 7) (.tmp 29) (by rfl) wr.heap.size x.cells (by rfl) (by rfl) 89 _ hnew.out (by kernel_rfl) (by kernel_rfl) (Zw x) ?_)
       |(rw[←hW3];replace hW3:=hid hW3)
       |(refine wpList_load_row (by rfl) 89 (.tmp 7) (by rfl) wr.heap.size (by rfl) 89 x.cells (0,0) _ hn3.out Tryz.underlying89 (by rfl) (by kernel_rfl) ?_))
      refine hns.out.mono ?_
      rintro e w4 ⟨rfl,hb4⟩
      have hB4:=hid (sn hB3.out hb4)
      have hown4:=hid (ZT hown3.out hb4)
      obtain⟨W5,hW5⟩ : ∃ W,W=w4.alloc (.cells (Z3T x) 53):=⟨_,rfl⟩
      have hn5:=hid (show W5.heap[w4.heap.size]?=some (.cells (Z3T x) 53 (0,0)) by rw[hW5,heap_alloc_new])
      have hB5:=hid (show Below wk.heap.size wk W5 by rw[hW5];exact hB4.out.alloc hB4.out.size _)
      have hown5:=hid (show W5.ownsRow wk.heap.size 53 13 (.slice oa m oc) m (Z47 (ks.take k)) by rw[hW5];exact hown4.out.alloc _)
      clear hb4 hns hr hnew hn3 hB3 hown3 hB4 hown4
      generalize wr.heap.size=z at *
      unfold Z3T Z1I at hW5
      go_wp2_with (first
       |(rw[←hW5];replace hW5:=hid hW5)
       |(at_builtin;refine Z1q Zd8 _ rfl (.tmp 30) (.tmp 33) rfl wk.heap.size (.slice oa m oc) m (Z47 (ks.take k)) rfl hown5.out (.slice (some ⟨w4.heap.size,0,none⟩) 1 1) 1 (Z3T x).toList rfl (Z15.of_block hn5.out rfl (by unfold maxLen;omega)) (ZbB x) (by unfold maxLen;omega) (by omega) hB5.out.size ?_))
      intro a' c' w' h2 h3
      have hB6:=hid (hB5.out.grown h3 hB5.out.size (fun j hj=>(hown5.out.lt j hj).1))
      have hown6:=hid (show w'.ownsRow wk.heap.size 53 13 (.slice a' (m+1) c') (m+1) (Z47 (ks.take (k+1))) by rw[hst.out];exact h2)
      clear h2 h3 hown5 hB5
      go_wp2_with fail
      go_roundw
      case rel=>exact⟨k+1,m+1,by omega,by go_num,hB6,by have:=hm.out;omega,hown6⟩
      case measure=>simp[intOf];omega
     ·obtain rfl:k=ks.length:=by omega
      have hown2:=hown.out
      rw[List.take_length]at hown2
      have hst:=hid (Z1P.of_own hown2 hm)
      have hoz:=hid (show(Value.slice oa m oc).ownBlock≠some w.heap.size from fun e=>by have:=(hown2.lt _ e).1;have:=hltk.out;omega)
      have hFz:=hid (hFk.out.below hB.out)
      have hSz:=hid (hSk.out.trans (FStep.pure hB.out))
      have hKz:=hid ((hB.out.block _ hltk.out).trans hKk.out)
      have hho:=hid (Z2V hFz.out.row hne.out hKz.out (by show 1<12;omega))
      have k0:wr.cell? ⟨w.heap.size,0,none⟩=some (.int .i64 0):=Z0 hKz.out 0
      have k1:wr.frozen? ⟨w.heap.size,0,none⟩=false:=Zb hKz.out 0
      have hK7:=hid (Zg hKz.out 0 (.int .i64 0))
      have hF7:=hid (hFz.out.aside hho.out hbw hmw (.int .i64 0))
      have hS7:=hid (hSz.out.aside (Nat.le_refl _) (.int .i64 0))
      have hst7:=hid (show Z1P (wr.setCell ⟨w.heap.size,0,none⟩ (.int .i64 0)) (.slice oa m oc) ks from hst.out.other w.heap.size hoz.out (by simp[World.setCell]) (fun k hk=>Z1 hk))
      clear hown hown2
      go_wp2_with fail
      exact ZbC rfl hE2.out hst7.out hsk.out hpk.out hF7.out hS7.out hK7.out (by simp[go_sem]) rfl rfl
end
end Go.Proofs.YtkefjeabckainaaGreat
