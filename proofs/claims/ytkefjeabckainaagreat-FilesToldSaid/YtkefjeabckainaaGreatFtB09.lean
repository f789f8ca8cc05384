/- touched, apart, may, file, filled of package tree. Conditions: numbers in their types, the list sorted where a path is looked up. And the texts behind it. -/
import Derived.Test.YtkefjeabckainaaGreatFtB08
import Derived.Test.YtkefjeabckainaaGreatFtB02
import Derived.Deep.OwnRows
namespace Go.Proofs.YtkefjeabckainaaGreat
set_option maxRecDepth 100000
set_option linter.unusedVariables false
section
open Go.RowKit
set_option maxHeartbeats 1600000 in
theorem Z3p (n:Nod) (who:ByteArray) (now:Nat) (w:World) (hn:NodOk n) :
  Calls Tryz.prog 93 #[.agg n.cells,.string who,.int .u32 (now:Int)] w fun e w'=>e=.returned (.agg (ZW n who now).cells)∧Below w.heap.size w w':=by
 obtain⟨W,hW⟩ : ∃ W,W=(w.alloc (.cells n.cells 89)).alloc (.cells Zk.cells 89):=⟨_,rfl⟩
 have hb0:Below w.heap.size w W:=by rw[hW];exact((Below.refl w.heap.size w).alloc (Nat.le_refl _) _).alloc (by simp) _
 have hx0:W.heap[w.heap.size]?=some (.cells n.cells 89 (0,0)):=by rw[hW,heap_alloc_old _ _ (by simp),heap_alloc_new]
 have hy0:W.heap[w.heap.size+1]?=some (.cells Zk.cells 89 (0,0)):=by rw[hW];exact Z27 _ _ _
 have c1:W.cell? ⟨w.heap.size,1,none⟩=some (.int .u32 (n.vers:Int)):=Z0 hx0 1
 have c4:W.cell? ⟨w.heap.size,4,none⟩=some (.int .u32 (n.mtm:Int)):=Z0 hx0 4
 have c8:W.cell? ⟨w.heap.size,8,none⟩=some (.string n.muid):=Z0 hx0 8
 have f1:W.frozen? ⟨w.heap.size,1,none⟩=false:=Zb hx0 1
 have f4:W.frozen? ⟨w.heap.size,4,none⟩=false:=Zb hx0 4
 have f8:W.frozen? ⟨w.heap.size,8,none⟩=false:=Zb hx0 8
 obtain⟨m,hm⟩ : ∃ m,m=(n.vers+1) % 4294967296:=⟨_,rfl⟩
 have kw:((n.vers:Int)+1) % 4294967296=(m:Int):=by omega
 obtain⟨X,hX⟩ : ∃ X,X=((W.setCell ⟨w.heap.size,1,none⟩ (.int .u32 (m:Int))).setCell ⟨w.heap.size,4,none⟩ (.int .u32 (now:Int))).setCell ⟨w.heap.size,8,none⟩ (.string who):=⟨_,rfl⟩
 have hXx:Hid (X.heap[w.heap.size]?=some (.cells (ZW n who now).cells 89 (0,0))):=hid (by rw[hX,hm];exact Zg (Zg (Zg hx0 1 _) 4 _) 8 _)
 have hXy:Hid (X.heap[w.heap.size+1]?=some (.cells Zk.cells 89 (0,0))):=hid (by
  rw[hX]
  exact(Z1 (by show w.heap.size+1≠w.heap.size;omega)).trans ((Z1 (by show w.heap.size+1≠w.heap.size;omega)).trans ((Z1 (by show w.heap.size+1≠w.heap.size;omega)).trans hy0)))
 have hXB:Hid (Below w.heap.size w X):=hid (by rw[hX];exact((hb0.setCell (p:=⟨w.heap.size,1,none⟩) (Nat.le_refl _) _).setCell (p:=⟨w.heap.size,4,none⟩) (Nat.le_refl _) _).setCell (p:=⟨w.heap.size,8,none⟩) (Nat.le_refl _) _)
 replace hb0:=hid hb0
 rw[Zc]at hW
 clear hx0 hy0 hn
 replace hm:=hid hm
 go_enter Tryz.func93,Tryz.ntmps93
 go_upto_region 1 with (rw[←hW];replace hW:=hid hW)
 try (rw[←hW];replace hW:=hid hW)
 go_upto_region 3 with (rw[←hX];replace hX:=hid hX)
 try (rw[←hX];replace hX:=hid hX)
 clear c1 c4 c8 f1 f4 f8 kw
 go_wp2_with (first
  |(refine wpList_load_row (by rfl) 89 (.tmp 3) (by rfl) w.heap.size (by rfl) 89 (ZW n who now).cells (0,0) _ hXx.out Tryz.underlying89 (by rfl) (by kernel_rfl) ?_)
  |(refine wpList_store_row (by rfl) 89 (.tmp 6) (.tmp 15) (by rfl) (w.heap.size+1) (ZW n who now).cells (by rfl) (by rfl) 89 _ hXy.out (by kernel_rfl) (by kernel_rfl) (Zw _) ?_))
 refine bodyPost_ret (results_cell_row rfl _ _ (w.heap.size+1) _ _ _ _ rfl (setRow_heap _ _ _ (ZW n who now).cells _ _ hXy.out) Tryz.underlying89 rfl (by kernel_rfl)) rfl ?_
 exact⟨rfl,below_setRow hXB.out (by omega) _⟩
set_option maxHeartbeats 1600000 in
theorem Z2r (v:Value) (x:Nat) (l:List Nod) (w:World) (hv:Z3 w v l) (hl:l.length≤900) (h1 : ∀ n∈l,1≤n.path) :
  Calls Tryz.prog 91 #[.agg #[.int .u64 (x:Int),v]] w (Z2q w x l):=by
 obtain⟨a,c,rfl,g1,g2⟩:=hv.form
 unfold maxLen at g2
 have hd0:Z1G l 0=l:=List.filter_eq_self.2 fun n hn=>by have:=h1 n hn;simp;omega
 obtain⟨W,hW⟩ : ∃ W,W=(w.alloc (.cells #[.int .u64 (x:Int),.slice a l.length c] 30)).alloc (.cells #[.int .u64 0,.slice none 0 0] 30):=⟨_,rfl⟩
 have hb0:Below w.heap.size w W:=by rw[hW];exact((Below.refl w.heap.size w).alloc (Nat.le_refl _) _).alloc (by simp) _
 have hx0:W.heap[w.heap.size]?=some (.cells #[.int .u64 (x:Int),.slice a l.length c] 30 (0,0)):=by rw[hW,heap_alloc_old _ _ (by simp),heap_alloc_new]
 have hy0:W.heap[w.heap.size+1]?=some (.cells #[.int .u64 0,.slice none 0 0] 30 (0,0)):=by rw[hW];exact Z27 _ _ _
 have hdr:=hid (Z4M _ x l 0 W (hv.below hb0) hl)
 rw[hd0]at hdr
 have e0:=Z0 hx0 0
 have e1:=Z0 hx0 1
 replace hb0:=hid hb0
 replace hx0:=hid hx0
 replace hy0:=hid hy0
 clear hv h1 hd0
 go_enter Tryz.func91,Tryz.ntmps91
 go_wp2_with (rw[←hW];replace hW:=hid hW)
 try (rw[←hW];replace hW:=hid hW)
 refine hdr.out.mono ?_
 rintro e w1 ⟨v1,rfl,hv1,hf1,hb1⟩
 obtain⟨a1,c1,rfl,_,_⟩:=hv1.form
 have hB1:=hid (sn hb0.out hb1)
 have hx1:=hid ((hb1.block _ (lt_of_block hx0.out)).trans hx0.out)
 have hy1:=hid ((hb1.block _ (lt_of_block hy0.out)).trans hy0.out)
 obtain⟨X,hX⟩ : ∃ X,X=w1.alloc (.cells #[.int .u64 (x:Int),.slice a1 l.length c1] 30):=⟨_,rfl⟩
 have hbX:Below w1.heap.size w1 X:=by rw[hX];exact(Below.refl _ _).alloc (Nat.le_refl _) _
 have hzX:X.heap[w1.heap.size]?=some (.cells #[.int .u64 (x:Int),.slice a1 l.length c1] 30 (0,0)):=by rw[hX,heap_alloc_new]
 have hs1:=lt_of_block hy1.out
 have q0:X.cell? ⟨w.heap.size,0,none⟩=some (.int .u64 (x:Int)):=Z0 ((hbX.block _ (lt_of_block hx1.out)).trans hx1.out) 0
 have z0:X.cell? ⟨w1.heap.size,0,none⟩=some (.int .u64 (x:Int)):=Z0 hzX 0
 have y0:X.frozen? ⟨w1.heap.size,0,none⟩=false:=Zb hzX 0
 obtain⟨Y,hY⟩ : ∃ Y,Y=X.setCell ⟨w1.heap.size,0,none⟩ (.int .u64 (x:Int)):=⟨_,rfl⟩
 have hbY:Below w1.heap.size w1 Y:=by rw[hY];exact hbX.setCell (Nat.le_refl _) _
 have hzY:=hid (show Y.heap[w1.heap.size]?=some (.cells #[.int .u64 (x:Int),.slice a1 l.length c1] 30 (0,0)) by rw[hY];exact Zg hzX 0 _)
 have hyY:=hid ((hbY.block _ (lt_of_block hy1.out)).trans hy1.out)
 have hBY:=hid (sn hB1.out hbY)
 have hvY:=hid (hv1.below hbY)
 have hsz0:=hid hb0.out.size
 have hlt0:=hid (lt_of_block hy0.out)
 have hE:=hid (Z3.other (w':=Y.setRow (w.heap.size+1) #[.int .u64 (x:Int),.slice a1 l.length c1]) hvY.out (w.heap.size+1) (fun e=>by have:=hf1 _ e;have:=hlt0.out;omega) (by simp) (fun k hk=>setRow_other _ _ _ _ hk))
 have hF:=hid (show ∀ k,(Value.slice a1 l.length c1).ownBlock=some k→w.heap.size≤k from fun k hk=>Nat.le_trans hsz0.out (hf1 k hk))
 clear e0 e1 hb1 hbX hv1 hzX hf1 hbY
 go_upto_region 2 with (rw[←hX];replace hX:=hid hX)
 try (rw[←hX];replace hX:=hid hX)
 go_upto_region 3 with (rw[←hY];replace hY:=hid hY)
 try (rw[←hY];replace hY:=hid hY)
 clear q0 z0 y0
 go_wp2_with (first
  |(refine wpList_load_row (by rfl) 30 (.tmp 3) (by rfl) w1.heap.size (by rfl) 30 #[.int .u64 (x:Int),.slice a1 l.length c1] (0,0) _ hzY.out Tryz.underlying30 (by rfl) (by kernel_rfl) ?_)
  |(refine wpList_store_row (by rfl) 30 (.tmp 2) (.tmp 9) (by rfl) (w.heap.size+1) #[.int .u64 (x:Int),.slice a1 l.length c1] (by rfl) (by rfl) 30 _ hyY.out (by kernel_rfl) (by kernel_rfl) (by kernel_rfl) ?_))
 refine bodyPost_ret (results_cell_row rfl _ _ (w.heap.size+1) _ _ _ _ rfl (setRow_heap _ _ _ #[.int .u64 (x:Int),.slice a1 l.length c1] _ _ hyY.out) Tryz.underlying30 rfl (by kernel_rfl)) rfl ?_
 exact⟨_,rfl,hE.out,hF.out,below_setRow hBY.out (by omega) _⟩
end
section
open Go.RowKit
def Z2s (l:List Nod) (p:Nat):Nat:=match ZM l p with | none=>6 | some n=>if ZF n then 12 else 0
def Z8D (l:List Nod) (d:Nat) (s:ByteArray) (p:Nat):Nat:=if ZJ s≠0 then ZJ s else if (match Z1F l d s with | some y=>decide (y.path≠p) | none=>false) then 7 else 0
set_option maxHeartbeats 1600000 in
theorem ZaS (v:Value) (x:Nat) (l:List Nod) (d:Nat) (s:ByteArray) (p:Nat) (w:World) (hv:Z3 w v l) (hl:l.length≤900) (hsz:s.size≤maxLen) :
  Calls Tryz.prog 90 #[.agg #[.int .u64 (x:Int),v],.int .u64 (d:Int),.string s,.int .u64 (p:Int)] w fun e w'=>e=.returned (.int .i64 (Z8D l d s p:Int))∧Below w.heap.size w w':=by
 obtain⟨a,c,rfl,g1,g2⟩:=hv.form
 unfold maxLen at g2
 obtain⟨W,hW⟩ : ∃ W,W=w.alloc (.cells #[.int .u64 (x:Int),.slice a l.length c] 30):=⟨_,rfl⟩
 have hb0:Below w.heap.size w W:=by rw[hW];exact(Below.refl w.heap.size w).alloc (Nat.le_refl _) _
 have hx0:W.heap[w.heap.size]?=some (.cells #[.int .u64 (x:Int),.slice a l.length c] 30 (0,0)):=by rw[hW,heap_alloc_new]
 have hv0:=hid (hv.below hb0)
 have hna:=hid (Z5u s W hsz)
 have hfi:=hid (fun X (h:Z3 X (.slice a l.length c) l)=>Z6j _ x l d s X h (by omega))
 replace hb0:=hid hb0
 replace hx0:=hid hx0
 replace hsz:=hid hsz
 clear hv
 go_enter Tryz.func90,Tryz.ntmps90
 go_wp2_with (rw[←hW];replace hW:=hid hW)
 try (rw[←hW];replace hW:=hid hW)
 refine hna.out.mono ?_
 rintro e w1 ⟨rfl,hb1⟩
 have hB1:=hid (sn hb0.out hb1)
 have hx1:=hid ((hb1.block _ (lt_of_block hx0.out)).trans hx0.out)
 have hv1:=hid (hv0.out.below hb1)
 clear hb1 hna hv0
 by_cases h0:ZJ s=0
 case neg =>
  have hM:=hid (show Z8D l d s p=ZJ s by unfold Z8D;rw[if_pos h0])
  have k0:((ZJ s:Int) != 0)=true:=by simpa using h0
  clear h0
  go_wp2_with fail
  go_ret
  exact⟨by rw[hM.out];rfl,hB1.out⟩
 have hM:=hid (show Z8D l d s p=if (match Z1F l d s with | some y=>decide (y.path≠p) | none=>false)=true then 7 else 0 by unfold Z8D;rw[if_neg (by simpa using h0)])
 rw[h0]
 clear h0
 have e0:=Z0 hx1.out 0
 have e1:=Z0 hx1.out 1
 go_wp2_with fail
 refine(hfi.out _ hv1.out).mono ?_
 rintro e w2 ⟨rfl,hb2⟩
 have hB2:=hid (sn hB1.out hb2)
 obtain⟨n,hn⟩ : ∃ n,n=(Z1F l d s).getD Zk:=⟨_,rfl⟩
 have hnew:=hid (heap_alloc_new w2 (.cells Zk.cells 89))
 obtain⟨W3,hW3⟩ : ∃ W,W=Z1J w2 n:=⟨_,rfl⟩
 have hb3:Below w2.heap.size w2 W3:=by rw[hW3];exact ZD _ _
 have hn3:W3.heap[w2.heap.size]?=some (.cells n.cells 89 (0,0)):=by rw[hW3];exact ZK _ _
 have q0:W3.cell? ⟨w2.heap.size,0,none⟩=some (.int .u64 (n.path:Int)):=Z0 hn3 0
 have hB3:=hid (sn hB2.out hb3)
 unfold Z1J at hW3
 rw[Zc]at hW3 hnew
 rw[←hn]
 clear hb2 hb3 hn3 e0 e1 hB1 hB2 hfi
 cases hf:Z1F l d s with
 | none =>
  simp only
  rw[hf]at hn hM
  have hM2:=hid (show Z8D l d s p=0 by rw[hM.out];rfl)
  replace hn:=hid hn
  clear hf hM
  go_wp2_with (first
   |(rw[←hW3];replace hW3:=hid hW3)
   |(refine wpList_store_row (by rfl) 89 (.tmp 10) (.tmp 22) (by rfl) w2.heap.size n.cells (by rfl) (by rfl) 89 _ hnew.out (by kernel_rfl) (by kernel_rfl) (Zw n) ?_))
  go_ret
  exact⟨by rw[hM2.out];rfl,hB3.out⟩
 | some y =>
  rw[hf]at hn hM
  obtain rfl:n=y:=hn
  simp only
  have k1:((n.path:Int) !=(p:Int))=decide (n.path≠p):=by rw[bne,Z2m];simp
  clear hf
  rcases hp:decide (n.path≠p) with _ | _
  ·rw[hp]at k1
   have hM2:=hid (show Z8D l d s p=0 by rw[hM.out,if_neg (by show ¬ decide (n.path≠p)=true;rw[hp];simp)])
   clear hp hM
   go_wp2_with (first
    |(rw[←hW3];replace hW3:=hid hW3)
    |(refine wpList_store_row (by rfl) 89 (.tmp 10) (.tmp 22) (by rfl) w2.heap.size n.cells (by rfl) (by rfl) 89 _ hnew.out (by kernel_rfl) (by kernel_rfl) (Zw n) ?_))
   go_ret
   exact⟨by rw[hM2.out];rfl,hB3.out⟩
  ·rw[hp]at k1
   have hM2:=hid (show Z8D l d s p=7 by rw[hM.out,if_pos (by show decide (n.path≠p)=true;exact hp)])
   clear hp hM
   go_wp2_with (first
    |(rw[←hW3];replace hW3:=hid hW3)
    |(refine wpList_store_row (by rfl) 89 (.tmp 10) (.tmp 22) (by rfl) w2.heap.size n.cells (by rfl) (by rfl) 89 _ hnew.out (by kernel_rfl) (by kernel_rfl) (Zw n) ?_))
   go_ret
   exact⟨by rw[hM2.out];rfl,hB3.out⟩
def ZaT (w:World) (l:List Nod) (p:Nat) (e:Ending) (w':World):Prop:=e=.returned (.tuple #[.agg (Z1M l p).cells,.int .i64 (Z2s l p:Int)])∧Below w.heap.size w w'
set_option maxHeartbeats 1600000 in
theorem Z5G (v:Value) (x:Nat) (l:List Nod) (p:Nat) (w:World) (hv:Z3 w v l) (hs:Z16 l) (hl:l.length≤900) (hok : ∀ n∈l,NodOk n) :
  Calls Tryz.prog 95 #[.agg #[.int .u64 (x:Int),v],.int .u64 (p:Int)] w (ZaT w l p):=by
 obtain⟨a,c,rfl,g1,g2⟩:=hv.form
 unfold maxLen at g2
 obtain⟨W,hW⟩ : ∃ W,W=(w.alloc (.cells #[.int .u64 (x:Int),.slice a l.length c] 30)).alloc (.cells Zk.cells 89):=⟨_,rfl⟩
 have hb0:Below w.heap.size w W:=by rw[hW];exact((Below.refl w.heap.size w).alloc (Nat.le_refl _) _).alloc (by simp) _
 have hx0:W.heap[w.heap.size]?=some (.cells #[.int .u64 (x:Int),.slice a l.length c] 30 (0,0)):=by rw[hW,heap_alloc_old _ _ (by simp),heap_alloc_new]
 have hy0:W.heap[w.heap.size+1]?=some (.cells Zk.cells 89 (0,0)):=by rw[hW];exact Z27 _ _ _
 have hg:=hid (Z22 _ x l p W (hv.below hb0) hs (by omega))
 have e0:=Z0 hx0 0
 have e1:=Z0 hx0 1
 have hN:Hid (∀ y,ZM l p=some y→NodOk y):=hid (fun y hy=>hok y (Zr hy).1)
 replace hb0:=hid hb0
 replace hx0:=hid hx0
 replace hy0:=hid hy0
 rw[Zc]at hW
 clear hv hs hok
 go_enter Tryz.func95,Tryz.ntmps95
 go_upto_region 1 with (rw[←hW];replace hW:=hid hW)
 try (rw[←hW];replace hW:=hid hW)
 go_wp2_with fail
 refine hg.out.mono ?_
 rintro e w2 ⟨rfl,hb2⟩
 have hB2:=hid (sn hb0.out hb2)
 have hy2:=hid ((hb2.block _ (lt_of_block hy0.out)).trans hy0.out)
 obtain⟨n,hn⟩ : ∃ n,n=Z1M l p:=⟨_,rfl⟩
 have hnew:=hid (heap_alloc_new w2 (.cells Zk.cells 89))
 obtain⟨W3,hW3⟩ : ∃ W,W=Z1J w2 n:=⟨_,rfl⟩
 have hb3:Below w2.heap.size w2 W3:=by rw[hW3];exact ZD _ _
 have hn3:=hid (show W3.heap[w2.heap.size]?=some (.cells n.cells 89 (0,0)) by rw[hW3];exact ZK _ _)
 have hy3:=hid ((hb3.block _ (lt_of_block hy2.out)).trans hy2.out)
 have hB3:=hid (sn hB2.out hb3)
 unfold Z1J at hW3
 rw[Zc]at hW3 hnew
 rw[←hn]
 clear hb2 hb3 e0 e1 hB2 hg hy2 hy0 hx0
 cases hf:ZM l p with
 | none =>
  have hF:=hid (show Z2s l p=6 by unfold Z2s;rw[hf])
  simp only
  replace hn:=hid hn
  clear hf
  go_wp2_with (first
   |(rw[←hW3];replace hW3:=hid hW3)
   |(refine wpList_store_row (by rfl) 89 (.tmp 6) (.tmp 12) (by rfl) w2.heap.size n.cells (by rfl) (by rfl) 89 _ hnew.out (by kernel_rfl) (by kernel_rfl) (Zw n) ?_)
   |(refine wpList_load_row (by rfl) 89 (.tmp 6) (by rfl) w2.heap.size (by rfl) 89 n.cells (0,0) _ hn3.out Tryz.underlying89 (by rfl) (by kernel_rfl) ?_)
   |(refine wpList_store_row (by rfl) 89 (.tmp 4) (.tmp 17) (by rfl) (w.heap.size+1) n.cells (by rfl) (by rfl) 89 _ hy3.out (by kernel_rfl) (by kernel_rfl) (Zw n) ?_))
  refine bodyPost_ret (Zy rfl _ _ (w.heap.size+1) _ _ _ _ _ rfl rfl (setRow_heap _ _ _ n.cells _ _ hy3.out) Tryz.underlying89 rfl (by kernel_rfl)) rfl ?_
  exact⟨by rw[hF.out,←hn.out];rfl,below_setRow hB3.out (by omega) _⟩
 | some y =>
  have hyo:=hN.out y hf
  have hny:n=y:=by rw[hn];unfold Z1M;rw[hf];rfl
  subst hny
  have hF:=hid (show Z2s l p=if ZF n then 12 else 0 by unfold Z2s;rw[hf])
  simp only
  have hd:=hid (Z7l n W3 hyo)
  replace hn:=hid hn
  clear hf hyo
  go_wp2_with (first
   |(rw[←hW3];replace hW3:=hid hW3)
   |(refine wpList_store_row (by rfl) 89 (.tmp 6) (.tmp 12) (by rfl) w2.heap.size n.cells (by rfl) (by rfl) 89 _ hnew.out (by kernel_rfl) (by kernel_rfl) (Zw n) ?_)
   |(refine wpList_load_row (by rfl) 89 (.tmp 6) (by rfl) w2.heap.size (by rfl) 89 n.cells (0,0) _ hn3.out Tryz.underlying89 (by rfl) (by kernel_rfl) ?_))
  refine hd.out.mono ?_
  rintro e w4 ⟨rfl,hb4⟩
  have hB4:=hid (sn hB3.out hb4)
  have hy4:=hid ((hb4.block _ (lt_of_block hy3.out)).trans hy3.out)
  have hn4:=hid ((hb4.block _ (lt_of_block hn3.out)).trans hn3.out)
  clear hb4 hd hB3 hy3 hn3 hnew
  generalize w2.heap.size=z at *
  rcases hdb:ZF n with _ | _
  ·rw[hdb]at hF
   clear hdb
   go_wp2_with (first
    |(refine wpList_load_row (by rfl) 89 (.tmp 6) (by rfl) z (by rfl) 89 n.cells (0,0) _ hn4.out Tryz.underlying89 (by rfl) (by kernel_rfl) ?_)
    |(refine wpList_store_row (by rfl) 89 (.tmp 4) (.tmp 22) (by rfl) (w.heap.size+1) n.cells (by rfl) (by rfl) 89 _ hy4.out (by kernel_rfl) (by kernel_rfl) (Zw n) ?_))
   refine bodyPost_ret (Zy rfl _ _ (w.heap.size+1) _ _ _ _ _ rfl rfl (setRow_heap _ _ _ n.cells _ _ hy4.out) Tryz.underlying89 rfl (by kernel_rfl)) rfl ?_
   exact⟨by rw[hF.out,←hn.out];rfl,below_setRow hB4.out (by omega) _⟩
  ·rw[hdb]at hF
   clear hdb
   go_wp2_with (first
    |(refine wpList_load_row (by rfl) 89 (.tmp 6) (by rfl) z (by rfl) 89 n.cells (0,0) _ hn4.out Tryz.underlying89 (by rfl) (by kernel_rfl) ?_)
    |(refine wpList_store_row (by rfl) 89 (.tmp 4) (.tmp 21) (by rfl) (w.heap.size+1) n.cells (by rfl) (by rfl) 89 _ hy4.out (by kernel_rfl) (by kernel_rfl) (Zw n) ?_))
   refine bodyPost_ret (Zy rfl _ _ (w.heap.size+1) _ _ _ _ _ rfl rfl (setRow_heap _ _ _ n.cells _ _ hy4.out) Tryz.underlying89 rfl (by kernel_rfl)) rfl ?_
   exact⟨by rw[hF.out,←hn.out];rfl,below_setRow hB4.out (by omega) _⟩
end
section
open Go.RowKit
theorem Z4o {s:ByteArray} {l:List UInt8} (h:s.data.toList=l):s=Z3t l:=by
 subst h;rfl
theorem Z6T {s:ByteArray} {n:Nat} (h:n≤s.size):s.extract 0 n=Z3t (Z50 s.data.toList n):=by
 refine Z4o ?_
 have hl:s.data.toList.length=s.size:=rfl
 unfold Z50
 rw[show n - s.data.toList.length=0 by omega,List.replicate_zero,List.append_nil]
 simp
theorem Z7U {s:ByteArray} {n:Nat} (h:s.size≤n):s++Z3t (List.replicate (n - s.size) 0)=Z3t (Z50 s.data.toList n):=by
 refine Z4o ?_
 have hl:s.data.toList.length=s.size:=rfl
 unfold Z50
 rw[List.take_of_length_le (by simp;omega)]
 simp[Z3t]
set_option maxHeartbeats 1600000 in
theorem Z3X (s:ByteArray) (n:Nat) (w:World) (hs:s.size≤1000000) (hn:n≤1000000) :
  Calls Tryz.prog 97 #[.string s,.int .i64 (n:Int)] w fun e w'=>e=.returned (.string (Z3t (Z50 s.data.toList n)))∧Below w.heap.size w w':=by
 by_cases h:n≤s.size
 ·have hE:=hid (Z6T h)
  have k1:decide ((n:Int)≤(s.size:Int))=true:=by simp;omega
  go_enter Tryz.func97,Tryz.ntmps97
  go_wp2_with fail
  go_ret
  exact⟨by rw[←hE.out];rfl,Below.refl _ _⟩
 ·have hE:=hid (Z7U (s:=s) (n:=n) (by omega))
  have k1:decide ((n:Int)≤(s.size:Int))=false:=by simp;omega
  obtain⟨m,hm⟩ : ∃ m,m=n - s.size:=⟨_,rfl⟩
  have km:(n:Int) - (s.size:Int)=(m:Int):=by omega
  have hmk:=run_make_row' (P:=Tryz.prog) 226 5 (.int .u8 0) 1 Tryz.underlying226 (by kernel_rfl) rfl .i64 .i64 m (by omega) (by omega) w
  obtain⟨X,hX⟩ : ∃ X,X=w.alloc (.cells (madeCells #[.int .u8 0] m) 5):=⟨_,rfl⟩
  have hB:=hid (show Below w.heap.size w X by rw[hX];exact(Below.refl _ _).alloc (Nat.le_refl _) _)
  have hz:Z1e X (.slice (some ⟨w.heap.size,0,none⟩) m m) (List.replicate m 0):=by
   have h:=Z15.of_block (k:=1) (n:=m) (show X.heap[w.heap.size]?=some (.cells (madeCells #[.int .u8 0] m) 5 (0,0)) by rw[hX,heap_alloc_new]) (by simp[madeCells]) (by unfold maxLen;omega)
   rw[toList_madeCells_one]at h
   have e:List.replicate m (Value.int .u8 0)=(List.replicate m (0:UInt8)).map Z6H:=by rw[List.map_replicate];rfl
   rw[e]at h
   unfold Z1e
   rw[List.length_replicate];exact h
  have hc:=Z6K _ _ _ hz
  obtain⟨z,hzz⟩ : ∃ z,z=Z3t (List.replicate m 0):=⟨_,rfl⟩
  rw[←hzz]at hc
  rw[←hm,←hzz]at hE
  have hzs:z.size=m:=by rw[hzz,Z2F,List.length_replicate]
  have ks:¬ 9223372036854775807<s.size+z.size:=by omega
  clear hzs
  replace hm:=hid hm
  replace hzz:=hid hzz
  replace hX:=hid hX
  rw[←hX.out]at hmk
  clear hz
  go_enter Tryz.func97,Tryz.ntmps97
  go_wp2_with fail
  go_ret
  exact⟨by rw[←hE.out];rfl,hB.out⟩
end
section
open Go.RowKit
structure TrSt (p q r x:Nat) (v:Value) (l:List Nod) (n:Nod) (w:World):Prop where
 tr:w.heap[p]?=some (.cells #[.int .u64 (x:Int),v] 30 (0,0))
 nd:w.heap[q]?=some (.cells n.cells 89 (0,0))
 res:w.heap[r]?=some (.cells #[.int .u64 0,.slice none 0 0] 30 (0,0))
 row:Z3 w v l
theorem TrSt.below {p q r x:Nat} {v:Value} {l:List Nod} {n:Nod} {w w':World} (h:TrSt p q r x v l n w) (hb:Below w.heap.size w w'):TrSt p q r x v l n w' :=
 ⟨(hb.block _ (lt_of_block h.tr)).trans h.tr,(hb.block _ (lt_of_block h.nd)).trans h.nd,(hb.block _ (lt_of_block h.res)).trans h.res,h.row.below hb⟩
theorem TrSt.t0 {p q r x:Nat} {v:Value} {l:List Nod} {n:Nod} {w:World} (h:TrSt p q r x v l n w):w.cell? ⟨p,0,none⟩=some (.int .u64 (x:Int)):=Z0 h.tr 0
theorem TrSt.t1 {p q r x:Nat} {v:Value} {l:List Nod} {n:Nod} {w:World} (h:TrSt p q r x v l n w):w.cell? ⟨p,1,none⟩=some v:=Z0 h.tr 1
theorem TrSt.put {p q r x:Nat} {v:Value} {l:List Nod} {n n2:Nod} {w:World} (h:TrSt p q r x v l n w) (hpq:p≠q) (hrq:r≠q) (i:Nat) (u:Value) (hc:n.cells.setIfInBounds i u=n2.cells) (hrow:Z3 (w.setCell ⟨q,i,none⟩ u) v l):TrSt p q r x v l n2 (w.setCell ⟨q,i,none⟩ u) :=
 ⟨(Z1 (by show p≠q;exact hpq)).trans h.tr,by rw[←hc];exact Zg h.nd i u,(Z1 (by show r≠q;exact hrq)).trans h.res,hrow⟩
theorem ZcF {n:Nod} {X:World} {k:Nat} {T:TypeId} {fr:Nat×Nat} (h:X.heap[k]?=some (.cells n.cells T fr)):X.cell? ⟨k,11,none⟩=some (.string n.data):=Z0 h 11
theorem TrSt.two {p q r x:Nat} {v:Value} {l:List Nod} {n:Nod} {w:World} (h:TrSt p q r x v l n w) (hp:p≠r) (hq:q≠r) (i j:Nat) (u1 u2:Value) :
  ((w.setCell ⟨r,i,none⟩ u1).setCell ⟨r,j,none⟩ u2).heap[p]?=some (.cells #[.int .u64 (x:Int),v] 30 (0,0))∧((w.setCell ⟨r,i,none⟩ u1).setCell ⟨r,j,none⟩ u2).heap[q]?=some (.cells n.cells 89 (0,0)) :=
 ⟨(Z1 (by show p≠r;exact hp)).trans ((Z1 (by show p≠r;exact hp)).trans h.tr),(Z1 (by show q≠r;exact hq)).trans ((Z1 (by show q≠r;exact hq)).trans h.nd)⟩
theorem Zaq {X:World} {k:Nat} {T:TypeId} {u0 u1:Value} {fr:Nat×Nat} (h:X.heap[k]?=some (.cells #[u0,u1] T fr)):X.cell? ⟨k,0,none⟩=some u0∧X.cell? ⟨k,1,none⟩=some u1:=⟨Z0 h 0,Z0 h 1⟩
def Z31 (w:World) (r:Tr×Nat) (e:Ending) (w':World):Prop:=∃ v',e=.returned (.tuple #[.agg #[.int .u64 (r.1.next:Int),v'],.int .i64 (r.2:Int)])∧Z3 w' v' r.1.n∧(∀ k,v'.ownBlock=some k→w.heap.size≤k)∧Below w.heap.size w w'
set_option maxHeartbeats 6400000 in
theorem Z5H (v:Value) (x:Nat) (l:List Nod) (n:Nod) (b who:ByteArray) (now:Nat) (w:World) (hv:Z3 w v l) (hs:Z16 l) (hl:l.length≤900) (hok : ∀ n∈l,NodOk n) (hn:NodOk n) (h1 : ∀ n∈l,1≤n.path) (hd : ∀ n∈l,n.data.size≤1000000) (hin:(ZM l n.path).isSome=true) (hnd:n.data.size≤Z10 l) (hb:b.size≤1000000) :
  Calls Tryz.prog 96 #[.agg #[.int .u64 (x:Int),v],.agg n.cells,.string b,.string who,.int .u32 (now:Int)] w (Z31 w (Z2n ⟨x,l⟩ n b who now)):=by
 obtain⟨a,c,rfl,g1,g2⟩:=hv.form
 unfold maxLen at g2
 obtain⟨W,hW⟩ : ∃ W,W=((w.alloc (.cells #[.int .u64 (x:Int),.slice a l.length c] 30)).alloc (.cells n.cells 89)).alloc (.cells #[.int .u64 0,.slice none 0 0] 30):=⟨_,rfl⟩
 have hb0:Below w.heap.size w W:=by rw[hW];exact(((Below.refl w.heap.size w).alloc (Nat.le_refl _) _).alloc (by simp) _).alloc (by simp;omega) _
 have hS0:TrSt w.heap.size (w.heap.size+1) (w.heap.size+1+1) x (.slice a l.length c) l n W:=by
  refine⟨?_,?_,?_,hv.below hb0⟩
  ·rw[hW,heap_alloc_old _ _ (by simp;omega),heap_alloc_old _ _ (by simp),heap_alloc_new]
  ·rw[hW,heap_alloc_old _ _ (by simp)];exact Z27 _ _ _
  ·rw[hW]
   have:=heap_alloc_new ((w.alloc (.cells #[.int .u64 (x:Int),.slice a l.length c] 30)).alloc (.cells n.cells 89)) (.cells #[.int .u64 0,.slice none 0 0] 30)
   simpa using this
 have hby:=hid (fun X (h:Z3 X (.slice a l.length c) l)=>Z5a _ x l X h (by omega) hd)
 have hap:=hid (fun X (h:Z3 X (.slice a l.length c) l)=>Z2r _ x l X h hl h1)
 have hbl:=Z4J hd
 obtain⟨B,hB⟩ : ∃ B,B=Z10 l:=⟨_,rfl⟩
 rw[←hB]at hnd hby hbl
 have hBle:B≤1000000000:=by omega
 obtain⟨D,hD⟩ : ∃ D,D=B - n.data.size:=⟨_,rfl⟩
 obtain⟨E,hE⟩ : ∃ E,E=D+b.size:=⟨_,rfl⟩
 have k1:IntKind.i64.wrap ((B:Int) - (n.data.size:Int))=(D:Int):=by rw[show(B:Int) - (n.data.size:Int)=(D:Int) by omega];exact IntWalk.i64_in _ (by omega)
 have k2:IntKind.i64.wrap ((D:Int)+(b.size:Int))=(E:Int):=by rw[show(D:Int)+(b.size:Int)=(E:Int) by omega];exact IntWalk.i64_in _ (by omega)
 have hdT:=hid (show Z2n ⟨x,l⟩ n b who now=if 16384<E then(⟨x,l⟩,14) else(⟨x,Z1B l (ZW {n with data:=b} who now)⟩,0) by rw[hE,hD,hB];rfl)
 replace hB:=hid hB
 replace hD:=hid hD
 replace hE:=hid hE
 replace hnd:=hid hnd
 have hA:TrSt w.heap.size (w.heap.size+1) (w.heap.size+1+1) x (.slice a l.length c) l n W.drew:=hS0.below ((Below.refl _ _).drew)
 have q0:W.drew.cell? ⟨w.heap.size,0,none⟩=some (.int .u64 (x:Int)):=hA.t0
 have q1:W.drew.cell? ⟨w.heap.size,1,none⟩=some (.slice a l.length c):=hA.t1
 have q11:W.drew.cell? ⟨w.heap.size+1,11,none⟩=some (.string n.data):=ZcF hA.nd
 have hbd:=hid (sn hb0 ((Below.refl W.heap.size W).drew))
 have hset:=hid (fun X n2 (h:Z3 X (.slice a l.length c) l) (he:n2.path=n.path)=>Z3c _ x l n2 X h hs hl (.inl (by rw[he];exact hin)))
 replace hb0:=hid hb0
 replace hS0:=hid hS0
 replace hv:=hid hv
 clear hs hok h1 hd hbl
 go_enter Tryz.func96,Tryz.ntmps96
 go_upto_region 1 with (rw[←hW];replace hW:=hid hW)
 try (rw[←hW];replace hW:=hid hW)
 go_region_held3 (fun w'=>w'.cell? ⟨w.heap.size,0,none⟩=some (.int .u64 (x:Int))∧w'.cell? ⟨w.heap.size,1,none⟩=some (.slice a l.length c)∧w'.cell? ⟨w.heap.size+1,11,none⟩=some (.string n.data))
  (first | exact⟨hA.t0,hA.t1,ZcF hA.nd⟩ | go_keep)
  ((go_at_call 136;(with_reducible refine(hby.out _ hA.row).mono ?_);rintro e w1 ⟨rfl,hb1⟩;replace hA:=hA.below hb1))
 have hb1':=hid (sn hbd.out hb1)
 clear k1 k2 q0 q1 q11 hb1 hbd hby hS0 hb0
 by_cases hE1:16384<E
 ·have hdE:Hid (Z2n ⟨x,l⟩ n b who now=(⟨x,l⟩,14)):=hid (by rw[hdT.out,if_pos hE1])
  have k3:decide ((16384:Int)<(E:Int))=true:=by simp;omega
  have k4:decide (16384<E)=true:=by simp;omega
  have q0:=hA.t0
  have q1:=hA.t1
  have hapc:=hid (hap.out _ hA.row)
  replace hA:=hid hA
  go_wp2_with fail
  refine hapc.out.mono ?_
  rintro e w2 ⟨v2,rfl,hv2,hf2,hb2⟩
  have hA2:=hid (hA.out.below hb2)
  have hB2:=hid (sn hb1'.out hb2)
  have hres:=hid hA2.out.res
  have hs1:=hid hb1'.out.size
  have hlt:=hid (lt_of_block hA.out.res)
  have hN:=hid (Z3.other (w':=w2.setRow (w.heap.size+1+1) #[.int .u64 (x:Int),v2]) hv2 (w.heap.size+1+1) (fun e=>by have:=hf2 _ e;have:=hlt.out;omega) (by simp) (fun k hk=>setRow_other _ _ _ _ hk))
  have hF:=hid (show ∀ k,v2.ownBlock=some k→w.heap.size≤k from fun k hk=>Nat.le_trans hs1.out (hf2 k hk))
  obtain⟨a2,c2,rfl,_,_⟩:=hv2.form
  clear hb2 hv2 hf2 hapc q0 q1
  go_wp2_with (refine wpList_store_row (by rfl) 30 (.tmp 10) (.tmp 23) (by rfl) (w.heap.size+1+1) #[.int .u64 (x:Int),.slice a2 l.length c2] (by rfl) (by rfl) 30 _ hres.out (by kernel_rfl) (by kernel_rfl) (by kernel_rfl) ?_)
  refine bodyPost_ret (Zy rfl _ _ (w.heap.size+1+1) _ _ _ _ _ rfl rfl (setRow_heap _ _ _ #[.int .u64 (x:Int),.slice a2 l.length c2] _ _ hres.out) Tryz.underlying30 rfl (by kernel_rfl)) rfl ?_
  refine⟨.slice a2 l.length c2,?_,?_,hF.out,below_setRow hB2.out (by omega) _⟩
  ·rw[hdE.out];rfl
  ·rw[hdE.out];exact hN.out
 ·have hdE:Hid (Z2n ⟨x,l⟩ n b who now=(⟨x,Z1B l (ZW {n with data:=b} who now)⟩,0)):=hid (by rw[hdT.out,if_neg hE1])
  have k3:decide ((16384:Int)<(E:Int))=false:=by simp;omega
  have k4:decide (16384<E)=false:=by simp;omega
  obtain⟨n2,hn2⟩ : ∃ n2:Nod,n2={n with data:=b}:=⟨_,rfl⟩
  rw[←hn2]at hdE
  have hn2ok:NodOk n2:=by
   rw[hn2]
   exact⟨hn.path,hn.vers,hn.mode,hn.atm,hn.mtm,hn.name,hn.uid,hn.gid,hn.muid,hn.up,by show b.size≤maxLen;unfold maxLen;omega⟩
  have c11:w1.cell? ⟨w.heap.size+1,11,none⟩=some (.string n.data):=ZcF hA.nd
  have f11:w1.frozen? ⟨w.heap.size+1,11,none⟩=false:=Zb hA.nd 11
  obtain⟨X,hX⟩ : ∃ X,X=w1.setCell ⟨w.heap.size+1,11,none⟩ (.string b):=⟨_,rfl⟩
  have hBX:Below w.heap.size w X:=by rw[hX];exact hb1'.out.setCell (by show w.heap.size≤w.heap.size+1;omega) _
  have hAX:TrSt w.heap.size (w.heap.size+1) (w.heap.size+1+1) x (.slice a l.length c) l n2 X:=by
   have hrow:=hv.out.below hBX
   rw[hX]at hrow ⊢
   exact hA.put (by omega) (by omega) 11 (.string b) (by rw[hn2];rfl) hrow
  have htc:Hid (∀ Z,Calls Tryz.prog 93 #[.agg #[.int .u64 (n2.path:Int),.int .u32 (n2.vers:Int),.int .u32 (n2.mode:Int),.int .u32 (n2.atm:Int),.int .u32 (n2.mtm:Int),.string n2.name,.string n2.uid,.string n2.gid,.string n2.muid,.int .u64 (n2.up:Int),.bool n2.gone,.string n2.data],.string who,.int .u32 (now:Int)] Z fun e w'=>e=.returned (.agg (ZW n2 who now).cells)∧Below Z.heap.size Z w'):=hid (fun Z=>Z3p n2 who now Z hn2ok)
  have hpt:(ZW n2 who now).path=n.path:=by rw[hn2];rfl
  have hst:=hid (fun Z (h:Z3 Z (.slice a l.length c) l)=>hset.out Z (ZW n2 who now) h hpt)
  obtain⟨y,hy⟩ : ∃ y,y=ZW n2 who now:=⟨_,rfl⟩
  rw[←hy]at hst htc hdE
  have hA2:=hAX.below ((Below.refl X.heap.size X).drew)
  obtain⟨d0,d1,d2,d3,d4,d5,d6,d7,d8,d9,d10,d11⟩:=Z4h hA2.nd
  have q0:=hA2.t0
  have q1:=hA2.t1
  have hBd:=hid (sn hBX ((Below.refl X.heap.size X).drew))
  have hBs:=hid hBX.size
  have hE2:(E:Int)≤16384:=by omega
  have hE3:¬ (16384:Int)<(E:Int):=by omega
  clear hdT hset hap hpt hBX hA hn2ok
  replace hAX:=hid hAX
  replace hy:=hid hy
  replace hn2:=hid hn2
  rename_i hHeld
  clear hHeld
  go_wp2_with (rw[←hX];replace hX:=hid hX)
  try (rw[←hX];replace hX:=hid hX)
  clear c11 f11
  have hA:=hA2
  clear hA2 hE1 hE2 hE3
  go_region_held3 (fun w'=>w'.cell? ⟨w.heap.size,0,none⟩=some (.int .u64 (x:Int))∧w'.cell? ⟨w.heap.size,1,none⟩=some (.slice a l.length c)∧w'.cell? ⟨w.heap.size+1,0,none⟩=some (.int .u64 (n2.path:Int))∧w'.cell? ⟨w.heap.size+1,1,none⟩=some (.int .u32 (n2.vers:Int))∧w'.cell? ⟨w.heap.size+1,2,none⟩=some (.int .u32 (n2.mode:Int))∧w'.cell? ⟨w.heap.size+1,3,none⟩=some (.int .u32 (n2.atm:Int))∧w'.cell? ⟨w.heap.size+1,4,none⟩=some (.int .u32 (n2.mtm:Int))∧w'.cell? ⟨w.heap.size+1,5,none⟩=some (.string n2.name)∧w'.cell? ⟨w.heap.size+1,6,none⟩=some (.string n2.uid)∧w'.cell? ⟨w.heap.size+1,7,none⟩=some (.string n2.gid)∧w'.cell? ⟨w.heap.size+1,8,none⟩=some (.string n2.muid)∧w'.cell? ⟨w.heap.size+1,9,none⟩=some (.int .u64 (n2.up:Int))∧w'.cell? ⟨w.heap.size+1,10,none⟩=some (.bool n2.gone)∧w'.cell? ⟨w.heap.size+1,11,none⟩=some (.string n2.data))
   (first | exact⟨hA.t0,hA.t1,Z4h hA.nd⟩ | exact⟨(Zaq (hA.two (by omega) (by omega) 0 1 _ _).1).1,(Zaq (hA.two (by omega) (by omega) 0 1 _ _).1).2,Z4h (hA.two (by omega) (by omega) 0 1 _ _).2⟩ | go_keep)
   (first
    |(go_at_call 93;(with_reducible refine(htc.out _).mono ?_);rintro e w2 ⟨rfl,hb2⟩;replace hA:=hA.below hb2)
    |(go_at_call 92;(with_reducible refine(hst.out _ hA.row).mono ?_);rintro e w3 ⟨v3,rfl,hv3,hf3,hb3⟩;obtain⟨a3,c3,rfl,_,_⟩:=hv3.form;replace hA:=hA.below hb3;have g0:=Z0 hA.res 0;have g1:=Z0 hA.res 1;have e0:=Zb hA.res 0;have e1:=Zb hA.res 1))
  all_goals
   have hzz:=hid (Zg (Zg hA.res 0 (.int .u64 (x:Int))) 1 (.slice a3 (Z1B l y).length c3))
   have hB3:=hid (sn (sn hBd.out hb2) hb3)
   have hB4:=hid ((hB3.out.setCell (p:=⟨w.heap.size+1+1,0,none⟩) (by show w.heap.size≤w.heap.size+1+1;omega) (.int .u64 (x:Int))).setCell (p:=⟨w.heap.size+1+1,1,none⟩) (by show w.heap.size≤w.heap.size+1+1;omega) (.slice a3 (Z1B l y).length c3))
   have hlt:=lt_of_block hAX.out.res
   have hs2:=hb2.size
   have hs3:=hb3.size
   have hN:=hid (Z3.other (w':=(w3.setCell ⟨w.heap.size+1+1,0,none⟩ (.int .u64 (x:Int))).setCell ⟨w.heap.size+1+1,1,none⟩ (.slice a3 (Z1B l y).length c3)) hv3 (w.heap.size+1+1) (fun e=>by have:=hf3 _ e;simp at hs2;omega) (by simp) (fun k hk=>(Z1 (by show k≠_;exact hk)).trans (Z1 (by show k≠_;exact hk))))
   have hF:=hid (show ∀ k,(Value.slice a3 (Z1B l y).length c3).ownBlock=some k→w.heap.size≤k from fun k hk=>by have:=hf3 k hk;simp at hs2;omega)
   clear q0 q1 d0 d1 d2 d3 d4 d5 d6 d7 d8 d9 d10 d11 hb2 hb3 hv3 hf3 hA
   go_wp2_with fail
   refine bodyPost_ret (Zy rfl _ _ (w.heap.size+1+1) _ _ _ _ _ rfl rfl hzz.out Tryz.underlying30 rfl (by kernel_rfl)) rfl ?_
   refine⟨.slice a3 (Z1B l y).length c3,?_,?_,hF.out,hB4.out⟩
   ·rw[hdE.out];rfl
   ·rw[hdE.out];exact hN.out
end
section
open Go.RowKit
structure TrOk (l:List Nod):Prop where
 sort:Z16 l
 few:l.length≤80
 ok : ∀ n∈l,NodOk n
 low : ∀ n∈l,1≤n.path
 len : ∀ n∈l,n.data.size≤5000
theorem Z4N {l:List Nod} {n:Nod} (h:n∈l):n.data.size≤Z10 l:=by
 induction l with
 | nil=>cases h
 | cons a l ih =>
  rw[Z2i]
  rcases List.mem_cons.1 h with e | e
  ·rw[e];omega
  ·have:=ih e;omega
set_option maxHeartbeats 6400000 in
theorem ZaU (v:Value) (x:Nat) (l:List Nod) (p size:Nat) (who:ByteArray) (now:Nat) (w:World) (hv:Z3 w v l) (ht:TrOk l) (hsz:size<18446744073709551616) :
  Calls Tryz.prog 60 #[.agg #[.int .u64 (x:Int),v],.int .u64 (p:Int),.int .u64 (size:Int),.string who,.int .u32 (now:Int)] w (Z31 w (Z2e ⟨x,l⟩ p size who now)):=by
 obtain⟨a,c,rfl,g1,g2⟩:=hv.form
 unfold maxLen at g2
 obtain⟨W,hW⟩ : ∃ W,W=(w.alloc (.cells #[.int .u64 (x:Int),.slice a l.length c] 30)).alloc (.cells #[.int .u64 0,.slice none 0 0] 30):=⟨_,rfl⟩
 have hb0:Below w.heap.size w W:=by rw[hW];exact((Below.refl w.heap.size w).alloc (Nat.le_refl _) _).alloc (by simp) _
 have hx0:W.heap[w.heap.size]?=some (.cells #[.int .u64 (x:Int),.slice a l.length c] 30 (0,0)):=by rw[hW,heap_alloc_old _ _ (by simp),heap_alloc_new]
 have hy0:W.heap[w.heap.size+1]?=some (.cells #[.int .u64 0,.slice none 0 0] 30 (0,0)):=by rw[hW];exact Z27 _ _ _
 have hfi:=hid (Z5G _ x l p W (hv.below hb0) ht.sort (by have:=ht.few;omega) ht.ok)
 have hap:=hid (fun X (h:Z3 X (.slice a l.length c) l)=>Z2r _ x l X h (by have:=ht.few;omega) ht.low)
 have e0:=Z0 hx0 0
 have e1:=Z0 hx0 1
 have hv0:=hid (hv.below hb0)
 replace hb0:=hid hb0
 replace hx0:=hid hx0
 replace hy0:=hid hy0
 go_enter Tryz.func60,Tryz.ntmps60
 go_upto_region 1 with (rw[←hW];replace hW:=hid hW)
 try (rw[←hW];replace hW:=hid hW)
 go_wp2_with fail
 refine hfi.out.mono ?_
 rintro e w2 ⟨rfl,hb2⟩
 have hB2:=hid (sn hb0.out hb2)
 have hs2:=hid (lt_of_block ((hb2.block _ (lt_of_block hy0.out)).trans hy0.out))
 obtain⟨n,hn⟩ : ∃ n,n=Z1M l p:=⟨_,rfl⟩
 have hnew:=hid (heap_alloc_new w2 (.cells Zk.cells 89))
 obtain⟨X,hX⟩ : ∃ W,W=Z1J w2 n:=⟨_,rfl⟩
 have hbX:Below w2.heap.size w2 X:=by rw[hX];exact ZD _ _
 have hBX:=hid (sn hB2.out hbX)
 have hA:TrSt w.heap.size w2.heap.size (w.heap.size+1) x (.slice a l.length c) l n X :=
  ⟨(hbX.block _ (by have:=hs2.out;omega)).trans ((hb2.block _ (lt_of_block hx0.out)).trans hx0.out),by rw[hX];exact ZK _ _,(hbX.block _ hs2.out).trans ((hb2.block _ (lt_of_block hy0.out)).trans hy0.out),(hv0.out.below hb2).below hbX⟩
 have hapc:=hid (hap.out X hA.row)
 have q0:=hA.t0
 have q1:=hA.t1
 unfold Z1J at hX
 rw[Zc]at hX hnew
 rw[←hn]
 clear hb2 hbX hfi hap e0 e1 hB2 hx0 hy0 hv0 hb0
 replace hA:=hid hA
 replace hn:=hid hn
 go_upto_region 2 with (first
  |(rw[←hX];replace hX:=hid hX)
  |(refine wpList_store_row (by rfl) 89 (.tmp 12) (.tmp 18) (by rfl) w2.heap.size n.cells (by rfl) (by rfl) 89 _ hnew.out (by kernel_rfl) (by kernel_rfl) (Zw n) ?_))
 try (rw[←hX];replace hX:=hid hX)
 clear hnew
 generalize w2.heap.size=z at *
 cases hg:ZM l p with
 | none =>
  have hdE:=hid (show Z2e ⟨x,l⟩ p size who now=(⟨x,l⟩,6) by unfold Z2e;rw[hg])
  have hfe:Z2s l p=6:=by unfold Z2s;rw[hg]
  rw[hfe]
  clear hfe hg
  go_wp2_with fail
  refine hapc.out.mono ?_
  rintro e w9 ⟨v9,rfl,hv9,hf9,hb9⟩
  have hres:=hid (hA.out.below hb9).res
  have hB9:=hid (sn hBX.out hb9)
  have hsz:=hid hBX.out.size
  have hlt:=hid (lt_of_block hA.out.res)
  have hN:=hid (Z3.other (w':=w9.setRow (w.heap.size+1) #[.int .u64 (x:Int),v9]) hv9 (w.heap.size+1) (fun e=>by have:=hf9 _ e;have:=hlt.out;omega) (by simp) (fun k hk=>setRow_other _ _ _ _ hk))
  have hF:=hid (show ∀ k,v9.ownBlock=some k→w.heap.size≤k from fun k hk=>Nat.le_trans hsz.out (hf9 k hk))
  obtain⟨a9,c9,rfl,_,_⟩:=hv9.form
  clear hb9 hv9 hf9 hapc q0 q1
  go_wp2_with (refine wpList_store_row (by rfl) 30 (.tmp 10) (.tmp 29) (by rfl) (w.heap.size+1) #[.int .u64 (x:Int),.slice a9 l.length c9] (by rfl) (by rfl) 30 _ hres.out (by kernel_rfl) (by kernel_rfl) (by kernel_rfl) ?_)
  refine bodyPost_ret (Zy rfl _ _ (w.heap.size+1) _ _ _ _ _ rfl rfl (setRow_heap _ _ _ #[.int .u64 (x:Int),.slice a9 l.length c9] _ _ hres.out) Tryz.underlying30 rfl (by kernel_rfl)) rfl ?_
  refine⟨.slice a9 l.length c9,?_,?_,hF.out,below_setRow hB9.out (by omega) _⟩
  ·rw[hdE.out];rfl
  ·rw[hdE.out];exact hN.out
 | some y =>
  have hny:n=y:=by rw[hn.out];unfold Z1M;rw[hg];rfl
  subst hny
  obtain⟨hmem,hpath⟩:=Zr hg
  cases hdb:ZF n with
  | true =>
   have hdE:=hid (show Z2e ⟨x,l⟩ p size who now=(⟨x,l⟩,12) by unfold Z2e;rw[hg];simp only;rw[hdb];rfl)
   have hfe:Z2s l p=12:=by unfold Z2s;rw[hg];simp only;rw[hdb];rfl
   rw[hfe]
   clear hfe hg hdb
   go_wp2_with fail
   refine hapc.out.mono ?_
   rintro e w9 ⟨v9,rfl,hv9,hf9,hb9⟩
   have hres:=hid (hA.out.below hb9).res
   have hB9:=hid (sn hBX.out hb9)
   have hsz:=hid hBX.out.size
   have hlt:=hid (lt_of_block hA.out.res)
   have hN:=hid (Z3.other (w':=w9.setRow (w.heap.size+1) #[.int .u64 (x:Int),v9]) hv9 (w.heap.size+1) (fun e=>by have:=hf9 _ e;have:=hlt.out;omega) (by simp) (fun k hk=>setRow_other _ _ _ _ hk))
   have hF:=hid (show ∀ k,v9.ownBlock=some k→w.heap.size≤k from fun k hk=>Nat.le_trans hsz.out (hf9 k hk))
   obtain⟨a9,c9,rfl,_,_⟩:=hv9.form
   clear hb9 hv9 hf9 hapc q0 q1
   go_wp2_with (refine wpList_store_row (by rfl) 30 (.tmp 10) (.tmp 29) (by rfl) (w.heap.size+1) #[.int .u64 (x:Int),.slice a9 l.length c9] (by rfl) (by rfl) 30 _ hres.out (by kernel_rfl) (by kernel_rfl) (by kernel_rfl) ?_)
   refine bodyPost_ret (Zy rfl _ _ (w.heap.size+1) _ _ _ _ _ rfl rfl (setRow_heap _ _ _ #[.int .u64 (x:Int),.slice a9 l.length c9] _ _ hres.out) Tryz.underlying30 rfl (by kernel_rfl)) rfl ?_
   refine⟨.slice a9 l.length c9,?_,?_,hF.out,below_setRow hB9.out (by omega) _⟩
   ·rw[hdE.out];rfl
   ·rw[hdE.out];exact hN.out
  | false =>
   have hfe:Z2s l p=0:=by unfold Z2s;rw[hg];simp only;rw[hdb];rfl
   have hdT:=hid (show Z2e ⟨x,l⟩ p size who now=if 4096<size then(⟨x,l⟩,3) else Z2n ⟨x,l⟩ n (Z3t (Z50 n.data.data.toList size)) who now by unfold Z2e;rw[hg];simp only;rw[hdb];rfl)
   rw[hfe]
   by_cases h4:4096<size
   ·have hdE:=hid (show Z2e ⟨x,l⟩ p size who now=(⟨x,l⟩,3) by rw[hdT.out,if_pos h4])
    have h5:(4096:Int)<(size:Int):=by omega
    clear hfe hg hdb
    go_wp2_with fail
    refine hapc.out.mono ?_
    rintro e w9 ⟨v9,rfl,hv9,hf9,hb9⟩
    have hres:=hid (hA.out.below hb9).res
    have hB9:=hid (sn hBX.out hb9)
    have hsz:=hid hBX.out.size
    have hlt:=hid (lt_of_block hA.out.res)
    have hN:=hid (Z3.other (w':=w9.setRow (w.heap.size+1) #[.int .u64 (x:Int),v9]) hv9 (w.heap.size+1) (fun e=>by have:=hf9 _ e;have:=hlt.out;omega) (by simp) (fun k hk=>setRow_other _ _ _ _ hk))
    have hF:=hid (show ∀ k,v9.ownBlock=some k→w.heap.size≤k from fun k hk=>Nat.le_trans hsz.out (hf9 k hk))
    obtain⟨a9,c9,rfl,_,_⟩:=hv9.form
    clear hb9 hv9 hf9 hapc q0 q1
    go_wp2_with (refine wpList_store_row (by rfl) 30 (.tmp 10) (.tmp 29) (by rfl) (w.heap.size+1) #[.int .u64 (x:Int),.slice a9 l.length c9] (by rfl) (by rfl) 30 _ hres.out (by kernel_rfl) (by kernel_rfl) (by kernel_rfl) ?_)
    refine bodyPost_ret (Zy rfl _ _ (w.heap.size+1) _ _ _ _ _ rfl rfl (setRow_heap _ _ _ #[.int .u64 (x:Int),.slice a9 l.length c9] _ _ hres.out) Tryz.underlying30 rfl (by kernel_rfl)) rfl ?_
    refine⟨.slice a9 l.length c9,?_,?_,hF.out,below_setRow hB9.out (by omega) _⟩
    ·rw[hdE.out];rfl
    ·rw[hdE.out];exact hN.out
   ·have hdE:=hid (show Z2e ⟨x,l⟩ p size who now=Z2n ⟨x,l⟩ n (Z3t (Z50 n.data.data.toList size)) who now by rw[hdT.out,if_neg h4])
    have h5:(size:Int)≤4096:=by omega
    have h6:¬ (4096:Int)<(size:Int):=by omega
    have hnok:=ht.ok n hmem
    have hnl:=ht.len n hmem
    have hfil:=hid (fun Z=>Z3X n.data size Z (by omega) (by omega))
    have hdat:Hid (∀ Z b,Z3 Z (.slice a l.length c) l→b.size≤1000000→Calls Tryz.prog 96 #[.agg #[.int .u64 (x:Int),.slice a l.length c],.agg #[.int .u64 (n.path:Int),.int .u32 (n.vers:Int),.int .u32 (n.mode:Int),.int .u32 (n.atm:Int),.int .u32 (n.mtm:Int),.string n.name,.string n.uid,.string n.gid,.string n.muid,.int .u64 (n.up:Int),.bool n.gone,.string n.data],.string b,.string who,.int .u32 (now:Int)] Z (Z31 Z (Z2n ⟨x,l⟩ n b who now))):=hid (fun Z b h hb=>Z5H _ x l n b who now Z h ht.sort (by have:=ht.few;omega) ht.ok hnok ht.low (fun m hm=>by have:=ht.len m hm;omega) (by rw[hpath,hg];rfl) (Z4N hmem) hb)
    clear hfe hdb hapc hdT hg
    have hbs:(Z3t (Z50 n.data.data.toList size)).size≤1000000:=by rw[Z2F,Z21];omega
    obtain⟨nb,hnb⟩ : ∃ nb,nb=Z3t (Z50 n.data.data.toList size):=⟨_,rfl⟩
    rw[←hnb]at hfil hdE hbs
    obtain⟨r,hr⟩ : ∃ r,r=Z2n ⟨x,l⟩ n nb who now:=⟨_,rfl⟩
    replace hdat:=hid (fun Z (h:Z3 Z (.slice a l.length c) l)=>hdat.out Z nb h hbs)
    rw[←hr]at hdE hdat
    replace hr:=hid hr
    replace hbs:=hid hbs
    replace hnb:=hid hnb
    replace hmem:=hid hmem
    replace hpath:=hid hpath
    replace ht:=hid ht
    replace hv:=hid hv
    replace hnok:=hid hnok
    have ksz:IntKind.i64.wrap (size:Int)=(size:Int):=IntWalk.i64_in _ (by omega)
    go_wp2_with fail
    clear h4 h5 h6 q0 q1
    have hzX:=hid (lt_of_block hA.out.res)
    have hA:=hA.out.below ((Below.refl X.heap.size X).drew)
    have q0:=hA.t0
    have q1:=hA.t1
    obtain⟨d0,d1,d2,d3,d4,d5,d6,d7,d8,d9,d10,d11⟩:=Z4h hA.nd
    have hBd:=hid (sn hBX.out ((Below.refl X.heap.size X).drew))
    go_region_held3 (fun w'=>w'.cell? ⟨w.heap.size,0,none⟩=some (.int .u64 (x:Int))∧w'.cell? ⟨w.heap.size,1,none⟩=some (.slice a l.length c)∧w'.cell? ⟨z,0,none⟩=some (.int .u64 (n.path:Int))∧w'.cell? ⟨z,1,none⟩=some (.int .u32 (n.vers:Int))∧w'.cell? ⟨z,2,none⟩=some (.int .u32 (n.mode:Int))∧w'.cell? ⟨z,3,none⟩=some (.int .u32 (n.atm:Int))∧w'.cell? ⟨z,4,none⟩=some (.int .u32 (n.mtm:Int))∧w'.cell? ⟨z,5,none⟩=some (.string n.name)∧w'.cell? ⟨z,6,none⟩=some (.string n.uid)∧w'.cell? ⟨z,7,none⟩=some (.string n.gid)∧w'.cell? ⟨z,8,none⟩=some (.string n.muid)∧w'.cell? ⟨z,9,none⟩=some (.int .u64 (n.up:Int))∧w'.cell? ⟨z,10,none⟩=some (.bool n.gone)∧w'.cell? ⟨z,11,none⟩=some (.string n.data))
     (first | exact⟨hA.t0,hA.t1,Z4h hA.nd⟩ | exact⟨(Zaq (hA.two (by omega) (by have:=hs2.out;omega) 0 1 _ _).1).1,(Zaq (hA.two (by omega) (by have:=hs2.out;omega) 0 1 _ _).1).2,Z4h (hA.two (by omega) (by have:=hs2.out;omega) 0 1 _ _).2⟩ | go_keep)
     (first
      |(go_at_call 97;(with_reducible refine(hfil.out _).mono ?_);rintro e w4 ⟨rfl,hb2⟩;replace hA:=hA.below hb2)
      |(go_at_call 96;(with_reducible refine(hdat.out _ hA.row).mono ?_);rintro e w3 ⟨v3,rfl,hv3,hf3,hb3⟩;obtain⟨a3,c3,rfl,_,_⟩:=hv3.form;replace hA:=hA.below hb3;have g0:=Z0 hA.res 0;have g1:=Z0 hA.res 1;have e0:=Zb hA.res 0;have e1:=Zb hA.res 1))
    all_goals
     have hzz:=hid (Zg (Zg hA.res 0 (.int .u64 (r.1.next:Int))) 1 (.slice a3 r.1.n.length c3))
     have hs3:=hb2.size
     have hB3:=hid (sn (sn hBd.out hb2) hb3)
     have hB4:=hid ((hB3.out.setCell (p:=⟨w.heap.size+1,0,none⟩) (by show w.heap.size≤w.heap.size+1;omega) (.int .u64 (r.1.next:Int))).setCell (p:=⟨w.heap.size+1,1,none⟩) (by show w.heap.size≤w.heap.size+1;omega) (.slice a3 r.1.n.length c3))
     have hN:=hid (Z3.other (w':=(w3.setCell ⟨w.heap.size+1,0,none⟩ (.int .u64 (r.1.next:Int))).setCell ⟨w.heap.size+1,1,none⟩ (.slice a3 r.1.n.length c3)) hv3 (w.heap.size+1) (fun e=>by have:=hf3 _ e;have:=hzX.out;simp at hs3;omega) (by simp) (fun k hk=>(Z1 (by show k≠_;exact hk)).trans (Z1 (by show k≠_;exact hk))))
     have hF:=hid (show ∀ k,(Value.slice a3 r.1.n.length c3).ownBlock=some k→w.heap.size≤k from fun k hk=>by have:=hf3 k hk;have:=hzX.out;simp at hs3;omega)
     clear q0 q1 d0 d1 d2 d3 d4 d5 d6 d7 d8 d9 d10 d11 hb2 hb3 hv3 hf3 hA
     go_wp2_with fail
     refine bodyPost_ret (Zy rfl _ _ (w.heap.size+1) _ _ _ _ _ rfl rfl hzz.out Tryz.underlying30 rfl (by kernel_rfl)) rfl ?_
     refine⟨.slice a3 r.1.n.length c3,?_,?_,hF.out,hB4.out⟩
     ·rw[hdE.out];rfl
     ·rw[hdE.out];exact hN.out
end
end Go.Proofs.YtkefjeabckainaaGreat
