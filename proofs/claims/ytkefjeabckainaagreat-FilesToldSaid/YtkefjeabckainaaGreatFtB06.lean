/- What Few, Of and Table of layer 15 do. Conditions: groups that fit into a slice; for Table: what the document allows. And the texts behind it. -/
import Derived.Test.YtkefjeabckainaaGreatFtB05
import Derived.Deep.AppendLies
import Derived.Test.YtkefjeabckainaaGreatFtB04
import Derived.Test.YtkefjeabckainaaGreatFtB01
import Derived.Deep.RegionHeld3
import Derived.Test.YtkefjeabckainaaGreatFtB03
import Derived.Maps.Own
import Derived.Maps.OwnSet
namespace Go.Proofs.YtkefjeabckainaaGreat
set_option maxRecDepth 100000
set_option linter.unusedVariables false
section
open Go.RowKit
theorem Z8Y {gs:List Grp} {k:Nat} (h:k<gs.length):(gs.take (k+1)).flatMap Grp.cells=(gs.take k).flatMap Grp.cells++[.string gs[k].name,gs[k].mv]:=by
 rw[List.take_succ_eq_append_getElem h,List.flatMap_append]
 simp[Grp.cells]
def Zcw (w:World) (us:List ByteArray) (gs:List Grp) (e:Ending) (w':World):Prop :=
 ∃ p gs',e=.returned (.pointer (some ⟨p,0,none⟩))∧Z2Z w' p us gs'∧Z1U gs gs'∧Below w.heap.size w w'
set_option maxHeartbeats 3200000 in
theorem Z8Z (uv gv:Value) (us:List ByteArray) (gs:List Grp) (w:World) (h2:Z1c w uv us) (h3:Z1Y w gv gs) (hok:UOk us gs) (hlm : ∀ g∈gs,g.mem.length≤1000) :
  Calls Tryz.prog 31 #[.agg #[uv,gv]] w (Zcw w us gs):=by
 obtain⟨W,hW⟩ : ∃ W,W=w.alloc (.cells #[uv,gv] 81):=⟨_,rfl⟩
 have hb0:Below w.heap.size w W:=by rw[hW];exact(Below.refl w.heap.size w).alloc (Nat.le_refl _) _
 have hx:W.heap[w.heap.size]?=some (.cells #[uv,gv] 81 (0,0)):=by rw[hW,heap_alloc_new]
 obtain⟨au,cu,rfl,gu1,gu2⟩:=h2.form
 obtain⟨ag,cg,rfl,gg1,gg2⟩:=h3.form
 unfold maxLen at gu2 gg2
 have hzW:w.heap.size<W.heap.size:=lt_of_block hx
 have hng:=hok.ng
 have h2':=hid (h2.below hb0)
 have h3':=hid (h3.below hb0)
 replace hb0:=hid hb0
 replace hx:=hid hx
 replace hok:=hid hok
 replace hlm:=hid hlm
 clear h2 h3
 go_enter Tryz.func31,Tryz.ntmps31
 go_wp2_with (rw[←hW];replace hW:=hid hW)
 try (rw[←hW];replace hW:=hid hW)
 go_loopw [4,3] (fun kv gvk wr=>∃ k:Nat,k≤gs.length∧kv=.int .i64 (k:Int)∧Hid (wr.ownsRow W.heap.size 154 2 gvk k ((gs.take k).flatMap Grp.cells))∧Hid (Below W.heap.size W wr)) (fun kv _ _=>gs.length - (intOf kv).toNat)
 case atStart=>exact⟨0,by omega,rfl,hid (World.ownsRow_nil _ _ _ _),hid (Below.refl _ _)⟩
 case round =>
  obtain⟨k,hk1,rfl,hown,hB⟩:=hrel
  have hBw:=hid (hb0.out.trans (hB.out.mono (Nat.le_of_lt hzW)))
  have hxr:=(hB.out.block _ hzW).trans hx.out
  have d1:wr.cell? ⟨w.heap.size,1,none⟩=some (.slice ag gs.length cg):=Z0 hxr 1
  by_cases hkl:k<gs.length
  ·obtain⟨b1,o1,ha1,hc1,hc2,hm⟩:=Z1Y.cell (h3'.out.below hB.out) k hkl
   subst ha1
   obtain⟨am,cm,hmv,gm1,gm2⟩:=hm.form
   have hfl:=hid (Z8Y hkl)
   clear hm
   obtain⟨g,hg1⟩ : ∃ g,g=gs[k]:=⟨_,rfl⟩
   rw[←hg1]at hc1 hc2 hmv gm1 hfl
   replace hg1:=hid hg1
   obtain⟨nm,mv,mem⟩:=g
   simp only at hc1 hc2 hmv gm1 hfl
   subst hmv
   have i1:(0:Int)≤(k:Int):=by omega
   have i2:(k:Int)<(gs.length:Int):=by omega
   have hD:=(Below.refl wr.heap.size wr).drew
   have hA:=(Below.refl wr.drew.heap.size wr.drew).alloc (Nat.le_refl _) (.cells #[.string nm,.slice am mem.length cm] 154)
   have hownA:=hid (Z2x hown.out (fun j hj=>(hA.block j (hown.out.lt j hj).2).trans (hD.block j (hown.out.lt j hj).2)))
   have hsrc:Hid (Z15 (wr.drew.alloc (.cells #[.string nm,.slice am mem.length cm] 154)) 2 (.slice (some ⟨wr.drew.heap.size,0,none⟩) 1 1) 1 [.string nm,.slice am mem.length cm]):=hid (Z15.of_block (n:=1) (heap_alloc_new _ _) rfl (by unfold maxLen;omega))
   have hsz:W.heap.size≤wr.heap.size:=hB.out.size
   have hBA:=hid (hB.out.drew.trans (hA.mono hB.out.size))
   have hvl:=hid hown.out.lt
   obtain⟨ak,ck,rfl⟩:=Z1V hown.out
   have s1:wr.drew.cell? ⟨w.heap.size,1,none⟩=some (.slice (some ⟨b1,o1,none⟩) gs.length cg):=d1
   have s2:wr.drew.cell? ⟨b1,o1+k * 2,none⟩=some (.string nm):=hc1
   have s3:wr.drew.cell? ⟨b1,o1+k * 2+1,none⟩=some (.slice am mem.length cm):=hc2
   replace hA:=hid hA
   replace hD:=hid hD
   replace hxr:=hid hxr
   go_wp2_with fail
   go_region_law ((refine Z1W Z8X _ rfl (.tmp 14) (.tmp 28) rfl W.heap.size (.slice ak k ck) k _ rfl hownA.out _ 1 [.string nm,.slice am mem.length cm] rfl hsrc.out (by intro u hu;simp at hu;rcases hu with rfl | rfl <;> rfl) (by unfold maxLen;omega) (by omega) (by simp;omega) ?_;intro a' c' w' h2 h3;have hown2:=hid h2;have hB2:=hid (hBA.out.grown h3 (by simp;omega) (fun j hj=>by have:=(hvl.out j hj).1;omega));clear h2 h3))
   all_goals
    clear s1 s2 s3 hown hownA hvl hA hD hsrc hBA d1 hc1 hc2 i1 i2
    go_wp2_with fail
    go_roundw
    case rel=>exact⟨k+1,by omega,by go_num,hid (by rw[hfl.out];exact hown2.out),hB2⟩
    case measure=>simp[intOf];omega
  ·obtain rfl:k=gs.length:=by omega
   rw[List.take_length]at hown
   have hnew:=hid (ZaG (.slice au us.length cu) u3 us gs wr (h2'.out.below hB.out) ⟨(Z15.of_own hown.out).weak,fun g hg=>(h3'.out.2 g hg).below hB.out⟩ hok.out hlm.out)
   have d0:wr.cell? ⟨w.heap.size,0,none⟩=some (.slice au us.length cu):=Z0 hxr 0
   replace hxr:=hid hxr
   clear hown
   go_wp2_with fail
   refine hnew.out.mono ?_
   rintro e w9 ⟨p,gs',rfl,hT,hS,hb9⟩
   have hB9:=hid (sn hBw.out hb9)
   replace hT:=hid hT
   replace hS:=hid hS
   clear hb9 hnew
   go_wp2_with fail
   go_ret
   exact⟨p,gs',rfl,hT.out,hS.out,hB9.out⟩
end
section
open Go.RowKit
end
section
open Go.RowKit
set_option maxHeartbeats 1600000 in
theorem Z4n (p:Nat) (us:List ByteArray) (gs:List Grp) (who:ByteArray) (n:Nod) (want:Nat) (w:World) (h:Z2Z w p us gs) (hl:UB us gs) (hn:NodOk n) (hw:want<4294967296) :
  Calls Tryz.prog 39 #[.pointer (some ⟨p,0,none⟩),.string who,.agg n.cells,.int .u32 (want:Int)] w fun e w'=>e=.returned (.bool (Zdr (inB us gs who n.gid) (decide (who=n.uid)) n.mode want))∧Below w.heap.size w w':=by
 obtain⟨W,hW⟩ : ∃ W,W=w.alloc (.cells n.cells 89):=⟨_,rfl⟩
 have hb0:Below w.heap.size w W:=by rw[hW];exact(Below.refl w.heap.size w).alloc (Nat.le_refl _) _
 have hx:W.heap[w.heap.size]?=some (.cells n.cells 89 (0,0)):=by rw[hW,heap_alloc_new]
 have hin:=hid (ZdB p us gs who n.gid W (h.below hb0) hl)
 have hm:=hn.mode
 rw[Z7]at hx hW ⊢
 have c2:W.cell? ⟨w.heap.size,2,none⟩=some (.int .u32 (n.mode:Int)):=Z0 hx 2
 have c6:W.cell? ⟨w.heap.size,6,none⟩=some (.string n.uid):=Z0 hx 6
 have c7:W.cell? ⟨w.heap.size,7,none⟩=some (.string n.gid):=Z0 hx 7
 replace hx:=hid hx
 replace hb0:=hid hb0
 replace hn:=hid hn
 clear h hl
 by_cases ho:who=n.uid
 ·have hq:(who.toList == n.uid.toList)=true:=by rw[ho];simp
  have hr:Hid (decide (who=n.uid)=true):=hid (decide_eq_true ho)
  clear ho
  generalize decide (who=n.uid)=od at *
  go_enter Tryz.func39,Tryz.ntmps39
  go_wp2_with (rw[←hW];replace hW:=hid hW)
  refine hin.out.mono ?_
  rintro e w1 ⟨rfl,hb1⟩
  have d2:w1.cell? ⟨w.heap.size,2,none⟩=some (.int .u32 (n.mode:Int)):=Z0 ((hb1.block _ (lt_of_block hx.out)).trans hx.out) 2
  have d6:w1.cell? ⟨w.heap.size,6,none⟩=some (.string n.uid):=Z0 ((hb1.block _ (lt_of_block hx.out)).trans hx.out) 6
  have hB:=hid (sn hb0.out hb1)
  clear hb1 c2 c6 c7 hin
  cases hi:inB us gs who n.gid with
  | true =>
   replace hi:=hid hi
   go_wp2_with fail
   go_ret
   exact⟨ZR (by rw[hr.out,hi.out];rw[Zcp _ hm,Z4m true true _ _ hm hw]),hB.out⟩
  | false =>
   replace hi:=hid hi
   go_wp2_with fail
   go_ret
   exact⟨ZR (by rw[hr.out,hi.out];rw[Zcr _ hm,Z4m false true _ _ hm hw]),hB.out⟩
 ·have hq:(who.toList == n.uid.toList)=false:=by rw[Z3l];exact decide_eq_false ho
  have hr:Hid (decide (who=n.uid)=false):=hid (decide_eq_false ho)
  clear ho
  generalize decide (who=n.uid)=od at *
  go_enter Tryz.func39,Tryz.ntmps39
  go_wp2_with (rw[←hW];replace hW:=hid hW)
  refine hin.out.mono ?_
  rintro e w1 ⟨rfl,hb1⟩
  have d2:w1.cell? ⟨w.heap.size,2,none⟩=some (.int .u32 (n.mode:Int)):=Z0 ((hb1.block _ (lt_of_block hx.out)).trans hx.out) 2
  have d6:w1.cell? ⟨w.heap.size,6,none⟩=some (.string n.uid):=Z0 ((hb1.block _ (lt_of_block hx.out)).trans hx.out) 6
  have hB:=hid (sn hb0.out hb1)
  clear hb1 c2 c6 c7 hin
  cases hi:inB us gs who n.gid with
  | true =>
   replace hi:=hid hi
   go_wp2_with fail
   go_ret
   exact⟨ZR (by rw[hr.out,hi.out];rw[Zcq _ hm,Z4m true false _ _ hm hw]),hB.out⟩
  | false =>
   replace hi:=hid hi
   go_wp2_with fail
   go_ret
   exact⟨ZR (by rw[hr.out,hi.out];exact Z4m false false _ _ hm hw),hB.out⟩
end
section
open Go.RowKit
def Z4C (mode:Nat):Nat:=if mode &&& 16=0 then [4,2,6,1].getD (mode % 4) 0 else [4,2,6,1].getD (mode % 4) 0 ||| 2
theorem ZaH (mode:Nat):Z4C mode<8:=by
 unfold Z4C
 have h:mode % 4=0∨mode % 4=1∨mode % 4=2∨mode % 4=3:=by omega
 split <;> rcases h with h | h | h | h <;> rw[h] <;> decide
theorem Zep (mode:Nat) (h:mode<256):bits .and .u8 (mode:Int) 3=((mode % 4:Nat):Int):=by
 rw[show(3:Int)=((3:Nat):Int) from rfl,u8_and_nat _ _ h (by omega),show mode &&& 3=mode % 4 from Nat.and_two_pow_sub_one_eq_mod mode 2]
theorem Zeb (mode:Nat) (h:mode<256):bits .and .u8 (mode:Int) 16=((mode &&& 16:Nat):Int):=by
 rw[show(16:Int)=((16:Nat):Int) from rfl,u8_and_nat _ _ h (by omega)]
set_option maxHeartbeats 1600000 in
theorem Z90 (mode:Nat) (w:World) (hm:mode<256) :
  Calls Tryz.prog 111 #[.int .u8 (mode:Int)] w fun e w'=>e=.returned (.int .u32 (Z4C mode:Int))∧Below w.heap.size w w':=by
 have h3:=Zep mode hm
 have h16:=Zeb mode hm
 have hcs:mode % 4=0∨mode % 4=1∨mode % 4=2∨mode % 4=3:=by omega
 have hb:Hid (Below w.heap.size w (w.alloc (.cells #[.int .u32 4,.int .u32 2,.int .u32 6,.int .u32 1] 32))):=hid ((Below.refl _ _).alloc (Nat.le_refl _) _)
 by_cases h0:mode &&& 16=0
 ·rw[h0]at h16
  have hN:Hid (Z4C mode=[4,2,6,1].getD (mode % 4) 0):=hid (by unfold Z4C;rw[if_pos h0])
  clear h0
  rcases hcs with h | h | h | h <;>
  ·rw[h]at h3 hN
   clear h
   go_enter Tryz.func111,Tryz.ntmps111
   go_wp2_with fail
   go_ret
   exact⟨by rw[hN.out];rfl,hb.out⟩
 ·have hN:Hid (Z4C mode=[4,2,6,1].getD (mode % 4) 0 ||| 2):=hid (by unfold Z4C;rw[if_neg h0])
  have hz:(((mode &&& 16:Nat):Int) != 0)=true:=by simpa using h0
  rw[←h16]at hz
  clear h0 h16
  rcases hcs with h | h | h | h <;>
  ·rw[h]at h3 hN
   clear h
   go_enter Tryz.func111,Tryz.ntmps111
   go_wp2_with fail
   go_ret
   exact⟨by rw[hN.out];rfl,hb.out⟩
def Z3m (us:List ByteArray) (gs:List Grp) (who:ByteArray) (n:Nod) (mode:Nat):Nat :=
 if mode &&& 172=0 then(if ZF n && !decide (mode &&& 19=0) then 12 else if Zdr (inB us gs who n.gid) (decide (who=n.uid)) n.mode (Z4C mode) then 0 else 5) else 1
theorem Z7e (mode:Nat) (h:mode<256):(bits .andNot .u8 (mode:Int) 83 != 0) = !decide (mode &&& 172=0):=by
 rw[show(83:Int)=((83:Nat):Int) from rfl,u8_andNot_nat _ _ h (by omega)]
 show(((mode &&& 172:Nat):Int) != 0)=_
 by_cases h0:mode &&& 172=0
 ·simp[h0]
 ·simp[h0]
theorem Zec (mode:Nat) (h:mode<256):(bits .and .u8 (mode:Int) 19 != 0) = !decide (mode &&& 19=0):=by
 rw[show(19:Int)=((19:Nat):Int) from rfl,u8_and_nat _ _ h (by omega)]
 by_cases h0:mode &&& 19=0
 ·simp[h0]
 ·simp[h0]
set_option maxHeartbeats 3200000 in
theorem Z91 (p:Nat) (us:List ByteArray) (gs:List Grp) (who:ByteArray) (n:Nod) (mode:Nat) (w:World) (h:Z2Z w p us gs) (hl:UB us gs) (hn:NodOk n) (hm:mode<256) :
  Calls Tryz.prog 59 #[.pointer (some ⟨p,0,none⟩),.string who,.agg n.cells,.int .u8 (mode:Int)] w fun e w'=>e=.returned (.int .i64 (Z3m us gs who n mode:Int))∧Below w.heap.size w w':=by
 obtain⟨W,hW⟩ : ∃ W,W=w.alloc (.cells n.cells 89):=⟨_,rfl⟩
 have hb0:Below w.heap.size w W:=by rw[hW];exact(Below.refl w.heap.size w).alloc (Nat.le_refl _) _
 have hx:W.heap[w.heap.size]?=some (.cells n.cells 89 (0,0)):=by rw[hW,heap_alloc_new]
 have hbm:=Z7e mode hm
 have hdm:=Z3x n.mode hn.mode
 have h19:=Zec mode hm
 have hmay:=hid (fun W hT=>Z4n p us gs who n (Z4C mode) W hT hl hn (by have:=ZaH mode;omega))
 have hnd:=hid (fun W=>Z90 mode W hm)
 have hT:=hid (h.below hb0)
 rw[Z7]at hx hW hmay ⊢
 have c2:W.cell? ⟨w.heap.size,2,none⟩=some (.int .u32 (n.mode:Int)):=Z0 hx 2
 have hx2:=hid hx
 replace hx:=hid hx
 replace hb0:=hid hb0
 clear h
 by_cases q1:mode &&& 172=0
 case neg =>
  have hN:Hid (Z3m us gs who n mode=1):=hid (by unfold Z3m;rw[if_neg q1])
  simp only[q1,decide_false,Bool.not_false]at hbm
  clear q1 hdm h19
  go_enter Tryz.func59,Tryz.ntmps59
  go_wp2_with (rw[←hW];replace hW:=hid hW)
  go_ret
  exact⟨by rw[hN.out];rfl,hb0.out⟩
 by_cases q2:(ZF n && !decide (mode &&& 19=0))=true
 ·have hN:Hid (Z3m us gs who n mode=12):=hid (by unfold Z3m;rw[if_pos q1,if_pos q2])
  simp only[q1,decide_true,Bool.not_true]at hbm
  unfold ZF at q2
  rw[Bool.and_eq_true]at q2
  rw[q2.1]at hdm
  rw[q2.2]at h19
  clear q1 q2
  go_enter Tryz.func59,Tryz.ntmps59
  go_wp2_with (rw[←hW];replace hW:=hid hW)
  go_ret
  exact⟨by rw[hN.out];rfl,hb0.out⟩
 have hN:Hid (Z3m us gs who n mode=if Zdr (inB us gs who n.gid) (decide (who=n.uid)) n.mode (Z4C mode) then 0 else 5):=hid (by unfold Z3m;rw[if_pos q1,if_neg q2])
 simp only[q1,decide_true,Bool.not_true]at hbm
 have hcs:ZF n=false∨(ZF n=true∧(!decide (mode &&& 19=0))=false):=by
  cases hd:ZF n
  ·exact .inl rfl
  ·rw[hd,Bool.true_and,Bool.not_eq_true]at q2
   exact .inr ⟨rfl,q2⟩
 clear q1 q2
 unfold ZF at hcs
 generalize Zdr (inB us gs who n.gid) (decide (who=n.uid)) n.mode (Z4C mode)=mb at *
 rcases hcs with hd |⟨hd,hd2⟩ <;>(rw[hd]at hdm;try rw[hd2]at h19)
 all_goals
  go_enter Tryz.func59,Tryz.ntmps59
  go_wp2_with (rw[←hW];replace hW:=hid hW)
  have hT2:Hid (Z2Z W.drew p us gs):=hid (hT.out.below ((Below.refl _ _).drew))
  have hx3:Hid (W.drew.heap[w.heap.size]?=_):=hid hx.out
  have hB:Hid (Below w.heap.size w W.drew):=hid (hb0.out.drew)
  clear c2
  go_region_held3 (fun w'=>w'.cell? ⟨w.heap.size,0,none⟩=some (.int .u64 (n.path:Int))∧w'.cell? ⟨w.heap.size,1,none⟩=some (.int .u32 (n.vers:Int))∧w'.cell? ⟨w.heap.size,2,none⟩=some (.int .u32 (n.mode:Int))∧w'.cell? ⟨w.heap.size,3,none⟩=some (.int .u32 (n.atm:Int))∧w'.cell? ⟨w.heap.size,4,none⟩=some (.int .u32 (n.mtm:Int))∧w'.cell? ⟨w.heap.size,5,none⟩=some (.string n.name)∧w'.cell? ⟨w.heap.size,6,none⟩=some (.string n.uid)∧w'.cell? ⟨w.heap.size,7,none⟩=some (.string n.gid)∧w'.cell? ⟨w.heap.size,8,none⟩=some (.string n.muid)∧w'.cell? ⟨w.heap.size,9,none⟩=some (.int .u64 (n.up:Int))∧w'.cell? ⟨w.heap.size,10,none⟩=some (.bool n.gone)∧w'.cell? ⟨w.heap.size,11,none⟩=some (.string n.data))
   (first | exact⟨Z0 hx3.out 0,Z0 hx3.out 1,Z0 hx3.out 2,Z0 hx3.out 3,Z0 hx3.out 4,Z0 hx3.out 5,Z0 hx3.out 6,Z0 hx3.out 7,Z0 hx3.out 8,Z0 hx3.out 9,Z0 hx3.out 10,Z0 hx3.out 11⟩ | go_keep)
   (first |((go_at_call 111;(with_reducible refine(hnd.out _).mono ?_);rintro e w1 ⟨rfl,hb1⟩;replace hT2:=hid (hT2.out.below hb1);replace hx3:=hid ((hb1.block _ (lt_of_block hx3.out)).trans hx3.out);replace hB:=hid (sn hB.out hb1))) |((go_at_call 39;(with_reducible refine(hmay.out _ hT2.out).mono ?_);rintro e w2 ⟨rfl,hb2⟩;replace hT2:=hid (hT2.out.below hb2);replace hx3:=hid ((hb2.block _ (lt_of_block hx3.out)).trans hx3.out);replace hB:=hid (sn hB.out hb2))))
  cases mb with
  | true =>
   go_wp2_with fail
   go_ret
   exact⟨by rw[hN.out];rfl,hB.out⟩
  | false =>
   go_wp2_with fail
   go_ret
   exact⟨by rw[hN.out];rfl,hB.out⟩
end
section
structure FsV where
 t:Tr
 now:Nat
 by_:Nat→Nat×Nat
def upd (F:Nat→Nat×Nat) (p:Nat) (x:Nat×Nat):Nat→Nat×Nat:=fun q=>if q=p then x else F q
theorem Z7f (F:Nat→Nat×Nat) (p:Nat):upd F p (F p)=F:=by
 funext q;unfold upd;split
 ·rename_i h;rw[h]
 ·rfl
theorem Zc1 (F:Nat→Nat×Nat) (p:Nat) (x:Nat×Nat):upd F p x p=x:=by unfold upd;rw[if_pos rfl]
structure Usr where
 us:List ByteArray
 gs:List Grp
def Usr.may (u:Usr) (who:ByteArray) (n:Nod) (want:Nat):Bool:=Zdr (inB u.us u.gs who n.gid) (decide (who=n.uid)) n.mode want
def ZaI (n:Nod):Bool:=!decide (n.mode &&& 536870912=0)
def Z2c (f:FsV) (p:Nat):FsV:=if 0<(f.by_ p).1 then f else if (Z1O f.t p).2 then⟨(Z1O f.t p).1,f.now,upd f.by_ p (0,0)⟩ else f
def Z6M (f:FsV) (p:Nat):FsV×Bool:=if (ZM f.t.n p).isSome then(⟨f.t,f.now,upd f.by_ p ((f.by_ p).1+1,(f.by_ p).2)⟩,true) else(f,false)
def Zds (f:FsV) (p:Nat):FsV:=Z2c ⟨f.t,f.now,upd f.by_ p ((f.by_ p).1 - 1,(f.by_ p).2)⟩ p
def ZP (f:FsV) (p:Nat):FsV:=⟨f.t,f.now,upd f.by_ p ((f.by_ p).1,(f.by_ p).2+1)⟩
def FsV.set (f:FsV) (t:Tr):FsV:=⟨t,f.now,f.by_⟩
def Z2H (u:Usr) (f:FsV) (who:ByteArray) (n:Nod):Bool:=decide (n.path≠1) && match ZM f.t.n n.up with | some d=>u.may who d 2 | none=>false
def Z2o (u:Usr) (f:FsV) (who:ByteArray) (p:Nat) (name:ByteArray):Nat×Nat :=
 match ZM f.t.n p with
 | none=>(0,6)
 | some d=>if ZF d=false then(0,13) else if u.may who d 1=false then(0,5)
  else if name=⟨#[46,46]⟩ then(if d.gone then(p,0) else(d.up,0))
  else match Z1F f.t.n p name with | none=>(0,6) | some n=>(n.path,0)
def Z20 (u:Usr) (f:FsV) (who:ByteArray) (p mode:Nat):FsV×Nat :=
 match ZM f.t.n p with
 | none=>(f,6)
 | some n=>if Z3m u.us u.gs who n mode≠0 then(f,Z3m u.us u.gs who n mode)
  else if (mode &&& 64≠0∧n.gone=false∧Z2H u f who n=false) then(f,5)
  else if ZaI n=true∧0<(f.by_ p).2 then(f,20)
  else if mode &&& 16≠0∧Z69 n=false then(if (Z2e f.t p 0 who f.now).2≠0 then(f,(Z2e f.t p 0 who f.now).2) else(ZP (f.set (Z2e f.t p 0 who f.now).1) p,0))
  else(ZP f p,0)
def Z12 (d m:Nat):Nat:=if m &&& 2147483648≠0 then 2147483648 |||(m &&& d &&& 511) else(m &&& 1610612736) |||(m &&& 73) |||(m &&& d &&& 438)
def Z13 (u:Usr) (f:FsV) (who:ByteArray) (p:Nat) (name:ByteArray) (mode open_:Nat):FsV×Nat×Nat :=
 match ZM f.t.n p with
 | none=>(f,0,6)
 | some d=>if d.gone then(f,0,6) else if ZF d=false then(f,0,13) else if u.may who d 2=false then(f,0,5)
  else if ZV mode=false∨open_ &&& 172≠0 then(f,0,1)
  else if mode &&& 2147483648≠0∧open_ &&& 191≠0 then(f,0,12)
  else if (Z11 f.t p name (Z12 d.mode mode) who d.gid f.now).2.2≠0 then(f,0,(Z11 f.t p name (Z12 d.mode mode) who d.gid f.now).2.2)
  else(ZP (f.set (Z11 f.t p name (Z12 d.mode mode) who d.gid f.now).1) (Z11 f.t p name (Z12 d.mode mode) who d.gid f.now).2.1,(Z11 f.t p name (Z12 d.mode mode) who d.gid f.now).2.1,0)
def Z2d (f:FsV) (p mode:Nat):FsV :=
 let g:FsV:=⟨f.t,f.now,upd f.by_ p ((f.by_ p).1,(f.by_ p).2 - 1)⟩
 match ZM f.t.n p with
 | none=>g
 | some n=>if mode &&& 64=0 then g else if (ZQ f.t p n.uid f.now).2≠0 then g else Z2c (g.set (ZQ f.t p n.uid f.now).1) p
def Z4D (f:FsV) (p off k:Nat):FsV×ByteArray×Nat:=if (Z2O f.t p off k f.now).2.2≠0 then(f,(Z2O f.t p off k f.now).2.1,(Z2O f.t p off k f.now).2.2) else(f.set (Z2O f.t p off k f.now).1,(Z2O f.t p off k f.now).2.1,0)
def Z30 (f:FsV) (who:ByteArray) (p off:Nat) (data:ByteArray):FsV×Nat×Nat:=if (Z3V f.t p off data who f.now).2≠0 then(f,0,(Z3V f.t p off data who f.now).2) else(f.set (Z3V f.t p off data who f.now).1,data.size,0)
def Z1s (u:Usr) (f:FsV) (who:ByteArray) (p:Nat):FsV×Nat :=
 match ZM f.t.n p with
 | none=>(f,6)
 | some n=>if n.gone then(f,6) else if Z2H u f who n=false then(f,5) else if (ZQ f.t p who f.now).2≠0 then(f,(ZQ f.t p who f.now).2) else(Z2c (f.set (ZQ f.t p who f.now).1) p,0)
end
section
open Go.RowKit Go.Maps
def Ze1:Value→Option (DataW Unit×List MemPlace)
 | .agg cs=>match cs.toList with
  | [.int .i64 a,.int .i64 b]=>some (.agg [.lit (.int .i64 a),.lit (.int .i64 b)],[])
  | _=>none
 | _=>none
theorem Z6N (a b:Int):Ze1 (.agg #[.int .i64 a,.int .i64 b])=some (.agg [.lit (.int .i64 a),.lit (.int .i64 b)],[]):=rfl
def Zc2 (x:Nat×Nat):DataW Unit:=.agg [.lit (.int .i64 (x.1:Int)),.lit (.int .i64 (x.2:Int))]
theorem Z7g {v:Value} {x:Nat×Nat} {ps:List MemPlace} (h:Ze1 v=some (Zc2 x,ps)):v=.agg #[.int .i64 (x.1:Int),.int .i64 (x.2:Int)]:=by
 unfold Ze1 at h
 cases v with
 | agg cs =>
  simp only at h
  split at h
  ·rename_i a b hc
   cases h
   congr 1
   exact Array.toList_inj.1 hc
  ·cases h
 | _=>cases h
def Zc3 (p:Nat):Lit:=.int .u64 (p:Int)
theorem ZaJ (p:Nat):WideAt.IsKeyLit (Zc3 p):=trivial
theorem Z92 {p q:Nat} (h:p≠q):Zc3 p≠Zc3 q:=by unfold Zc3;intro e;injection e with _ e;omega
structure MapAt (w:World) (m n:Nat) (F:Nat→Nat×Nat):Prop where
 own : ∃ D,w.ownsMap Tryz.prog 27 Ze1 m n D∧∀ k,D.atKey (Zc3 k) (Zc2 (0,0))=Zc2 (F k)
 le : ∀ k,(F k).1≤n∧(F k).2≤n
theorem Z5A:Keyed Tryz.prog 27:=int_keyed Tryz.underlying27
theorem ZaK (p:Nat) (hp:p<18446744073709551616):keyOf Tryz.prog 27 (.int .u64 (p:Int))=some (Zc3 p):=keyOf_int_mk Tryz.underlying27 (by
 simp[Lit.wf,IntKind.min,IntKind.max,IntKind.bits,IntKind.signed];omega)
theorem Z7h (w:World):(zeroValue 107).run Tryz.prog w=.ok (.agg #[.int .i64 0,.int .i64 0]) w:=by kernel_rfl
theorem MapAt.look {w:World} {m n:Nat} {F:Nat→Nat×Nat} (h:MapAt w m n F) (p:Nat) (hp:p<18446744073709551616) :
  (Instr.lookup 91 (.map (some m)) (.int .u64 (p:Int)) false).run Tryz.prog w=.ok (.agg #[.int .i64 ((F p).1:Int),.int .i64 ((F p).2:Int)]) w:=by
 obtain⟨D,hD,hat⟩:=h.own
 obtain⟨v,ps,hrun,hv⟩:=hD.lookup Z5A Tryz.underlying91 (Z7h w) (zd:=Zc2 (0,0)) (zp:=[]) (Z6N 0 0) (ZaK p hp)
 rw[hat p]at hv
 rw[hrun,Z7g hv]
theorem MapAt.look_ok {w:World} {m n:Nat} {F:Nat→Nat×Nat} (h:MapAt w m n F) (p:Nat) (hp:p<18446744073709551616) :
  ∃ ok:Bool,(Instr.lookup 91 (.map (some m)) (.int .u64 (p:Int)) true).run Tryz.prog w=.ok (.tuple #[.agg #[.int .i64 ((F p).1:Int),.int .i64 ((F p).2:Int)],.bool ok]) w∧(ok=false→F p=(0,0)):=by
 obtain⟨D,hD,hat⟩:=h.own
 obtain⟨v,ps,hrun,hv⟩:=hD.look_ok Z5A Tryz.underlying91 (Z7h w) (zd:=Zc2 (0,0)) (zp:=[]) (Z6N 0 0) (ZaK p hp)
 rw[hat p]at hv
 refine⟨Maps.has D (Zc3 p),by rw[hrun,Z7g hv],fun hno=>?_⟩
 have h0:=hat p
 have h1:D.atKey (Zc3 p) (Zc2 (0,0))=Zc2 (0,0):=Maps.atKey_of_not_has hno _
 rw[h1]at h0
 unfold Zc2 at h0
 simp at h0
 ext <;> simp <;> omega
theorem MapAt.put {w:World} {m n:Nat} {F:Nat→Nat×Nat} (h:MapAt w m n F) (p:Nat) (hp:p<18446744073709551616) (hn:n<1000000) (x:Nat×Nat) (hx:x.1≤n+1∧x.2≤n+1) :
  ∃ w',(Instr.mapUpdate 91 (.map (some m)) (.int .u64 (p:Int)) (.agg #[.int .i64 (x.1:Int),.int .i64 (x.2:Int)])).run Tryz.prog w=.ok () w'∧MapAt w' m (n+1) (upd F p x)∧w.mapTurned w' m:=by
 obtain⟨D,hD,hat⟩:=h.own
 obtain⟨w',hrun,h1,h2⟩:=hD.store Z5A Tryz.underlying91 (by unfold maxLen;omega) (ZaK p hp) (Z6N (x.1:Int) (x.2:Int))
 refine⟨w',hrun,⟨⟨_,h1,fun k=>?_⟩,fun k=>?_⟩,h2⟩
 ·by_cases e:k=p
  ·subst e;rw[atKey_put_same hD.isMap (ZaJ k),Zc1];rfl
  ·rw[atKey_put_other (Z92 e),hat k];unfold upd;rw[if_neg e]
 ·have:=h.le k
  unfold upd;split
  ·exact hx
  ·omega
theorem MapAt.del {w:World} {m n:Nat} {F:Nat→Nat×Nat} (h:MapAt w m n F) (p:Nat) (hp:p<18446744073709551616) (ty:TypeId) :
  ∃ w',(Builtin.delete_ #[91,27] ty #[.map (some m),.int .u64 (p:Int)]).run Tryz.prog w=.ok (.tuple #[]) w'∧MapAt w' m n (upd F p (0,0))∧w.mapTurned w' m:=by
 obtain⟨D,hD,hat⟩:=h.own
 obtain⟨w',hrun,h1,h2⟩:=hD.drop Z5A Tryz.underlying91 (ZaK p hp) ty
 refine⟨w',hrun,⟨⟨_,h1,fun k=>?_⟩,fun k=>?_⟩,h2⟩
 ·by_cases e:k=p
  ·subst e;rw[atKey_del_same,Zc1]
  ·rw[atKey_del_other (Z92 e),hat k];unfold upd;rw[if_neg e]
 ·have:=h.le k
  unfold upd;split
  ·exact⟨Nat.zero_le _,Nat.zero_le _⟩
  ·exact this
theorem MapAt.mono {w:World} {m n n':Nat} {F:Nat→Nat×Nat} (h:MapAt w m n F) (hn:n≤n'):MapAt w m n' F:=by
 obtain⟨D,hD,hat⟩:=h.own
 exact⟨⟨D,hD.mono hn,hat⟩,fun k=>by have:=h.le k;omega⟩
theorem MapAt.lt {w:World} {m n:Nat} {F:Nat→Nat×Nat} (h:MapAt w m n F):m<w.heap.size:=by
 obtain⟨D,hD,_⟩:=h.own
 exact hD.lt
theorem MapAt.kept {w w':World} {m n:Nat} {F:Nat→Nat×Nat} (h:MapAt w m n F) (hk:w'.heap[m]?=w.heap[m]?):MapAt w' m n F:=by
 obtain⟨D,⟨es,clock,hb,F',hs,hD⟩,hat⟩:=h.own
 exact⟨⟨D,⟨es,clock,hk.trans hb,F',hs,hD⟩,hat⟩,h.le⟩
theorem MapAt.made (w:World):MapAt (w.alloc (.map #[] 0)) w.heap.size 0 (fun _=>(0,0)) :=
 ⟨⟨_,World.ownsMap_made w _ _ _,fun k=>rfl⟩,fun k=>⟨Nat.le_refl _,Nat.le_refl _⟩⟩
end
end Go.Proofs.YtkefjeabckainaaGreat
