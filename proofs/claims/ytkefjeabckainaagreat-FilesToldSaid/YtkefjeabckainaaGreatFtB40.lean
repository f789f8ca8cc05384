/- What a directory's listing tells: plain. Conditions in the statements. And the texts behind it. -/
import Derived.Test.YtkefjeabckainaaGreatFtB39
import Derived.Test.YtkefjeabckainaaGreatFtB23
import Derived.Test.YtkefjeabckainaaGreatFtB01
import Derived.ProofKit
import Derived.OpenShut
import Derived.ChangeOld
import Derived.Test.YtkefjeabckainaaGreatFtB14
import Derived.Test.YtkefjeabckainaaGreatFtB07
import Derived.SizedLaws
namespace Go.Proofs.YtkefjeabckainaaGreat
set_option maxRecDepth 100000
set_option linter.unusedVariables false
section
open Go.RowKit Go.Maps
theorem Zaj (f:FsV) (p:Nat) : ∀ n∈(Z2c f p).t.n,n∈f.t.n:=by
 unfold Z2c
 split
 ·exact fun n h=>h
 ·split
  ·show ∀ n∈(Z1O f.t p).1.n,n∈f.t.n
   unfold Z1O
   split
   ·exact fun n h=>h
   ·split
    ·exact fun n h=>(List.mem_filter.1 h).1
    ·exact fun n h=>h
  ·exact fun n h=>h
theorem Zak (t:Tr) : ∀ k,k≤t.n.length→∀ n∈(Z4j t k).t.n,n∈t.n:=by
 intro k
 induction k with
 | zero=>intro _ n h;exact h
 | succ k ih =>
  intro hk n h
  rw[Z3h (by omega)]at h
  unfold Zau at h
  have h2:=Zaj _ _ n h
  exact ih (by omega) n h2
theorem ZbT (t:Tr) : ∀ n∈(Zav t).t.n,n∈t.n:=by rw[←Z3S];exact Zak t _ (Nat.le_refl _)
theorem Z4Y {t:Tr} (h:OkC t) {d:Nat} {x:Nod} (hx:x∈Z1r t.n d):x∈t.n∧ZM t.n x.path=some x∧ZJ x.name=0:=by
 obtain⟨h1,h2⟩:=List.mem_filter.1 hx
 refine⟨h1,Z3U h.sort h1,?_⟩
 unfold Z1m at h2
 simp only[Bool.and_eq_true,decide_eq_true_eq]at h2
 exact h.nam x h1 h2.1.2
theorem ZbU:ZJ ⟨#[46,46]⟩≠0:=by
 have h:ZJ ⟨#[46,46]⟩=6:=by kernel_rfl
 rw[h];decide
theorem Zal:ZJ ⟨#[]⟩≠0:=by
 have h:ZJ ⟨#[]⟩=6:=by kernel_rfl
 rw[h];decide
theorem Zam {t:Tr} (h:OkC t) (u:Usr) (f:FsV) (hf:f.t=t) (who:ByteArray) {d:Nat} {x:Nod} (hx:x∈Z1r t.n d) (h0:(Z2o u f who d x.name).2=0):(Z2o u f who d x.name).1=x.path:=by
 obtain⟨h1,h2,h3⟩:=Z4Y h hx
 have hk:=(List.mem_filter.1 hx).2
 unfold Z2o at h0 ⊢
 rw[hf]at h0 ⊢
 cases hg:ZM t.n d with
 | none=>rw[hg]at h0;cases h0
 | some dd =>
  rw[hg]at h0
  simp only at h0 ⊢
  by_cases c1:ZF dd=false
  ·rw[if_pos c1]at h0;cases h0
  ·rw[if_neg c1]at h0 ⊢
   by_cases c2:u.may who dd 1=false
   ·rw[if_pos c2]at h0;cases h0
   ·rw[if_neg c2]at h0 ⊢
    have c3:¬ x.name=⟨#[46,46]⟩:=fun e=>ZbU (by rw[←e];exact h3)
    rw[if_neg c3]at h0 ⊢
    cases hfi:Z1F t.n d x.name with
    | none=>rw[hfi]at h0;cases h0
    | some y =>
     obtain⟨m1,m2,m3⟩:=Z57 hfi
     simp only
     rw[h.uniq y m1 x h1 d m2 hk m3]
theorem ZbV {s:ByteArray} (h:ZJ s=0):Op.bytesLess (⟨#[]⟩:ByteArray).toList s.toList=true:=by
 rw[bytesLess_eq]
 have hne:s.toList≠[]:=fun e=>Zal (by
  have:s=⟨#[]⟩:=by
   rw[ByteArray.toList_eq]at e
   cases s
   rename_i d
   have:d=#[]:=Array.toList_inj.1 e
   rw[this]
  rw[←this];exact h)
 rw[show(⟨#[]⟩:ByteArray).toList=[] by rw[ByteArray.toList_eq]]
 cases hs:s.toList with
 | nil=>exact absurd hs hne
 | cons a l=>exact decide_eq_true (List.nil_lt_cons a l)
theorem Zdn {l:List Nod} (h:Z8E l=true) {x:Nod} (hx:x∈l):Few (Z3u x):=by
 unfold Z8E Zdi at h
 simp at h
 have:=h.2 x hx
 exact⟨by show x.name.size≤200;omega,by show x.uid.size≤200;omega,by show x.gid.size≤200;omega,by show x.muid.size≤200;omega⟩
theorem Z1P.fstep {w w':World} {b m p n:Nat} {v0 v:Value} {f:FsV} {u:Usr} {l:List Nod} (h:Z1P w v l) (hF:FSo w b m v0 p f u n) (hs:FStep b m w w'):Z1P w' v l:=by
 obtain⟨hl,a,c,hv,h1,h2,h3,h4⟩:=h
 refine⟨hl,a,c,hv,h1,h2,h3,fun i u hu=>?_⟩
 obtain⟨k,o,ha,hc⟩:=h4 i u hu
 refine⟨k,o,ha,?_⟩
 have hlt:=World.block_lt_of_cell? _ _ hc
 have hi:=(List.getElem?_eq_some_iff.1 hu).1
 rw[hl]at hi
 have hlen:0<l.length:=by
  rcases Nat.eq_zero_or_pos l.length with e | e
  ·rw[e]at hi;omega
  ·exact e
 have hkb:k≠b:=by
  intro e
  obtain⟨k2,o2,ha2,hc2⟩:=h4 12 _ (List.getElem?_eq_getElem (by rw[hl];omega))
  rw[ha]at ha2
  cases ha2
  rw[e,Z0 hF.blk (o+12),Array.getElem?_eq_none (by show 5≤o+12;omega)]at hc2
  cases hc2
 have hkm:k≠m:=by
  intro e
  obtain⟨D,⟨es,clock,hb,_⟩,_⟩:=hF.map.own
  rw[e]at hc
  simp[World.cell?,hb]at hc
 rw[World.cell?_of_block (w:=w) (hs.block k hlt hkb hkm)]
 exact hc
end
section
open Go.RowKit Go.Maps
set_option maxHeartbeats 6400000 in
theorem Z61 (v:Value) (x:Nat) (l:List Nod) (path:Nat) (w:World) (hv:Z3 w v l) (hok : ∀ n∈l,NodOk n) (hp:path<18446744073709551616) :
  Calls Tryz.prog 4 #[.agg #[.int .u64 (x:Int),v],.int .u64 (path:Int)] w (Zdw w):=by
 have mixed:Tryz.prog.follows Departure.mixedOrders=true:=by first | kernel_rfl | decide
 obtain⟨a,c,rfl,g1,g2⟩:=hv.form
 unfold maxLen at g2
 obtain⟨W,hW⟩ : ∃ W,W=w.alloc (.cells #[.int .u64 (x:Int),.slice a l.length c] 30):=⟨_,rfl⟩
 have hb0:Below w.heap.size w W:=by rw[hW];exact(Below.refl _ _).alloc (Nat.le_refl _) _
 have hx0:=hid (show W.heap[w.heap.size]?=some (.cells #[.int .u64 (x:Int),.slice a l.length c]  30 (0,0)) by rw[hW];exact heap_alloc_new _ _)
 have hk:=hid (Z78 W)
 have hv0:=hid (hv.below hb0)
 replace hb0:=hid hb0
 replace hok:=hid hok
 clear hv
 go_enter Tryz.func4,Tryz.ntmps4
 go_wp2_with (rw[←hW];replace hW:=hid hW)
 try (rw[←hW];replace hW:=hid hW)
 refine hk.out.mono ?_
 rintro e w1 ⟨rfl,hb1⟩
 have hB:=hid (sn hb0.out hb1)
 have tree:=hid ((hb1.block _ (lt_of_block hx0.out)).trans hx0.out)
 have row:=hid (hv0.out.below hb1)
 clear hk hb1 hx0 hb0 hv0
 have hm:=hid (Zah (.slice a l.length c) x l w1 row.out hok.out)
 have q0:=Z0 tree.out 0
 have q1:=Z0 tree.out 1
 go_wp2_with fail
 refine hm.out.mono ?_
 rintro e w2 ⟨bb,rfl,hmay,hb2⟩
 replace hB:=hid (sn hB.out hb2)
 replace tree:=hid ((hb2.block _ (lt_of_block tree.out)).trans tree.out)
 replace row:=hid (row.out.below hb2)
 clear hm hb2 q0 q1
 cases bb with
 | false =>
  clear hmay
  go_wp2_with fail
  go_ret
  exact⟨rfl,hB.out⟩
 | true =>
  obtain⟨hOk,hfew⟩:=hmay rfl
  have hG:Za2 ⟨x,l⟩:=⟨hOk,hok.out⟩
  have hbo:Calls Tryz.prog 8 #[.agg #[.int .u64 (x:Int),.slice a l.length c]] w2 (Zd6 ⟨x,l⟩ w2):=Z7B _ ⟨x,l⟩ w2 row.out hG
  replace hbo:=hid hbo
  have q0:=Z0 tree.out 0
  have q1:=Z0 tree.out 1
  replace hG:=hid hG
  replace hfew:=hid hfew
  clear hmay hOk
  go_wp2_with fail
  refine hbo.out.mono ?_
  rintro e w3 ⟨b,m,p,g,v3,vr,vu,vg,gs,gs2,rfl,hbt⟩
  obtain⟨F,hF⟩ : ∃ F,F=Zav ⟨x,l⟩:=⟨_,rfl⟩
  have hFok:Z8e F:=by rw[hF];exact Zbw hG.out
  have hsub : ∀ n∈F.t.n,n∈l:=by rw[hF];exact ZbT ⟨x,l⟩
  have hf3:=hbt.fs
  rw[←hF]at hf3
  have hlb:=hid hbt.lb
  have hlm:=hid hbt.lm
  have hub:=hid (Z5p hbt.s1)
  have hB3:=hid (sn hB.out hbt.below)
  have hw2:=hid hB.out.size
  have hfr:Hid (∀ w',FStep b m w3 w'→Below w.heap.size w w'):=hid (fun w' h=>hB3.out.trans (h.below _ (Nat.le_trans hw2.out hlb.out) (Nat.le_trans hw2.out hlm.out) hB3.out.size))
  have hli:=hid (Z6y b m p 0 v3 F ⟨US0,gs⟩ path w3 hf3 hFok.tr hFok.ne)
  replace hF:=hid hF
  replace hsub:=hid hsub
  replace hFok:=hid hFok
  clear hbo hbt hf3 q0 q1 hB tree row
  go_wp2_with fail
  refine hli.out.mono ?_
  rintro e w4 ⟨vl,ks,rfl,⟨v4,hf4⟩,hs4,h4⟩
  clear hli
  rcases h4 with ⟨hE,hst,hsr,hpm⟩ |⟨hE,rfl⟩
  case inr =>
   have hE2:((Z2X F path:Int) != 0)=true:=by simpa using hE
   generalize Z2X F path=EE at *
   have hB4:=hid (hfr.out _ hs4)
   clear hf4 hs4 hE
   go_wp2_with fail
   go_ret
   exact⟨rfl,hB4.out⟩
  rw[hE]
  obtain⟨la,lc,rfl,lc1,lc2⟩:=hst.form
  unfold maxLen at lc2
  have hlen:ks.length≤64:=by rw[hpm.length_eq];exact Nat.le_trans (List.length_filter_le _ _) hFok.out.good.ok.few
  have hf4:=hid hf4
  have hs4:=hid hs4
  have hst:=hid hst
  have hsr:=hid hsr
  have hpm:=hid hpm
  clear hE
  go_wp2_with fail
  go_loopw [10,11] (fun lv iv wr=>∃ (i:Nat) (last:ByteArray),i≤ks.length∧lv=.string last∧iv=.int .i64 (i:Int)∧Hid (last=(if h:0<i∧i≤ks.length then(ks[i - 1]'(by omega)).name else⟨#[]⟩))∧Hid (∃ v',FSo wr b m v' p F ⟨US0,gs⟩ 0)∧Hid (FStep b m w3 wr)∧Hid (Z1P wr (.slice la ks.length lc) ks)) (fun _ iv _=>ks.length - (intOf iv).toNat)
  case atStart=>exact⟨0,⟨#[]⟩,by omega,rfl,rfl,hid (by rw[dif_neg (by omega)]),hid ⟨v4,hf4.out⟩,hs4,hst⟩
  case round =>
   clear hf4 hs4 hst
   obtain⟨i,last,hi,rfl,rfl,hlast,hf,hs,hst⟩:=hrel
   obtain⟨vr,hf⟩:=hf.out
   replace hf:=hid hf
   by_cases hil:i<ks.length
   case neg =>
    have i2:¬ (i:Int)<(ks.length:Int):=by omega
    have hB4:=hid (hfr.out _ hs.out)
    go_wp2_with fail
    go_ret
    exact⟨rfl,hB4.out⟩
   obtain⟨rb,ro,ha,hr⟩:=hst.out.range i hil
   subst ha
   have hrise:Op.bytesLess last.toList ks[i].name.toList=true:=by
    rw[hlast.out]
    by_cases h0:0<i
    ·rw[dif_pos ⟨h0,hi⟩]
     have h1:=Zaf hFok.out.good.ok hsr.out hpm.out (j:=i - 1) (by omega)
     simp only[show i - 1+1=i by omega]at h1
     unfold leS at h1
     simpa using h1
    ·rw[dif_neg (by omega)]
     exact ZbV (Z4Y hFok.out.good.ok (hpm.out.mem_iff.1 (List.getElem_mem hil))).2.2
   have hkd:=hid (hpm.out.mem_iff.1 (List.getElem_mem hil))
   have hnxt:=hid (show ks[i].name=(if h:0<i+1∧i+1≤ks.length then(ks[i+1 - 1]'(by omega)).name else⟨#[]⟩) by rw[dif_pos ⟨by omega,by omega⟩];rfl)
   obtain⟨y,hy⟩ : ∃ y,y=ks[i]:=⟨_,rfl⟩
   rw[←hy]at hr hrise hkd hnxt
   replace hy:=hid hy
   obtain⟨hmem,hget,hnam⟩:=Z4Y hFok.out.good.ok hkd.out
   have hfewS:=hid (Zdn hfew.out (hsub.out y hmem))
   have hyk:=hFok.out.tr.ok y hmem
   have hsF:Z52 F y.path=(Z3T y,0):=by unfold Z52;rw[hget];rfl
   have hsc:=Z6B b m p 0 vr F ⟨US0,gs⟩ y.path wr hf.out hFok.out.tr hFok.out.ne
   rw[hsF]at hsc
   unfold Z5W at hsc
   replace hsc:=hid hsc
   have r4:wr.cell? ⟨rb,ro+i * 13+4,none⟩=some (.int .u64 (y.path:Int)):=hr 4 _ rfl
   have i1:(0:Int)≤(i:Int):=by omega
   have i2:(i:Int)<(ks.length:Int):=by omega
   have i3:IntKind.i64.wrap ((i:Int)+1)=((i+1:Nat):Int):=by rw[IntWalk.i64_in _ (by omega)];omega
   replace i3:=hid i3
   clear hget hsF hmem hr
   replace hrise:=hid hrise
   replace hyk:=hid hyk
   replace hnam:=hid hnam
   go_wp2_with fail
   refine hsc.out.mono ?_
   rintro e w5 ⟨rfl,⟨v5,hf5⟩,hs5⟩
   have hst5:=hst.out.fstep hf.out hs5
   obtain⟨Z,hZ⟩ : ∃ Z,Z=(w5.alloc (.cells #[.int .u16 0,.int .u32 0,.int .u8 0,.int .u32 0,.int .u64 0,.int .u32 0,.int .u32 0,.int .u32 0,.int .u64 0,.string ⟨#[]⟩,.string ⟨#[]⟩,.string ⟨#[]⟩,.string ⟨#[]⟩] 53)).setRow w5.heap.size (Z3T y):=⟨_,rfl⟩
   have hbZ:Below w5.heap.size w5 Z:=by rw[hZ];exact below_setRow ((Below.refl _ _).alloc (Nat.le_refl _) _) (Nat.le_refl _) _
   have hzn:=hid (show Z.heap[w5.heap.size]?=some (.cells (Z3T y) 53 (0,0)) by rw[hZ];exact setRow_heap _ _ _ _ _ _ (heap_alloc_new _ _))
   have hbmz:b≠w5.heap.size∧m≠w5.heap.size:=⟨Nat.ne_of_lt (lt_of_block hf5.blk),Nat.ne_of_lt hf5.map.lt⟩
   have hnew:=hid (heap_alloc_new w5 (.cells #[.int .u16 0,.int .u32 0,.int .u8 0,.int .u32 0,.int .u64 0,.int .u32 0,.int .u32 0,.int .u32 0,.int .u64 0,.string ⟨#[]⟩,.string ⟨#[]⟩,.string ⟨#[]⟩,.string ⟨#[]⟩] 53))
   have hfZ:=hid (hf5.below hbZ)
   have hsZ:=hid ((hs.out.trans hs5).trans (FStep.pure hbZ))
   have hstZ:=hid (hst5.below hbZ)
   clear hf5 hs5 hst5 hbZ hsc hst hs hf r4
   obtain⟨rb',ro',ha',hr⟩:=hstZ.out.range i hil
   cases ha'
   rw[←hy.out]at hr
   obtain⟨⟨pp,E⟩,hPP⟩ : ∃ PP,PP=Z2o ⟨US0,gs⟩ F ⟨#[117,49]⟩ path y.name:=⟨_,rfl⟩
   have htold:=Zam hFok.out.good.ok ⟨US0,gs⟩ F rfl ⟨#[117,49]⟩ hkd.out
   have hsp:=Z6A b m p 0 v5 F ⟨US0,gs⟩ ⟨#[117,49]⟩ path y.name Z hfZ.out hFok.out.tr hFok.out.ne hub.out
   unfold Z5W at hsp
   rw[←hPP]at hsp htold
   simp only at hsp htold
   replace hsp:=hid hsp
   replace htold:=hid htold
   replace hPP:=hid hPP
   have r9:Z.cell? ⟨rb,ro+i * 13+9,none⟩=some (.string y.name):=hr 9 _ rfl
   have hbz:Hid (b≠w5.heap.size∧m≠w5.heap.size):=hid hbmz
   replace hr:=hid hr
   go_wp2_with (first
    |(rw[←hZ];replace hZ:=hid hZ)
    |(refine wpList_store_row (by rfl) 53 (.tmp 12) (.tmp 55) (by rfl) w5.heap.size (Z3T y) (by rfl) (by rfl) 53 _ hnew.out (by kernel_rfl) (by kernel_rfl) (by kernel_rfl) ?_))
   refine hsp.out.mono ?_
   rintro e w7 ⟨rfl,⟨v7,hf7⟩,hs7⟩
   have hst7:=hid (hstZ.out.fstep hfZ.out hs7)
   have hz7:=(hs7.block _ (lt_of_block hzn.out) (Ne.symm hbz.out.1) (Ne.symm hbz.out.2)).trans hzn.out
   have hs7':=hid (hsZ.out.trans hs7)
   have hf7:=hid hf7
   obtain⟨rb',ro',ha',hr7⟩:=hst7.out.range i hil
   cases ha'
   rw[←hy.out]at hr7
   have hz7d:w7.drew.heap[w5.heap.size]?=some (.cells (Z3T y) 53 (0,0)):=hz7
   have hr7d:w7.drew.rangeAt rb (ro+i * 13) (Z3T y).toList:=hr7
   replace hz7d:=hid hz7d
   replace hr7d:=hid hr7d
   clear hz7 hr7 hs7 hsp r9 hstZ hfZ hsZ hzn hnew hr
   go_wp2_with fail
   have hdr:Below w7.heap.size w7 w7.drew:=(Below.refl _ _).drew
   refine wp_region_held (S:=Below w7.drew.heap.size w7.drew) mixed ?_
   refine(show wpAnyH Tryz.prog .any Z6 _ _ _ _ _ _→_ from fun h=>h) ?_
   refine ZbS (w1:=w7.drew) (b:=rb) (f:=ro) (L:=ks.length) (lc:=lc) (i:=i) (z:=w5.heap.size) (pp:=pp) (E:=E) (last:=last) (x:=y) hil (by omega) hfewS.out hz7d.out hr7d.out (fun d u c a w h=>by cases d <;> exact h) (FrL.of_all (by rfl) rfl ⟨rfl,rfl,rfl,rfl,rfl,rfl,rfl,rfl,rfl,rfl,rfl,rfl,rfl,rfl,rfl,rfl,rfl,rfl,rfl,rfl,rfl,rfl,rfl,rfl,rfl,rfl,rfl,rfl,rfl,rfl,rfl,rfl,rfl,rfl,rfl,rfl,rfl,rfl,rfl,rfl,rfl,rfl,rfl,rfl,rfl,rfl,rfl,rfl,rfl,rfl,rfl,rfl,rfl,rfl,rfl,rfl,rfl,rfl,rfl,rfl,rfl,rfl,rfl,rfl,rfl,rfl,rfl,rfl,rfl,rfl,rfl,rfl,rfl, trivial⟩) (Below.refl _ _) (fun a w8 hF8 hS8=>?_)
   have hE2:(((((!decide (0=0)) || false) ||(!Op.bytesLess last.toList y.name.toList)) ||((decide (E=0)) && (!decide (pp=y.path)))) ||(decide ((Z3u y).size<49)))=false:=by
    rw[hrise.out]
    have hsz:¬ (Z3u y).size<49:=by unfold Stat.size;omega
    by_cases h0:E=0
    ·have:=htold.out h0
     simp[h0,hsz,this]
    ·simp[h0,hsz]
   rw[hE2]at hF8
   clear hE2
   have hbx:=hdr.trans hS8
   have hf8:=hid (hf7.out.below hbx)
   have hs8:=hid (hs7'.out.trans (FStep.pure hbx))
   have hst8:=hid (hst7.out.below hbx)
   have r9:w8.cell? ⟨rb,ro+i * 13+9,none⟩=some (.string y.name):=Z7H (hr7d.out 9 _ rfl) hS8
   clear hbx hdr hS8 hf7 hs7' hst7 hz7d hr7d
   have he:=Z1n hF8 [_,_,_,_,_,_,_,_,_,_,_,_,.pointer (some ⟨w5.heap.size,0,none⟩),_,_,_,_,_,_,_,_,_,_,_,_,_,_,_,_,_,_,_,_,_,_,_,_,_,_,_,_,_,_,_,_,_,_,_,_,_,_,_,_,_,_,_,_,_,_,_,_,_,_,_,_,_,_,_,a.tmps.getD 68 undef,a.tmps.getD 69 undef,a.tmps.getD 70 undef,a.tmps.getD 71 undef,a.tmps.getD 72 undef,a.tmps.getD 73 undef,a.tmps.getD 74 undef,a.tmps.getD 75 undef,a.tmps.getD 76 undef,a.tmps.getD 77 undef,a.tmps.getD 78 undef,a.tmps.getD 79 undef,a.tmps.getD 80 undef,a.tmps.getD 81 undef,a.tmps.getD 82 undef,a.tmps.getD 83 undef,a.tmps.getD 84 undef,a.tmps.getD 85 undef,a.tmps.getD 86 undef,a.tmps.getD 87 undef,a.tmps.getD 88 undef,a.tmps.getD 89 undef,a.tmps.getD 90 undef,a.tmps.getD 91 undef,a.tmps.getD 92 undef,a.tmps.getD 93 undef,a.tmps.getD 94 undef,a.tmps.getD 95 undef,a.tmps.getD 96 undef,a.tmps.getD 97 undef,a.tmps.getD 98 undef,a.tmps.getD 99 undef,a.tmps.getD 100 undef,a.tmps.getD 101 undef,a.tmps.getD 102 undef,a.tmps.getD 103 undef,a.tmps.getD 104 undef,a.tmps.getD 105 undef,_,_,_,_,_,_] (by rfl) ⟨hF8.get 0 _ rfl,hF8.get 1 _ rfl,hF8.get 2 _ rfl,hF8.get 3 _ rfl,hF8.get 4 _ rfl,hF8.get 5 _ rfl,hF8.get 6 _ rfl,hF8.get 7 _ rfl,hF8.get 8 _ rfl,hF8.get 9 _ rfl,hF8.get 10 _ rfl,hF8.get 11 _ rfl,hF8.get 12 _ rfl,hF8.get 13 _ rfl,hF8.get 14 _ rfl,hF8.get 15 _ rfl,hF8.get 16 _ rfl,hF8.get 17 _ rfl,hF8.get 18 _ rfl,hF8.get 19 _ rfl,hF8.get 20 _ rfl,hF8.get 21 _ rfl,hF8.get 22 _ rfl,hF8.get 23 _ rfl,hF8.get 24 _ rfl,hF8.get 25 _ rfl,hF8.get 26 _ rfl,hF8.get 27 _ rfl,hF8.get 28 _ rfl,hF8.get 29 _ rfl,hF8.get 30 _ rfl,hF8.get 31 _ rfl,hF8.get 32 _ rfl,hF8.get 33 _ rfl,hF8.get 34 _ rfl,hF8.get 35 _ rfl,hF8.get 36 _ rfl,hF8.get 37 _ rfl,hF8.get 38 _ rfl,hF8.get 39 _ rfl,hF8.get 40 _ rfl,hF8.get 41 _ rfl,hF8.get 42 _ rfl,hF8.get 43 _ rfl,hF8.get 44 _ rfl,hF8.get 45 _ rfl,hF8.get 46 _ rfl,hF8.get 47 _ rfl,hF8.get 48 _ rfl,hF8.get 49 _ rfl,hF8.get 50 _ rfl,hF8.get 51 _ rfl,hF8.get 52 _ rfl,hF8.get 53 _ rfl,hF8.get 54 _ rfl,hF8.get 55 _ rfl,hF8.get 56 _ rfl,hF8.get 57 _ rfl,hF8.get 58 _ rfl,hF8.get 59 _ rfl,hF8.get 60 _ rfl,hF8.get 61 _ rfl,hF8.get 62 _ rfl,hF8.get 63 _ rfl,hF8.get 64 _ rfl,hF8.get 65 _ rfl,hF8.get 66 _ rfl,hF8.get 67 _ rfl,hF8.any 68 (by decide),hF8.any 69 (by decide),hF8.any 70 (by decide),hF8.any 71 (by decide),hF8.any 72 (by decide),hF8.any 73 (by decide),hF8.any 74 (by decide),hF8.any 75 (by decide),hF8.any 76 (by decide),hF8.any 77 (by decide),hF8.any 78 (by decide),hF8.any 79 (by decide),hF8.any 80 (by decide),hF8.any 81 (by decide),hF8.any 82 (by decide),hF8.any 83 (by decide),hF8.any 84 (by decide),hF8.any 85 (by decide),hF8.any 86 (by decide),hF8.any 87 (by decide),hF8.any 88 (by decide),hF8.any 89 (by decide),hF8.any 90 (by decide),hF8.any 91 (by decide),hF8.any 92 (by decide),hF8.any 93 (by decide),hF8.any 94 (by decide),hF8.any 95 (by decide),hF8.any 96 (by decide),hF8.any 97 (by decide),hF8.any 98 (by decide),hF8.any 99 (by decide),hF8.any 100 (by decide),hF8.any 101 (by decide),hF8.any 102 (by decide),hF8.any 103 (by decide),hF8.any 104 (by decide),hF8.any 105 (by decide),hF8.get 106 _ rfl,hF8.get 107 _ rfl,hF8.get 108 _ rfl,hF8.get 109 _ rfl,hF8.get 110 _ rfl,hF8.get 111 _ rfl,trivial⟩
   rw[he]
   clear he hF8
   generalize a.tmps.getD 68 undef=y68
   generalize a.tmps.getD 69 undef=y69
   generalize a.tmps.getD 70 undef=y70
   generalize a.tmps.getD 71 undef=y71
   generalize a.tmps.getD 72 undef=y72
   generalize a.tmps.getD 73 undef=y73
   generalize a.tmps.getD 74 undef=y74
   generalize a.tmps.getD 75 undef=y75
   generalize a.tmps.getD 76 undef=y76
   generalize a.tmps.getD 77 undef=y77
   generalize a.tmps.getD 78 undef=y78
   generalize a.tmps.getD 79 undef=y79
   generalize a.tmps.getD 80 undef=y80
   generalize a.tmps.getD 81 undef=y81
   generalize a.tmps.getD 82 undef=y82
   generalize a.tmps.getD 83 undef=y83
   generalize a.tmps.getD 84 undef=y84
   generalize a.tmps.getD 85 undef=y85
   generalize a.tmps.getD 86 undef=y86
   generalize a.tmps.getD 87 undef=y87
   generalize a.tmps.getD 88 undef=y88
   generalize a.tmps.getD 89 undef=y89
   generalize a.tmps.getD 90 undef=y90
   generalize a.tmps.getD 91 undef=y91
   generalize a.tmps.getD 92 undef=y92
   generalize a.tmps.getD 93 undef=y93
   generalize a.tmps.getD 94 undef=y94
   generalize a.tmps.getD 95 undef=y95
   generalize a.tmps.getD 96 undef=y96
   generalize a.tmps.getD 97 undef=y97
   generalize a.tmps.getD 98 undef=y98
   generalize a.tmps.getD 99 undef=y99
   generalize a.tmps.getD 100 undef=y100
   generalize a.tmps.getD 101 undef=y101
   generalize a.tmps.getD 102 undef=y102
   generalize a.tmps.getD 103 undef=y103
   generalize a.tmps.getD 104 undef=y104
   generalize a.tmps.getD 105 undef=y105
   clear a
   go_wp2_with (rw[i3.out])
   go_roundw
   case rel =>
    repeat apply Exists.intro
    exact⟨⟨i+1,y.name,by omega,rfl,by go_num,hnxt,hid ⟨v7,hf8.out⟩,hs8,hst8⟩,rfl⟩
   case measure=>simp[intOf];omega
end
section
open Go.ChangeShapes Go.WideShapes Go.ChangeAt Go.RowKit
end
section
open Go.ChangeShapes Go.WideShapes Go.ChangeAt Go.RowKit
theorem ZdZ {k:IntKind} {n:Int} (h0:k.min=0) (h:(Lit.int k n).wf=true) : ∃ m:Nat,n=(m:Int)∧(m:Int)≤k.max:=by
 simp only[Lit.wf,Bool.and_eq_true,decide_eq_true_eq]at h
 obtain⟨h1,h2⟩:=h
 rw[h0]at h1
 obtain⟨m,rfl⟩:=Int.eq_ofNat_of_zero_le h1
 exact⟨m,rfl,h2⟩
theorem Z2W {H:Type} {enc:TypeId×Value→H} {w:World} {base fuel:Nat} {sp:Nat→Bool} {held:Bool} {t:TypeId} {c:Value} {k:IntKind} {xs:List (DataW H×List MemPlace)} {i:Nat} (ht:Tryz.prog.underlying t=some (.int k)) (h0:k.min=0)
  (hi:i<xs.length) (h:DataW.trod enc Tryz.prog w base sp held fuel t [c]=xs[i]?) : ∃ m:Nat,c=.int k (m:Int)∧(m:Int)≤k.max:=by
 rw[List.getElem?_eq_getElem hi]at h
 obtain⟨n,hc,_,hw⟩:=DataW.trod_int ht h
 obtain⟨m,rfl,hm⟩:=ZdZ h0 hw
 exact⟨m,by simpa using hc,hm⟩
theorem Z38 {H:Type} {enc:TypeId×Value→H} {w:World} {base fuel:Nat} {sp:Nat→Bool} {held:Bool} {t:TypeId} {c:Value} {xs:List (DataW H×List MemPlace)} {i:Nat} (ht:Tryz.prog.underlying t=some .string)
  (hi:i<xs.length) (h:DataW.trod enc Tryz.prog w base sp held fuel t [c]=xs[i]?) : ∃ s:ByteArray,c=.string s∧s.size≤maxLen:=by
 rw[List.getElem?_eq_getElem hi]at h
 obtain⟨s,hc,_,hw⟩:=DataW.trod_string ht h
 exact⟨s,by simpa using hc,hw⟩
theorem fld {H:Type} {enc:TypeId×Value→H} {P:Program} {w:World} {base n:Nat} {sp:Nat→Bool} {held:Bool} {cs:List Value} {xs:List (DataW H×List MemPlace)} {fs:Array Field}
  (hf : ∀ (i:Nat) (f:Field),fs[i]?=some f→DataW.trod enc P w base sp held n f.type ((cs.drop f.offset).take (P.cellsOf f.type))=xs[i]?) (i:Nat) (t o k:Nat)
  (h:(fs[i]?).map (fun f=>(f.type,f.offset))=some (t,o)) (hc:P.cellsOf t=k):DataW.trod enc P w base sp held n t ((cs.drop o).take k)=xs[i]?:=by
 cases hfi:fs[i]? with
 | none=>rw[hfi]at h;cases h
 | some f =>
  rw[hfi]at h
  simp only[Option.map_some,Option.some.injEq,Prod.mk.injEq]at h
  obtain⟨rfl,rfl⟩:=h
  subst hc
  exact hf i f hfi
theorem Zan {α β:Type} (f:α→List β) (n:Nat) : ∀ (L:List α) (_ : ∀ a∈L,(f a).length=n) (k j:Nat) (hk:k<L.length) (_:j<n),(L.flatMap f)[k * n+j]?=(f L[k])[j]?
 | [],_,k,_,hk,_=>by simp at hk
 | a :: L,hf,0,j,_,hj=>by
  rw[List.flatMap_cons,List.getElem?_append_left (by rw[hf a (by simp)];omega)]
  simp
 | a :: L,hf,k+1,j,hk,hj=>by
  have hl:=hf a (by simp)
  rw[List.flatMap_cons,List.getElem?_append_right (by rw[hl,Nat.add_mul];omega),hl,show(k+1) * n+j - n=k * n+j by rw[Nat.add_mul];omega]
  exact Zan f n L (fun b hb=>hf b (by simp[hb])) k j (by simpa using hk) hj
end
section
open Go.ChangeShapes Go.WideShapes Go.ChangeAt Go.RowKit
theorem Z4Z {α β:Type} (f:α→List β) (k:Nat) (hk : ∀ a,(f a).length=k) (L:List α):(L.flatMap f).length=L.length * k:=by
 induction L with
 | nil=>simp
 | cons s m ih=>rw[List.flatMap_cons,List.length_append,ih,hk,List.length_cons,Nat.add_mul];omega
theorem Zao {w:World} {a:Addr} {u:Value} (h:w.cell? a=some u):a.spot=none:=by
 unfold World.cell? at h
 split at h
 ·split at h
  ·cases h
  ·rename_i hs
   simpa using hs
 ·cases h
theorem Zdo {α H:Type} {enc:TypeId×Value→H} {w:World} {base fuel:Nat} {held:Bool} {t e:TypeId} {cs:List Value} {x:DataW H×List MemPlace} (f:α→List Value) (R:α→Prop) (k:Nat) (hk : ∀ a,(f a).length=k) (hk0:0<k)
  (ht:Tryz.prog.underlying t=some (.slice e)) (hc:Tryz.prog.cellsOf e=k) (hel : ∀ n cs x,DataW.trod enc Tryz.prog w base (fun _=>true) held n e cs=some x→∃ a,cs=f a∧R a)
  (h:DataW.trod enc Tryz.prog w base (fun _=>true) held fuel t cs=some x) : ∃ (v:Value) (L:List α),cs=[v]∧Z2w w k v L.length (L.flatMap f)∧∀ a∈L,R a:=by
 rcases DataW.trod_slice ht h with ⟨rfl,_⟩ |⟨ad,len,cap,elems,rest,n,_,rfl,_,_,hl,hm,hlen,hat,_⟩
 ·exact⟨_,[],rfl,Z15.nil.weak,fun _ h=>by cases h⟩
 ·rw[hc]at hat
  have hex : ∀ i:Fin len,∃ a:α,R a∧∀ j,j<k→w.cell? ((ad.add (i.val * k)).add j)=(f a)[j]?:=fun i=>by
   have hi:=hat i.val i.isLt
   rw[List.getElem?_eq_getElem (by omega)]at hi
   obtain⟨cs,hcs,ht⟩:=Option.bind_eq_some_iff.1 hi
   obtain⟨q,rfl,hok⟩:=hel _ _ _ ht
   obtain⟨_,_,hc⟩:=World.cells?_some hcs
   exact⟨q,hok,fun j hj=>hc j hj⟩
  obtain⟨g,hgs⟩ : ∃ g:Fin len→α,∀ i,R (g i)∧∀ j,j<k→w.cell? ((ad.add (i.val * k)).add j)=(f (g i))[j]?:=⟨fun i=>(hex i).choose,fun i=>(hex i).choose_spec⟩
  clear hex
  refine⟨_,List.ofFn g,rfl,?_,?_⟩
  ·rw[List.length_ofFn]
   refine⟨by rw[Z4Z f k hk,List.length_ofFn],_,cap,rfl,hl,hm,fun h=>(by cases h),fun i u hu=>?_⟩
   have hlt:i<len * k:=by
    have:=(List.getElem?_eq_some_iff.1 hu).1
    rwa [Z4Z f k hk,List.length_ofFn]at this
   have hk1:i / k<len:=Nat.div_lt_of_lt_mul (by rw[Nat.mul_comm];exact hlt)
   have hij:i / k * k+i % k=i:=by rw[Nat.mul_comm];exact Nat.div_add_mod i k
   have hpos:0<len:=Nat.lt_of_le_of_lt (Nat.zero_le _) hk1
   have hsp:ad.spot=none:=by
    have h0:=(hgs ⟨0,hpos⟩).2 0 hk0
    rw[List.getElem?_eq_getElem (by rw[hk];exact hk0)]at h0
    have h1:=Zao h0
    simpa[Addr.add] using h1
   obtain⟨b,o,s⟩:=ad
   simp only at hsp
   subst hsp
   refine⟨b,o,rfl,?_⟩
   have hjk:i % k<k:=Nat.mod_lt _ hk0
   have hc:=(hgs ⟨i / k,hk1⟩).2 (i % k) hjk
   rw[Z2h,Z2h,Nat.add_assoc]at hc
   simp only at hc
   rw[hij]at hc
   rw[hc]
   rw[←hij,Zan f k _ (fun a _=>hk a) (i / k) (i % k) (by rw[List.length_ofFn];exact hk1) hjk]at hu
   rw[←hu]
   simp
  ·intro a ha
   obtain⟨i,rfl⟩:=(List.mem_ofFn).1 ha
   exact(hgs i).1
theorem Z8C {H:Type} {enc:TypeId×Value→H} {w:World} {base fuel:Nat} {sp:Nat→Bool} {held:Bool} {t:TypeId} {c:Value} {xs:List (DataW H×List MemPlace)} {i:Nat} (ht:Tryz.prog.underlying t=some .bool)
  (hi:i<xs.length) (h:DataW.trod enc Tryz.prog w base sp held fuel t [c]=xs[i]?) : ∃ b:Bool,c=.bool b:=by
 rw[List.getElem?_eq_getElem hi]at h
 obtain⟨b,hc,_⟩:=DataW.trod_bool ht h
 exact⟨b,by simpa using hc⟩
theorem Zdp {H:Type} {enc:TypeId×Value→H} {w:World} {base fuel:Nat} {sp:Nat→Bool} {held:Bool} {cs:List Value} {x:DataW H×List MemPlace}
  (h:DataW.trod enc Tryz.prog w base sp held fuel 89 cs=some x) : ∃ n:Nod,cs=n.cells.toList∧NodOk n:=by
 obtain⟨xs,n,_,_,hlen,hxl,hf⟩:=DataW.trod_struct Tryz.underlying89 h
 rw[show Tryz.prog.cellsOf 89=12 by kernel_rfl]at hlen
 replace hxl:xs.length=12:=hxl
 match cs,hlen with
 | [c0,c1,c2,c3,c4,c5,c6,c7,c8,c9,c10,c11],_ =>
  have f0:DataW.trod enc Tryz.prog w base sp held n 27 [c0]=xs[0]?:=fld hf 0 _ 0 1 rfl (by kernel_rfl)
  have f1:DataW.trod enc Tryz.prog w base sp held n 32 [c1]=xs[1]?:=fld hf 1 _ 1 1 rfl (by kernel_rfl)
  have f2:DataW.trod enc Tryz.prog w base sp held n 32 [c2]=xs[2]?:=fld hf 2 _ 2 1 rfl (by kernel_rfl)
  have f3:DataW.trod enc Tryz.prog w base sp held n 32 [c3]=xs[3]?:=fld hf 3 _ 3 1 rfl (by kernel_rfl)
  have f4:DataW.trod enc Tryz.prog w base sp held n 32 [c4]=xs[4]?:=fld hf 4 _ 4 1 rfl (by kernel_rfl)
  have f5:DataW.trod enc Tryz.prog w base sp held n 9 [c5]=xs[5]?:=fld hf 5 _ 5 1 rfl (by kernel_rfl)
  have f6:DataW.trod enc Tryz.prog w base sp held n 9 [c6]=xs[6]?:=fld hf 6 _ 6 1 rfl (by kernel_rfl)
  have f7:DataW.trod enc Tryz.prog w base sp held n 9 [c7]=xs[7]?:=fld hf 7 _ 7 1 rfl (by kernel_rfl)
  have f8:DataW.trod enc Tryz.prog w base sp held n 9 [c8]=xs[8]?:=fld hf 8 _ 8 1 rfl (by kernel_rfl)
  have f9:DataW.trod enc Tryz.prog w base sp held n 27 [c9]=xs[9]?:=fld hf 9 _ 9 1 rfl (by kernel_rfl)
  have f10:DataW.trod enc Tryz.prog w base sp held n 4 [c10]=xs[10]?:=fld hf 10 _ 10 1 rfl (by kernel_rfl)
  have f11:DataW.trod enc Tryz.prog w base sp held n 9 [c11]=xs[11]?:=fld hf 11 _ 11 1 rfl (by kernel_rfl)
  obtain⟨path,rfl,b0⟩:=Z2W Tryz.underlying27 rfl (i:=0) (by omega) f0
  obtain⟨vers,rfl,b1⟩:=Z2W Tryz.underlying32 rfl (i:=1) (by omega) f1
  obtain⟨mode,rfl,b2⟩:=Z2W Tryz.underlying32 rfl (i:=2) (by omega) f2
  obtain⟨atm,rfl,b3⟩:=Z2W Tryz.underlying32 rfl (i:=3) (by omega) f3
  obtain⟨mtm,rfl,b4⟩:=Z2W Tryz.underlying32 rfl (i:=4) (by omega) f4
  obtain⟨name,rfl,b5⟩:=Z38 Tryz.underlying9 (i:=5) (by omega) f5
  obtain⟨uid,rfl,b6⟩:=Z38 Tryz.underlying9 (i:=6) (by omega) f6
  obtain⟨gid,rfl,b7⟩:=Z38 Tryz.underlying9 (i:=7) (by omega) f7
  obtain⟨muid,rfl,b8⟩:=Z38 Tryz.underlying9 (i:=8) (by omega) f8
  obtain⟨up,rfl,b9⟩:=Z2W Tryz.underlying27 rfl (i:=9) (by omega) f9
  obtain⟨gone,rfl⟩:=Z8C Tryz.underlying4 (i:=10) (by omega) f10
  obtain⟨data,rfl,b11⟩:=Z38 Tryz.underlying9 (i:=11) (by omega) f11
  refine⟨⟨path,vers,mode,atm,mtm,name,uid,gid,muid,up,gone,data⟩,rfl,?_⟩
  simp only[show IntKind.u32.max=4294967295 from rfl,show IntKind.u64.max=18446744073709551615 from rfl]at *
  exact⟨by show path<_;omega,by show vers<_;omega,by show mode<_;omega,by show atm<_;omega,by show mtm<_;omega,b5,b6,b7,b8,by show up<_;omega,b11⟩
theorem ZbW {H:Type} {enc:TypeId×Value→H} {w:World} {base fuel:Nat} {held:Bool} {cs:List Value} {x:DataW H×List MemPlace}
  (h:DataW.trod enc Tryz.prog w base (fun _=>true) held fuel 28 cs=some x) : ∃ v l,cs=[v]∧Z3 w v l∧∀ n∈l,NodOk n:=by
 obtain⟨v,L,hcs,hr,hok⟩:=Zdo (fun n:Nod=>n.cells.toList) NodOk 12 (fun _=>rfl) (by decide) Tryz.underlying28 (by kernel_rfl) (fun n cs x h=>Zdp h) h
 exact⟨v,L,hcs,hr,hok⟩
end
section
open Go.ChangeShapes Go.WideShapes Go.ChangeAt Go.RowKit
theorem ZbX {H:Type} {enc:TypeId×Value→H} {w:World} {base fuel:Nat} {held:Bool} {cs:List Value} {x:DataW H×List MemPlace}
  (h:DataW.trod enc Tryz.prog w base (fun _=>true) held fuel 30 cs=some x) : ∃ (nx:Nat) (v:Value) (l:List Nod),cs=[.int .u64 (nx:Int),v]∧nx<18446744073709551616∧Z3 w v l∧∀ n∈l,NodOk n:=by
 obtain⟨xs,n,_,_,hlen,hxl,hf⟩:=DataW.trod_struct Tryz.underlying30 h
 rw[show Tryz.prog.cellsOf 30=2 by kernel_rfl]at hlen
 replace hxl:xs.length=2:=hxl
 match cs,hlen with
 | [c0,c1],_ =>
  have f0:DataW.trod enc Tryz.prog w base (fun _=>true) held n 27 [c0]=xs[0]?:=fld hf 0 _ 0 1 rfl (by kernel_rfl)
  have f1:DataW.trod enc Tryz.prog w base (fun _=>true) held n 28 [c1]=xs[1]?:=fld hf 1 _ 1 1 rfl (by kernel_rfl)
  obtain⟨nx,rfl,b0⟩:=Z2W Tryz.underlying27 rfl (i:=0) (by omega) f0
  rw[List.getElem?_eq_getElem (show 1<xs.length by omega)]at f1
  obtain⟨v,l,hcs,hr,hok⟩:=ZbW f1
  simp at hcs
  subst hcs
  refine⟨nx,c1,l,rfl,?_,hr,hok⟩
  have:IntKind.u64.max=18446744073709551615:=rfl
  omega
theorem Z53 (v:Value) (x:Nat) (l:List Nod) (i:Int) (w:World) (hv:Z3 w v l) (hok : ∀ n∈l,NodOk n) (hi:0≤i∧i≤18446744073709551615):Calls Tryz.prog 4 #[.agg #[.int .u64 (x:Int),v],.int .u64 i] w (Zdw w):=by
 obtain⟨n,rfl⟩:=Int.eq_ofNat_of_zero_le hi.1
 exact Z61 v x l n w hv hok (by omega)
end
end Go.Proofs.YtkefjeabckainaaGreat
