/- The stable sort of a row of nodes by name: symMergeCmpFunc whole, stableCmpFunc, SortStableFunc. Conditions: the nodes stand in path order, at most a thousand. And the texts behind it. -/
import Derived.Test.YtkefjeabckainaaGreatFtB18
import Derived.Test.YtkefjeabckainaaGreatFtB19
import Derived.Test.YtkefjeabckainaaGreatFtB12
import Derived.Deep.RegionWith
import Derived.Deep.RegionHeld3
import Derived.Test.YtkefjeabckainaaGreatFtB01
namespace Go.Proofs.YtkefjeabckainaaGreat
set_option maxRecDepth 100000
set_option linter.unusedVariables false
section
open Go.RowKit
theorem Zbl (base g c N:Nat) (hl:N≤1000) : ∀ (n a m b:Nat) (P U V S xs:List Nod) (w:World),Hv xs a m b P U V S→a<m→m<b→b - a≤n→xs.length=N→w.ownsRow base 89 12 (.slice (some ⟨g,0,none⟩) N c) N (ZB xs) →
  Calls Tryz.prog 187 #[.slice (some ⟨g,0,none⟩) N c,.int .i64 (a:Int),.int .i64 (m:Int),.int .i64 (b:Int),(.func (.func 101) #[] #[])] w fun e w'=>e=.returned (.tuple #[])∧∃ ys,ys.length=N∧w'.ownsRow base 89 12 (.slice (some ⟨g,0,none⟩) N c) N (ZB ys)∧Below base w w'∧Mrg P U V S ys:=by
 intro n
 induction n with
 | zero=>intro a m b P U V S xs w h h1 h2 h3;omega
 | succ n ih =>
  intro a m b P U V S xs w h h1 h2 h3 hN hw
  by_cases e1:m=a+1
  ·exact Zbj base g c a m b N P U V S xs w h hN hl hw e1 h2
  by_cases e2:b=m+1
  ·exact Zbk base g c a m b N P U V S xs w h hN hl hw (by omega) e2
  have ih':=fun(a m b2:Nat) (P U V S xs:List Nod) (w:World) (h:Hv xs a m b2 P U V S) (h1:a<m) (h2:m<b2) (h3':b2 - a<n+1) (hN:xs.length=N) (hw:w.ownsRow base 89 12 (.slice (some ⟨g,0,none⟩) N c) N (ZB xs))=>ih a m b2 P U V S xs w h h1 h2 (by omega) hN hw
  rcases Nat.lt_or_ge ((a+b) / 2) m with e3 | e3
  ·exact Z9F base g c a m b N P U V S xs w h hN hl hw (n+1) h3 (by omega) (by omega) e3 ih'
  ·exact Z9G base g c a m b N P U V S xs w h hN hl hw (n+1) h3 (by omega) (by omega) e3 ih'
set_option maxHeartbeats 6400000 in
theorem Z9H (base g c N:Nat) (l0:List Nod) (w:World) (hN:l0.length=N) (hl:N≤1000) (hp:l0.Pairwise fun x y=>x.path<y.path) (hw:w.ownsRow base 89 12 (.slice (some ⟨g,0,none⟩) N c) N (ZB l0)) :
  Calls Tryz.prog 151 #[.slice (some ⟨g,0,none⟩) N c,.int .i64 (N:Int),(.func (.func 101) #[] #[])] w fun e w'=>e=.returned (.tuple #[])∧∃ ys,ys.length=N∧w'.ownsRow base 89 12 (.slice (some ⟨g,0,none⟩) N c) N (ZB ys)∧Below base w w'∧Srt Z25 ys∧ys.Perm l0:=by
 have HA:=hid (StA.start l0)
 have HV:=hid hw
 have HB:=hid (Below.refl base w)
 have HP:=hid hp
 have hins:=hid (fun(W:World) (xs:List Nod) (a b:Nat) hv hN hab hb hp=>Zbi base g c a b N xs W hv hN hab hb hl hp)
 have hin0:=hid (fun(W:World) (xs:List Nod) (a:Nat) (ha:a≤1000)=>Z9E base g c a N xs W ha)
 have hsym:=hid (fun(W:World) (a m b:Nat) P U V S xs h h1 h2 hN hw=>Zbl base g c N hl (b - a) a m b P U V S xs W h h1 h2 (Nat.le_refl _) hN hw)
 clear hw hp
 go_enter Tryz.func151,Tryz.ntmps151
 go_wp2
 go_loopg [7,8] (N+20) (fun g1 va vb wr=>∃ (q a b:Nat) (ys:List Nod),va=.int .i64 (a:Int)∧vb=.int .i64 (b:Int)∧Hid (a=q * 20)∧b≤a+20∧a+20≤b∧a≤N∧N+20 - a≤g1∧ys.length=N∧Hid (wr.ownsRow base 89 12 (.slice (some ⟨g,0,none⟩) N c) N (ZB ys))∧Hid (Below base w wr)∧Hid (StA l0 ys q))
 case atStart=>exact⟨0,0,20,l0,by first | rfl | go_num,by first | rfl | go_num,hid (by omega),by omega,by omega,by omega,by omega,hN,HV,HB,HA⟩
 case round =>
  clear HV HB HA
  obtain⟨q,a,b,ys,rfl,rfl,hq,hb1,hb2,haN,hg1,hys,HV,HB,HA⟩:=hrel
  by_cases hbN:b≤N
  ·have hbz:(b:Int)≤(N:Int):=by omega
   obtain⟨d,hd⟩ : ∃ d,d=b+20:=⟨_,rfl⟩
   have kd:IntKind.i64.wrap ((b:Int)+20)=(d:Int):=by rw[IntWalk.i64_in _ (by omega)];omega
   have hd1:d≤b+20:=by omega
   have hd2:b+20≤d:=by omega
   replace hd:=hid hd
   have hc:=hid (hins.out wr ys a b HV.out hys (by omega) hbN (by
    rw[HA.out.rest a b (by have:=hq.out;omega)]
    exact(HP.out.sublist (List.drop_sublist _ _)).sublist (List.take_sublist _ _)))
   go_wp2_with fail
   refine hc.out.mono ?_
   rintro e w2 ⟨rfl,zs,hz,hv2,hbl2,hm2,hs2⟩
   have e1:b=q * 20+20:=by have:=hq.out;omega
   rw[hq.out,e1]at hm2 hs2
   have HA2:=hid (HA.out.step hm2 hs2)
   replace hv2:=hid hv2
   replace hbl2:=hid (HB.out.trans hbl2)
   replace hm2:=hid hm2
   replace hs2:=hid hs2
   replace e1:=hid e1
   go_wp2
   go_roundg (N+20 - b)
   case measure=>omega
   case rel=>exact⟨q+1,b,d,zs,by first | rfl | go_num,by first | rfl | go_num,hid (by have:=hq.out;omega),by omega,by omega,hbN,Nat.le_refl _,hz,hv2,hbl2,HA2⟩
  ·have hbz:¬ (b:Int)≤(N:Int):=by omega
   go_wp2_with fail
   have hsB:Calls Tryz.prog 186 #[.slice (some ⟨g,0,none⟩) N c,.int .i64 (a:Int),.int .i64 (N:Int),(.func (.func 101) #[] #[])] wr fun e w'=>e=.returned (.tuple #[])∧∃ zs,zs.length=N∧w'.ownsRow base 89 12 (.slice (some ⟨g,0,none⟩) N c) N (ZB zs)∧Below base wr w'∧StB l0 zs 20:=by
    have hqo:=hq.out
    by_cases haz:a<N
    ·refine(hins.out wr ys a N HV.out hys haz (Nat.le_refl _) (by
      rw[HA.out.rest a N (by omega)]
      exact(HP.out.sublist (List.drop_sublist _ _)).sublist (List.take_sublist _ _))).mono ?_
     rintro e w2 ⟨rfl,zs,hz,hv2,hbl2,hm2,hs2⟩
     exact⟨rfl,zs,hz,hv2,hbl2,HA.out.last (by omega) (by rw[←hqo,hys];exact hm2) (by rw[←hqo,hys];exact hs2)⟩
    ·have:a=N:=by omega
     subst this
     refine(hin0.out wr ys a hl).mono ?_
     rintro e w2 ⟨rfl,rfl⟩
     refine⟨rfl,ys,hys,HV.out,Below.refl _ _,HA.out.last (by omega) (by rw[←hqo,hys];exact Z1p.refl (Nat.le_refl _) (by omega)) ?_⟩
     rw[←hqo,hys]
     unfold seg;rw[Nat.sub_self,List.take_zero];exact Srt.nil
   refine hsB.mono ?_
   rintro e w2 ⟨rfl,zs,hz,hv2,hbl2,hsb⟩
   replace HV:=hid hv2
   replace HB:=hid (HB.out.trans hbl2)
   replace HA:=hid hsb
   clear hsB hv2 hbl2 hsb
   go_wp2
   go_loopg [6,7,8] N (fun g1 vs va vb wr=>∃ (bs:Nat) (a b:Int) (ys:List Nod),vs=.int .i64 (bs:Int)∧va=.int .i64 a∧vb=.int .i64 b∧20≤bs∧bs≤2000∧N - bs≤g1∧ys.length=N∧Hid (wr.ownsRow base 89 12 (.slice (some ⟨g,0,none⟩) N c) N (ZB ys))∧Hid (Below base w wr)∧Hid (StB l0 ys bs))
   case atStart=>exact⟨20,_,_,zs,by first | rfl | go_num,rfl,rfl,by omega,by omega,by omega,hz,HV,HB,HA⟩
   case round =>
    clear HV HB HA
    obtain⟨bs,a1,b1,xs,rfl,rfl,rfl,hbs1,hbs2,hg2,hxs,HV,HB,HA⟩:=hrel
    by_cases hbN2:bs<N
    ·have hbz2:(bs:Int)<(N:Int):=by omega
     obtain⟨tb,htb⟩ : ∃ d,d=2 * bs:=⟨_,rfl⟩
     have ktb:IntKind.i64.wrap (2 * (bs:Int))=(tb:Int):=by rw[IntWalk.i64_in _ (by omega)];omega
     have ktb':IntKind.i64.wrap ((bs:Int) * 2)=(tb:Int):=by rw[IntWalk.i64_in _ (by omega)];omega
     have ht1:tb≤2 * bs:=by omega
     have ht2:2 * bs≤tb:=by omega
     replace htb:=hid htb
     have HM:=hid HA.out.start
     go_wp2
     go_loopg [7,8] (N+tb) (fun g1 va vb wr=>∃ (q a b:Nat) (ys:List Nod),va=.int .i64 (a:Int)∧vb=.int .i64 (b:Int)∧Hid (a=q * (2 * bs))∧b≤a+tb∧a+tb≤b∧a≤N∧N+tb - a≤g1∧ys.length=N∧Hid (wr.ownsRow base 89 12 (.slice (some ⟨g,0,none⟩) N c) N (ZB ys))∧Hid (Below base w wr)∧Hid (StM l0 ys bs q))
     case atStart=>exact⟨0,0,tb,xs,by first | rfl | go_num,by first | rfl | go_num,hid (by omega),by omega,by omega,by omega,by omega,hxs,HV,HB,HM⟩
     case round =>
      clear HV HB HM
      obtain⟨q2,a2,b2,us,rfl,rfl,hq2,hb3,hb4,haN2,hg3,hus,HV,HB,HM⟩:=hrel
      obtain⟨m2,hm2⟩ : ∃ d,d=a2+bs:=⟨_,rfl⟩
      have km2:IntKind.i64.wrap ((a2:Int)+(bs:Int))=(m2:Int):=by rw[IntWalk.i64_in _ (by omega)];omega
      have hm3:m2≤a2+bs:=by omega
      have hm4:a2+bs≤m2:=by omega
      by_cases hbN3:b2≤N
      ·have hbz3:(b2:Int)≤(N:Int):=by omega
       obtain⟨d,hd⟩ : ∃ d,d=b2+tb:=⟨_,rfl⟩
       have kd:IntKind.i64.wrap ((b2:Int)+(tb:Int))=(d:Int):=by rw[IntWalk.i64_in _ (by omega)];omega
       have hd1:d≤b2+tb:=by omega
       have hd2:b2+tb≤d:=by omega
       replace hd:=hid hd
       have eb:b2=q2 * (2 * bs)+2 * bs:=by have:=hq2.out;omega
       obtain⟨P,U,V,S,hHv⟩:=HM.out.hv HP.out (b:=b2) (by omega) (by omega) (.inl eb)
       rw[←hq2.out,←hm2]at hHv
       have hHv':=hid hHv
       have hc:=hid (hsym.out wr a2 m2 b2 P U V S us hHv (by omega) (by omega) hus HV.out)
       replace hm2:=hid hm2
       replace eb:=hid eb
       clear hHv
       go_wp2_with fail
       refine hc.out.mono ?_
       rintro e w2 ⟨rfl,zs2,hz2,hv2,hbl2,hmr⟩
       obtain⟨x1,x2⟩:=hHv'.out.mended hmr
       rw[hq2.out,eb.out]at x1 x2
       have HM2:=hid (HM.out.step x1 x2)
       replace hv2:=hid hv2
       replace hbl2:=hid (HB.out.trans hbl2)
       replace hmr:=hid hmr
       clear x1 x2
       go_wp2
       go_roundg (N+tb - b2)
       case measure=>omega
       case rel=>exact⟨q2+1,b2,d,zs2,by first | rfl | go_num,by first | rfl | go_num,hid (by rw[eb.out,Nat.add_mul,Nat.one_mul]),by omega,by omega,hbN3,Nat.le_refl _,hz2,hv2,hbl2,HM2⟩
      ·have hbz3:¬ (b2:Int)≤(N:Int):=by omega
       have hqo:=hq2.out
       by_cases hmN:m2<N
       ·have hmz:(m2:Int)<(N:Int):=by omega
        obtain⟨P,U,V,S,hHv⟩:=HM.out.hv HP.out (b:=N) (by omega) (by omega) (.inr ⟨hus.symm,by omega⟩)
        rw[←hqo,←hm2]at hHv
        have hHv':=hid hHv
        have hc:=hid (hsym.out wr a2 m2 N P U V S us hHv (by omega) (by omega) hus HV.out)
        replace hm2:=hid hm2
        replace hqo:=hid hqo
        clear hHv
        go_wp2_with fail
        refine hc.out.mono ?_
        rintro e w2 ⟨rfl,zs2,hz2,hv2,hbl2,hmr⟩
        obtain⟨x1,x2⟩:=hHv'.out.mended hmr
        rw[hqo.out,←hus]at x1 x2
        have hqq:=hqo.out
        have HB2:=hid (HM.out.last (by omega) x1 x2)
        replace hv2:=hid hv2
        replace hbl2:=hid (HB.out.trans hbl2)
        replace hmr:=hid hmr
        clear x1 x2 hqq
        go_wp2
        go_roundg (N - tb)
        case measure=>omega
        case rel=>exact⟨tb,_,_,zs2,by first | rfl | go_num,rfl,rfl,by omega,by omega,Nat.le_refl _,hz2,hv2,hbl2,by rw[htb.out];exact HB2⟩
       ·have hmz:¬ (m2:Int)<(N:Int):=by omega
        have HB2:=hid (HM.out.rest (by omega))
        replace hm2:=hid hm2
        replace hqo:=hid hqo
        go_wp2
        go_roundg (N - tb)
        case measure=>omega
        case rel=>exact⟨tb,_,_,us,by first | rfl | go_num,rfl,rfl,by omega,by omega,Nat.le_refl _,hus,HV,HB,by rw[htb.out];exact HB2⟩
    ·have hbz2:¬ (bs:Int)<(N:Int):=by omega
     go_wp2
     go_end0
     have:=HA.out.all (by omega)
     exact⟨rfl,xs,hxs,HV.out,HB.out,this.1,this.2⟩
theorem Z9I (base g c N:Nat) (l0:List Nod) (w:World) (hN:l0.length=N) (hl:N≤1000) (hp:l0.Pairwise fun x y=>x.path<y.path) (hw:w.ownsRow base 89 12 (.slice (some ⟨g,0,none⟩) N c) N (ZB l0)) :
  Calls Tryz.prog 100 #[.slice (some ⟨g,0,none⟩) N c,(.func (.func 101) #[] #[])] w fun e w'=>e=.returned (.tuple #[])∧∃ ys,ys.length=N∧w'.ownsRow base 89 12 (.slice (some ⟨g,0,none⟩) N c) N (ZB ys)∧Below base w w'∧Srt Z25 ys∧ys.Perm l0:=by
 have hc:=hid (Z9H base g c N l0 w hN hl hp hw)
 clear hw hp
 go_enter Tryz.func100,Tryz.ntmps100
 go_wp2_with fail
 refine hc.out.mono ?_
 rintro e w2 ⟨rfl,h⟩
 replace h:=hid h
 go_wp2_with fail
 go_end0
 exact⟨rfl,h.out⟩
end
section
open Go.RowKit
theorem Zbm (v:Value) (w:World) :
  Calls Tryz.prog 186 #[v,.int .i64 0,.int .i64 0,.func (.func 101) #[] #[]] w fun e w'=>e=.returned (.tuple #[])∧w'=w:=by
 go_enter Tryz.func186,Tryz.ntmps186
 go_wp2
 go_loopg [8] 0 (fun g1 vi wr=>vi=.int .i64 1∧wr=w)
 case atStart=>exact⟨by first | rfl | go_num,rfl⟩
 case round =>
  obtain⟨rfl,rfl⟩:=hrel
  go_wp2
  go_end0
  exact⟨rfl,rfl⟩
theorem Z9J (v:Value) (w:World) :
  Calls Tryz.prog 151 #[v,.int .i64 0,.func (.func 101) #[] #[]] w fun e w'=>e=.returned (.tuple #[])∧w'=w:=by
 have hc:=hid (Zbm v w)
 go_enter Tryz.func151,Tryz.ntmps151
 go_wp2
 go_loopg [7,8] 0 (fun g1 va vb wr=>va=.int .i64 0∧vb=.int .i64 20∧wr=w)
 case atStart=>exact⟨by first | rfl | go_num,by first | rfl | go_num,rfl⟩
 case round =>
  obtain⟨rfl,rfl,rfl⟩:=hrel
  go_wp2_with fail
  refine hc.out.mono ?_
  rintro e w2 ⟨rfl,rfl⟩
  go_wp2
  go_loopg [6,7,8] 0 (fun g1 vs va vb wr=>vs=.int .i64 20∧va=.int .i64 0∧vb=.int .i64 20∧wr=w2)
  case atStart=>exact⟨by first | rfl | go_num,rfl,rfl,rfl⟩
  case round =>
   obtain⟨rfl,rfl,rfl,rfl⟩:=hrel
   go_wp2
   go_end0
   exact⟨rfl,rfl⟩
theorem Z9K (w:World) :
  Calls Tryz.prog 100 #[.slice none 0 0,(.func (.func 101) #[] #[])] w fun e w'=>e=.returned (.tuple #[])∧w'=w:=by
 have hc:=hid (Z9J (.slice none 0 0) w)
 go_enter Tryz.func100,Tryz.ntmps100
 go_wp2_with fail
 refine hc.out.mono ?_
 rintro e w2 ⟨rfl,rfl⟩
 go_wp2_with fail
 go_end0
 exact⟨rfl,rfl⟩
theorem Z9L (base n:Nat) (v:Value) (l0:List Nod) (w:World) (hn:n=l0.length) (hl:l0.length≤1000) (hp:Z16 l0) (hw:w.ownsRow base 89 12 v n (ZB l0)) :
  Calls Tryz.prog 100 #[v,(.func (.func 101) #[] #[])] w fun e w'=>e=.returned (.tuple #[])∧∃ ys,ys.length=n∧w'.ownsRow base 89 12 v n (ZB ys)∧Below base w w'∧Srt Z25 ys∧ys.Perm l0:=by
 rcases hw.2 with ⟨rfl,h0⟩ |⟨g,cap,cur,rfl,_⟩
 ·have e:l0=[]:=by
   subst hn
   exact List.length_eq_zero_iff.1 h0
  subst e
  refine(Z9K w).mono ?_
  rintro e w2 ⟨rfl,rfl⟩
  exact⟨rfl,[],by rw[hn],hw,Below.refl _ _,Srt.nil,List.Perm.refl _⟩
 ·exact Z9I base g _ n l0 w hn.symm (by omega) hp hw
theorem Z9M {l:List Nod} {k:Nat} (hk:k<l.length) (d:Nat):Z1r (l.take (k+1)) d=Z1r (l.take k) d++(if Z1m d l[k] then [l[k]] else []):=by
 unfold Z1r
 rw[List.take_succ_eq_append_getElem hk,List.filter_append]
 cases h:Z1m d l[k] <;> simp[h]
def Z7t (w:World) (l:List Nod) (d:Nat) (e:Ending) (w':World):Prop:=∃ r ks,e=.returned r∧Z3 w' r ks∧Below w.heap.size w w'∧Srt Z25 ks∧ks.Perm (Z1r l d)
set_option maxHeartbeats 3200000 in
theorem Z7u (v:Value) (x:Nat) (l:List Nod) (d:Nat) (w:World) (hv:Z3 w v l) (hs:Z16 l) (hl:l.length≤1000) :
  Calls Tryz.prog 51 #[.agg #[.int .u64 (x:Int),v],.int .u64 (d:Int)] w (Z7t w l d):=by
 obtain⟨a,c,rfl,g1,g2⟩:=hv.form
 unfold maxLen at g2
 obtain⟨W,hW⟩ : ∃ W,W=w.alloc (.cells #[.int .u64 (x:Int),.slice a l.length c] 30):=⟨_,rfl⟩
 have hb0:Below w.heap.size w W:=by rw[hW];exact(Below.refl w.heap.size w).alloc (Nat.le_refl _) _
 have hx0:W.heap[w.heap.size]?=some (.cells #[.int .u64 (x:Int),.slice a l.length c] 30 (0,0)):=by rw[hW,heap_alloc_new]
 have e1:=Z0 hx0 1
 have hkl0 : ∀ k,(Z1r (l.take k) d).length≤k:=fun k=>Nat.le_trans (List.length_filter_le _ _) (by simp;omega)
 have hsw:w.heap.size≤W.heap.size:=hb0.size
 replace hv:=hid hv
 replace hb0:=hid hb0
 replace hs:=hid hs
 replace hkl0:=hid hkl0
 clear hx0
 go_enter Tryz.func51,Tryz.ntmps51
 go_wp2_with (rw[←hW];replace hW:=hid hW)
 go_loopw [5,11] (fun ov kv wr=>∃ (k m:Nat) (acc:List Nod),k≤l.length∧kv=.int .i64 (k:Int)∧Hid (Below w.heap.size w wr)∧m=acc.length∧Hid (acc=Z1r (l.take k) d)∧wr.ownsRow w.heap.size 89 12 ov m (ZB acc)) (fun _ kv _=>l.length - (intOf kv).toNat)
 case atStart=>exact⟨0,0,[],by omega,rfl,hb0,rfl,hid rfl,World.ownsRow_nil _ _ _ _⟩
 case round =>
  obtain⟨k,m,acc,hk,rfl,hB,hm,hacc,hown⟩:=hrel
  obtain⟨oa,oc,rfl⟩:=Z1V hown
  have hmk:m≤k:=by rw[hm,hacc.out];exact hkl0.out k
  by_cases hkl:k<l.length
  ·obtain⟨b,o,ha,hr⟩:=(hv.out.below hB.out).range k hkl
   subst ha
   have hst:=hid (Z9M hkl d)
   generalize l[k]=n at *
   have hnew:=hid (heap_alloc_new wr (.cells Zk.cells 89))
   obtain⟨W3,hW3⟩ : ∃ W,W=Z1J wr n:=⟨_,rfl⟩
   have hb3:Below wr.heap.size wr W3:=by rw[hW3];exact ZD _ _
   have hn3:=hid (show W3.heap[wr.heap.size]?=some (.cells n.cells 89 (0,0)) by rw[hW3];exact ZK _ _)
   have hB3:=hid (sn hB.out hb3)
   have hown3:=hid (ZT hown hb3)
   have hkc:=hid (Z96 n d W3)
   unfold Z1J at hW3
   rw[Zc]at hW3 hnew
   replace hr:=hid hr
   replace hm:=hid hm
   clear hb3 hB hown
   go_wp2_with (first
    |(refine Zx (by rfl) 89 (.tmp 13) (by rfl) b (o+k * 12) (by rfl) n.cells _ hr.out Tryz.underlying89 (by rfl) (by kernel_rfl) ?_)
    |(refine wpList_store_row (by rfl) 89 (.tmp 7) (.tmp 14) (by rfl) wr.heap.size n.cells (by rfl) (by rfl) 89 _ hnew.out (by kernel_rfl) (by kernel_rfl) (Zw n) ?_)
    |(rw[←hW3];replace hW3:=hid hW3)
    |(refine wpList_load_row (by rfl) 89 (.tmp 7) (by rfl) wr.heap.size (by rfl) 89 n.cells (0,0) _ hn3.out Tryz.underlying89 (by rfl) (by kernel_rfl) ?_))
   refine hkc.out.mono ?_
   rintro e w4 ⟨rfl,hb4⟩
   have hB4:=hid (sn hB3.out hb4)
   have hn4:=hid ((hb4.block _ (lt_of_block hn3.out)).trans hn3.out)
   have hown4:=hid (ZT hown3.out hb4)
   clear hb4 hkc hr hnew hn3 hB3 hown3
   generalize wr.heap.size=z at *
   rcases hkb:Z1m d n with _ | _
   ·have ha2:=hid (show acc=Z1r (l.take (k+1)) d by rw[hst.out,hkb,hacc.out];simp)
    clear hkb hst
    go_wp2_with fail
    go_roundw
    case rel=>exact⟨k+1,m,acc,by omega,by go_num,hB4,hm.out,ha2,hown4.out⟩
    case measure=>simp[intOf];omega
   ·have ha2:=hid (show acc++[n]=Z1r (l.take (k+1)) d by rw[hst.out,hkb,hacc.out];simp)
    have hone:=hid (Zw n)
    obtain⟨W5,hW5⟩ : ∃ W,W=w4.alloc (.cells n.cells 89):=⟨_,rfl⟩
    have hn5:=hid (show W5.heap[w4.heap.size]?=some (.cells n.cells 89 (0,0)) by rw[hW5,heap_alloc_new])
    have hB5:=hid (show Below w.heap.size w W5 by rw[hW5];exact hB4.out.alloc hB4.out.size _)
    have hown5:=hid (show W5.ownsRow w.heap.size 89 12 (.slice oa m oc) m (ZB acc) by rw[hW5];exact hown4.out.alloc _)
    clear hkb hst hB4 hown4
    rw[Z7]at hW5 hn4
    go_wp2_with (first
     |(refine wpList_load_row (by rfl) 89 (.tmp 7) (by rfl) z (by rfl) 89 _ (0,0) _ hn4.out Tryz.underlying89 (by rfl) (by kernel_rfl) ?_)
     |(rw[←hW5];replace hW5:=hid hW5)
     |(at_builtin;refine Z1q ZaP _ rfl (.tmp 18) (.tmp 20) rfl w.heap.size (.slice oa m oc) m (ZB acc) rfl hown5.out (.slice (some ⟨w4.heap.size,0,none⟩) 1 1) 1 n.cells.toList rfl (Z15.of_block hn5.out rfl (by unfold maxLen;omega)) (by intro u hu;exact(Array.all_eq_true_iff_forall_mem.1 hone.out) u (by simpa using hu)) (by unfold maxLen;omega) (by omega) hB5.out.size ?_))
    intro a' c' w' h2 h3
    have hB6:=hid (hB5.out.grown h3 hB5.out.size (fun j hj=>(hown5.out.lt j hj).1))
    have hown6:=hid (show w'.ownsRow w.heap.size 89 12 (.slice a' (m+1) c') (m+1) (ZB (acc++[n])) by
     rw[Z28,show ZB [n]=n.cells.toList by simp[ZB]];exact h2)
    clear h2 h3 hown5 hB5
    go_wp2_with fail
    go_roundw
    case rel=>exact⟨k+1,m+1,acc++[n],by omega,by go_num,hB6,by rw[List.length_append,←hm.out];rfl,ha2,hown6.out⟩
    case measure=>simp[intOf];omega
  ·obtain rfl:k=l.length:=by omega
   have hacc2:acc=Z1r l d:=by have:=hacc.out;rwa [List.take_length]at this
   have hsk:Z16 acc:=by rw[hacc2];exact hs.out.filter _
   have hso:=hid (Z9L w.heap.size m (.slice oa m oc) acc wr hm (by omega) hsk hown)
   replace hacc2:=hid hacc2
   replace hm:=hid hm
   replace hown:=hid hown
   clear hsk
   go_wp2_with fail
   refine hso.out.mono ?_
   rintro e w5 ⟨rfl,ys,hy,hv5,hb5,hs5,hp5⟩
   have hnd:=hid (Z98 (.slice oa m oc) ys w5 (Z3.of_own hv5))
   have hB5:=hid (hB.out.trans hb5)
   replace hs5:=hid hs5
   replace hp5:=hid hp5
   clear hv5 hb5
   go_wp2_with fail
   refine hnd.out.mono ?_
   rintro e w6 ⟨v',rfl,hv6,rfl⟩
   replace hv6:=hid hv6
   go_wp2_with fail
   go_ret
   exact⟨v',ys,rfl,hv6.out,hB5.out,hs5.out,by rw[←hacc2.out];exact hp5.out⟩
end
section
open Go.RowKit
theorem Z6q (t:Tr) (p:Nat) (who:ByteArray) (now:Nat) (n:Nod) (hg:ZM t.n p=some n) (h1:p≠1) (h2:n.gone=false) (h3:Z1r t.n p=[]):ZQ t p who now=match ZM t.n n.up with
  | none=>(⟨t.next,Z1B t.n (Z3A n)⟩,0)
  | some d=>(⟨t.next,Z1B (Z1B t.n (Z3A n)) (ZW d who now)⟩,0):=by
 unfold ZQ
 rw[hg]
 simp only
 rw[if_neg h1,h2,if_neg (by simp),if_neg (by simp[h3])]
 rfl
theorem Z9N {l:List Nod} {a:Nod} {p:Nat} (h:(ZM l p).isSome=true):(ZM (Z1B l a) p).isSome=true:=by
 cases hg:ZM (Z1B l a) p with
 | some y=>rfl
 | none =>
  cases hl:ZM l p with
  | none=>rw[hl]at h;cases h
  | some y =>
   obtain⟨h1,h2⟩:=Zr hl
   have:=Z1X.1 hg
   by_cases e:p=a.path
   ·exact absurd e.symm (this a (ZA.2 (.inl rfl)))
   ·exact absurd h2 (this y (ZA.2 (.inr ⟨h1,by rw[h2];exact e⟩)))
theorem ZdM {n:Nod} {X:World} {k:Nat} {T:TypeId} {fr:Nat×Nat} (h:X.heap[k]?=some (.cells n.cells T fr)):X.cell? ⟨k,9,none⟩=some (.int .u64 (n.up:Int)):=Z0 h 9
set_option maxHeartbeats 6400000 in
theorem Z3r (v:Value) (x:Nat) (l:List Nod) (p:Nat) (who:ByteArray) (now:Nat) (w:World) (hv:Z3 w v l) (ht:TrOk l) (hnow:now<4294967296) :
  Calls Tryz.prog 48 #[.agg #[.int .u64 (x:Int),v],.int .u64 (p:Int),.string who,.int .u32 (now:Int)] w (Z31 w (ZQ ⟨x,l⟩ p who now)):=by
 obtain⟨a,c,rfl,g1,g2⟩:=hv.form
 unfold maxLen at g2
 obtain⟨W,hW⟩ : ∃ W,W=(w.alloc (.cells #[.int .u64 (x:Int),.slice a l.length c] 30)).alloc (.cells #[.int .u64 0,.slice none 0 0] 30):=⟨_,rfl⟩
 have hb0:Below w.heap.size w W:=by rw[hW];exact((Below.refl w.heap.size w).alloc (Nat.le_refl _) _).alloc (by simp) _
 have hx0:W.heap[w.heap.size]?=some (.cells #[.int .u64 (x:Int),.slice a l.length c] 30 (0,0)):=by rw[hW,heap_alloc_old _ _ (by simp),heap_alloc_new]
 have hy0:W.heap[w.heap.size+1]?=some (.cells #[.int .u64 0,.slice none 0 0] 30 (0,0)):=by rw[hW];exact Z27 _ _ _
 have hfi:=hid (Z22 _ x l p W (hv.below hb0) ht.sort (by have:=ht.few;omega))
 have hap:=hid (fun X (h:Z3 X (.slice a l.length c) l)=>Z2r _ x l X h (by have:=ht.few;omega) ht.low)
 have e0:=Z0 hx0 0
 have e1:=Z0 hx0 1
 have hv0:=hid (hv.below hb0)
 replace hb0:=hid hb0
 replace hx0:=hid hx0
 replace hy0:=hid hy0
 go_enter Tryz.func48,Tryz.ntmps48
 go_upto_region 1 with (rw[←hW];replace hW:=hid hW)
 try (rw[←hW];replace hW:=hid hW)
 go_wp2_with fail
 refine hfi.out.mono ?_
 rintro e w2 ⟨rfl,hb2⟩
 have hB2:=hid (sn hb0.out hb2)
 have hs2:=hid (lt_of_block ((hb2.block _ (lt_of_block hy0.out)).trans hy0.out))
 obtain⟨n,hn⟩ : ∃ n,n=Z1M l p:=⟨_,rfl⟩
 have hnew:=hid (heap_alloc_new w2 (.cells Zk.cells 89))
 obtain⟨X,hX⟩ : ∃ W,W=Z1J w2 n:=⟨_,rfl⟩
 have hbX:Below w2.heap.size w2 X:=by rw[hX];exact ZD _ _
 have hBX:=hid (sn hB2.out hbX)
 have hA:TrSt w.heap.size w2.heap.size (w.heap.size+1) x (.slice a l.length c) l n X :=
  ⟨(hbX.block _ (by have:=hs2.out;omega)).trans ((hb2.block _ (lt_of_block hx0.out)).trans hx0.out),by rw[hX];exact ZK _ _,(hbX.block _ hs2.out).trans ((hb2.block _ (lt_of_block hy0.out)).trans hy0.out),(hv0.out.below hb2).below hbX⟩
 have hapc:=hid (hap.out X hA.row)
 have q0:=hA.t0
 have q1:=hA.t1
 unfold Z1J at hX
 rw[Zc]at hX hnew
 rw[←hn]
 clear hb2 hbX hfi e0 e1 hB2 hx0 hy0 hv0 hb0
 replace hA:=hid hA
 replace hn:=hid hn
 go_upto_region 2 with (first
  |(rw[←hX];replace hX:=hid hX)
  |(refine wpList_store_row (by rfl) 89 (.tmp 10) (.tmp 20) (by rfl) w2.heap.size n.cells (by rfl) (by rfl) 89 _ hnew.out (by kernel_rfl) (by kernel_rfl) (Zw n) ?_))
 try (rw[←hX];replace hX:=hid hX)
 clear hnew
 generalize w2.heap.size=z at *
 have q10:X.cell? ⟨z,10,none⟩=some (.bool n.gone):=Z0 hA.out.nd 10
 cases hg:ZM l p with
 | none =>
  have hdE:=hid (show ZQ ⟨x,l⟩ p who now=(⟨x,l⟩,6) by unfold ZQ;rw[hg])
  simp only[Option.isSome_none]
  clear hg
  go_wp2_with fail
  refine hapc.out.mono ?_
  rintro e w9 ⟨v9,rfl,hv9,hf9,hb9⟩
  have hres:=hid (hA.out.below hb9).res
  have hB9:=hid (sn hBX.out hb9)
  have hsz:=hid hBX.out.size
  have hlt:=hid (lt_of_block hA.out.res)
  have hN:=hid (Z3.other (w':=w9.setRow (w.heap.size+1) #[.int .u64 (x:Int),v9]) hv9 (w.heap.size+1) (fun e=>by have:=hf9 _ e;have:=hlt.out;omega) (by simp) (fun k hk=>setRow_other _ _ _ _ hk))
  have hF:=hid (show ∀ k,v9.ownBlock=some k→w.heap.size≤k from fun k hk=>Nat.le_trans hsz.out (hf9 k hk))
  obtain⟨a9,c9,rfl,_,_⟩:=hv9.form
  clear hb9 hv9 hf9 hapc q0 q1 q10
  go_wp2_with (refine wpList_store_row (by rfl) 30 (.tmp 8) (.tmp 40) (by rfl) (w.heap.size+1) #[.int .u64 (x:Int),.slice a9 l.length c9] (by rfl) (by rfl) 30 _ hres.out (by kernel_rfl) (by kernel_rfl) (by kernel_rfl) ?_)
  refine bodyPost_ret (Zy rfl _ _ (w.heap.size+1) _ _ _ _ _ rfl rfl (setRow_heap _ _ _ #[.int .u64 (x:Int),.slice a9 l.length c9] _ _ hres.out) Tryz.underlying30 rfl (by kernel_rfl)) rfl ?_
  refine⟨.slice a9 l.length c9,?_,?_,hF.out,below_setRow hB9.out (by omega) _⟩
  ·rw[hdE.out];rfl
  ·rw[hdE.out];exact hN.out
 | some y =>
  have hny:n=y:=by rw[hn.out];unfold Z1M;rw[hg];rfl
  subst hny
  simp only[Option.isSome_some]
  by_cases h1:p=1
  ·have hdE:=hid (show ZQ ⟨x,l⟩ p who now=(⟨x,l⟩,5) by unfold ZQ;rw[hg];simp only;rw[if_pos h1])
   have k1:((p:Int) == 1)=true:=by simpa using (by omega:(p:Int)=1)
   clear hg h1
   go_wp2_with fail
   refine hapc.out.mono ?_
   rintro e w9 ⟨v9,rfl,hv9,hf9,hb9⟩
   have hres:=hid (hA.out.below hb9).res
   have hB9:=hid (sn hBX.out hb9)
   have hsz:=hid hBX.out.size
   have hlt:=hid (lt_of_block hA.out.res)
   have hN:=hid (Z3.other (w':=w9.setRow (w.heap.size+1) #[.int .u64 (x:Int),v9]) hv9 (w.heap.size+1) (fun e=>by have:=hf9 _ e;have:=hlt.out;omega) (by simp) (fun k hk=>setRow_other _ _ _ _ hk))
   have hF:=hid (show ∀ k,v9.ownBlock=some k→w.heap.size≤k from fun k hk=>Nat.le_trans hsz.out (hf9 k hk))
   obtain⟨a9,c9,rfl,_,_⟩:=hv9.form
   clear hb9 hv9 hf9 hapc q0 q1 q10
   go_wp2_with (refine wpList_store_row (by rfl) 30 (.tmp 8) (.tmp 40) (by rfl) (w.heap.size+1) #[.int .u64 (x:Int),.slice a9 l.length c9] (by rfl) (by rfl) 30 _ hres.out (by kernel_rfl) (by kernel_rfl) (by kernel_rfl) ?_)
   refine bodyPost_ret (Zy rfl _ _ (w.heap.size+1) _ _ _ _ _ rfl rfl (setRow_heap _ _ _ #[.int .u64 (x:Int),.slice a9 l.length c9] _ _ hres.out) Tryz.underlying30 rfl (by kernel_rfl)) rfl ?_
   refine⟨.slice a9 l.length c9,?_,?_,hF.out,below_setRow hB9.out (by omega) _⟩
   ·rw[hdE.out];rfl
   ·rw[hdE.out];exact hN.out
  have k1:((p:Int) == 1)=false:=by rw[beq_eq_false_iff_ne];omega
  cases hgn:n.gone with
  | true =>
   have hdE:=hid (show ZQ ⟨x,l⟩ p who now=(⟨x,l⟩,6) by unfold ZQ;rw[hg];simp only;rw[if_neg h1,hgn];rfl)
   rw[hgn]at q10
   clear hg hgn h1
   go_wp2_with fail
   refine hapc.out.mono ?_
   rintro e w9 ⟨v9,rfl,hv9,hf9,hb9⟩
   have hres:=hid (hA.out.below hb9).res
   have hB9:=hid (sn hBX.out hb9)
   have hsz:=hid hBX.out.size
   have hlt:=hid (lt_of_block hA.out.res)
   have hN:=hid (Z3.other (w':=w9.setRow (w.heap.size+1) #[.int .u64 (x:Int),v9]) hv9 (w.heap.size+1) (fun e=>by have:=hf9 _ e;have:=hlt.out;omega) (by simp) (fun k hk=>setRow_other _ _ _ _ hk))
   have hF:=hid (show ∀ k,v9.ownBlock=some k→w.heap.size≤k from fun k hk=>Nat.le_trans hsz.out (hf9 k hk))
   obtain⟨a9,c9,rfl,_,_⟩:=hv9.form
   clear hb9 hv9 hf9 hapc q0 q1 q10
   go_wp2_with (refine wpList_store_row (by rfl) 30 (.tmp 8) (.tmp 40) (by rfl) (w.heap.size+1) #[.int .u64 (x:Int),.slice a9 l.length c9] (by rfl) (by rfl) 30 _ hres.out (by kernel_rfl) (by kernel_rfl) (by kernel_rfl) ?_)
   refine bodyPost_ret (Zy rfl _ _ (w.heap.size+1) _ _ _ _ _ rfl rfl (setRow_heap _ _ _ #[.int .u64 (x:Int),.slice a9 l.length c9] _ _ hres.out) Tryz.underlying30 rfl (by kernel_rfl)) rfl ?_
   refine⟨.slice a9 l.length c9,?_,?_,hF.out,below_setRow hB9.out (by omega) _⟩
   ·rw[hdE.out];rfl
   ·rw[hdE.out];exact hN.out
  | false =>
   obtain⟨hmem,hpath⟩:=Zr hg
   rw[hgn]at q10
   have hkd:=hid (Z7u _ x l p X hA.out.row ht.sort (by have:=ht.few;omega))
   clear hapc
   go_wp2_with fail
   refine hkd.out.mono ?_
   rintro e w3 ⟨r3,ks,rfl,hks,hb3,hsrt,hperm⟩
   obtain⟨a3,c3,rfl,_,_⟩:=hks.form
   have hlen:=hperm.length_eq
   clear hks hsrt hperm hkd
   have hA0:=hA.out.below hb3
   have hBX0:=hid (sn hBX.out hb3)
   clear hA hBX q0 q1 q10 hb3
   have hA:=hid hA0
   have hBX:=hBX0
   clear hBX0
   have q0:=hA0.t0
   have q1:=hA0.t1
   clear hA0
   obtain⟨kn,hkn⟩ : ∃ kn,kn=ks.length:=⟨_,rfl⟩
   rw[←hkn]
   by_cases hk0:Z1r l p=[]
   case neg =>
    have hdE:=hid (show ZQ ⟨x,l⟩ p who now=(⟨x,l⟩,15) by unfold ZQ;rw[hg];simp only;rw[if_neg h1,hgn,if_neg (by simp),if_pos hk0])
    have hkz:(0:Int)<(kn:Int):=by
     have:0<(Z1r l p).length:=List.length_pos_iff.2 hk0
     omega
    have hapc:=hid (hap.out w3 hA.out.row)
    clear hg h1 hlen hkn hk0 hgn
    go_wp2_with fail
    refine hapc.out.mono ?_
    rintro e w9 ⟨v9,rfl,hv9,hf9,hb9⟩
    have hres:=hid (hA.out.below hb9).res
    have hB9:=hid (sn hBX.out hb9)
    have hsz:=hid hBX.out.size
    have hlt:=hid (lt_of_block hA.out.res)
    have hN:=hid (Z3.other (w':=w9.setRow (w.heap.size+1) #[.int .u64 (x:Int),v9]) hv9 (w.heap.size+1) (fun e=>by have:=hf9 _ e;have:=hlt.out;omega) (by simp) (fun k hk=>setRow_other _ _ _ _ hk))
    have hF:=hid (show ∀ k,v9.ownBlock=some k→w.heap.size≤k from fun k hk=>Nat.le_trans hsz.out (hf9 k hk))
    obtain⟨a9,c9,rfl,_,_⟩:=hv9.form
    clear hb9 hv9 hf9 hapc q0 q1
    go_wp2_with (refine wpList_store_row (by rfl) 30 (.tmp 8) (.tmp 40) (by rfl) (w.heap.size+1) #[.int .u64 (x:Int),.slice a9 l.length c9] (by rfl) (by rfl) 30 _ hres.out (by kernel_rfl) (by kernel_rfl) (by kernel_rfl) ?_)
    refine bodyPost_ret (Zy rfl _ _ (w.heap.size+1) _ _ _ _ _ rfl rfl (setRow_heap _ _ _ #[.int .u64 (x:Int),.slice a9 l.length c9] _ _ hres.out) Tryz.underlying30 rfl (by kernel_rfl)) rfl ?_
    refine⟨.slice a9 l.length c9,?_,?_,hF.out,below_setRow hB9.out (by omega) _⟩
    ·rw[hdE.out];rfl
    ·rw[hdE.out];exact hN.out
   have hdT:=hid (Z6q ⟨x,l⟩ p who now n hg h1 hgn hk0)
   have hkz:kn=0:=by rw[hk0]at hlen;rw[hkn,hlen];rfl
   subst hkz
   have hup:=hid (Z22 _ x l n.up w3 hA.out.row ht.sort (by have:=ht.few;omega))
   have q9:=ZdM hA.out.nd
   have hsome:=hid (show(ZM l n.path).isSome=true by rw[hpath,hg];rfl)
   replace hmem:=hid hmem
   replace hpath:=hid hpath
   replace hgn:=hid hgn
   clear hlen hkn hk0 hg h1 hap
   go_wp2_with fail
   refine hup.out.mono ?_
   rintro e w4 ⟨rfl,hb4⟩
   clear hup
   have hA0:=hA.out.below hb4
   have hBX0:=hid (sn hBX.out hb4)
   clear hA hBX q0 q1 q9 hb4
   have hA:=hid hA0
   have hBX:=hBX0
   clear hBX0
   have q0:=hA0.t0
   have q1:=hA0.t1
   clear hA0
   have hs4:=hid (lt_of_block hA.out.nd)
   have hs4r:=hid (lt_of_block hA.out.res)
   have hnok:=hid (fun d (h:ZM l n.up=some d)=>ht.ok d (Zr h).1)
   obtain⟨d,hd⟩ : ∃ d,d=Z1M l n.up:=⟨_,rfl⟩
   have hnew:=hid (heap_alloc_new w4 (.cells Zk.cells 89))
   obtain⟨X2,hX2⟩ : ∃ W,W=Z1J w4 d:=⟨_,rfl⟩
   have hbX:Below w4.heap.size w4 X2:=by rw[hX2];exact ZD _ _
   have hD0:X2.heap[w4.heap.size]?=some (.cells d.cells 89 (0,0)):=by rw[hX2];exact ZK _ _
   have hX2s:=hid hbX.size
   unfold Z1J at hX2
   rw[Zc]at hX2 hnew
   rw[←hd]
   replace hD0:=hid hD0
   replace hd:=hid hd
   have hA0:=hA.out.below hbX
   have hBX0:=hid (sn hBX.out hbX)
   clear hA hBX q0 q1  hbX
   have hA:=hid hA0
   have hBX:=hBX0
   clear hBX0
   have q0:=hA0.t0
   have q1:=hA0.t1
   clear hA0
   obtain⟨is,his⟩ : ∃ is,is=(ZM l n.up).isSome:=⟨_,rfl⟩
   rw[←his]
   replace his:=hid his
   go_upto_region 14 with (first
    |(rw[←hX2];replace hX2:=hid hX2)
    |(refine wpList_store_row (by rfl) 89 (.tmp 13) (.tmp 47) (by rfl) w4.heap.size d.cells (by rfl) (by rfl) 89 _ hnew.out (by kernel_rfl) (by kernel_rfl) (Zw d) ?_))
   try (rw[←hX2];replace hX2:=hid hX2)
   clear hnew
   generalize w4.heap.size=z2 at *
   have hA0:=hA.out
   have c10:X2.cell? ⟨z,10,none⟩=some (.bool n.gone):=Z0 hA0.nd 10
   have f10:X2.frozen? ⟨z,10,none⟩=false:=Zb hA0.nd 10
   obtain⟨n1,hn1⟩ : ∃ n1:Nod,n1={n with gone:=true}:=⟨_,rfl⟩
   obtain⟨Y1,hY1⟩ : ∃ Y,Y=X2.setCell ⟨z,10,none⟩ (.bool true):=⟨_,rfl⟩
   have hBY:Below w.heap.size w Y1:=by rw[hY1];exact hBX.out.setCell (by show w.heap.size≤z;have:=hs2.out;omega) _
   have hAY:TrSt w.heap.size z (w.heap.size+1) x (.slice a l.length c) l n1 Y1:=by
    have hrow:=hv.below hBY
    rw[hY1]at hrow ⊢
    exact hA0.put (by have:=hs2.out;omega) (by have:=hs2.out;omega) 10 (.bool true) (by rw[hn1];rfl) hrow
   have c9:Y1.cell? ⟨z,9,none⟩=some (.int .u64 (n.up:Int)):=by have:=ZdM hAY.nd;rw[hn1]at this;exact this
   have f9:Y1.frozen? ⟨z,9,none⟩=false:=Zb hAY.nd 9
   obtain⟨n2,hn2⟩ : ∃ n2:Nod,n2=Z3A n:=⟨_,rfl⟩
   obtain⟨Y2,hY2⟩ : ∃ Y,Y=Y1.setCell ⟨z,9,none⟩ (.int .u64 0):=⟨_,rfl⟩
   have hBY2:Below w.heap.size w Y2:=by rw[hY2];exact hBY.setCell (by show w.heap.size≤z;have:=hs2.out;omega) _
   have hAY2:TrSt w.heap.size z (w.heap.size+1) x (.slice a l.length c) l n2 Y2:=by
    have hrow:=hv.below hBY2
    rw[hY2]at hrow ⊢
    exact hAY.put (by have:=hs2.out;omega) (by have:=hs2.out;omega) 9 (.int .u64 0) (by rw[hn2,hn1];rfl) hrow
   have hD2:=hid (show Y2.heap[z2]?=some (.cells d.cells 89 (0,0)) by
    have h4:=hs4.out
    rw[hY2,hY1]
    exact(Z1 (by show z2≠z;omega)).trans ((Z1 (by show z2≠z;omega)).trans hD0.out))
   have hst1:=hid (Z3c _ x l n2 Y2 hAY2.row ht.sort (by have:=ht.few;omega) (.inl (by rw[hn2];exact hsome.out)))
   have hnd:=hid hAY2.nd
   clear hA0 q0 q1 hA hBX hD0
   have q0:=hAY2.t0
   have q1:=hAY2.t1
   have hA:=hid hAY2
   have hBX:=hid hBY2
   obtain⟨l1,hl1⟩ : ∃ l1,l1=Z1B l n2:=⟨_,rfl⟩
   rw[←hl1]at hst1
   have hs1:=hid (show Z16 l1 by rw[hl1];exact ht.sort.set _)
   have hlen1:l1.length≤90:=by rw[hl1,Z4H ht.sort hmem.out n2 (by rw[hn2];rfl)];have:=ht.few;omega
   have hin1:=hid (fun d (h:ZM l n.up=some d)=>show(ZM l1 d.path).isSome=true by rw[hl1];exact Z9N (by rw[(Zr h).2,h];rfl))
   rw[←hn2,←hl1]at hdT
   clear hAY hAY2 hBY hBY2
   replace hn1:=hid hn1
   replace hn2:=hid hn2
   replace hl1:=hid hl1
   go_upto_region 15 with (first
    |(rw[←hY1];replace hY1:=hid hY1)
    |(rw[←hY2];replace hY2:=hid hY2))
   try (rw[←hY2];replace hY2:=hid hY2)
   clear c10 f10 c9 f9
   go_wp2_with (refine wpList_load_row (by rfl) 89 (.tmp 10) (by rfl) z (by rfl) 89 n2.cells (0,0) _ hnd.out Tryz.underlying89 (by rfl) (by kernel_rfl) ?_)
   refine hst1.out.mono ?_
   rintro e w5 ⟨v5,rfl,hv5,hf5,hb5⟩
   obtain⟨a5,c5,rfl,_,_⟩:=hv5.form
   obtain⟨k3,hk3⟩ : ∃ k,k=w5.heap.size:=⟨_,rfl⟩
   obtain⟨V3,hV3⟩ : ∃ V,V=w5.alloc (.cells #[.int .u64 (x:Int),.slice a5 l1.length c5] 30):=⟨_,rfl⟩
   have hbV:Below w5.heap.size w5 V3:=by rw[hV3];exact(Below.refl _ _).alloc (Nat.le_refl _) _
   have hb5V:=sn hb5 hbV
   have h5s:=hb5.size
   have hr5:=hA.out.below hb5V
   have hB5:=hid (sn hBX.out hb5V)
   have hT:TrSt k3 z2 (w.heap.size+1) x (.slice a5 l1.length c5) l1 d V3 :=
    ⟨by rw[hk3,hV3];exact heap_alloc_new _ _,(hb5V.block _ (lt_of_block hD2.out)).trans hD2.out,hr5.res,hv5.below hbV⟩
   have hlk:z2<k3∧w.heap.size+1<k3:=by
    have:=lt_of_block hD2.out
    have:=lt_of_block hA.out.res
    omega
   have hF5:=hid (show ∀ k,(Value.slice a5 l1.length c5).ownBlock=some k→w.heap.size+1<k from fun k hk=>by
    have:=hf5 k hk
    have:=lt_of_block hA.out.res
    omega)
   replace hT:=hid hT
   clear hb5 hbV hb5V hr5 hA hBX q0 q1 hv5 hf5 hst1 hnd hD2
   go_upto_region 16 with (rw[←hV3];replace hV3:=hid hV3)
   try (rw[←hV3];replace hV3:=hid hV3)
   rw[←hk3]
   replace hk3:=hid hk3
   cases hgu:ZM l n.up with
   | none =>
    have hdE:=hid (show ZQ ⟨x,l⟩ p who now=(⟨x,l1⟩,0) by rw[hdT.out,hgu])
    have hiz:is=false:=by rw[his.out,hgu];rfl
    subst hiz
    have hc:=hid hT.out.tr
    have hres:=hid hT.out.res
    have hN9:=hid hT.out.row
    have hF:=hF5
    have hB9:=hB5
    clear hgu h5s
    have y0:=Z0 hc.out 0
    have y1:=Z0 hc.out 1
    have hlt:=hid (lt_of_block hres.out)
    have hN:=hid (Z3.other (w':=V3.setRow (w.heap.size+1) #[.int .u64 (x:Int),.slice a5 l1.length c5]) hN9.out (w.heap.size+1) (fun e=>by have:=hF.out _ e;omega) (by simp) (fun k hk=>setRow_other _ _ _ _ hk))
    go_wp2_with (refine wpList_store_row (by rfl) 30 (.tmp 8) (.tmp 61) (by rfl) (w.heap.size+1) #[.int .u64 (x:Int),.slice a5 l1.length c5] (by rfl) (by rfl) 30 _ hres.out (by kernel_rfl) (by kernel_rfl) (by kernel_rfl) ?_)
    refine bodyPost_ret (Zy rfl _ _ (w.heap.size+1) _ _ _ _ _ rfl rfl (setRow_heap _ _ _ #[.int .u64 (x:Int),.slice a5 l1.length c5] _ _ hres.out) Tryz.underlying30 rfl (by kernel_rfl)) rfl ?_
    refine⟨.slice a5 l1.length c5,?_,?_,fun k hk=>by have:=hF.out k hk;omega,below_setRow hB9.out (by omega) _⟩
    ·rw[hdE.out];rfl
    ·rw[hdE.out];exact hN.out
   | some d' =>
    have hdd:d=d':=by rw[hd.out];unfold Z1M;rw[hgu];rfl
    subst hdd
    have hdE:=hid (show ZQ ⟨x,l⟩ p who now=(⟨x,Z1B l1 (ZW d who now)⟩,0) by rw[hdT.out,hgu])
    have hiz:is=true:=by rw[his.out,hgu];rfl
    subst hiz
    obtain⟨d1,hd1⟩ : ∃ d1,d1=ZW d who now:=⟨_,rfl⟩
    obtain⟨L,hL⟩ : ∃ L,L=Z1B l1 d1:=⟨_,rfl⟩
    have hdok:=hnok.out d hgu
    have hp1:d1.path=d.path:=by rw[hd1];rfl
    have htc:Hid (∀ Z,Calls Tryz.prog 93 #[.agg #[.int .u64 (d.path:Int),.int .u32 (d.vers:Int),.int .u32 (d.mode:Int),.int .u32 (d.atm:Int),.int .u32 (d.mtm:Int),.string d.name,.string d.uid,.string d.gid,.string d.muid,.int .u64 (d.up:Int),.bool d.gone,.string d.data],.string who,.int .u32 (now:Int)] Z fun e w'=>e=.returned (.agg d1.cells)∧Below Z.heap.size Z w'):=hid (fun Z=>by rw[hd1];exact Z3p d who now Z hdok)
    have hst2:Hid (∀ Z,Z3 Z (.slice a5 l1.length c5) l1→Calls Tryz.prog 92 #[.agg #[.int .u64 (x:Int),.slice a5 l1.length c5],.agg d1.cells] Z (Z2q Z x L)):=hid (fun Z hZ=>by rw[hL];exact Z3c _ x l1 d1 Z hZ hs1.out (by omega) (.inl (by rw[hp1];exact hin1.out d hgu)))
    rw[←hd1,←hL]at hdE
    replace hd1:=hid hd1
    replace hL:=hid hL
    replace ht:=hid ht
    replace hv:=hid hv
    clear hgu hp1 hdok h5s
    go_wp2_with fail
    have hT:=hT.out.below ((Below.refl V3.heap.size V3).drew)
    have q0:=hT.t0
    have q1:=hT.t1
    obtain⟨d0,d1',d2,d3,d4,d5,d6,d7,d8,d9,d10,d11⟩:=Z4h hT.nd
    have hBd:=(sn hB5.out ((Below.refl V3.heap.size V3).drew))
    go_region_with (first
      |(go_at_call 93;(with_reducible refine(htc.out _).mono ?_);rintro e wt ⟨rfl,hbt⟩;replace hT:=hT.below hbt;have q8:=hid hT.tr;replace hBd:=sn hBd hbt;have q2:=hT.t0;have q3:=hT.t1)
      |(go_at_call 92;(with_reducible refine(hst2.out _ hT.row).mono ?_);rintro e w6 ⟨v6,rfl,hv6,hf6,hb6⟩;obtain⟨a6,c6,rfl,_,_⟩:=hv6.form;replace hT:=hT.below hb6;replace hBd:=sn hBd hb6;have g0:=Z0 hT.tr 0;have g1:=Z0 hT.tr 1;have e0:=Zb hT.tr 0;have e1:=Zb hT.tr 1))
    all_goals
     have hlk2:=hlk.2
     have hv3s:=hid hT.tr
     obtain⟨Y9,hY9⟩ : ∃ Y,Y=(w6.setCell ⟨k3,0,none⟩ (.int .u64 (x:Int))).setCell ⟨k3,1,none⟩ (.slice a6 L.length c6):=⟨_,rfl⟩
     rw[←hY9]
     have hF:=hid (show ∀ k,(Value.slice a6 L.length c6).ownBlock=some k→k3<k from fun k hk=>by have:=hf6 k hk;have:=lt_of_block q8.out;omega)
     have hc:=hid (show Y9.heap[k3]?=some (.cells #[.int .u64 (x:Int),.slice a6 L.length c6] 30 (0,0)) by rw[hY9];exact Zg (Zg hT.tr 0 _) 1 _)
     have hres:=hid (show Y9.heap[w.heap.size+1]?=some (.cells #[.int .u64 0,.slice none 0 0] 30 (0,0)) by
      rw[hY9];exact(Z1 (by show w.heap.size+1≠k3;omega)).trans ((Z1 (by show w.heap.size+1≠k3;omega)).trans hT.res))
     have hN9:=hid (show Z3 Y9 (.slice a6 L.length c6) L by
      rw[hY9];exact Z3.other hv6 k3 (fun e=>by have:=hF.out _ e;omega) (by simp) (fun k hk=>(Z1 (by show k≠k3;exact hk)).trans (Z1 (by show k≠k3;exact hk))))
     have hB9:=hid (show Below w.heap.size w Y9 by rw[hY9];exact(hBd.setCell (by show w.heap.size≤k3;omega) _).setCell (by show w.heap.size≤k3;omega) _)
     replace hY9:=hid hY9
     clear hT hBd hbt hb6 hv6 hf6 g0 g1 e0 e1 q0 q1 q2 q3 d0 d1' d2 d3 d4 d5 d6 d7 d8 d9 d10 d11
     replace hlk:=hid hlk
     have y0:=Z0 hc.out 0
     have y1:=Z0 hc.out 1
     have hlt:=hid (lt_of_block hres.out)
     have hN:=hid (Z3.other (w':=Y9.setRow (w.heap.size+1) #[.int .u64 (x:Int),.slice a6 L.length c6]) hN9.out (w.heap.size+1) (fun e=>by have:=hF.out _ e;omega) (by simp) (fun k hk=>setRow_other _ _ _ _ hk))
     go_wp2_with (refine wpList_store_row (by rfl) 30 (.tmp 8) (.tmp 61) (by rfl) (w.heap.size+1) #[.int .u64 (x:Int),.slice a6 L.length c6] (by rfl) (by rfl) 30 _ hres.out (by kernel_rfl) (by kernel_rfl) (by kernel_rfl) ?_)
     refine bodyPost_ret (Zy rfl _ _ (w.heap.size+1) _ _ _ _ _ rfl rfl (setRow_heap _ _ _ #[.int .u64 (x:Int),.slice a6 L.length c6] _ _ hres.out) Tryz.underlying30 rfl (by kernel_rfl)) rfl ?_
     refine⟨.slice a6 L.length c6,?_,?_,fun k hk=>by have:=hF.out k hk;have:=hlk2;omega,below_setRow hB9.out (by omega) _⟩
     ·rw[hdE.out];rfl
     ·rw[hdE.out];exact hN.out
end
section
def Z4S:List (Nat×Value)→Array Value→Prop
 | [],_=>True
 | x :: xs,t=>t.getD x.1 undef=x.2∧Z4S xs t
theorem Z4S.all {X:List (Nat×Value)} {t:Array Value} (h:Z4S X t) : ∀ x∈X,t.getD x.1 undef=x.2:=by
 induction X with
 | nil=>intro x hx;cases hx
 | cons y ys ih =>
  intro x hx
  rcases List.mem_cons.1 hx with rfl | hx
  ·exact h.1
  ·exact ih h.2 x hx
def ZcY (X:List (Nat×Value)) (Q:Exit→Act→World→Prop):Exit→Act→World→Prop:=fun e a w =>
 match e with
 | .panic c=>∀ a':Act,a'.defers=a.defers→(∀ x∈X,a'.tmps.getD x.1 undef=x.2)→Q (.panic c) a' w
 | e=>Q e a w
theorem Z1H {X:List (Nat×Value)} {Q:Exit→Act→World→Prop} {a:Act} {w:World} (h:Q .normal a w):ZcY X Q .normal a w:=h
theorem Z1Z {X:List (Nat×Value)} {a:Act} {d:Option Tmp} (hd : ∀ x∈X,d≠some x.1) (h : ∀ x∈X,a.tmps.getD x.1 undef=x.2) (v:Value) : ∀ x∈X,(a.put d v).tmps.getD x.1 undef=x.2:=by
 intro x hx
 cases d with
 | none=>exact h x hx
 | some k =>
  have h1:=hd x hx
  have h2:=h x hx
  have hne:k≠x.1:=fun e=>h1 (by rw[e])
  show(a.tmps.setIfInBounds k v).getD x.1 undef=x.2
  rw[Array.getD_eq_getD_getElem?]at h2 ⊢
  rw[Array.getElem?_setIfInBounds_ne hne]
  exact h2
theorem Z9O {P:Program} {o:Oper} {a:Act} {K K':Act→World→Prop} {Q:Exit→Act→World→Prop} {X:List (Nat×Value)} (hd : ∀ x∈X,o.dst≠some x.1) (h : ∀ x∈X,a.tmps.getD x.1 undef=x.2)
  (hK : ∀ a w,(∀ x∈X,a.tmps.getD x.1 undef=x.2)→K a w→K' a w) {r:Result Next} (hh:o.upon P a K (ZcY X Q) r):o.upon P a K' Q r:=by
 cases r with
 | ok n w' =>
  cases n <;> simp only[Oper.upon]at hh ⊢ <;>
   first
    | exact hK _ _ (Z1Z hd h _) hh
    |(refine hK _ _ ?_ hh;first | exact Z1Z hd h _ | exact Z1Z (a:={a with defers:=_ :: a.defers}) hd h _)
    |(refine Calls.mono hh (fun e w'' he=>?_);cases e with
      | returned v=>exact hK _ _ (Z1Z hd h v) he
      | panicked c=>exact he a rfl h
      | outgrown=>exact he)
    | exact Rows.mono hh (fun v w'' he=>hK _ _ (Z1Z hd h v) he)
 | halt x w' =>
  cases x <;> simp only[Oper.upon]at hh ⊢
  exact hh a rfl h
theorem Z85 {P:Program} {md:Region.Mode} {ops:Array Oper} {Q:Exit→Act→World→Prop} (X:List (Nat×Value)) (hX : ∀ (i:Nat) (o:Oper),ops[i]?=some o→∀ x∈X,o.dst≠some x.1) :
  ∀ (fuel:Nat) (listed:Array Bool) (a:Act) (w:World),(∀ x∈X,a.tmps.getD x.1 undef=x.2)→wpAny P md ops (ZcY X Q) fuel listed a w→wpAny P md ops Q fuel listed a w:=by
 intro fuel
 induction fuel with
 | zero=>intro listed a w _ h;exact h
 | succ fuel ih =>
  intro listed a w ha h
  refine⟨h.1,fun i hi=>?_⟩
  have hop:=h.2 i hi
  unfold wpOp at hop ⊢
  cases ho:ops[i]? with
  | none=>rw[ho]at hop;exact ih _ _ _ ha hop
  | some o =>
   rw[ho]at hop
   simp only at hop ⊢
   by_cases hw:Region.wanted o (yielded ops a.tmps)=true
   ·rw[if_pos hw]at hop ⊢
    exact hop.imp (fun h2=>Z9O (hX i o ho) ha (fun a w hk h3=>ih _ _ _ hk h3) h2) id
   ·rw[if_neg hw]at hop ⊢
    exact ih _ _ _ (Z1Z (hX i o ho) ha undef) hop
theorem ZX {P:Program} {id:Nat} {ops:Array Oper} {Q:Exit→Act→World→Prop} {a:Act} {w:World} (X:List (Nat×Value)) (hm:P.follows .mixedOrders=true) (hX:ops.all (fun o=>X.all (fun x=>o.dst != some x.1))=true) (ha:Z4S X a.tmps)
  (h:wpAny P .any ops (ZcY X Q) ops.size (Array.replicate ops.size false) a w.drew):(Code.region id ops true).wp P Q a w :=
 wp_region_any hm (Z85 X (fun i o ho x hx e=>by
  rw[Array.all_eq_true_iff_forall_mem]at hX
  have h1:=hX o (Array.mem_of_getElem? ho)
  rw[List.all_eq_true]at h1
  have h2:=h1 x hx
  rw[e]at h2
  simp at h2) _ _ _ _ ha.all h)
def Z7v (ds:List Deferred) (a:Act):Act:={a with defers:=a.defers++ds}
theorem Z9P (t:Array Value) (ds:List Deferred):Z7v ds {tmps:=t,defers:=[]}={tmps:=t,defers:=ds}:=rfl
theorem Z3P (ds:List Deferred) (a:Act) (d:Option Tmp) (v:Value):(Z7v ds a).put d v=Z7v ds (a.put d v):=by cases d <;> rfl
theorem Z86 {P:Program} {o:Oper} {a:Act} {ds:List Deferred} {K K':Act→World→Prop} {Q:Exit→Act→World→Prop} {X:List (Nat×Value)} (hd : ∀ x∈X,o.dst≠some x.1) (h : ∀ x∈X,a.tmps.getD x.1 undef=x.2)
  (hK : ∀ a w,(∀ x∈X,a.tmps.getD x.1 undef=x.2)→K a w→K' (Z7v ds a) w) {r:Result Next} (hh:o.upon P a K (fun e a w=>ZcY X Q e (Z7v ds a) w) r):o.upon P (Z7v ds a) K' Q r:=by
 cases r with
 | ok n w' =>
  cases n <;> simp only[Oper.upon]at hh ⊢ <;>
   first
    |(rw[Z3P];exact hK _ _ (Z1Z hd h _) hh)
    |(have h2:=hK _ _ (Z1Z (a:={a with defers:=_ :: a.defers}) hd h undef) hh;rw[←Z3P]at h2;exact h2)
    |(refine Calls.mono hh (fun e w'' he=>?_);cases e with
      | returned v=>show K' ((Z7v ds a).put _ v) _;rw[Z3P];exact hK _ _ (Z1Z hd h v) he
      | panicked c=>exact he (Z7v ds a) rfl h
      | outgrown=>obtain⟨a,w,ha⟩:=he;exact⟨_,_,ha⟩)
    | exact Rows.mono hh (fun v w'' he=>by rw[Z3P];exact hK _ _ (Z1Z hd h v) he)
 | halt x w' =>
  cases x <;> simp only[Oper.upon]at hh ⊢
  exact hh (Z7v ds a) rfl h
theorem Z6r {P:Program} {md:Region.Mode} {ops:Array Oper} {S:World→Prop} {Q:Exit→Act→World→Prop} (X:List (Nat×Value)) (ds:List Deferred) (hX : ∀ (i:Nat) (o:Oper),ops[i]?=some o→∀ x∈X,o.dst≠some x.1) :
  ∀ (fuel:Nat) (listed:Array Bool) (a:Act) (w:World),(∀ x∈X,a.tmps.getD x.1 undef=x.2)→wpAnyH P md ops (fun e a w=>ZcY X Q e (Z7v ds a) w) S fuel listed a w→wpAnyH P md ops Q S fuel listed (Z7v ds a) w:=by
 intro fuel
 induction fuel with
 | zero=>intro listed a w _ h;exact h
 | succ fuel ih =>
  intro listed a w ha h
  refine⟨h.1,fun i hi=>?_⟩
  have hop:=h.2 i hi
  unfold wpOp at hop ⊢
  cases ho:ops[i]? with
  | none=>rw[ho]at hop;exact⟨hop.1,ih _ _ _ ha hop.2⟩
  | some o =>
   rw[ho]at hop
   simp only at hop ⊢
   by_cases hw:Region.wanted o (yielded ops a.tmps)=true
   ·rw[if_pos hw]at hop
    rw[if_pos (show Region.wanted o (yielded ops (Z7v ds a).tmps)=true from hw)]
    refine hop.imp (fun h2=>Z86 (hX i o ho) ha (fun a w hk h3=>⟨h3.1,ih _ _ _ hk h3.2⟩) h2) (fun h2=>⟨h2.1,?_⟩)
    obtain⟨a,w,ha⟩:=h2.2
    exact⟨_,_,ha⟩
   ·rw[if_neg hw]at hop
    rw[if_neg (show ¬ Region.wanted o (yielded ops (Z7v ds a).tmps)=true from hw),Z3P]
    exact⟨hop.1,ih _ _ _ (Z1Z (hX i o ho) ha undef) hop.2⟩
theorem Z36 {P:Program} {id:Nat} {ops:Array Oper} {S:World→Prop} {Q:Exit→Act→World→Prop} {t:Array Value} {ds:List Deferred} {w:World} (X:List (Nat×Value)) (hm:P.follows .mixedOrders=true) (hX:ops.all (fun o=>X.all (fun x=>o.dst != some x.1))=true) (ha:Z4S X t)
  (h:wpAnyH P .any ops (fun e a w=>ZcY X Q e (Z7v ds a) w) S ops.size (Array.replicate ops.size false) {tmps:=t,defers:=[]} w.drew):(Code.region id ops true).wp P Q {tmps:=t,defers:=ds} w :=
 wp_region_held (S:=S) hm (Z6r X ds (fun i o ho x hx e=>by
  rw[Array.all_eq_true_iff_forall_mem]at hX
  have h1:=hX o (Array.mem_of_getElem? ho)
  rw[List.all_eq_true]at h1
  have h2:=h1 x hx
  rw[e]at h2
  simp at h2) _ _ {tmps:=t,defers:=[]} _ ha.all h)
end
end Go.Proofs.YtkefjeabckainaaGreat
