/- symMergeCmpFunc, a lone node on the right: it moves down to its place. Conditions: two sorted stretches, the right one of one node, the left one of more.
symMergeCmpFunc, two stretches of more than one node: parted at their middle, turned, merged by parts. Conditions: two sorted stretches; the function does so for shorter ones.
symMergeCmpFunc, two stretches of more than one node: parted at their middle, turned, merged by parts. Conditions: two sorted stretches; the function does so for shorter ones. -/
import Derived.Test.YtkefjeabckainaaGreatFtB18
namespace Go.Proofs.YtkefjeabckainaaGreat
set_option maxRecDepth 100000
set_option linter.unusedVariables false
section
open Go.RowKit
attribute [local go_sem ↓] Z2u
set_option maxHeartbeats 6400000 in
theorem Zbk (base g c a m b N:Nat) (P U V S xs:List Nod) (w:World) (HH:Hv xs a m b P U V S) (hN:xs.length=N) (hl:N≤1000) (hw:w.ownsRow base 89 12 (.slice (some ⟨g,0,none⟩) N c) N (ZB xs)) (hm:a+1<m) (hb:b=m+1) :
  Calls Tryz.prog 187 #[.slice (some ⟨g,0,none⟩) N c,.int .i64 (a:Int),.int .i64 (m:Int),.int .i64 (b:Int),(.func (.func 101) #[] #[])] w fun e w'=>e=.returned (.tuple #[])∧∃ ys,ys.length=N∧w'.ownsRow base 89 12 (.slice (some ⟨g,0,none⟩) N c) N (ZB ys)∧Below base w w'∧Mrg P U V S ys:=by
 have MO:=hid (ZcX HH)
 have HV:=hid hw
 have HB:=hid (Below.refl base w)
 have hbd:=HH.bounds
 replace HH:=hid HH
 have mixed:Tryz.prog.follows Departure.mixedOrders=true:=by first | kernel_rfl | decide
 clear hw
 obtain⟨d,hd⟩ : ∃ d,d=m - a:=⟨_,rfl⟩
 have k0:IntKind.i64.wrap ((m:Int) - (a:Int))=(d:Int):=by rw[IntWalk.i64_in _ (by omega)];omega
 have k1:¬ (d:Int)=1:=by omega
 have k1':((d:Int) == 1)=false:=by simp;omega
 have k2:IntKind.i64.wrap ((b:Int) - (m:Int))=1:=by rw[IntWalk.i64_in _ (by omega)];omega
 have hmb:m<b:=by omega
 replace hb:=hid hb
 replace hd:=hid hd
 go_enter Tryz.func187,Tryz.ntmps187
 go_wp2
 go_loopg [14,15] (m - a) (fun g1 vi vj wr=>∃ (i j:Nat),vi=.int .i64 (i:Int)∧vj=.int .i64 (j:Int)∧a≤i∧i≤j∧j≤m∧j - i≤g1∧Hid (wr.ownsRow base 89 12 (.slice (some ⟨g,0,none⟩) N c) N (ZB xs))∧Hid (Below base w wr)∧Hid (BS (p2 xs m) a m i j))
 case atStart=>exact⟨a,m,by first | rfl | go_num,by first | rfl | go_num,Nat.le_refl _,by omega,Nat.le_refl _,by omega,HV,HB,hid (BS.start (by omega))⟩
 case round =>
  clear HV HB
  obtain⟨i,j,rfl,rfl,hli,hij0,hjh,hg1,HV,HB,BSH⟩:=hrel
  by_cases hij:i<j
  ·have hijz:(i:Int)<(j:Int):=by omega
   obtain⟨h,hh⟩ : ∃ h,h=(i+j) / 2:=⟨_,rfl⟩
   have em:((i:Int)+(j:Int)) / 2=(h:Int):=by omega
   have hhi:i≤h:=by omega
   have hhj:h<j:=by omega
   replace hh:=hid hh
   have hIl:m<xs.length:=by omega
   have hJl:h<xs.length:=by omega
   have zI:(m:Int)<(N:Int):=by omega
   have zJ:(h:Int)<(N:Int):=by omega
   obtain⟨x,hx⟩ : ∃ x,x=xs[m]:=⟨_,rfl⟩
   obtain⟨y,hy⟩ : ∃ y,y=xs[h]:=⟨_,rfl⟩
   have lx : ∀ Z,Z.ownsRow base 89 12 (.slice (some ⟨g,0,none⟩) N c) N (ZB xs)→Sem.run Tryz.prog (Z19 ⟨g,m * 12,none⟩) Z=.ok x.cells Z:=fun Z hZ=>by rw[hx];exact Z1D hZ hIl
   have ly : ∀ Z,Z.ownsRow base 89 12 (.slice (some ⟨g,0,none⟩) N c) N (ZB xs)→Sem.run Tryz.prog (Z19 ⟨g,h * 12,none⟩) Z=.ok y.cells Z:=fun Z hZ=>by rw[hy];exact Z1D hZ hJl
   obtain⟨r,hr⟩ : ∃ r,r=Zas x.name y.name:=⟨_,rfl⟩
   have hcmp:=hid (fun Z=>Z33 x y Z)
   rw[←hr]at hcmp
   have hrn:=Z3I x.name y.name
   rw[←hr,hx,hy,Z2U hIl,Z2U hJl]at hrn
   replace lx:=hid lx
   replace ly:=hid ly
   replace hr:=hid hr
   replace hx:=hid hx
   replace hy:=hid hy
   have HD:Hid (wr.drew.ownsRow base 89 12 (.slice (some ⟨g,0,none⟩) N c) N (ZB xs)):=HV
   have BD:=hid (HB.out.trans (Below.refl base wr).drew)
   have qx:=lx.out _ HD.out
   have qy:=ly.out _ HD.out
   by_cases hlv:r<0
   ·rw[decide_eq_true hlv]at hrn
    replace hrn:=hid hrn
    go_wp2_with fail
    go_region_held3 (fun W=>Sem.run Tryz.prog (Z19 ⟨g,m * 12,none⟩) W=.ok x.cells W∧Sem.run Tryz.prog (Z19 ⟨g,h * 12,none⟩) W=.ok y.cells W)
     (first | exact⟨lx.out _ HD.out,ly.out _ HD.out⟩ | exact⟨qx,qy⟩ | go_keep)
     ((go_at_call 101;(with_reducible refine(hcmp.out _).mono ?_);rintro e w3 ⟨rfl,hb3⟩;replace BD:=hid (BD.out.trans (hb3.mono (Z26 HD.out)));replace HD:=hid (ZT HD.out hb3)))
    go_wp2
    go_roundg (h - i)
    case measure=>omega
    case rel=>exact⟨i,h,by first | rfl | go_num,by first | rfl | go_num,by omega,by omega,by omega,Nat.le_refl _,HD,BD,hid (BSH.out.down MO.out hhi hhj (by rw[p2,HH.out.cross (by omega) (by omega) (Nat.le_refl m) hmb];simpa using hrn.out))⟩
   ·rw[decide_eq_false hlv]at hrn
    replace hrn:=hid hrn
    go_wp2_with fail
    go_region_held3 (fun W=>Sem.run Tryz.prog (Z19 ⟨g,m * 12,none⟩) W=.ok x.cells W∧Sem.run Tryz.prog (Z19 ⟨g,h * 12,none⟩) W=.ok y.cells W)
     (first | exact⟨lx.out _ HD.out,ly.out _ HD.out⟩ | exact⟨qx,qy⟩ | go_keep)
     ((go_at_call 101;(with_reducible refine(hcmp.out _).mono ?_);rintro e w3 ⟨rfl,hb3⟩;replace BD:=hid (BD.out.trans (hb3.mono (Z26 HD.out)));replace HD:=hid (ZT HD.out hb3)))
    go_wp2
    rotate_left
    ·exfalso;rename_i hq;simp at hq;omega
    go_roundg (j - (h+1))
    case measure=>omega
    case rel=>exact⟨h+1,j,by first | rfl | go_num,by first | rfl | go_num,by omega,by omega,by omega,Nat.le_refl _,HD,BD,hid (BSH.out.up MO.out hhi hhj (by rw[p2,HH.out.cross (by omega) (by omega) (Nat.le_refl m) hmb];simpa using hrn.out))⟩
  ·have hijz:¬ (i:Int)<(j:Int):=by omega
   have hije:i=j:=by omega
   subst hije
   obtain⟨H1,H2,H4,H3⟩:=HH.out.two hb.out BSH.out
   replace H3:=hid H3
   replace H1:=hid H1
   have hQ:=hid H4
   clear H4
   generalize P++U.take (i - a)=Q at H1 H3 hQ
   generalize U.drop (i - a)=U2 at H1 H2 H3
   have him:i≤m:=by omega
   go_wp2
   go_loopg [17] (m - i) (fun g2 vk wr2=>∃ (k:Nat) (ys:List Nod),vk=.int .i64 (k:Int)∧i≤k∧k≤m∧k - i≤g2∧ys.length=N∧Hid (wr2.ownsRow base 89 12 (.slice (some ⟨g,0,none⟩) N c) N (ZB ys))∧Hid (Below base w wr2)∧Hid (Zbh Q U2 S (nth xs m) ys (k - i)))
   case atStart=>exact⟨m,xs,by first | rfl | go_num,him,Nat.le_refl _,Nat.le_refl _,hN,HV,HB,H1⟩
   case round =>
    clear HV HB H1
    obtain⟨k,ys,rfl,hik,hkm,hg2,hys,HV,HB,HU⟩:=hrel
    by_cases hkl:i<k
    ·have hklz:(i:Int)<(k:Int):=by omega
     obtain⟨q,hq⟩ : ∃ q,q=k - 1:=⟨_,rfl⟩
     have kq:IntKind.i64.wrap ((k:Int) - 1)=(q:Int):=by rw[IntWalk.i64_in _ (by omega)];omega
     have hqN:q<N:=by omega
     have hq1:=hid (show k=q+1 by omega)
     replace hq:=hid hq
     have hIl:k<ys.length:=by omega
     have hJl:q<ys.length:=by omega
     have zI:(k:Int)<(N:Int):=by omega
     have zJ:(q:Int)<(N:Int):=by omega
     obtain⟨u,hu⟩ : ∃ u,u=ys[k]:=⟨_,rfl⟩
     obtain⟨v,hv⟩ : ∃ v,v=ys[q]:=⟨_,rfl⟩
     obtain⟨cx,hcx⟩ : ∃ c,c=u.cells:=⟨_,rfl⟩
     obtain⟨cy,hcy⟩ : ∃ c,c=v.cells:=⟨_,rfl⟩
     obtain⟨sx,sy,l1,l2,s1,s2,hfin,hbel⟩:=Z5V (P:=Tryz.prog) HV.out hu hv hcx hcy
     replace hbel:=hid (HB.out.trans hbel)
     replace hfin:=hid hfin
     replace hcx:=hid hcx
     replace hcy:=hid hcy
     replace hu:=hid hu
     replace hv:=hid hv
     go_wp2_with fail
     go_big_region_o
     all_goals go_wp2
     go_roundg (q - i)
     case measure=>have:=hq.out;omega
     case rel=>exact⟨q,swp ys k q,by first | rfl | go_num,by have:=hq.out;omega,by have:=hq.out;omega,Nat.le_refl _,by rw[Z5N];exact hys,hfin,hbel,hid (by
      have h0:=HU.out
      rw[show k - i=(q - i)+1 by have:=hq.out;omega]at h0
      have:=h0.step (by have:=hq.out;omega)
      rw[hQ.out,show i+(q - i+1)=k by have:=hq.out;omega,show i+(q - i)=q by have:=hq.out;omega]at this
      exact this)⟩
    ·have hklz:¬ (i:Int)<(k:Int):=by omega
     have hke:k=i:=by omega
     subst hke
     go_wp2
     first | go_end0 |(refine bodyPost_ret (results_none rfl _ _ _) rfl ?_)
     exact⟨rfl,ys,hys,HV.out,HB.out,H3.out ys (by have:=HU.out;rwa [Nat.sub_self]at this)⟩
end
section
open Go.RowKit
attribute [local go_sem ↓] Z2u
set_option maxHeartbeats 25600000 in
theorem Z9F (base g c a m b N:Nat) (P U V S xs:List Nod) (w:World) (HH:Hv xs a m b P U V S) (hN:xs.length=N) (hl:N≤1000) (hw:w.ownsRow base 89 12 (.slice (some ⟨g,0,none⟩) N c) N (ZB xs)) (BA:Nat) (hBA:b - a≤BA) (hm:a+1<m) (hb:m+1<b) (hmid:(a+b) / 2<m)
  (ih : ∀ (a m b2:Nat) (P U V S xs:List Nod) (w:World),Hv xs a m b2 P U V S→a<m→m<b2→b2 - a<BA→xs.length=N→w.ownsRow base 89 12 (.slice (some ⟨g,0,none⟩) N c) N (ZB xs)→Calls Tryz.prog 187 #[.slice (some ⟨g,0,none⟩) N c,.int .i64 (a:Int),.int .i64 (m:Int),.int .i64 (b2:Int),(.func (.func 101) #[] #[])] w fun e w'=>e=.returned (.tuple #[])∧∃ ys,ys.length=N∧w'.ownsRow base 89 12 (.slice (some ⟨g,0,none⟩) N c) N (ZB ys)∧Below base w w'∧Mrg P U V S ys)  :
  Calls Tryz.prog 187 #[.slice (some ⟨g,0,none⟩) N c,.int .i64 (a:Int),.int .i64 (m:Int),.int .i64 (b:Int),(.func (.func 101) #[] #[])] w fun e w'=>e=.returned (.tuple #[])∧∃ ys,ys.length=N∧w'.ownsRow base 89 12 (.slice (some ⟨g,0,none⟩) N c) N (ZB ys)∧Below base w w'∧Mrg P U V S ys:=by
 have IH:=hid ih
 clear ih
 obtain⟨mid,hmd⟩ : ∃ mid,mid=(a+b) / 2:=⟨_,rfl⟩
 have em0:((a:Int)+(b:Int)) / 2=(mid:Int):=by omega
 rw[←hmd]at hmid
 have hm1:a<mid:=by omega
 have hm2:mid<b:=by omega
 have hm3:2 * mid≤a+b:=by omega
 have hm4:a+b≤2 * mid+1:=by omega
 replace hmd:=hid hmd
 have HV:=hid hw
 have HB:=hid (Below.refl base w)
 have hbd:=HH.bounds
 replace HH:=hid HH
 have mixed:Tryz.prog.follows Departure.mixedOrders=true:=by first | kernel_rfl | decide
 clear hw
 obtain⟨d,hd⟩ : ∃ d,d=m - a:=⟨_,rfl⟩
 have k0:IntKind.i64.wrap ((m:Int) - (a:Int))=(d:Int):=by rw[IntWalk.i64_in _ (by omega)];omega
 have k1:¬ (d:Int)=1:=by omega
 have k1':((d:Int) == 1)=false:=by simp;omega
 obtain⟨d2,hd2⟩ : ∃ d,d=b - m:=⟨_,rfl⟩
 have k2:IntKind.i64.wrap ((b:Int) - (m:Int))=(d2:Int):=by rw[IntWalk.i64_in _ (by omega)];omega
 have k3:¬ (d2:Int)=1:=by omega
 have k3':((d2:Int) == 1)=false:=by simp;omega
 obtain⟨nn,hnn⟩ : ∃ n,n=mid+m:=⟨_,rfl⟩
 have k4:IntKind.i64.wrap ((mid:Int)+(m:Int))=(nn:Int):=by rw[IntWalk.i64_in _ (by omega)];omega
 obtain⟨pq,hpq⟩ : ∃ n,n=mid+m - 1:=⟨_,rfl⟩
 have k5:IntKind.i64.wrap ((nn:Int) - 1)=(pq:Int):=by rw[IntWalk.i64_in _ (by omega)];omega
 obtain⟨s0,hs0⟩ : ∃ s,s=nn - b:=⟨_,rfl⟩
 have k6:IntKind.i64.wrap ((nn:Int) - (b:Int))=(s0:Int):=by rw[IntWalk.i64_in _ (by omega)];omega
 have hs1:s0+b≤mid+m:=by omega
 have hs1':mid+m≤s0+b:=by omega
 have hs2:s0<mid:=by omega
 have hs3:a≤s0:=by omega
 have hmz:(mid:Int)<(m:Int):=by omega
 replace hs0:=hid hs0
 have MO:=hid (Z9D (q:=pq) (lo:=s0) (hi:=mid) HH.out (by omega) (by omega) (by omega) (by omega))
 replace hd:=hid hd
 replace hd2:=hid hd2
 have HPQ:=hpq
 replace hpq:=hid hpq
 have HNN:=hnn
 replace hnn:=hid hnn
 have hpq1:pq+1≤nn:=by omega
 have hpq2:nn≤pq+1:=by omega
 have hnn1:nn≤mid+m:=by omega
 have hnn2:mid+m≤nn:=by omega
 clear HPQ HNN
 go_enter Tryz.func187,Tryz.ntmps187
 go_wp2
 go_loopg [20,21] (mid - s0) (fun g1 vi vj wr=>∃ (i j:Nat),vi=.int .i64 (i:Int)∧vj=.int .i64 (j:Int)∧s0≤i∧i≤j∧j≤mid∧j - i≤g1∧Hid (wr.ownsRow base 89 12 (.slice (some ⟨g,0,none⟩) N c) N (ZB xs))∧Hid (Below base w wr)∧Hid (BS (p3 xs pq) s0 mid i j))
 case atStart=>exact⟨s0,mid,by first | rfl | go_num,by first | rfl | go_num,Nat.le_refl _,by omega,Nat.le_refl _,by omega,HV,HB,hid (BS.start (by omega))⟩
 case round =>
  clear HV HB
  obtain⟨i,j,rfl,rfl,hli,hij0,hjh,hg1,HV,HB,BSH⟩:=hrel
  by_cases hij:i<j
  ·have hijz:(i:Int)<(j:Int):=by omega
   obtain⟨h,hh⟩ : ∃ h,h=(i+j) / 2:=⟨_,rfl⟩
   have em:((i:Int)+(j:Int)) / 2=(h:Int):=by omega
   have hhi:i≤h:=by omega
   have hhj:h<j:=by omega
   replace hh:=hid hh
   obtain⟨q,hq⟩ : ∃ q,q=pq - h:=⟨_,rfl⟩
   have kq:IntKind.i64.wrap ((pq:Int) - (h:Int))=(q:Int):=by rw[IntWalk.i64_in _ (by omega)];omega
   have hqN:q<N:=by omega
   have hcr:=hid (HH.out.cross (i:=h) (j:=q) (by omega) (by omega) (by omega) (by omega))
   have hp3:=hid (show p3 xs pq h = !Z25 (nth xs h) (nth xs q) by unfold p3;rw[hq])
   replace hq:=hid hq
   have hIl:q<xs.length:=by omega
   have hJl:h<xs.length:=by omega
   have zI:(q:Int)<(N:Int):=by omega
   have zJ:(h:Int)<(N:Int):=by omega
   obtain⟨x,hx⟩ : ∃ x,x=xs[q]:=⟨_,rfl⟩
   obtain⟨y,hy⟩ : ∃ y,y=xs[h]:=⟨_,rfl⟩
   have lx : ∀ Z,Z.ownsRow base 89 12 (.slice (some ⟨g,0,none⟩) N c) N (ZB xs)→Sem.run Tryz.prog (Z19 ⟨g,q * 12,none⟩) Z=.ok x.cells Z:=fun Z hZ=>by rw[hx];exact Z1D hZ hIl
   have ly : ∀ Z,Z.ownsRow base 89 12 (.slice (some ⟨g,0,none⟩) N c) N (ZB xs)→Sem.run Tryz.prog (Z19 ⟨g,h * 12,none⟩) Z=.ok y.cells Z:=fun Z hZ=>by rw[hy];exact Z1D hZ hJl
   obtain⟨r,hr⟩ : ∃ r,r=Zas x.name y.name:=⟨_,rfl⟩
   have hcmp:=hid (fun Z=>Z33 x y Z)
   rw[←hr]at hcmp
   have hrn:=Z3I x.name y.name
   rw[←hr,hx,hy,Z2U hIl,Z2U hJl]at hrn
   replace lx:=hid lx
   replace ly:=hid ly
   replace hr:=hid hr
   replace hx:=hid hx
   replace hy:=hid hy
   have HD:Hid (wr.drew.ownsRow base 89 12 (.slice (some ⟨g,0,none⟩) N c) N (ZB xs)):=HV
   have BD:=hid (HB.out.trans (Below.refl base wr).drew)
   have qx:=lx.out _ HD.out
   have qy:=ly.out _ HD.out
   by_cases hlv:r<0
   ·rw[decide_eq_true hlv]at hrn
    replace hrn:=hid hrn
    go_wp2_with fail
    go_region_held3 (fun W=>Sem.run Tryz.prog (Z19 ⟨g,q * 12,none⟩) W=.ok x.cells W∧Sem.run Tryz.prog (Z19 ⟨g,h * 12,none⟩) W=.ok y.cells W)
     (first | exact⟨lx.out _ HD.out,ly.out _ HD.out⟩ | exact⟨qx,qy⟩ | go_keep)
     ((go_at_call 101;(with_reducible refine(hcmp.out _).mono ?_);rintro e w3 ⟨rfl,hb3⟩;replace BD:=hid (BD.out.trans (hb3.mono (Z26 HD.out)));replace HD:=hid (ZT HD.out hb3)))
    go_wp2
    go_roundg (h - i)
    case measure=>omega
    case rel=>exact⟨i,h,by first | rfl | go_num,by first | rfl | go_num,by omega,by omega,by omega,Nat.le_refl _,HD,BD,hid (BSH.out.down MO.out hhi hhj (by rw[hp3.out,hcr.out];simpa using hrn.out))⟩
   ·rw[decide_eq_false hlv]at hrn
    replace hrn:=hid hrn
    go_wp2_with fail
    go_region_held3 (fun W=>Sem.run Tryz.prog (Z19 ⟨g,q * 12,none⟩) W=.ok x.cells W∧Sem.run Tryz.prog (Z19 ⟨g,h * 12,none⟩) W=.ok y.cells W)
     (first | exact⟨lx.out _ HD.out,ly.out _ HD.out⟩ | exact⟨qx,qy⟩ | go_keep)
     ((go_at_call 101;(with_reducible refine(hcmp.out _).mono ?_);rintro e w3 ⟨rfl,hb3⟩;replace BD:=hid (BD.out.trans (hb3.mono (Z26 HD.out)));replace HD:=hid (ZT HD.out hb3)))
    go_wp2
    rotate_left
    ·exfalso;rename_i hq;simp at hq;omega
    go_roundg (j - (h+1))
    case measure=>omega
    case rel=>exact⟨h+1,j,by first | rfl | go_num,by first | rfl | go_num,by omega,by omega,by omega,Nat.le_refl _,HD,BD,hid (BSH.out.up MO.out hhi hhj (by rw[hp3.out,hcr.out];simpa using hrn.out))⟩
  ·have hijz:¬ (i:Int)<(j:Int):=by omega
   have hije:i=j:=by omega
   subst hije
   have YM:=HH.out.three (mid:=mid) (by have:=BSH.out;rw[hpq.out]at this;exact this) (by omega) (by omega) (by first | exact .inl ⟨by omega,rfl,rfl,by omega⟩ | exact .inr ⟨by omega,by omega,rfl,by omega,by omega⟩)
   obtain⟨e,he⟩ : ∃ e,e=mid+m - i:=⟨_,rfl⟩
   rw[←he]at YM
   have hUU:=hid (List.take_append_drop (i - a) U)
   have hVV:=hid (List.take_append_drop (mid - i) V)
   generalize U.take (i - a)=U1 at YM hUU
   generalize U.drop (i - a)=U2 at YM hUU
   generalize V.take (mid - i)=V1 at YM hVV
   generalize V.drop (mid - i)=V2 at YM hVV
   have hlim:a≤i∧i≤m∧i≤mid∧m≤e∧mid≤e∧e≤b∧i+e≤mid+m∧mid+m≤i+e:=by omega
   have ke:IntKind.i64.wrap ((nn:Int) - (i:Int))=(e:Int):=by rw[IntWalk.i64_in _ (by omega)];omega
   have hZ:(P++U1++V1++U2++(V2++S)).length=N:=by rw[←hN,YM.eq];simp only[List.length_append];omega
   replace YM:=hid YM
   replace he:=hid he
   obtain⟨st,hst⟩ : ∃ st,st=i:=⟨_,rfl⟩
   subst hst
   rcases Nat.lt_or_ge a st with q1 | q1 <;> rcases Nat.lt_or_ge st m with q2 | q2
   ·rcases Nat.lt_or_ge m e with q3 | q3 <;> rcases Nat.lt_or_ge e b with q4 | q4
    ·first
     |(exfalso;omega)
     |(have f1:(st:Int)<(m:Int):=by omega
       have f2:(m:Int)<(e:Int):=by omega
       have f3:(a:Int)<(st:Int):=by omega
       have f4:(st:Int)<(mid:Int):=by omega
       have f5:(mid:Int)<(e:Int):=by omega
       have f6:(e:Int)<(b:Int):=by omega
       go_wp2_with fail
       refine(Z2A (.func (.func 101) #[] #[]) base g c st m e N (P++U1) U2 V1 (V2++S) xs _ YM.out.eq YM.out.l2.symm YM.out.l3.symm YM.out.l4.symm hN HV.out (by have h2:=YM.out.l2;have h3:=YM.out.l3;simp only[List.length_append]at *;omega) (by have h3:=YM.out.l3;have h4:=YM.out.l4;simp only[List.length_append]at *;omega) hl).mono ?_
       rintro e1 w1 ⟨rfl,hv1,hb1⟩
       replace HV:=hid hv1
       replace HB:=hid (HB.out.trans hb1)
       clear hv1 hb1
       go_wp2_with fail
       refine(IH.out a st mid P U1 V1 (U2++(V2++S)) _ _ YM.out.left (by omega) (by omega) (by omega) hZ HV.out).mono ?_
       rintro e2 w2 ⟨rfl,ys1,hy1,hv1,hb1,hm1⟩
       replace HV:=hid hv1
       replace HB:=hid (HB.out.trans hb1)
       clear hv1 hb1
       obtain⟨T1,hT1⟩:=hm1.rgt
       replace hT1:=hid hT1
       go_wp2_with fail
       refine(IH.out mid e b (P++T1) U2 V2 S ys1 _ (YM.out.right hT1.out) (by omega) (by omega) (by omega) hy1 HV.out).mono ?_
       rintro e3 w3 ⟨rfl,ys2,hy2,hv1,hb1,hm2⟩
       replace HV:=hid hv1
       replace HB:=hid (HB.out.trans hb1)
       clear hv1 hb1
       replace hm2:=hid hm2
       go_wp2_with fail
       go_wp2
       go_end0
       exact⟨rfl,ys2,hy2,HV.out,HB.out,by have:=YM.out.whole hT1.out hm2.out;rwa [hUU.out,hVV.out]at this⟩)
    ·first
     |(exfalso;omega)
     |(have f1:(st:Int)<(m:Int):=by omega
       have f2:(m:Int)<(e:Int):=by omega
       have f3:(a:Int)<(st:Int):=by omega
       have f4:(st:Int)<(mid:Int):=by omega
       have f5:(mid:Int)<(e:Int):=by omega
       have f6:¬ (e:Int)<(b:Int):=by omega
       go_wp2_with fail
       refine(Z2A (.func (.func 101) #[] #[]) base g c st m e N (P++U1) U2 V1 (V2++S) xs _ YM.out.eq YM.out.l2.symm YM.out.l3.symm YM.out.l4.symm hN HV.out (by have h2:=YM.out.l2;have h3:=YM.out.l3;simp only[List.length_append]at *;omega) (by have h3:=YM.out.l3;have h4:=YM.out.l4;simp only[List.length_append]at *;omega) hl).mono ?_
       rintro e1 w1 ⟨rfl,hv1,hb1⟩
       replace HV:=hid hv1
       replace HB:=hid (HB.out.trans hb1)
       clear hv1 hb1
       go_wp2_with fail
       refine(IH.out a st mid P U1 V1 (U2++(V2++S)) _ _ YM.out.left (by omega) (by omega) (by omega) hZ HV.out).mono ?_
       rintro e2 w2 ⟨rfl,ys1,hy1,hv1,hb1,hm1⟩
       replace HV:=hid hv1
       replace HB:=hid (HB.out.trans hb1)
       clear hv1 hb1
       obtain⟨T1,hT1⟩:=hm1.rgt
       replace hT1:=hid hT1
       go_wp2_with fail
       have hm2:=hid (YM.out.right0 hT1.out (by omega))
       have hy2:=hy1
       obtain⟨ys2,hys2⟩ : ∃ ys2,ys2=ys1:=⟨_,rfl⟩
       rw[←hys2]at hm2 hy2 HV
       replace hys2:=hid hys2
       go_wp2
       go_end0
       exact⟨rfl,ys2,hy2,HV.out,HB.out,by have:=YM.out.whole hT1.out hm2.out;rwa [hUU.out,hVV.out]at this⟩)
    ·first
     |(exfalso;omega)
     |(have f1:(st:Int)<(m:Int):=by omega
       have f2:¬ (m:Int)<(e:Int):=by omega
       have f3:(a:Int)<(st:Int):=by omega
       have f4:¬ (st:Int)<(mid:Int):=by omega
       have f5:(mid:Int)<(e:Int):=by omega
       have f6:(e:Int)<(b:Int):=by omega
       go_wp2_with fail
       have htu:=YM.out.turned (by omega)
       have HV0:=HV.out
       rw[htu]at HV0
       replace HV:=hid HV0
       clear HV0
       replace htu:=hid htu
       obtain⟨T1,hT1⟩:=(YM.out.left0 (by omega)).rgt
       obtain⟨ys1,hys1⟩ : ∃ ys1,ys1=P++U1++V1++U2++(V2++S):=⟨_,rfl⟩
       rw[←hys1]at hT1 HV
       have hy1:ys1.length=N:=by rw[hys1];exact hZ
       replace hys1:=hid hys1
       replace hT1:=hid hT1
       refine(IH.out mid e b (P++T1) U2 V2 S ys1 _ (YM.out.right hT1.out) (by omega) (by omega) (by omega) hy1 HV.out).mono ?_
       rintro e3 w3 ⟨rfl,ys2,hy2,hv1,hb1,hm2⟩
       replace HV:=hid hv1
       replace HB:=hid (HB.out.trans hb1)
       clear hv1 hb1
       replace hm2:=hid hm2
       go_wp2_with fail
       go_wp2
       go_end0
       exact⟨rfl,ys2,hy2,HV.out,HB.out,by have:=YM.out.whole hT1.out hm2.out;rwa [hUU.out,hVV.out]at this⟩)
    ·omega
   ·rcases Nat.lt_or_ge m e with q3 | q3 <;> rcases Nat.lt_or_ge e b with q4 | q4
    ·first
     |(exfalso;omega)
     |(have f1:¬ (st:Int)<(m:Int):=by omega
       have f2:(m:Int)<(e:Int):=by omega
       have f3:(a:Int)<(st:Int):=by omega
       have f4:(st:Int)<(mid:Int):=by omega
       have f5:¬ (mid:Int)<(e:Int):=by omega
       have f6:(e:Int)<(b:Int):=by omega
       go_wp2_with fail
       have htu:=YM.out.turned (by omega)
       have HV0:=HV.out
       rw[htu]at HV0
       replace HV:=hid HV0
       clear HV0
       replace htu:=hid htu
       refine(IH.out a st mid P U1 V1 (U2++(V2++S)) _ _ YM.out.left (by omega) (by omega) (by omega) hZ HV.out).mono ?_
       rintro e2 w2 ⟨rfl,ys1,hy1,hv1,hb1,hm1⟩
       replace HV:=hid hv1
       replace HB:=hid (HB.out.trans hb1)
       clear hv1 hb1
       obtain⟨T1,hT1⟩:=hm1.rgt
       replace hT1:=hid hT1
       go_wp2_with fail
       have hm2:=hid (YM.out.right0 hT1.out (by omega))
       have hy2:=hy1
       obtain⟨ys2,hys2⟩ : ∃ ys2,ys2=ys1:=⟨_,rfl⟩
       rw[←hys2]at hm2 hy2 HV
       replace hys2:=hid hys2
       go_wp2
       go_end0
       exact⟨rfl,ys2,hy2,HV.out,HB.out,by have:=YM.out.whole hT1.out hm2.out;rwa [hUU.out,hVV.out]at this⟩)
    ·first
     |(exfalso;omega)
     |(have f1:¬ (st:Int)<(m:Int):=by omega
       have f2:(m:Int)<(e:Int):=by omega
       have f3:(a:Int)<(st:Int):=by omega
       have f4:(st:Int)<(mid:Int):=by omega
       have f5:¬ (mid:Int)<(e:Int):=by omega
       have f6:¬ (e:Int)<(b:Int):=by omega
       go_wp2_with fail
       have htu:=YM.out.turned (by omega)
       have HV0:=HV.out
       rw[htu]at HV0
       replace HV:=hid HV0
       clear HV0
       replace htu:=hid htu
       refine(IH.out a st mid P U1 V1 (U2++(V2++S)) _ _ YM.out.left (by omega) (by omega) (by omega) hZ HV.out).mono ?_
       rintro e2 w2 ⟨rfl,ys1,hy1,hv1,hb1,hm1⟩
       replace HV:=hid hv1
       replace HB:=hid (HB.out.trans hb1)
       clear hv1 hb1
       obtain⟨T1,hT1⟩:=hm1.rgt
       replace hT1:=hid hT1
       go_wp2_with fail
       have hm2:=hid (YM.out.right0 hT1.out (by omega))
       have hy2:=hy1
       obtain⟨ys2,hys2⟩ : ∃ ys2,ys2=ys1:=⟨_,rfl⟩
       rw[←hys2]at hm2 hy2 HV
       replace hys2:=hid hys2
       go_wp2
       go_end0
       exact⟨rfl,ys2,hy2,HV.out,HB.out,by have:=YM.out.whole hT1.out hm2.out;rwa [hUU.out,hVV.out]at this⟩)
    ·first
     |(exfalso;omega)
     |(have f1:¬ (st:Int)<(m:Int):=by omega
       have f2:¬ (m:Int)<(e:Int):=by omega
       have f3:(a:Int)<(st:Int):=by omega
       have f4:¬ (st:Int)<(mid:Int):=by omega
       have f5:¬ (mid:Int)<(e:Int):=by omega
       have f6:(e:Int)<(b:Int):=by omega
       go_wp2_with fail
       have htu:=YM.out.turned (by omega)
       have HV0:=HV.out
       rw[htu]at HV0
       replace HV:=hid HV0
       clear HV0
       replace htu:=hid htu
       obtain⟨T1,hT1⟩:=(YM.out.left0 (by omega)).rgt
       obtain⟨ys1,hys1⟩ : ∃ ys1,ys1=P++U1++V1++U2++(V2++S):=⟨_,rfl⟩
       rw[←hys1]at hT1 HV
       have hy1:ys1.length=N:=by rw[hys1];exact hZ
       replace hys1:=hid hys1
       replace hT1:=hid hT1
       have hm2:=hid (YM.out.right0 hT1.out (by omega))
       have hy2:=hy1
       obtain⟨ys2,hys2⟩ : ∃ ys2,ys2=ys1:=⟨_,rfl⟩
       rw[←hys2]at hm2 hy2 HV
       replace hys2:=hid hys2
       go_wp2
       go_end0
       exact⟨rfl,ys2,hy2,HV.out,HB.out,by have:=YM.out.whole hT1.out hm2.out;rwa [hUU.out,hVV.out]at this⟩)
    ·omega
   ·rcases Nat.lt_or_ge m e with q3 | q3 <;> rcases Nat.lt_or_ge e b with q4 | q4
    ·first
     |(exfalso;omega)
     |(have f1:(st:Int)<(m:Int):=by omega
       have f2:(m:Int)<(e:Int):=by omega
       have f3:¬ (a:Int)<(st:Int):=by omega
       have f4:(st:Int)<(mid:Int):=by omega
       have f5:(mid:Int)<(e:Int):=by omega
       have f6:(e:Int)<(b:Int):=by omega
       go_wp2_with fail
       refine(Z2A (.func (.func 101) #[] #[]) base g c st m e N (P++U1) U2 V1 (V2++S) xs _ YM.out.eq YM.out.l2.symm YM.out.l3.symm YM.out.l4.symm hN HV.out (by have h2:=YM.out.l2;have h3:=YM.out.l3;simp only[List.length_append]at *;omega) (by have h3:=YM.out.l3;have h4:=YM.out.l4;simp only[List.length_append]at *;omega) hl).mono ?_
       rintro e1 w1 ⟨rfl,hv1,hb1⟩
       replace HV:=hid hv1
       replace HB:=hid (HB.out.trans hb1)
       clear hv1 hb1
       go_wp2_with fail
       obtain⟨T1,hT1⟩:=(YM.out.left0 (by omega)).rgt
       obtain⟨ys1,hys1⟩ : ∃ ys1,ys1=P++U1++V1++U2++(V2++S):=⟨_,rfl⟩
       rw[←hys1]at hT1 HV
       have hy1:ys1.length=N:=by rw[hys1];exact hZ
       replace hys1:=hid hys1
       replace hT1:=hid hT1
       refine(IH.out mid e b (P++T1) U2 V2 S ys1 _ (YM.out.right hT1.out) (by omega) (by omega) (by omega) hy1 HV.out).mono ?_
       rintro e3 w3 ⟨rfl,ys2,hy2,hv1,hb1,hm2⟩
       replace HV:=hid hv1
       replace HB:=hid (HB.out.trans hb1)
       clear hv1 hb1
       replace hm2:=hid hm2
       go_wp2_with fail
       go_wp2
       go_end0
       exact⟨rfl,ys2,hy2,HV.out,HB.out,by have:=YM.out.whole hT1.out hm2.out;rwa [hUU.out,hVV.out]at this⟩)
    ·first
     |(exfalso;omega)
     |(have f1:(st:Int)<(m:Int):=by omega
       have f2:(m:Int)<(e:Int):=by omega
       have f3:¬ (a:Int)<(st:Int):=by omega
       have f4:(st:Int)<(mid:Int):=by omega
       have f5:(mid:Int)<(e:Int):=by omega
       have f6:¬ (e:Int)<(b:Int):=by omega
       go_wp2_with fail
       refine(Z2A (.func (.func 101) #[] #[]) base g c st m e N (P++U1) U2 V1 (V2++S) xs _ YM.out.eq YM.out.l2.symm YM.out.l3.symm YM.out.l4.symm hN HV.out (by have h2:=YM.out.l2;have h3:=YM.out.l3;simp only[List.length_append]at *;omega) (by have h3:=YM.out.l3;have h4:=YM.out.l4;simp only[List.length_append]at *;omega) hl).mono ?_
       rintro e1 w1 ⟨rfl,hv1,hb1⟩
       replace HV:=hid hv1
       replace HB:=hid (HB.out.trans hb1)
       clear hv1 hb1
       go_wp2_with fail
       obtain⟨T1,hT1⟩:=(YM.out.left0 (by omega)).rgt
       obtain⟨ys1,hys1⟩ : ∃ ys1,ys1=P++U1++V1++U2++(V2++S):=⟨_,rfl⟩
       rw[←hys1]at hT1 HV
       have hy1:ys1.length=N:=by rw[hys1];exact hZ
       replace hys1:=hid hys1
       replace hT1:=hid hT1
       have hm2:=hid (YM.out.right0 hT1.out (by omega))
       have hy2:=hy1
       obtain⟨ys2,hys2⟩ : ∃ ys2,ys2=ys1:=⟨_,rfl⟩
       rw[←hys2]at hm2 hy2 HV
       replace hys2:=hid hys2
       go_wp2
       go_end0
       exact⟨rfl,ys2,hy2,HV.out,HB.out,by have:=YM.out.whole hT1.out hm2.out;rwa [hUU.out,hVV.out]at this⟩)
    ·first
     |(exfalso;omega)
     |(have f1:(st:Int)<(m:Int):=by omega
       have f2:¬ (m:Int)<(e:Int):=by omega
       have f3:¬ (a:Int)<(st:Int):=by omega
       have f4:¬ (st:Int)<(mid:Int):=by omega
       have f5:(mid:Int)<(e:Int):=by omega
       have f6:(e:Int)<(b:Int):=by omega
       go_wp2_with fail
       have htu:=YM.out.turned (by omega)
       have HV0:=HV.out
       rw[htu]at HV0
       replace HV:=hid HV0
       clear HV0
       replace htu:=hid htu
       obtain⟨T1,hT1⟩:=(YM.out.left0 (by omega)).rgt
       obtain⟨ys1,hys1⟩ : ∃ ys1,ys1=P++U1++V1++U2++(V2++S):=⟨_,rfl⟩
       rw[←hys1]at hT1 HV
       have hy1:ys1.length=N:=by rw[hys1];exact hZ
       replace hys1:=hid hys1
       replace hT1:=hid hT1
       refine(IH.out mid e b (P++T1) U2 V2 S ys1 _ (YM.out.right hT1.out) (by omega) (by omega) (by omega) hy1 HV.out).mono ?_
       rintro e3 w3 ⟨rfl,ys2,hy2,hv1,hb1,hm2⟩
       replace HV:=hid hv1
       replace HB:=hid (HB.out.trans hb1)
       clear hv1 hb1
       replace hm2:=hid hm2
       go_wp2_with fail
       go_wp2
       go_end0
       exact⟨rfl,ys2,hy2,HV.out,HB.out,by have:=YM.out.whole hT1.out hm2.out;rwa [hUU.out,hVV.out]at this⟩)
    ·omega
   ·omega
end
section
open Go.RowKit
attribute [local go_sem ↓] Z2u
set_option maxHeartbeats 25600000 in
theorem Z9G (base g c a m b N:Nat) (P U V S xs:List Nod) (w:World) (HH:Hv xs a m b P U V S) (hN:xs.length=N) (hl:N≤1000) (hw:w.ownsRow base 89 12 (.slice (some ⟨g,0,none⟩) N c) N (ZB xs)) (BA:Nat) (hBA:b - a≤BA) (hm:a+1<m) (hb:m+1<b) (hmid:m≤(a+b) / 2)
  (ih : ∀ (a m b2:Nat) (P U V S xs:List Nod) (w:World),Hv xs a m b2 P U V S→a<m→m<b2→b2 - a<BA→xs.length=N→w.ownsRow base 89 12 (.slice (some ⟨g,0,none⟩) N c) N (ZB xs)→Calls Tryz.prog 187 #[.slice (some ⟨g,0,none⟩) N c,.int .i64 (a:Int),.int .i64 (m:Int),.int .i64 (b2:Int),(.func (.func 101) #[] #[])] w fun e w'=>e=.returned (.tuple #[])∧∃ ys,ys.length=N∧w'.ownsRow base 89 12 (.slice (some ⟨g,0,none⟩) N c) N (ZB ys)∧Below base w w'∧Mrg P U V S ys)  :
  Calls Tryz.prog 187 #[.slice (some ⟨g,0,none⟩) N c,.int .i64 (a:Int),.int .i64 (m:Int),.int .i64 (b:Int),(.func (.func 101) #[] #[])] w fun e w'=>e=.returned (.tuple #[])∧∃ ys,ys.length=N∧w'.ownsRow base 89 12 (.slice (some ⟨g,0,none⟩) N c) N (ZB ys)∧Below base w w'∧Mrg P U V S ys:=by
 have IH:=hid ih
 clear ih
 obtain⟨mid,hmd⟩ : ∃ mid,mid=(a+b) / 2:=⟨_,rfl⟩
 have em0:((a:Int)+(b:Int)) / 2=(mid:Int):=by omega
 rw[←hmd]at hmid
 have hm1:a<mid:=by omega
 have hm2:mid<b:=by omega
 have hm3:2 * mid≤a+b:=by omega
 have hm4:a+b≤2 * mid+1:=by omega
 replace hmd:=hid hmd
 have HV:=hid hw
 have HB:=hid (Below.refl base w)
 have hbd:=HH.bounds
 replace HH:=hid HH
 have mixed:Tryz.prog.follows Departure.mixedOrders=true:=by first | kernel_rfl | decide
 clear hw
 obtain⟨d,hd⟩ : ∃ d,d=m - a:=⟨_,rfl⟩
 have k0:IntKind.i64.wrap ((m:Int) - (a:Int))=(d:Int):=by rw[IntWalk.i64_in _ (by omega)];omega
 have k1:¬ (d:Int)=1:=by omega
 have k1':((d:Int) == 1)=false:=by simp;omega
 obtain⟨d2,hd2⟩ : ∃ d,d=b - m:=⟨_,rfl⟩
 have k2:IntKind.i64.wrap ((b:Int) - (m:Int))=(d2:Int):=by rw[IntWalk.i64_in _ (by omega)];omega
 have k3:¬ (d2:Int)=1:=by omega
 have k3':((d2:Int) == 1)=false:=by simp;omega
 obtain⟨nn,hnn⟩ : ∃ n,n=mid+m:=⟨_,rfl⟩
 have k4:IntKind.i64.wrap ((mid:Int)+(m:Int))=(nn:Int):=by rw[IntWalk.i64_in _ (by omega)];omega
 obtain⟨pq,hpq⟩ : ∃ n,n=mid+m - 1:=⟨_,rfl⟩
 have k5:IntKind.i64.wrap ((nn:Int) - 1)=(pq:Int):=by rw[IntWalk.i64_in _ (by omega)];omega
 have hmz:¬ (mid:Int)<(m:Int):=by omega
 have MO:=hid (Z9D (q:=pq) (lo:=a) (hi:=m) HH.out (by omega) (by omega) (by omega) (by omega))
 replace hd:=hid hd
 replace hd2:=hid hd2
 have HPQ:=hpq
 replace hpq:=hid hpq
 have HNN:=hnn
 replace hnn:=hid hnn
 have hpq1:pq+1≤nn:=by omega
 have hpq2:nn≤pq+1:=by omega
 have hnn1:nn≤mid+m:=by omega
 have hnn2:mid+m≤nn:=by omega
 clear HPQ HNN
 go_enter Tryz.func187,Tryz.ntmps187
 go_wp2
 go_loopg [20,21] (m - a) (fun g1 vi vj wr=>∃ (i j:Nat),vi=.int .i64 (i:Int)∧vj=.int .i64 (j:Int)∧a≤i∧i≤j∧j≤m∧j - i≤g1∧Hid (wr.ownsRow base 89 12 (.slice (some ⟨g,0,none⟩) N c) N (ZB xs))∧Hid (Below base w wr)∧Hid (BS (p3 xs pq) a m i j))
 case atStart=>exact⟨a,m,by first | rfl | go_num,by first | rfl | go_num,Nat.le_refl _,by omega,Nat.le_refl _,by omega,HV,HB,hid (BS.start (by omega))⟩
 case round =>
  clear HV HB
  obtain⟨i,j,rfl,rfl,hli,hij0,hjh,hg1,HV,HB,BSH⟩:=hrel
  by_cases hij:i<j
  ·have hijz:(i:Int)<(j:Int):=by omega
   obtain⟨h,hh⟩ : ∃ h,h=(i+j) / 2:=⟨_,rfl⟩
   have em:((i:Int)+(j:Int)) / 2=(h:Int):=by omega
   have hhi:i≤h:=by omega
   have hhj:h<j:=by omega
   replace hh:=hid hh
   obtain⟨q,hq⟩ : ∃ q,q=pq - h:=⟨_,rfl⟩
   have kq:IntKind.i64.wrap ((pq:Int) - (h:Int))=(q:Int):=by rw[IntWalk.i64_in _ (by omega)];omega
   have hqN:q<N:=by omega
   have hcr:=hid (HH.out.cross (i:=h) (j:=q) (by omega) (by omega) (by omega) (by omega))
   have hp3:=hid (show p3 xs pq h = !Z25 (nth xs h) (nth xs q) by unfold p3;rw[hq])
   replace hq:=hid hq
   have hIl:q<xs.length:=by omega
   have hJl:h<xs.length:=by omega
   have zI:(q:Int)<(N:Int):=by omega
   have zJ:(h:Int)<(N:Int):=by omega
   obtain⟨x,hx⟩ : ∃ x,x=xs[q]:=⟨_,rfl⟩
   obtain⟨y,hy⟩ : ∃ y,y=xs[h]:=⟨_,rfl⟩
   have lx : ∀ Z,Z.ownsRow base 89 12 (.slice (some ⟨g,0,none⟩) N c) N (ZB xs)→Sem.run Tryz.prog (Z19 ⟨g,q * 12,none⟩) Z=.ok x.cells Z:=fun Z hZ=>by rw[hx];exact Z1D hZ hIl
   have ly : ∀ Z,Z.ownsRow base 89 12 (.slice (some ⟨g,0,none⟩) N c) N (ZB xs)→Sem.run Tryz.prog (Z19 ⟨g,h * 12,none⟩) Z=.ok y.cells Z:=fun Z hZ=>by rw[hy];exact Z1D hZ hJl
   obtain⟨r,hr⟩ : ∃ r,r=Zas x.name y.name:=⟨_,rfl⟩
   have hcmp:=hid (fun Z=>Z33 x y Z)
   rw[←hr]at hcmp
   have hrn:=Z3I x.name y.name
   rw[←hr,hx,hy,Z2U hIl,Z2U hJl]at hrn
   replace lx:=hid lx
   replace ly:=hid ly
   replace hr:=hid hr
   replace hx:=hid hx
   replace hy:=hid hy
   have HD:Hid (wr.drew.ownsRow base 89 12 (.slice (some ⟨g,0,none⟩) N c) N (ZB xs)):=HV
   have BD:=hid (HB.out.trans (Below.refl base wr).drew)
   have qx:=lx.out _ HD.out
   have qy:=ly.out _ HD.out
   by_cases hlv:r<0
   ·rw[decide_eq_true hlv]at hrn
    replace hrn:=hid hrn
    go_wp2_with fail
    go_region_held3 (fun W=>Sem.run Tryz.prog (Z19 ⟨g,q * 12,none⟩) W=.ok x.cells W∧Sem.run Tryz.prog (Z19 ⟨g,h * 12,none⟩) W=.ok y.cells W)
     (first | exact⟨lx.out _ HD.out,ly.out _ HD.out⟩ | exact⟨qx,qy⟩ | go_keep)
     ((go_at_call 101;(with_reducible refine(hcmp.out _).mono ?_);rintro e w3 ⟨rfl,hb3⟩;replace BD:=hid (BD.out.trans (hb3.mono (Z26 HD.out)));replace HD:=hid (ZT HD.out hb3)))
    go_wp2
    go_roundg (h - i)
    case measure=>omega
    case rel=>exact⟨i,h,by first | rfl | go_num,by first | rfl | go_num,by omega,by omega,by omega,Nat.le_refl _,HD,BD,hid (BSH.out.down MO.out hhi hhj (by rw[hp3.out,hcr.out];simpa using hrn.out))⟩
   ·rw[decide_eq_false hlv]at hrn
    replace hrn:=hid hrn
    go_wp2_with fail
    go_region_held3 (fun W=>Sem.run Tryz.prog (Z19 ⟨g,q * 12,none⟩) W=.ok x.cells W∧Sem.run Tryz.prog (Z19 ⟨g,h * 12,none⟩) W=.ok y.cells W)
     (first | exact⟨lx.out _ HD.out,ly.out _ HD.out⟩ | exact⟨qx,qy⟩ | go_keep)
     ((go_at_call 101;(with_reducible refine(hcmp.out _).mono ?_);rintro e w3 ⟨rfl,hb3⟩;replace BD:=hid (BD.out.trans (hb3.mono (Z26 HD.out)));replace HD:=hid (ZT HD.out hb3)))
    go_wp2
    rotate_left
    ·exfalso;rename_i hq;simp at hq;omega
    go_roundg (j - (h+1))
    case measure=>omega
    case rel=>exact⟨h+1,j,by first | rfl | go_num,by first | rfl | go_num,by omega,by omega,by omega,Nat.le_refl _,HD,BD,hid (BSH.out.up MO.out hhi hhj (by rw[hp3.out,hcr.out];simpa using hrn.out))⟩
  ·have hijz:¬ (i:Int)<(j:Int):=by omega
   have hije:i=j:=by omega
   subst hije
   have YM:=HH.out.three (mid:=mid) (by have:=BSH.out;rw[hpq.out]at this;exact this) (by omega) (by omega) (by first | exact .inl ⟨by omega,rfl,rfl,by omega⟩ | exact .inr ⟨by omega,by omega,rfl,by omega,by omega⟩)
   obtain⟨e,he⟩ : ∃ e,e=mid+m - i:=⟨_,rfl⟩
   rw[←he]at YM
   have hUU:=hid (List.take_append_drop (i - a) U)
   have hVV:=hid (List.take_append_drop (mid - i) V)
   generalize U.take (i - a)=U1 at YM hUU
   generalize U.drop (i - a)=U2 at YM hUU
   generalize V.take (mid - i)=V1 at YM hVV
   generalize V.drop (mid - i)=V2 at YM hVV
   have hlim:a≤i∧i≤m∧i≤mid∧m≤e∧mid≤e∧e≤b∧i+e≤mid+m∧mid+m≤i+e:=by omega
   have ke:IntKind.i64.wrap ((nn:Int) - (i:Int))=(e:Int):=by rw[IntWalk.i64_in _ (by omega)];omega
   have hZ:(P++U1++V1++U2++(V2++S)).length=N:=by rw[←hN,YM.eq];simp only[List.length_append];omega
   replace YM:=hid YM
   replace he:=hid he
   obtain⟨st,hst⟩ : ∃ st,st=i:=⟨_,rfl⟩
   subst hst
   rcases Nat.lt_or_ge a st with q1 | q1 <;> rcases Nat.lt_or_ge st m with q2 | q2
   ·rcases Nat.lt_or_ge m e with q3 | q3 <;> rcases Nat.lt_or_ge e b with q4 | q4
    ·first
     |(exfalso;omega)
     |(have f1:(st:Int)<(m:Int):=by omega
       have f2:(m:Int)<(e:Int):=by omega
       have f3:(a:Int)<(st:Int):=by omega
       have f4:(st:Int)<(mid:Int):=by omega
       have f5:(mid:Int)<(e:Int):=by omega
       have f6:(e:Int)<(b:Int):=by omega
       go_wp2_with fail
       refine(Z2A (.func (.func 101) #[] #[]) base g c st m e N (P++U1) U2 V1 (V2++S) xs _ YM.out.eq YM.out.l2.symm YM.out.l3.symm YM.out.l4.symm hN HV.out (by have h2:=YM.out.l2;have h3:=YM.out.l3;simp only[List.length_append]at *;omega) (by have h3:=YM.out.l3;have h4:=YM.out.l4;simp only[List.length_append]at *;omega) hl).mono ?_
       rintro e1 w1 ⟨rfl,hv1,hb1⟩
       replace HV:=hid hv1
       replace HB:=hid (HB.out.trans hb1)
       clear hv1 hb1
       go_wp2_with fail
       refine(IH.out a st mid P U1 V1 (U2++(V2++S)) _ _ YM.out.left (by omega) (by omega) (by omega) hZ HV.out).mono ?_
       rintro e2 w2 ⟨rfl,ys1,hy1,hv1,hb1,hm1⟩
       replace HV:=hid hv1
       replace HB:=hid (HB.out.trans hb1)
       clear hv1 hb1
       obtain⟨T1,hT1⟩:=hm1.rgt
       replace hT1:=hid hT1
       go_wp2_with fail
       refine(IH.out mid e b (P++T1) U2 V2 S ys1 _ (YM.out.right hT1.out) (by omega) (by omega) (by omega) hy1 HV.out).mono ?_
       rintro e3 w3 ⟨rfl,ys2,hy2,hv1,hb1,hm2⟩
       replace HV:=hid hv1
       replace HB:=hid (HB.out.trans hb1)
       clear hv1 hb1
       replace hm2:=hid hm2
       go_wp2_with fail
       go_wp2
       go_end0
       exact⟨rfl,ys2,hy2,HV.out,HB.out,by have:=YM.out.whole hT1.out hm2.out;rwa [hUU.out,hVV.out]at this⟩)
    ·first
     |(exfalso;omega)
     |(have f1:(st:Int)<(m:Int):=by omega
       have f2:(m:Int)<(e:Int):=by omega
       have f3:(a:Int)<(st:Int):=by omega
       have f4:(st:Int)<(mid:Int):=by omega
       have f5:(mid:Int)<(e:Int):=by omega
       have f6:¬ (e:Int)<(b:Int):=by omega
       go_wp2_with fail
       refine(Z2A (.func (.func 101) #[] #[]) base g c st m e N (P++U1) U2 V1 (V2++S) xs _ YM.out.eq YM.out.l2.symm YM.out.l3.symm YM.out.l4.symm hN HV.out (by have h2:=YM.out.l2;have h3:=YM.out.l3;simp only[List.length_append]at *;omega) (by have h3:=YM.out.l3;have h4:=YM.out.l4;simp only[List.length_append]at *;omega) hl).mono ?_
       rintro e1 w1 ⟨rfl,hv1,hb1⟩
       replace HV:=hid hv1
       replace HB:=hid (HB.out.trans hb1)
       clear hv1 hb1
       go_wp2_with fail
       refine(IH.out a st mid P U1 V1 (U2++(V2++S)) _ _ YM.out.left (by omega) (by omega) (by omega) hZ HV.out).mono ?_
       rintro e2 w2 ⟨rfl,ys1,hy1,hv1,hb1,hm1⟩
       replace HV:=hid hv1
       replace HB:=hid (HB.out.trans hb1)
       clear hv1 hb1
       obtain⟨T1,hT1⟩:=hm1.rgt
       replace hT1:=hid hT1
       go_wp2_with fail
       have hm2:=hid (YM.out.right0 hT1.out (by omega))
       have hy2:=hy1
       obtain⟨ys2,hys2⟩ : ∃ ys2,ys2=ys1:=⟨_,rfl⟩
       rw[←hys2]at hm2 hy2 HV
       replace hys2:=hid hys2
       go_wp2
       go_end0
       exact⟨rfl,ys2,hy2,HV.out,HB.out,by have:=YM.out.whole hT1.out hm2.out;rwa [hUU.out,hVV.out]at this⟩)
    ·first
     |(exfalso;omega)
     |(have f1:(st:Int)<(m:Int):=by omega
       have f2:¬ (m:Int)<(e:Int):=by omega
       have f3:(a:Int)<(st:Int):=by omega
       have f4:¬ (st:Int)<(mid:Int):=by omega
       have f5:(mid:Int)<(e:Int):=by omega
       have f6:(e:Int)<(b:Int):=by omega
       go_wp2_with fail
       have htu:=YM.out.turned (by omega)
       have HV0:=HV.out
       rw[htu]at HV0
       replace HV:=hid HV0
       clear HV0
       replace htu:=hid htu
       obtain⟨T1,hT1⟩:=(YM.out.left0 (by omega)).rgt
       obtain⟨ys1,hys1⟩ : ∃ ys1,ys1=P++U1++V1++U2++(V2++S):=⟨_,rfl⟩
       rw[←hys1]at hT1 HV
       have hy1:ys1.length=N:=by rw[hys1];exact hZ
       replace hys1:=hid hys1
       replace hT1:=hid hT1
       refine(IH.out mid e b (P++T1) U2 V2 S ys1 _ (YM.out.right hT1.out) (by omega) (by omega) (by omega) hy1 HV.out).mono ?_
       rintro e3 w3 ⟨rfl,ys2,hy2,hv1,hb1,hm2⟩
       replace HV:=hid hv1
       replace HB:=hid (HB.out.trans hb1)
       clear hv1 hb1
       replace hm2:=hid hm2
       go_wp2_with fail
       go_wp2
       go_end0
       exact⟨rfl,ys2,hy2,HV.out,HB.out,by have:=YM.out.whole hT1.out hm2.out;rwa [hUU.out,hVV.out]at this⟩)
    ·omega
   ·rcases Nat.lt_or_ge m e with q3 | q3 <;> rcases Nat.lt_or_ge e b with q4 | q4
    ·first
     |(exfalso;omega)
     |(have f1:¬ (st:Int)<(m:Int):=by omega
       have f2:(m:Int)<(e:Int):=by omega
       have f3:(a:Int)<(st:Int):=by omega
       have f4:(st:Int)<(mid:Int):=by omega
       have f5:¬ (mid:Int)<(e:Int):=by omega
       have f6:(e:Int)<(b:Int):=by omega
       go_wp2_with fail
       have htu:=YM.out.turned (by omega)
       have HV0:=HV.out
       rw[htu]at HV0
       replace HV:=hid HV0
       clear HV0
       replace htu:=hid htu
       refine(IH.out a st mid P U1 V1 (U2++(V2++S)) _ _ YM.out.left (by omega) (by omega) (by omega) hZ HV.out).mono ?_
       rintro e2 w2 ⟨rfl,ys1,hy1,hv1,hb1,hm1⟩
       replace HV:=hid hv1
       replace HB:=hid (HB.out.trans hb1)
       clear hv1 hb1
       obtain⟨T1,hT1⟩:=hm1.rgt
       replace hT1:=hid hT1
       go_wp2_with fail
       have hm2:=hid (YM.out.right0 hT1.out (by omega))
       have hy2:=hy1
       obtain⟨ys2,hys2⟩ : ∃ ys2,ys2=ys1:=⟨_,rfl⟩
       rw[←hys2]at hm2 hy2 HV
       replace hys2:=hid hys2
       go_wp2
       go_end0
       exact⟨rfl,ys2,hy2,HV.out,HB.out,by have:=YM.out.whole hT1.out hm2.out;rwa [hUU.out,hVV.out]at this⟩)
    ·first
     |(exfalso;omega)
     |(have f1:¬ (st:Int)<(m:Int):=by omega
       have f2:(m:Int)<(e:Int):=by omega
       have f3:(a:Int)<(st:Int):=by omega
       have f4:(st:Int)<(mid:Int):=by omega
       have f5:¬ (mid:Int)<(e:Int):=by omega
       have f6:¬ (e:Int)<(b:Int):=by omega
       go_wp2_with fail
       have htu:=YM.out.turned (by omega)
       have HV0:=HV.out
       rw[htu]at HV0
       replace HV:=hid HV0
       clear HV0
       replace htu:=hid htu
       refine(IH.out a st mid P U1 V1 (U2++(V2++S)) _ _ YM.out.left (by omega) (by omega) (by omega) hZ HV.out).mono ?_
       rintro e2 w2 ⟨rfl,ys1,hy1,hv1,hb1,hm1⟩
       replace HV:=hid hv1
       replace HB:=hid (HB.out.trans hb1)
       clear hv1 hb1
       obtain⟨T1,hT1⟩:=hm1.rgt
       replace hT1:=hid hT1
       go_wp2_with fail
       have hm2:=hid (YM.out.right0 hT1.out (by omega))
       have hy2:=hy1
       obtain⟨ys2,hys2⟩ : ∃ ys2,ys2=ys1:=⟨_,rfl⟩
       rw[←hys2]at hm2 hy2 HV
       replace hys2:=hid hys2
       go_wp2
       go_end0
       exact⟨rfl,ys2,hy2,HV.out,HB.out,by have:=YM.out.whole hT1.out hm2.out;rwa [hUU.out,hVV.out]at this⟩)
    ·first
     |(exfalso;omega)
     |(have f1:¬ (st:Int)<(m:Int):=by omega
       have f2:¬ (m:Int)<(e:Int):=by omega
       have f3:(a:Int)<(st:Int):=by omega
       have f4:¬ (st:Int)<(mid:Int):=by omega
       have f5:¬ (mid:Int)<(e:Int):=by omega
       have f6:(e:Int)<(b:Int):=by omega
       go_wp2_with fail
       have htu:=YM.out.turned (by omega)
       have HV0:=HV.out
       rw[htu]at HV0
       replace HV:=hid HV0
       clear HV0
       replace htu:=hid htu
       obtain⟨T1,hT1⟩:=(YM.out.left0 (by omega)).rgt
       obtain⟨ys1,hys1⟩ : ∃ ys1,ys1=P++U1++V1++U2++(V2++S):=⟨_,rfl⟩
       rw[←hys1]at hT1 HV
       have hy1:ys1.length=N:=by rw[hys1];exact hZ
       replace hys1:=hid hys1
       replace hT1:=hid hT1
       have hm2:=hid (YM.out.right0 hT1.out (by omega))
       have hy2:=hy1
       obtain⟨ys2,hys2⟩ : ∃ ys2,ys2=ys1:=⟨_,rfl⟩
       rw[←hys2]at hm2 hy2 HV
       replace hys2:=hid hys2
       go_wp2
       go_end0
       exact⟨rfl,ys2,hy2,HV.out,HB.out,by have:=YM.out.whole hT1.out hm2.out;rwa [hUU.out,hVV.out]at this⟩)
    ·omega
   ·rcases Nat.lt_or_ge m e with q3 | q3 <;> rcases Nat.lt_or_ge e b with q4 | q4
    ·first
     |(exfalso;omega)
     |(have f1:(st:Int)<(m:Int):=by omega
       have f2:(m:Int)<(e:Int):=by omega
       have f3:¬ (a:Int)<(st:Int):=by omega
       have f4:(st:Int)<(mid:Int):=by omega
       have f5:(mid:Int)<(e:Int):=by omega
       have f6:(e:Int)<(b:Int):=by omega
       go_wp2_with fail
       refine(Z2A (.func (.func 101) #[] #[]) base g c st m e N (P++U1) U2 V1 (V2++S) xs _ YM.out.eq YM.out.l2.symm YM.out.l3.symm YM.out.l4.symm hN HV.out (by have h2:=YM.out.l2;have h3:=YM.out.l3;simp only[List.length_append]at *;omega) (by have h3:=YM.out.l3;have h4:=YM.out.l4;simp only[List.length_append]at *;omega) hl).mono ?_
       rintro e1 w1 ⟨rfl,hv1,hb1⟩
       replace HV:=hid hv1
       replace HB:=hid (HB.out.trans hb1)
       clear hv1 hb1
       go_wp2_with fail
       obtain⟨T1,hT1⟩:=(YM.out.left0 (by omega)).rgt
       obtain⟨ys1,hys1⟩ : ∃ ys1,ys1=P++U1++V1++U2++(V2++S):=⟨_,rfl⟩
       rw[←hys1]at hT1 HV
       have hy1:ys1.length=N:=by rw[hys1];exact hZ
       replace hys1:=hid hys1
       replace hT1:=hid hT1
       refine(IH.out mid e b (P++T1) U2 V2 S ys1 _ (YM.out.right hT1.out) (by omega) (by omega) (by omega) hy1 HV.out).mono ?_
       rintro e3 w3 ⟨rfl,ys2,hy2,hv1,hb1,hm2⟩
       replace HV:=hid hv1
       replace HB:=hid (HB.out.trans hb1)
       clear hv1 hb1
       replace hm2:=hid hm2
       go_wp2_with fail
       go_wp2
       go_end0
       exact⟨rfl,ys2,hy2,HV.out,HB.out,by have:=YM.out.whole hT1.out hm2.out;rwa [hUU.out,hVV.out]at this⟩)
    ·first
     |(exfalso;omega)
     |(have f1:(st:Int)<(m:Int):=by omega
       have f2:(m:Int)<(e:Int):=by omega
       have f3:¬ (a:Int)<(st:Int):=by omega
       have f4:(st:Int)<(mid:Int):=by omega
       have f5:(mid:Int)<(e:Int):=by omega
       have f6:¬ (e:Int)<(b:Int):=by omega
       go_wp2_with fail
       refine(Z2A (.func (.func 101) #[] #[]) base g c st m e N (P++U1) U2 V1 (V2++S) xs _ YM.out.eq YM.out.l2.symm YM.out.l3.symm YM.out.l4.symm hN HV.out (by have h2:=YM.out.l2;have h3:=YM.out.l3;simp only[List.length_append]at *;omega) (by have h3:=YM.out.l3;have h4:=YM.out.l4;simp only[List.length_append]at *;omega) hl).mono ?_
       rintro e1 w1 ⟨rfl,hv1,hb1⟩
       replace HV:=hid hv1
       replace HB:=hid (HB.out.trans hb1)
       clear hv1 hb1
       go_wp2_with fail
       obtain⟨T1,hT1⟩:=(YM.out.left0 (by omega)).rgt
       obtain⟨ys1,hys1⟩ : ∃ ys1,ys1=P++U1++V1++U2++(V2++S):=⟨_,rfl⟩
       rw[←hys1]at hT1 HV
       have hy1:ys1.length=N:=by rw[hys1];exact hZ
       replace hys1:=hid hys1
       replace hT1:=hid hT1
       have hm2:=hid (YM.out.right0 hT1.out (by omega))
       have hy2:=hy1
       obtain⟨ys2,hys2⟩ : ∃ ys2,ys2=ys1:=⟨_,rfl⟩
       rw[←hys2]at hm2 hy2 HV
       replace hys2:=hid hys2
       go_wp2
       go_end0
       exact⟨rfl,ys2,hy2,HV.out,HB.out,by have:=YM.out.whole hT1.out hm2.out;rwa [hUU.out,hVV.out]at this⟩)
    ·first
     |(exfalso;omega)
     |(have f1:(st:Int)<(m:Int):=by omega
       have f2:¬ (m:Int)<(e:Int):=by omega
       have f3:¬ (a:Int)<(st:Int):=by omega
       have f4:¬ (st:Int)<(mid:Int):=by omega
       have f5:(mid:Int)<(e:Int):=by omega
       have f6:(e:Int)<(b:Int):=by omega
       go_wp2_with fail
       have htu:=YM.out.turned (by omega)
       have HV0:=HV.out
       rw[htu]at HV0
       replace HV:=hid HV0
       clear HV0
       replace htu:=hid htu
       obtain⟨T1,hT1⟩:=(YM.out.left0 (by omega)).rgt
       obtain⟨ys1,hys1⟩ : ∃ ys1,ys1=P++U1++V1++U2++(V2++S):=⟨_,rfl⟩
       rw[←hys1]at hT1 HV
       have hy1:ys1.length=N:=by rw[hys1];exact hZ
       replace hys1:=hid hys1
       replace hT1:=hid hT1
       refine(IH.out mid e b (P++T1) U2 V2 S ys1 _ (YM.out.right hT1.out) (by omega) (by omega) (by omega) hy1 HV.out).mono ?_
       rintro e3 w3 ⟨rfl,ys2,hy2,hv1,hb1,hm2⟩
       replace HV:=hid hv1
       replace HB:=hid (HB.out.trans hb1)
       clear hv1 hb1
       replace hm2:=hid hm2
       go_wp2_with fail
       go_wp2
       go_end0
       exact⟨rfl,ys2,hy2,HV.out,HB.out,by have:=YM.out.whole hT1.out hm2.out;rwa [hUU.out,hVV.out]at this⟩)
    ·omega
   ·omega
end
end Go.Proofs.YtkefjeabckainaaGreat
