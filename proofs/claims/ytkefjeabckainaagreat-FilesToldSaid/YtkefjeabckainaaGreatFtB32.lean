/- The program's files in a law of layer 18: each call on them, in one shape. Conditions: in the statements. And the texts behind it. -/
import Derived.Test.YtkefjeabckainaaGreatFtB27
import Derived.Test.YtkefjeabckainaaGreatFtB28
import Derived.Test.YtkefjeabckainaaGreatFtB30
import Derived.Test.YtkefjeabckainaaGreatFtB31
import Derived.Test.YtkefjeabckainaaGreatFtB23
import Derived.Test.YtkefjeabckainaaGreatFtB16
import Derived.Test.YtkefjeabckainaaGreatFtB17
namespace Go.Proofs.YtkefjeabckainaaGreat
set_option maxRecDepth 100000
set_option linter.unusedVariables false
section
open Go.RowKit Go.Maps
variable {V:ByteArray→Bool}
def U0:Usr:=⟨US0,GS0⟩
theorem Z60 {gs:List Grp} (h:Z1U GS0 gs):(⟨US0,gs⟩:Usr).may=U0.may:=by
 funext who n want
 unfold Usr.may
 rw[←h.inB]
 rfl
theorem Z5q {gs:List Grp} (h:Z1U GS0 gs):Z2H ⟨US0,gs⟩=Z2H U0:=by
 funext f who n
 unfold Z2H
 rw[Z60 h]
theorem Z8s {gs:List Grp} (h:Z1U GS0 gs):Z3m US0 gs=Z3m US0 GS0:=by
 funext who n mode
 unfold Z3m
 rw[←h.inB]
theorem Z4c {gs:List Grp} (h:Z1U GS0 gs):Z13 ⟨US0,gs⟩=Z13 U0:=by
 funext f who q name mode o
 unfold Z13
 rw[Z60 h]
theorem Z8t {gs:List Grp} (h:Z1U GS0 gs):Z2o ⟨US0,gs⟩=Z2o U0:=by
 funext f who q name
 unfold Z2o
 rw[Z60 h]
theorem Z4d {gs:List Grp} (h:Z1U GS0 gs):Z1s ⟨US0,gs⟩=Z1s U0:=by
 funext f who q
 unfold Z1s
 rw[Z5q h]
theorem Z5r {gs:List Grp} (h:Z1U GS0 gs):Z20 ⟨US0,gs⟩=Z20 U0:=by
 funext f who q mode
 unfold Z20
 simp only
 rw[Z5q h,Z8s h]
 rfl
structure FAtV (V:ByteArray→Bool) (w0 w:World) (b m p:Nat) (f:FsV) (gs:List Grp) (n:Nat):Prop where
 fs : ∃ v,FSo w b m v p f ⟨US0,gs⟩ n
 below:Below w0.heap.size w0 w
 lb:w0.heap.size≤b
 lm:w0.heap.size≤m
 ok:FOkV V f
 sg:Z1U GS0 gs
abbrev FAt:=FAtV Z8
theorem FAtV.mono {w0 w:World} {b m p n n':Nat} {f:FsV} {gs:List Grp} (h:FAtV V w0 w b m p f gs n) (hn:n≤n'):FAtV V w0 w b m p f gs n':=by
 obtain⟨v,hv⟩:=h.fs
 exact⟨⟨v,hv.mono hn⟩,h.below,h.lb,h.lm,h.ok,h.sg⟩
theorem FAtV.on {w0 w w':World} {b m p n:Nat} {f:FsV} {gs:List Grp} (h:FAtV V w0 w b m p f gs n) (hb:Below w.heap.size w w'):FAtV V w0 w' b m p f gs n:=by
 obtain⟨v,hv⟩:=h.fs
 exact⟨⟨v,hv.below hb⟩,sn h.below hb,h.lb,h.lm,h.ok,h.sg⟩
theorem FAtV.step {w0 w w':World} {b m p n n':Nat} {f f':FsV} {gs:List Grp} (h:FAtV V w0 w b m p f gs n) (hs:FStep b m w w') (hf : ∃ v,FSo w' b m v p f' ⟨US0,gs⟩ n') (hok:FOkV V f'):FAtV V w0 w' b m p f' gs n' :=
 ⟨hf,h.below.trans (hs.below _ h.lb h.lm h.below.size),h.lb,h.lm,hok,h.sg⟩
section
variable {w0 w:World} {b m p n:Nat} {f f':FsV} {gs:List Grp}
theorem FAtV.create (h:FAtV V w0 w b m p f gs n) {who:ByteArray} {q:Nat} {name:ByteArray} {mode o pp E:Nat} (he:Z13 U0 f who q name mode o=(f',pp,E)) (hname:name.size≤maxLen) (hmode:mode<4294967296) (ho:o<256) (hw:V who=true) (h2:who.size≤maxLen) (hx:f.t.next+1<9223372036854775808) (hn:n<1000000) :
  Calls Tryz.prog 10 #[.pointer (some ⟨b,0,none⟩),.string who,.int .u64 (q:Int),.string name,.int .u32 (mode:Int),.int .u8 (o:Int)] w fun e w'=>e=.returned (.tuple #[.int .u64 (pp:Int),.int .i64 (E:Int)])∧FAtV V w0 w' b m p f' gs (n+1):=by
 obtain⟨v,hv⟩:=h.fs
 refine(Z76 b m p n v f ⟨US0,gs⟩ who q name mode o w hv h.ok (Z5p h.sg) hname hmode ho hn).mono ?_
 rintro e w' ⟨rfl,hf,hs⟩
 have hok:=Z8k U0 h.ok who q name mode o hw h2 hname hmode hx
 rw[Z4c h.sg,he]at hf
 rw[he]at hok
 refine⟨by rw[Z4c h.sg,he],h.step hs hf hok⟩
theorem FAtV.hold (h:FAtV V w0 w b m p f gs n) {q:Nat} {r:Bool} (he:Z6M f q=(f',r)) (hq:q<18446744073709551616) (hn:n<1000000) :
  Calls Tryz.prog 11 #[.pointer (some ⟨b,0,none⟩),.int .u64 (q:Int)] w fun e w'=>e=.returned (.bool r)∧FAtV V w0 w' b m p f' gs (n+1):=by
 obtain⟨v,hv⟩:=h.fs
 refine(Z9d b m p n v f ⟨US0,gs⟩ q w hv h.ok.tr hq hn).mono ?_
 rintro e w' ⟨rfl,hf,hs⟩
 have hok:=Zbp h.ok q
 rw[he]at hf hok
 exact⟨by rw[he],h.step hs ⟨_,hf⟩ hok⟩
theorem FAtV.let_ (h:FAtV V w0 w b m p f gs n) {q:Nat} (he:Zds f q=f') (hq:q<18446744073709551616) (hn:n<1000000) :
  Calls Tryz.prog 16 #[.pointer (some ⟨b,0,none⟩),.int .u64 (q:Int)] w fun e w'=>e=.returned (.tuple #[])∧FAtV V w0 w' b m p f' gs (n+1):=by
 obtain⟨v,hv⟩:=h.fs
 refine(Zb0 b m p n v f ⟨US0,gs⟩ q w hv h.ok.tr hq hn).mono ?_
 rintro e w' ⟨rfl,⟨v',hf,_⟩,hs⟩
 have hok:=Zd1 h.ok q
 rw[he]at hf hok
 exact⟨rfl,h.step hs ⟨_,hf⟩ hok⟩
theorem FAtV.close (h:FAtV V w0 w b m p f gs n) {q mode:Nat} (he:Z2d f q mode=f') (hq:q<18446744073709551616) (hm:mode<256) (hn:n<1000000) :
  Calls Tryz.prog 24 #[.pointer (some ⟨b,0,none⟩),.int .u64 (q:Int),.int .u8 (mode:Int)] w fun e w'=>e=.returned (.tuple #[])∧FAtV V w0 w' b m p f' gs (n+1):=by
 obtain⟨v,hv⟩:=h.fs
 refine(Z8i b m p n v f ⟨US0,gs⟩ q mode w hv h.ok hq hm hn).mono ?_
 rintro e w' ⟨rfl,hf,hs⟩
 have hok:=Za1 h.ok q mode
 rw[he]at hf hok
 exact⟨rfl,h.step hs hf hok⟩
theorem FAtV.read (h:FAtV V w0 w b m p f gs n) {q off kk E:Nat} {s:ByteArray} (he:Z4D f q off kk=(f',s,E)) (hoff:off<18446744073709551616) (hkk:kk<4294967296) :
  Calls Tryz.prog 14 #[.pointer (some ⟨b,0,none⟩),.int .u64 (q:Int),.int .u64 (off:Int),.int .u32 (kk:Int)] w fun e w'=>e=.returned (.tuple #[.string s,.int .i64 (E:Int)])∧FAtV V w0 w' b m p f' gs n:=by
 obtain⟨v,hv⟩:=h.fs
 refine(Za4 b m p n v f ⟨US0,gs⟩ q off kk w hv h.ok.tr h.ok.ne hoff hkk).mono ?_
 rintro e w' ⟨rfl,hf,hs⟩
 have hok:=Zbq h.ok q off kk
 rw[he]at hf hok
 exact⟨by rw[he],h.step hs hf hok⟩
theorem FAtV.write (h:FAtV V w0 w b m p f gs n) {who:ByteArray} {q off k E:Nat} {data:ByteArray} (he:Z30 f who q off data=(f',k,E)) (hoff:off<18446744073709551616) (hda:data.size≤1000000) (hw:V who=true) (h2:who.size≤maxLen) :
  Calls Tryz.prog 12 #[.pointer (some ⟨b,0,none⟩),.string who,.int .u64 (q:Int),.int .u64 (off:Int),.string data] w fun e w'=>e=.returned (.tuple #[.int .u32 (k:Int),.int .i64 (E:Int)])∧FAtV V w0 w' b m p f' gs n:=by
 obtain⟨v,hv⟩:=h.fs
 refine(Z8h b m p n v f ⟨US0,gs⟩ who q off data w hv h.ok.tr h.ok.ne hoff hda).mono ?_
 rintro e w' ⟨rfl,hf,hs⟩
 have hok:=Za0 h.ok who q off data hw h2
 rw[he]at hf hok
 exact⟨by rw[he],h.step hs hf hok⟩
theorem FAtV.remove (h:FAtV V w0 w b m p f gs n) {who:ByteArray} {q E:Nat} (he:Z1s U0 f who q=(f',E)) (hq:q<18446744073709551616) (hw:V who=true) (h2:who.size≤maxLen) :
  Calls Tryz.prog 13 #[.pointer (some ⟨b,0,none⟩),.string who,.int .u64 (q:Int)] w fun e w'=>e=.returned (.int .i64 (E:Int))∧FAtV V w0 w' b m p f' gs n:=by
 obtain⟨v,hv⟩:=h.fs
 refine(Z77 b m p n v f ⟨US0,gs⟩ who q w hv h.ok.tr h.ok.ne (Z5p h.sg) hq h.ok.now (Z2a h.ok.good q who f.now hw h.ok.now h2).tr).mono ?_
 rintro e w' ⟨rfl,hf,hs⟩
 have hok:=Z8d U0 h.ok who q hw h2
 rw[Z4d h.sg,he]at hf
 rw[he]at hok
 exact⟨by rw[Z4d h.sg,he],h.step hs hf hok⟩
theorem FAtV.open_ (h:FAtV V w0 w b m p f gs n) {who:ByteArray} {q mode E:Nat} (he:Z20 U0 f who q mode=(f',E)) (hq:q<18446744073709551616) (hm:mode<256) (hw:V who=true) (h2:who.size≤maxLen) (hn:n<1000000) :
  Calls Tryz.prog 23 #[.pointer (some ⟨b,0,none⟩),.string who,.int .u64 (q:Int),.int .u8 (mode:Int)] w fun e w'=>e=.returned (.int .i64 (E:Int))∧FAtV V w0 w' b m p f' gs (n+1):=by
 obtain⟨v,hv⟩:=h.fs
 refine(Zac b m p n v f ⟨US0,gs⟩ who q mode w hv h.ok (Z5p h.sg) hq hm hn).mono ?_
 rintro e w' ⟨rfl,hf,hs⟩
 have hok:=Zbr U0 h.ok who q mode hw h2
 rw[Z5r h.sg,he]at hf
 rw[he]at hok
 exact⟨by rw[Z5r h.sg,he],h.step hs hf hok⟩
theorem FAtV.stepIn (h:FAtV V w0 w b m p f gs n) {who:ByteArray} {q:Nat} {name:ByteArray} {pp E:Nat} (he:Z2o U0 f who q name=(pp,E)) :
  Calls Tryz.prog 20 #[.pointer (some ⟨b,0,none⟩),.string who,.int .u64 (q:Int),.string name] w fun e w'=>e=.returned (.tuple #[.int .u64 (pp:Int),.int .i64 (E:Int)])∧FAtV V w0 w' b m p f gs n:=by
 obtain⟨v,hv⟩:=h.fs
 refine(Z6A b m p n v f ⟨US0,gs⟩ who q name w hv h.ok.tr h.ok.ne (Z5p h.sg)).mono ?_
 rintro e w' ⟨rfl,hf,hs⟩
 exact⟨by rw[Z8t h.sg,he],h.step hs hf h.ok⟩
theorem FAtV.stat (h:FAtV V w0 w b m p f gs n) {q E:Nat} {x:Array Value} (he:Z52 f q=(x,E)) :
  Calls Tryz.prog 19 #[.pointer (some ⟨b,0,none⟩),.int .u64 (q:Int)] w fun e w'=>e=.returned (.tuple #[.agg x,.int .i64 (E:Int)])∧FAtV V w0 w' b m p f gs n:=by
 obtain⟨v,hv⟩:=h.fs
 refine(Z6B b m p n v f ⟨US0,gs⟩ q w hv h.ok.tr h.ok.ne).mono ?_
 rintro e w' ⟨rfl,hf,hs⟩
 exact⟨by rw[he],h.step hs hf h.ok⟩
theorem FAtV.has (h:FAtV V w0 w b m p f gs n) {s:ByteArray} {r:Bool} (he:Z5y US0 s=r) :
  Calls Tryz.prog 29 #[.pointer (some ⟨b,0,none⟩),.string s] w fun e w'=>e=.returned (.bool r)∧w'=w:=by
 obtain⟨v,hv⟩:=h.fs
 refine(Zbg b m p n v f ⟨US0,gs⟩ s w hv (Z5p h.sg).users).mono ?_
 rintro e w' ⟨rfl,hw⟩
 exact⟨by rw[←he],hw⟩
theorem FAtV.tree (h:FAtV V w0 w b m p f gs n) :
  Calls Tryz.prog 17 #[.pointer (some ⟨b,0,none⟩)] w fun e w'=>∃ v',e=.returned (.agg #[.int .u64 (f.t.next:Int),v'])∧Z3 w' v' f.t.n∧(∀ k,v'.ownBlock=some k→w.heap.size≤k)∧FAtV V w0 w' b m p f gs n∧Below w.heap.size w w':=by
 obtain⟨v,hv⟩:=h.fs
 refine(Z9C b m p n v f ⟨US0,gs⟩ w hv h.ok.tr).mono ?_
 rintro e w' ⟨v',rfl,h1,h3,h2⟩
 exact⟨v',rfl,h1,h3,h.on h2,h2⟩
theorem FAtV.list (h:FAtV V w0 w b m p f gs n) {q:Nat} :
  Calls Tryz.prog 15 #[.pointer (some ⟨b,0,none⟩),.int .u64 (q:Int)] w fun e w'=>∃ v ks,e=.returned (.tuple #[v,.int .i64 (Z2X f q:Int)])∧FAtV V w0 w' b m p f gs n∧((Z2X f q=0∧Z1P w' v ks∧Srt Z25 ks∧ks.Perm (Z1r f.t.n q))∨(Z2X f q≠0∧v=.slice none 0 0)):=by
 obtain⟨v,hv⟩:=h.fs
 refine(Z6y b m p n v f ⟨US0,gs⟩ q w hv h.ok.tr h.ok.ne).mono ?_
 rintro e w' ⟨v2,ks,rfl,hf,hs,h3⟩
 exact⟨v2,ks,rfl,h.step hs hf h.ok,h3⟩
end
theorem BothAt.fat {w0 w:World} {b m p g:Nat} {v vr vu vg:Value} {gs1 gs2:List Grp} {t:Tr} (h:BothAt w0 w b m p g v vr vu vg gs1 gs2 t) (hg:GoodV V t):FAtV V w0 w b m p (Zav t) gs1 0 :=
 ⟨⟨v,h.fs⟩,h.below,h.lb,h.lm,Zd4 hg,h.s1⟩
end
section
open Go.RowKit
theorem sz1 (b:UInt8):(⟨#[b]⟩:ByteArray).size≤maxLen:=by show(1:Nat)≤maxLen;unfold maxLen;omega
end
section
open Go.RowKit Go.Maps
noncomputable def T0:Tr:=⟨2,[Z3o ⟨#[117,49]⟩ 0]⟩
noncomputable def J0:FsV:=Zav T0
noncomputable def J1:FsV:=(Z13 U0 J0 ⟨#[117,49]⟩ 1 ⟨#[97]⟩ 438 2).1
noncomputable def J2:FsV:=(Z6M J1 2).1
noncomputable def J3:FsV:=(Z30 J2 ⟨#[117,49]⟩ 2 0 ⟨#[120,121]⟩).1
noncomputable def J4:FsV:=(Z1s U0 J3 ⟨#[117,49]⟩ 2).1
noncomputable def J5:FsV:=(Z4D J4 2 0 9).1
noncomputable def J6:FsV:=Z2d J5 2 2
noncomputable def J7:FsV:=Zds J6 2
theorem Zej:Z13 U0 J0 ⟨#[117,49]⟩ 1 ⟨#[97]⟩ 438 2=(J1,2,0):=by kernel_rfl
theorem Zek:Z6M J1 2=(J2,true):=by kernel_rfl
theorem Zel:Z30 J2 ⟨#[117,49]⟩ 2 0 ⟨#[120,121]⟩=(J3,2,0):=by kernel_rfl
theorem Zem:Z1s U0 J3 ⟨#[117,49]⟩ 2=(J4,0):=by kernel_rfl
theorem Zen:Z4D J4 2 0 9=(J5,⟨#[120,121]⟩,0):=by kernel_rfl
theorem Zda:Z2o U0 J5 ⟨#[117,49]⟩ 1 ⟨#[97]⟩=(0,6):=by kernel_rfl
theorem Zdb:Z52 J7 2=(Z51,6):=by kernel_rfl
theorem ZdS:J7.t.n.length=1:=by kernel_rfl
theorem Zdc:J0.t.next=2:=by kernel_rfl
theorem ZdT:Z5y US0 ⟨#[117,51]⟩=true:=by kernel_rfl
theorem ZdU:Z5y US0 ⟨#[103,49]⟩=false:=by kernel_rfl
theorem vW1:Z8 ⟨#[117,49]⟩=true:=by kernel_rfl
theorem sz2 (a b:UInt8):(⟨#[a,b]⟩:ByteArray).size≤maxLen:=by show(2:Nat)≤maxLen;unfold maxLen;omega
theorem Zdd (x y:Value) (w:World):(Instr.field 30 (.agg #[x,y]) 1).run Tryz.prog w=.ok y w:=by kernel_rfl
theorem Zae:Zes T0:=Z9Z _ _ vW1 (sz2 _ _) (by omega)
set_option maxHeartbeats 6400000 in
theorem Z78 (w:World):Calls Tryz.prog 7 #[] w fun e w'=>e=.returned (.bool true)∧Below w.heap.size w w':=by
 have hc1:=hid (ZcC ⟨#[117,49]⟩ 0 w)
 go_enter Tryz.func7,Tryz.ntmps7
 go_wp2_with fail
 refine hc1.out.mono ?_
 rintro e w1 ⟨v1,rfl,hv1,hb1⟩
 obtain⟨a1,c1,rfl,_,_⟩:=hv1.form
 have hbo:Calls Tryz.prog 8 #[.agg #[.int .u64 2,.slice a1 1 c1]] w1 (Zd6 T0 w1):=Z7B _ T0 w1 hv1 Zae.w
 replace hbo:=hid hbo
 have hB1:=hid hb1
 clear hc1 hv1 hb1
 go_wp2_with fail
 refine hbo.out.mono ?_
 rintro e w2 ⟨b,m,p,g,v,vr,vu,vg,gs,gs2,rfl,hbt⟩
 have hA0:=hid (hbt.fat Zae)
 clear hbo hbt
 go_wp2_with fail
 have hc:=hid (hA0.out.create Zej (sz1 _) (by omega) (by omega) vW1 (sz2 _ _) (by show J0.t.next+1<9223372036854775808;rw[Zdc];omega) (by omega))
 refine hc.out.mono ?_
 rintro e x1 ⟨rfl,hA⟩
 have hA1:=hid hA
 clear hc hA
 go_wp2_with fail
 have hc:=hid (hA1.out.hold Zek (by omega) (by omega))
 refine hc.out.mono ?_
 rintro e x2 ⟨rfl,hA⟩
 have hA2:=hid hA
 clear hc hA
 go_wp2_with fail
 have hc:=hid (hA2.out.write Zel (by omega) (by show 2≤1000000;omega) vW1 (sz2 _ _))
 refine hc.out.mono ?_
 rintro e x3 ⟨rfl,hA⟩
 have hA3:=hid hA
 clear hc hA
 go_wp2_with fail
 have hc:=hid (hA3.out.remove Zem (by omega) vW1 (sz2 _ _))
 refine hc.out.mono ?_
 rintro e x4 ⟨rfl,hA⟩
 have hA4:=hid hA
 clear hc hA
 go_wp2_with fail
 have hc:=hid (hA4.out.read Zen (by omega) (by omega))
 refine hc.out.mono ?_
 rintro e x5 ⟨rfl,hA⟩
 have hA5:=hid hA
 clear hc hA
 go_wp2_with fail
 have hc:=hid (hA5.out.stepIn Zda)
 refine hc.out.mono ?_
 rintro e x6 ⟨rfl,hA⟩
 have hA6:=hid hA
 clear hc hA
 go_wp2_with fail
 have hc:=hid (hA6.out.close (f':=J6) (mode:=2) (q:=2) rfl (by omega) (by omega) (by omega))
 refine hc.out.mono ?_
 rintro e x7 ⟨rfl,hA⟩
 have hA7:=hid hA
 clear hc hA
 go_wp2_with fail
 have hc:=hid (hA7.out.let_ (f':=J7) (q:=2) rfl (by omega) (by omega))
 refine hc.out.mono ?_
 rintro e x8 ⟨rfl,hA⟩
 have hA8:=hid hA
 clear hc hA
 go_wp2_with fail
 have hc:=hid (hA8.out.stat Zdb)
 refine hc.out.mono ?_
 rintro e xs ⟨rfl,hA⟩
 obtain⟨Z,hZ⟩ : ∃ Z,Z=(xs.alloc (.cells #[.int .u16 0,.int .u32 0,.int .u8 0,.int .u32 0,.int .u64 0,.int .u32 0,.int .u32 0,.int .u32 0,.int .u64 0,.string ⟨#[]⟩,.string ⟨#[]⟩,.string ⟨#[]⟩,.string ⟨#[]⟩] 53)).setRow xs.heap.size Z51:=⟨_,rfl⟩
 have hbZ:Below xs.heap.size xs Z:=by rw[hZ];exact below_setRow ((Below.refl _ _).alloc (Nat.le_refl _) _) (Nat.le_refl _) _
 have hnew:=hid (heap_alloc_new xs (.cells #[.int .u16 0,.int .u32 0,.int .u8 0,.int .u32 0,.int .u64 0,.int .u32 0,.int .u32 0,.int .u32 0,.int .u64 0,.string ⟨#[]⟩,.string ⟨#[]⟩,.string ⟨#[]⟩,.string ⟨#[]⟩] 53))
 have hAZ:=hid (hA.on hbZ)
 have ht:=hid hAZ.out.tree
 clear hc hA hbZ
 go_wp2_with (first
  |(rw[←hZ];replace hZ:=hid hZ)
  |(refine wpList_store_row (by rfl) 53 (.tmp 13) (.tmp 61) (by rfl) xs.heap.size Z51 (by rfl) (by rfl) 53 _ hnew.out (by kernel_rfl) (by kernel_rfl) (by kernel_rfl) ?_))
 refine ht.out.mono ?_
 rintro e xt ⟨vt,rfl,hvt,_,hAt,_⟩
 obtain⟨at_,ct,rfl,_,_⟩:=hvt.form
 rw[ZdS]
 have hAt:=hid hAt
 have h3:=hid (hAt.out.has ZdT)
 have h4:=hid (hAt.out.has ZdU)
 clear ht hvt
 have hft:=Zdd
 go_wp2_with fail
 refine h3.out.mono ?_
 rintro e xh ⟨rfl,rfl⟩
 go_wp2_with fail
 refine h4.out.mono ?_
 rintro e xh2 ⟨rfl,rfl⟩
 go_wp2_with fail
 go_ret
 exact⟨rfl,sn hB1.out hAt.out.below⟩
end
section
structure RootOk (r:Nod):Prop where
 path:r.path=1
 gone:r.gone=false
 mode:r.mode=2147484157
 uid:r.uid=⟨#[117,49]⟩
 gid:r.gid=⟨#[117,49]⟩
 data:r.data.size=0
structure FilOk (x:Nod) (d:ByteArray) (g:Bool):Prop where
 path:x.path=2
 gone:x.gone=g
 mode:x.mode=436
 data:x.data=d
 up:x.up=if g then 0 else 1
theorem RootOk.dir {r:Nod} (h:RootOk r):ZF r=true:=by unfold ZF;rw[h.mode];rfl
end
section
theorem Z8u {l:List Nod} (h:Z16 l) (d:Nat):(Z1r l d).Nodup:=by
 have:(Z1r l d).Pairwise fun a b=>a.path<b.path:=h.filter _
 exact this.imp fun {a b} hab e=>by rw[e]at hab;omega
theorem Z7D {l ks:List Nod} {d:Nat} (hp:ks.Perm (Z1r l d)) {n:Nod}:n∈ks↔n∈l∧Z1m d n=true:=by
 rw[hp.mem_iff];unfold Z1r;rw[List.mem_filter]
theorem Z6C {a b:ByteArray} (h1:leS a b=true) (h2:leS b a=true):a=b:=by
 unfold leS at *
 rw[bytesLess_eq]at *
 simp at h1 h2
 have h:=List.le_antisymm h2 h1
 rw[ByteArray.toList_eq,ByteArray.toList_eq]at h
 cases a;cases b
 simpa using h.symm
theorem Zaf {t:Tr} (h:OkC t) {ks:List Nod} {d:Nat} (hs:Srt Z25 ks) (hp:ks.Perm (Z1r t.n d)) {j:Nat} (hj:j+1<ks.length):leS (ks[j+1]).name (ks[j]).name=false:=by
 have h1:=hs.get (i:=j) (j:=j+1) (by omega) hj
 cases hle:leS (ks[j+1]).name (ks[j]).name with
 | false=>rfl
 | true =>
  exfalso
  have hl2:leS (ks[j]).name (ks[j+1]).name=true:=by
   unfold Z25 at h1
   simp only[Bool.and_eq_true]at h1
   exact h1.1
  have hn:=Z6C hl2 hle
  obtain⟨m1,k1⟩:=(Z7D hp).1 (List.getElem_mem (l:=ks) (n:=j) (by omega))
  obtain⟨m2,k2⟩:=(Z7D hp).1 (List.getElem_mem (l:=ks) (n:=j+1) hj)
  have he:=h.uniq _ m1 _ m2 d k1 k2 hn
  have hnd:ks.Nodup:=hp.nodup_iff.2 (Z8u h.sort d)
  have:=List.pairwise_iff_getElem.1 hnd j (j+1) (by omega) hj (by omega)
  exact this he
end
section
open Go.RowKit
theorem ZbF:ElemOk Tryz.prog 78 9 1 16:=Z2l (z:=.string ⟨#[]⟩) Tryz.underlying78 (by kernel_rfl) rfl (by decide)
theorem Zde (l:List Nod) (k:Nat):(Z1w l (k+1) 1).isSome=true:=by unfold Z1w;rfl
theorem ZbG {l:List Nod} {k p:Nat} (h1:p≠1) (h:ZM l p=none):(Z1w l (k+1) p).isSome=false:=by unfold Z1w;rw[if_neg h1,h];rfl
theorem ZbH {l:List Nod} {k p:Nat} {n:Nod} (h1:p≠1) (h:ZM l p=some n) (hg:n.gone=true):(Z1w l (k+1) p).isSome=false:=by unfold Z1w;rw[if_neg h1,h];simp[hg]
theorem ZdV {l:List Nod} {k p:Nat} {n:Nod} (h1:p≠1) (h:ZM l p=some n) (hg:n.gone=false):(Z1w l (k+1) p).isSome=(Z1w l k n.up).isSome:=by
 conv=>lhs;unfold Z1w
 rw[if_neg h1,h];simp[hg]
set_option maxHeartbeats 6400000 in
theorem ZbI (v:Value) (x:Nat) (l:List Nod) (p:Nat) (w:World) (hv:Z3 w v l) (hl:l.length≤900) :
  Calls Tryz.prog 110 #[.agg #[.int .u64 (x:Int),v],.int .u64 (p:Int)] w fun e w'=>(∃ r,e=.returned (.tuple #[r,.bool (Z1w l (l.length+1) p).isSome]))∧Below w.heap.size w w':=by
 obtain⟨a,c,rfl,g1,g2⟩:=hv.form
 unfold maxLen at g2
 obtain⟨W,hW⟩ : ∃ W,W=w.alloc (.cells #[.int .u64 (x:Int),.slice a l.length c] 86):=⟨_,rfl⟩
 have hb0:Below w.heap.size w W:=by rw[hW];exact(Below.refl w.heap.size w).alloc (Nat.le_refl _) _
 have hX0:=hid (show W.heap[w.heap.size]?=some (.cells #[.int .u64 (x:Int),.slice a l.length c] 86 (0,0)) by rw[hW,heap_alloc_new])
 replace hv:=hid hv
 replace hb0:=hid hb0
 obtain⟨r,hr⟩ : ∃ r,r=(Z1w l (l.length+1) p).isSome:=⟨_,rfl⟩
 rw[←hr]
 replace hr:=hid hr
 go_enter Tryz.func110,Tryz.ntmps110
 go_wp2_with (rw[←hW];replace hW:=hid hW)
 go_loopg [1,6,7] (l.length+1) (fun g1 pv ov kv wr=>∃ (q k m:Nat) (ys:List ByteArray),pv=.int .u64 (q:Int)∧kv=.int .i64 (k:Int)∧k≤l.length+1∧l.length+1 - k≤g1∧m≤k∧wr.ownsRow (w.heap.size+1) 9 1 ov m (ys.map Value.string)∧Hid (Below w.heap.size w wr)∧Hid (wr.heap[w.heap.size]?=some (.cells #[.int .u64 (x:Int),.slice a l.length c] 86 (0,0)))∧Hid (r=(Z1w l (l.length+1 - k) q).isSome))
 case atStart=>exact⟨p,0,0,[],rfl,by first | rfl | go_num,by omega,by omega,by omega,World.ownsRow_nil _ _ _ _,hb0,hX0,hr⟩
 case round =>
  clear hb0 hX0 hr
  obtain⟨q,k,m,ys,rfl,rfl,hk,hg,hmk,hown,hB,hX,hR⟩:=hrel
  obtain⟨oa,oc,rfl⟩:=Z1V hown
  have e0:=Z0 hX.out 0
  have e1:=Z0 hX.out 1
  replace hown:=hid hown
  by_cases hkl:k≤l.length
  ·have hkz:(k:Int)≤(l.length:Int):=by omega
   obtain⟨j,hj⟩ : ∃ j,l.length+1 - k=j+1:=⟨l.length - k,by omega⟩
   rw[hj]at hR
   replace hj:=hid hj
   by_cases hq1:q=1
   ·have k1:((q:Int) == 1)=true:=by simpa using (by omega:(q:Int)=1)
    have hR2:=hid (show r=true by rw[hR.out,hq1];exact Zde l j)
    clear hq1 hR
    go_wp2_with fail
    go_ret2
    exact⟨⟨_,by rw[hR2.out];rfl⟩,hB.out⟩
   ·have k1:((q:Int) == 1)=false:=by rw[beq_eq_false_iff_ne];omega
    have hget:=hid (Z5M _ x l q wr (hv.out.below hB.out) (by omega))
    go_wp2_with fail
    refine hget.out.mono ?_
    rintro e w3 ⟨rfl,hb3⟩
    obtain⟨n,hn⟩ : ∃ n,n=Z1M l q:=⟨_,rfl⟩
    rw[←hn]
    have hnew:=hid (heap_alloc_new w3 (.cells Zk.cells 157))
    obtain⟨X2,hX2⟩ : ∃ W,W=Zat w3 n:=⟨_,rfl⟩
    have hbX:Below w3.heap.size w3 X2:=by rw[hX2];exact Z3g _ _
    have hD0:X2.heap[w3.heap.size]?=some (.cells n.cells 157 (0,0)):=by rw[hX2];exact Z3R _ _
    have hbb:=sn hb3 hbX
    have hB2:=hid (sn hB.out hbb)
    have hown2:=hid (ZT hown.out hbb)
    have hXa:=hid ((hbb.block _ (lt_of_block hX.out)).trans hX.out)
    have c10:X2.cell? ⟨w3.heap.size,10,none⟩=some (.bool n.gone):=Z0 hD0 10
    have c5:X2.cell? ⟨w3.heap.size,5,none⟩=some (.string n.name):=Z0 hD0 5
    have c9:X2.cell? ⟨w3.heap.size,9,none⟩=some (.int .u64 (n.up:Int)):=Z0 hD0 9
    have hD1:=hid hD0
    unfold Zat at hX2
    rw[Zc]at hX2 hnew
    replace hn:=hid hn
    clear hget hb3 hbX hbb hD0 e0 e1 hB hown hX
    go_upto_region 8 with (first
     |(rw[←hX2];replace hX2:=hid hX2)
     |(refine wpList_store_row (by rfl) 157 (.tmp 8) (.tmp 24) (by rfl) w3.heap.size n.cells (by rfl) (by rfl) 157 _ hnew.out (by kernel_rfl) (by kernel_rfl) (Zw n) ?_))
    try (rw[←hX2];replace hX2:=hid hX2)
    clear hnew
    generalize w3.heap.size=z2 at *
    cases hgt:ZM l q with
    | none =>
     have hR2:=hid (show r=false by rw[hR.out];exact ZbG hq1 hgt)
     simp only[Option.isSome_none]
     clear hgt hR hq1
     go_wp2_with fail
     go_ret2
     exact⟨⟨_,by rw[hR2.out];rfl⟩,hB2.out⟩
    | some y =>
     have hny:n=y:=by rw[hn.out];unfold Z1M;rw[hgt];rfl
     subst hny
     simp only[Option.isSome_some]
     cases hgn:n.gone with
     | true =>
      have hR2:=hid (show r=false by rw[hR.out];exact ZbH hq1 hgt hgn)
      rw[hgn]at c10
      clear hgt hR hq1 hgn
      go_wp2_with fail
      go_ret2
      exact⟨⟨_,by rw[hR2.out];rfl⟩,hB2.out⟩
     | false =>
      have hR2:=hid (show r=(Z1w l (l.length+1 - (k+1)) n.up).isSome by
       rw[hR.out,ZdV hq1 hgt hgn,show l.length+1 - (k+1)=j by have:=hj.out;omega])
      rw[hgn]at c10
      clear hgt hR hq1 hgn
      obtain⟨W5,hW5⟩ : ∃ W,W=X2.alloc (.cells #[.string n.name] 9):=⟨_,rfl⟩
      have hb5:Below X2.heap.size X2 W5:=by rw[hW5];exact(Below.refl _ _).alloc (Nat.le_refl _) _
      have hlt:=lt_of_block hXa.out
      have hownN:=hid (show W5.ownsRow (w.heap.size+1) 9 1 (.slice (some ⟨X2.heap.size,0,none⟩) 1 1) 1 [.string n.name] from⟨rfl,.inr ⟨X2.heap.size,1,#[.string n.name],rfl,by omega,by rw[hW5];exact heap_alloc_new _ _,Nat.le_refl _,by unfold maxLen;omega,rfl,rfl⟩⟩)
      have hsrc:=hid (Z15.of_own (ZT hown2.out hb5))
      have hB5:=hid (sn hB2.out hb5)
      have hX5:=hid ((hb5.block _ (lt_of_block hXa.out)).trans hXa.out)
      have hD5:=hid ((hb5.block _ (lt_of_block hD1.out)).trans hD1.out)
      have hone:Hid (∀ u∈ys.map Value.string,u.oneCell'=true):=hid (by intro u hu;obtain⟨s,_,rfl⟩:=List.mem_map.1 hu;rfl)
      have hs5:=hid (lt_of_block hX5.out)
      have hzl:=hid (lt_of_block hD1.out)
      clear hb5 hlt
      go_wp2_with (first
       |(rw[←hW5];replace hW5:=hid hW5)
       |(at_builtin;refine Z1q ZbF _ rfl (.tmp 34) (.tmp 35) rfl (w.heap.size+1) (.slice (some ⟨X2.heap.size,0,none⟩) 1 1) 1 [.string n.name] rfl hownN.out (.slice oa m oc) m (ys.map Value.string) rfl hsrc.out hone.out (by unfold maxLen;omega) (by omega) (by have:=hs5.out;omega) ?_))
      intro a' c' w' h2 h3
      have hB6:=hid (hB5.out.grown h3 hB5.out.size (fun j hj=>by have:=(hownN.out.lt j hj).1;omega))
      have hX6:=hid ((h3.block w.heap.size hs5.out (fun e=>by have:=(hownN.out.lt _ e.symm).1;omega)).trans hX5.out)
      have hD6:=(h3.block z2 (lt_of_block hD5.out) (fun e=>by have h8:=hzl.out;simp[Value.ownBlock]at e;omega)).trans hD5.out
      have c9:w'.cell? ⟨z2,9,none⟩=some (.int .u64 (n.up:Int)):=Z0 hD6 9
      have hown6:=hid (show w'.ownsRow (w.heap.size+1) 9 1 (.slice a' (1+m) c') (1+m) ((n.name :: ys).map Value.string) from h2)
      clear h2 h3 hD6
      go_wp2_with fail
      go_roundg (l.length+1 - (k+1))
      case measure=>omega
      case rel=>exact⟨n.up,k+1,1+m,n.name :: ys,rfl,by first | rfl | go_num,by omega,by omega,by omega,hown6.out,hB6,hX6,hR2⟩
  ·have hkz:¬ (k:Int)≤(l.length:Int):=by omega
   have hR2:=hid (show r=false by rw[hR.out,show l.length+1 - k=0 by omega];rfl)
   clear hR
   go_wp2_with fail
   go_ret2
   exact⟨⟨_,by rw[hR2.out];rfl⟩,hB.out⟩
end
end Go.Proofs.YtkefjeabckainaaGreat
