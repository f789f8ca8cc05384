/- How text.head and text.one of the program end, for every text of at most maxLen bytes. No further condition. And the texts behind it. -/
import Derived.Test.YtkefjeabckainaaGreatProg
import Derived.Test.YtkefjeabckainaaGreatFtB01
import Derived.WalkKit
import Derived.WalkSpells
import Derived.WalkLawsBesides
import Derived.Recover
import Derived.Test.YtkefjeabckainaaGreatShelf
import Derived.Lib.ConvBytes
import Derived.Lib.AppendStr
namespace Go.Proofs.YtkefjeabckainaaGreat
set_option maxRecDepth 100000
section
open Go.RowKit
def Z2Y:List PanicEntry:=[{v:=.iface 252 (.agg #[]),recovered:=false}]
theorem Z55 {c n v l:Nat} (h:S.head c=some (n,v,l)) :
  (c<128∧n=0∧v=c∧l=0)∨(128≤c∧c / 32=6∧n=1∧v=c % 32∧l=128)∨(128≤c∧c / 32≠6∧c / 16=14∧n=2∧v=c % 16∧l=2048) ∨
  (128≤c∧c / 32≠6∧c / 16≠14∧c / 8=30∧n=3∧v=c % 8∧l=65536):=by
 unfold S.head at h
 split at h
 ·simp at h;omega
 split at h
 ·simp at h;omega
 split at h
 ·simp at h;omega
 split at h
 ·simp at h;omega
 ·simp at h
theorem Z8G {c:Nat} (h:S.head c=none):128≤c∧c / 32≠6∧c / 16≠14∧c / 8≠30:=by
 unfold S.head at h
 split at h
 ·simp at h
 split at h
 ·simp at h
 split at h
 ·simp at h
 split at h
 ·simp at h
 ·omega
set_option maxRecDepth 100000 in
set_option maxHeartbeats 400000 in
theorem Z64 (c:UInt8) (n v l:Nat) (w:World) (h:S.head c.toNat=some (n,v,l)) :
  Calls Tryz.prog 201 #[.int .u8 (c.toNat:Int)] w fun e w'=>e=.returned (.tuple #[.int .i64 (n:Int),.int .i32 (v:Int),.int .i32 (l:Int)])∧w=w':=by
 have hc:=c.toNat_lt
 generalize c.toNat=c at h hc
 rcases Z55 h with ⟨h1,rfl,rfl,rfl⟩ |⟨h1,h2,rfl,rfl,rfl⟩ |⟨h1,h2,h3,rfl,rfl,rfl⟩ |⟨h1,h2,h3,h4,rfl,rfl,rfl⟩
 ·clear h
  go_enter Tryz.func201,Tryz.ntmps201
  go_wp2
  go_ret3
  exact⟨rfl,rfl⟩
 ·have k2:(((c:Nat):Int) / 32 == 6)=true:=by simp;omega
  clear h h2
  go_enter Tryz.func201,Tryz.ntmps201
  go_wp2
  go_ret3
  exact⟨rfl,rfl⟩
 ·have k2:(((c:Nat):Int) / 32 == 6)=false:=by simp;omega
  have k3:(((c:Nat):Int) / 16 == 14)=true:=by simp;omega
  clear h h2 h3
  go_enter Tryz.func201,Tryz.ntmps201
  go_wp2
  go_ret3
  exact⟨rfl,rfl⟩
 ·have k2:(((c:Nat):Int) / 32 == 6)=false:=by simp;omega
  have k3:(((c:Nat):Int) / 16 == 14)=false:=by simp;omega
  have k4:(((c:Nat):Int) / 8 == 30)=true:=by simp;omega
  clear h h2 h3 h4
  go_enter Tryz.func201,Tryz.ntmps201
  go_wp2
  go_ret3
  exact⟨rfl,rfl⟩
set_option maxRecDepth 100000 in
set_option maxHeartbeats 400000 in
theorem Z8H (c:UInt8) (w:World) (h:S.head c.toNat=none) :
  Calls Tryz.prog 201 #[.int .u8 (c.toNat:Int)] w fun e w'=>e=.panicked Z2Y∧w=w':=by
 have hc:=c.toNat_lt
 generalize c.toNat=c at h hc
 obtain⟨h1,h2,h3,h4⟩:=Z8G h
 have k2:(((c:Nat):Int) / 32 == 6)=false:=by simp;omega
 have k3:(((c:Nat):Int) / 16 == 14)=false:=by simp;omega
 have k4:(((c:Nat):Int) / 8 == 30)=false:=by simp;omega
 clear h h2 h3 h4
 go_enter Tryz.func201,Tryz.ntmps201
 go_wp2
 exact⟨rfl,rfl,rfl⟩
def Zdv:Option Nat→Ending
 | some n=>.returned (.int .i64 (n:Int))
 | none=>.panicked Z2Y
theorem ZbY (s:ByteArray) (h0:0<s.size):S.one s.data.toList=match S.head s[0].toNat with
  | none=>none
  | some (n,v,least)=>if s.size≤n then none else match S.cont n v (s.data.toList.drop 1) with
   | none=>none
   | some v=>if S.good v least then some (n+1) else none:=by
 have e:s.data.toList=s[0] :: s.data.toList.drop 1:=by
  have h:0<s.data.toList.length:=by simpa using h0
  exact List.drop_eq_getElem_cons h
 conv=>lhs;rw[e]
 unfold S.one
 have:(s[0] :: List.drop 1 s.data.toList).length=s.size:=by rw[←e];simp
 simp only[this]
 rfl
set_option maxRecDepth 100000 in
set_option maxHeartbeats 400000 in
theorem Z8I (s:ByteArray) (w:World) (hs:s.size≤maxLen) (h0:0<s.size) :
  Calls Tryz.prog 193 #[.string s] w fun e w'=>e=Zdv (S.one s.data.toList)∧w=w':=by
 unfold maxLen at hs
 have E:=hid (ZbY s h0)
 cases hh:S.head s[0].toNat with
 | none =>
  have E2:Hid (S.one s.data.toList=none):=by have:=E.out;rw[hh]at this;exact this
  have H:=hid hh
  clear hh E
  go_enter Tryz.func193,Tryz.ntmps193
  go_wp2_with (go_at_call 201;refine(Z8H _ _ H.out).mono ?_;rintro e w' ⟨rfl,rfl⟩)
  exact⟨rfl,by rw[E2.out];rfl,rfl⟩
 | some t =>
  obtain⟨n,v,l⟩:=t
  have hl:=S.head_lt hh
  have hle:n<s.size→Hid (S.one s.data.toList=match S.cont n v (s.data.toList.drop 1) with
   | none=>none
   | some v=>if S.good v l then some (n+1) else none):=by
   intro h;have:=E.out;rw[hh]at this;simp only[if_neg (show ¬ s.size≤n by omega)]at this;exact this
  have hgt:s.size≤n→Hid (S.one s.data.toList=none):=by
   intro h;have:=E.out;rw[hh]at this;simp only[if_pos h]at this;exact this
  have H:=hid hh
  clear hh E
  obtain⟨hn,hb⟩:=hl
  by_cases hsz:s.size≤n
  ·have E2:=hgt hsz
   clear hgt hle hb
   go_enter Tryz.func193,Tryz.ntmps193
   go_wp2_with (go_at_call 201;refine(Z64 _ _ _ _ _ H.out).mono ?_;rintro e w' ⟨rfl,rfl⟩)
   exact⟨rfl,by rw[E2.out];rfl,rfl⟩
  have E2:=hle (by omega)
  clear hgt hle
  have hb:=hid hb
  go_enter Tryz.func193,Tryz.ntmps193
  go_wp2_with (go_at_call 201;refine(Z64 _ _ _ _ _ H.out).mono ?_;rintro e w' ⟨rfl,rfl⟩)
  go_loop [4,6] (fun x i=>∃ k vi:Nat,1≤k∧k≤n+1∧i=.int .i64 (k:Int)∧x=.int .i32 (vi:Int)∧Hid ((vi+1) * 64 ^ (n+1 - k)≤2097152)∧Hid (S.cont n v (s.data.toList.drop 1)=S.cont (n+1 - k) vi (s.data.toList.drop k))) (fun _ i=>n+1 - (intOf i).toNat)
  case atStart=>exact⟨1,v,by omega,by omega,rfl,rfl,hid (by simpa using hb.out),hid rfl⟩
  case round =>
   obtain⟨k,vi,hk1,hk2,rfl,rfl,hbd,hcont⟩:=hrel
   by_cases hk:k=n+1
   ·obtain rfl:n=k - 1:=by omega
    have hfin:=hcont.out
    rw[show k - 1+1 - k=0 from by omega]at hfin
    simp only[S.cont]at hfin
    have hv:=S.bound_v hbd.out
    have E3:Hid (S.one s.data.toList=if S.good vi l then some k else none):=by
     have:=E2.out;rw[hfin]at this;exact hid (by simpa[show k - 1+1=k by omega] using this)
    clear hfin hcont E2 H hb hbd hk
    go_wp2
    all_goals first
     |(exact⟨rfl,by rw[E3.out,show S.good vi l=false from by unfold S.good;simp;omega];rfl,rfl⟩)
     |(go_ret;exact⟨by rw[E3.out,show S.good vi l=true from by unfold S.good;simp;omega];exact congrArg (fun x=>Ending.returned (Value.int .i64 x)) (by omega),rfl⟩)
   ·have hbd':=hbd.out
    rw[show n+1 - k=(n - k)+1 from by omega]at hbd'
    have hv:=S.bound_v hbd'
    have hbd'':=hid hbd'
    clear hbd' hbd
    have hklt:k<s.size:=by omega
    have hkd:k<s.data.toList.length:=by simpa using hklt
    by_cases hc:s[k].toNat / 64=2
    ·have hstep:=hid (S.cont_step (k:=n - k) (v:=vi) (l:=s.data.toList) k hkd hc)
     have k2:(((s[k].toNat:Nat):Int) / 64 != 2)=false:=by simp;omega
     have hb1:((s[k].toNat:Nat):Int)≤255:=by have:=s[k].toNat_lt;omega
     have hb2:=S.bound_step hbd''.out (show s[k].toNat % 64<64 by omega)
     have hb3:=hid hb2
     clear hc hb2
     go_wp2
     go_round
     case rel=>exact⟨k+1,vi * 64+s[k].toNat % 64,by omega,by omega,by go_num,by go_num,hid (by rw[show n+1 - (k+1)=n - k from by omega];exact hb3.out),hid (by rw[hcont.out,show n+1 - k=n - k+1 from by omega,hstep.out,show n+1 - (k+1)=n - k from by omega];rfl)⟩
     case measure=>simp[intOf];omega
    ·have hstop:=hid (S.cont_stop (k:=n - k) (v:=vi) (l:=s.data.toList) k hkd hc)
     have k2:(((s[k].toNat:Nat):Int) / 64 != 2)=true:=by simp;omega
     clear hc
     go_wp2
     exact⟨rfl,by rw[E2.out,hcont.out,show n+1 - k=(n - k)+1 from by omega,hstop.out];rfl,rfl⟩
theorem Zaw {s:ByteArray} {n:Nat} (w:World) (hs:s.size≤maxLen) (h:S.one s.data.toList=some n) :
  Calls Tryz.prog 193 #[.string s] w fun e w'=>e=.returned (.int .i64 (n:Int))∧w=w':=by
 have:=Z8I s w hs (by have:=S.one_le h;simp at this;omega)
 rw[h]at this;exact this
theorem Zax {s:ByteArray} (w:World) (hs:s.size≤maxLen) (h0:0<s.size) (h:S.one s.data.toList=none) :
  Calls Tryz.prog 193 #[.string s] w fun e w'=>e=.panicked Z2Y∧w=w':=by
 have:=Z8I s w hs h0
 rw[h]at this;exact this
end
section
open Go.RowKit
theorem Zay (w:World):(binOp .neq 20 (.iface 252 (.agg #[])) (.iface 252 (.agg #[]))).run Tryz.prog w=.ok (.bool false) w:=by kernel_rfl
theorem Z4e (p q:Addr) (x:Int) (y:Bool) (w:World) (hc:w.cell? p=some (.int .i64 x)) (hz:w.frozen? p=false) (hq:(w.setCell p (.int .i64 0)).cell? q=some (.bool y)) (hqz:w.frozen? q=false) :
  CallsD Tryz.prog 192 #[.pointer (some p),.pointer (some q)] (.panicking Z2Y) w fun e u' w' =>
   e=.returned (.tuple #[])∧u'=.panicking [{v:=.iface 252 (.agg #[]),recovered:=true}]∧w'=(w.setCell p (.int .i64 0)).setCell q (.bool false):=by
 have hne:=Zay
 refine callsD_of_wpS Tryz.func192 rfl fun c₀ cs hu=>?_
 apply wpS_seq
 apply wpS_region
 simp[wpOpsS,go_sem,recoverD,hu,Z2Y,Tryz.ntmps192,Exit.thenS,Array.replicate_succ]
 apply Z3v
 go_wp2
 go_end0
 exact⟨rfl,rfl⟩
theorem Z6I (p q:Addr) (w:World) :
  CallsD Tryz.prog 192 #[.pointer (some p),.pointer (some q)] .returning w fun e u' w'=>e=.returned (.tuple #[])∧u'=.returning∧w'=w:=by
 refine callsD_of_wpS Tryz.func192 rfl fun c₀ cs hu=>?_
 apply wpS_seq
 apply wpS_region
 simp[wpOpsS,go_sem,recoverD,hu,Tryz.ntmps192,Exit.thenS,Array.replicate_succ]
 rw[show c₀={c₀ with mode:=.returning} from by cases c₀;simp_all]
 apply Z3v
 go_wp2
 go_end0
 exact⟨rfl,rfl⟩
def Zaz:Value→ByteArray | .string s=>s | _=>ByteArray.empty
def Z3j (s:ByteArray):Nat:=(S.runes s.data.toList).getD 0
def Z1Q (s:ByteArray):Bool:=(S.runes s.data.toList).isSome
set_option maxHeartbeats 400000 in
theorem Z4u (s:ByteArray) (w:World) (hs:s.size≤maxLen) :
  Calls Tryz.prog 170 #[.string s] w fun e w'=>e=.returned (.tuple #[.int .i64 (Z3j s:Int),.bool (Z1Q s)])∧Below w.heap.size w w':=by
 unfold maxLen at hs
 have hmf : ∀ (fn:Fn) (first cap:Array Value) (w:World),(Instr.makeFunc fn first cap).run Tryz.prog w=.ok (.func fn first cap) w:=fun _ _ _ _=>rfl
 go_enter_defers Tryz.func170,Tryz.ntmps170
 go_wp2
 go_loopw [0] (fun sv wr=>∃ (k:Nat) (t:ByteArray),sv=.string t∧wr=(w.alloc (.cells #[.int .i64 (k:Int)] 3)).alloc (.cells #[.bool false] 4)∧k+t.size≤s.size∧Hid (S.runes s.data.toList=(S.runes t.data.toList).map (· + k))) (fun sv _=>(Zaz sv).size)
 case atStart=>exact⟨0,s,rfl,rfl,by omega,by exact hid (by simp)⟩
 case round =>
  obtain⟨k,t,rfl,rfl,hkt,hr⟩:=hrel
  by_cases ht:t.size=0
  ·obtain⟨e1,e2⟩:=Z3w ht
   have hn:t.data.toList=[]:=List.eq_nil_of_length_eq_zero (by simpa using ht)
   have E:S.runes s.data.toList=some k:=(by rw[hr.out,hn];simp[S.runes_nil])
   have E1:=hid (show Z3j s=k by unfold Z3j;rw[E];rfl)
   have E2:=hid (show Z1Q s=true by unfold Z1Q;rw[E];rfl)
   clear hn ht E hr
   go_wp2_with fail
   refine leaves_cons (f:=192) (args:=#[.pointer (some ⟨w.heap.size,0,none⟩),.pointer (some ⟨w.heap.size+1,0,none⟩)]) (by simp) (by simp[go_sem]) ?_
   refine(Z6I ⟨w.heap.size,0,none⟩ ⟨w.heap.size+1,0,none⟩ _).mono ?_
   rintro e u' w'' ⟨rfl,rfl,rfl⟩
   simp[Leaves,settle,results,Tryz.results170,go_sem]
   exact⟨⟨by rw[E1.out],E2.out⟩,((Below.refl _ _).alloc (Nat.le_refl _) _).alloc (by simp) _⟩
  ·obtain⟨e1,e2⟩:=Z4l (t:=t) (by omega)
   have ht0:t.data.toList≠[]:=fun h=>ht (by simpa using congrArg List.length h)
   cases h1:S.one t.data.toList with
   | none =>
    have E:S.runes s.data.toList=none:=(by rw[hr.out,S.runes_none ht0 h1];rfl)
    have E1:=hid (show Z3j s=0 by unfold Z3j;rw[E];rfl)
    have E2:=hid (show Z1Q s=false by unfold Z1Q;rw[E];rfl)
    have h1:=hid h1
    have ht1:0<t.size:=by omega
    clear ht0 ht E hr
    go_wp2_with (go_at_call 193;refine(Zax _ (by unfold maxLen;omega) ht1 h1.out).mono ?_;rintro e w' ⟨rfl,rfl⟩)
    refine leaves_cons (f:=192) (args:=#[.pointer (some ⟨w.heap.size,0,none⟩),.pointer (some ⟨w.heap.size+1,0,none⟩)]) (by simp) (by simp[go_sem]) ?_
    refine(Z4e ⟨w.heap.size,0,none⟩ ⟨w.heap.size+1,0,none⟩ k false _ ?_ ?_ ?_ ?_).mono ?_
    ·simp[go_sem]
    ·simp[go_sem]
    ·simp[go_sem]
    ·simp[go_sem]
    rintro e u' w'' ⟨rfl,rfl,rfl⟩
    simp[Leaves,settle,results,Tryz.results170,go_sem]
    exact⟨⟨by rw[E1.out];rfl,E2.out⟩,((Below.refl _ _).alloc (Nat.le_refl _) _).alloc (by simp) _⟩
   | some n =>
    have hle:=S.one_le h1
    have E:Hid (S.runes s.data.toList=(S.runes (t.data.toList.drop n)).map (· +(k+1))):=hid (by rw[hr.out,S.runes_some h1];cases S.runes (t.data.toList.drop n) <;> simp;omega)
    have hle1:=hle.1
    have hle2:n≤t.size:=by simpa using hle.2
    have h1:=hid h1
    clear ht0 hle hr
    go_wp2_with (go_at_call 193;refine(Zaw _ (by unfold maxLen;omega) h1.out).mono ?_;rintro e w' ⟨rfl,rfl⟩)
    go_roundw
    case rel=>exact⟨k+1,t.extract n t.size,rfl,by simp,by simp;omega,hid (by rw[E.out,S.data_extract])⟩
    case measure=>simp[Zaz];omega
end
section
open Go.RowKit
theorem Z56 (n:Nat) (h:n<256):bits .and .u8 (n:Int) 192=((n / 64 * 64:Nat):Int):=by
 have h1:=u8_and_nat n 192 h (by omega)
 have h2:n &&& 192=n / 64 * 64:=by
  have : ∀ m:Fin 256,m.val &&& 192=m.val / 64 * 64:=by decide
  exact this ⟨n,h⟩
 rw[h2]at h1;exact h1
theorem Z5t (v b:Nat) (hv:v<2097152):bits .or .i64 ((v:Int) * 64) ((b:Int) % 64)=((v * 64+b % 64:Nat):Int):=by
 have hb:b % 64<64:=Nat.mod_lt _ (by omega)
 have hx:v * 64 ||| b % 64=v * 64+b % 64:=by
  have:=Nat.shiftLeft_add_eq_or_of_lt (i:=6) hb v
  rw[Nat.shiftLeft_eq]at this
  simpa using this.symm
 show IntKind.i64.wrap ((BitVec.ofInt 64 ((v:Int) * 64) ||| BitVec.ofInt 64 ((b:Int) % 64)).toNat:Int)=_
 rw[show(v:Int) * 64=((v * 64:Nat):Int) from by omega,show(b:Int) % 64=((b % 64:Nat):Int) from by omega,BitVec.ofInt_natCast,BitVec.ofInt_natCast,BitVec.toNat_or,BitVec.toNat_ofNat,BitVec.toNat_ofNat,
  Nat.mod_eq_of_lt (by omega),Nat.mod_eq_of_lt (by omega),hx]
 simp[IntKind.wrap,IntKind.bits,IntKind.signed]
 omega
def Z4f (s:ByteArray):Nat:=(S.one s.data.toList).getD 0
set_option maxHeartbeats 1200000 in
theorem Z4v (s:ByteArray) (w:World) (hs:s.size≤maxLen) :
  Calls Tryz.prog 200 #[.string s] w fun e w'=>e=.returned (.int .i64 (Z4f s:Int))∧w=w':=by
 unfold maxLen at hs
 by_cases hz:s.size=0
 ·have E:=hid (show Z4f s=0 by
   have hn:s.data.toList=[]:=List.eq_nil_of_length_eq_zero (by simpa using hz)
   unfold Z4f;rw[hn];rfl)
  have k0:((s.size:Int) == 0)=true:=by simpa using hz
  have hz:=hid hz
  go_enter Tryz.func200,Tryz.ntmps200
  go_wp2
  go_ret
  exact⟨by rw[E.out];rfl,rfl⟩
 have h0:0<s.size:=by omega
 have k0:((s.size:Int) == 0)=false:=by simpa using hz
 have E:=ZbY s h0
 have hb1:((s[0].toNat:Nat):Int)≤255:=by have:=s[0].toNat_lt;omega
 cases hh:S.head s[0].toNat with
 | none =>
  have E2:=hid (show Z4f s=0 by unfold Z4f;rw[E,hh];rfl)
  obtain⟨h1,h2,h3,h4⟩:=Z8G hh
  clear E hh
  go_enter Tryz.func200,Tryz.ntmps200
  go_wp2_with fail
  all_goals (go_ret;exact⟨by rw[E2.out];rfl,rfl⟩)
 | some t =>
  obtain⟨n,v,l⟩:=t
  have hl:=S.head_lt hh
  have hle:n<s.size→Hid (S.one s.data.toList=match S.cont n v (s.data.toList.drop 1) with
   | none=>none
   | some v=>if S.good v l then some (n+1) else none):=by
   intro h;have:=E;rw[hh]at this;simp only[if_neg (show ¬ s.size≤n by omega)]at this;exact this
  have hgt:s.size≤n→Hid (Z4f s=0):=by
   intro h;have:=E;rw[hh]at this;simp only[if_pos h]at this;unfold Z4f;rw[this];exact hid rfl
  clear E
  have hcs:=Z55 hh
  clear hh
  obtain⟨hn,hb⟩:=hl
  by_cases hn0:n=0
  ·have hc:s[0].toNat<128:=by omega
   have E1:=hid (show Z4f s=1 by
    have:=(hle (by omega)).out
    subst hn0
    simp only[S.cont]at this
    have hg:S.good v l=true:=by unfold S.good;simp;omega
    rw[hg]at this
    unfold Z4f;rw[this];rfl)
   clear hcs hle hgt hn0 hb
   go_enter Tryz.func200,Tryz.ntmps200
   go_wp2_with fail
   all_goals (go_ret;exact⟨by rw[E1.out];rfl,rfl⟩)
  by_cases hsz:s.size≤n
  ·have E1:=hgt hsz
   clear hgt hle hb
   rcases hcs with ⟨c1,c2,c3,c4⟩ |⟨c1,c2,c3,c4,c5⟩ |⟨c1,c2,c3,c4,c5,c6⟩ |⟨c1,c2,c3,c4,c5,c6,c7⟩
   ·exact absurd c2 hn0
   all_goals
    subst n
    go_enter Tryz.func200,Tryz.ntmps200
    go_wp2_with fail
    all_goals (go_ret;exact⟨by rw[E1.out];rfl,rfl⟩)
  have E2:=hle (by omega)
  clear hgt hle
  have hb:=hid hb
  rcases hcs with ⟨c1,c2,c3,c4⟩ |⟨c1,c2,c3,c4,c5⟩ |⟨c1,c2,c3,c4,c5,c6⟩ |⟨c1,c2,c3,c4,c5,c6,c7⟩
  ·exact absurd c2 hn0
  ·subst n v l
   go_enter Tryz.func200,Tryz.ntmps200
   go_wp2_with fail
   go_loop [5,7] (fun x i=>∃ k vi:Nat,1≤k∧k≤1+1∧i=.int .i64 (k:Int)∧x=.int .i64 (vi:Int)∧Hid ((vi+1) * 64 ^ (1+1 - k)≤2097152)∧Hid (S.cont 1 (s[0].toNat % 32) (s.data.toList.drop 1)=S.cont (1+1 - k) vi (s.data.toList.drop k))) (fun _ i=>1+1 - (intOf i).toNat)
   case atStart=>exact⟨1,s[0].toNat % 32,by omega,by omega,rfl,by go_num,hid (by simpa using hb.out),hid rfl⟩
   case round =>
    obtain⟨k,vi,hk1,hk2,rfl,rfl,hbd,hcont⟩:=hrel
    by_cases hk:k=1+1
    ·have hfin:=hcont.out
     subst hk
     simp only[Nat.reduceAdd,Nat.reduceSub,S.cont]at hfin
     have hv:=S.bound_v hbd.out
     have E3:Hid (Z4f s=if S.good vi 128 then 1+1 else 0):=by
      have:=E2.out;rw[hfin]at this;unfold Z4f;rw[this];exact hid (by dsimp only;split <;> rfl)
     clear hfin hcont E2 hb hbd
     go_wp2
     all_goals first
      |(go_ret;exact⟨by rw[E3.out,show S.good vi 128=false from by unfold S.good;simp;omega];rfl,rfl⟩)
      |(go_ret;exact⟨by rw[E3.out,show S.good vi 128=true from by unfold S.good;simp;omega];rfl,rfl⟩)
    ·have hbd':=hbd.out
     rw[show 1+1 - k=(1 - k)+1 from by omega]at hbd'
     have hv:=S.bound_v hbd'
     have hbd'':=hid hbd'
     clear hbd' hbd
     have hklt:k<s.size:=by omega
     have hkd:k<s.data.toList.length:=by simpa using hklt
     have hb1:((s[k].toNat:Nat):Int)≤255:=by have:=s[k].toNat_lt;omega
     by_cases hc:s[k].toNat / 64=2
     ·have hstep:=hid (S.cont_step (k:=1 - k) (v:=vi) (l:=s.data.toList) k hkd hc)
      have hb2:=S.bound_step hbd''.out (show s[k].toNat % 64<64 by omega)
      have hb3:=hid hb2
      have k2:(bits BinOp.and IntKind.u8 (s[k].toNat:Int) 192 != 128)=false:=by rw[Z56 _ s[k].toNat_lt];simp;omega
      clear hc hb2
      go_wp2
      go_round
      case rel=>exact⟨k+1,vi * 64+s[k].toNat % 64,by omega,by omega,by go_num,by rw[Z5t _ _ hv],hid (by rw[show 1+1 - (k+1)=1 - k from by omega];exact hb3.out),hid (by rw[hcont.out,show 1+1 - k=1 - k+1 from by omega,hstep.out,show 1+1 - (k+1)=1 - k from by omega];rfl)⟩
      case measure=>simp[intOf];omega
     ·have hstop:=S.cont_stop (k:=1 - k) (v:=vi) (l:=s.data.toList) k hkd hc
      have E3:=hid (show Z4f s=0 by
       have:=E2.out;rw[hcont.out,show 1+1 - k=(1 - k)+1 from by omega,hstop]at this;unfold Z4f;rw[this];rfl)
      have k2:(bits BinOp.and IntKind.u8 (s[k].toNat:Int) 192 != 128)=true:=by rw[Z56 _ s[k].toNat_lt];simp;omega
      clear hc hstop
      go_wp2
      go_ret
      exact⟨by rw[E3.out];rfl,rfl⟩
  ·subst n v l
   go_enter Tryz.func200,Tryz.ntmps200
   go_wp2_with fail
   go_loop [5,7] (fun x i=>∃ k vi:Nat,1≤k∧k≤2+1∧i=.int .i64 (k:Int)∧x=.int .i64 (vi:Int)∧Hid ((vi+1) * 64 ^ (2+1 - k)≤2097152)∧Hid (S.cont 2 (s[0].toNat % 16) (s.data.toList.drop 1)=S.cont (2+1 - k) vi (s.data.toList.drop k))) (fun _ i=>2+1 - (intOf i).toNat)
   case atStart=>exact⟨1,s[0].toNat % 16,by omega,by omega,rfl,by go_num,hid (by simpa using hb.out),hid rfl⟩
   case round =>
    obtain⟨k,vi,hk1,hk2,rfl,rfl,hbd,hcont⟩:=hrel
    by_cases hk:k=2+1
    ·have hfin:=hcont.out
     subst hk
     simp only[Nat.reduceAdd,Nat.reduceSub,S.cont]at hfin
     have hv:=S.bound_v hbd.out
     have E3:Hid (Z4f s=if S.good vi 2048 then 2+1 else 0):=by
      have:=E2.out;rw[hfin]at this;unfold Z4f;rw[this];exact hid (by dsimp only;split <;> rfl)
     clear hfin hcont E2 hb hbd
     go_wp2
     all_goals first
      |(go_ret;exact⟨by rw[E3.out,show S.good vi 2048=false from by unfold S.good;simp;omega];rfl,rfl⟩)
      |(go_ret;exact⟨by rw[E3.out,show S.good vi 2048=true from by unfold S.good;simp;omega];rfl,rfl⟩)
    ·have hbd':=hbd.out
     rw[show 2+1 - k=(2 - k)+1 from by omega]at hbd'
     have hv:=S.bound_v hbd'
     have hbd'':=hid hbd'
     clear hbd' hbd
     have hklt:k<s.size:=by omega
     have hkd:k<s.data.toList.length:=by simpa using hklt
     have hb1:((s[k].toNat:Nat):Int)≤255:=by have:=s[k].toNat_lt;omega
     by_cases hc:s[k].toNat / 64=2
     ·have hstep:=hid (S.cont_step (k:=2 - k) (v:=vi) (l:=s.data.toList) k hkd hc)
      have hb2:=S.bound_step hbd''.out (show s[k].toNat % 64<64 by omega)
      have hb3:=hid hb2
      have k2:(bits BinOp.and IntKind.u8 (s[k].toNat:Int) 192 != 128)=false:=by rw[Z56 _ s[k].toNat_lt];simp;omega
      clear hc hb2
      go_wp2
      go_round
      case rel=>exact⟨k+1,vi * 64+s[k].toNat % 64,by omega,by omega,by go_num,by rw[Z5t _ _ hv],hid (by rw[show 2+1 - (k+1)=2 - k from by omega];exact hb3.out),hid (by rw[hcont.out,show 2+1 - k=2 - k+1 from by omega,hstep.out,show 2+1 - (k+1)=2 - k from by omega];rfl)⟩
      case measure=>simp[intOf];omega
     ·have hstop:=S.cont_stop (k:=2 - k) (v:=vi) (l:=s.data.toList) k hkd hc
      have E3:=hid (show Z4f s=0 by
       have:=E2.out;rw[hcont.out,show 2+1 - k=(2 - k)+1 from by omega,hstop]at this;unfold Z4f;rw[this];rfl)
      have k2:(bits BinOp.and IntKind.u8 (s[k].toNat:Int) 192 != 128)=true:=by rw[Z56 _ s[k].toNat_lt];simp;omega
      clear hc hstop
      go_wp2
      go_ret
      exact⟨by rw[E3.out];rfl,rfl⟩
  ·subst n v l
   go_enter Tryz.func200,Tryz.ntmps200
   go_wp2_with fail
   go_loop [5,7] (fun x i=>∃ k vi:Nat,1≤k∧k≤3+1∧i=.int .i64 (k:Int)∧x=.int .i64 (vi:Int)∧Hid ((vi+1) * 64 ^ (3+1 - k)≤2097152)∧Hid (S.cont 3 (s[0].toNat % 8) (s.data.toList.drop 1)=S.cont (3+1 - k) vi (s.data.toList.drop k))) (fun _ i=>3+1 - (intOf i).toNat)
   case atStart=>exact⟨1,s[0].toNat % 8,by omega,by omega,rfl,by go_num,hid (by simpa using hb.out),hid rfl⟩
   case round =>
    obtain⟨k,vi,hk1,hk2,rfl,rfl,hbd,hcont⟩:=hrel
    by_cases hk:k=3+1
    ·have hfin:=hcont.out
     subst hk
     simp only[Nat.reduceAdd,Nat.reduceSub,S.cont]at hfin
     have hv:=S.bound_v hbd.out
     have E3:Hid (Z4f s=if S.good vi 65536 then 3+1 else 0):=by
      have:=E2.out;rw[hfin]at this;unfold Z4f;rw[this];exact hid (by dsimp only;split <;> rfl)
     clear hfin hcont E2 hb hbd
     go_wp2
     all_goals first
      |(go_ret;exact⟨by rw[E3.out,show S.good vi 65536=false from by unfold S.good;simp;omega];rfl,rfl⟩)
      |(go_ret;exact⟨by rw[E3.out,show S.good vi 65536=true from by unfold S.good;simp;omega];rfl,rfl⟩)
    ·have hbd':=hbd.out
     rw[show 3+1 - k=(3 - k)+1 from by omega]at hbd'
     have hv:=S.bound_v hbd'
     have hbd'':=hid hbd'
     clear hbd' hbd
     have hklt:k<s.size:=by omega
     have hkd:k<s.data.toList.length:=by simpa using hklt
     have hb1:((s[k].toNat:Nat):Int)≤255:=by have:=s[k].toNat_lt;omega
     by_cases hc:s[k].toNat / 64=2
     ·have hstep:=hid (S.cont_step (k:=3 - k) (v:=vi) (l:=s.data.toList) k hkd hc)
      have hb2:=S.bound_step hbd''.out (show s[k].toNat % 64<64 by omega)
      have hb3:=hid hb2
      have k2:(bits BinOp.and IntKind.u8 (s[k].toNat:Int) 192 != 128)=false:=by rw[Z56 _ s[k].toNat_lt];simp;omega
      clear hc hb2
      go_wp2
      go_round
      case rel=>exact⟨k+1,vi * 64+s[k].toNat % 64,by omega,by omega,by go_num,by rw[Z5t _ _ hv],hid (by rw[show 3+1 - (k+1)=3 - k from by omega];exact hb3.out),hid (by rw[hcont.out,show 3+1 - k=3 - k+1 from by omega,hstep.out,show 3+1 - (k+1)=3 - k from by omega];rfl)⟩
      case measure=>simp[intOf];omega
     ·have hstop:=S.cont_stop (k:=3 - k) (v:=vi) (l:=s.data.toList) k hkd hc
      have E3:=hid (show Z4f s=0 by
       have:=E2.out;rw[hcont.out,show 3+1 - k=(3 - k)+1 from by omega,hstop]at this;unfold Z4f;rw[this];rfl)
      have k2:(bits BinOp.and IntKind.u8 (s[k].toNat:Int) 192 != 128)=true:=by rw[Z56 _ s[k].toNat_lt];simp;omega
      clear hc hstop
      go_wp2
      go_ret
      exact⟨by rw[E3.out];rfl,rfl⟩
set_option maxHeartbeats 400000 in
theorem Z2M (s:ByteArray) (w:World) (hs:s.size≤maxLen) :
  Calls Tryz.prog 189 #[.string s] w fun e w'=>e=.returned (.tuple #[.int .i64 (Z3j s:Int),.bool (Z1Q s)])∧w=w':=by
 unfold maxLen at hs
 go_enter Tryz.func189,Tryz.ntmps189
 go_wp2_with fail
 go_loop [0,4] (fun sv n=>∃ (k:Nat) (t:ByteArray),sv=.string t∧n=.int .i64 (k:Int)∧k+t.size≤s.size∧Hid (S.runes s.data.toList=(S.runes t.data.toList).map (· + k))) (fun sv _=>(Zaz sv).size)
 case atStart=>exact⟨0,s,rfl,rfl,by omega,by exact hid (by simp)⟩
 case round =>
  obtain⟨k,t,rfl,rfl,hkt,hr⟩:=hrel
  by_cases ht:t.size=0
  ·have hn:t.data.toList=[]:=List.eq_nil_of_length_eq_zero (by simpa using ht)
   have E:S.runes s.data.toList=some k:=(by rw[hr.out,hn];simp[S.runes_nil])
   have E1:=hid (show Z3j s=k by unfold Z3j;rw[E];rfl)
   have E2:=hid (show Z1Q s=true by unfold Z1Q;rw[E];rfl)
   clear hn E hr
   go_wp2_with fail
   go_ret2
   exact⟨by rw[E1.out,E2.out];rfl,rfl⟩
  ·have ht0:t.data.toList≠[]:=fun h=>ht (by simpa using congrArg List.length h)
   cases h1:S.one t.data.toList with
   | none =>
    have E:S.runes s.data.toList=none:=(by rw[hr.out,S.runes_none ht0 h1];rfl)
    have E1:=hid (show Z3j s=0 by unfold Z3j;rw[E];rfl)
    have E2:=hid (show Z1Q s=false by unfold Z1Q;rw[E];rfl)
    have E3:Z4f t=0:=by unfold Z4f;rw[h1];rfl
    have hc:=Z4v t w (by unfold maxLen;omega)
    rw[E3]at hc
    have hc:=hid hc
    have ht1:0<t.size:=by omega
    clear ht0 ht E hr h1 E3
    go_wp2_with (go_at_call 200;refine hc.out.mono ?_;rintro e w' ⟨rfl,rfl⟩)
    go_ret2
    exact⟨by rw[E1.out,E2.out];rfl,rfl⟩
   | some n =>
    have hle:=S.one_le h1
    have E:Hid (S.runes s.data.toList=(S.runes (t.data.toList.drop n)).map (· +(k+1))):=hid (by rw[hr.out,S.runes_some h1];cases S.runes (t.data.toList.drop n) <;> simp;omega)
    have hle1:=hle.1
    have hle2:n≤t.size:=by simpa using hle.2
    have E3:Z4f t=n:=by unfold Z4f;rw[h1];rfl
    have hc:=Z4v t w (by unfold maxLen;omega)
    rw[E3]at hc
    have hc:=hid hc
    have k0:((n:Int) == 0)=false:=by simp;omega
    have ht1:0<t.size:=by omega
    clear ht0 hle hr h1 E3
    go_wp2_with (go_at_call 200;refine hc.out.mono ?_;rintro e w' ⟨rfl,rfl⟩)
    go_round
    case rel=>exact⟨k+1,t.extract n t.size,rfl,by simp,by simp;omega,hid (by rw[E.out,S.data_extract])⟩
    case measure=>simp[Zaz];omega
end
section
open Go.RowKit
theorem Z2N (c:UInt8) : ∀ l:List UInt8,decide (0≤Lib.indexByte l c)=l.contains c
 | []=>rfl
 | b :: l=>by
  have ih:=Z2N c l
  have hlb : ∀ l:List UInt8,-1≤Lib.indexByte l c:=by
   intro l
   induction l with
   | nil=>simp[Lib.indexByte]
   | cons b l ih=>simp only[Lib.indexByte];split <;>(try split) <;> omega
  have h1:=hlb l
  simp only[Lib.indexByte,List.contains_cons]
  by_cases hbc:b=c
  ·subst hbc;simp
  ·have e1:(b == c)=false:=by simpa using hbc
   have e2:(c == b)=false:=by simp;exact fun h=>hbc h.symm
   rw[e2,←ih,Bool.false_or]
   refine decide_eq_decide.2 ?_
   rw[e1]
   simp only[Bool.false_eq_true,if_false]
   by_cases h2:Lib.indexByte l c = -1
   ·simp[h2]
   ·have e3:(Lib.indexByte l c == -1)=false:=by simpa using h2
    rw[e3];simp;omega
def Z8 (s:ByteArray):Bool:=S.valid s.data.toList
def ZJ (s:ByteArray):Nat:=S.name s.data.toList
theorem Z8J (s:ByteArray):Z8 s=(Z1Q s && decide (s.size≤64) && !decide (0≤Lib.indexByte s.data.toList 0)):=by
 rw[Z2N];rfl
set_option maxHeartbeats 400000 in
theorem Z2E (s:ByteArray) (w:World) (hs:s.size≤maxLen) :
  Calls Tryz.prog 133 #[.string s] w fun e w'=>e=.returned (.bool (Z8 s))∧Below w.heap.size w w':=by
 have E:=Z8J s
 unfold maxLen at hs
 cases h1:Z1Q s with
 | false =>
  rw[h1]at E
  replace E:=hid E
  replace h1:=hid h1
  go_enter Tryz.func133,Tryz.ntmps133
  go_wp2_with (go_at_call 170;refine(Z4u s _ (by unfold maxLen;omega)).mono ?_;rw[h1.out];rintro e w' ⟨rfl,hb⟩)
  go_ret
  exact⟨by rw[E.out];rfl,hb⟩
 | true =>
  rw[h1]at E
  replace h1:=hid h1
  by_cases h2:s.size≤64
  ·rw[decide_eq_true h2]at E
   replace E:=hid E
   go_enter Tryz.func133,Tryz.ntmps133
   go_wp2_with (first |(go_at_call 170;refine(Z4u s _ (by unfold maxLen;omega)).mono ?_;rw[h1.out];rintro e w' ⟨rfl,hb⟩) |(go_at_call 171;refine(Tryz.strings_Contains_one s 0 _).mono ?_;rintro e w' ⟨rfl,rfl⟩))
   go_ret
   exact⟨by rw[E.out];rfl,hb⟩
  ·rw[decide_eq_false h2]at E
   replace E:=hid E
   go_enter Tryz.func133,Tryz.ntmps133
   go_wp2_with (first |(go_at_call 170;refine(Z4u s _ (by unfold maxLen;omega)).mono ?_;rw[h1.out];rintro e w' ⟨rfl,hb⟩))
   go_ret
   exact⟨by rw[E.out];rfl,hb⟩
theorem Z4g (w:World) (e:TypeId) (s:ByteArray) (j:Nat) (hj:j<s.size):(Lib.bytesWorld w e s).cell? ⟨w.heap.size,j,none⟩=some (.int .u8 (s[j].toNat:Int)):=by
 rw[Lib.bytesWorld_cell w e s j hj]
 have:s.data.toList.getD j 0=s[j]:=by
  simp only[List.getD_eq_getElem?_getD]
  rw[List.getElem?_eq_getElem (by simpa using hj)];rfl
 rw[this]
theorem Z8K (c:Nat) (w:World) (hc:c<256) :
  Calls Tryz.prog 182 #[.int .u8 (c:Int)] w fun e w'=>e=.returned (.bool (decide (c<32) || c == 47))∧w=w':=by
 by_cases h1:c<32
 ·go_enter Tryz.func182,Tryz.ntmps182
  go_wp2
  go_ret
  exact⟨ZR (by simp),rfl⟩
 ·go_enter Tryz.func182,Tryz.ntmps182
  go_wp2
  go_ret
  exact⟨ZR (by rw[show decide (c<32)=false from decide_eq_false h1,show decide ((c:Int)<32)=false from decide_eq_false (by omega)];exact Bool.eq_iff_iff.2 (by simp;omega)),rfl⟩
theorem Z6J (s:ByteArray):ZJ s=if !Z8 s || s.toList.isEmpty || s.toList == [46] || s.toList == [46,46] then 6 else if s.data.toList.any S.badByte then 6 else if 28<s.size then 3 else 0:=by
 rw[ByteArray.toList_eq];rfl
set_option maxHeartbeats 800000 in
theorem Z5u (s:ByteArray) (w:World) (hs:s.size≤maxLen) :
  Calls Tryz.prog 145 #[.string s] w fun e w'=>e=.returned (.int .i64 (ZJ s:Int))∧Below w.heap.size w w':=by
 unfold maxLen at hs
 have E:=Z6J s
 cases h1:Z8 s with
 | false =>
  rw[h1]at E
  have E1:Hid (ZJ s=6):=hid (by rw[E];rfl)
  clear E
  replace h1:=hid h1
  go_enter Tryz.func145,Tryz.ntmps145
  go_wp2_with (go_at_call 133;refine(Z2E s _ (by unfold maxLen;omega)).mono ?_;rw[h1.out];rintro e w' ⟨rfl,hb⟩)
  go_ret
  exact⟨by rw[E1.out];rfl,hb⟩
 | true =>
  rw[h1]at E
  replace h1:=hid h1
  by_cases h2:(s.toList.isEmpty || s.toList == [46] || s.toList == [46,46])=true
  ·have E1:Hid (ZJ s=6):=hid (by rw[E];simp only[Bool.not_true,Bool.false_or];rw[if_pos h2])
   clear E
   go_enter Tryz.func145,Tryz.ntmps145
   go_wp2_with (go_at_call 133;refine(Z2E s _ (by unfold maxLen;omega)).mono ?_;rw[h1.out];rintro e w' ⟨rfl,hb⟩)
   all_goals (go_ret;exact⟨by rw[E1.out];rfl,hb⟩)
  ·have E1:=hid E
   have h3:s.toList.isEmpty=false∧(s.toList == [46])=false∧(s.toList == [46,46])=false:=by simpa[and_assoc] using h2
   obtain⟨h3,h4,h5⟩:=h3
   clear E h2
   have hcv:=fun W=>Lib.run_convert_string_bytes (P:=Tryz.prog) W 9 226 5 s Tryz.underlying9 Tryz.underlying226 Tryz.underlying5
   go_enter Tryz.func145,Tryz.ntmps145
   go_wp2_with (go_at_call 133;refine(Z2E s _ (by unfold maxLen;omega)).mono ?_;rw[h1.out];rintro e w' ⟨rfl,hb⟩)
   have hbd:Below w.heap.size w (Lib.bytesWorld w' 5 s):=hb.trans ⟨rfl,rfl,rfl,by rw[Lib.bytesWorld_size];omega,fun k hk=>Lib.bytesWorld_at_old w' _ s k (by have:=hb.size;omega)⟩
   go_loop [23] (fun i=>∃ k:Nat,k≤s.size∧i=.int .i64 (k:Int)∧Hid ((s.data.toList.take k).any S.badByte=false)) (fun i=>s.size - (intOf i).toNat)
   case atStart=>exact⟨0,by omega,rfl,hid rfl⟩
   case round =>
    obtain⟨k,hk,rfl,hany⟩:=hrel
    by_cases hlt:k<s.size
    ·have hcl:=Z4g w' 5 s k hlt
     have hta:=S.take_any s S.badByte k hlt
     rw[hany.out,Bool.false_or]at hta
     cases hbad:S.badByte s[k] with
     | true =>
      have hb2:Hid ((decide (s[k].toNat<32) || s[k].toNat == 47)=true):=hid hbad
      have E2:Hid (ZJ s=6):=hid (by
       rw[E1.out];rw[hbad]at hta
       simp only[h3,h4,h5,Bool.not_true,Bool.or_self,Bool.false_eq_true,if_false]
       rw[if_pos (S.any_of_take (k+1) hta)])
      clear E1 hta hbad
      go_wp2_with (go_at_call 182;refine(Z8K _ _ s[k].toNat_lt).mono ?_;rw[hb2.out];rintro e w' ⟨rfl,rfl⟩)
      go_ret
      exact⟨by rw[E2.out];rfl,hbd⟩
     | false =>
      have hb2:Hid ((decide (s[k].toNat<32) || s[k].toNat == 47)=false):=hid hbad
      replace hta:=hid (hta.trans hbad)
      clear hbad
      go_wp2_with (go_at_call 182;refine(Z8K _ _ s[k].toNat_lt).mono ?_;rw[hb2.out];rintro e w' ⟨rfl,rfl⟩)
      go_round
      case rel=>exact⟨k+1,by omega,by go_num,hta⟩
      case measure=>simp[intOf];omega
    ·obtain rfl:k=s.size:=by omega
     have E2:Hid (ZJ s=if 28<s.size then 3 else 0):=hid (by
      rw[E1.out]
      have h:=hany.out
      rw[List.take_of_length_le (by simp)]at h
      simp only[h3,h4,h5,h,Bool.not_true,Bool.or_self,Bool.false_eq_true,if_false])
     clear E1
     by_cases h28:28<s.size
     ·go_wp2_with fail
      go_ret
      exact⟨by rw[E2.out,if_pos h28];rfl,hbd⟩
     ·go_wp2_with fail
      go_ret
      exact⟨by rw[E2.out,if_neg h28];rfl,hbd⟩
set_option maxHeartbeats 800000 in
theorem Z1K (s:ByteArray) (w:World) (hs:s.size≤maxLen) :
  Calls Tryz.prog 157 #[.string s] w fun e w'=>e=.returned (.bool (Z8 s))∧w=w':=by
 unfold maxLen at hs
 have E:Z8 s=(Z1Q s && decide (s.size≤64) && !(s.data.toList.any (· == 0))):=by
  unfold Z8 S.valid
  have h : ∀ l:List UInt8,l.contains 0=l.any (· == 0):=by
   intro l
   induction l with
   | nil=>rfl
   | cons b l ih=>rw[List.contains_cons,List.any_cons,ih,Bool.beq_comm]
  rw[h];rfl
 go_enter Tryz.func157,Tryz.ntmps157
 replace E:=hid E
 go_wp2_with fail
 go_loop [3] (fun i=>∃ k:Nat,k≤s.size∧i=.int .i64 (k:Int)∧Hid ((s.data.toList.take k).any (· == 0)=false)) (fun i=>s.size - (intOf i).toNat)
 case atStart=>exact⟨0,by omega,rfl,hid rfl⟩
 case round =>
  obtain⟨k,hk,rfl,hany⟩:=hrel
  by_cases hlt:k<s.size
  ·have hta:=S.take_any s (· == 0) k hlt
   rw[hany.out,Bool.false_or]at hta
   by_cases h0:s[k].toNat=0
   ·have hk0:(((s[k].toNat:Nat):Int) == 0)=true:=by simp[h0]
    have h00:(s[k] == 0)=true:=by simpa[←UInt8.toNat_inj] using h0
    have E1:Hid (Z8 s=false):=hid (by rw[E.out,S.any_of_take (k+1) (hta.trans h00)];simp)
    clear h0 h00 hta E
    go_wp2_with fail
    go_ret
    exact⟨by rw[E1.out];rfl,rfl⟩
   ·have hk0:(((s[k].toNat:Nat):Int) == 0)=false:=by simp[h0]
    have h00:(s[k] == 0)=false:=by simpa[←UInt8.toNat_inj] using h0
    replace hta:=hid (hta.trans h00)
    clear h0 h00
    go_wp2_with fail
    go_round
    case rel=>exact⟨k+1,by omega,by go_num,hta⟩
    case measure=>simp[intOf];omega
  ·obtain rfl:k=s.size:=by omega
   have E1:Z8 s=(Z1Q s && decide (s.size≤64)):=by
    have h:=hany.out
    rw[List.take_of_length_le (by simp)]at h
    rw[E.out,h];simp
   clear E
   cases h1:Z1Q s
   ·rw[h1]at E1
    replace E1:=hid E1
    replace h1:=hid h1
    go_wp2_with (go_at_call 189;refine(Z2M s _ (by unfold maxLen;omega)).mono ?_;rw[h1.out];rintro e w' ⟨rfl,rfl⟩)
    go_ret
    exact⟨by rw[E1.out];rfl,rfl⟩
   ·rw[h1]at E1
    replace h1:=hid h1
    by_cases h2:s.size≤64
    ·rw[decide_eq_true h2]at E1
     replace E1:=hid E1
     go_wp2_with (go_at_call 189;refine(Z2M s _ (by unfold maxLen;omega)).mono ?_;rw[h1.out];rintro e w' ⟨rfl,rfl⟩)
     go_ret
     exact⟨by rw[E1.out];exact ZR (by simp;omega),rfl⟩
    ·rw[decide_eq_false h2]at E1
     replace E1:=hid E1
     go_wp2_with (go_at_call 189;refine(Z2M s _ (by unfold maxLen;omega)).mono ?_;rw[h1.out];rintro e w' ⟨rfl,rfl⟩)
     go_ret
     exact⟨by rw[E1.out];exact ZR (by simp;omega),rfl⟩
theorem ZaA (s:ByteArray) (k:Nat) (h:k<s.size) (hany:(s.data.toList.take k).any S.badByte=false):(s.data.toList.take (k+1)).any S.badByte=(decide (s[k].toNat<32) || s[k].toNat == 47):=by
 rw[S.take_any s S.badByte k h,hany,Bool.false_or];rfl
set_option maxHeartbeats 800000 in
theorem Z65 (s:ByteArray) (w:World) (hs:s.size≤maxLen) :
  Calls Tryz.prog 156 #[.string s] w fun e w'=>e=.returned (.int .i64 (ZJ s:Int))∧w=w':=by
 unfold maxLen at hs
 have E:=Z6J s
 cases h1:Z8 s with
 | false =>
  rw[h1]at E
  have E1:Hid (ZJ s=6):=hid (by rw[E];rfl)
  clear E
  replace h1:=hid h1
  go_enter Tryz.func156,Tryz.ntmps156
  go_wp2_with (go_at_call 157;refine(Z1K s _ (by unfold maxLen;omega)).mono ?_;rw[h1.out];rintro e w' ⟨rfl,rfl⟩)
  go_ret
  exact⟨by rw[E1.out];rfl,rfl⟩
 | true =>
  rw[h1]at E
  replace h1:=hid h1
  by_cases h2:(s.toList.isEmpty || s.toList == [46] || s.toList == [46,46])=true
  ·have E1:Hid (ZJ s=6):=hid (by rw[E];simp only[Bool.not_true,Bool.false_or];rw[if_pos h2])
   clear E
   go_enter Tryz.func156,Tryz.ntmps156
   go_wp2_with (go_at_call 157;refine(Z1K s _ (by unfold maxLen;omega)).mono ?_;rw[h1.out];rintro e w' ⟨rfl,rfl⟩)
   all_goals (go_ret;exact⟨by rw[E1.out];rfl,rfl⟩)
  ·have E1:=hid E
   have h3:s.toList.isEmpty=false∧(s.toList == [46])=false∧(s.toList == [46,46])=false:=by simpa[and_assoc] using h2
   obtain⟨h3,h4,h5⟩:=h3
   clear E h2
   go_enter Tryz.func156,Tryz.ntmps156
   go_wp2_with (go_at_call 157;refine(Z1K s _ (by unfold maxLen;omega)).mono ?_;rw[h1.out];rintro e w' ⟨rfl,rfl⟩)
   go_loop [3] (fun i=>∃ k:Nat,k≤s.size∧i=.int .i64 (k:Int)∧Hid ((s.data.toList.take k).any S.badByte=false)) (fun i=>s.size - (intOf i).toNat)
   case atStart=>exact⟨0,by omega,rfl,hid rfl⟩
   case round =>
    obtain⟨k,hk,rfl,hany⟩:=hrel
    by_cases hlt:k<s.size
    ·have hta:=ZaA s k hlt hany.out
     by_cases hbad:s[k].toNat<32∨s[k].toNat=47
     ·have E2:Hid (ZJ s=6):=hid (by
       rw[E1.out]
       simp only[h3,h4,h5,Bool.not_true,Bool.or_self,Bool.false_eq_true,if_false]
       rw[if_pos (S.any_of_take (k+1) (hta.trans (by simpa using hbad)))])
      clear E1 hta
      by_cases hb1:s[k].toNat<32
      ·clear hbad
       go_wp2_with fail
       go_ret
       exact⟨by rw[E2.out];rfl,rfl⟩
      ·have hb2:(((s[k].toNat:Nat):Int) == 47)=true:=by simp;omega
       clear hbad
       go_wp2_with fail
       go_ret
       exact⟨by rw[E2.out];rfl,rfl⟩
     ·have hb1:32≤s[k].toNat:=by omega
      have hb2:(((s[k].toNat:Nat):Int) == 47)=false:=by simp;omega
      have hbf:(decide (s[k].toNat<32) || s[k].toNat == 47)=false:=by simp;omega
      replace hta:=hid (hta.trans hbf)
      clear hbf
      clear hbad
      go_wp2_with fail
      go_round
      case rel=>exact⟨k+1,by omega,by go_num,hta⟩
      case measure=>simp[intOf];omega
    ·obtain rfl:k=s.size:=by omega
     have E2:Hid (ZJ s=if 28<s.size then 3 else 0):=hid (by
      rw[E1.out]
      have h:=hany.out
      rw[List.take_of_length_le (by simp)]at h
      simp only[h3,h4,h5,h,Bool.not_true,Bool.or_self,Bool.false_eq_true,if_false])
     clear E1
     by_cases h28:28<s.size
     ·go_wp2_with fail
      go_ret
      exact⟨by rw[E2.out,if_pos h28];rfl,rfl⟩
     ·go_wp2_with fail
      go_ret
      exact⟨by rw[E2.out,if_neg h28];rfl,rfl⟩
end
section
open Go.RowKit
def Z3t (l:List UInt8):ByteArray:=⟨l.toArray⟩
theorem Z2F (l:List UInt8):(Z3t l).size=l.length:=by simp[Z3t,ByteArray.size]
theorem Z6K (w:World) (v:Value) (l:List UInt8) (h:Z1e w v l):(convert 226 9 v).run Tryz.prog w=.ok (.string (Z3t l)) w:=by
 obtain⟨hl,a,c,rfl,h1,h2,h3,h5,h4⟩:=h
 cases a with
 | none =>
  have hc:=h3 rfl
  obtain rfl:l=[]:=List.eq_nil_of_length_eq_zero (by omega)
  exact run_convert_bytes_nil w _ _ Tryz.underlying226 Tryz.underlying5 _ _ _ Tryz.underlying9
 | some ad =>
  obtain⟨b,o,sp⟩:=ad
  have:=(h5 _ rfl).1
  subst this
  rw[run_convert_bytes_arg w _ _ Tryz.underlying226 Tryz.underlying5 b o l.length c (l.map fun x=>(x.toNat:Int)) (by simp) (fun i hi=>?_) _ Tryz.underlying9]
  ·congr 1
   have : ∀ l:List UInt8,List.map ((fun n:Int=>UInt8.ofNat n.toNat) ∘ fun x:UInt8=>(x.toNat:Int)) l=l:=by
    intro l
    induction l with
    | nil=>rfl
    | cons c l ih=>simp only[List.map_cons,ih];simp
   simp[strOfNums,Z3t,this]
  ·obtain⟨b',o',he,hc⟩:=h4 i (Z6H l[i]) (by simp[hi])
   cases he
   rw[hc]
   simp[Z6H,List.getD,hi]
theorem Z5s.below {w w':World} {b:Nat} {xs:List UInt8} (h:Z5s w b xs) (hb:Below w.heap.size w w'):Z5s w' b xs:=by
 obtain⟨v,ot,h1,h2⟩:=h
 refine⟨v,ot,(hb.block b (lt_of_block h1)).trans h1,h2.1,?_⟩
 rcases h2.2 with h3 |⟨g,cap,cur,hv,hg,hh,r⟩
 ·exact .inl h3
 ·exact .inr ⟨g,cap,cur,hv,hg,(hb.block g (lt_of_block hh)).trans hh,r⟩
theorem Z5s.lt {w:World} {b:Nat} {xs:List UInt8} (h:Z5s w b xs):b<w.heap.size:=by
 obtain⟨v,ot,h1,_⟩:=h
 exact lt_of_block h1
theorem sn {W a b:World} (h:Below W.heap.size W a) (k:Below a.heap.size a b):Below W.heap.size W b:=h.trans (k.mono h.size)
def Zdw (w:World) (e:Ending) (w':World):Prop:=e=.returned (.bool true)∧Below w.heap.size w w'
end
end Go.Proofs.YtkefjeabckainaaGreat
