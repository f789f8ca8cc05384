/- What a method of package fsys leaves behind its deferred caught; Write. Conditions: in the statements. -/
import Derived.Test.YtkefjeabckainaaGreatFtB17
import Derived.Test.YtkefjeabckainaaGreatFtB20
import Derived.Test.YtkefjeabckainaaGreatFtB13
namespace Go.Proofs.YtkefjeabckainaaGreat
set_option maxRecDepth 100000
set_option linter.unusedVariables false
open Go.RowKit Go.Maps
theorem Z2V {w:World} {v:Value} {L:List Nod} {b:Nat} {cs:Array Value} {t:TypeId} {fr:Nat×Nat} (h:Z3 w v L) (hne:L≠[]) (hb:w.heap[b]?=some (.cells cs t fr)) (hs:cs.size<12):v.ownBlock≠some b:=by
 intro e
 obtain⟨a,c,rfl,_,_⟩:=h.form
 obtain⟨b',o,ha,hr⟩:=h.range 0 (List.length_pos_iff.2 hne)
 subst ha
 simp[Value.ownBlock]at e
 subst e
 have h11:=hr 11 _ (by rw[Z7];rfl)
 rw[Z0 hb (o+0 * 12+11),Array.getElem?_eq_none (by omega)]at h11
 cases h11
theorem Z1T {p:Addr} {v:Value} {w:World} (h:w.cell? p=some v):(loadVar 33 p).run Tryz.prog w=.ok v w:=by simp[go_sem,h]
theorem Z1d {G:Prop} (h:G) (_:wpAny Tryz.prog .any #[] (fun _ _ _=>True) 0 #[] {tmps:=#[],defers:=[]} default):G:=h
theorem Z3e {P:Program} {fn:Func} {p q:Tmp} {ty2:TypeId} (h:fn.results=#[.tmp p,.cell q ty2]) (tmps:Array Value) (w:World) (g2:Nat) (x y:Value)
  (hp:tmps.getD p undef=y) (hq:tmps.getD q undef=.pointer (some ⟨g2,0,none⟩)) (hx:(loadVar ty2 ⟨g2,0,none⟩).run P w=.ok x w) :
  (results fn tmps).run P w=.ok (.tuple #[y,x]) w:=by
 have hp':tmps[p]?.getD undef=y:=by simpa using hp
 have hq':tmps[q]?.getD undef=.pointer (some ⟨g2,0,none⟩):=by simpa using hq
 simp[results,h,hp',hq',asAddr,hx]
theorem Z5k {P:Program} {fn:Func} {q:Tmp} {ty2:TypeId} (h:fn.results=#[.cell q ty2]) (tmps:Array Value) (w:World) (g2:Nat) (x:Value)
  (hq:tmps.getD q undef=.pointer (some ⟨g2,0,none⟩)) (hx:(loadVar ty2 ⟨g2,0,none⟩).run P w=.ok x w) :
  (results fn tmps).run P w=.ok x w:=by
 have hq':tmps[q]?.getD undef=.pointer (some ⟨g2,0,none⟩):=by simpa using hq
 simp[results,h,hq',asAddr,hx]
theorem FSo.aside {w:World} {b m p n k:Nat} {v:Value} {f:FsV} {u:Usr} (h:FSo w b m v p f u n) (ho:v.ownBlock≠some k) (hbk:b<k) (hmk:m<k) (x:Value) :
  FSo (w.setCell ⟨k,0,none⟩ x) b m v p f u n:=by
 obtain⟨W0,h1,h2,h3,h4⟩:=h.tab
 have hkk : ∀ j,j≠k→(w.setCell ⟨k,0,none⟩ x).heap[j]?=w.heap[j]?:=fun j hj=>Z1 hj
 exact⟨h.ne,(hkk b (by omega)).trans h.blk,Z3.other h.row k ho (by simp[World.setCell]) hkk,h.nb,h.nm,⟨W0,h1,h2.setCell (p:=⟨k,0,none⟩) (by show W0.heap.size≤k;omega) _,h3,h4⟩,h.map.kept (hkk m (by omega))⟩
theorem FStep.aside {b m k:Nat} {w w':World} (h:FStep b m w w') (hk:w.heap.size≤k) (x:Value):FStep b m w (w'.setCell ⟨k,0,none⟩ x) :=
 ⟨fun B h1 h2 h3=>(h.below B h1 h2 h3).setCell (p:=⟨k,0,none⟩) (by show B≤k;omega) x,fun j hj h1 h2=>(Z1 (by show j≠k;omega)).trans (h.block j hj h1 h2),by have:=h.size;simpa[World.setCell] using this⟩
theorem FSo.back {w:World} {b m p n k E:Nat} {v y:Value} {f:FsV} {u:Usr} {T:TypeId} {fr:Nat×Nat} (h:FSo w b m v p f u n) (hne:f.t.n≠[]) (hk:w.heap[k]?=some (.cells #[y] T fr)) (hbk:b<k) (hmk:m<k) :
  FSo (Z3G w b k f.t.next v E) b m v p f u n:=by
 unfold Z3G
 have hA:=(Below.refl w.heap.size w).alloc (Nat.le_refl _) (.cells #[.int .u64 (f.t.next:Int),v] 30)
 have h1:=(h.below hA).put f.t (h.row.below hA) h.nb h.nm
 exact FSo.aside h1 (Z2V h.row hne hk (by show 1<12;omega)) hbk hmk _
theorem FStep.back {b m k:Nat} {w w':World} (h:FStep b m w w') (hk:w.heap.size≤k) (next E:Nat) (v:Value):FStep b m w (Z3G w' b k next v E):=by
 unfold Z3G
 exact(h.trans ((FStep.pure ((Below.refl _ _).alloc (Nat.le_refl _) _)).trans (FStep.put _ _))).aside hk _
theorem Z3Q {w:World} {b k next E:Nat} {v y:Value} {T:TypeId} {fr:Nat×Nat} (hk:w.heap[k]?=some (.cells #[y] T fr)) (hbk:b<k):(Z3G w b k next v E).cell? ⟨k,0,none⟩=some (.int .i64 (E:Int)):=by
 unfold Z3G
 have h1:(((w.alloc (.cells #[.int .u64 (next:Int),v] 30)).setCell ⟨b,0,none⟩ (.int .u64 (next:Int))).setCell ⟨b,1,none⟩ v).heap[k]?=some (.cells #[y] T fr):=by
  rw[Z1 (show k≠b by omega),Z1 (show k≠b by omega),heap_alloc_old _ _ (lt_of_block hk)]
  exact hk
 exact Z0 (Zg h1 0 _) 0
def Z5W (b m p n:Nat) (f:FsV) (u:Usr) (x:Value) (E:Nat) (w:World) (e:Ending) (w':World):Prop:=e=.returned (.tuple #[x,.int .i64 (E:Int)])∧(∃ v',FSo w' b m v' p f u n)∧FStep b m w w'
def Ze3 (b m p n:Nat) (f:FsV) (u:Usr) (E:Nat) (w:World) (e:Ending) (w':World):Prop:=e=.returned (.int .i64 (E:Int))∧(∃ v',FSo w' b m v' p f u n)∧FStep b m w w'
theorem Z4q {fn:Func} {tmps:Array Value} {R:Ending→World→Prop} {b m p n k E:Nat} {a:Option Addr} {l c:Nat} {y:Value} {f:FsV} {u:Usr} {w:World} {fv:Fn} {cap:Array Value} (h:FSo w b m (.slice a l c) p f u n) (hk:w.heap[k]?=some (.cells #[y] 33 (0,0))) (hbk:b<k)
  (hi:(invoke (.fn fv cap) #[.pointer (some ⟨b,0,none⟩),.agg #[.int .u64 (f.t.next:Int),.slice a l c],.pointer (some ⟨k,0,none⟩)]).run Tryz.prog w=.ok (.enter 35 #[.pointer (some ⟨b,0,none⟩),.agg #[.int .u64 (f.t.next:Int),.slice a l c],.pointer (some ⟨k,0,none⟩)]) w)
  (hR : ∃ v,(results fn tmps).run Tryz.prog (Z3G w b k f.t.next (.slice a l c) E)=.ok v (Z3G w b k f.t.next (.slice a l c) E)∧R (.returned v) (Z3G w b k f.t.next (.slice a l c) E)) :
  Leaves Tryz.prog fn tmps R [{target:=.fn fv cap,args:=#[.pointer (some ⟨b,0,none⟩),.agg #[.int .u64 (f.t.next:Int),.slice a l c],.pointer (some ⟨k,0,none⟩)]}] (.panicking (ZY E)) w:=by
 refine leaves_cons (by simp) hi ?_
 refine(Z3Y b k f.t.next E a l c _ _ _ _ _ y w (by omega) h.blk hk).mono ?_
 rintro e u' w'' ⟨rfl,rfl,rfl⟩
 simp only[settle,Z63]
 exact hR
theorem Z5X {fn:Func} {tmps:Array Value} {R:Ending→World→Prop} {b k next:Nat} {a:Option Addr} {l c:Nat} {w:World} {fv:Fn} {cap:Array Value}
  (hi:(invoke (.fn fv cap) #[.pointer (some ⟨b,0,none⟩),.agg #[.int .u64 (next:Int),.slice a l c],.pointer (some ⟨k,0,none⟩)]).run Tryz.prog w=.ok (.enter 35 #[.pointer (some ⟨b,0,none⟩),.agg #[.int .u64 (next:Int),.slice a l c],.pointer (some ⟨k,0,none⟩)]) w)
  (hR : ∃ v,(results fn tmps).run Tryz.prog (w.alloc (.cells #[.int .u64 (next:Int),.slice a l c] 30))=.ok v (w.alloc (.cells #[.int .u64 (next:Int),.slice a l c] 30))∧R (.returned v) (w.alloc (.cells #[.int .u64 (next:Int),.slice a l c] 30))) :
  Leaves Tryz.prog fn tmps R [{target:=.fn fv cap,args:=#[.pointer (some ⟨b,0,none⟩),.agg #[.int .u64 (next:Int),.slice a l c],.pointer (some ⟨k,0,none⟩)]}] .returning w:=by
 refine leaves_cons (by simp) hi ?_
 refine(Z6k b k next a l c w).mono ?_
 rintro e u' w'' ⟨rfl,rfl,rfl⟩
 simp only[settle]
 exact hR
theorem ZU {fn:Func} {s t:Tmp} (hres:fn.results=#[.tmp s,.cell t 33]) {tmps:Array Value} {b m p n k E:Nat} {a:Option Addr} {l c:Nat} {x y:Value} {f:FsV} {u:Usr} {w0 w:World} {fv:Fn} {cap:Array Value} (h:FSo w b m (.slice a l c) p f u n) (hS:FStep b m w0 w) (hne:f.t.n≠[]) (hk:w.heap[k]?=some (.cells #[y] 33 (0,0))) (hbk:b<k) (hmk:m<k) (hk0:w0.heap.size≤k)
  (hi:(invoke (.fn fv cap) #[.pointer (some ⟨b,0,none⟩),.agg #[.int .u64 (f.t.next:Int),.slice a l c],.pointer (some ⟨k,0,none⟩)]).run Tryz.prog w=.ok (.enter 35 #[.pointer (some ⟨b,0,none⟩),.agg #[.int .u64 (f.t.next:Int),.slice a l c],.pointer (some ⟨k,0,none⟩)]) w)
  (hs:tmps.getD s undef=x) (ht:tmps.getD t undef=.pointer (some ⟨k,0,none⟩)) :
  Leaves Tryz.prog fn tmps (Z5W b m p n f u x E w0) [{target:=.fn fv cap,args:=#[.pointer (some ⟨b,0,none⟩),.agg #[.int .u64 (f.t.next:Int),.slice a l c],.pointer (some ⟨k,0,none⟩)]}] (.panicking (ZY E)) w :=
 Z4q h hk hbk hi ⟨_,Z3e hres _ _ k _ _ hs ht (Z1T (Z3Q hk hbk)),rfl,⟨_,h.back hne hk hbk hmk⟩,hS.back hk0 _ _ _⟩
theorem Z1v {fn:Func} {t:Tmp} (hres:fn.results=#[.cell t 33]) {tmps:Array Value} {b m p n k E:Nat} {a:Option Addr} {l c:Nat} {y:Value} {f:FsV} {u:Usr} {w0 w:World} {fv:Fn} {cap:Array Value} (h:FSo w b m (.slice a l c) p f u n) (hS:FStep b m w0 w) (hne:f.t.n≠[]) (hk:w.heap[k]?=some (.cells #[y] 33 (0,0))) (hbk:b<k) (hmk:m<k) (hk0:w0.heap.size≤k)
  (hi:(invoke (.fn fv cap) #[.pointer (some ⟨b,0,none⟩),.agg #[.int .u64 (f.t.next:Int),.slice a l c],.pointer (some ⟨k,0,none⟩)]).run Tryz.prog w=.ok (.enter 35 #[.pointer (some ⟨b,0,none⟩),.agg #[.int .u64 (f.t.next:Int),.slice a l c],.pointer (some ⟨k,0,none⟩)]) w)
  (ht:tmps.getD t undef=.pointer (some ⟨k,0,none⟩)) :
  Leaves Tryz.prog fn tmps (Ze3 b m p n f u E w0) [{target:=.fn fv cap,args:=#[.pointer (some ⟨b,0,none⟩),.agg #[.int .u64 (f.t.next:Int),.slice a l c],.pointer (some ⟨k,0,none⟩)]}] (.panicking (ZY E)) w :=
 Z4q h hk hbk hi ⟨_,Z5k hres _ _ k _ ht (Z1T (Z3Q hk hbk)),rfl,⟨_,h.back hne hk hbk hmk⟩,hS.back hk0 _ _ _⟩
theorem Z3f {fn:Func} {s t:Tmp} (hres:fn.results=#[.tmp s,.cell t 33]) {tmps:Array Value} {b m p n k next E:Nat} {a:Option Addr} {l c:Nat} {v x:Value} {f:FsV} {u:Usr} {w0 w:World} {fv:Fn} {cap:Array Value} (h:FSo w b m v p f u n) (hS:FStep b m w0 w) (hk:w.heap[k]?=some (.cells #[.int .i64 (E:Int)] 33 (0,0)))
  (hi:(invoke (.fn fv cap) #[.pointer (some ⟨b,0,none⟩),.agg #[.int .u64 (next:Int),.slice a l c],.pointer (some ⟨k,0,none⟩)]).run Tryz.prog w=.ok (.enter 35 #[.pointer (some ⟨b,0,none⟩),.agg #[.int .u64 (next:Int),.slice a l c],.pointer (some ⟨k,0,none⟩)]) w)
  (hs:tmps.getD s undef=x) (ht:tmps.getD t undef=.pointer (some ⟨k,0,none⟩)) :
  Leaves Tryz.prog fn tmps (Z5W b m p n f u x E w0) [{target:=.fn fv cap,args:=#[.pointer (some ⟨b,0,none⟩),.agg #[.int .u64 (next:Int),.slice a l c],.pointer (some ⟨k,0,none⟩)]}] .returning w:=by
 have hA:=(Below.refl w.heap.size w).alloc (Nat.le_refl _) (.cells #[.int .u64 (next:Int),.slice a l c] 30)
 exact Z5X hi ⟨_,Z3e hres _ _ k _ _ hs ht (Z1T (Z0 ((hA.block _ (lt_of_block hk)).trans hk) 0)),rfl,⟨_,h.below hA⟩,hS.trans (FStep.pure hA)⟩
theorem Z5Y {fn:Func} {t:Tmp} (hres:fn.results=#[.cell t 33]) {tmps:Array Value} {b m p n k next E:Nat} {a:Option Addr} {l c:Nat} {v:Value} {f:FsV} {u:Usr} {w0 w:World} {fv:Fn} {cap:Array Value} (h:FSo w b m v p f u n) (hS:FStep b m w0 w) (hk:w.heap[k]?=some (.cells #[.int .i64 (E:Int)] 33 (0,0)))
  (hi:(invoke (.fn fv cap) #[.pointer (some ⟨b,0,none⟩),.agg #[.int .u64 (next:Int),.slice a l c],.pointer (some ⟨k,0,none⟩)]).run Tryz.prog w=.ok (.enter 35 #[.pointer (some ⟨b,0,none⟩),.agg #[.int .u64 (next:Int),.slice a l c],.pointer (some ⟨k,0,none⟩)]) w)
  (ht:tmps.getD t undef=.pointer (some ⟨k,0,none⟩)) :
  Leaves Tryz.prog fn tmps (Ze3 b m p n f u E w0) [{target:=.fn fv cap,args:=#[.pointer (some ⟨b,0,none⟩),.agg #[.int .u64 (next:Int),.slice a l c],.pointer (some ⟨k,0,none⟩)]}] .returning w:=by
 have hA:=(Below.refl w.heap.size w).alloc (Nat.le_refl _) (.cells #[.int .u64 (next:Int),.slice a l c] 30)
 exact Z5X hi ⟨_,Z5k hres _ _ k _ ht (Z1T (Z0 ((hA.block _ (lt_of_block hk)).trans hk) 0)),rfl,⟨_,h.below hA⟩,hS.trans (FStep.pure hA)⟩
end Go.Proofs.YtkefjeabckainaaGreat
