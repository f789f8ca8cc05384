/- A drawn region in a function that defers: some slots stay, also where the region ends by a panic. No condition.
What a method of package fsys leaves behind its deferred caught; Write. Conditions: in the statements. -/
import Derived.Deep.RegionWith
import Derived.Deep.RegionHeld3
import Derived.Test.YtkefjeabckainaaGreatFaB01
import Derived.Test.YtkefjeabckainaaGreatFaB20
import Derived.Test.YtkefjeabckainaaGreatFaB23
import Derived.Test.YtkefjeabckainaaGreatFaB15
namespace Go.Proofs.YtkefjeabckainaaGreat
section
set_option maxRecDepth 100000
set_option linter.unusedVariables false

def SlotsAt : List (Nat × Value) → Array Value → Prop
  | [], _ => True
  | x :: xs, t => t.getD x.1 undef = x.2 ∧ SlotsAt xs t
theorem SlotsAt.all {X : List (Nat × Value)} {t : Array Value} (h : SlotsAt X t) : ∀ x ∈ X, t.getD x.1 undef = x.2 := by
  induction X with
  | nil => intro x hx; cases hx
  | cons y ys ih =>
    intro x hx
    rcases List.mem_cons.1 hx with rfl | hx
    · exact h.1
    · exact ih h.2 x hx
def Keep (X : List (Nat × Value)) (Q : Exit → Act → World → Prop) : Exit → Act → World → Prop := fun e a w =>
  match e with
  | .panic c => ∀ a' : Act, a'.defers = a.defers → (∀ x ∈ X, a'.tmps.getD x.1 undef = x.2) → Q (.panic c) a' w
  | e => Q e a w
theorem keep_normal {X : List (Nat × Value)} {Q : Exit → Act → World → Prop} {a : Act} {w : World} (h : Q .normal a w) : Keep X Q .normal a w := h
theorem keep_put {X : List (Nat × Value)} {a : Act} {d : Option Tmp} (hd : ∀ x ∈ X, d ≠ some x.1) (h : ∀ x ∈ X, a.tmps.getD x.1 undef = x.2) (v : Value) : ∀ x ∈ X, (a.put d v).tmps.getD x.1 undef = x.2 := by
  intro x hx
  cases d with
  | none => exact h x hx
  | some k =>
    have h1 := hd x hx
    have h2 := h x hx
    have hne : k ≠ x.1 := fun e => h1 (by rw [e])
    show (a.tmps.setIfInBounds k v).getD x.1 undef = x.2
    rw [Array.getD_eq_getD_getElem?] at h2 ⊢
    rw [Array.getElem?_setIfInBounds_ne hne]
    exact h2
theorem upon_keep {P : Program} {o : Oper} {a : Act} {K K' : Act → World → Prop} {Q : Exit → Act → World → Prop} {X : List (Nat × Value)} (hd : ∀ x ∈ X, o.dst ≠ some x.1) (h : ∀ x ∈ X, a.tmps.getD x.1 undef = x.2)
    (hK : ∀ a w, (∀ x ∈ X, a.tmps.getD x.1 undef = x.2) → K a w → K' a w) {r : Result Next} (hh : o.upon P a K (Keep X Q) r) : o.upon P a K' Q r := by
  cases r with
  | ok n w' =>
    cases n <;> simp only [Oper.upon] at hh ⊢ <;>
      first
        | exact hK _ _ (keep_put hd h _) hh
        | (refine hK _ _ ?_ hh; first | exact keep_put hd h _ | exact keep_put (a := { a with defers := _ :: a.defers }) hd h _)
        | (refine Calls.mono hh (fun e w'' he => ?_); cases e with
            | returned v => exact hK _ _ (keep_put hd h v) he
            | panicked c => exact he a rfl h
            | outgrown => exact he)
        | exact Rows.mono hh (fun v w'' he => hK _ _ (keep_put hd h v) he)
  | halt x w' =>
    cases x <;> simp only [Oper.upon] at hh ⊢
    exact hh a rfl h
theorem wpAny_keep {P : Program} {md : Region.Mode} {ops : Array Oper} {Q : Exit → Act → World → Prop} (X : List (Nat × Value)) (hX : ∀ (i : Nat) (o : Oper), ops[i]? = some o → ∀ x ∈ X, o.dst ≠ some x.1) :
    ∀ (fuel : Nat) (listed : Array Bool) (a : Act) (w : World), (∀ x ∈ X, a.tmps.getD x.1 undef = x.2) → wpAny P md ops (Keep X Q) fuel listed a w → wpAny P md ops Q fuel listed a w := by
  intro fuel
  induction fuel with
  | zero => intro listed a w _ h; exact h
  | succ fuel ih =>
    intro listed a w ha h
    refine ⟨h.1, fun i hi => ?_⟩
    have hop := h.2 i hi
    unfold wpOp at hop ⊢
    cases ho : ops[i]? with
    | none => rw [ho] at hop; exact ih _ _ _ ha hop
    | some o =>
      rw [ho] at hop
      simp only at hop ⊢
      by_cases hw : Region.wanted o (yielded ops a.tmps) = true
      · rw [if_pos hw] at hop ⊢
        exact hop.imp (fun h2 => upon_keep (hX i o ho) ha (fun a w hk h3 => ih _ _ _ hk h3) h2) id
      · rw [if_neg hw] at hop ⊢
        exact ih _ _ _ (keep_put (hX i o ho) ha undef) hop
theorem wp_region_keep {P : Program} {id : Nat} {ops : Array Oper} {Q : Exit → Act → World → Prop} {a : Act} {w : World} (X : List (Nat × Value)) (hm : P.follows .mixedOrders = true) (hX : ops.all (fun o => X.all (fun x => o.dst != some x.1)) = true) (ha : SlotsAt X a.tmps)
    (h : wpAny P .any ops (Keep X Q) ops.size (Array.replicate ops.size false) a w.drew) : (Code.region id ops true).wp P Q a w :=
  wp_region_any hm (wpAny_keep X (fun i o ho x hx e => by
    rw [Array.all_eq_true_iff_forall_mem] at hX
    have h1 := hX o (Array.mem_of_getElem? ho)
    rw [List.all_eq_true] at h1
    have h2 := h1 x hx
    rw [e] at h2
    simp at h2) _ _ _ _ ha.all h)
def addD (ds : List Deferred) (a : Act) : Act := { a with defers := a.defers ++ ds }
theorem addD_mk (t : Array Value) (ds : List Deferred) : addD ds { tmps := t, defers := [] } = { tmps := t, defers := ds } := rfl
theorem addD_put (ds : List Deferred) (a : Act) (d : Option Tmp) (v : Value) : (addD ds a).put d v = addD ds (a.put d v) := by cases d <;> rfl
theorem upon_keepD {P : Program} {o : Oper} {a : Act} {ds : List Deferred} {K K' : Act → World → Prop} {Q : Exit → Act → World → Prop} {X : List (Nat × Value)} (hd : ∀ x ∈ X, o.dst ≠ some x.1) (h : ∀ x ∈ X, a.tmps.getD x.1 undef = x.2)
    (hK : ∀ a w, (∀ x ∈ X, a.tmps.getD x.1 undef = x.2) → K a w → K' (addD ds a) w) {r : Result Next} (hh : o.upon P a K (fun e a w => Keep X Q e (addD ds a) w) r) : o.upon P (addD ds a) K' Q r := by
  cases r with
  | ok n w' =>
    cases n <;> simp only [Oper.upon] at hh ⊢ <;>
      first
        | (rw [addD_put]; exact hK _ _ (keep_put hd h _) hh)
        | (have h2 := hK _ _ (keep_put (a := { a with defers := _ :: a.defers }) hd h undef) hh; rw [← addD_put] at h2; exact h2)
        | (refine Calls.mono hh (fun e w'' he => ?_); cases e with
            | returned v => show K' ((addD ds a).put _ v) _; rw [addD_put]; exact hK _ _ (keep_put hd h v) he
            | panicked c => exact he (addD ds a) rfl h
            | outgrown => obtain ⟨a, w, ha⟩ := he; exact ⟨_, _, ha⟩)
        | exact Rows.mono hh (fun v w'' he => by rw [addD_put]; exact hK _ _ (keep_put hd h v) he)
  | halt x w' =>
    cases x <;> simp only [Oper.upon] at hh ⊢
    exact hh (addD ds a) rfl h
theorem wpAnyH_keepD {P : Program} {md : Region.Mode} {ops : Array Oper} {S : World → Prop} {Q : Exit → Act → World → Prop} (X : List (Nat × Value)) (ds : List Deferred) (hX : ∀ (i : Nat) (o : Oper), ops[i]? = some o → ∀ x ∈ X, o.dst ≠ some x.1) :
    ∀ (fuel : Nat) (listed : Array Bool) (a : Act) (w : World), (∀ x ∈ X, a.tmps.getD x.1 undef = x.2) → wpAnyH P md ops (fun e a w => Keep X Q e (addD ds a) w) S fuel listed a w → wpAnyH P md ops Q S fuel listed (addD ds a) w := by
  intro fuel
  induction fuel with
  | zero => intro listed a w _ h; exact h
  | succ fuel ih =>
    intro listed a w ha h
    refine ⟨h.1, fun i hi => ?_⟩
    have hop := h.2 i hi
    unfold wpOp at hop ⊢
    cases ho : ops[i]? with
    | none => rw [ho] at hop; exact ⟨hop.1, ih _ _ _ ha hop.2⟩
    | some o =>
      rw [ho] at hop
      simp only at hop ⊢
      by_cases hw : Region.wanted o (yielded ops a.tmps) = true
      · rw [if_pos hw] at hop
        rw [if_pos (show Region.wanted o (yielded ops (addD ds a).tmps) = true from hw)]
        refine hop.imp (fun h2 => upon_keepD (hX i o ho) ha (fun a w hk h3 => ⟨h3.1, ih _ _ _ hk h3.2⟩) h2) (fun h2 => ⟨h2.1, ?_⟩)
        obtain ⟨a, w, ha⟩ := h2.2
        exact ⟨_, _, ha⟩
      · rw [if_neg hw] at hop
        rw [if_neg (show ¬ Region.wanted o (yielded ops (addD ds a).tmps) = true from hw), addD_put]
        exact ⟨hop.1, ih _ _ _ (keep_put (hX i o ho) ha undef) hop.2⟩
theorem wp_region_keepD {P : Program} {id : Nat} {ops : Array Oper} {S : World → Prop} {Q : Exit → Act → World → Prop} {t : Array Value} {ds : List Deferred} {w : World} (X : List (Nat × Value)) (hm : P.follows .mixedOrders = true) (hX : ops.all (fun o => X.all (fun x => o.dst != some x.1)) = true) (ha : SlotsAt X t)
    (h : wpAnyH P .any ops (fun e a w => Keep X Q e (addD ds a) w) S ops.size (Array.replicate ops.size false) { tmps := t, defers := [] } w.drew) : (Code.region id ops true).wp P Q { tmps := t, defers := ds } w :=
  wp_region_held (S := S) hm (wpAnyH_keepD X ds (fun i o ho x hx e => by
    rw [Array.all_eq_true_iff_forall_mem] at hX
    have h1 := hX o (Array.mem_of_getElem? ho)
    rw [List.all_eq_true] at h1
    have h2 := h1 x hx
    rw [e] at h2
    simp at h2) _ _ { tmps := t, defers := [] } _ ha.all h)
end
end Go.Proofs.YtkefjeabckainaaGreat

namespace Go.Proofs.YtkefjeabckainaaGreat
section
open Go.RowKit Go.Maps
set_option maxRecDepth 100000
set_option linter.unusedVariables false

theorem fown_not {w : World} {v : Value} {L : List Nod} {b : Nat} {cs : Array Value} {t : TypeId} {fr : Nat × Nat} (h : NodsAt w v L) (hne : L ≠ []) (hb : w.heap[b]? = some (.cells cs t fr)) (hs : cs.size < 12) : v.ownBlock ≠ some b := by
  intro e
  obtain ⟨a, c, rfl, _, _⟩ := h.form
  obtain ⟨b', o, ha, hr⟩ := h.range 0 (List.length_pos_iff.2 hne)
  subst ha
  simp [Value.ownBlock] at e
  subst e
  have h11 := hr 11 _ (by rw [nod_cells]; rfl)
  rw [block_cell hb (o + 0 * 12 + 11), Array.getElem?_eq_none (by omega)] at h11
  cases h11
theorem frld_errno {p : Addr} {v : Value} {w : World} (h : w.cell? p = some v) : (loadVar 33 p).run Tryz.prog w = .ok v w := by simp [go_sem, h]
theorem fakeAnyF {G : Prop} (h : G) (_ : wpAny Tryz.prog .any #[] (fun _ _ _ => True) 0 #[] { tmps := #[], defers := [] } default) : G := h
theorem results_sc {P : Program} {fn : Func} {p q : Tmp} {ty2 : TypeId} (h : fn.results = #[.tmp p, .cell q ty2]) (tmps : Array Value) (w : World) (g2 : Nat) (x y : Value)
    (hp : tmps.getD p undef = y) (hq : tmps.getD q undef = .pointer (some ⟨g2, 0, none⟩)) (hx : (loadVar ty2 ⟨g2, 0, none⟩).run P w = .ok x w) :
    (results fn tmps).run P w = .ok (.tuple #[y, x]) w := by
  have hp' : tmps[p]?.getD undef = y := by simpa using hp
  have hq' : tmps[q]?.getD undef = .pointer (some ⟨g2, 0, none⟩) := by simpa using hq
  simp [results, h, hp', hq', asAddr, hx]
theorem results_c1 {P : Program} {fn : Func} {q : Tmp} {ty2 : TypeId} (h : fn.results = #[.cell q ty2]) (tmps : Array Value) (w : World) (g2 : Nat) (x : Value)
    (hq : tmps.getD q undef = .pointer (some ⟨g2, 0, none⟩)) (hx : (loadVar ty2 ⟨g2, 0, none⟩).run P w = .ok x w) :
    (results fn tmps).run P w = .ok x w := by
  have hq' : tmps[q]?.getD undef = .pointer (some ⟨g2, 0, none⟩) := by simpa using hq
  simp [results, h, hq', asAddr, hx]
theorem FSo.aside {w : World} {b m p n k : Nat} {v : Value} {f : FsV} {u : Usr} (h : FSo w b m v p f u n) (ho : v.ownBlock ≠ some k) (hbk : b < k) (hmk : m < k) (x : Value) :
    FSo (w.setCell ⟨k, 0, none⟩ x) b m v p f u n := by
  obtain ⟨W0, h1, h2, h3, h4⟩ := h.tab
  have hkk : ∀ j, j ≠ k → (w.setCell ⟨k, 0, none⟩ x).heap[j]? = w.heap[j]? := fun j hj => block_set_other hj
  exact ⟨h.ne, (hkk b (by omega)).trans h.blk, NodsAt.other h.row k ho (by simp [World.setCell]) hkk, h.nb, h.nm, ⟨W0, h1, h2.setCell (p := ⟨k, 0, none⟩) (by show W0.heap.size ≤ k; omega) _, h3, h4⟩, h.map.kept (hkk m (by omega))⟩
theorem FStep.aside {b m k : Nat} {w w' : World} (h : FStep b m w w') (hk : w.heap.size ≤ k) (x : Value) : FStep b m w (w'.setCell ⟨k, 0, none⟩ x) :=
  ⟨fun B h1 h2 h3 => (h.below B h1 h2 h3).setCell (p := ⟨k, 0, none⟩) (by show B ≤ k; omega) x, fun j hj h1 h2 => (block_set_other (by show j ≠ k; omega)).trans (h.block j hj h1 h2), by have := h.size; simpa [World.setCell] using this⟩
theorem FSo.back {w : World} {b m p n k E : Nat} {v y : Value} {f : FsV} {u : Usr} {T : TypeId} {fr : Nat × Nat} (h : FSo w b m v p f u n) (hne : f.t.n ≠ []) (hk : w.heap[k]? = some (.cells #[y] T fr)) (hbk : b < k) (hmk : m < k) :
    FSo (backW w b k f.t.next v E) b m v p f u n := by
  unfold backW
  have hA := (Below.refl w.heap.size w).alloc (Nat.le_refl _) (.cells #[.int .u64 (f.t.next : Int), v] 30)
  have h1 := (h.below hA).put f.t (h.row.below hA) h.nb h.nm
  exact FSo.aside h1 (fown_not h.row hne hk (by show 1 < 12; omega)) hbk hmk _
theorem FStep.back {b m k : Nat} {w w' : World} (h : FStep b m w w') (hk : w.heap.size ≤ k) (next E : Nat) (v : Value) : FStep b m w (backW w' b k next v E) := by
  unfold backW
  exact (h.trans ((FStep.pure ((Below.refl _ _).alloc (Nat.le_refl _) _)).trans (FStep.put _ _))).aside hk _
theorem back_cell {w : World} {b k next E : Nat} {v y : Value} {T : TypeId} {fr : Nat × Nat} (hk : w.heap[k]? = some (.cells #[y] T fr)) (hbk : b < k) : (backW w b k next v E).cell? ⟨k, 0, none⟩ = some (.int .i64 (E : Int)) := by
  unfold backW
  have h1 : (((w.alloc (.cells #[.int .u64 (next : Int), v] 30)).setCell ⟨b, 0, none⟩ (.int .u64 (next : Int))).setCell ⟨b, 1, none⟩ v).heap[k]? = some (.cells #[y] T fr) := by
    rw [block_set_other (show k ≠ b by omega), block_set_other (show k ≠ b by omega), heap_alloc_old _ _ (lt_of_block hk)]
    exact hk
  exact block_cell (block_set h1 0 _) 0

def FPair (b m p n : Nat) (f : FsV) (u : Usr) (x : Value) (E : Nat) (w : World) (e : Ending) (w' : World) : Prop := e = .returned (.tuple #[x, .int .i64 (E : Int)]) ∧ (∃ v', FSo w' b m v' p f u n) ∧ FStep b m w w'
def FErr (b m p n : Nat) (f : FsV) (u : Usr) (E : Nat) (w : World) (e : Ending) (w' : World) : Prop := e = .returned (.int .i64 (E : Int)) ∧ (∃ v', FSo w' b m v' p f u n) ∧ FStep b m w w'

theorem fend_bad {fn : Func} {tmps : Array Value} {R : Ending → World → Prop} {b m p n k E : Nat} {a : Option Addr} {l c : Nat} {y : Value} {f : FsV} {u : Usr} {w : World} {fv : Fn} {cap : Array Value} (h : FSo w b m (.slice a l c) p f u n) (hk : w.heap[k]? = some (.cells #[y] 33 (0, 0))) (hbk : b < k)
    (hi : (invoke (.fn fv cap) #[.pointer (some ⟨b, 0, none⟩), .agg #[.int .u64 (f.t.next : Int), .slice a l c], .pointer (some ⟨k, 0, none⟩)]).run Tryz.prog w = .ok (.enter 35 #[.pointer (some ⟨b, 0, none⟩), .agg #[.int .u64 (f.t.next : Int), .slice a l c], .pointer (some ⟨k, 0, none⟩)]) w)
    (hR : ∃ v, (results fn tmps).run Tryz.prog (backW w b k f.t.next (.slice a l c) E) = .ok v (backW w b k f.t.next (.slice a l c) E) ∧ R (.returned v) (backW w b k f.t.next (.slice a l c) E)) :
    Leaves Tryz.prog fn tmps R [{ target := .fn fv cap, args := #[.pointer (some ⟨b, 0, none⟩), .agg #[.int .u64 (f.t.next : Int), .slice a l c], .pointer (some ⟨k, 0, none⟩)] }] (.panicking (errChain E)) w := by
  refine leaves_cons (by simp) hi ?_
  refine (fcaught_panicking b k f.t.next E a l c _ _ _ _ _ y w (by omega) h.blk hk).mono ?_
  rintro e u' w'' ⟨rfl, rfl, rfl⟩
  simp only [settle, errChainR]
  exact hR
theorem fend_ok {fn : Func} {tmps : Array Value} {R : Ending → World → Prop} {b k next : Nat} {a : Option Addr} {l c : Nat} {w : World} {fv : Fn} {cap : Array Value}
    (hi : (invoke (.fn fv cap) #[.pointer (some ⟨b, 0, none⟩), .agg #[.int .u64 (next : Int), .slice a l c], .pointer (some ⟨k, 0, none⟩)]).run Tryz.prog w = .ok (.enter 35 #[.pointer (some ⟨b, 0, none⟩), .agg #[.int .u64 (next : Int), .slice a l c], .pointer (some ⟨k, 0, none⟩)]) w)
    (hR : ∃ v, (results fn tmps).run Tryz.prog (w.alloc (.cells #[.int .u64 (next : Int), .slice a l c] 30)) = .ok v (w.alloc (.cells #[.int .u64 (next : Int), .slice a l c] 30)) ∧ R (.returned v) (w.alloc (.cells #[.int .u64 (next : Int), .slice a l c] 30))) :
    Leaves Tryz.prog fn tmps R [{ target := .fn fv cap, args := #[.pointer (some ⟨b, 0, none⟩), .agg #[.int .u64 (next : Int), .slice a l c], .pointer (some ⟨k, 0, none⟩)] }] .returning w := by
  refine leaves_cons (by simp) hi ?_
  refine (fcaught_idle b k next a l c w).mono ?_
  rintro e u' w'' ⟨rfl, rfl, rfl⟩
  simp only [settle]
  exact hR
theorem fpair_bad {fn : Func} {s t : Tmp} (hres : fn.results = #[.tmp s, .cell t 33]) {tmps : Array Value} {b m p n k E : Nat} {a : Option Addr} {l c : Nat} {x y : Value} {f : FsV} {u : Usr} {w0 w : World} {fv : Fn} {cap : Array Value} (h : FSo w b m (.slice a l c) p f u n) (hS : FStep b m w0 w) (hne : f.t.n ≠ []) (hk : w.heap[k]? = some (.cells #[y] 33 (0, 0))) (hbk : b < k) (hmk : m < k) (hk0 : w0.heap.size ≤ k)
    (hi : (invoke (.fn fv cap) #[.pointer (some ⟨b, 0, none⟩), .agg #[.int .u64 (f.t.next : Int), .slice a l c], .pointer (some ⟨k, 0, none⟩)]).run Tryz.prog w = .ok (.enter 35 #[.pointer (some ⟨b, 0, none⟩), .agg #[.int .u64 (f.t.next : Int), .slice a l c], .pointer (some ⟨k, 0, none⟩)]) w)
    (hs : tmps.getD s undef = x) (ht : tmps.getD t undef = .pointer (some ⟨k, 0, none⟩)) :
    Leaves Tryz.prog fn tmps (FPair b m p n f u x E w0) [{ target := .fn fv cap, args := #[.pointer (some ⟨b, 0, none⟩), .agg #[.int .u64 (f.t.next : Int), .slice a l c], .pointer (some ⟨k, 0, none⟩)] }] (.panicking (errChain E)) w :=
  fend_bad h hk hbk hi ⟨_, results_sc hres _ _ k _ _ hs ht (frld_errno (back_cell hk hbk)), rfl, ⟨_, h.back hne hk hbk hmk⟩, hS.back hk0 _ _ _⟩
theorem ferr_bad {fn : Func} {t : Tmp} (hres : fn.results = #[.cell t 33]) {tmps : Array Value} {b m p n k E : Nat} {a : Option Addr} {l c : Nat} {y : Value} {f : FsV} {u : Usr} {w0 w : World} {fv : Fn} {cap : Array Value} (h : FSo w b m (.slice a l c) p f u n) (hS : FStep b m w0 w) (hne : f.t.n ≠ []) (hk : w.heap[k]? = some (.cells #[y] 33 (0, 0))) (hbk : b < k) (hmk : m < k) (hk0 : w0.heap.size ≤ k)
    (hi : (invoke (.fn fv cap) #[.pointer (some ⟨b, 0, none⟩), .agg #[.int .u64 (f.t.next : Int), .slice a l c], .pointer (some ⟨k, 0, none⟩)]).run Tryz.prog w = .ok (.enter 35 #[.pointer (some ⟨b, 0, none⟩), .agg #[.int .u64 (f.t.next : Int), .slice a l c], .pointer (some ⟨k, 0, none⟩)]) w)
    (ht : tmps.getD t undef = .pointer (some ⟨k, 0, none⟩)) :
    Leaves Tryz.prog fn tmps (FErr b m p n f u E w0) [{ target := .fn fv cap, args := #[.pointer (some ⟨b, 0, none⟩), .agg #[.int .u64 (f.t.next : Int), .slice a l c], .pointer (some ⟨k, 0, none⟩)] }] (.panicking (errChain E)) w :=
  fend_bad h hk hbk hi ⟨_, results_c1 hres _ _ k _ ht (frld_errno (back_cell hk hbk)), rfl, ⟨_, h.back hne hk hbk hmk⟩, hS.back hk0 _ _ _⟩
theorem fpair_ok {fn : Func} {s t : Tmp} (hres : fn.results = #[.tmp s, .cell t 33]) {tmps : Array Value} {b m p n k next E : Nat} {a : Option Addr} {l c : Nat} {v x : Value} {f : FsV} {u : Usr} {w0 w : World} {fv : Fn} {cap : Array Value} (h : FSo w b m v p f u n) (hS : FStep b m w0 w) (hk : w.heap[k]? = some (.cells #[.int .i64 (E : Int)] 33 (0, 0)))
    (hi : (invoke (.fn fv cap) #[.pointer (some ⟨b, 0, none⟩), .agg #[.int .u64 (next : Int), .slice a l c], .pointer (some ⟨k, 0, none⟩)]).run Tryz.prog w = .ok (.enter 35 #[.pointer (some ⟨b, 0, none⟩), .agg #[.int .u64 (next : Int), .slice a l c], .pointer (some ⟨k, 0, none⟩)]) w)
    (hs : tmps.getD s undef = x) (ht : tmps.getD t undef = .pointer (some ⟨k, 0, none⟩)) :
    Leaves Tryz.prog fn tmps (FPair b m p n f u x E w0) [{ target := .fn fv cap, args := #[.pointer (some ⟨b, 0, none⟩), .agg #[.int .u64 (next : Int), .slice a l c], .pointer (some ⟨k, 0, none⟩)] }] .returning w := by
  have hA := (Below.refl w.heap.size w).alloc (Nat.le_refl _) (.cells #[.int .u64 (next : Int), .slice a l c] 30)
  exact fend_ok hi ⟨_, results_sc hres _ _ k _ _ hs ht (frld_errno (block_cell ((hA.block _ (lt_of_block hk)).trans hk) 0)), rfl, ⟨_, h.below hA⟩, hS.trans (FStep.pure hA)⟩
theorem ferr_ok {fn : Func} {t : Tmp} (hres : fn.results = #[.cell t 33]) {tmps : Array Value} {b m p n k next E : Nat} {a : Option Addr} {l c : Nat} {v : Value} {f : FsV} {u : Usr} {w0 w : World} {fv : Fn} {cap : Array Value} (h : FSo w b m v p f u n) (hS : FStep b m w0 w) (hk : w.heap[k]? = some (.cells #[.int .i64 (E : Int)] 33 (0, 0)))
    (hi : (invoke (.fn fv cap) #[.pointer (some ⟨b, 0, none⟩), .agg #[.int .u64 (next : Int), .slice a l c], .pointer (some ⟨k, 0, none⟩)]).run Tryz.prog w = .ok (.enter 35 #[.pointer (some ⟨b, 0, none⟩), .agg #[.int .u64 (next : Int), .slice a l c], .pointer (some ⟨k, 0, none⟩)]) w)
    (ht : tmps.getD t undef = .pointer (some ⟨k, 0, none⟩)) :
    Leaves Tryz.prog fn tmps (FErr b m p n f u E w0) [{ target := .fn fv cap, args := #[.pointer (some ⟨b, 0, none⟩), .agg #[.int .u64 (next : Int), .slice a l c], .pointer (some ⟨k, 0, none⟩)] }] .returning w := by
  have hA := (Below.refl w.heap.size w).alloc (Nat.le_refl _) (.cells #[.int .u64 (next : Int), .slice a l c] 30)
  exact fend_ok hi ⟨_, results_c1 hres _ _ k _ ht (frld_errno (block_cell ((hA.block _ (lt_of_block hk)).trans hk) 0)), rfl, ⟨_, h.below hA⟩, hS.trans (FStep.pure hA)⟩
end
end Go.Proofs.YtkefjeabckainaaGreat
