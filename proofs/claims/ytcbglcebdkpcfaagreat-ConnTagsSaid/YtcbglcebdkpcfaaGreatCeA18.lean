/- A row of one's own whose cells point to other rows: one more element, or those of another slice. Conditions: sizes of the machine.
Feed of a road: where its two loops stand, plainly. Conditions: sizes of the machine.
A slice built of one message whose cells are not written out. No condition. -/
import Derived.Test.YtcbglcebdkpcfaaGreatCeA04
import Derived.Maps.AppendAt
import Derived.Test.YtcbglcebdkpcfaaGreatCeA17
namespace Go.Proofs.YtcbglcebdkpcfaaGreat
section
open Go.RowKit
set_option maxRecDepth 100000
set_option linter.unusedVariables false

structure RowV (w : World) (base : Nat) (e : TypeId) (k : Nat) (v : Value) (n : Nat) (us : List Value) : Prop where
  own : w.ownsRow base e k v n us
  apart : ∀ u ∈ us, ∀ j, u.ownBlock = some j → j < w.heap.size ∧ v.ownBlock ≠ some j
theorem RowV.nil (w : World) (base : Nat) (e : TypeId) (k : Nat) : RowV w base e k (.slice none 0 0) 0 [] := ⟨World.ownsRow_nil _ _ _ _, fun u hu => by cases hu⟩
theorem RowV.kept {w w' : World} {base k n : Nat} {e : TypeId} {v : Value} {us : List Value} (h : RowV w base e k v n us) (hs : w.heap.size ≤ w'.heap.size) (hb : ∀ j, v.ownBlock = some j → w'.heap[j]? = w.heap[j]?) : RowV w' base e k v n us :=
  ⟨own_keep h.own hb, fun u hu j hj => ⟨by have := (h.apart u hu j hj).1; omega, (h.apart u hu j hj).2⟩⟩
theorem RowV.at {w : World} {base k n : Nat} {e : TypeId} {v : Value} {us : List Value} (h : RowV w base e k v n us) : RowAt w k v n us := RowAt.of_own h.own
theorem RowV.form {w : World} {base k n : Nat} {e : TypeId} {v : Value} {us : List Value} (h : RowV w base e k v n us) : ∃ a c, v = .slice a n c := own_form h.own
theorem RowV.lt {w : World} {base k n j : Nat} {e : TypeId} {v : Value} {us : List Value} (h : RowV w base e k v n us) (hj : v.ownBlock = some j) : base ≤ j ∧ j < w.heap.size := h.own.lt j hj
theorem Pushed.mono {base base' : Nat} {v v' : Value} {w w' : World} (h : Pushed base v v' w w') (hb : base' ≤ base) : Pushed base' v v' w w' := ⟨h.size, h.keep, h.apart, h.below.mono hb⟩
theorem RowV.apart_push {w w' : World} {base k n' : Nat} {e : TypeId} {v v' : Value} {us' : List Value} (p : Pushed base v v' w w') (h : w'.ownsRow base e k v' n' us') (hu : ∀ u ∈ us', ∀ j, u.ownBlock = some j → j < w.heap.size ∧ v.ownBlock ≠ some j) : RowV w' base e k v' n' us' :=
  ⟨h, fun u hx j hj => ⟨Nat.lt_of_lt_of_le (hu u hx j hj).1 p.size, p.apart j (hu u hx j hj).1 (hu u hx j hj).2⟩⟩
section
variable {P : Program} {t e : TypeId} {size bytes : Nat}
theorem run_push (E : ElemOk P t e size bytes) (w : World) (ty : TypeId) {base n m : Nat} {v sv : Value} {us news : List Value} (h : RowV w base e size v n us) (hsrc : RowAt w size sv m news) (h1 : ∀ u ∈ news, u.oneCell' = true) (hap : ∀ u ∈ news, ∀ j, u.ownBlock = some j → j < w.heap.size ∧ v.ownBlock ≠ some j)
    (h63 : n + m ≤ maxLen) (hbytes : (n + m) * bytes ≤ 140737488355328) (hbase : base ≤ w.heap.size) :
    ∃ a' c' w', (Builtin.append_ #[t, t] ty #[v, sv]).run P w = .ok (.slice a' (n + m) c') w' ∧ RowV w' base e size (.slice a' (n + m) c') (n + m) (us ++ news) ∧ Pushed base v (.slice a' (n + m) c') w w' := by
  obtain ⟨i, z, hi, hz, hsize, hby, hzs⟩ := E.hi
  have hall : ∀ u ∈ us ++ news, ∀ j, u.ownBlock = some j → j < w.heap.size ∧ v.ownBlock ≠ some j := fun u hu => (List.mem_append.1 hu).elim (fun h' => h.apart u h') (fun h' => hap u h')
  have hlt := fun j (hj : v.ownBlock = some j) => h.own.lt j hj
  obtain ⟨hl, a, c, rfl, hc1, hc2, hc3, hc5, hcell⟩ := id hsrc
  cases a with
  | some ad =>
    have hnews : ∀ j u, news[j]? = some u → w.cell? (ad.add j) = some u := fun j u hu => by
      obtain ⟨b, o, hb, hcc⟩ := hcell j u hu
      cases hb
      rw [add_plain']; exact hcc
    obtain ⟨v', w', hr, h2, h3, _, h5⟩ := run_append_own_at (P := P) w base t ty e i z size bytes E.ht hi hz hsize hby hzs E.hsz v n us h.own ad m c news hl hnews h1 h63 hbytes hbase
    obtain ⟨a', c', rfl⟩ := own_form h2
    have p : Pushed base v (.slice a' (n + m) c') w w' := ⟨h3.size, fun j hj hn => h3.block j hj (fun e => hn e.symm), fun j hj hn e2 => by
      rcases h5 with h5 | h5
      · exact hn (by rw [← h5]; exact e2)
      · rw [h5] at e2; cases e2; omega, (Below.refl _ _).grown h3 hbase (fun j hj => (hlt j hj).1)⟩
    exact ⟨a', c', w', hr, RowV.apart_push p h2 hall, p⟩
  | none =>
    have hc0 := hc3 rfl
    obtain rfl : c = 0 := hc0
    obtain rfl : m = 0 := by omega
    have : news = [] := List.eq_nil_of_length_eq_zero (by simpa using hl)
    subst this
    obtain ⟨a', c', rfl⟩ := own_form h.own
    refine ⟨a', c', w, ?_, by simpa using h, ⟨Nat.le_refl _, fun _ _ _ => rfl, fun _ _ h => h, Below.refl _ _⟩⟩
    subst hsize
    rcases h.own.2 with ⟨he, _⟩ | ⟨g, cap, cur, he, _, _, hnc, _⟩
    · cases he
      simp [Builtin.append_, run_underlying E.ht, sizeOf, typeInfo, hi, Builtin.lenOf, Builtin.firstCells]
    · cases he
      simp [Builtin.append_, run_underlying E.ht, sizeOf, typeInfo, hi, Builtin.lenOf, Builtin.firstCells, loadCells, storeCells, hnc]
theorem wpList_pushK (E : ElemOk P t e size bytes) {ops : Array Oper} {rest : List Oper} {o : Oper} {a : Act} {Q : Exit → Act → World → Prop} (w : World) (hgd : o.guard = none) (s x : Operand)
    (ho : o.op = .call { callee := .builtin .append, args := #[s, x], argTypes := #[t, t] }) {base n m : Nat} {v sv : Value} {us news : List Value} (hs : a.eval s = v) (hx : a.eval x = sv) (h : RowV w base e size v n us) (hsrc : RowAt w size sv m news) (h1 : ∀ u ∈ news, u.oneCell' = true) (hap : ∀ u ∈ news, ∀ j, u.ownBlock = some j → j < w.heap.size ∧ v.ownBlock ≠ some j)
    (h63 : n + m ≤ maxLen) (hbytes : (n + m) * bytes ≤ 140737488355328) (hbase : base ≤ w.heap.size)
    (hk : ∀ a' c' w', RowV w' base e size (.slice a' (n + m) c') (n + m) (us ++ news) → Pushed base v (.slice a' (n + m) c') w w' → wpList P ops Q rest (a.put o.dst (.slice a' (n + m) c')) w') : wpList P ops Q (o :: rest) a w :=
  wpList_plain hgd fun K hK => by
    refine wp_append_run s x t ho hs hx (R := fun v' w' => ∃ a' c', v' = .slice a' (n + m) c' ∧ RowV w' base e size v' (n + m) (us ++ news) ∧ Pushed base v v' w w') ?_ ?_
    · obtain ⟨a', c', w', hr, h2, h3⟩ := run_push (P := P) E w o.type h hsrc h1 hap h63 hbytes hbase
      exact ⟨_, w', hr, a', c', rfl, h2, h3⟩
    · rintro _ w' ⟨a', c', rfl, h2, h3⟩
      exact hK _ _ (hk a' c' w' h2 h3)
end
theorem RowAt.of_new {w : World} {e : TypeId} (cs : Array Value) (n k : Nat) (h : cs.size = n * k) (hn : n ≤ maxLen) : RowAt (w.alloc (.cells cs e)) k (.slice (some ⟨w.heap.size, 0, none⟩) n n) n cs.toList :=
  RowAt.of_block (n := n) (k := k) (cs := cs) (e := e) (fr := (0, 0)) (heap_alloc_new _ _) h hn
end
end Go.Proofs.YtcbglcebdkpcfaaGreat

namespace Go.Proofs.YtcbglcebdkpcfaaGreat
section
open Go.RowKit
set_option maxRecDepth 100000
set_option linter.unusedVariables false

def All2 {α β : Type} (R : α → β → Prop) : List α → List β → Prop
  | [], [] => True
  | a :: l, b :: k => R a b ∧ All2 R l k
  | _, _ => False
theorem All2.imp {α β : Type} {R S : α → β → Prop} (h : ∀ a b, R a b → S a b) : ∀ {l : List α} {k : List β}, All2 R l k → All2 S l k
  | [], [], _ => trivial
  | _ :: _, _ :: _, ⟨h1, h2⟩ => ⟨h _ _ h1, All2.imp h h2⟩
  | [], _ :: _, h => h.elim
  | _ :: _, [], h => h.elim
theorem All2.len {α β : Type} {R : α → β → Prop} : ∀ {l : List α} {k : List β}, All2 R l k → l.length = k.length
  | [], [], _ => rfl
  | _ :: _, _ :: _, ⟨_, h2⟩ => by simp [All2.len h2]
  | [], _ :: _, h => h.elim
  | _ :: _, [], h => h.elim
theorem All2.app {α β : Type} {R : α → β → Prop} : ∀ {l : List α} {k : List β} {l' : List α} {k' : List β}, All2 R l k → All2 R l' k' → All2 R (l ++ l') (k ++ k')
  | [], [], _, _, _, h => h
  | _ :: _, _ :: _, _, _, ⟨h1, h2⟩, h => ⟨h1, All2.app h2 h⟩
  | [], _ :: _, _, _, h, _ => h.elim
  | _ :: _, [], _, _, h, _ => h.elim
theorem All2.get {α β : Type} {R : α → β → Prop} : ∀ {l : List α} {k : List β} (h : All2 R l k) (i : Nat) (hi : i < l.length) (hk : i < k.length), R l[i] k[i]
  | _ :: _, _ :: _, ⟨h1, _⟩, 0, _, _ => h1
  | _ :: _, _ :: _, ⟨_, h2⟩, i + 1, hi, hk => All2.get h2 i (by simpa using hi) (by simpa using hk)
  | [], _, _, _, hi, _ => absurd hi (by simp)
  | _ :: _, [], h, _, _, _ => h.elim
theorem All2.mem {α β : Type} {R : α → β → Prop} : ∀ {l : List α} {k : List β} (h : All2 R l k) {b : β}, b ∈ k → ∃ a ∈ l, R a b
  | _ :: _, _ :: _, ⟨h1, h2⟩, b, hb => by
    rcases List.mem_cons.1 hb with rfl | hb
    · exact ⟨_, by simp, h1⟩
    · obtain ⟨a, ha, hr⟩ := All2.mem h2 hb; exact ⟨a, by simp [ha], hr⟩
  | [], [], _, _, hb => by cases hb
  | [], _ :: _, h, _, _ => h.elim
  | _ :: _, [], h, _, _ => h.elim
def AskF (w : World) (B : Nat) (F : Nat → Prop) (m : M) (r : Array Value) : Prop := r.size = 36 ∧ MVal w m (.agg r) B ∧ ∀ u ∈ r.toList, ∀ j, u.ownBlock = some j → F j
def OutF (w : World) (B : Nat) (F : Nat → Prop) (l : List UInt8) (v : Value) : Prop := BytesAt w v l ∧ ∀ j, v.ownBlock = some j → B ≤ j ∧ F j
def offV (tv : Value) (j : Nat) : Prop := tv.ownBlock ≠ some j
theorem MVal.keep {w w' : World} {m : M} {cs : Array Value} {B B' : Nat} (h : MVal w m (.agg cs) B) (hs : w.heap.size ≤ w'.heap.size) (hk : ∀ u ∈ cs.toList, ∀ j, u.ownBlock = some j → w'.heap[j]? = w.heap[j]?) (hB : B' ≤ B) : MVal w' m (.agg cs) B' := by
  obtain ⟨vN, vQ, vD, hv, ⟨hN, hN2⟩, ⟨hQ, hQ2⟩, ⟨hD, hD2⟩⟩ := h
  have hc : cs = m.cells vN vQ vD := by cases hv; rfl
  subst hc
  have m1 : vN ∈ (m.cells vN vQ vD).toList := by simp [M.cells]
  have m2 : vQ ∈ (m.cells vN vQ vD).toList := by simp [M.cells]
  have m3 : vD ∈ (m.cells vN vQ vD).toList := by simp [M.cells]
  exact ⟨vN, vQ, vD, rfl, ⟨RowAt.other hN hs fun j hj => hk _ m1 j hj, fun k h => by have := hN2 k h; omega⟩, ⟨RowAt.other hQ hs fun j hj => hk _ m2 j hj, fun k h => by have := hQ2 k h; omega⟩, ⟨RowAt.other hD hs fun j hj => hk _ m3 j hj, fun k h => by have := hD2 k h; omega⟩⟩
theorem AskF.keep {w w' : World} {B B' : Nat} {F F' : Nat → Prop} {m : M} {r : Array Value} (h : AskF w B F m r) (hs : w.heap.size ≤ w'.heap.size) (hk : ∀ j, B ≤ j → j < w.heap.size → F j → w'.heap[j]? = w.heap[j]? ∧ F' j) (hB : B' ≤ B) : AskF w' B' F' m r :=
  ⟨h.1, h.2.1.keep hs (fun u hu j hj => (hk j (h.2.1.blk u hu j hj).1 (h.2.1.blk u hu j hj).2 (h.2.2 u hu j hj)).1) hB, fun u hu j hj => (hk j (h.2.1.blk u hu j hj).1 (h.2.1.blk u hu j hj).2 (h.2.2 u hu j hj)).2⟩
theorem OutF.keep {w w' : World} {B B' : Nat} {F F' : Nat → Prop} {l : List UInt8} {v : Value} (h : OutF w B F l v) (hs : w.heap.size ≤ w'.heap.size) (hk : ∀ j, B ≤ j → j < w.heap.size → F j → w'.heap[j]? = w.heap[j]? ∧ F' j) (hB : B' ≤ B) : OutF w' B' F' l v :=
  ⟨RowAt.other h.1 hs (fun j hj => (hk j (h.2 j hj).1 (h.1.lt hj) (h.2 j hj).2).1), fun j hj => ⟨by have := (h.2 j hj).1; omega, (hk j (h.2 j hj).1 (h.1.lt hj) (h.2 j hj).2).2⟩⟩
theorem Oth.trans2 {P P' : Nat → Prop} {a b c : World} (h : Oth P a b) (g : Oth P' b c) (hp : ∀ j, j < a.heap.size → P' j → P j) : Oth P a c :=
  ⟨Nat.le_trans h.size g.size, fun j hj hn => (g.keep j (Nat.lt_of_lt_of_le hj h.size) (fun e => hn (hp j hj e))).trans (h.keep j hj hn), fun N h1 h2 => (h.below N h1 h2).trans (g.below N (Nat.le_trans h1 h.size) (fun j hj => by
    rcases Nat.lt_or_ge j a.heap.size with hl | hl
    · exact h2 j (hp j hl hj)
    · omega))⟩
structure L1 (w wr : World) (t A B cap : Nat) (tv tv' : Value) (xs : List Nat) (L : List (List UInt8)) (rs : List (Array Value)) (vs : List Value) : Prop where
  tab : TabS wr t tv' (tagsB xs L)
  trow : ∀ j, j < w.heap.size → tv.ownBlock ≠ some j → tv'.ownBlock ≠ some j
  oth : Oth (fun j => (j = t ∨ tv.ownBlock = some j) ∨ j = A ∨ j = B) w wr
  chA : ChanAt wr A cap (rs.map Value.agg).toArray
  chB : ChanAt wr B cap vs.toArray
  asks : All2 (AskF wr w.heap.size (offV tv')) (asksB xs L) rs
  outs : All2 (OutF wr w.heap.size (offV tv')) (outsB xs L) vs
theorem L1.step {w wr w' : World} {t A B cap : Nat} {tv tv' : Value} {xs : List Nat} {L : List (List UInt8)} {rs : List (Array Value)} {vs : List Value} (h : L1 w wr t A B cap tv tv' xs L rs vs) (hA : A < w.heap.size) (hB : B < w.heap.size) (ht : t < w.heap.size) {b : List UInt8} {e : Ending}
    (hb : BodyP wr t A B tv' cap (rs.map Value.agg).toArray cap vs.toArray b (tagsB xs L) e w') : e = .returned (.tuple #[]) ∧ ∃ tv2 rs2 vs2, L1 w w' t A B cap tv tv2 xs (L ++ [b]) rs2 vs2 := by
  obtain ⟨he, tv2, ⟨hT, hrow⟩, hO, hc⟩ := hb
  refine ⟨he, tv2, ?_⟩
  have hz := h.oth.size
  have hz2 := hO.size
  have htag : tagsB xs (L ++ [b]) = bodyT (tagsB xs L) b := by rw [tagsB_app]; rfl
  have htrow : ∀ j, j < w.heap.size → tv.ownBlock ≠ some j → tv2.ownBlock ≠ some j := fun j hj hn => hrow j (by omega) (h.trow j hj hn)
  have hoth : Oth (fun j => (j = t ∨ tv.ownBlock = some j) ∨ j = A ∨ j = B) w w' := h.oth.trans2 hO fun j hj hp => by
    rcases hp with (hp | hp) | hp
    · exact .inl (.inl hp)
    · by_cases e : tv.ownBlock = some j
      · exact .inl (.inr e)
      · exact absurd hp (h.trow j hj e)
    · exact .inr hp
  have hkeep : ∀ j, w.heap.size ≤ j → j < wr.heap.size → tv'.ownBlock ≠ some j → w'.heap[j]? = wr.heap[j]? := fun j h1 h2 h3 => hO.keep j h2 (by rintro ((e | e) | e | e); (all_goals first | omega | exact h3 e))
  have hasks : All2 (AskF w' w.heap.size (offV tv2)) (asksB xs L) rs := h.asks.imp fun m r hr => hr.keep hz2 (fun j h1 h2 h3 => ⟨hkeep j h1 h2 h3, hrow j h2 h3⟩) (Nat.le_refl _)
  have houts : All2 (OutF w' w.heap.size (offV tv2)) (outsB xs L) vs := h.outs.imp fun l v hr => hr.keep hz2 (fun j h1 h2 h3 => ⟨hkeep j h1 h2 h3, hrow j h2 h3⟩) (Nat.le_refl _)
  rcases hc with ⟨h0, cs, hm, hcs, hap, hcA, hcB⟩ | ⟨hN, x, hx, hxf, hcA, hcB⟩
  · refine ⟨rs ++ [cs], vs, ⟨by rw [htag]; exact hT, htrow, hoth, by simpa using hcA, hcB, ?_, ?_⟩⟩
    · rw [asksB_app]
      refine hasks.app ?_
      simp only [asksB, ask1, if_pos h0, List.append_nil]
      exact ⟨⟨hcs, hm.keep (Nat.le_refl _) (fun _ _ _ _ => rfl) hz, fun u hu j hj => (hap u hu j hj).2.2⟩, trivial⟩
    · rw [outsB_app]
      simp only [outsB, out1, if_pos h0, List.append_nil]
      exact houts
  · have h0 : ¬ bodyE (tagsB xs L) b = 0 := by rcases hN with h | h | h <;> rw [h] <;> decide
    refine ⟨rs, vs ++ [x], ⟨by rw [htag]; exact hT, htrow, hoth, hcA, by simpa using hcB, ?_, ?_⟩⟩
    · rw [asksB_app]
      simp only [asksB, ask1, if_neg h0, List.append_nil]
      exact hasks
    · rw [outsB_app]
      refine houts.app ?_
      simp only [outsB, out1, if_neg h0, List.append_nil]
      exact ⟨⟨hx, fun j hj => ⟨by have := (hxf j hj).1; omega, (hxf j hj).2.2⟩⟩, trivial⟩
def cellsOf (rs : List (Array Value)) : List Value := rs.flatMap (·.toList)
theorem cellsOf_take {rs : List (Array Value)} {i : Nat} (h : i < rs.length) : cellsOf (rs.take (i + 1)) = cellsOf (rs.take i) ++ rs[i].toList := by
  unfold cellsOf
  rw [List.take_succ_eq_append_getElem h, List.flatMap_append]
  simp only [List.flatMap_cons, List.flatMap_nil, List.append_nil]
structure L2 (w wr : World) (A B cap : Nat) (rs : List (Array Value)) (vs : List Value) (p q i j : Nat) (va vo : Value) : Prop where
  oth : Oth (fun j => j = A ∨ j = B) w wr
  chA : ChanAt wr A cap ((rs.drop p).map Value.agg).toArray
  chB : ChanAt wr B cap (vs.drop q).toArray
  ra : RowV wr w.heap.size 41 36 va i (cellsOf (rs.take i))
  rb : RowV wr w.heap.size 29 1 vo j (vs.take j)
  ap : ∀ k, va.ownBlock = some k → vo.ownBlock ≠ some k
  li : p ≤ rs.length
  lj : q ≤ vs.length
  lt : A < w.heap.size ∧ B < w.heap.size ∧ A ≠ B
section
variable {w wr X X' w' : World} {A B cap i j p q s r : Nat} {rs : List (Array Value)} {vs : List Value} {va vo v' : Value}
theorem L2.drew (h : L2 w wr A B cap rs vs p q i j va vo) : L2 w wr.drew A B cap rs vs p q i j va vo :=
  ⟨h.oth.trans (Oth.pure (Below.refl _ _).drew), h.chA.of rfl, h.chB.of rfl, h.ra.kept (Nat.le_refl _) (fun _ _ => rfl), h.rb.kept (Nat.le_refl _) (fun _ _ => rfl), h.ap, h.li, h.lj, h.lt⟩
theorem L2.popA (h : L2 w wr A B cap rs vs p q i j va vo) (hp : p < rs.length) (hX : X = wr.setChan A cap ((rs.drop (p + 1)).map Value.agg).toArray false s r false) : L2 w X A B cap rs vs (p + 1) q i j va vo := by
  subst hX
  have hz := h.oth.size
  have hs : (wr.setChan A cap ((rs.drop (p + 1)).map Value.agg).toArray false s r false).heap.size = wr.heap.size := Conc.size_setChan _ _ _ _ _ _ _ _
  have hlt := h.lt
  exact ⟨h.oth.trans (Oth.chan (.inl rfl)), ⟨_, _, Conc.heap_setChan _ _ _ _ _ _ _ _ (by omega)⟩, h.chB.of (chan_other _ _ _ _ _ _ _ hlt.2.2), h.ra.kept (by rw [hs]; exact Nat.le_refl _) (fun k hk => chan_other _ _ _ _ _ _ _ (by have := (h.ra.lt hk).1; omega)), h.rb.kept (by rw [hs]; exact Nat.le_refl _) (fun k hk => chan_other _ _ _ _ _ _ _ (by have := (h.rb.lt hk).1; omega)), h.ap, hp, h.lj, h.lt⟩
theorem L2.popB (h : L2 w wr A B cap rs vs p q i j va vo) (hq : q < vs.length) (hX : X = wr.setChan B cap (vs.drop (q + 1)).toArray false s r false) : L2 w X A B cap rs vs p (q + 1) i j va vo := by
  subst hX
  have hz := h.oth.size
  have hs : (wr.setChan B cap (vs.drop (q + 1)).toArray false s r false).heap.size = wr.heap.size := Conc.size_setChan _ _ _ _ _ _ _ _
  have hlt := h.lt
  exact ⟨h.oth.trans (Oth.chan (.inr rfl)), h.chA.of (chan_other _ _ _ _ _ _ _ (fun e => hlt.2.2 e.symm)), ⟨_, _, Conc.heap_setChan _ _ _ _ _ _ _ _ (by omega)⟩, h.ra.kept (by rw [hs]; exact Nat.le_refl _) (fun k hk => chan_other _ _ _ _ _ _ _ (by have := (h.ra.lt hk).1; omega)), h.rb.kept (by rw [hs]; exact Nat.le_refl _) (fun k hk => chan_other _ _ _ _ _ _ _ (by have := (h.rb.lt hk).1; omega)), h.ap, h.li, hq, h.lt⟩
theorem oth_push {v v' : Value} (h : Oth (fun j => j = A ∨ j = B) w X) (hb : Below X.heap.size X X') (hp : Pushed w.heap.size v v' X' w') : Oth (fun j => j = A ∨ j = B) w w' :=
  ⟨by have := h.size; have := hb.size; have := hp.size; omega, fun k hk hn => (hp.below.block k hk).trans ((hb.block k (Nat.lt_of_lt_of_le hk h.size)).trans (h.keep k hk hn)), fun N h1 h2 => ((h.below N h1 h2).trans (hb.mono (Nat.le_trans h1 h.size))).trans (hp.below.mono h1)⟩
theorem L2.pushA (h : L2 w X A B cap rs vs p q i j va vo) (hb : Below X.heap.size X X') (hp : Pushed w.heap.size va v' X' w') {i' : Nat} (hr : RowV w' w.heap.size 41 36 v' i' (cellsOf (rs.take i'))) : L2 w w' A B cap rs vs p q i' j v' vo := by
  have hz := h.oth.size
  have hz2 := hb.size
  have hlt := h.lt
  have hob : ∀ k, vo.ownBlock = some k → k < X.heap.size ∧ va.ownBlock ≠ some k := fun k hk => ⟨(h.rb.lt hk).2, fun e => h.ap k e hk⟩
  exact ⟨oth_push h.oth hb hp, h.chA.of ((hp.below.block A hlt.1).trans (hb.block A (by omega))), h.chB.of ((hp.below.block B hlt.2.1).trans (hb.block B (by omega))), hr, h.rb.kept (Nat.le_trans hz2 hp.size) (fun k hk => (hp.keep k (by have := (hob k hk).1; omega) (hob k hk).2).trans (hb.block k (hob k hk).1)), fun k hk e => hp.apart k (by have := (hob k e).1; omega) (hob k e).2 hk, h.li, h.lj, h.lt⟩
theorem L2.pushB (h : L2 w X A B cap rs vs p q i j va vo) (hb : Below X.heap.size X X') (hp : Pushed w.heap.size vo v' X' w') {j' : Nat} (hr : RowV w' w.heap.size 29 1 v' j' (vs.take j')) : L2 w w' A B cap rs vs p q i j' va v' := by
  have hz := h.oth.size
  have hz2 := hb.size
  have hlt := h.lt
  have hoa : ∀ k, va.ownBlock = some k → k < X.heap.size ∧ vo.ownBlock ≠ some k := fun k hk => ⟨(h.ra.lt hk).2, fun e => h.ap k hk e⟩
  exact ⟨oth_push h.oth hb hp, h.chA.of ((hp.below.block A hlt.1).trans (hb.block A (by omega))), h.chB.of ((hp.below.block B hlt.2.1).trans (hb.block B (by omega))), h.ra.kept (Nat.le_trans hz2 hp.size) (fun k hk => (hp.keep k (by have := (hoa k hk).1; omega) (hoa k hk).2).trans (hb.block k (hoa k hk).1)), hr, fun k hk e => hp.apart k (by have := (hoa k hk).1; omega) (hoa k hk).2 e, h.li, h.lj, h.lt⟩
end
theorem drop_next {α : Type} {l : List α} {i : Nat} (h : i < l.length) : l.drop i = l[i] :: l.drop (i + 1) := List.drop_eq_getElem_cons h
def MsgsAt (w : World) (v : Value) (ms : List M) (B : Nat) (F : Nat → Prop) : Prop := ∃ rs : List (Array Value), RowAt w 36 v ms.length (cellsOf rs) ∧ (∀ j, v.ownBlock = some j → B ≤ j ∧ F j) ∧ All2 (AskF w B F) ms rs
def OutsAt (w : World) (v : Value) (ls : List (List UInt8)) (B : Nat) (F : Nat → Prop) : Prop := ∃ vs : List Value, RowAt w 1 v ls.length vs ∧ (∀ j, v.ownBlock = some j → B ≤ j ∧ F j) ∧ All2 (OutF w B F) ls vs
theorem MsgsAt.keep {w w' : World} {B B' : Nat} {F F' : Nat → Prop} {ms : List M} {v : Value} (h : MsgsAt w v ms B F) (hs : w.heap.size ≤ w'.heap.size) (hk : ∀ j, B ≤ j → j < w.heap.size → F j → w'.heap[j]? = w.heap[j]? ∧ F' j) (hB : B' ≤ B) : MsgsAt w' v ms B' F' := by
  obtain ⟨rs, h1, h2, h3⟩ := h
  exact ⟨rs, RowAt.other h1 hs (fun j hj => (hk j (h2 j hj).1 (RowAt.blk h1 hj) (h2 j hj).2).1), fun j hj => ⟨by have := (h2 j hj).1; omega, (hk j (h2 j hj).1 (RowAt.blk h1 hj) (h2 j hj).2).2⟩, h3.imp fun m r hr => hr.keep hs hk hB⟩
theorem OutsAt.keep {w w' : World} {B B' : Nat} {F F' : Nat → Prop} {ls : List (List UInt8)} {v : Value} (h : OutsAt w v ls B F) (hs : w.heap.size ≤ w'.heap.size) (hk : ∀ j, B ≤ j → j < w.heap.size → F j → w'.heap[j]? = w.heap[j]? ∧ F' j) (hB : B' ≤ B) : OutsAt w' v ls B' F' := by
  obtain ⟨rs, h1, h2, h3⟩ := h
  exact ⟨rs, RowAt.other h1 hs (fun j hj => (hk j (h2 j hj).1 (RowAt.blk h1 hj) (h2 j hj).2).1), fun j hj => ⟨by have := (h2 j hj).1; omega, (hk j (h2 j hj).1 (RowAt.blk h1 hj) (h2 j hj).2).2⟩, h3.imp fun m r hr => hr.keep hs hk hB⟩
theorem MsgsAt.nil {w : World} {B : Nat} {F : Nat → Prop} : MsgsAt w (.slice none 0 0) [] B F := ⟨[], RowAt.nil, fun j hj => (by cases hj), trivial⟩
theorem OutsAt.nil {w : World} {B : Nat} {F : Nat → Prop} : OutsAt w (.slice none 0 0) [] B F := ⟨[], RowAt.nil, fun j hj => (by cases hj), trivial⟩
end
end Go.Proofs.YtcbglcebdkpcfaaGreat

namespace Go.Proofs.YtcbglcebdkpcfaaGreat
section
open Go.RowKit
set_option maxRecDepth 100000
set_option linter.unusedVariables false

theorem fold_set : ∀ (l pre z : List Value), z.length = l.length → (l.zipIdx pre.length).foldl (fun (cs : Array Value) x => cs.setIfInBounds x.2 x.1) (pre ++ z).toArray = (pre ++ l).toArray
  | [], pre, z, h => by
    have : z = [] := List.eq_nil_of_length_eq_zero h
    subst this; rfl
  | c :: l, pre, z, h => by
    obtain ⟨z0, z', rfl⟩ : ∃ a b, z = a :: b := by
      cases z with
      | nil => simp at h
      | cons a b => exact ⟨a, b, rfl⟩
    have ih := fold_set l (pre ++ [c]) z' (by simpa using h)
    rw [List.zipIdx_cons, List.foldl_cons]
    have e : (pre ++ z0 :: z').toArray.setIfInBounds pre.length c = ((pre ++ [c]) ++ z').toArray := by
      simp
    rw [show ((c, pre.length) : Value × Nat).2 = pre.length from rfl, show ((c, pre.length) : Value × Nat).1 = c from rfl, e]
    simpa using ih
theorem infoM : (Tryz.prog.info? 41).map (fun i => (i.zero, i.size, decide (i.bytes ≤ 1000))) = some (some (.agg (zeroM.cells (.slice none 0 0) (.slice none 0 0) (.slice none 0 0))), 36, true) := by kernel_rfl
theorem elemM : ∃ b, b ≤ 1000 ∧ ElemOk Tryz.prog 25 41 36 b := by
  obtain ⟨i, hi, h⟩ := Option.map_eq_some_iff.1 infoM
  simp only [Prod.mk.injEq, decide_eq_true_eq] at h
  exact ⟨i.bytes, h.2.2, Tryz.underlying25, ⟨i, _, hi, h.1, h.2.1, rfl, rfl⟩, by decide⟩
theorem run_slice1 (w : World) (R : Array Value) (hR : R.size = 36) : (Instr.buildSlice 25 1 #[(0, .agg R)]).run Tryz.prog w = .ok (.slice (some ⟨w.heap.size, 0, none⟩) 1 1) (w.alloc (.cells R 41)) := by
  obtain ⟨i, hi, h⟩ := Option.map_eq_some_iff.1 infoM
  simp only [Prod.mk.injEq, decide_eq_true_eq] at h
  obtain ⟨h1, h2, h3⟩ := h
  have hf : ∀ Z : Array Value, Z.size = 36 → Instr.fill (fun i => some (i * 36, 36)) Z [(0, .agg R)] = some R := fun Z hZ => by
    have e := fold_set R.toList [] Z.toList (by simp [hR, hZ])
    unfold Instr.fill Instr.fill
    simp only [Nat.zero_mul, Nat.zero_add]
    rw [if_neg (by simp [Value.cells, hR, hZ])]
    simp only [Value.cells]
    simp only [List.nil_append, List.length_nil, Array.toArray_toList] at e
    show some (Array.foldl _ Z R.zipIdx 0 R.zipIdx.size) = some R
    rw [← Array.foldl_toList, Array.toList_zipIdx]
    exact congrArg some e
  have hZ := hf ((Array.range (1 * 36)).map fun x => (zeroM.cells (.slice none 0 0) (.slice none 0 0) (.slice none 0 0))[x % (zeroM.cells (.slice none 0 0) (.slice none 0 0) (.slice none 0 0)).size]!) (by simp)
  obtain ⟨z, hz⟩ : ∃ z, z = zeroM.cells (.slice none 0 0) (.slice none 0 0) (.slice none 0 0) := ⟨_, rfl⟩
  rw [← hz] at hZ h1
  clear hf hz
  unfold Instr.buildSlice
  simp [run_underlying Tryz.underlying25, sizeOf, typeInfo, hi, h2, zeroValue, h1, Value.cells, newRow] at hZ ⊢
  rw [hZ]
  simp
theorem wpList_slice1 {ops : Array Oper} {rest : List Oper} {o : Oper} {a : Act} {Q : Exit → Act → World → Prop} (w : World) (hgd : o.guard = none) (x : Operand) (ho : o.op = .buildSlice 25 1 #[(0, x)]) (R : Array Value) (hx : a.eval x = .agg R) (hR : R.size = 36)
    (h : wpList Tryz.prog ops Q rest (a.put o.dst (.slice (some ⟨w.heap.size, 0, none⟩) 1 1)) (w.alloc (.cells R 41))) : wpList Tryz.prog ops Q (o :: rest) a w :=
  wpList_plain hgd fun K hK => by
    unfold Oper.wp execOp
    simp only [ho, List.map_toArray, List.map_cons, List.map_nil, hx, Sem.run_bind, Sem.run_pure, run_slice1 w R hR, Result.andThen_ok]
    exact hK _ _ h
end
end Go.Proofs.YtcbglcebdkpcfaaGreat
