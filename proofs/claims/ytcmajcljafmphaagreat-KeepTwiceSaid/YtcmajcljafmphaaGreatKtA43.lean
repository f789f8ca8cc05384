/- Where keep.lay stands. Conditions: in the statements.
keep.apart: a tree in a row of its own. Conditions: in the statements. -/
import Derived.Test.YtcmajcljafmphaaGreatKtA42
import Derived.Test.YtcmajcljafmphaaGreatKtA35
import Derived.Test.YtcmajcljafmphaaGreatKtA08
namespace Go.Proofs.YtcmajcljafmphaaGreat
section
open Go.RowKit Go.Maps
set_option maxRecDepth 100000
set_option linter.unusedVariables false

theorem NodsAt.fr {w w' : World} {v : Value} {l : List Nod} (h : NodsAt w v l) (hk : ∀ j, v.ownBlock = some j → w'.heap[j]? = w.heap[j]?) : NodsAt w' v l := by
  obtain ⟨h0, a, c, e, h1, h2, h3, h4⟩ := h
  refine ⟨h0, a, c, e, h1, h2, h3, fun i u hu => ?_⟩
  obtain ⟨b, o, e2, hc⟩ := h4 i u hu
  exact ⟨b, o, e2, (World.cell?_of_block (hk b (by rw [e, e2]; rfl))).trans hc⟩
theorem NodsAt.lt {w : World} {v : Value} {l : List Nod} (h : NodsAt w v l) (hl : l ≠ []) : ∃ z o c, v = .slice (some ⟨z, o, none⟩) l.length c ∧ z < w.heap.size := by
  obtain ⟨h0, a, c, e, h1, h2, h3, h4⟩ := h
  have hp : 0 < (nodsL l).length := by
    have : 0 < l.length := List.length_pos_iff.2 hl
    rw [h0]; omega
  obtain ⟨b, o, e2, hc⟩ := h4 0 _ (List.getElem?_eq_getElem hp)
  exact ⟨b, o, c, by rw [e, e2], World.block_lt_of_cell? w _ hc⟩
theorem DSt.news {w w' : World} {zs : List Nat} {d g m cap : Nat} {us : List Value} {ps : List (Nat × Value)} {bv : Value} {s : DskV} (h : DSt w zs d g m cap us ps bv s) (hb : Below w.heap.size w w') (ns : List Nat) (hn : ∀ z ∈ ns, w.heap.size ≤ z ∧ z < w'.heap.size) : DSt w' (ns ++ zs) d g m cap us ps bv s := by
  have h1 := lt_of_block h.blk
  have h2 := (h.own.lt g rfl).2
  have h3 := h.map.mem
  have hf : ∀ u : Value, (∀ j, u.ownBlock = some j → j < w.heap.size) → FarB (d :: g :: m :: zs) u → FarB (d :: g :: m :: (ns ++ zs)) u := fun u hl hu j hj hm => by
    have h5 := hl j hj
    have h4 := hu j hj
    simp only [List.mem_cons, List.mem_append, not_or] at hm h4
    rcases hm with e | e | e | e | e
    · exact h4.1 e
    · exact h4.2.1 e
    · exact h4.2.2.1 e
    · have := (hn j e).1; omega
    · exact h4.2.2.2 e
  have k := h.below hb
  refine ⟨k.dg, k.dm, k.gm, fun y hy => ?_, k.blk, k.own, k.klen, k.kept, fun u hu => hf u (fun j hj => h.ults hu hj) (h.kfar u hu), k.map, k.plen, k.pend, fun x hx => hf _ (fun j hj => ?_) (h.pfar x hx), k.bools, hf _ (fun j hj => h.bools.lt hj) h.bfar⟩
  · rcases List.mem_append.1 hy with hy | hy
    · have := hn y hy; exact ⟨by omega, by omega, by omega, this.2⟩
    · exact k.far y hy
  · obtain ⟨i, hi, rfl⟩ := List.mem_iff_getElem.1 hx
    have := (h.pend i (by rw [← h.plen]; exact hi)).2
    rw [List.getD_eq_getElem?_getD, List.getElem?_eq_getElem hi] at this
    exact this.lt hj
theorem Dk.news {base : Nat} {zs : List Nat} {d : Nat} {s : DskV} {w w' : World} (h : Dk base zs d s w) (hb : Below w.heap.size w w') (ns : List Nat) (hn : ∀ z ∈ ns, w.heap.size ≤ z ∧ z < w'.heap.size) : Dk base (ns ++ zs) d s w' := by
  obtain ⟨g, m, cap, us, ps, bv, h1, h2, h3, h4⟩ := h
  exact ⟨g, m, cap, us, ps, bv, h1, h2, h3, h4.news hb ns hn⟩
theorem DSt.sub {w : World} {zs zs' : List Nat} {d g m cap : Nat} {us : List Value} {ps : List (Nat × Value)} {bv : Value} {s : DskV} (h : DSt w zs d g m cap us ps bv s) (hs : ∀ z ∈ zs', z ∈ zs) : DSt w zs' d g m cap us ps bv s := by
  have hq : ∀ j ∈ d :: g :: m :: zs', j ∈ d :: g :: m :: zs := fun j hj => by
    simp only [List.mem_cons] at hj ⊢
    rcases hj with e | e | e | e
    · exact .inl e
    · exact .inr (.inl e)
    · exact .inr (.inr (.inl e))
    · exact .inr (.inr (.inr (hs j e)))
  exact ⟨h.dg, h.dm, h.gm, fun y hy => h.far y (hs y hy), h.blk, h.own, h.klen, h.kept, fun u hu => (h.kfar u hu).sub hq, h.map, h.plen, h.pend, fun x hx => (h.pfar x hx).sub hq, h.bools, h.bfar.sub hq⟩
theorem Dk.sub {base : Nat} {zs zs' : List Nat} {d : Nat} {s : DskV} {w : World} (h : Dk base zs d s w) (hs : ∀ z ∈ zs', z ∈ zs) : Dk base zs' d s w := by
  obtain ⟨g, m, cap, us, ps, bv, h1, h2, h3, h4⟩ := h
  exact ⟨g, m, cap, us, ps, bv, h1, h2, h3, h4.sub hs⟩
def layZ (A bb B kb : Nat) (zs : List Nat) : List Nat := [A + 4, A + 3, A + 2, A + 1, A, bb, B + 2, B + 1, B] ++ (kb :: zs)
structure LayS (w : World) (base d kb : Nat) (zs : List Nat) (kc tv : Array Value) (c : List UInt8) (o cp bb B A : Nat) (av : Int) (s : DskV) (W : World) : Prop where
  dk : Dk base (layZ A bb B kb zs) d s W
  below : Below base w W
  keep : ∀ z ∈ zs, W.heap[z]? = w.heap[z]?
  hkb : W.heap[kb]? = some (.cells kc 64 (0, 0))
  hB : W.heap[B]? = some (.cells #[.pointer (some ⟨kb, 0, none⟩)] 27 (0, 0))
  hT : W.heap[B + 1]? = some (.cells tv 33 (0, 0))
  hE : W.heap[B + 2]? = some (.cells #[.int .i64 0] 24 (0, 0))
  hA : W.heap[A]? = some (.cells #[.int .i64 av] 3 (0, 0))
  hS : W.heap[A + 1]? = some (.cells #[.slice (some ⟨bb, o, none⟩) c.length cp] 53 (0, 0))
  hN : W.heap[A + 2]? = some (.cells #[.int .i64 256] 3 (0, 0))
  hb : BytesAt W (.slice (some ⟨bb, o, none⟩) c.length cp) c
  ord : base ≤ w.heap.size ∧ w.heap.size ≤ B ∧ B + 2 < bb ∧ bb < A
  old : ∀ z ∈ kb :: zs, z < w.heap.size
theorem LayS.move {w W W' : World} {base d kb o cp bb B A : Nat} {zs : List Nat} {kc tv : Array Value} {c : List UInt8} {av av' : Int} {s s' : DskV} (h : LayS w base d kb zs kc tv c o cp bb B A av s W) (hd : Dk base (layZ A bb B kb zs) d s' W') (hbl : Below base W W')
    (hk : ∀ j, j ∈ layZ A bb B kb zs → j ≠ A → j ≠ A + 3 → j ≠ A + 4 → W'.heap[j]? = W.heap[j]?) (hA : W'.heap[A]? = some (.cells #[.int .i64 av'] 3 (0, 0))) : LayS w base d kb zs kc tv c o cp bb B A av' s' W' := by
  obtain ⟨o0, o1, o2, o3⟩ := h.ord
  have hold : ∀ z ∈ kb :: zs, W'.heap[z]? = W.heap[z]? := fun z hz => by
    have := h.old z hz
    exact hk z (List.mem_append_right _ hz) (by omega) (by omega) (by omega)
  refine ⟨hd, h.below.trans hbl, fun z hz => (hold z (List.mem_cons_of_mem _ hz)).trans (h.keep z hz), (hold kb List.mem_cons_self).trans h.hkb, ?_, ?_, ?_, hA, ?_, ?_, ?_, h.ord, h.old⟩
  · exact (hk B (by simp [layZ]) (by omega) (by omega) (by omega)).trans h.hB
  · exact (hk (B + 1) (by simp [layZ]) (by omega) (by omega) (by omega)).trans h.hT
  · exact (hk (B + 2) (by simp [layZ]) (by omega) (by omega) (by omega)).trans h.hE
  · exact (hk (A + 1) (by simp [layZ]) (by omega) (by omega) (by omega)).trans h.hS
  · exact (hk (A + 2) (by simp [layZ]) (by omega) (by omega) (by omega)).trans h.hN
  · refine RowAt.other h.hb hbl.size (fun j hj => ?_)
    cases hj
    exact hk bb (by simp [layZ]) (by omega) (by omega) (by omega)
theorem LayS.step {w W W' : World} {base d kb o cp bb B A : Nat} {zs : List Nat} {kc tv : Array Value} {c : List UInt8} {av : Int} {s s' : DskV} (h : LayS w base d kb zs kc tv c o cp bb B A av s W) (hd : Dk2 base (layZ A bb B kb zs) d s' W W') : LayS w base d kb zs kc tv c o cp bb B A av s' W' :=
  h.move hd.1 hd.2.below (fun j hj _ _ _ => hd.2.keep j hj) ((hd.2.keep A (by simp [layZ])).trans h.hA)
theorem LayS.pure {w W W' : World} {base d kb o cp bb B A : Nat} {zs : List Nat} {kc tv : Array Value} {c : List UInt8} {av : Int} {s : DskV} (h : LayS w base d kb zs kc tv c o cp bb B A av s W) (hb : Below W.heap.size W W') : LayS w base d kb zs kc tv c o cp bb B A av s W' :=
  h.step ⟨h.dk.pure hb, h.dk.fr hb⟩
theorem LayS.put {w W : World} {base d kb o cp bb B A : Nat} {zs : List Nat} {kc tv : Array Value} {c : List UInt8} {av : Int} {s : DskV} (h : LayS w base d kb zs kc tv c o cp bb B A av s W) (av' : Int) : LayS w base d kb zs kc tv c o cp bb B A av' s (W.setCell ⟨A, 0, none⟩ (.int .i64 av')) := by
  obtain ⟨o0, o1, o2, o3⟩ := h.ord
  exact h.move (h.dk.others (by simp [World.setCell]) (fun j _ hn => block_set_other (fun e => hn (by rw [e]; simp [layZ])))) ((Below.refl base W).setCell (p := ⟨A, 0, none⟩) (by show base ≤ A; omega) _) (fun j _ hne _ _ => block_set_other hne) (block_set h.hA 0 _)
theorem LayS.rcd {w W : World} {base d kb o cp bb B A : Nat} {zs : List Nat} {kc tv : Array Value} {c : List UInt8} {av : Int} {s : DskV} (h : LayS w base d kb zs kc tv c o cp bb B A av s W) (r : Nat) (hr : r = A + 3 ∨ r = A + 4) (ob : Obj) : LayS w base d kb zs kc tv c o cp bb B A av s (W.putObj r ob) := by
  obtain ⟨o0, o1, o2, o3⟩ := h.ord
  have hk : ∀ j, j ≠ r → (W.putObj r ob).heap[j]? = W.heap[j]? := fun j hj => World.putObj_heap_other hj
  have hm : r ∈ layZ A bb B kb zs := by rcases hr with rfl | rfl <;> simp [layZ]
  exact h.move (h.dk.others (by simp) (fun j _ hn => hk j (fun e => hn (e ▸ hm)))) ⟨rfl, rfl, rfl, by simp, fun j hj => hk j (by omega)⟩ (fun j _ _ h3 h4 => hk j (by omega)) ((hk A (by omega)).trans h.hA)
theorem LayS.start {w w1 : World} {base d kb o cp bb : Nat} {zs : List Nat} {kc : Array Value} {x : Nat} {tvv : Value} {c : List UInt8} {av : Int} {s : DskV} {o1 o2 : Obj} (h : Dk base (kb :: zs) d s w) (hkb : w.heap[kb]? = some (.cells kc 64 (0, 0)))
    (hb : Below (((w.alloc (.cells #[.pointer (some ⟨kb, 0, none⟩)] 27)).alloc (.cells #[.int .u64 (x : Int), tvv] 33)).alloc (.cells #[.int .i64 0] 24)).heap.size (((w.alloc (.cells #[.pointer (some ⟨kb, 0, none⟩)] 27)).alloc (.cells #[.int .u64 (x : Int), tvv] 33)).alloc (.cells #[.int .i64 0] 24)) w1)
    (hby : BytesAt w1 (.slice (some ⟨bb, o, none⟩) c.length cp) c) (hbb : w.heap.size + 3 ≤ bb) (hbb2 : bb < w1.heap.size) :
    LayS w base d kb zs kc #[.int .u64 (x : Int), tvv] c o cp bb w.heap.size w1.heap.size av s (((((w1.alloc (.cells #[.int .i64 av] 3)).alloc (.cells #[.slice (some ⟨bb, o, none⟩) c.length cp] 53)).alloc (.cells #[.int .i64 256] 3)).alloc o1).alloc o2) := by
  have hA : ∀ (W : World) (o : Obj), Below W.heap.size W (W.alloc o) := fun W o => (Below.refl _ _).alloc (Nat.le_refl _) _
  obtain ⟨v1, h1⟩ : ∃ W, W = w.alloc (.cells #[.pointer (some ⟨kb, 0, none⟩)] 27) := ⟨_, rfl⟩
  obtain ⟨v2, h2⟩ : ∃ W, W = v1.alloc (.cells #[.int .u64 (x : Int), tvv] 33) := ⟨_, rfl⟩
  obtain ⟨v3, h3⟩ : ∃ W, W = v2.alloc (.cells #[.int .i64 0] 24) := ⟨_, rfl⟩
  obtain ⟨v4, h4⟩ : ∃ W, W = w1.alloc (.cells #[.int .i64 av] 3) := ⟨_, rfl⟩
  obtain ⟨v5, h5⟩ : ∃ W, W = v4.alloc (.cells #[.slice (some ⟨bb, o, none⟩) c.length cp] 53) := ⟨_, rfl⟩
  obtain ⟨v6, h6⟩ : ∃ W, W = v5.alloc (.cells #[.int .i64 256] 3) := ⟨_, rfl⟩
  obtain ⟨v7, h7⟩ : ∃ W, W = v6.alloc o1 := ⟨_, rfl⟩
  rw [← h1, ← h2, ← h3] at hb
  rw [← h4, ← h5, ← h6, ← h7]
  have z1 : v1.heap.size = w.heap.size + 1 := by rw [h1]; simp
  have z2 : v2.heap.size = w.heap.size + 2 := by rw [h2]; simp [z1]
  have z3 : v3.heap.size = w.heap.size + 3 := by rw [h3]; simp [z2]
  have z4 : v4.heap.size = w1.heap.size + 1 := by rw [h4]; simp
  have z5 : v5.heap.size = w1.heap.size + 2 := by rw [h5]; simp [z4]
  have z6 : v6.heap.size = w1.heap.size + 3 := by rw [h6]; simp [z5]
  have z7 : v7.heap.size = w1.heap.size + 4 := by rw [h7]; simp [z6]
  have b1 : Below w.heap.size w v1 := by rw [h1]; exact hA _ _
  have b2 : Below v1.heap.size v1 v2 := by rw [h2]; exact hA _ _
  have b3 : Below v2.heap.size v2 v3 := by rw [h3]; exact hA _ _
  have b4 : Below w1.heap.size w1 v4 := by rw [h4]; exact hA _ _
  have b5 : Below v4.heap.size v4 v5 := by rw [h5]; exact hA _ _
  have b6 : Below v5.heap.size v5 v6 := by rw [h6]; exact hA _ _
  have b7 : Below v6.heap.size v6 v7 := by rw [h7]; exact hA _ _
  have c7 := sn b7 (hA v7 o2)
  have c6 := sn b6 c7
  have c5 := sn b5 c6
  have c4 := sn b4 c5
  have c3 := sn hb c4
  have c2 := sn b3 c3
  have c1 := sn b2 c2
  have c0 := sn b1 c1
  have hbd := h.base
  have n1 : v1.heap[w.heap.size]? = some (.cells #[.pointer (some ⟨kb, 0, none⟩)] 27 (0, 0)) := by rw [h1]; exact heap_alloc_new _ _
  have n2 : v2.heap[w.heap.size + 1]? = some (.cells #[.int .u64 (x : Int), tvv] 33 (0, 0)) := by rw [h2, ← z1]; exact heap_alloc_new _ _
  have n3 : v3.heap[w.heap.size + 2]? = some (.cells #[.int .i64 0] 24 (0, 0)) := by rw [h3, ← z2]; exact heap_alloc_new _ _
  have n4 : v4.heap[w1.heap.size]? = some (.cells #[.int .i64 av] 3 (0, 0)) := by rw [h4]; exact heap_alloc_new _ _
  have n5 : v5.heap[w1.heap.size + 1]? = some (.cells #[.slice (some ⟨bb, o, none⟩) c.length cp] 53 (0, 0)) := by rw [h5, ← z4]; exact heap_alloc_new _ _
  have n6 : v6.heap[w1.heap.size + 2]? = some (.cells #[.int .i64 256] 3 (0, 0)) := by rw [h6, ← z5]; exact heap_alloc_new _ _
  have hzl := h.zlt
  have hsz := hb.size
  refine ⟨h.news c0 [w1.heap.size + 4, w1.heap.size + 3, w1.heap.size + 2, w1.heap.size + 1, w1.heap.size, bb, w.heap.size + 2, w.heap.size + 1, w.heap.size] (fun z hz => ?_), c0.mono (by omega), fun z hz => c0.block z (hzl z (List.mem_cons_of_mem _ hz)), (c0.block kb (hzl kb List.mem_cons_self)).trans hkb, (c1.block _ (by omega)).trans n1, (c2.block _ (by omega)).trans n2, (c3.block _ (by omega)).trans n3, (c5.block _ (by omega)).trans n4, (c6.block _ (by omega)).trans n5, (c7.block _ (by omega)).trans n6, RowAt.below hby c4, ⟨by omega, Nat.le_refl _, by omega, hbb2⟩, hzl⟩
  simp only [List.mem_cons, List.not_mem_nil, or_false, World.size_alloc] at hz ⊢
  omega
theorem kcaught_panicking (k e : Nat) (y : Value) (w : World) (hk : w.heap[k]? = some (.cells #[y] 24 (0, 0))) :
    CallsD Tryz.prog 53 #[.pointer (some ⟨k, 0, none⟩)] (.panicking (errChain e)) w fun en u' w' =>
      en = .returned (.tuple #[]) ∧ u' = .panicking (errChainR e) ∧ w' = w.setCell ⟨k, 0, none⟩ (.int .i64 (e : Int)) := by
  have hta := dassert_errno (e : Int)
  have c0 : w.cell? ⟨k, 0, none⟩ = some y := block_cell hk 0
  have f0 : w.frozen? ⟨k, 0, none⟩ = false := block_free hk 0
  clear hk
  refine callsD_of_wpS Tryz.func53 rfl fun c₀ cs hu => ?_
  apply wpS_seq
  apply wpS_region
  simp [wpOpsS, go_sem, Tryz.ntmps53, recoverD, hu, errChain, Exit.thenS, Array.replicate_succ]
  apply wpS_body
  go_wp2
  go_end0
  exact ⟨rfl, rfl, rfl⟩
theorem kcaught_idle (k : Nat) (w : World) :
    CallsD Tryz.prog 53 #[.pointer (some ⟨k, 0, none⟩)] .returning w fun en u' w' =>
      en = .returned (.tuple #[]) ∧ u' = .returning ∧ w' = w := by
  refine callsD_of_wpS Tryz.func53 rfl fun c₀ cs hu => ?_
  apply wpS_seq
  apply wpS_region
  simp [wpOpsS, go_sem, Tryz.ntmps53, recoverD, hu, Exit.thenS, Array.replicate_succ]
  rw [show c₀ = { c₀ with mode := .returning } from by cases c₀; simp_all]
  apply wpS_body
  go_wp2
  go_end0
  exact ⟨rfl, rfl⟩
theorem kend_bad {fn : Func} {tmps : Array Value} {R : Ending → World → Prop} {k E : Nat} {y : Value} {w : World} {fv : Fn} {cap : Array Value} (hk : w.heap[k]? = some (.cells #[y] 24 (0, 0)))
    (hi : (invoke (.fn fv cap) #[.pointer (some ⟨k, 0, none⟩)]).run Tryz.prog w = .ok (.enter 53 #[.pointer (some ⟨k, 0, none⟩)]) w)
    (hR : ∃ v, (results fn tmps).run Tryz.prog (w.setCell ⟨k, 0, none⟩ (.int .i64 (E : Int))) = .ok v (w.setCell ⟨k, 0, none⟩ (.int .i64 (E : Int))) ∧ R (.returned v) (w.setCell ⟨k, 0, none⟩ (.int .i64 (E : Int)))) :
    Leaves Tryz.prog fn tmps R [{ target := .fn fv cap, args := #[.pointer (some ⟨k, 0, none⟩)] }] (.panicking (errChain E)) w := by
  refine leaves_cons (by simp) hi ?_
  refine (kcaught_panicking k E y w hk).mono ?_
  rintro e u' w'' ⟨rfl, rfl, rfl⟩
  simp only [settle, errChainR]
  exact hR
theorem kend_ok {fn : Func} {tmps : Array Value} {R : Ending → World → Prop} {k : Nat} {w : World} {fv : Fn} {cap : Array Value}
    (hi : (invoke (.fn fv cap) #[.pointer (some ⟨k, 0, none⟩)]).run Tryz.prog w = .ok (.enter 53 #[.pointer (some ⟨k, 0, none⟩)]) w)
    (hR : ∃ v, (results fn tmps).run Tryz.prog w = .ok v w ∧ R (.returned v) w) :
    Leaves Tryz.prog fn tmps R [{ target := .fn fv cap, args := #[.pointer (some ⟨k, 0, none⟩)] }] .returning w := by
  refine leaves_cons (by simp) hi ?_
  refine (kcaught_idle k w).mono ?_
  rintro e u' w'' ⟨rfl, rfl, rfl⟩
  simp only [settle]
  exact hR
theorem LayS.err {w W : World} {base d kb o cp bb B A : Nat} {zs : List Nat} {kc tv : Array Value} {c : List UInt8} {av : Int} {s : DskV} (h : LayS w base d kb zs kc tv c o cp bb B A av s W) (u : Value) :
    Dk base (kb :: zs) d s (W.setCell ⟨B + 2, 0, none⟩ u) ∧ (W.setCell ⟨B + 2, 0, none⟩ u).heap[kb]? = some (.cells kc 64 (0, 0)) ∧ Fr base zs w (W.setCell ⟨B + 2, 0, none⟩ u) := by
  obtain ⟨o0, o1, o2, o3⟩ := h.ord
  have hne : ∀ z ∈ kb :: zs, z ≠ B + 2 := fun z hz => by have := h.old z hz; omega
  refine ⟨(h.dk.others (w' := W.setCell ⟨B + 2, 0, none⟩ u) (by simp [World.setCell]) (fun j _ hn => block_set_other (fun e => hn (by rw [e]; simp [layZ])))).sub (fun z hz => List.mem_append_right _ hz), (block_set_other (hne kb List.mem_cons_self)).trans h.hkb, ⟨h.below.setCell (p := ⟨B + 2, 0, none⟩) (by show base ≤ B + 2; omega) u, fun z hz => (block_set_other (hne z (List.mem_cons_of_mem _ hz))).trans (h.keep z hz)⟩⟩
theorem LayS.fin {w W w7 w9 : World} {base d kb o cp bb B A : Nat} {zs : List Nat} {kc tv : Array Value} {c : List UInt8} {av : Int} {s : DskV} (h : LayS w base d kb zs kc tv c o cp bb B A av s W) (hb : Below W.heap.size W w7) (z o2 cp2 : Nat) (L : List Nod) (hL : L ≠ []) (hz : W.heap.size ≤ z) (hn : NodsAt w7 (.slice (some ⟨z, o2, none⟩) L.length cp2) L)
    (hbel : Below base w7 w9) (hkz : kb ∉ zs) (hk : ∀ j, j ≠ kb → j ≠ B + 2 → j ≠ A + 3 → w9.heap[j]? = w7.heap[j]?) :
    Dk base (z :: kb :: zs) d s w9 ∧ NodsAt w9 (.slice (some ⟨z, o2, none⟩) L.length cp2) L ∧ Fr base zs w w9 := by
  obtain ⟨o0, o1, o2', o3⟩ := h.ord
  have hz7 : z < w7.heap.size := by obtain ⟨z', o', c', e, hlt⟩ := hn.lt hL; cases e; exact hlt
  have hzz : ∀ j ∈ layZ A bb B kb zs, j < W.heap.size := h.dk.zlt
  have hA3 := hzz (A + 3) (by simp [layZ])
  have hB2 := hzz (B + 2) (by simp [layZ])
  have hkb := hzz kb (by simp [layZ])
  have hdk := h.dk.new hb hz hz7
  refine ⟨(hdk.others hbel.size (fun j _ hn => hk j (fun e => hn ?_) (fun e => hn ?_) (fun e => hn ?_))).sub (fun y hy => ?_), hn.fr (fun j hj => ?_), ⟨(h.below.trans (hb.mono (by have := h.below.size; omega))).trans hbel, fun y hy => ?_⟩⟩
  · rw [e]; simp [layZ]
  · rw [e]; simp [layZ]
  · rw [e]; simp [layZ]
  · rcases List.mem_cons.1 hy with rfl | hy
    · exact List.mem_cons_self
    · exact List.mem_cons_of_mem _ (List.mem_append_right _ hy)
  · cases hj
    exact hk z (by omega) (by omega) (by omega)
  · have h1 := h.old y (List.mem_cons_of_mem _ hy)
    have h2 := hzz y (List.mem_append_right _ (List.mem_cons_of_mem _ hy))
    by_cases e : y = kb
    · exact absurd (e ▸ hy) hkz
    · exact (hk y e (by omega) (by omega)).trans ((hb.block y h2).trans (h.keep y hy))
end
end Go.Proofs.YtcmajcljafmphaaGreat

namespace Go.Proofs.YtcmajcljafmphaaGreat
section
open Go.RowKit Go.Maps
set_option maxRecDepth 100000
set_option linter.unusedVariables false

set_option maxHeartbeats 800000 in
theorem kapart_any (v : Value) (x : Nat) (l : List Nod) (w : World) (hv : NodsAt w v l) (hl : l.length ≤ 900) : Calls Tryz.prog 34 #[.agg #[.int .u64 (x : Int), v]] w (SetPost w x (dropL l 0)) := by
  obtain ⟨a, c, rfl, g1, g2⟩ := hv.form
  obtain ⟨W, hW⟩ : ∃ W, W = (w.alloc (.cells #[.int .u64 (x : Int), .slice a l.length c] 33)).alloc (.cells #[.int .u64 0, .slice none 0 0] 33) := ⟨_, rfl⟩
  have hb0 : Below w.heap.size w W := by rw [hW]; exact ((Below.refl _ _).alloc (Nat.le_refl _) _).alloc (by simp) _
  have hX0 : W.heap[w.heap.size]? = some (.cells #[.int .u64 (x : Int), .slice a l.length c] 33 (0, 0)) := by rw [hW]; exact (Below.heap_alloc _ _ _ (by simp)).trans (heap_alloc_new _ _)
  have hY0 : W.heap[w.heap.size + 1]? = some (.cells #[.int .u64 0, .slice none 0 0] 33 (0, 0)) := by rw [hW]; exact heap2 _ _ _
  have hdr := hid (ndrop_any (.slice a l.length c) x l 0 W (hv.below hb0) hl)
  have e0 := block_cell hX0 0
  have e1 := block_cell hX0 1
  have hlt := lt_of_block hY0
  replace hY0 := hid hY0
  replace hb0 := hid hb0
  clear hv hX0
  go_enter Tryz.func34, Tryz.ntmps34
  go_wp2_with (first
    | (rw [← hW]; replace hW := hid hW)
    | (go_at_call 68; refine hdr.out.mono ?_; rintro e w2 ⟨v2, rfl, hn2, hf2, hb2⟩; obtain ⟨a2, c2, rfl, _, _⟩ := hn2.form; have hY2 := (hb2.block _ hlt).trans hY0.out; have c0 := block_cell hY2 0; have c1 := block_cell hY2 1; have f0 := block_free hY2 0; have f1 := block_free hY2 1; replace hY2 := hid hY2; replace hn2 := hid hn2; replace hb2 := hid hb2; replace hf2 := hid hf2))
  have hz := hid (block_set (block_set hY2.out 0 (.int .u64 (x : Int))) 1 (.slice a2 (dropL l 0).length c2))
  have hB := hid (((hb0.out.trans (hb2.out.mono hb0.out.size)).setCell (p := ⟨w.heap.size + 1, 0, none⟩) (by show w.heap.size ≤ w.heap.size + 1; omega) (.int .u64 (x : Int))).setCell (p := ⟨w.heap.size + 1, 1, none⟩) (by show w.heap.size ≤ w.heap.size + 1; omega) (.slice a2 (dropL l 0).length c2))
  have hne : ∀ j, (Value.slice a2 (dropL l 0).length c2).ownBlock = some j → j ≠ w.heap.size + 1 := fun j hj => by have := hf2.out j hj; omega
  refine bodyPost_ret (results_cell_row rfl _ _ (w.heap.size + 1) _ _ _ _ rfl hz.out Tryz.underlying33 rfl (by kernel_rfl)) rfl ?_
  exact ⟨_, rfl, hn2.out.fr (fun j hj => (block_set_other (hne j hj)).trans (block_set_other (hne j hj))), fun k hk => by have := hf2.out k hk; have := hb0.out.size; omega, hB.out⟩
set_option maxHeartbeats 800000 in
theorem ktree_any (kb d x : Nat) (v : Value) (sec down : Bool) (l : List Nod) (w : World) (hk : w.heap[kb]? = some (.cells #[.pointer (some ⟨d, 0, none⟩), .int .u64 (x : Int), v, .bool sec, .bool down] 64 (0, 0))) (hv : NodsAt w v l) (hl : l.length ≤ 900) :
    Calls Tryz.prog 12 #[.pointer (some ⟨kb, 0, none⟩)] w (SetPost w x (dropL l 0)) := by
  obtain ⟨a, c, rfl, g1, g2⟩ := hv.form
  obtain ⟨W, hW⟩ : ∃ W, W = w.alloc (.cells #[.int .u64 0, .slice none 0 0] 33) := ⟨_, rfl⟩
  have hb0 : Below w.heap.size w W := by rw [hW]; exact (Below.refl _ _).alloc (Nat.le_refl _) _
  have hY0 : W.heap[w.heap.size]? = some (.cells #[.int .u64 0, .slice none 0 0] 33 (0, 0)) := by rw [hW]; exact heap_alloc_new _ _
  have hK0 := (hb0.block kb (lt_of_block hk)).trans hk
  have hap := hid (kapart_any (.slice a l.length c) x l W (hv.below hb0) hl)
  have e0 := block_cell hK0 1
  have e1 := block_cell hK0 2
  have hlt := lt_of_block hY0
  replace hY0 := hid hY0
  replace hb0 := hid hb0
  clear hv hK0 hk
  go_enter Tryz.func12, Tryz.ntmps12
  go_wp2_with (first
    | (rw [← hW]; replace hW := hid hW)
    | (go_at_call 34; refine hap.out.mono ?_; rintro e w2 ⟨v2, rfl, hn2, hf2, hb2⟩; obtain ⟨a2, c2, rfl, _, _⟩ := hn2.form; have hY2 := (hb2.block _ hlt).trans hY0.out; have c0 := block_cell hY2 0; have c1 := block_cell hY2 1; have f0 := block_free hY2 0; have f1 := block_free hY2 1; replace hY2 := hid hY2; replace hn2 := hid hn2; replace hb2 := hid hb2; replace hf2 := hid hf2))
  have hz := hid (block_set (block_set hY2.out 0 (.int .u64 (x : Int))) 1 (.slice a2 (dropL l 0).length c2))
  have hB := hid (((hb0.out.trans (hb2.out.mono hb0.out.size)).setCell (p := ⟨w.heap.size, 0, none⟩) (Nat.le_refl _) (.int .u64 (x : Int))).setCell (p := ⟨w.heap.size, 1, none⟩) (Nat.le_refl _) (.slice a2 (dropL l 0).length c2))
  have hne : ∀ j, (Value.slice a2 (dropL l 0).length c2).ownBlock = some j → j ≠ w.heap.size := fun j hj => by have := hf2.out j hj; omega
  refine bodyPost_ret (results_cell_row rfl _ _ w.heap.size _ _ _ _ rfl hz.out Tryz.underlying33 rfl (by kernel_rfl)) rfl ?_
  exact ⟨_, rfl, hn2.out.fr (fun j hj => (block_set_other (hne j hj)).trans (block_set_other (hne j hj))), fun k hk => by have := hf2.out k hk; have := hb0.out.size; omega, hB.out⟩
theorem kset {w : World} {kb d x0 x : Nat} {v0 v : Value} {b b' down : Bool} (h : w.heap[kb]? = some (.cells #[.pointer (some ⟨d, 0, none⟩), .int .u64 (x0 : Int), v0, .bool b, .bool down] 64 (0, 0))) :
    (((w.setCell ⟨kb, 1, none⟩ (.int .u64 (x : Int))).setCell ⟨kb, 2, none⟩ v).setCell ⟨kb, 3, none⟩ (.bool b')).heap[kb]? = some (.cells #[.pointer (some ⟨d, 0, none⟩), .int .u64 (x : Int), v, .bool b', .bool down] 64 (0, 0)) := by
  have := block_set (block_set (block_set h 1 (.int .u64 (x : Int))) 2 v) 3 (.bool b')
  simpa using this
theorem below_put {B : Nat} {a w : World} (h : Below B a w) {r : Nat} (hr : B ≤ r) (o : Obj) : Below B a (w.putObj r o) :=
  ⟨h.os, h.tape, h.output, by simpa using h.size, fun k hk => (World.putObj_heap_other (by omega)).trans (h.block k hk)⟩
theorem LayS.done {w W w7 : World} {base d kb o cp bb B A x0 x : Nat} {zs : List Nat} {v0 : Value} {sec b' down : Bool} {tv : Array Value} {c : List UInt8} {av : Int} {s : DskV} (h : LayS w base d kb zs #[.pointer (some ⟨d, 0, none⟩), .int .u64 (x0 : Int), v0, .bool sec, .bool down] tv c o cp bb B A av s W) (hb : Below W.heap.size W w7) (z o2 cp2 : Nat) (L : List Nod) (hL : L ≠ []) (hz : W.heap.size ≤ z) (hn : NodsAt w7 (.slice (some ⟨z, o2, none⟩) L.length cp2) L) (hkz : kb ∉ zs) (hkb : base ≤ kb)
    (hD : W.heap[A + 3]? = some (.deferred (some []))) :
    ∃ w8, w8 = ((w7.setCell ⟨kb, 1, none⟩ (.int .u64 (x : Int))).setCell ⟨kb, 2, none⟩ (.slice (some ⟨z, o2, none⟩) L.length cp2)).setCell ⟨kb, 3, none⟩ (.bool b') ∧ w8.heap[B + 2]? = some (.cells #[.int .i64 0] 24 (0, 0)) ∧ (w8.setCell ⟨B + 2, 0, none⟩ (.int .i64 0)).heap[A + 3]? = some (.deferred (some [])) ∧
      ∀ w9, w9 = (w8.setCell ⟨B + 2, 0, none⟩ (.int .i64 0)).putObj (A + 3) (.deferred none) → w9.cell? ⟨B + 2, 0, none⟩ = some (.int .i64 0) ∧ Dk base (z :: kb :: zs) d s w9 ∧ w9.heap[kb]? = some (.cells #[.pointer (some ⟨d, 0, none⟩), .int .u64 (x : Int), .slice (some ⟨z, o2, none⟩) L.length cp2, .bool b', .bool down] 64 (0, 0)) ∧ NodsAt w9 (.slice (some ⟨z, o2, none⟩) L.length cp2) L ∧ Fr base zs w w9 := by
  obtain ⟨o0, o1, o2', o3⟩ := h.ord
  have hkw := h.old kb List.mem_cons_self
  have hzz : ∀ j ∈ layZ A bb B kb zs, j < W.heap.size := h.dk.zlt
  have hA3 := hzz (A + 3) (by simp [layZ])
  have hB2 := hzz (B + 2) (by simp [layZ])
  have h7 := h.pure hb
  obtain ⟨w8, h8⟩ : ∃ w8, w8 = ((w7.setCell ⟨kb, 1, none⟩ (.int .u64 (x : Int))).setCell ⟨kb, 2, none⟩ (.slice (some ⟨z, o2, none⟩) L.length cp2)).setCell ⟨kb, 3, none⟩ (.bool b') := ⟨_, rfl⟩
  have k8 : ∀ j, j ≠ kb → w8.heap[j]? = w7.heap[j]? := fun j hj => by rw [h8]; exact (block_set_other hj).trans ((block_set_other hj).trans (block_set_other hj))
  have hK8 := kset (x := x) (v := .slice (some ⟨z, o2, none⟩) L.length cp2) (b' := b') h7.hkb
  rw [← h8] at hK8
  have hE8 := (k8 (B + 2) (by omega)).trans h7.hE
  have b8 : Below base w7 w8 := by rw [h8]; exact (((Below.refl base w7).setCell (p := ⟨kb, 1, none⟩) hkb _).setCell (p := ⟨kb, 2, none⟩) hkb _).setCell (p := ⟨kb, 3, none⟩) hkb _
  refine ⟨w8, h8, hE8, (block_set_other (by show A + 3 ≠ B + 2; omega)).trans ((k8 _ (by omega)).trans ((hb.block _ hA3).trans hD)), fun w9 h9 => ?_⟩
  have k9 : ∀ j, j ≠ B + 2 → j ≠ A + 3 → w9.heap[j]? = w8.heap[j]? := fun j h1 h2 => by rw [h9]; exact (World.putObj_heap_other h2).trans (block_set_other h1)
  have hE9 := (World.putObj_heap_other (o := .deferred none) (show B + 2 ≠ A + 3 by omega)).trans (block_set hE8 0 (.int .i64 0))
  rw [← h9] at hE9
  have b9 : Below base w7 w9 := by rw [h9]; exact below_put (b8.setCell (p := ⟨B + 2, 0, none⟩) (by show base ≤ B + 2; omega) _) (by omega) _
  obtain ⟨f1, f2, f3⟩ := h.fin hb z o2 cp2 L hL hz hn b9 hkz (fun j h1 h2 h3 => (k9 j h2 h3).trans (k8 j h1))
  exact ⟨block_cell hE9 0, f1, (k9 kb (by omega) (by omega)).trans hK8, f2, f3⟩
end
end Go.Proofs.YtcmajcljafmphaaGreat
