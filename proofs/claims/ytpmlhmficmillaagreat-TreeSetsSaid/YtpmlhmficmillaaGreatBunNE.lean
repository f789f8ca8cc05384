/- A new tree; a node put behind the others; Set, where the node is there or stands behind all. Conditions: numbers in their types, the list sorted.
Set of a tree, where the node is there or stands behind all others. Conditions: numbers in their types, the list sorted. -/
import Derived.Test.YtpmlhmficmillaaGreatOwn3Z
import Derived.Deep.RegionHeld3
import Derived.Test.YtpmlhmficmillaaGreatBunR
import Derived.Deep.DeepCutAuto
namespace Go.Proofs.YtpmlhmficmillaaGreat
section
open Go.RowKit
set_option maxRecDepth 100000
set_option linter.unusedVariables false

theorem nclip_eq (a : Option Addr) (n c : Nat) (w : World) (h1 : n ≤ c) (h2 : c ≤ maxLen) :
    Calls Tryz.prog 34 #[.slice a n c] w fun e w' => e = .returned (.slice a n n) ∧ w' = w := by
  unfold maxLen at h2
  go_enter Tryz.func34, Tryz.ntmps34
  go_wp2_with fail
  go_ret
  exact ⟨rfl, rfl⟩
def rootN (uid : ByteArray) (now : Nat) : Nod := ⟨1, 0, 2147484157, now, now, slashS, uid, uid, uid, 1, false, ⟨#[]⟩⟩
theorem NodsAt.block {w : World} {g : Nat} {l : List Nod} {t : TypeId} {fr : Nat × Nat} (h : w.heap[g]? = some (.cells (nodsL l).toArray t fr)) (hl : l.length ≤ maxLen) : NodsAt w (.slice (some ⟨g, 0, none⟩) l.length l.length) l := by
  have := (RowAt.of_block (k := 12) (n := l.length) h (by simp [nodsL_length]) hl).weak
  unfold NodsAt
  simpa using this
set_option maxHeartbeats 1600000 in
theorem new_any (uid : ByteArray) (now : Nat) (w : World) :
    Calls Tryz.prog 25 #[.string uid, .int .u32 (now : Int)] w fun e w' => ∃ v', e = .returned (.agg #[.int .u64 2, v']) ∧ NodsAt w' v' [rootN uid now] ∧ Below w.heap.size w w' := by
  go_enter Tryz.func25, Tryz.ntmps25
  go_wp2_with fail
  have hB : Below w.heap.size w ((w.alloc (.cells #[.int .u64 2, .slice (some ⟨w.heap.size + 1, 0, none⟩) 1 1] 25)).alloc (.cells (rootN uid now).cells 28)) := ((Below.refl w.heap.size w).alloc (Nat.le_refl _) _).alloc (by simp) _
  refine bodyPost_ret (results_cell_row rfl _ _ w.heap.size _ #[.int .u64 2, .slice (some ⟨w.heap.size + 1, 0, none⟩) 1 1] _ _ rfl (by rw [heap_alloc_old _ _ (by simp), heap_alloc_new]) Tryz.underlying25 rfl (by kernel_rfl)) rfl ?_
  exact ⟨_, rfl, NodsAt.block (l := [rootN uid now]) (heap2 _ _ (.cells (rootN uid now).cells 28)) (by unfold maxLen; simp), hB⟩

set_option maxHeartbeats 1600000 in
theorem insert_end (v : Value) (l : List Nod) (x : Nod) (g base : Nat) (w : World) (hv : w.ownsRow base 28 12 v l.length (nodsL l)) (hg : w.heap[g]? = some (.cells x.cells 28 (0, 0))) (hl : l.length ≤ 1000) (hb : base ≤ w.heap.size) :
    Calls Tryz.prog 33 #[v, .int .i64 (l.length : Int), .slice (some ⟨g, 0, none⟩) 1 1] w fun e w' => ∃ v', e = .returned v' ∧ w'.ownsRow base 28 12 v' (l ++ [x]).length (nodsL (l ++ [x])) ∧ w.grownBy w' v.ownBlock := by
  obtain ⟨a, c, rfl, g1, g2⟩ := (NodsAt.of_own hv).form
  unfold maxLen at g2
  have hx : Hid (NodsAt w (.slice (some ⟨g, 0, none⟩) 1 1) [x]) := hid (by
    have hg' : w.heap[g]? = some (.cells (nodsL [x]).toArray 28 (0, 0)) := hg
    exact NodsAt.block (l := [x]) hg' (by unfold maxLen; simp))
  have k1 : ((l.length : Int) == (l.length : Int)) = true := by simp
  replace hv := hid hv
  clear hg
  by_cases hc : c = l.length
  · subst hc
    go_enter Tryz.func33, Tryz.ntmps33
    go_wp2_with (at_builtin; refine wpList_append_weak elemN _ rfl (.tmp 23) (.tmp 24) rfl base _ l.length (nodsL l) rfl hv.out _ 1 (nodsL [x]) rfl hx.out (nodsL_one _) (by unfold maxLen; omega) (by omega) hb ?_)
    intro a6 c6 w6 h6 g6
    go_wp2_with fail
    go_ret
    exact ⟨_, rfl, by rw [nodsL_append, List.length_append]; exact h6, g6⟩
  · go_enter Tryz.func33, Tryz.ntmps33
    go_wp2_with (at_builtin; refine wpList_append_weak elemN _ rfl (.tmp 23) (.tmp 24) rfl base _ l.length (nodsL l) rfl hv.out _ 1 (nodsL [x]) rfl hx.out (nodsL_one _) (by unfold maxLen; omega) (by omega) hb ?_)
    intro a6 c6 w6 h6 g6
    go_wp2_with fail
    go_ret
    exact ⟨_, rfl, by rw [nodsL_append, List.length_append]; exact h6, g6⟩
end
end Go.Proofs.YtpmlhmficmillaaGreat

namespace Go.Proofs.YtpmlhmficmillaaGreat
section
open Go.RowKit
set_option maxRecDepth 100000
set_option linter.unusedVariables false

theorem NodsAt.other {w w' : World} {v : Value} {l : List Nod} (h : NodsAt w v l) (z : Nat) (hz : v.ownBlock ≠ some z) (hs : w.heap.size ≤ w'.heap.size) (hk : ∀ k, k ≠ z → w'.heap[k]? = w.heap[k]?) : NodsAt w' v l := by
  obtain ⟨hl, a, c, hv, h1, h2, h3, h4⟩ := h
  refine ⟨hl, a, c, hv, h1, h2, h3, fun i u hu => ?_⟩
  obtain ⟨b, o, ha, hc⟩ := h4 i u hu
  refine ⟨b, o, ha, ?_⟩
  subst hv ha
  rw [World.cell?_of_block (w := w) (hk b (fun e => hz (by rw [← e]; rfl)))]
  exact hc
theorem ownBlock_cap (a : Option Addr) (n c n' c' : Nat) : (Value.slice a n c).ownBlock = (Value.slice a n' c').ownBlock := by cases a <;> rfl
def SetPost (w : World) (x : Nat) (L : List Nod) (e : Ending) (w' : World) : Prop := ∃ v', e = .returned (.agg #[.int .u64 (x : Int), v']) ∧ NodsAt w' v' L ∧ (∀ k, v'.ownBlock = some k → w.heap.size ≤ k) ∧ Below w.heap.size w w'

set_option maxHeartbeats 6400000 in
theorem nset_any (v : Value) (x : Nat) (l : List Nod) (n : Nod) (w : World) (hv : NodsAt w v l) (hs : SortL l) (hl : l.length ≤ 900) (hn : (getL l n.path).isSome = true ∨ belowN l n.path = l.length) :
    Calls Tryz.prog 11 #[.agg #[.int .u64 (x : Int), v], .agg n.cells] w (SetPost w x (setL l n)) := by
  obtain ⟨a, c, rfl, g1, g2⟩ := hv.form
  unfold maxLen at g2
  obtain ⟨W, hW⟩ : ∃ W, W = ((w.alloc (.cells #[.int .u64 (x : Int), .slice a l.length c] 25)).alloc (.cells n.cells 28)).alloc (.cells #[.int .u64 0, .slice none 0 0] 25) := ⟨_, rfl⟩
  have hb0 : Below w.heap.size w W := by rw [hW]; exact (((Below.refl w.heap.size w).alloc (Nat.le_refl _) _).alloc (by simp) _).alloc (by simp; omega) _
  have hx0 : W.heap[w.heap.size]? = some (.cells #[.int .u64 (x : Int), .slice a l.length c] 25 (0, 0)) := by rw [hW, heap_alloc_old _ _ (by simp; omega), heap_alloc_old _ _ (by simp), heap_alloc_new]
  have hy0 : W.heap[w.heap.size + 1]? = some (.cells n.cells 28 (0, 0)) := by rw [hW, heap_alloc_old _ _ (by simp)]; exact heap2 _ _ _
  have hz0 : W.heap[w.heap.size + 2]? = some (.cells #[.int .u64 0, .slice none 0 0] 25 (0, 0)) := by
    rw [hW]
    have := heap_alloc_new ((w.alloc (.cells #[.int .u64 (x : Int), .slice a l.length c] 25)).alloc (.cells n.cells 28)) (.cells #[.int .u64 0, .slice none 0 0] 25)
    simpa using this
  have hv0 := hid (hv.below hb0)
  have hf := hid (fun X (h : NodsAt X (.slice a l.length c) l) => tfind_any _ x l n.path X h hs (by omega))
  have hcl0 := hid (fun X (h : NodsAt X (.slice a l.length c) l) => nclone_any _ l X h (by omega))
  have hhit := hid (set_hit hs n)
  have hmiss := hid (set_miss hs n)
  have hga := hid (get_at hs n.path)
  have e0 := block_cell hx0 0
  have e1 := block_cell hx0 1
  have e2 : W.cell? ⟨w.heap.size + 1, 0, none⟩ = some (.int .u64 (n.path : Int)) := block_cell hy0 0
  have hzz := lt_of_block hz0
  replace hb0 := hid hb0
  replace hx0 := hid hx0
  replace hy0 := hid hy0
  replace hz0 := hid hz0
  clear hv hs
  go_enter Tryz.func11, Tryz.ntmps11
  go_wp2_with (rw [← hW]; replace hW := hid hW)
  try (rw [← hW]; replace hW := hid hW)
  refine (hf.out _ hv0.out).mono ?_
  rintro e w1 ⟨rfl, hb1⟩
  have hB1 := hid (sn hb0.out hb1)
  have hx1 := hid ((hb1.block _ (lt_of_block hx0.out)).trans hx0.out)
  have hy1 := hid ((hb1.block _ (lt_of_block hy0.out)).trans hy0.out)
  have hz1 := hid ((hb1.block _ (lt_of_block hz0.out)).trans hz0.out)
  have hv1 := hid (hv0.out.below hb1)
  have hlt1 := lt_of_block hz1.out
  clear e0 e1 e2 hb1
  have e1 := block_cell hx1.out 1
  go_wp2_with fail
  refine (hcl0.out _ hv1.out).mono ?_
  rintro e w2 ⟨v2, rfl, ho2, hb2⟩
  have hB2 := hid (sn hB1.out hb2)
  have hx2 := hid ((hb2.block _ (lt_of_block hx1.out)).trans hx1.out)
  have hy2 := hid ((hb2.block _ (lt_of_block hy1.out)).trans hy1.out)
  have hz2 := hid ((hb2.block _ (lt_of_block hz1.out)).trans hz1.out)
  have hsz2 := hb2.size
  replace ho2 := hid ho2
  clear e1 hb2
  rcases hr : (getL l n.path).isSome with _ | _
  · have hend : belowN l n.path = l.length := by
      rcases hn with h | h
      · rw [hr] at h; cases h
      · exact h
    have hgn : getL l n.path = none := by simpa using hr
    have hL := hid (show setL l n = l ++ [n] by rw [hmiss.out hgn, hend, List.take_length, List.drop_length])
    rw [hend]
    clear hn hr hend hgn hmiss hhit hga
    have hbx : Below w2.heap.size w2 (w2.alloc (.cells n.cells 28)) := (Below.refl _ _).alloc (Nat.le_refl _) _
    have ho3 := own_below ho2.out hbx
    have hins := hid (insert_end v2 l n w2.heap.size w1.heap.size (w2.alloc (.cells n.cells 28)) ho3 (heap_alloc_new _ _) (by omega) (by simp; omega))
    have hB3 := hid (sn hB2.out hbx)
    have hx3 := hid ((hbx.block _ (lt_of_block hx2.out)).trans hx2.out)
    have hz3 := hid ((hbx.block _ (lt_of_block hz2.out)).trans hz2.out)
    have hown : ∀ k, v2.ownBlock = some k → w1.heap.size ≤ k := fun k hk => (ho2.out.lt k hk).1
    have hown := hid hown
    rw [nod_cells] at hins hx3 hz3 hB3 hy2
    clear hbx ho3
    go_wp2_with (refine wpList_load_row (by rfl) 28 (.tmp 3) (by rfl) (w.heap.size + 1) (by rfl) 28 _ (0, 0) _ hy2.out Tryz.underlying28 (by rfl) (by kernel_rfl) ?_)
    refine hins.out.mono ?_
    rintro e X ⟨vX, rfl, hoX, hgX⟩
    obtain ⟨L, hLL⟩ : ∃ L, L = l ++ [n] := ⟨_, rfl⟩
    rw [← hLL] at hoX hL
    replace hLL := hid hLL
    have hXN := hid (NodsAt.of_own hoX)
    have hX0 := hid ((hgX.block _ (lt_of_block hx3.out) (fun e => by have := hown.out _ e.symm; omega)).trans hx3.out)
    have hX2 := hid ((hgX.block _ (lt_of_block hz3.out) (fun e => by have := hown.out _ e.symm; omega)).trans hz3.out)
    have hXB := hid (hB3.out.grown hgX (by have := hB3.out.size; exact this) (fun j hj => by have := hown.out _ hj; omega))
    have hXf := hid (show ∀ k, vX.ownBlock = some k → w.heap.size ≤ k from fun k hk => by have := (hoX.lt _ hk).1; omega)
    have hXn := hid (show vX.ownBlock ≠ some (w.heap.size + 2) from fun e => by have := (hoX.lt _ e).1; omega)
    clear hoX hgX hins
    have q0 : X.cell? ⟨w.heap.size, 0, none⟩ = some (.int .u64 (x : Int)) := block_cell hX0.out 0
    have q0d : X.drew.cell? ⟨w.heap.size, 0, none⟩ = some (.int .u64 (x : Int)) := block_cell hX0.out 0
    have g0 : X.cell? ⟨w.heap.size + 1 + 1, 0, none⟩ = some (.int .u64 0) := block_cell hX2.out 0
    have g1 : X.cell? ⟨w.heap.size + 1 + 1, 1, none⟩ = some (.slice none 0 0) := block_cell hX2.out 1
    have f0 : X.frozen? ⟨w.heap.size + 1 + 1, 0, none⟩ = false := block_free hX2.out 0
    have f1 : X.frozen? ⟨w.heap.size + 1 + 1, 1, none⟩ = false := block_free hX2.out 1
    have ff0 : X.drew.frozen? ⟨w.heap.size + 1 + 1, 0, none⟩ = false := f0
    have ff1 : X.drew.frozen? ⟨w.heap.size + 1 + 1, 1, none⟩ = false := f1
    have gg0 : X.drew.cell? ⟨w.heap.size + 1 + 1, 0, none⟩ = some (.int .u64 0) := g0
    have gg1 : X.drew.cell? ⟨w.heap.size + 1 + 1, 1, none⟩ = some (.slice none 0 0) := g1
    obtain ⟨ax, cx, rfl, x1, x2⟩ := hXN.out.form
    have hzz := hid (block_set (block_set hX2.out 0 (.int .u64 (x : Int))) 1 (.slice ax L.length L.length))
    have hzB := hid (((hXB.out.setCell (p := ⟨w.heap.size + 1 + 1, 0, none⟩) (by show w.heap.size ≤ w.heap.size + 1 + 1; omega) (.int .u64 (x : Int))).setCell (p := ⟨w.heap.size + 1 + 1, 1, none⟩) (by show w.heap.size ≤ w.heap.size + 1 + 1; omega) (.slice ax L.length L.length)).drew)
    have hx9 : Hid (((X.setCell ⟨w.heap.size + 1 + 1, 0, none⟩ (.int .u64 (x : Int))).setCell ⟨w.heap.size + 1 + 1, 1, none⟩ (.slice ax L.length L.length)).drew.heap[w.heap.size]? = _) := hid ((block_set_other (by show w.heap.size ≠ w.heap.size + 1 + 1; omega)).trans ((block_set_other (by show w.heap.size ≠ w.heap.size + 1 + 1; omega)).trans hX0.out))
    have hNz := hid (NodsAt.below hXN.out.clip (show Below X.heap.size X X from Below.refl _ _))
    have hN9 : Hid (NodsAt ((X.setCell ⟨w.heap.size + 1 + 1, 0, none⟩ (.int .u64 (x : Int))).setCell ⟨w.heap.size + 1 + 1, 1, none⟩ (.slice ax L.length L.length)).drew (.slice ax L.length L.length) L) := hid (NodsAt.other hXN.out.clip (w.heap.size + 1 + 1) (by rw [ownBlock_cap ax _ _ L.length cx]; exact hXn.out) (by simp) fun k hk => (block_set_other (by show k ≠ _; exact hk)).trans (block_set_other (by show k ≠ _; exact hk)))
    have hcl := hid (fun W => nclip_eq ax L.length cx W x1 x2)
    replace hX0 := hid hX0.out
    go_wp2_with fail
    go_region_held3 (fun w' => w'.cell? ⟨w.heap.size, 0, none⟩ = some (.int .u64 (x : Int)))
      (first | exact q0d | exact block_cell hx9.out 0 | go_keep)
      ((go_at_call 34; (with_reducible refine (hcl.out _).mono ?_); rintro e wc ⟨rfl, rfl⟩))
    clear q0 q0d g0 g1 f0 f1 ff0 ff1 gg0 gg1
    all_goals
      go_wp2_with fail
      refine bodyPost_ret (results_cell_row rfl _ _ (w.heap.size + 1 + 1) _ _ _ _ rfl hzz.out Tryz.underlying25 rfl (by kernel_rfl)) rfl ?_
      exact ⟨_, rfl, by rw [hL.out]; exact hN9.out, fun k hk => hXf.out k (by rw [ownBlock_cap ax _ _ L.length L.length]; exact hk), hzB.out⟩
  · obtain ⟨m, hm⟩ := Option.isSome_iff_exists.1 hr
    have hq : Hid (∃ h : belowN l n.path < l.length, l[belowN l n.path].path = n.path) := hid (by
      have h := hga.out
      rw [hm] at h
      cases hh : l[belowN l n.path]? with
      | none => rw [hh] at h; cases h
      | some k =>
        rw [hh] at h
        simp only at h
        obtain ⟨h1, h2⟩ := List.getElem?_eq_some_iff.1 hh
        by_cases e : k.path = n.path
        · exact ⟨h1, by rw [h2]; exact e⟩
        · rw [if_neg e] at h; cases h)
    obtain ⟨hql, hqp⟩ := hq.out
    have hL := hid (hhit.out hql hqp)
    clear hn hr hm hmiss hhit hga hqp hq
    generalize belowN l n.path = q at *
    obtain ⟨g, c2, rfl, c21, c22, hgb⟩ := own_ptr ho2.out (by omega)
    unfold maxLen at c22
    have hth := hid (own_there ho2.out hql)
    obtain ⟨s1, s2, s3⟩ := own_set (x := n) ho2.out hql
    obtain ⟨X, hX⟩ : ∃ X, X = w2.setCells g (q * 12) n.cells.toList := ⟨_, rfl⟩
    rw [← hX] at s1 s2 s3
    obtain ⟨L, hLL⟩ : ∃ L, L = l.set q n := ⟨_, rfl⟩
    rw [← hLL] at hL s1
    have hlen : L.length = l.length := by rw [hLL]; simp
    replace hLL := hid hLL
    have hXN : Hid (NodsAt X (.slice (some ⟨g, 0, none⟩) l.length c2) L) := hid (NodsAt.of_own s1)
    have hX0 := hid ((s3 w.heap.size (by omega)).trans hx2.out)
    have hX2 := hid ((s3 (w.heap.size + 2) (by omega)).trans hz2.out)
    have hXB := hid (hB2.out.trans (s2.mono (by omega)))
    have hXf := hid (show ∀ k, (Value.slice (some ⟨g, 0, none⟩) l.length c2).ownBlock = some k → w.heap.size ≤ k from fun k hk => by have h3 : g = k := Option.some.inj hk; omega)
    have hXn := hid (show (Value.slice (some ⟨g, 0, none⟩) l.length c2).ownBlock ≠ some (w.heap.size + 2) from fun e => by have h3 : g = w.heap.size + 2 := Option.some.inj e; omega)
    clear s1 s2 s3
    rw [← hlen] at hXN hXn hXf
    go_upto_region 6 with (first
      | (refine wpList_load_row (by rfl) 28 (.tmp 3) (by rfl) (w.heap.size + 1) (by rfl) 28 n.cells (0, 0) _ hy2.out Tryz.underlying28 (by rfl) (by kernel_rfl) ?_)
      | (refine wpList_store_mid (by rfl) 28 (.tmp 22) (.tmp 21) (by rfl) g (q * 12) n.cells (by rfl) (by rfl) hth.out (by kernel_rfl) (nod_one n) ?_)
      | (rw [← hX]; replace hX := hid hX))
    try (rw [← hX]; replace hX := hid hX)
    rw [← hlen]
    have q0 : X.cell? ⟨w.heap.size, 0, none⟩ = some (.int .u64 (x : Int)) := block_cell hX0.out 0
    have q0d : X.drew.cell? ⟨w.heap.size, 0, none⟩ = some (.int .u64 (x : Int)) := block_cell hX0.out 0
    have g0 : X.cell? ⟨w.heap.size + 1 + 1, 0, none⟩ = some (.int .u64 0) := block_cell hX2.out 0
    have g1 : X.cell? ⟨w.heap.size + 1 + 1, 1, none⟩ = some (.slice none 0 0) := block_cell hX2.out 1
    have f0 : X.frozen? ⟨w.heap.size + 1 + 1, 0, none⟩ = false := block_free hX2.out 0
    have f1 : X.frozen? ⟨w.heap.size + 1 + 1, 1, none⟩ = false := block_free hX2.out 1
    have ff0 : X.drew.frozen? ⟨w.heap.size + 1 + 1, 0, none⟩ = false := f0
    have ff1 : X.drew.frozen? ⟨w.heap.size + 1 + 1, 1, none⟩ = false := f1
    have gg0 : X.drew.cell? ⟨w.heap.size + 1 + 1, 0, none⟩ = some (.int .u64 0) := g0
    have gg1 : X.drew.cell? ⟨w.heap.size + 1 + 1, 1, none⟩ = some (.slice none 0 0) := g1
    have x1 : L.length ≤ c2 := by omega
    have x2 : c2 ≤ maxLen := by unfold maxLen; omega
    have hzz := hid (block_set (block_set hX2.out 0 (.int .u64 (x : Int))) 1 (.slice (some ⟨g, 0, none⟩) L.length L.length))
    have hzB := hid (((hXB.out.setCell (p := ⟨w.heap.size + 1 + 1, 0, none⟩) (by show w.heap.size ≤ w.heap.size + 1 + 1; omega) (.int .u64 (x : Int))).setCell (p := ⟨w.heap.size + 1 + 1, 1, none⟩) (by show w.heap.size ≤ w.heap.size + 1 + 1; omega) (.slice (some ⟨g, 0, none⟩) L.length L.length)).drew)
    have hx9 : Hid (((X.setCell ⟨w.heap.size + 1 + 1, 0, none⟩ (.int .u64 (x : Int))).setCell ⟨w.heap.size + 1 + 1, 1, none⟩ (.slice (some ⟨g, 0, none⟩) L.length L.length)).drew.heap[w.heap.size]? = _) := hid ((block_set_other (by show w.heap.size ≠ w.heap.size + 1 + 1; omega)).trans ((block_set_other (by show w.heap.size ≠ w.heap.size + 1 + 1; omega)).trans hX0.out))
    have hNz := hid (NodsAt.below hXN.out.clip (show Below X.heap.size X X from Below.refl _ _))
    have hN9 : Hid (NodsAt ((X.setCell ⟨w.heap.size + 1 + 1, 0, none⟩ (.int .u64 (x : Int))).setCell ⟨w.heap.size + 1 + 1, 1, none⟩ (.slice (some ⟨g, 0, none⟩) L.length L.length)).drew (.slice (some ⟨g, 0, none⟩) L.length L.length) L) := hid (NodsAt.other hXN.out.clip (w.heap.size + 1 + 1) (by rw [ownBlock_cap (some ⟨g, 0, none⟩) _ _ L.length c2]; exact hXn.out) (by simp) fun k hk => (block_set_other (by show k ≠ _; exact hk)).trans (block_set_other (by show k ≠ _; exact hk)))
    have hcl := hid (fun W => nclip_eq (some ⟨g, 0, none⟩) L.length c2 W x1 x2)
    replace hX0 := hid hX0.out
    replace hlen := hid hlen
    go_region_held3 (fun w' => w'.cell? ⟨w.heap.size, 0, none⟩ = some (.int .u64 (x : Int)))
      (first | exact q0d | exact block_cell hx9.out 0 | go_keep)
      ((go_at_call 34; (with_reducible refine (hcl.out _).mono ?_); rintro e wc ⟨rfl, rfl⟩))
    clear q0 q0d g0 g1 f0 f1 ff0 ff1 gg0 gg1
    all_goals
      go_wp2_with fail
      refine bodyPost_ret (results_cell_row rfl _ _ (w.heap.size + 1 + 1) _ _ _ _ rfl hzz.out Tryz.underlying25 rfl (by kernel_rfl)) rfl ?_
      exact ⟨_, rfl, by rw [hL.out]; exact hN9.out, fun k hk => hXf.out k (by rw [ownBlock_cap (some ⟨g, 0, none⟩) _ _ L.length L.length]; exact hk), hzB.out⟩
end
end Go.Proofs.YtpmlhmficmillaaGreat
