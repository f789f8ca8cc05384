/- next, live, Has, Tree of package fsys. Conditions: in the statements. And the texts behind it. -/
import Derived.Test.YtkefjeabckainaaGreatFaB13
import Derived.Test.YtkefjeabckainaaGreatFaB19
import Derived.Test.YtkefjeabckainaaGreatFaB16
namespace Go.Proofs.YtkefjeabckainaaGreat
section
open Go.RowKit Go.Maps
set_option maxRecDepth 100000
set_option linter.unusedVariables false

theorem fnext_ok (b m p n : Nat) (v v' : Value) (f : FsV) (u : Usr) (t : Tr) (w : World) (h : FSo w b m v p f u n) (hv : NodsAt w v' t.n) (n1 : v'.ownBlock ≠ some b) (n2 : v'.ownBlock ≠ some m) :
    Calls Tryz.prog 43 #[.pointer (some ⟨b, 0, none⟩), .agg #[.int .u64 (t.next : Int), v'], .int .i64 0] w fun e w' => e = .returned (.tuple #[]) ∧ FSo w' b m v' p (f.set t) u n ∧ FStep b m w w' := by
  obtain ⟨a', c', rfl, _, _⟩ := hv.form
  obtain ⟨X, hX⟩ : ∃ X, X = w.alloc (.cells #[.int .u64 (t.next : Int), .slice a' t.n.length c'] 30) := ⟨_, rfl⟩
  have hXn : X.heap[w.heap.size]? = some (.cells #[.int .u64 (t.next : Int), .slice a' t.n.length c'] 30 (0, 0)) := by rw [hX]; exact heap_alloc_new _ _
  have hXb : Below w.heap.size w X := by rw [hX]; exact (Below.refl _ _).alloc (Nat.le_refl _) _
  have hFX := h.below hXb
  have x0 : X.cell? ⟨w.heap.size, 0, none⟩ = some (.int .u64 (t.next : Int)) := block_cell hXn 0
  have x1 : X.cell? ⟨w.heap.size, 1, none⟩ = some (.slice a' t.n.length c') := block_cell hXn 1
  have b0 := block_free hFX.blk 0
  have c0 := block_cell hFX.blk 0
  have hs1 := block_set hFX.blk 0 (.int .u64 (t.next : Int))
  have b1 : (X.setCell ⟨b, 0, none⟩ (.int .u64 (t.next : Int))).frozen? ⟨b, 1, none⟩ = false := block_free hs1 1
  have c1 : (X.setCell ⟨b, 0, none⟩ (.int .u64 (t.next : Int))).cell? ⟨b, 1, none⟩ = some _ := block_cell hs1 1
  have hF2 := hid (hFX.put t (hv.below hXb) n1 n2)
  have hS2 := hid ((FStep.pure (b := b) (m := m) hXb).trans (FStep.put (.int .u64 (t.next : Int)) (.slice a' t.n.length c')))
  have hmu : Hid (Calls Tryz.prog 37 #[.bool false, .int .i64 0] X fun x w' => x = .returned (.tuple #[]) ∧ w' = X) := hid (fmust_ok 0 X)
  clear hs1 hXb hXn h hv hFX n1 n2
  go_enter Tryz.func43, Tryz.ntmps43
  go_wp2_with (rw [← hX]; replace hX := hid hX)
  try (rw [← hX]; replace hX := hid hX)
  refine hmu.out.mono ?_
  rintro e w2 ⟨rfl, rfl⟩
  go_wp2_with fail
  go_end0
  exact ⟨rfl, hF2.out, hS2.out⟩
theorem fnext_bad (b next E : Nat) (a : Option Addr) (l c : Nat) (w : World) (hE : E ≠ 0) :
    Calls Tryz.prog 43 #[.pointer (some ⟨b, 0, none⟩), .agg #[.int .u64 (next : Int), .slice a l c], .int .i64 (E : Int)] w fun e w' => e = .panicked (errChain E) ∧ Below w.heap.size w w' := by
  have hB := hid ((Below.refl w.heap.size w).alloc (Nat.le_refl _) (.cells #[.int .u64 (next : Int), .slice a l c] 30))
  have k0 : ((E : Int) != 0) = true := by simpa using hE
  have hmu := hid (fun X => fmust_bad E X)
  go_enter Tryz.func43, Tryz.ntmps43
  go_wp2_with fail
  refine (hmu.out _).mono ?_
  rintro e w2 ⟨rfl, rfl⟩
  go_wp2_with fail
  exact ⟨rfl, rfl, hB.out⟩
theorem fhas_any (b m p n : Nat) (v : Value) (f : FsV) (u : Usr) (s : ByteArray) (w : World) (h : FSo w b m v p f u n) (hl : u.us.length < 4611686018427387904) :
    Calls Tryz.prog 29 #[.pointer (some ⟨b, 0, none⟩), .string s] w fun e w' => e = .returned (.bool (hasS u.us s)) ∧ w' = w := by
  have c2 := block_cell h.blk 2
  have hh := hid (has_any p u.us u.gs s w h.tabs hl)
  clear h
  go_enter Tryz.func29, Tryz.ntmps29
  go_wp2_with fail
  refine hh.out.mono ?_
  rintro e w1 ⟨rfl, rfl⟩
  go_wp2_with fail
  go_ret
  exact ⟨rfl, rfl⟩
theorem flive_ok (b m p n : Nat) (v : Value) (f : FsV) (u : Usr) (q : Nat) (x : Nod) (w : World) (h : FSo w b m v p f u n) (ht : TrOk f.t.n) (hg : getL f.t.n q = some x) (hgo : x.gone = false) :
    Calls Tryz.prog 36 #[.pointer (some ⟨b, 0, none⟩), .int .u64 (q : Int)] w fun e w' => e = .returned (.agg x.cells) ∧ Below w.heap.size w w' := by
  obtain ⟨W, hW⟩ : ∃ W, W = w.alloc (.cells zeroNod.cells 89) := ⟨_, rfl⟩
  have hb0 : Below w.heap.size w W := by rw [hW]; exact (Below.refl _ _).alloc (Nat.le_refl _) _
  have hR := hid (show W.heap[w.heap.size]? = some (.cells zeroNod.cells 89 (0, 0)) by rw [hW]; exact heap_alloc_new _ _)
  have hga := hid (fget_ok b m p n v f u q x W (h.below hb0) ht hg)
  replace hb0 := hid hb0
  rw [zeroNod_cells] at hW
  clear h hg ht
  go_enter Tryz.func36, Tryz.ntmps36
  go_wp2_with (rw [← hW]; replace hW := hid hW)
  try (rw [← hW]; replace hW := hid hW)
  refine hga.out.mono ?_
  rintro e w1 ⟨rfl, hb1⟩
  have hB1 := hid (sn hb0.out hb1)
  have hR1 := hid ((hb1.block _ (lt_of_block hR.out)).trans hR.out)
  have hnew := hid (heap_alloc_new w1 (.cells zeroNod.cells 89))
  obtain ⟨X, hX⟩ : ∃ W, W = boxN w1 x := ⟨_, rfl⟩
  have hbX : Below w1.heap.size w1 X := by rw [hX]; exact boxN_below _ _
  have hBX := hid (sn hB1.out hbX)
  have hRX := hid ((hbX.block _ (lt_of_block hR1.out)).trans hR1.out)
  have hnX := hid (show X.heap[w1.heap.size]? = some (.cells x.cells 89 (0, 0)) by rw [hX]; exact boxN_heap _ _)
  have q10 : X.cell? ⟨w1.heap.size, 10, none⟩ = some (.bool x.gone) := block_cell hnX.out 10
  rw [hgo] at q10
  unfold boxN at hX
  rw [zeroNod_cells] at hX hnew
  have hmu : Hid (Calls Tryz.prog 37 #[.bool false, .int .i64 6] X fun x w' => x = .returned (.tuple #[]) ∧ w' = X) := hid (fmust_ok 6 X)
  clear hb1 hbX hga
  go_wp2_with (first
    | (rw [← hX]; replace hX := hid hX)
    | (refine wpList_store_row (by rfl) 89 (.tmp 5) (.tmp 8) (by rfl) w1.heap.size x.cells (by rfl) (by rfl) 89 _ hnew.out (by kernel_rfl) (by kernel_rfl) (nod_one x) ?_))
  try (rw [← hX]; replace hX := hid hX)
  refine hmu.out.mono ?_
  rintro e w2 ⟨rfl, rfl⟩
  clear hnew hmu
  go_wp2_with (first
    | (refine wpList_load_row (by rfl) 89 (.tmp 5) (by rfl) w1.heap.size (by rfl) 89 x.cells (0, 0) _ hnX.out Tryz.underlying89 (by rfl) (by kernel_rfl) ?_)
    | (refine wpList_store_row (by rfl) 89 (.tmp 4) (.tmp 12) (by rfl) w.heap.size x.cells (by rfl) (by rfl) 89 _ hRX.out (by kernel_rfl) (by kernel_rfl) (nod_one x) ?_))
  refine bodyPost_ret (results_cell_row rfl _ _ w.heap.size _ _ _ _ rfl (setRow_heap _ _ _ x.cells _ _ hRX.out) Tryz.underlying89 rfl (by kernel_rfl)) rfl ?_
  exact ⟨rfl, below_setRow hBX.out (Nat.le_refl _) _⟩
theorem flive_no (b m p n : Nat) (v : Value) (f : FsV) (u : Usr) (q : Nat) (w : World) (h : FSo w b m v p f u n) (ht : TrOk f.t.n) (hg : getL f.t.n q = none) :
    Calls Tryz.prog 36 #[.pointer (some ⟨b, 0, none⟩), .int .u64 (q : Int)] w fun e w' => e = .panicked (errChain 6) ∧ Below w.heap.size w w' := by
  obtain ⟨W, hW⟩ : ∃ W, W = w.alloc (.cells zeroNod.cells 89) := ⟨_, rfl⟩
  have hb0 : Below w.heap.size w W := by rw [hW]; exact (Below.refl _ _).alloc (Nat.le_refl _) _
  have hga := hid (fget_no b m p n v f u q W (h.below hb0) ht hg)
  replace hb0 := hid hb0
  rw [zeroNod_cells] at hW
  clear h hg ht
  go_enter Tryz.func36, Tryz.ntmps36
  go_wp2_with (rw [← hW]; replace hW := hid hW)
  try (rw [← hW]; replace hW := hid hW)
  refine hga.out.mono ?_
  rintro e w1 ⟨rfl, hb1⟩
  have hB1 := hid (sn hb0.out hb1)
  clear hb1
  go_wp2_with fail
  exact ⟨rfl, rfl, hB1.out⟩
theorem flive_gone (b m p n : Nat) (v : Value) (f : FsV) (u : Usr) (q : Nat) (x : Nod) (w : World) (h : FSo w b m v p f u n) (ht : TrOk f.t.n) (hg : getL f.t.n q = some x) (hgo : x.gone = true) :
    Calls Tryz.prog 36 #[.pointer (some ⟨b, 0, none⟩), .int .u64 (q : Int)] w fun e w' => e = .panicked (errChain 6) ∧ Below w.heap.size w w' := by
  obtain ⟨W, hW⟩ : ∃ W, W = w.alloc (.cells zeroNod.cells 89) := ⟨_, rfl⟩
  have hb0 : Below w.heap.size w W := by rw [hW]; exact (Below.refl _ _).alloc (Nat.le_refl _) _
  have hga := hid (fget_ok b m p n v f u q x W (h.below hb0) ht hg)
  replace hb0 := hid hb0
  rw [zeroNod_cells] at hW
  clear h hg ht
  go_enter Tryz.func36, Tryz.ntmps36
  go_wp2_with (rw [← hW]; replace hW := hid hW)
  try (rw [← hW]; replace hW := hid hW)
  refine hga.out.mono ?_
  rintro e w1 ⟨rfl, hb1⟩
  have hB1 := hid (sn hb0.out hb1)
  have hnew := hid (heap_alloc_new w1 (.cells zeroNod.cells 89))
  obtain ⟨X, hX⟩ : ∃ W, W = boxN w1 x := ⟨_, rfl⟩
  have hbX : Below w1.heap.size w1 X := by rw [hX]; exact boxN_below _ _
  have hBX := hid (sn hB1.out hbX)
  have hnX := hid (show X.heap[w1.heap.size]? = some (.cells x.cells 89 (0, 0)) by rw [hX]; exact boxN_heap _ _)
  have q10 : X.cell? ⟨w1.heap.size, 10, none⟩ = some (.bool x.gone) := block_cell hnX.out 10
  rw [hgo] at q10
  unfold boxN at hX
  rw [zeroNod_cells] at hX hnew
  have hmu : Hid (Calls Tryz.prog 37 #[.bool true, .int .i64 6] X fun x w' => x = .panicked (errChain 6) ∧ w' = X) := hid (fmust_bad 6 X)
  clear hb1 hbX hga
  go_wp2_with (first
    | (rw [← hX]; replace hX := hid hX)
    | (refine wpList_store_row (by rfl) 89 (.tmp 5) (.tmp 8) (by rfl) w1.heap.size x.cells (by rfl) (by rfl) 89 _ hnew.out (by kernel_rfl) (by kernel_rfl) (nod_one x) ?_))
  try (rw [← hX]; replace hX := hid hX)
  refine hmu.out.mono ?_
  rintro e w2 ⟨rfl, rfl⟩
  go_wp2_with fail
  exact ⟨rfl, rfl, hBX.out⟩
set_option maxHeartbeats 1600000 in
theorem fapart_any (v : Value) (x : Nat) (l : List Nod) (w : World) (hv : NodsAt w v l) (hl : l.length ≤ 900) (h1 : ∀ n ∈ l, 1 ≤ n.path) :
    Calls Tryz.prog 53 #[.agg #[.int .u64 (x : Int), v]] w (SetPost w x l) := by
  obtain ⟨a, c, rfl, g1, g2⟩ := hv.form
  unfold maxLen at g2
  have hd0 : dropL l 0 = l := List.filter_eq_self.2 fun n hn => by have := h1 n hn; simp; omega
  obtain ⟨W, hW⟩ : ∃ W, W = (w.alloc (.cells #[.int .u64 (x : Int), .slice a l.length c] 30)).alloc (.cells #[.int .u64 0, .slice none 0 0] 30) := ⟨_, rfl⟩
  have hb0 : Below w.heap.size w W := by rw [hW]; exact ((Below.refl w.heap.size w).alloc (Nat.le_refl _) _).alloc (by simp) _
  have hx0 : W.heap[w.heap.size]? = some (.cells #[.int .u64 (x : Int), .slice a l.length c] 30 (0, 0)) := by rw [hW, heap_alloc_old _ _ (by simp), heap_alloc_new]
  have hy0 : W.heap[w.heap.size + 1]? = some (.cells #[.int .u64 0, .slice none 0 0] 30 (0, 0)) := by rw [hW]; exact heap2 _ _ _
  have hdr := hid (ndrop_any _ x l 0 W (hv.below hb0) hl)
  rw [hd0] at hdr
  have e0 := block_cell hx0 0
  have e1 := block_cell hx0 1
  replace hb0 := hid hb0
  replace hy0 := hid hy0
  clear hv h1 hd0 hx0
  go_enter Tryz.func53, Tryz.ntmps53
  go_wp2_with (rw [← hW]; replace hW := hid hW)
  try (rw [← hW]; replace hW := hid hW)
  refine hdr.out.mono ?_
  rintro e w1 ⟨v1, rfl, hv1, hf1, hb1⟩
  obtain ⟨a1, c1, rfl, _, _⟩ := hv1.form
  have hB1 := hid (sn hb0.out hb1)
  have hy1 := hid ((hb1.block _ (lt_of_block hy0.out)).trans hy0.out)
  have hlt0 := hid (lt_of_block hy0.out)
  have hsz0 := hid hb0.out.size
  have hE := hid (NodsAt.other (w' := w1.setRow (w.heap.size + 1) #[.int .u64 (x : Int), .slice a1 l.length c1]) hv1 (w.heap.size + 1) (fun e => by have := hf1 _ e; have := hlt0.out; omega) (by simp) (fun k hk => setRow_other _ _ _ _ hk))
  have hF := hid (show ∀ k, (Value.slice a1 l.length c1).ownBlock = some k → w.heap.size ≤ k from fun k hk => Nat.le_trans hsz0.out (hf1 k hk))
  clear e0 e1 hb1 hv1 hf1
  go_wp2_with (refine wpList_store_row (by rfl) 30 (.tmp 2) (.tmp 4) (by rfl) (w.heap.size + 1) #[.int .u64 (x : Int), .slice a1 l.length c1] (by rfl) (by rfl) 30 _ hy1.out (by kernel_rfl) (by kernel_rfl) (by kernel_rfl) ?_)
  refine bodyPost_ret (results_cell_row rfl _ _ (w.heap.size + 1) _ _ _ _ rfl (setRow_heap _ _ _ #[.int .u64 (x : Int), .slice a1 l.length c1] _ _ hy1.out) Tryz.underlying30 rfl (by kernel_rfl)) rfl ?_
  exact ⟨_, rfl, hE.out, hF.out, below_setRow hB1.out (by omega) _⟩
set_option maxHeartbeats 1600000 in
theorem ftree_any (b m p n : Nat) (v : Value) (f : FsV) (u : Usr) (w : World) (h : FSo w b m v p f u n) (ht : TrOk f.t.n) :
    Calls Tryz.prog 17 #[.pointer (some ⟨b, 0, none⟩)] w (SetPost w f.t.next f.t.n) := by
  obtain ⟨a, c, rfl, g1, g2⟩ := h.row.form
  obtain ⟨W, hW⟩ : ∃ W, W = w.alloc (.cells #[.int .u64 0, .slice none 0 0] 30) := ⟨_, rfl⟩
  have hb0 : Below w.heap.size w W := by rw [hW]; exact (Below.refl w.heap.size w).alloc (Nat.le_refl _) _
  have hy0 : W.heap[w.heap.size]? = some (.cells #[.int .u64 0, .slice none 0 0] 30 (0, 0)) := by rw [hW, heap_alloc_new]
  have hFX := h.below hb0
  have hap := hid (fapart_any _ f.t.next f.t.n W hFX.row (by have := ht.few; omega) ht.low)
  have e0 := block_cell hFX.blk 0
  have e1 := block_cell hFX.blk 1
  replace hb0 := hid hb0
  replace hy0 := hid hy0
  clear h hFX ht
  go_enter Tryz.func17, Tryz.ntmps17
  go_wp2_with (rw [← hW]; replace hW := hid hW)
  try (rw [← hW]; replace hW := hid hW)
  refine hap.out.mono ?_
  rintro e w1 ⟨v1, rfl, hv1, hf1, hb1⟩
  obtain ⟨a1, c1, rfl, _, _⟩ := hv1.form
  have hB1 := hid (sn hb0.out hb1)
  have hy1 := hid ((hb1.block _ (lt_of_block hy0.out)).trans hy0.out)
  have hlt0 := hid (lt_of_block hy0.out)
  have hsz0 := hid hb0.out.size
  have hE := hid (NodsAt.other (w' := w1.setRow w.heap.size #[.int .u64 (f.t.next : Int), .slice a1 f.t.n.length c1]) hv1 w.heap.size (fun e => by have := hf1 _ e; have := hlt0.out; omega) (by simp) (fun k hk => setRow_other _ _ _ _ hk))
  have hF := hid (show ∀ k, (Value.slice a1 f.t.n.length c1).ownBlock = some k → w.heap.size ≤ k from fun k hk => Nat.le_trans hsz0.out (hf1 k hk))
  clear e0 e1 hb1 hv1 hf1
  go_wp2_with (refine wpList_store_row (by rfl) 30 (.tmp 2) (.tmp 7) (by rfl) w.heap.size #[.int .u64 (f.t.next : Int), .slice a1 f.t.n.length c1] (by rfl) (by rfl) 30 _ hy1.out (by kernel_rfl) (by kernel_rfl) (by kernel_rfl) ?_)
  refine bodyPost_ret (results_cell_row rfl _ _ w.heap.size _ _ _ _ rfl (setRow_heap _ _ _ #[.int .u64 (f.t.next : Int), .slice a1 f.t.n.length c1] _ _ hy1.out) Tryz.underlying30 rfl (by kernel_rfl)) rfl ?_
  exact ⟨_, rfl, hE.out, hF.out, below_setRow hB1.out (Nat.le_refl _) _⟩
end
end Go.Proofs.YtkefjeabckainaaGreat

namespace Go.Proofs.YtkefjeabckainaaGreat
section
set_option linter.unusedVariables false

def leNP (x y : Nod) : Bool := leS x.name y.name && (!leS y.name x.name || decide (x.path ≤ y.path))
theorem leNP_ordr : Ordr leNP where
  total a b h := by
    unfold leNP at *
    cases h1 : leS a.name b.name with
    | false =>
      have := leS_ordr.total _ _ h1
      rw [this]; simp
    | true =>
      rw [h1] at h
      cases h2 : leS b.name a.name with
      | false => rw [h2] at h; simp at h
      | true =>
        rw [h2] at h
        simp at h ⊢
        omega
  trans a b c h1 h2 := by
    unfold leNP at *
    simp only [Bool.and_eq_true, Bool.or_eq_true, Bool.not_eq_true', decide_eq_true_eq] at *
    refine ⟨leS_ordr.trans _ _ _ h1.1 h2.1, ?_⟩
    cases h : leS c.name a.name with
    | false => exact .inl rfl
    | true =>
      right
      have e1 : leS b.name a.name = true := leS_ordr.trans _ _ _ h2.1 h
      have e2 : leS c.name b.name = true := leS_ordr.trans _ _ _ h h1.1
      rcases h1.2 with k | k
      · rw [e1] at k; cases k
      · rcases h2.2 with k2 | k2
        · rw [e2] at k2; cases k2
        · omega
def InsIn (xs ys : List Nod) (a i j : Nat) : Prop := ∃ P T L1 x L2 R, xs = P ++ T ++ R ∧ ys = P ++ (L1 ++ x :: L2) ++ R ∧ P.length = a ∧ a + L1.length = j ∧ a + L1.length + L2.length = i ∧ (L1 ++ x :: L2).Perm T ∧ Srt leNP (L1 ++ L2) ∧ (∀ y ∈ L2.head?, leNP x y = true) ∧ ∀ y ∈ L1 ++ L2, y.path < x.path
def InsOut (xs ys : List Nod) (a i : Nat) : Prop := ∃ P T T' R, xs = P ++ T ++ R ∧ ys = P ++ T' ++ R ∧ P.length = a ∧ (P ++ T).length = i ∧ T'.Perm T ∧ Srt leNP T'
theorem swp_back {α : Type} {Q1 Q3 : List α} {x y : α} {i j : Nat} (hi : i = Q1.length + 1) (hj : j = Q1.length) : swp (Q1 ++ x :: y :: Q3) i j = Q1 ++ y :: x :: Q3 := by
  subst hi hj
  unfold swp
  have e1 : (Q1 ++ x :: y :: Q3)[Q1.length]? = some x := by simp
  have e2 : (Q1 ++ x :: y :: Q3)[Q1.length + 1]? = some y := by
    rw [List.getElem?_append_right (by omega), show Q1.length + 1 - Q1.length = 1 by omega]; simp
  rw [e1, e2]
  simp only
  rw [List.set_append_right _ _ (by omega), show Q1.length + 1 - Q1.length = 1 by omega, List.set_append_right _ _ (Nat.le_refl _), Nat.sub_self]
  rfl
theorem InsIn.swap {xs ys : List Nod} {a i j : Nat} (h : InsIn xs ys a i j) (hj : a < j) {x y : Nod} (hx : ys[j]? = some x) (hy : ys[j - 1]? = some y) (hlt : leS y.name x.name = false) : InsIn xs (swp ys j (j - 1)) a i (j - 1) := by
  obtain ⟨P, T, L1, x', L2, R, hxs, rfl, ha, hj2, hi, hp, hs, h1, h2⟩ := h
  rcases List.eq_nil_or_concat L1 with e | ⟨M, y', e⟩
  · subst e; simp at hj2; omega
  rw [List.concat_eq_append] at e
  subst e
  have el : (M ++ [y']).length = M.length + 1 := by simp
  rw [el] at hj2 hi
  have e0 : P ++ (M ++ [y'] ++ x' :: L2) ++ R = (P ++ M) ++ y' :: ([] ++ x' :: (L2 ++ R)) := by simp
  have ej : j = (P ++ M).length + 1 := by simp; omega
  rw [e0] at hx hy ⊢
  have hy' : y' = y := by
    rw [show j - 1 = (P ++ M).length by omega] at hy
    simpa using hy
  have hx' : x' = x := by
    rw [ej, List.getElem?_append_right (by omega), show (P ++ M).length + 1 - (P ++ M).length = 1 by omega] at hx
    simpa using hx
  subst hy' hx'
  rw [List.nil_append, swp_back (by simp; omega) (by simp; omega)]
  have hxy : leNP x' y' = true := by
    have := leS_ordr.total _ _ hlt
    unfold leNP; rw [this, hlt]; rfl
  refine ⟨P, T, M, x', y' :: L2, R, hxs, by simp, ha, by omega, by simp; omega, ?_, by simpa using hs, ?_, by simpa using h2⟩
  · refine List.Perm.trans ?_ hp
    simp only [List.append_assoc, List.cons_append, List.nil_append]
    exact (List.Perm.swap _ _ _).append_left M
  · intro z hz
    simp at hz
    rw [← hz]; exact hxy
theorem InsIn.done {xs ys : List Nod} {a i j : Nat} (h : InsIn xs ys a i j) (hst : j ≤ a ∨ ∃ x y, ys[j]? = some x ∧ ys[j - 1]? = some y ∧ leS y.name x.name = true) : InsOut xs ys a (i + 1) := by
  obtain ⟨P, T, L1, x', L2, R, hxs, rfl, ha, hj2, hi, hp, hs, h1, h2⟩ := h
  refine ⟨P, T, L1 ++ x' :: L2, R, hxs, rfl, ha, ?_, hp, ?_⟩
  · have := hp.length_eq
    simp at this ⊢
    omega
  · refine ins_srt leNP_ordr.trans hs ?_ h1
    intro z hz
    rcases List.eq_nil_or_concat L1 with e | ⟨M, y', e⟩
    · subst e; cases hz
    rw [List.concat_eq_append] at e
    subst e
    simp at hz
    subst hz
    have el : (M ++ [y']).length = M.length + 1 := by simp
    rw [el] at hj2 hi
    rcases hst with hst | ⟨x, y, hx, hy, hle⟩
    · omega
    have e0 : P ++ (M ++ [y'] ++ x' :: L2) ++ R = (P ++ M) ++ y' :: ([] ++ x' :: (L2 ++ R)) := by simp
    have ej : j = (P ++ M).length + 1 := by simp; omega
    rw [e0] at hx hy
    have hy' : y' = y := by
      rw [show j - 1 = (P ++ M).length by omega] at hy
      simpa using hy
    have hx' : x' = x := by
      rw [ej, List.getElem?_append_right (by omega), show (P ++ M).length + 1 - (P ++ M).length = 1 by omega] at hx
      simpa using hx
    subst hy' hx'
    have hp2 := h2 y' (by simp)
    unfold leNP
    rw [hle]
    simp
    exact .inr (by omega)
theorem InsOut.start {xs : List Nod} {a : Nat} (h : a < xs.length) : InsOut xs xs a (a + 1) := by
  refine ⟨xs.take a, [xs[a]], [xs[a]], xs.drop (a + 1), ?_, ?_, by simp; omega, by simp; omega, List.Perm.refl _, List.pairwise_singleton _ _⟩ <;>
  · rw [List.append_assoc, List.singleton_append, List.getElem_cons_drop, List.take_append_drop]
theorem InsOut.next {xs ys : List Nod} {a i b : Nat} (h : InsOut xs ys a i) (hi : i < b) (hb : b ≤ xs.length) (hp : (seg xs a b).Pairwise fun x y => x.path < y.path) : InsIn xs ys a i i := by
  obtain ⟨P, T, T', R, hxs, rfl, ha, hai, hpm, hs⟩ := h
  have hR : R ≠ [] := by
    intro e; subst e; rw [hxs] at hb; simp at hb hai; omega
  obtain ⟨x, R', rfl⟩ := List.exists_cons_of_ne_nil hR
  have hl := hpm.length_eq
  rw [List.length_append] at hai
  have hseg : seg xs a b = T ++ x :: R'.take (b - i - 1) := by
    unfold seg
    rw [hxs, List.append_assoc, ← ha, List.drop_left', List.take_append, List.take_of_length_le (by omega), show b - P.length - T.length = (b - i - 1) + 1 by omega, List.take_succ_cons]
    rfl
  rw [hseg] at hp
  have hx := (List.pairwise_append.1 hp).2.2
  refine ⟨P, T ++ [x], T', x, [], R', by rw [hxs]; simp, by simp, ha, by omega, by simp; omega, hpm.append_right [x], by simpa using hs, by simp, ?_⟩
  intro y hy
  rw [List.append_nil] at hy
  exact hx y (hpm.mem_iff.1 hy) x (by simp)
theorem InsOut.mended {xs ys : List Nod} {a b : Nat} (h : InsOut xs ys a b) : Mended xs ys a b ∧ Srt leNP (seg ys a b) := by
  obtain ⟨P, T, T', R, hxs, rfl, ha, hai, hpm, hs⟩ := h
  refine ⟨⟨P, T, T', R, hxs, rfl, ha, hai, hpm⟩, ?_⟩
  rw [seg_mid ha (by rw [List.length_append, hpm.length_eq, ← List.length_append]; exact hai)]
  exact hs
end
end Go.Proofs.YtkefjeabckainaaGreat

namespace Go.Proofs.YtkefjeabckainaaGreat
section
set_option linter.unusedVariables false

def nth (xs : List Nod) (k : Nat) : Nod := xs[k]?.getD zeroNod
theorem nth_get {xs : List Nod} {k : Nat} (h : k < xs.length) : xs[k] = nth xs k := by unfold nth; rw [List.getElem?_eq_getElem h]; rfl
theorem nth_some {xs : List Nod} {k : Nat} (h : k < xs.length) : xs[k]? = some (nth xs k) := by rw [← nth_get h]; exact List.getElem?_eq_getElem h
def Mono (p : Nat → Bool) (lo hi : Nat) : Prop := ∀ k k', lo ≤ k → k < k' → k' < hi → p k = true → p k' = true
structure BS (p : Nat → Bool) (lo hi i j : Nat) : Prop where
  blo : lo ≤ i
  ble : i ≤ j
  bhi : j ≤ hi
  f : ∀ k, lo ≤ k → k < i → p k = false
  t : ∀ k, j ≤ k → k < hi → p k = true
theorem BS.start {p : Nat → Bool} {lo hi : Nat} (h : lo ≤ hi) : BS p lo hi lo hi := ⟨Nat.le_refl _, h, Nat.le_refl _, fun k h1 h2 => by omega, fun k h1 h2 => by omega⟩
theorem BS.up {p : Nat → Bool} {lo hi i j h : Nat} (b : BS p lo hi i j) (m : Mono p lo hi) (h1 : i ≤ h) (h2 : h < j) (hp : p h = false) : BS p lo hi (h + 1) j := by
  have := b.blo; have := b.bhi
  refine ⟨by omega, by omega, b.bhi, fun k k1 k2 => ?_, b.t⟩
  rcases Nat.lt_or_ge k h with c | c
  · cases e : p k with
    | false => rfl
    | true => rw [m k h k1 c (by omega) e] at hp; cases hp
  · rw [show k = h by omega]; exact hp
theorem BS.down {p : Nat → Bool} {lo hi i j h : Nat} (b : BS p lo hi i j) (m : Mono p lo hi) (h1 : i ≤ h) (h2 : h < j) (hp : p h = true) : BS p lo hi i h := by
  have := b.blo; have := b.bhi
  refine ⟨b.blo, h1, by omega, b.f, fun k k1 k2 => ?_⟩
  rcases Nat.lt_or_ge h k with c | c
  · exact m h k (by omega) c k2 hp
  · rw [show k = h by omega]; exact hp
theorem leNP_cross {x y : Nod} (h : x.path < y.path) : leNP x y = leS x.name y.name := by
  unfold leNP
  rw [decide_eq_true (show x.path ≤ y.path by omega), Bool.or_true, Bool.and_true]

structure Hv (xs : List Nod) (a m b : Nat) (P U V S : List Nod) : Prop where
  eq : xs = P ++ U ++ V ++ S
  ha : P.length = a
  hm : (P ++ U).length = m
  hb : (P ++ U ++ V).length = b
  su : Srt leNP U
  sv : Srt leNP V
  cr : ∀ x ∈ U, ∀ y ∈ V, x.path < y.path
def Mrg (P U V S ys : List Nod) : Prop := ∃ T, ys = P ++ T ++ S ∧ T.Perm (U ++ V) ∧ Srt leNP T

theorem Hv.bounds {xs : List Nod} {a m b : Nat} {P U V S : List Nod} (h : Hv xs a m b P U V S) : a + U.length = m ∧ m + V.length = b ∧ b + S.length = xs.length := by
  have h1 := h.ha; have h2 := h.hm; have h3 := h.hb
  rw [h.eq]
  simp only [List.length_append] at *
  omega
theorem Hv.inU {xs : List Nod} {a m b : Nat} {P U V S : List Nod} (h : Hv xs a m b P U V S) {k : Nat} (h1 : a ≤ k) (h2 : k < m) : U[k - a]? = some (nth xs k) := by
  have hh := h.bounds
  have : (P ++ U ++ V ++ S)[k]? = U[k - a]? := by
    rw [List.append_assoc, List.append_assoc, List.getElem?_append_right (by have := h.ha; omega), h.ha, List.getElem?_append_left (by omega)]
  rw [← this, ← h.eq]
  exact nth_some (by omega)
theorem Hv.inV {xs : List Nod} {a m b : Nat} {P U V S : List Nod} (h : Hv xs a m b P U V S) {k : Nat} (h1 : m ≤ k) (h2 : k < b) : V[k - m]? = some (nth xs k) := by
  have hh := h.bounds
  have : (P ++ U ++ V ++ S)[k]? = V[k - m]? := by
    rw [List.append_assoc, List.getElem?_append_right (by have := h.hm; omega), h.hm, List.getElem?_append_left (by omega)]
  rw [← this, ← h.eq]
  exact nth_some (by omega)
theorem Hv.cross {xs : List Nod} {a m b : Nat} {P U V S : List Nod} (h : Hv xs a m b P U V S) {i j : Nat} (h1 : a ≤ i) (h2 : i < m) (h3 : m ≤ j) (h4 : j < b) : leNP (nth xs i) (nth xs j) = leS (nth xs i).name (nth xs j).name :=
  leNP_cross (h.cr _ (List.mem_of_getElem? (h.inU h1 h2)) _ (List.mem_of_getElem? (h.inV h3 h4)))
theorem srt_at {l : List Nod} (h : Srt leNP l) {i j : Nat} {x y : Nod} (hij : i < j) (hx : l[i]? = some x) (hy : l[j]? = some y) : leNP x y = true := by
  obtain ⟨h1, rfl⟩ := List.getElem?_eq_some_iff.1 hx
  obtain ⟨h2, rfl⟩ := List.getElem?_eq_some_iff.1 hy
  exact h.get hij h2
theorem Hv.ltU {xs : List Nod} {a m b : Nat} {P U V S : List Nod} (h : Hv xs a m b P U V S) {i j : Nat} (h1 : a ≤ i) (hij : i < j) (h2 : j < m) : leNP (nth xs i) (nth xs j) = true :=
  srt_at h.su (show i - a < j - a by omega) (h.inU h1 (by omega)) (h.inU (by omega) h2)
theorem Hv.ltV {xs : List Nod} {a m b : Nat} {P U V S : List Nod} (h : Hv xs a m b P U V S) {i j : Nat} (h1 : m ≤ i) (hij : i < j) (h2 : j < b) : leNP (nth xs i) (nth xs j) = true :=
  srt_at h.sv (show i - m < j - m by omega) (h.inV h1 (by omega)) (h.inV (by omega) h2)

def p1 (xs : List Nod) (a : Nat) (k : Nat) : Bool := leNP (nth xs a) (nth xs k)
theorem p1_mono {xs : List Nod} {a m b : Nat} {P U V S : List Nod} (h : Hv xs a m b P U V S) : Mono (p1 xs a) m b := fun k k' h1 h2 h3 hk =>
  leNP_ordr.trans _ _ _ hk (h.ltV h1 h2 h3)
def p2 (xs : List Nod) (m : Nat) (k : Nat) : Bool := !leNP (nth xs k) (nth xs m)
theorem p2_mono {xs : List Nod} {a m b : Nat} {P U V S : List Nod} (h : Hv xs a m b P U V S) : Mono (p2 xs m) a m := fun k k' h1 h2 h3 hk => by
  unfold p2 at *
  cases e : leNP (nth xs k') (nth xs m) with
  | false => rfl
  | true => rw [leNP_ordr.trans _ _ _ (h.ltU h1 h2 h3) e] at hk; cases hk
def p3 (xs : List Nod) (q : Nat) (c : Nat) : Bool := !leNP (nth xs c) (nth xs (q - c))
theorem p3_mono {xs : List Nod} {a m b q lo hi : Nat} {P U V S : List Nod} (h : Hv xs a m b P U V S) (h1 : a ≤ lo) (h2 : hi ≤ m) (h3 : lo < hi → q - lo < b) (h4 : lo < hi → m ≤ q - (hi - 1)) : Mono (p3 xs q) lo hi := fun k k' k1 k2 k3 hk => by
  have := h3 (by omega)
  have := h4 (by omega)
  have := h.bounds
  unfold p3 at *
  cases e : leNP (nth xs k') (nth xs (q - k')) with
  | false => rfl
  | true =>
    have e1 := h.ltU (i := k) (j := k') (by omega) k2 (by omega)
    by_cases hq : q - k' = q - k
    · rw [← hq, leNP_ordr.trans _ _ _ e1 e] at hk; cases hk
    · have e2 := h.ltV (i := q - k') (j := q - k) (by omega) (by omega) (by omega)
      rw [leNP_ordr.trans _ _ _ e1 (leNP_ordr.trans _ _ _ e e2)] at hk; cases hk

def Up (P V1 R : List Nod) (x : Nod) (ys : List Nod) (k : Nat) : Prop := ys = P ++ (V1.take k ++ x :: V1.drop k) ++ R
theorem Up.step {P V1 R ys : List Nod} {x : Nod} {k : Nat} (h : Up P V1 R x ys k) (hk : k < V1.length) : Up P V1 R x (swp ys (P.length + k) (P.length + k + 1)) (k + 1) := by
  unfold Up at *
  have e1 : V1.drop k = V1[k] :: V1.drop (k + 1) := (List.getElem_cons_drop (h := hk)).symm
  have e2 : V1.take (k + 1) = V1.take k ++ [V1[k]] := by rw [List.take_add_one, List.getElem?_eq_getElem hk]; rfl
  have e3 : ys = (P ++ V1.take k) ++ x :: ([] ++ V1[k] :: (V1.drop (k + 1) ++ R)) := by rw [h, e1]; simp only [List.append_assoc, List.cons_append, List.nil_append]
  have hl : (P ++ V1.take k).length = P.length + k := by simp; omega
  rw [e3, swp_mid (by omega) (by simp; omega), e2]
  simp only [List.append_assoc, List.cons_append, List.nil_append]
def Down (P U2 R : List Nod) (x : Nod) (ys : List Nod) (k : Nat) : Prop := ys = P ++ (U2.take k ++ x :: U2.drop k) ++ R
theorem Down.step {P U2 R ys : List Nod} {x : Nod} {k : Nat} (h : Down P U2 R x ys (k + 1)) (hk : k < U2.length) : Down P U2 R x (swp ys (P.length + (k + 1)) (P.length + k)) k := by
  unfold Down at *
  have e1 : U2.drop k = U2[k] :: U2.drop (k + 1) := (List.getElem_cons_drop (h := hk)).symm
  have e2 : U2.take (k + 1) = U2.take k ++ [U2[k]] := by rw [List.take_add_one, List.getElem?_eq_getElem hk]; rfl
  have e3 : ys = (P ++ U2.take k) ++ U2[k] :: x :: (U2.drop (k + 1) ++ R) := by rw [h, e2]; simp only [List.append_assoc, List.cons_append, List.nil_append]
  have hl : (P ++ U2.take k).length = P.length + k := by simp; omega
  rw [e3, swp_back (by omega) (by omega), e1]
  simp only [List.append_assoc, List.cons_append]

theorem Hv.one {xs : List Nod} {a m b i : Nat} {P U V S : List Nod} (h : Hv xs a m b P U V S) (hm : m = a + 1) (hi : BS (p1 xs a) m b i i) :
    Up P (V.take (i - m)) (V.drop (i - m) ++ S) (nth xs a) xs 0 ∧ (V.take (i - m)).length = i - m ∧ ∀ ys, Up P (V.take (i - m)) (V.drop (i - m) ++ S) (nth xs a) ys (i - m) → Mrg P U V S ys := by
  have hbd := h.bounds
  have h1 := hi.blo
  have h2 := hi.bhi
  have hU : U = [nth xs a] := by
    have := h.inU (Nat.le_refl a) (by omega)
    match U, this, hbd with
    | [z], e, _ => simpa using e
    | [], _, hh => simp at hh; omega
    | _ :: _ :: _, _, hh => simp at hh; omega
  have hl : (V.take (i - m)).length = i - m := by rw [List.length_take]; omega
  refine ⟨?_, hl, ?_⟩
  · unfold Up
    rw [List.take_zero, List.drop_zero, List.nil_append]
    have : P ++ U ++ V ++ S = P ++ nth xs a :: V.take (i - m) ++ (V.drop (i - m) ++ S) := by
      have e : V ++ S = V.take (i - m) ++ (V.drop (i - m) ++ S) := by rw [← List.append_assoc, List.take_append_drop]
      rw [List.append_assoc, e]
      generalize nth xs a = z at hU ⊢
      rw [hU]; simp
    rw [← this]; exact h.eq
  · intro ys hy
    unfold Up at hy
    rw [List.take_of_length_le (by omega), List.drop_of_length_le (by omega)] at hy
    refine ⟨V.take (i - m) ++ nth xs a :: V.drop (i - m), by rw [hy]; simp, ?_, ?_⟩
    · generalize nth xs a = z at hU ⊢
      rw [hU]
      refine List.perm_middle.trans ?_
      rw [List.take_append_drop]; exact List.Perm.refl _
    · refine ins_srt leNP_ordr.trans (by rw [List.take_append_drop]; exact h.sv) ?_ ?_
      · intro z hz
        have : z ∈ V.take (i - m) := List.mem_of_getLast? (by simpa using hz)
        obtain ⟨k, hk, rfl⟩ := List.mem_iff_getElem.1 this
        rw [hl] at hk
        have e := hi.f (m + k) (by omega) (by omega)
        have e2 := h.inV (k := m + k) (by omega) (by omega)
        rw [show m + k - m = k by omega] at e2
        have e3 : (V.take (i - m))[k] = nth xs (m + k) := by
          rw [List.getElem_take]; rw [List.getElem?_eq_getElem (by omega)] at e2; simpa using e2
        rw [e3]
        exact leNP_ordr.total _ _ e
      · intro z hz
        by_cases hib : i < b
        · have e := hi.t i (Nat.le_refl _) hib
          have e2 := h.inV (k := i) h1 hib
          have : (V.drop (i - m)).head? = some (nth xs i) := by rw [List.head?_drop]; exact e2
          rw [this] at hz
          cases hz
          exact e
        · rw [List.drop_of_length_le (by omega)] at hz; cases hz
theorem Hv.two {xs : List Nod} {a m b i : Nat} {P U V S : List Nod} (h : Hv xs a m b P U V S) (hm : b = m + 1) (hi : BS (p2 xs m) a m i i) :
    Down (P ++ U.take (i - a)) (U.drop (i - a)) S (nth xs m) xs (m - i) ∧ (U.drop (i - a)).length = m - i ∧ (P ++ U.take (i - a)).length = i ∧ ∀ ys, Down (P ++ U.take (i - a)) (U.drop (i - a)) S (nth xs m) ys 0 → Mrg P U V S ys := by
  have hbd := h.bounds
  have h1 := hi.blo
  have h2 := hi.bhi
  have hV : V = [nth xs m] := by
    have := h.inV (Nat.le_refl m) (by omega)
    match V, this, hbd with
    | [z], e, _ => simpa using e
    | [], _, hh => simp at hh; omega
    | _ :: _ :: _, _, hh => simp at hh; omega
  have hl : (U.drop (i - a)).length = m - i := by simp; omega
  refine ⟨?_, hl, by have := h.ha; simp; omega, ?_⟩
  · unfold Down
    rw [List.take_of_length_le (show (U.drop (i - a)).length ≤ m - i by omega), List.drop_of_length_le (show (U.drop (i - a)).length ≤ m - i by omega)]
    have : P ++ U ++ V ++ S = P ++ U.take (i - a) ++ (U.drop (i - a) ++ [nth xs m]) ++ S := by
      generalize nth xs m = z at hV ⊢
      rw [hV]
      have e : U.take (i - a) ++ U.drop (i - a) = U := List.take_append_drop _ _
      have : P ++ U = P ++ U.take (i - a) ++ U.drop (i - a) := by rw [List.append_assoc, e]
      rw [this]; simp only [List.append_assoc, List.cons_append, List.nil_append]
    rw [← this]; exact h.eq
  · intro ys hy
    unfold Down at hy
    rw [List.take_zero, List.drop_zero, List.nil_append] at hy
    refine ⟨U.take (i - a) ++ nth xs m :: U.drop (i - a), by rw [hy]; simp, ?_, ?_⟩
    · generalize nth xs m = z at hV ⊢
      rw [hV]
      refine List.perm_middle.trans ?_
      rw [List.take_append_drop]; exact (List.perm_append_singleton _ _).symm
    · refine ins_srt leNP_ordr.trans (by rw [List.take_append_drop]; exact h.su) ?_ ?_
      · intro z hz
        have : z ∈ U.take (i - a) := List.mem_of_getLast? (by simpa using hz)
        obtain ⟨k, hk, rfl⟩ := List.mem_iff_getElem.1 this
        have hk' := hk
        simp at hk'
        have e := hi.f (a + k) (by omega) (by omega)
        have e2 := h.inU (k := a + k) (by omega) (by omega)
        rw [show a + k - a = k by omega] at e2
        have e3 : (U.take (i - a))[k] = nth xs (a + k) := by
          rw [List.getElem_take]; rw [List.getElem?_eq_getElem (by omega)] at e2; simpa using e2
        rw [e3]
        unfold p2 at e
        simpa using e
      · intro z hz
        by_cases hib : i < m
        · have e := hi.t i (Nat.le_refl _) hib
          have e2 := h.inU (k := i) h1 hib
          have : (U.drop (i - a)).head? = some (nth xs i) := by rw [List.head?_drop]; exact e2
          rw [this] at hz
          cases hz
          unfold p2 at e
          exact leNP_ordr.total _ _ (by simpa using e)
        · rw [List.drop_of_length_le (by omega)] at hz; cases hz
structure Sym (xs : List Nod) (a m b mid st e : Nat) (P U1 U2 V1 V2 S : List Nod) : Prop where
  eq : xs = P ++ U1 ++ U2 ++ V1 ++ (V2 ++ S)
  l1 : P.length = a
  l2 : (P ++ U1).length = st
  l3 : (P ++ U1 ++ U2).length = m
  l4 : (P ++ U1 ++ U2 ++ V1).length = e
  l5 : (P ++ U1 ++ U2 ++ V1 ++ V2).length = b
  mid : st + e = mid + m
  sU : Srt leNP (U1 ++ U2)
  sV : Srt leNP (V1 ++ V2)
  cr : ∀ x ∈ U1 ++ U2, ∀ y ∈ V1 ++ V2, x.path < y.path
  le : ∀ x ∈ U1 ++ V1, ∀ y ∈ U2 ++ V2, leNP x y = true
theorem Hv.three {xs : List Nod} {a m b mid st lo hi : Nat} {P U V S : List Nod} (h : Hv xs a m b P U V S) (hb : BS (p3 xs (mid + m - 1)) lo hi st st) (hm1 : a < m) (hm2 : m < b)
    (hc : (m ≤ mid ∧ lo = a ∧ hi = m ∧ mid + m ≤ a + b) ∨ (mid < m ∧ lo + b = mid + m ∧ hi = mid ∧ a ≤ lo ∧ a < mid)) :
    Sym xs a m b mid st (mid + m - st) P (U.take (st - a)) (U.drop (st - a)) (V.take (mid - st)) (V.drop (mid - st)) S := by
  have hbd := h.bounds
  have k1 := hb.blo
  have k2 := hb.bhi
  have ha := h.ha
  have eU : U.take (st - a) ++ U.drop (st - a) = U := List.take_append_drop _ _
  have eV : V.take (mid - st) ++ V.drop (mid - st) = V := List.take_append_drop _ _
  have hst : st ≤ mid ∧ st ≤ m ∧ a ≤ st ∧ mid - st ≤ V.length := by omega
  have q1 : (U.take (st - a)).length = st - a := by simp; omega
  have q2 : (U.drop (st - a)).length = m - st := by simp; omega
  have q3 : (V.take (mid - st)).length = mid - st := by simp; omega
  have q4 : (V.drop (mid - st)).length = V.length - (mid - st) := by simp
  refine ⟨?_, ha, by simp only [List.length_append]; omega, by simp only [List.length_append]; omega, by simp only [List.length_append]; omega, by simp only [List.length_append]; omega, by omega, by rw [eU]; exact h.su, by rw [eV]; exact h.sv, by rw [eU, eV]; exact h.cr, ?_⟩
  · have : P ++ U ++ V ++ S = P ++ (U.take (st - a) ++ U.drop (st - a)) ++ (V.take (mid - st) ++ V.drop (mid - st)) ++ S := by rw [eU, eV]
    rw [h.eq, this]; simp only [List.append_assoc]
  · refine sym_parts leNP_ordr (by rw [eU]; exact h.su) (by rw [eV]; exact h.sv) ?_ ?_
    · intro x hx y hy
      by_cases c : lo < st
      · have e := hb.f (st - 1) (by omega) (by omega)
        have x1 : (U.take (st - a)).getLast? = some (nth xs (st - 1)) := by
          rw [List.getLast?_eq_getElem?, q1, List.getElem?_take_of_lt (by omega)]
          have := h.inU (k := st - 1) (by omega) (by omega)
          rw [← this]; congr 1; omega
        by_cases c2 : mid + m - st < b
        · have y1 : (V.drop (mid - st)).head? = some (nth xs (mid + m - st)) := by
            rw [List.head?_drop]
            have := h.inV (k := mid + m - st) (by omega) c2
            rw [← this]; congr 1; omega
          rw [x1] at hx; rw [y1] at hy
          cases hx; cases hy
          unfold p3 at e
          rw [show mid + m - 1 - (st - 1) = mid + m - st by omega] at e
          simpa using e
        · rw [List.drop_of_length_le (by omega)] at hy; cases hy
      · rcases hc with c2 | c2
        · rw [show st - a = 0 by omega] at hx; cases hx
        · rw [List.drop_of_length_le (by omega)] at hy; cases hy
    · intro x hx y hy
      by_cases c : st < hi
      · have e := hb.t st (Nat.le_refl _) c
        have x1 : (V.take (mid - st)).getLast? = some (nth xs (mid + m - 1 - st)) := by
          rw [List.getLast?_eq_getElem?, q3, List.getElem?_take_of_lt (by omega)]
          have := h.inV (k := mid + m - 1 - st) (by omega) (by omega)
          rw [← this]; congr 1; omega
        have y1 : (U.drop (st - a)).head? = some (nth xs st) := by
          rw [List.head?_drop]; exact h.inU (by omega) (by omega)
        rw [x1] at hx; rw [y1] at hy
        cases hx; cases hy
        unfold p3 at e
        exact leNP_ordr.total _ _ (by simpa using e)
      · rcases hc with c2 | c2
        · rw [List.drop_of_length_le (by omega)] at hy; cases hy
        · rw [show mid - st = 0 by omega] at hx; cases hx
theorem Sym.turned {xs : List Nod} {a m b mid st e : Nat} {P U1 U2 V1 V2 S : List Nod} (h : Sym xs a m b mid st e P U1 U2 V1 V2 S) (hn : ¬ (st < m ∧ m < e)) : xs = P ++ U1 ++ V1 ++ U2 ++ (V2 ++ S) := by
  have h1 := h.l1; have h2 := h.l2; have h3 := h.l3; have h4 := h.l4; have h5 := h.l5
  simp only [List.length_append] at *
  rw [h.eq]
  by_cases c : st < m
  · have : V1 = [] := List.length_eq_zero_iff.1 (by omega)
    subst this; simp
  · have : U2 = [] := List.length_eq_zero_iff.1 (by omega)
    subst this; simp
theorem Sym.left {xs : List Nod} {a m b mid st e : Nat} {P U1 U2 V1 V2 S : List Nod} (h : Sym xs a m b mid st e P U1 U2 V1 V2 S) : Hv (P ++ U1 ++ V1 ++ U2 ++ (V2 ++ S)) a st mid P U1 V1 (U2 ++ (V2 ++ S)) := by
  have h1 := h.l1; have h2 := h.l2; have h3 := h.l3; have h4 := h.l4; have h5 := h.l5; have h6 := h.mid
  refine ⟨by simp only [List.append_assoc], h1, h2, ?_, h.sU.left, h.sV.left, fun x hx y hy => h.cr x (by simp [hx]) y (by simp [hy])⟩
  simp only [List.length_append] at *
  omega
theorem Mrg.lone {P U V S : List Nod} (h1 : Srt leNP U) (h2 : Srt leNP V) (h : U = [] ∨ V = []) : Mrg P U V S (P ++ U ++ V ++ S) :=
  ⟨U ++ V, by simp only [List.append_assoc], List.Perm.refl _, by rcases h with h | h <;> subst h <;> simpa⟩
theorem Sym.left0 {xs : List Nod} {a m b mid st e : Nat} {P U1 U2 V1 V2 S : List Nod} (h : Sym xs a m b mid st e P U1 U2 V1 V2 S) (hn : ¬ (a < st ∧ st < mid)) : Mrg P U1 V1 (U2 ++ (V2 ++ S)) (P ++ U1 ++ V1 ++ U2 ++ (V2 ++ S)) := by
  have h1 := h.l1; have h2 := h.l2; have h3 := h.l3; have h4 := h.l4; have h5 := h.l5; have h6 := h.mid
  have := Mrg.lone (P := P) (S := U2 ++ (V2 ++ S)) h.sU.left h.sV.left (by
    simp only [List.length_append] at *
    by_cases c : a < st
    · exact .inr (List.length_eq_zero_iff.1 (by omega))
    · exact .inl (List.length_eq_zero_iff.1 (by omega)))
  simpa only [List.append_assoc] using this
def Rgt (P U1 U2 V1 V2 S ys : List Nod) (T1 : List Nod) : Prop := ys = P ++ T1 ++ U2 ++ V2 ++ S ∧ T1.Perm (U1 ++ V1) ∧ Srt leNP T1
theorem Mrg.rgt {P U1 U2 V1 V2 S ys : List Nod} (h : Mrg P U1 V1 (U2 ++ (V2 ++ S)) ys) : ∃ T1, Rgt P U1 U2 V1 V2 S ys T1 := by
  obtain ⟨T, h1, h2, h3⟩ := h
  exact ⟨T, by rw [h1]; simp only [List.append_assoc], h2, h3⟩
theorem Sym.right {xs : List Nod} {a m b mid st e : Nat} {P U1 U2 V1 V2 S ys T1 : List Nod} (h : Sym xs a m b mid st e P U1 U2 V1 V2 S) (hr : Rgt P U1 U2 V1 V2 S ys T1) : Hv ys mid e b (P ++ T1) U2 V2 S := by
  have h1 := h.l1; have h2 := h.l2; have h3 := h.l3; have h4 := h.l4; have h5 := h.l5; have h6 := h.mid
  have hl := hr.2.1.length_eq
  simp only [List.length_append] at *
  refine ⟨hr.1, ?_, ?_, ?_, h.sU.right, h.sV.right, fun x hx y hy => h.cr x (by simp [hx]) y (by simp [hy])⟩ <;> simp only [List.length_append] <;> omega
theorem Sym.right0 {xs : List Nod} {a m b mid st e : Nat} {P U1 U2 V1 V2 S ys T1 : List Nod} (h : Sym xs a m b mid st e P U1 U2 V1 V2 S) (hr : Rgt P U1 U2 V1 V2 S ys T1) (hn : ¬ (mid < e ∧ e < b)) : Mrg (P ++ T1) U2 V2 S ys := by
  have h1 := h.l1; have h2 := h.l2; have h3 := h.l3; have h4 := h.l4; have h5 := h.l5; have h6 := h.mid
  have := Mrg.lone (P := P ++ T1) (S := S) h.sU.right h.sV.right (by
    simp only [List.length_append] at *
    by_cases c : mid < e
    · exact .inr (List.length_eq_zero_iff.1 (by omega))
    · exact .inl (List.length_eq_zero_iff.1 (by omega)))
  rw [hr.1]; exact this
theorem Sym.whole {xs : List Nod} {a m b mid st e : Nat} {P U1 U2 V1 V2 S ys T1 zs : List Nod} (h : Sym xs a m b mid st e P U1 U2 V1 V2 S) (hr : Rgt P U1 U2 V1 V2 S ys T1) (hm : Mrg (P ++ T1) U2 V2 S zs) : Mrg P (U1 ++ U2) (V1 ++ V2) S zs := by
  obtain ⟨T2, k1, k2, k3⟩ := hm
  refine ⟨T1 ++ T2, by rw [k1]; simp only [List.append_assoc], ?_, ?_⟩
  · refine (hr.2.1.append k2).trans ?_
    simp only [List.append_assoc]
    refine List.Perm.append_left _ ?_
    simp only [← List.append_assoc]
    exact (List.perm_append_comm).append_right _
  · exact Srt.app hr.2.2 k3 fun x hx y hy => h.le x (hr.2.1.mem_iff.1 hx) y (k2.mem_iff.1 hy)
end
end Go.Proofs.YtkefjeabckainaaGreat

namespace Go.Proofs.YtkefjeabckainaaGreat
section
set_option linter.unusedVariables false

def Cut (l0 xs : List Nod) (c : Nat) : Prop := (xs.take c).Perm (l0.take c)
theorem Mended.take {xs ys : List Nod} {a b c : Nat} (h : Mended xs ys a b) (hc : c ≤ a ∨ b ≤ c) : (ys.take c).Perm (xs.take c) := by
  obtain ⟨P, T, T', S, rfl, rfl, ha, hb, hp⟩ := h
  have hl := hp.length_eq
  rw [List.length_append] at hb
  rcases hc with hc | hc
  · rw [List.append_assoc, List.append_assoc, List.take_append_of_le_length (by omega), List.take_append_of_le_length (by omega)]
  · have e1 : (P ++ T').length ≤ c := by simp; omega
    have e2 : (P ++ T).length ≤ c := by simp; omega
    rw [List.take_append (l₁ := P ++ T'), List.take_append (l₁ := P ++ T), List.take_of_length_le e1, List.take_of_length_le e2, show (P ++ T').length = (P ++ T).length by simp; omega]
    exact (hp.append_left P).append_right _
theorem Cut.mended {l0 xs ys : List Nod} {a b c : Nat} (h : Cut l0 xs c) (hm : Mended xs ys a b) (hc : c ≤ a ∨ b ≤ c) : Cut l0 ys c := (hm.take hc).trans h
theorem Cut.cross {l0 xs : List Nod} {m : Nat} (h : Cut l0 xs m) (hw : xs.Perm l0) (hp : l0.Pairwise fun x y => x.path < y.path) (a b : Nat) : ∀ x ∈ seg xs a m, ∀ y ∈ seg xs m b, x.path < y.path := by
  intro x hx y hy
  unfold seg at hx hy
  rw [← List.drop_take] at hx
  have x1 : x ∈ l0.take m := h.mem_iff.1 (List.mem_of_mem_drop hx)
  have hd : (xs.drop m).Perm (l0.drop m) := by
    refine (List.perm_append_left_iff (xs.take m)).1 ?_
    rw [List.take_append_drop]
    refine hw.trans ?_
    have := h.symm.append_right (l0.drop m)
    rwa [List.take_append_drop] at this
  have y1 : y ∈ l0.drop m := hd.mem_iff.1 (List.mem_of_mem_take hy)
  rw [← List.take_append_drop m l0] at hp
  exact (List.pairwise_append.1 hp).2.2 x x1 y y1
theorem hv_of {xs : List Nod} {a m b : Nat} (h1 : a ≤ m) (h2 : m ≤ b) (h3 : b ≤ xs.length) (su : Srt leNP (seg xs a m)) (sv : Srt leNP (seg xs m b)) (cr : ∀ x ∈ seg xs a m, ∀ y ∈ seg xs m b, x.path < y.path) : ∃ P U V S, Hv xs a m b P U V S := by
  refine ⟨xs.take a, seg xs a m, seg xs m b, xs.drop b, ?_, by simp; omega, ?_, ?_, su, sv, cr⟩
  · rw [List.append_assoc (xs.take a), seg_join xs h1 h2]
    unfold seg
    rw [List.append_assoc]
    have : xs.drop b = (xs.drop a).drop (b - a) := by rw [List.drop_drop, show a + (b - a) = b by omega]
    rw [this, List.take_append_drop, List.take_append_drop]
  · rw [List.length_append, seg_length xs h1 (by omega)]; simp; omega
  · rw [List.length_append, List.length_append, seg_length xs h1 (by omega), seg_length xs h2 h3]; simp; omega
theorem Hv.mended {xs ys : List Nod} {a m b : Nat} {P U V S : List Nod} (h : Hv xs a m b P U V S) (hm : Mrg P U V S ys) : Mended xs ys a b ∧ Srt leNP (seg ys a b) := by
  obtain ⟨T, rfl, h2, h3⟩ := hm
  have hb := h.hb
  have hl := h2.length_eq
  rw [List.append_assoc, List.length_append] at hb
  refine ⟨⟨P, U ++ V, T, S, by rw [h.eq]; simp only [List.append_assoc], rfl, h.ha, by rw [List.length_append]; exact hb, h2⟩, ?_⟩
  rw [seg_mid h.ha (by rw [List.length_append, hl]; exact hb)]
  exact h3
structure StA (l0 xs : List Nod) (q : Nat) : Prop where
  perm : xs.Perm l0
  done : Done leNP xs 20 q
  cut : ∀ k, Cut l0 xs (k * 20)
  rest : ∀ lo hi, q * 20 ≤ lo → seg xs lo hi = seg l0 lo hi
structure StB (l0 xs : List Nod) (bs : Nat) : Prop where
  perm : xs.Perm l0
  srt : ∀ k, Srt leNP (seg xs (k * bs) (k * bs + bs))
  cut : ∀ k, Cut l0 xs (k * bs)
structure StM (l0 xs : List Nod) (bs q : Nat) : Prop where
  perm : xs.Perm l0
  md : MDone leNP xs bs q
  c2 : ∀ k, Cut l0 xs (k * (2 * bs))
  c1 : ∀ k, 2 * q ≤ k → Cut l0 xs (k * bs)
theorem StA.start (l0 : List Nod) : StA l0 l0 0 := ⟨List.Perm.refl _, fun k h => by omega, fun k => List.Perm.refl _, fun _ _ _ => rfl⟩
theorem StA.step {l0 xs ys : List Nod} {q : Nat} (h : StA l0 xs q) (hm : Mended xs ys (q * 20) (q * 20 + 20)) (hs : Srt leNP (seg ys (q * 20) (q * 20 + 20))) : StA l0 ys (q + 1) :=
  ⟨hm.perm.trans h.perm, h.done.step hm hs, fun k => (h.cut k).mended hm (by omega), fun lo hi hl => by rw [hm.behind (by omega)]; exact h.rest lo hi (by omega)⟩
theorem StA.last {l0 xs ys : List Nod} {q : Nat} (h : StA l0 xs q) (hq : xs.length < q * 20 + 20) (hm : Mended xs ys (q * 20) xs.length) (hs : Srt leNP (seg ys (q * 20) xs.length)) : StB l0 ys 20 :=
  ⟨hm.perm.trans h.perm, h.done.last hq hm hs, fun k => (h.cut k).mended hm (by omega)⟩
theorem StB.start {l0 xs : List Nod} {bs : Nat} (h : StB l0 xs bs) : StM l0 xs bs 0 :=
  ⟨h.perm, .start h.srt, fun k => by have := h.cut (k * 2); rwa [Nat.mul_assoc] at this, fun k _ => h.cut k⟩
theorem StM.hv {l0 xs : List Nod} {bs q b : Nat} (h : StM l0 xs bs q) (hp : l0.Pairwise fun x y => x.path < y.path) (h2 : q * (2 * bs) + bs ≤ b) (h3 : b ≤ xs.length) (hb : b = q * (2 * bs) + 2 * bs ∨ (b = xs.length ∧ xs.length ≤ q * (2 * bs) + 2 * bs)) : ∃ P U V S, Hv xs (q * (2 * bs)) (q * (2 * bs) + bs) b P U V S := by
  have ht := h.md.two
  refine hv_of (by omega) h2 h3 ht.1 ?_ ?_
  · rcases hb with e | ⟨e, hle⟩
    · rw [e]; exact ht.2
    · rw [seg_end xs (c := q * (2 * bs) + 2 * bs) (by omega) (by omega)]; exact ht.2
  · refine Cut.cross ?_ h.perm hp _ _
    have := h.c1 (2 * q + 1) (by omega)
    rwa [show (2 * q + 1) * bs = q * (2 * bs) + bs by rw [Nat.add_mul, Nat.one_mul, Nat.mul_comm 2 q, Nat.mul_assoc]] at this
theorem mul_mono2 (bs : Nat) {k q : Nat} : k * (2 * bs) ≤ q * (2 * bs) ∨ q * (2 * bs) + 2 * bs ≤ k * (2 * bs) := by
  rcases Nat.lt_or_ge q k with h | h
  · right
    have := Nat.mul_le_mul_right (2 * bs) (show q + 1 ≤ k from h)
    rwa [Nat.add_mul, Nat.one_mul] at this
  · exact .inl (Nat.mul_le_mul_right _ h)
theorem StM.step {l0 xs ys : List Nod} {bs q : Nat} (h : StM l0 xs bs q) (hm : Mended xs ys (q * (2 * bs)) (q * (2 * bs) + 2 * bs)) (hs : Srt leNP (seg ys (q * (2 * bs)) (q * (2 * bs) + 2 * bs))) : StM l0 ys bs (q + 1) :=
  ⟨hm.perm.trans h.perm, h.md.step hm hs, fun k => (h.c2 k).mended hm (mul_mono2 bs), fun k hk => (h.c1 k (by omega)).mended hm (.inr (by
    have := Nat.mul_le_mul_right bs hk
    rw [Nat.mul_comm 2 (q + 1), Nat.mul_assoc, Nat.add_mul, Nat.one_mul] at this
    exact this))⟩
theorem StM.last {l0 xs ys : List Nod} {bs q : Nat} (h : StM l0 xs bs q) (hq : xs.length < q * (2 * bs) + 2 * bs) (hm : Mended xs ys (q * (2 * bs)) xs.length) (hs : Srt leNP (seg ys (q * (2 * bs)) xs.length)) : StB l0 ys (2 * bs) :=
  ⟨hm.perm.trans h.perm, h.md.last hq hm hs, fun k => (h.c2 k).mended hm (by rcases mul_mono2 bs (k := k) (q := q) with h | h <;> omega)⟩
theorem StM.rest {l0 xs : List Nod} {bs q : Nat} (h : StM l0 xs bs q) (hq : xs.length ≤ q * (2 * bs) + bs) : StB l0 xs (2 * bs) := ⟨h.perm, h.md.rest hq, h.c2⟩
theorem StB.all {l0 xs : List Nod} {bs : Nat} (h : StB l0 xs bs) (hb : xs.length ≤ bs) : Srt leNP xs ∧ xs.Perm l0 := ⟨all_srt h.srt hb, h.perm⟩
end
end Go.Proofs.YtkefjeabckainaaGreat
