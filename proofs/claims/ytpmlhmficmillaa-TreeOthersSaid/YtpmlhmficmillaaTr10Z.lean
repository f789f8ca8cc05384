/- Make of package tree. Conditions: what TrOk asks, every path below the next. -/
import Derived.Test.YtpmlhmficmillaaBunTB
namespace Go.Proofs.Ytpmlhmficmillaa
open Go.RowKit
set_option maxRecDepth 100000
set_option linter.unusedVariables false

def TreePE (w : World) (r : Tr × Nat × Nat) (e : Ending) (w' : World) : Prop := ∃ v', e = .returned (.tuple #[.agg #[.int .u64 (r.1.next : Int), v'], .int .u64 (r.2.1 : Int), .int .i64 (r.2.2 : Int)]) ∧ NodsAt w' v' r.1.n ∧ (∀ k, v'.ownBlock = some k → w.heap.size ≤ k) ∧ Below w.heap.size w w'
theorem TrSt.twoK {p q r x : Nat} {v : Value} {l : List Nod} {n : Nod} {w : World} (h : TrSt p q r x v l n w) {k : Nat} (hp : p ≠ k) (hq : q ≠ k) (i j : Nat) (u1 u2 : Value) :
    ((w.setCell ⟨k, i, none⟩ u1).setCell ⟨k, j, none⟩ u2).heap[p]? = some (.cells #[.int .u64 (x : Int), v] 25 (0, 0)) ∧ ((w.setCell ⟨k, i, none⟩ u1).setCell ⟨k, j, none⟩ u2).heap[q]? = some (.cells n.cells 56 (0, 0)) :=
  ⟨(block_set_other (by show p ≠ k; exact hp)).trans ((block_set_other (by show p ≠ k; exact hp)).trans h.tr), (block_set_other (by show q ≠ k; exact hq)).trans ((block_set_other (by show q ≠ k; exact hq)).trans h.nd)⟩
theorem makeT_may (t : Tr) (d : Nat) (name : ByteArray) (mode : Nat) (uid gid : ByteArray) (now : Nat) (x : Nod) (hg : getL t.n d = some x) (h1 : dirB x = true) (h2 : x.gone = false) (hlow : ∀ n ∈ t.n, 1 ≤ n.path) : makeT t d name mode uid gid now = if mayE t.n d name 0 ≠ 0 then (t, 0, mayE t.n d name 0) else if 64 ≤ t.n.length then (t, 0, 14) else (⟨t.next + 1, setL (setL t.n (touchN x uid now)) (newN t.next mode now name uid gid d)⟩, t.next, 0) := by
  unfold makeT mayE
  rw [hg]
  simp only
  rw [if_neg (by rw [h1]; simp), h2, if_neg (by simp)]
  by_cases hn : nameN name = 0
  · have hn' : ¬ (nameN name ≠ 0) := fun h => h hn
    simp only [if_neg hn']
    cases hf : findL t.n d name with
    | none => simp
    | some y =>
      have hy := hlow y (findL_some hf).1
      have : y.path ≠ 0 := by omega
      simp [this]
  · have hn' : nameN name ≠ 0 := hn
    simp only [if_pos hn']
set_option maxHeartbeats 6400000 in
theorem tmake_any (v : Value) (x : Nat) (l : List Nod) (p : Nat) (name : ByteArray) (mode : Nat) (uid gid : ByteArray) (now : Nat) (w : World) (hv : NodsAt w v l) (ht : TrOk l) (hname : name.size ≤ maxLen) (hx : x + 1 < 18446744073709551616) (hnext : ∀ n ∈ l, n.path < x) (hmode : mode < 4294967296) (hnow : now < 4294967296) :
    Calls Try.prog 17 #[.agg #[.int .u64 (x : Int), v], .int .u64 (p : Int), .string name, .int .u32 (mode : Int), .string uid, .string gid, .int .u32 (now : Int)] w (TreePE w (makeT ⟨x, l⟩ p name mode uid gid now)) := by
  obtain ⟨a, c, rfl, g1, g2⟩ := hv.form
  unfold maxLen at g2
  obtain ⟨W, hW⟩ : ∃ W, W = (w.alloc (.cells #[.int .u64 (x : Int), .slice a l.length c] 25)).alloc (.cells #[.int .u64 0, .slice none 0 0] 25) := ⟨_, rfl⟩
  have hb0 : Below w.heap.size w W := by rw [hW]; exact ((Below.refl w.heap.size w).alloc (Nat.le_refl _) _).alloc (by simp) _
  have hx0 : W.heap[w.heap.size]? = some (.cells #[.int .u64 (x : Int), .slice a l.length c] 25 (0, 0)) := by rw [hW, heap_alloc_old _ _ (by simp), heap_alloc_new]
  have hy0 : W.heap[w.heap.size + 1]? = some (.cells #[.int .u64 0, .slice none 0 0] 25 (0, 0)) := by rw [hW]; exact heap2 _ _ _
  have hfi := hid (get_any _ x l p W (hv.below hb0) ht.sort (by have := ht.few; omega))
  have hap := hid (fun X (h : NodsAt X (.slice a l.length c) l) => apart_any _ x l X h (by have := ht.few; omega) ht.low)
  have e0 := block_cell hx0 0
  have e1 := block_cell hx0 1
  have hv0 := hid (hv.below hb0)
  replace hb0 := hid hb0
  replace hx0 := hid hx0
  replace hy0 := hid hy0
  go_enter Try.func17, Try.ntmps17
  go_upto_region 1 with (rw [← hW]; replace hW := hid hW)
  try (rw [← hW]; replace hW := hid hW)
  go_wp2_with fail
  refine hfi.out.mono ?_
  rintro e w2 ⟨rfl, hb2⟩
  have hB2 := hid (sn hb0.out hb2)
  have hs2 := hid (lt_of_block ((hb2.block _ (lt_of_block hy0.out)).trans hy0.out))
  obtain ⟨n, hn⟩ : ∃ n, n = getN l p := ⟨_, rfl⟩
  have hnew := hid (heap_alloc_new w2 (.cells zeroNod.cells 56))
  obtain ⟨X, hX⟩ : ∃ W, W = boxN w2 n := ⟨_, rfl⟩
  have hbX : Below w2.heap.size w2 X := by rw [hX]; exact boxN_below _ _
  have hBX := hid (sn hB2.out hbX)
  have hA : TrSt w.heap.size w2.heap.size (w.heap.size + 1) x (.slice a l.length c) l n X :=
    ⟨(hbX.block _ (by have := hs2.out; omega)).trans ((hb2.block _ (lt_of_block hx0.out)).trans hx0.out), by rw [hX]; exact boxN_heap _ _, (hbX.block _ hs2.out).trans ((hb2.block _ (lt_of_block hy0.out)).trans hy0.out), (hv0.out.below hb2).below hbX⟩
  have hapc := hid (hap.out X hA.row)
  have q0 := hA.t0
  have q1 := hA.t1
  unfold boxN at hX
  rw [zeroNod_cells] at hX hnew
  rw [← hn]
  clear hb2 hbX hfi e0 e1 hB2 hx0 hy0 hv0 hb0
  replace hA := hid hA
  replace hn := hid hn
  go_upto_region 2 with (first
    | (rw [← hX]; replace hX := hid hX)
    | (refine wpList_store_row (by rfl) 56 (.tmp 17) (.tmp 26) (by rfl) w2.heap.size n.cells (by rfl) (by rfl) 56 _ hnew.out (by kernel_rfl) (by kernel_rfl) (nod_one n) ?_))
  try (rw [← hX]; replace hX := hid hX)
  clear hnew
  generalize w2.heap.size = z at *
  have q10 : X.cell? ⟨z, 10, none⟩ = some (.bool n.gone) := block_cell hA.out.nd 10
  cases hg : getL l p with
  | none =>
    have hdE := hid (show makeT ⟨x, l⟩ p name mode uid gid now = (⟨x, l⟩, 0, 6) by unfold makeT; rw [hg])
    simp only [Option.isSome_none]
    clear hg
    go_wp2_with fail
    refine hapc.out.mono ?_
    rintro e w9 ⟨v9, rfl, hv9, hf9, hb9⟩
    have hres := hid (hA.out.below hb9).res
    have hB9 := hid (sn hBX.out hb9)
    have hsz := hid hBX.out.size
    have hlt := hid (lt_of_block hA.out.res)
    have hN := hid (NodsAt.other (w' := w9.setRow (w.heap.size + 1) #[.int .u64 (x : Int), v9]) hv9 (w.heap.size + 1) (fun e => by have := hf9 _ e; have := hlt.out; omega) (by simp) (fun k hk => setRow_other _ _ _ _ hk))
    have hF := hid (show ∀ k, v9.ownBlock = some k → w.heap.size ≤ k from fun k hk => Nat.le_trans hsz.out (hf9 k hk))
    obtain ⟨a9, c9, rfl, _, _⟩ := hv9.form
    clear hb9 hv9 hf9 hapc q0 q1 q10
    go_wp2_with (refine wpList_store_row (by rfl) 25 (.tmp 14) (.tmp 53) (by rfl) (w.heap.size + 1) #[.int .u64 (x : Int), .slice a9 l.length c9] (by rfl) (by rfl) 25 _ hres.out (by kernel_rfl) (by kernel_rfl) (by kernel_rfl) ?_)
    refine bodyPost_ret (results_css rfl _ _ (w.heap.size + 1) _ _ _ _ _ _ rfl rfl rfl (setRow_heap _ _ _ #[.int .u64 (x : Int), .slice a9 l.length c9] _ _ hres.out) Try.underlying25 rfl (by kernel_rfl)) rfl ?_
    refine ⟨.slice a9 l.length c9, ?_, ?_, hF.out, below_setRow hB9.out (by omega) _⟩
    · rw [hdE.out]; rfl
    · rw [hdE.out]; exact hN.out
  | some y =>
    have hny : n = y := by rw [hn.out]; unfold getN; rw [hg]; rfl
    subst hny
    simp only [Option.isSome_some]
    obtain ⟨hmem, hpath⟩ := getL_some hg
    have hnok := hid (ht.ok n hmem)
    have hdir := hid (tdir_any n X hnok.out)
    have hnd := hid hA.out.nd
    go_wp2_with (refine wpList_load_row (by rfl) 56 (.tmp 17) (by rfl) z (by rfl) 56 n.cells (0, 0) _ hnd.out Try.underlying56 (by rfl) (by kernel_rfl) ?_)
    refine hdir.out.mono ?_
    rintro e w3 ⟨rfl, hb3⟩
    have hA0 := hA.out.below hb3
    have hBX0 := hid (sn hBX.out hb3)
    clear hA hBX q0 q1 q10 hb3 hdir hapc hnd
    have hA := hid hA0
    have hBX := hBX0
    clear hBX0
    have hapc := hid (hap.out w3 hA0.row)
    have q0 := hA0.t0
    have q1 := hA0.t1
    have q10 : w3.cell? ⟨z, 10, none⟩ = some (.bool n.gone) := block_cell hA0.nd 10
    clear hA0
    cases hdb : dirB n with
    | false =>
      have hdE := hid (show makeT ⟨x, l⟩ p name mode uid gid now = (⟨x, l⟩, 0, 13) by unfold makeT; rw [hg]; simp only; rw [if_pos hdb])
      clear hg hdb
      go_wp2_with fail
      refine hapc.out.mono ?_
      rintro e w9 ⟨v9, rfl, hv9, hf9, hb9⟩
      have hres := hid (hA.out.below hb9).res
      have hB9 := hid (sn hBX.out hb9)
      have hsz := hid hBX.out.size
      have hlt := hid (lt_of_block hA.out.res)
      have hN := hid (NodsAt.other (w' := w9.setRow (w.heap.size + 1) #[.int .u64 (x : Int), v9]) hv9 (w.heap.size + 1) (fun e => by have := hf9 _ e; have := hlt.out; omega) (by simp) (fun k hk => setRow_other _ _ _ _ hk))
      have hF := hid (show ∀ k, v9.ownBlock = some k → w.heap.size ≤ k from fun k hk => Nat.le_trans hsz.out (hf9 k hk))
      obtain ⟨a9, c9, rfl, _, _⟩ := hv9.form
      clear hb9 hv9 hf9 hapc q0 q1 q10
      go_wp2_with (refine wpList_store_row (by rfl) 25 (.tmp 14) (.tmp 53) (by rfl) (w.heap.size + 1) #[.int .u64 (x : Int), .slice a9 l.length c9] (by rfl) (by rfl) 25 _ hres.out (by kernel_rfl) (by kernel_rfl) (by kernel_rfl) ?_)
      refine bodyPost_ret (results_css rfl _ _ (w.heap.size + 1) _ _ _ _ _ _ rfl rfl rfl (setRow_heap _ _ _ #[.int .u64 (x : Int), .slice a9 l.length c9] _ _ hres.out) Try.underlying25 rfl (by kernel_rfl)) rfl ?_
      refine ⟨.slice a9 l.length c9, ?_, ?_, hF.out, below_setRow hB9.out (by omega) _⟩
      · rw [hdE.out]; rfl
      · rw [hdE.out]; exact hN.out
    | true =>
      cases hgn : n.gone with
      | true =>
        have hdE := hid (show makeT ⟨x, l⟩ p name mode uid gid now = (⟨x, l⟩, 0, 6) by unfold makeT; rw [hg]; simp only; rw [if_neg (by rw [hdb]; simp), hgn]; rfl)
        rw [hgn] at q10
        clear hg hdb hgn
        go_wp2_with fail
        refine hapc.out.mono ?_
        rintro e w9 ⟨v9, rfl, hv9, hf9, hb9⟩
        have hres := hid (hA.out.below hb9).res
        have hB9 := hid (sn hBX.out hb9)
        have hsz := hid hBX.out.size
        have hlt := hid (lt_of_block hA.out.res)
        have hN := hid (NodsAt.other (w' := w9.setRow (w.heap.size + 1) #[.int .u64 (x : Int), v9]) hv9 (w.heap.size + 1) (fun e => by have := hf9 _ e; have := hlt.out; omega) (by simp) (fun k hk => setRow_other _ _ _ _ hk))
        have hF := hid (show ∀ k, v9.ownBlock = some k → w.heap.size ≤ k from fun k hk => Nat.le_trans hsz.out (hf9 k hk))
        obtain ⟨a9, c9, rfl, _, _⟩ := hv9.form
        clear hb9 hv9 hf9 hapc q0 q1 q10
        go_wp2_with (refine wpList_store_row (by rfl) 25 (.tmp 14) (.tmp 53) (by rfl) (w.heap.size + 1) #[.int .u64 (x : Int), .slice a9 l.length c9] (by rfl) (by rfl) 25 _ hres.out (by kernel_rfl) (by kernel_rfl) (by kernel_rfl) ?_)
        refine bodyPost_ret (results_css rfl _ _ (w.heap.size + 1) _ _ _ _ _ _ rfl rfl rfl (setRow_heap _ _ _ #[.int .u64 (x : Int), .slice a9 l.length c9] _ _ hres.out) Try.underlying25 rfl (by kernel_rfl)) rfl ?_
        refine ⟨.slice a9 l.length c9, ?_, ?_, hF.out, below_setRow hB9.out (by omega) _⟩
        · rw [hdE.out]; rfl
        · rw [hdE.out]; exact hN.out
      | false =>
        have hdT := hid (makeT_may ⟨x, l⟩ p name mode uid gid now n hg hdb hgn ht.low)
        rw [hgn] at q10
        have hmy := hid (may_tree _ x l p name 0 w3 hA.out.row (by have := ht.few; omega) hname)
        obtain ⟨E, hE⟩ : ∃ E, E = mayE l p name 0 := ⟨_, rfl⟩
        rw [← hE] at hmy
        have hdT2 := hid (show makeT ⟨x, l⟩ p name mode uid gid now = if E ≠ 0 then (⟨x, l⟩, 0, E) else if 64 ≤ l.length then (⟨x, l⟩, 0, 14) else (⟨x + 1, setL (setL l (touchN n uid now)) (newN x mode now name uid gid p)⟩, x, 0) by rw [hE]; exact hdT.out)
        have hsome := hid (show (getL l n.path).isSome = true by rw [hpath, hg]; rfl)
        replace hE := hid hE
        replace hmem := hid hmem
        replace hpath := hid hpath
        clear hdT hg hgn hdb hapc
        go_wp2_with fail
        refine hmy.out.mono ?_
        rintro e w4 ⟨rfl, hb4⟩
        have hA0 := hA.out.below hb4
        have hBX0 := hid (sn hBX.out hb4)
        clear hA hBX q0 q1 q10 hb4 hmy
        have hA := hid hA0
        have hBX := hBX0
        clear hBX0
        have hapc := hid (hap.out w4 hA0.row)
        have q0 := hA0.t0
        have q1 := hA0.t1
        clear hA0
        by_cases hE0 : E = 0
        case neg =>
          have hdE := hid (show makeT ⟨x, l⟩ p name mode uid gid now = (⟨x, l⟩, 0, E) by rw [hdT2.out, if_pos hE0])
          have k0 : ((E : Int) != 0) = true := by simpa using hE0
          have k1 : ((E : Int) == 0) = false := by simpa using hE0
          clear hE0 hdT2
          go_wp2_with fail
          refine hapc.out.mono ?_
          rintro e w9 ⟨v9, rfl, hv9, hf9, hb9⟩
          have hres := hid (hA.out.below hb9).res
          have hB9 := hid (sn hBX.out hb9)
          have hsz := hid hBX.out.size
          have hlt := hid (lt_of_block hA.out.res)
          have hN := hid (NodsAt.other (w' := w9.setRow (w.heap.size + 1) #[.int .u64 (x : Int), v9]) hv9 (w.heap.size + 1) (fun e => by have := hf9 _ e; have := hlt.out; omega) (by simp) (fun k hk => setRow_other _ _ _ _ hk))
          have hF := hid (show ∀ k, v9.ownBlock = some k → w.heap.size ≤ k from fun k hk => Nat.le_trans hsz.out (hf9 k hk))
          obtain ⟨a9, c9, rfl, _, _⟩ := hv9.form
          clear hb9 hv9 hf9 hapc q0 q1
          go_wp2_with (refine wpList_store_row (by rfl) 25 (.tmp 14) (.tmp 53) (by rfl) (w.heap.size + 1) #[.int .u64 (x : Int), .slice a9 l.length c9] (by rfl) (by rfl) 25 _ hres.out (by kernel_rfl) (by kernel_rfl) (by kernel_rfl) ?_)
          refine bodyPost_ret (results_css rfl _ _ (w.heap.size + 1) _ _ _ _ _ _ rfl rfl rfl (setRow_heap _ _ _ #[.int .u64 (x : Int), .slice a9 l.length c9] _ _ hres.out) Try.underlying25 rfl (by kernel_rfl)) rfl ?_
          refine ⟨.slice a9 l.length c9, ?_, ?_, hF.out, below_setRow hB9.out (by omega) _⟩
          · rw [hdE.out]; rfl
          · rw [hdE.out]; exact hN.out
        subst hE0
        by_cases h64 : 64 ≤ l.length
        · have hdE := hid (show makeT ⟨x, l⟩ p name mode uid gid now = (⟨x, l⟩, 0, 14) by rw [hdT2.out, if_neg (by simp), if_pos h64])
          have h65 : (64 : Int) ≤ (l.length : Int) := by omega
          clear hdT2
          go_wp2_with fail
          refine hapc.out.mono ?_
          rintro e w9 ⟨v9, rfl, hv9, hf9, hb9⟩
          have hres := hid (hA.out.below hb9).res
          have hB9 := hid (sn hBX.out hb9)
          have hsz := hid hBX.out.size
          have hlt := hid (lt_of_block hA.out.res)
          have hN := hid (NodsAt.other (w' := w9.setRow (w.heap.size + 1) #[.int .u64 (x : Int), v9]) hv9 (w.heap.size + 1) (fun e => by have := hf9 _ e; have := hlt.out; omega) (by simp) (fun k hk => setRow_other _ _ _ _ hk))
          have hF := hid (show ∀ k, v9.ownBlock = some k → w.heap.size ≤ k from fun k hk => Nat.le_trans hsz.out (hf9 k hk))
          obtain ⟨a9, c9, rfl, _, _⟩ := hv9.form
          clear hb9 hv9 hf9 hapc q0 q1
          go_wp2_with (refine wpList_store_row (by rfl) 25 (.tmp 14) (.tmp 53) (by rfl) (w.heap.size + 1) #[.int .u64 (x : Int), .slice a9 l.length c9] (by rfl) (by rfl) 25 _ hres.out (by kernel_rfl) (by kernel_rfl) (by kernel_rfl) ?_)
          refine bodyPost_ret (results_css rfl _ _ (w.heap.size + 1) _ _ _ _ _ _ rfl rfl rfl (setRow_heap _ _ _ #[.int .u64 (x : Int), .slice a9 l.length c9] _ _ hres.out) Try.underlying25 rfl (by kernel_rfl)) rfl ?_
          refine ⟨.slice a9 l.length c9, ?_, ?_, hF.out, below_setRow hB9.out (by omega) _⟩
          · rw [hdE.out]; rfl
          · rw [hdE.out]; exact hN.out
        have hdE := hid (show makeT ⟨x, l⟩ p name mode uid gid now = (⟨x + 1, setL (setL l (touchN n uid now)) (newN x mode now name uid gid p)⟩, x, 0) by rw [hdT2.out, if_neg (by simp), if_neg h64])
        have h65 : (l.length : Int) < 64 := by omega
        have h66 : ¬ (64 : Int) ≤ (l.length : Int) := by omega
        clear hdT2 hapc
        have hnp : n.path = p := hpath.out
        have hnm : n ∈ l := hmem.out
        obtain ⟨n1, hn1⟩ : ∃ n1, n1 = touchN n uid now := ⟨_, rfl⟩
        obtain ⟨n2, hn2⟩ : ∃ n2, n2 = newN x mode now name uid gid p := ⟨_, rfl⟩
        have hp1 : n1.path = n.path := by rw [hn1]; rfl
        have hp2 : n2.path = x := by rw [hn2]; rfl
        obtain ⟨l1, hl1⟩ : ∃ l1, l1 = setL l n1 := ⟨_, rfl⟩
        have hs1 : SortL l1 := by rw [hl1]; exact ht.sort.set _
        have hlen1 : l1.length = l.length := by rw [hl1]; exact set_len ht.sort hnm n1 hp1
        have hbel : belowN l1 n2.path = l1.length := by
          unfold belowN
          rw [List.filter_eq_self.2 (fun m hm => by
            rw [hl1] at hm
            rw [hp2]
            rcases mem_setL.1 hm with e | ⟨hm, _⟩
            · rw [e, hp1]; exact decide_eq_true (hnext n hnm)
            · exact decide_eq_true (hnext m hm))]
        obtain ⟨L, hL⟩ : ∃ L, L = setL l1 n2 := ⟨_, rfl⟩
        rw [← hn1, ← hn2, ← hl1, ← hL] at hdE
        have htc : Hid (∀ Z, Calls Try.prog 50 #[.agg #[.int .u64 (n.path : Int), .int .u32 (n.vers : Int), .int .u32 (n.mode : Int), .int .u32 (n.atm : Int), .int .u32 (n.mtm : Int), .string n.name, .string n.uid, .string n.gid, .string n.muid, .int .u64 (n.up : Int), .bool n.gone, .string n.data], .string uid, .int .u32 (now : Int)] Z fun e w' => e = .returned (.agg n1.cells) ∧ Below Z.heap.size Z w') := hid (fun Z => by rw [hn1]; exact touched_any n uid now Z hnok.out)
        have hst1 : Hid (∀ Z, NodsAt Z (.slice a l.length c) l → Calls Try.prog 49 #[.agg #[.int .u64 (x : Int), .slice a l.length c], .agg n1.cells] Z (SetPost Z x l1)) := hid (fun Z hZ => by rw [hl1]; exact nset_any _ x l n1 Z hZ ht.sort (by have := ht.few; omega) (.inl (by rw [hp1]; exact hsome.out)))
        have hst2 : Hid (∀ Z u, NodsAt Z u l1 → Calls Try.prog 49 #[.agg #[.int .u64 (x : Int), u], .agg #[.int .u64 (x : Int), .int .u32 0, .int .u32 (mode : Int), .int .u32 (now : Int), .int .u32 (now : Int), .string name, .string uid, .string gid, .string uid, .int .u64 (p : Int), .bool false, .string ⟨#[]⟩]] Z (SetPost Z x L)) := hid (fun Z u hZ => by
          rw [hL]
          have := nset_any u x l1 n2 Z hZ hs1 (by have := ht.few; omega) (.inr hbel)
          rw [hn2] at this ⊢
          exact this)
        replace hn1 := hid hn1
        replace hn2 := hid hn2
        replace hl1 := hid hl1
        replace hL := hid hL
        replace hs1 := hid hs1
        replace hbel := hid hbel
        replace ht := hid ht
        replace hv := hid hv
        replace hnext := hid hnext
        clear hp1 hp2 hlen1 hnm hnp hap
        go_wp2_with fail
        clear h65 h66 h64 q0 q1
        have hzX := hid (lt_of_block hA.out.res)
        have hsX := hid hBX.out.size
        have hA := hA.out.below ((Below.refl w4.heap.size w4).drew)
        have q0 := hA.t0
        have q1 := hA.t1
        obtain ⟨d0, d1, d2, d3, d4, d5, d6, d7, d8, d9, d10, d11⟩ := nodS hA.nd
        have hBd := (sn hBX.out ((Below.refl w4.heap.size w4).drew))
        have hal := hid trivial
        go_region_held3 (fun w' => w'.cell? ⟨w.heap.size, 0, none⟩ = some (.int .u64 (x : Int)) ∧ w'.cell? ⟨w.heap.size, 1, none⟩ = some (.slice a l.length c) ∧ w'.cell? ⟨z, 0, none⟩ = some (.int .u64 (n.path : Int)) ∧ w'.cell? ⟨z, 1, none⟩ = some (.int .u32 (n.vers : Int)) ∧ w'.cell? ⟨z, 2, none⟩ = some (.int .u32 (n.mode : Int)) ∧ w'.cell? ⟨z, 3, none⟩ = some (.int .u32 (n.atm : Int)) ∧ w'.cell? ⟨z, 4, none⟩ = some (.int .u32 (n.mtm : Int)) ∧ w'.cell? ⟨z, 5, none⟩ = some (.string n.name) ∧ w'.cell? ⟨z, 6, none⟩ = some (.string n.uid) ∧ w'.cell? ⟨z, 7, none⟩ = some (.string n.gid) ∧ w'.cell? ⟨z, 8, none⟩ = some (.string n.muid) ∧ w'.cell? ⟨z, 9, none⟩ = some (.int .u64 (n.up : Int)) ∧ w'.cell? ⟨z, 10, none⟩ = some (.bool n.gone) ∧ w'.cell? ⟨z, 11, none⟩ = some (.string n.data))
          (first | exact ⟨hA.t0, hA.t1, nodS hA.nd⟩ | exact ((fun h => ⟨h.t0, h.t1, nodS h.nd⟩ : TrSt w.heap.size z (w.heap.size + 1) x (.slice a l.length c) l n _ → _) (hA.below ((Below.refl _ _).alloc (Nat.le_refl _) _))) | exact ((fun h => ⟨(b0b1 h.1).1, (b0b1 h.1).2, nodS h.2⟩) (hA.twoK hne1 hne2 0 1 _ _)) | go_keep)
          (first
            | (go_at_call 50; (with_reducible refine (htc.out _).mono ?_); rintro e wt ⟨rfl, hbt⟩; first
                | (replace hA := hA.below hbt; replace hBd := sn hBd hbt)
                | (have hne1 := Nat.ne_of_lt (lt_of_block hA.tr); have hne2 := Nat.ne_of_lt (lt_of_block hA.nd); replace hal := hid ((hbt.block _ (lt_of_block (heap_alloc_new _ _))).trans (heap_alloc_new _ _)); replace hA := hA.below (sn ((Below.refl _ _).alloc (Nat.le_refl _) _) hbt); replace hBd := sn (sn hBd ((Below.refl _ _).alloc (Nat.le_refl _) _)) hbt))
            | (go_at_call 49; (with_reducible refine (hst1.out _ (by first | exact hA.row | exact hA.row.below ((Below.refl _ _).alloc (Nat.le_refl _) _))).mono ?_); rintro e w5 ⟨v5, rfl, hv5, hf5, hb5⟩; obtain ⟨a5, c5, rfl, _, _⟩ := hv5.form; first
                | (replace hA := hA.below hb5; replace hBd := sn hBd hb5; try replace hal := hid ((hb5.block _ (lt_of_block hal.out)).trans hal.out))
                | (have hne1 := Nat.ne_of_lt (lt_of_block hA.tr); have hne2 := Nat.ne_of_lt (lt_of_block hA.nd); replace hal := hid ((hb5.block _ (lt_of_block (heap_alloc_new _ _))).trans (heap_alloc_new _ _)); replace hA := hA.below (sn ((Below.refl _ _).alloc (Nat.le_refl _) _) hb5); replace hBd := sn (sn hBd ((Below.refl _ _).alloc (Nat.le_refl _) _)) hb5))
            | (go_at_call 49; (with_reducible refine (hst2.out _ _ (by first | exact hv5 | exact hv5.below ((Below.refl _ _).alloc (Nat.le_refl _) _))).mono ?_); rintro e w6 ⟨v6, rfl, hv6, hf6, hb6⟩; obtain ⟨a6, c6, rfl, _, _⟩ := hv6.form; first
                | (replace hA := hA.below hb6; replace hBd := sn hBd hb6; try (replace hal := hid ((hb6.block _ (lt_of_block hal.out)).trans hal.out); have g0 := block_cell hal.out 0; have g1 := block_cell hal.out 1; have e0 := block_free hal.out 0; have e1 := block_free hal.out 1))
                | (have hne1 := Nat.ne_of_lt (lt_of_block hA.tr); have hne2 := Nat.ne_of_lt (lt_of_block hA.nd); replace hal := hid ((hb6.block _ (lt_of_block (heap_alloc_new _ _))).trans (heap_alloc_new _ _)); replace hA := hA.below (sn ((Below.refl _ _).alloc (Nat.le_refl _) _) hb6); replace hBd := sn (sn hBd ((Below.refl _ _).alloc (Nat.le_refl _) _)) hb6; have g0 := block_cell hal.out 0; have g1 := block_cell hal.out 1; have e0 := block_free hal.out 0; have e1 := block_free hal.out 1)))
        all_goals
          have s5 := hb5.size
          have s6 := hb6.size
          have st := hbt.size
          have sd := hsX.out
          have sz := hzX.out
          simp at s5 s6 st
        · obtain ⟨Y2, hY2, hres, hc, hN2, hF, hB2⟩ : ∃ Y2, Y2 = (w6.alloc (.cells #[.int .u64 ((x : Int) + 1), .slice a6 L.length c6] 25)) ∧ Hid (Y2.heap[w.heap.size + 1]? = some (.cells #[.int .u64 0, .slice none 0 0] 25 (0, 0))) ∧ (Y2.heap[w6.heap.size]? = some (.cells #[.int .u64 ((x : Int) + 1), .slice a6 L.length c6] 25 (0, 0))) ∧ Hid (NodsAt Y2 (.slice a6 L.length c6) L) ∧ Hid (∀ k, (Value.slice a6 L.length c6).ownBlock = some k → w.heap.size + 1 < k) ∧ Hid (Below w.heap.size w Y2) := by
            refine ⟨_, rfl, hid ?_, ?_, hid ?_, hid (fun k hk => by have := hf6 k hk; (try simp at this); omega), hid ?_⟩
            · exact (heap_alloc_old _ _ (by omega)).trans hA.res
            · exact heap_alloc_new _ _
            · exact hv6.below ((Below.refl w6.heap.size w6).alloc (Nat.le_refl _) _)
            · exact hBd.alloc (by omega) _
          clear s5 s6 st sd sz q0 q1 d0 d1 d2 d3 d4 d5 d6 d7 d8 d9 d10 d11 hb5 hb6 hbt hv5 hv6 hf5 hf6 hA hBd
          go_upto_region 17 with fail
          rw [← hY2]
          replace hY2 := hid hY2
          skip
          have y0 := block_cell hc 0
          have y1 := block_cell hc 1
          have hlt := hid (lt_of_block hres.out)
          have hN := hid (NodsAt.other (w' := Y2.setRow (w.heap.size + 1) #[.int .u64 ((x : Int) + 1), .slice a6 L.length c6]) hN2.out (w.heap.size + 1) (fun e => by have := hF.out _ e; omega) (by simp) (fun k hk => setRow_other _ _ _ _ hk))
          go_wp2_with (refine wpList_store_row (by rfl) 25 (.tmp 14) (.tmp 77) (by rfl) (w.heap.size + 1) #[.int .u64 ((x : Int) + 1), .slice a6 L.length c6] (by rfl) (by rfl) 25 _ hres.out (by kernel_rfl) (by kernel_rfl) (by kernel_rfl) ?_)
          refine bodyPost_ret (results_css rfl _ _ (w.heap.size + 1) _ _ _ _ _ _ rfl rfl rfl (setRow_heap _ _ _ #[.int .u64 ((x : Int) + 1), .slice a6 L.length c6] _ _ hres.out) Try.underlying25 rfl (by kernel_rfl)) rfl ?_
          refine ⟨.slice a6 L.length c6, ?_, ?_, fun k hk => by have := hF.out k hk; omega, below_setRow hB2.out (by omega) _⟩
          · rw [hdE.out]; rfl
          · rw [hdE.out]; exact hN.out
        · obtain ⟨Y2, hY2, hres, hc, hN2, hF, hB2⟩ : ∃ Y2, Y2 = (((w6.setCell ⟨w5.heap.size, 0, none⟩ (.int .u64 (x : Int))).setCell ⟨w5.heap.size, 1, none⟩ (.slice a6 L.length c6)).setCell ⟨w5.heap.size, 0, none⟩ (.int .u64 ((x : Int) + 1))) ∧ Hid (Y2.heap[w.heap.size + 1]? = some (.cells #[.int .u64 0, .slice none 0 0] 25 (0, 0))) ∧ (Y2.heap[w5.heap.size]? = some (.cells #[.int .u64 ((x : Int) + 1), .slice a6 L.length c6] 25 (0, 0))) ∧ Hid (NodsAt Y2 (.slice a6 L.length c6) L) ∧ Hid (∀ k, (Value.slice a6 L.length c6).ownBlock = some k → w.heap.size + 1 < k) ∧ Hid (Below w.heap.size w Y2) := by
            refine ⟨_, rfl, hid ?_, ?_, hid ?_, hid (fun k hk => by have := hf6 k hk; (try simp at this); omega), hid ?_⟩
            · exact (block_set_other (by show w.heap.size + 1 ≠ w5.heap.size; omega)).trans ((block_set_other (by show w.heap.size + 1 ≠ w5.heap.size; omega)).trans ((block_set_other (by show w.heap.size + 1 ≠ w5.heap.size; omega)).trans hA.res))
            · exact block_set (block_set (block_set hal.out 0 _) 1 _) 0 _
            · exact NodsAt.other hv6 (w5.heap.size) (fun e => by have := hf6 _ e; (try simp at this); omega) (by simp) (fun k hk => (block_set_other (by show k ≠ _; exact hk)).trans ((block_set_other (by show k ≠ _; exact hk)).trans (block_set_other (by show k ≠ _; exact hk))))
            · exact ((hBd.setCell (by show w.heap.size ≤ w5.heap.size; omega) _).setCell (by show w.heap.size ≤ w5.heap.size; omega) _).setCell (by show w.heap.size ≤ w5.heap.size; omega) _
          clear s5 s6 st sd sz q0 q1 d0 d1 d2 d3 d4 d5 d6 d7 d8 d9 d10 d11 hb5 hb6 hbt hv5 hv6 hf5 hf6 hA hBd
          go_upto_region 17 with fail
          rw [← hY2]
          replace hY2 := hid hY2
          clear hal g0 g1 e0 e1 hne1 hne2
          have y0 := block_cell hc 0
          have y1 := block_cell hc 1
          have hlt := hid (lt_of_block hres.out)
          have hN := hid (NodsAt.other (w' := Y2.setRow (w.heap.size + 1) #[.int .u64 ((x : Int) + 1), .slice a6 L.length c6]) hN2.out (w.heap.size + 1) (fun e => by have := hF.out _ e; omega) (by simp) (fun k hk => setRow_other _ _ _ _ hk))
          go_wp2_with (refine wpList_store_row (by rfl) 25 (.tmp 14) (.tmp 77) (by rfl) (w.heap.size + 1) #[.int .u64 ((x : Int) + 1), .slice a6 L.length c6] (by rfl) (by rfl) 25 _ hres.out (by kernel_rfl) (by kernel_rfl) (by kernel_rfl) ?_)
          refine bodyPost_ret (results_css rfl _ _ (w.heap.size + 1) _ _ _ _ _ _ rfl rfl rfl (setRow_heap _ _ _ #[.int .u64 ((x : Int) + 1), .slice a6 L.length c6] _ _ hres.out) Try.underlying25 rfl (by kernel_rfl)) rfl ?_
          refine ⟨.slice a6 L.length c6, ?_, ?_, fun k hk => by have := hF.out k hk; omega, below_setRow hB2.out (by omega) _⟩
          · rw [hdE.out]; rfl
          · rw [hdE.out]; exact hN.out
        · obtain ⟨Y2, hY2, hres, hc, hN2, hF, hB2⟩ : ∃ Y2, Y2 = (((w6.setCell ⟨wt.heap.size, 0, none⟩ (.int .u64 (x : Int))).setCell ⟨wt.heap.size, 1, none⟩ (.slice a6 L.length c6)).setCell ⟨wt.heap.size, 0, none⟩ (.int .u64 ((x : Int) + 1))) ∧ Hid (Y2.heap[w.heap.size + 1]? = some (.cells #[.int .u64 0, .slice none 0 0] 25 (0, 0))) ∧ (Y2.heap[wt.heap.size]? = some (.cells #[.int .u64 ((x : Int) + 1), .slice a6 L.length c6] 25 (0, 0))) ∧ Hid (NodsAt Y2 (.slice a6 L.length c6) L) ∧ Hid (∀ k, (Value.slice a6 L.length c6).ownBlock = some k → w.heap.size + 1 < k) ∧ Hid (Below w.heap.size w Y2) := by
            refine ⟨_, rfl, hid ?_, ?_, hid ?_, hid (fun k hk => by have := hf6 k hk; (try simp at this); omega), hid ?_⟩
            · exact (block_set_other (by show w.heap.size + 1 ≠ wt.heap.size; omega)).trans ((block_set_other (by show w.heap.size + 1 ≠ wt.heap.size; omega)).trans ((block_set_other (by show w.heap.size + 1 ≠ wt.heap.size; omega)).trans hA.res))
            · exact block_set (block_set (block_set hal.out 0 _) 1 _) 0 _
            · exact NodsAt.other hv6 (wt.heap.size) (fun e => by have := hf6 _ e; (try simp at this); omega) (by simp) (fun k hk => (block_set_other (by show k ≠ _; exact hk)).trans ((block_set_other (by show k ≠ _; exact hk)).trans (block_set_other (by show k ≠ _; exact hk))))
            · exact ((hBd.setCell (by show w.heap.size ≤ wt.heap.size; omega) _).setCell (by show w.heap.size ≤ wt.heap.size; omega) _).setCell (by show w.heap.size ≤ wt.heap.size; omega) _
          clear s5 s6 st sd sz q0 q1 d0 d1 d2 d3 d4 d5 d6 d7 d8 d9 d10 d11 hb5 hb6 hbt hv5 hv6 hf5 hf6 hA hBd
          go_upto_region 17 with fail
          rw [← hY2]
          replace hY2 := hid hY2
          clear hal g0 g1 e0 e1 hne1 hne2
          have y0 := block_cell hc 0
          have y1 := block_cell hc 1
          have hlt := hid (lt_of_block hres.out)
          have hN := hid (NodsAt.other (w' := Y2.setRow (w.heap.size + 1) #[.int .u64 ((x : Int) + 1), .slice a6 L.length c6]) hN2.out (w.heap.size + 1) (fun e => by have := hF.out _ e; omega) (by simp) (fun k hk => setRow_other _ _ _ _ hk))
          go_wp2_with (refine wpList_store_row (by rfl) 25 (.tmp 14) (.tmp 77) (by rfl) (w.heap.size + 1) #[.int .u64 ((x : Int) + 1), .slice a6 L.length c6] (by rfl) (by rfl) 25 _ hres.out (by kernel_rfl) (by kernel_rfl) (by kernel_rfl) ?_)
          refine bodyPost_ret (results_css rfl _ _ (w.heap.size + 1) _ _ _ _ _ _ rfl rfl rfl (setRow_heap _ _ _ #[.int .u64 ((x : Int) + 1), .slice a6 L.length c6] _ _ hres.out) Try.underlying25 rfl (by kernel_rfl)) rfl ?_
          refine ⟨.slice a6 L.length c6, ?_, ?_, fun k hk => by have := hF.out k hk; omega, below_setRow hB2.out (by omega) _⟩
          · rw [hdE.out]; rfl
          · rw [hdE.out]; exact hN.out
        · obtain ⟨Y2, hY2, hres, hc, hN2, hF, hB2⟩ : ∃ Y2, Y2 = (((w6.setCell ⟨w4.heap.size, 0, none⟩ (.int .u64 (x : Int))).setCell ⟨w4.heap.size, 1, none⟩ (.slice a6 L.length c6)).setCell ⟨w4.heap.size, 0, none⟩ (.int .u64 ((x : Int) + 1))) ∧ Hid (Y2.heap[w.heap.size + 1]? = some (.cells #[.int .u64 0, .slice none 0 0] 25 (0, 0))) ∧ (Y2.heap[w4.heap.size]? = some (.cells #[.int .u64 ((x : Int) + 1), .slice a6 L.length c6] 25 (0, 0))) ∧ Hid (NodsAt Y2 (.slice a6 L.length c6) L) ∧ Hid (∀ k, (Value.slice a6 L.length c6).ownBlock = some k → w.heap.size + 1 < k) ∧ Hid (Below w.heap.size w Y2) := by
            refine ⟨_, rfl, hid ?_, ?_, hid ?_, hid (fun k hk => by have := hf6 k hk; (try simp at this); omega), hid ?_⟩
            · exact (block_set_other (by show w.heap.size + 1 ≠ w4.heap.size; omega)).trans ((block_set_other (by show w.heap.size + 1 ≠ w4.heap.size; omega)).trans ((block_set_other (by show w.heap.size + 1 ≠ w4.heap.size; omega)).trans hA.res))
            · exact block_set (block_set (block_set hal.out 0 _) 1 _) 0 _
            · exact NodsAt.other hv6 (w4.heap.size) (fun e => by have := hf6 _ e; (try simp at this); omega) (by simp) (fun k hk => (block_set_other (by show k ≠ _; exact hk)).trans ((block_set_other (by show k ≠ _; exact hk)).trans (block_set_other (by show k ≠ _; exact hk))))
            · exact ((hBd.setCell (by show w.heap.size ≤ w4.heap.size; omega) _).setCell (by show w.heap.size ≤ w4.heap.size; omega) _).setCell (by show w.heap.size ≤ w4.heap.size; omega) _
          clear s5 s6 st sd sz q0 q1 d0 d1 d2 d3 d4 d5 d6 d7 d8 d9 d10 d11 hb5 hb6 hbt hv5 hv6 hf5 hf6 hA hBd
          go_upto_region 17 with fail
          rw [← hY2]
          replace hY2 := hid hY2
          clear hal g0 g1 e0 e1 hne1 hne2
          have y0 := block_cell hc 0
          have y1 := block_cell hc 1
          have hlt := hid (lt_of_block hres.out)
          have hN := hid (NodsAt.other (w' := Y2.setRow (w.heap.size + 1) #[.int .u64 ((x : Int) + 1), .slice a6 L.length c6]) hN2.out (w.heap.size + 1) (fun e => by have := hF.out _ e; omega) (by simp) (fun k hk => setRow_other _ _ _ _ hk))
          go_wp2_with (refine wpList_store_row (by rfl) 25 (.tmp 14) (.tmp 77) (by rfl) (w.heap.size + 1) #[.int .u64 ((x : Int) + 1), .slice a6 L.length c6] (by rfl) (by rfl) 25 _ hres.out (by kernel_rfl) (by kernel_rfl) (by kernel_rfl) ?_)
          refine bodyPost_ret (results_css rfl _ _ (w.heap.size + 1) _ _ _ _ _ _ rfl rfl rfl (setRow_heap _ _ _ #[.int .u64 ((x : Int) + 1), .slice a6 L.length c6] _ _ hres.out) Try.underlying25 rfl (by kernel_rfl)) rfl ?_
          refine ⟨.slice a6 L.length c6, ?_, ?_, fun k hk => by have := hF.out k hk; omega, below_setRow hB2.out (by omega) _⟩
          · rw [hdE.out]; rfl
          · rw [hdE.out]; exact hN.out
end Go.Proofs.Ytpmlhmficmillaa
