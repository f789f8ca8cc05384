/- The reference's Make. Conditions: what TrOk asks.
The reference's Unlink, given its Kids. Conditions: what TrOk asks. -/
import Derived.Test.YtpmlhmficmillaaBunRU
import Derived.Test.YtpmlhmficmillaaTr11Z
namespace Go.Proofs.Ytpmlhmficmillaa
section
open Go.RowKit
set_option maxRecDepth 100000
set_option linter.unusedVariables false

def RPE (w : World) (r : Tr × Nat × Nat) (e : Ending) (w' : World) : Prop := ∃ v', e = .returned (.tuple #[.agg #[.int .u64 (r.1.next : Int), v'], .int .u64 (r.2.1 : Int), .int .i64 (r.2.2 : Int)]) ∧ NodsAt w' v' r.1.n ∧ Below w.heap.size w w'
set_option maxHeartbeats 25600000 in
theorem rmake_any (v : Value) (x : Nat) (l : List Nod) (p : Nat) (name : ByteArray) (mode : Nat) (uid gid : ByteArray) (now : Nat) (w : World) (hv : NodsAt w v l) (ht : TrOk l) (hne : l ≠ []) (hname : name.size ≤ 1000000) (hx : x + 1 < 18446744073709551616) :
    Calls Try.prog 35 #[.agg #[.int .u64 (x : Int), v], .int .u64 (p : Int), .string name, .int .u32 (mode : Int), .string uid, .string gid, .int .u32 (now : Int)] w (RPE w (makeT ⟨x, l⟩ p name mode uid gid now)) := by
  have hnm : Hid (∀ Z, Calls Try.prog 69 #[.string name] Z fun e w' => e = .returned (.int .i64 (nameN name : Int)) ∧ Z = w') := hid (fun Z => ref_name_any name Z (by unfold maxLen; omega))
  obtain ⟨a, c, rfl, g1, g2⟩ := hv.form
  unfold maxLen at g2
  have hvo := hid (rown hv hne)
  obtain ⟨W, hW⟩ : ∃ W, W = (w.alloc (.cells #[.int .u64 (x : Int), .slice a l.length c] 32)).alloc (.cells #[.int .u64 0, .slice none 0 0] 32) := ⟨_, rfl⟩
  have hb0 : Below w.heap.size w W := by rw [hW]; exact ((Below.refl w.heap.size w).alloc (Nat.le_refl _) _).alloc (by simp) _
  have hx0 : W.heap[w.heap.size]? = some (.cells #[.int .u64 (x : Int), .slice a l.length c] 32 (0, 0)) := by rw [hW, heap_alloc_old _ _ (by simp), heap_alloc_new]
  have hy0 : W.heap[w.heap.size + 1]? = some (.cells #[.int .u64 0, .slice none 0 0] 32 (0, 0)) := by rw [hW]; exact heap2 _ _ _
  have hfi := hid (rget_any _ x l p W (hv.below hb0) (by have := ht.few; omega))
  have e0 := block_cell hx0 0
  have e1 := block_cell hx0 1
  have hv0 := hid (hv.below hb0)
  replace hb0 := hid hb0
  replace hx0 := hid hx0
  replace hy0 := hid hy0
  go_enter Try.func35, Try.ntmps35
  go_upto_region 1 with (rw [← hW]; replace hW := hid hW)
  try (rw [← hW]; replace hW := hid hW)
  go_wp2_with fail
  refine hfi.out.mono ?_
  rintro e w2 ⟨rfl, hb2⟩
  have hB2 := hid (sn hb0.out hb2)
  have hs2 := hid (lt_of_block ((hb2.block _ (lt_of_block hy0.out)).trans hy0.out))
  obtain ⟨n, hn⟩ : ∃ n, n = getN l p := ⟨_, rfl⟩
  have hnew := hid (heap_alloc_new w2 (.cells zeroNod.cells 71))
  obtain ⟨X, hX⟩ : ∃ W, W = boxR w2 n := ⟨_, rfl⟩
  have hbX : Below w2.heap.size w2 X := by rw [hX]; exact boxR_below _ _
  have hBX := hid (sn hB2.out hbX)
  have hA : TrR w.heap.size w2.heap.size (w.heap.size + 1) x (.slice a l.length c) l n X :=
    ⟨(hbX.block _ (by have := hs2.out; omega)).trans ((hb2.block _ (lt_of_block hx0.out)).trans hx0.out), by rw [hX]; exact boxR_heap _ _, (hbX.block _ hs2.out).trans ((hb2.block _ (lt_of_block hy0.out)).trans hy0.out), (hv0.out.below hb2).below hbX⟩
  have q0 := hA.t0
  have q1 := hA.t1
  unfold boxR at hX
  rw [zeroNod_cells] at hX hnew
  rw [← hn]
  clear hb2 hbX hfi e0 e1 hB2 hx0 hy0 hv0 hb0
  replace hA := hid hA
  replace hn := hid hn
  go_upto_region 2 with (first
    | (rw [← hX]; replace hX := hid hX)
    | (refine wpList_store_row (by rfl) 71 (.tmp 17) (.tmp 26) (by rfl) w2.heap.size n.cells (by rfl) (by rfl) 71 _ hnew.out (by kernel_rfl) (by kernel_rfl) (nod_one n) ?_))
  try (rw [← hX]; replace hX := hid hX)
  clear hnew
  generalize w2.heap.size = z at *
  have hfnd := hid (rfind_any _ x l p name X hA.out.row (by have := ht.few; omega))
  go_wp2_with fail
  refine hfnd.out.mono ?_
  rintro e w3 ⟨rfl, hb3⟩
  have hA0 := hA.out.below hb3
  have hBX0 := hid (sn hBX.out hb3)
  clear hA hBX q0 q1 hb3 hfnd
  have hA := hid hA0
  have hBX := hBX0
  clear hBX0 hA0
  have hs3 := hid (lt_of_block hA.out.nd)
  have hs3r := hid (lt_of_block hA.out.res)
  obtain ⟨m, hm⟩ : ∃ m, m = (findL l p name).getD zeroNod := ⟨_, rfl⟩
  obtain ⟨is, his⟩ : ∃ is, is = (findL l p name).isSome := ⟨_, rfl⟩
  rw [← hm, ← his]
  replace hm := hid hm
  replace his := hid his
  have hnew := hid (heap_alloc_new w3 (.cells zeroNod.cells 71))
  obtain ⟨X2, hX2⟩ : ∃ W, W = boxR w3 m := ⟨_, rfl⟩
  have hbX : Below w3.heap.size w3 X2 := by rw [hX2]; exact boxR_below _ _
  have hD0 := hid (show X2.heap[w3.heap.size]? = some (.cells m.cells 71 (0, 0)) by rw [hX2]; exact boxR_heap _ _)
  unfold boxR at hX2
  rw [zeroNod_cells] at hX2 hnew
  have hA0 := hA.out.below hbX
  have hBX0 := hid (sn hBX.out hbX)
  clear hA hBX hbX
  have hA := hid hA0
  have hBX := hBX0
  clear hBX0
  have q0 := hA0.t0
  have q1 := hA0.t1
  have q10 : X2.cell? ⟨z, 10, none⟩ = some (.bool n.gone) := block_cell hA0.nd 10
  clear hA0
  go_upto_region 3 with (first
    | (rw [← hX2]; replace hX2 := hid hX2)
    | (refine wpList_store_row (by rfl) 71 (.tmp 19) (.tmp 33) (by rfl) w3.heap.size m.cells (by rfl) (by rfl) 71 _ hnew.out (by kernel_rfl) (by kernel_rfl) (nod_one m) ?_))
  try (rw [← hX2]; replace hX2 := hid hX2)
  clear hnew
  generalize w3.heap.size = z2 at *
  cases hg : getL l p with
  | none =>
    have hdE := hid (show makeT ⟨x, l⟩ p name mode uid gid now = (⟨x, l⟩, 0, 6) by unfold makeT; rw [hg])
    simp only [Option.isSome_none]
    clear hg
    have hres := hid hA.out.res
    have hlt := hid (lt_of_block hA.out.res)
    have hN := hid (NodsAt.other (w' := X2.setRow (w.heap.size + 1) #[.int .u64 (x : Int), .slice a l.length c]) hA.out.row (w.heap.size + 1) (fun e => by have := hvo.out _ e; omega) (by simp) (fun k hk => setRow_other _ _ _ _ hk))
    go_wp2_with (refine wpList_store_row (by rfl) 32 (.tmp 14) (.tmp 38) (by rfl) (w.heap.size + 1) #[.int .u64 (x : Int), .slice a l.length c] (by rfl) (by rfl) 32 _ hres.out (by kernel_rfl) (by kernel_rfl) (by kernel_rfl) ?_)
    refine bodyPost_ret (results_css rfl _ _ (w.heap.size + 1) _ _ _ _ _ _ rfl rfl rfl (setRow_heap _ _ _ #[.int .u64 (x : Int), .slice a l.length c] _ _ hres.out) Try.underlying32 rfl (by kernel_rfl)) rfl ?_
    refine ⟨.slice a l.length c, ?_, ?_, below_setRow hBX.out (by omega) _⟩
    · rw [hdE.out]; rfl
    · rw [hdE.out]; exact hN.out
  | some y =>
    have hny : n = y := by rw [hn.out]; unfold getN; rw [hg]; rfl
    subst hny
    simp only [Option.isSome_some]
    obtain ⟨hmem, hpath⟩ := getL_some hg
    have hnok := hid (ht.ok n hmem)
    have hdir := hid (rdir_any n X2 hnok.out)
    have hnd := hid hA.out.nd
    go_wp2_with (refine wpList_load_row (by rfl) 71 (.tmp 17) (by rfl) z (by rfl) 71 n.cells (0, 0) _ hnd.out Try.underlying71 (by rfl) (by kernel_rfl) ?_)
    refine hdir.out.mono ?_
    rintro e w4 ⟨rfl, hb4⟩
    have hA0 := hA.out.below hb4
    have hBX0 := hid (sn hBX.out hb4)
    clear hA hBX q0 q1 q10 hb4 hdir hnd
    have hA := hid hA0
    have hBX := hBX0
    clear hBX0
    have q0 := hA0.t0
    have q1 := hA0.t1
    have q10 : w4.cell? ⟨z, 10, none⟩ = some (.bool n.gone) := block_cell hA0.nd 10
    clear hA0
    cases hdb : dirB n with
    | false =>
      have hdE := hid (show makeT ⟨x, l⟩ p name mode uid gid now = (⟨x, l⟩, 0, 13) by unfold makeT; rw [hg]; simp only; rw [if_pos hdb])
      clear hg hdb
      have hres := hid hA.out.res
      have hlt := hid (lt_of_block hA.out.res)
      have hN := hid (NodsAt.other (w' := w4.setRow (w.heap.size + 1) #[.int .u64 (x : Int), .slice a l.length c]) hA.out.row (w.heap.size + 1) (fun e => by have := hvo.out _ e; omega) (by simp) (fun k hk => setRow_other _ _ _ _ hk))
      go_wp2_with (refine wpList_store_row (by rfl) 32 (.tmp 14) (.tmp 43) (by rfl) (w.heap.size + 1) #[.int .u64 (x : Int), .slice a l.length c] (by rfl) (by rfl) 32 _ hres.out (by kernel_rfl) (by kernel_rfl) (by kernel_rfl) ?_)
      refine bodyPost_ret (results_css rfl _ _ (w.heap.size + 1) _ _ _ _ _ _ rfl rfl rfl (setRow_heap _ _ _ #[.int .u64 (x : Int), .slice a l.length c] _ _ hres.out) Try.underlying32 rfl (by kernel_rfl)) rfl ?_
      refine ⟨.slice a l.length c, ?_, ?_, below_setRow hBX.out (by omega) _⟩
      · rw [hdE.out]; rfl
      · rw [hdE.out]; exact hN.out
    | true =>
      cases hgn : n.gone with
      | true =>
        have hdE := hid (show makeT ⟨x, l⟩ p name mode uid gid now = (⟨x, l⟩, 0, 6) by unfold makeT; rw [hg]; simp only; rw [if_neg (by rw [hdb]; simp), hgn]; rfl)
        rw [hgn] at q10
        clear hg hdb hgn
        have hres := hid hA.out.res
        have hlt := hid (lt_of_block hA.out.res)
        have hN := hid (NodsAt.other (w' := w4.setRow (w.heap.size + 1) #[.int .u64 (x : Int), .slice a l.length c]) hA.out.row (w.heap.size + 1) (fun e => by have := hvo.out _ e; omega) (by simp) (fun k hk => setRow_other _ _ _ _ hk))
        go_wp2_with (refine wpList_store_row (by rfl) 32 (.tmp 14) (.tmp 47) (by rfl) (w.heap.size + 1) #[.int .u64 (x : Int), .slice a l.length c] (by rfl) (by rfl) 32 _ hres.out (by kernel_rfl) (by kernel_rfl) (by kernel_rfl) ?_)
        refine bodyPost_ret (results_css rfl _ _ (w.heap.size + 1) _ _ _ _ _ _ rfl rfl rfl (setRow_heap _ _ _ #[.int .u64 (x : Int), .slice a l.length c] _ _ hres.out) Try.underlying32 rfl (by kernel_rfl)) rfl ?_
        refine ⟨.slice a l.length c, ?_, ?_, below_setRow hBX.out (by omega) _⟩
        · rw [hdE.out]; rfl
        · rw [hdE.out]; exact hN.out
      | false =>
        rw [hgn] at q10
        obtain ⟨ne, hnE⟩ : ∃ e, e = nameN name := ⟨_, rfl⟩
        rw [← hnE] at hnm
        by_cases hE0 : ne = 0
        case neg =>
          have hdE := hid (show makeT ⟨x, l⟩ p name mode uid gid now = (⟨x, l⟩, 0, ne) by unfold makeT; rw [hg]; simp only; rw [if_neg (by rw [hdb]; simp), hgn, if_neg (by simp), if_pos (by rw [← hnE]; exact hE0), hnE])
          have k0 : ((ne : Int) != 0) = true := by simpa using hE0
          clear hg hgn hdb hE0
          replace hnE := hid hnE
          replace hmem := hid hmem
          replace hpath := hid hpath
          go_wp2_with (go_at_call 69; (with_reducible refine (hnm.out _).mono ?_); rintro e wn ⟨rfl, hwn⟩; subst hwn)
          have hT := hA.out.below ((Below.refl w4.heap.size w4).drew)
          have hBd := (sn hBX.out ((Below.refl w4.heap.size w4).drew))
          have hlt0 := hid (lt_of_block hT.res)
          clear q10
          have q2 := hT.t0
          have q3 := hT.t1
          have j0 := block_cell hA.out.res 0
          have j1 := block_cell hA.out.res 1
          have j2 := block_free hA.out.res 0
          have j3 := block_free hA.out.res 1
          go_region_held3 (fun w' => w'.cell? ⟨w.heap.size, 0, none⟩ = some (.int .u64 (x : Int)) ∧ w'.cell? ⟨w.heap.size, 1, none⟩ = some (.slice a l.length c))
            (first | exact ⟨hT.t0, hT.t1⟩ | exact b0b1R (hT.two (by omega) (by have := hs2.out; omega) 0 1 _ _).1 | go_keep)
            ((go_at_call 69; (with_reducible refine (hnm.out _).mono ?_); rintro e wn ⟨rfl, hwn⟩; subst hwn; have g0 := block_cell hT.res 0; have g1 := block_cell hT.res 1; have e0 := block_free hT.res 0; have e1 := block_free hT.res 1))
          all_goals
            obtain ⟨Y9, hY9⟩ : ∃ Z, Z = ((w4.setCell ⟨w.heap.size + 1, 0, none⟩ (.int .u64 (x : Int))).setCell ⟨w.heap.size + 1, 1, none⟩ (.slice a l.length c)).drew := ⟨_, rfl⟩
            rw [← hY9]
            have hres := hid (show Y9.heap[w.heap.size + 1]? = some (.cells #[.int .u64 (x : Int), .slice a l.length c] 32 (0, 0)) by rw [hY9]; exact block_set (block_set hA.out.res 0 _) 1 _)
            have hN9 := hid (show NodsAt Y9 (.slice a l.length c) l by
              rw [hY9]; exact NodsAt.other hA.out.row (w.heap.size + 1) (fun e => by have := hvo.out _ e; omega) (by simp) (fun k hk => (block_set_other (by show k ≠ w.heap.size + 1; exact hk)).trans (block_set_other (by show k ≠ w.heap.size + 1; exact hk))))
            have hB9 := hid (show Below w.heap.size w Y9 by rw [hY9]; exact ((hBX.out.setCell (by show w.heap.size ≤ w.heap.size + 1; omega) _).setCell (by show w.heap.size ≤ w.heap.size + 1; omega) _).drew)
            replace hY9 := hid hY9
            clear hT hBd q0 q1 q2 q3 j0 j1 j2 j3
            go_wp2_with fail
            refine bodyPost_ret (results_css rfl _ _ (w.heap.size + 1) _ _ _ _ _ _ rfl rfl rfl hres.out Try.underlying32 rfl (by kernel_rfl)) rfl ?_
            refine ⟨.slice a l.length c, ?_, ?_, hB9.out⟩
            · rw [hdE.out]; rfl
            · rw [hdE.out]; exact hN9.out
        subst hE0
        have hm0 : nameN name = 0 := hnE.symm
        by_cases hfs : (findL l p name).isSome = true
        · have hiz : is = true := by rw [his.out]; exact hfs
          subst hiz
          have hdE := hid (show makeT ⟨x, l⟩ p name mode uid gid now = (⟨x, l⟩, 0, 7) by unfold makeT; rw [hg]; simp only; rw [if_neg (by rw [hdb]; simp), hgn, if_neg (by simp), if_neg (by rw [hm0]; simp), if_pos hfs])
          clear hg hdb hgn hfs
          replace hnE := hid hnE
          replace hm0 := hid hm0
          have hres := hid hA.out.res
          have hlt := hid (lt_of_block hA.out.res)
          have hN := hid (NodsAt.other (w' := w4.setRow (w.heap.size + 1) #[.int .u64 (x : Int), .slice a l.length c]) hA.out.row (w.heap.size + 1) (fun e => by have := hvo.out _ e; omega) (by simp) (fun k hk => setRow_other _ _ _ _ hk))
          go_wp2_with (first
            | (go_at_call 69; (with_reducible refine (hnm.out _).mono ?_); rintro e wn ⟨rfl, hwn⟩; subst hwn)
            | (refine wpList_store_row (by rfl) 32 (.tmp 14) (.tmp 57) (by rfl) (w.heap.size + 1) #[.int .u64 (x : Int), .slice a l.length c] (by rfl) (by rfl) 32 _ hres.out (by kernel_rfl) (by kernel_rfl) (by kernel_rfl) ?_))
          refine bodyPost_ret (results_css rfl _ _ (w.heap.size + 1) _ _ _ _ _ _ rfl rfl rfl (setRow_heap _ _ _ #[.int .u64 (x : Int), .slice a l.length c] _ _ hres.out) Try.underlying32 rfl (by kernel_rfl)) rfl ?_
          refine ⟨.slice a l.length c, ?_, ?_, below_setRow hBX.out (by omega) _⟩
          · rw [hdE.out]; rfl
          · rw [hdE.out]; exact hN.out
        have hiz : is = false := by rw [his.out]; simpa using hfs
        subst hiz
        by_cases h64 : 64 ≤ l.length
        · have hdE := hid (show makeT ⟨x, l⟩ p name mode uid gid now = (⟨x, l⟩, 0, 14) by unfold makeT; rw [hg]; simp only; rw [if_neg (by rw [hdb]; simp), hgn, if_neg (by simp), if_neg (by rw [hm0]; simp), if_neg hfs, if_pos h64])
          have h65 : (64 : Int) ≤ (l.length : Int) := by omega
          clear hg hdb hgn hfs
          replace hnE := hid hnE
          replace hm0 := hid hm0
          have hres := hid hA.out.res
          have hlt := hid (lt_of_block hA.out.res)
          have hN := hid (NodsAt.other (w' := w4.setRow (w.heap.size + 1) #[.int .u64 (x : Int), .slice a l.length c]) hA.out.row (w.heap.size + 1) (fun e => by have := hvo.out _ e; omega) (by simp) (fun k hk => setRow_other _ _ _ _ hk))
          go_wp2_with (first
            | (go_at_call 69; (with_reducible refine (hnm.out _).mono ?_); rintro e wn ⟨rfl, hwn⟩; subst hwn)
            | (refine wpList_store_row (by rfl) 32 (.tmp 14) (.tmp 63) (by rfl) (w.heap.size + 1) #[.int .u64 (x : Int), .slice a l.length c] (by rfl) (by rfl) 32 _ hres.out (by kernel_rfl) (by kernel_rfl) (by kernel_rfl) ?_))
          refine bodyPost_ret (results_css rfl _ _ (w.heap.size + 1) _ _ _ _ _ _ rfl rfl rfl (setRow_heap _ _ _ #[.int .u64 (x : Int), .slice a l.length c] _ _ hres.out) Try.underlying32 rfl (by kernel_rfl)) rfl ?_
          refine ⟨.slice a l.length c, ?_, ?_, below_setRow hBX.out (by omega) _⟩
          · rw [hdE.out]; rfl
          · rw [hdE.out]; exact hN.out
        have hdT := hid (show makeT ⟨x, l⟩ p name mode uid gid now = (⟨x + 1, setL (setL l (touchN n uid now)) (newN x mode now name uid gid p)⟩, x, 0) by unfold makeT; rw [hg]; simp only; rw [if_neg (by rw [hdb]; simp), hgn, if_neg (by simp), if_neg (by rw [hm0]; simp), if_neg hfs, if_neg h64])
        have h65 : (l.length : Int) < 64 := by omega
        have h66 : ¬ (64 : Int) ≤ (l.length : Int) := by omega
        obtain ⟨n1, hn1⟩ : ∃ n1, n1 = touchN n uid now := ⟨_, rfl⟩
        obtain ⟨n2, hn2⟩ : ∃ n2, n2 = newN x mode now name uid gid p := ⟨_, rfl⟩
        obtain ⟨l1, hl1⟩ : ∃ l1, l1 = setL l n1 := ⟨_, rfl⟩
        have hs1 := hid (show SortL l1 by rw [hl1]; exact ht.sort.set _)
        have hlen1 : l1.length ≤ 81 := by rw [hl1, set_len ht.sort hmem n1 (by rw [hn1]; rfl)]; have := ht.few; omega
        have hne1 := hid (show l1 ≠ [] by intro e; have h9 := set_len ht.sort hmem n1 (by rw [hn1]; rfl); rw [← hl1, e] at h9; exact hne (List.length_eq_zero_iff.1 h9.symm))
        obtain ⟨L, hL⟩ : ∃ L, L = setL l1 n2 := ⟨_, rfl⟩
        have hdE := hid (show makeT ⟨x, l⟩ p name mode uid gid now = (⟨x + 1, L⟩, x, 0) by rw [hdT.out, hL, hl1, hn1, hn2])
        have htc : Hid (∀ Z, Calls Try.prog 71 #[.agg #[.int .u64 (n.path : Int), .int .u32 (n.vers : Int), .int .u32 (n.mode : Int), .int .u32 (n.atm : Int), .int .u32 (n.mtm : Int), .string n.name, .string n.uid, .string n.gid, .string n.muid, .int .u64 (n.up : Int), .bool n.gone, .string n.data], .string uid, .int .u32 (now : Int)] Z fun e w' => e = .returned (.agg n1.cells) ∧ Below Z.heap.size Z w') := hid (fun Z => by rw [hn1]; exact rtouched_any n uid now Z hnok.out)
        have hst1 : Hid (∀ Z, NodsAt Z (.slice a l.length c) l → Calls Try.prog 70 #[.agg #[.int .u64 (x : Int), .slice a l.length c], .agg n1.cells] Z (SetPost Z x l1)) := hid (fun Z hZ => by rw [hl1, ← setR_eq ht.sort]; exact rset_any _ x l n1 Z hZ (by have := ht.few; omega))
        have hst2 : Hid (∀ Z u, NodsAt Z u l1 → Calls Try.prog 70 #[.agg #[.int .u64 (x : Int), u], .agg #[.int .u64 (x : Int), .int .u32 0, .int .u32 (mode : Int), .int .u32 (now : Int), .int .u32 (now : Int), .string name, .string uid, .string gid, .string uid, .int .u64 (p : Int), .bool false, .string ⟨#[]⟩]] Z (SetPost Z x L)) := hid (fun Z u hZ => by
          have := rset_any u x l1 n2 Z hZ (by omega)
          rw [setR_eq hs1.out, ← hL, hn2] at this
          exact this)
        clear hdT hg hdb hgn hfs hlen1
        replace hn1 := hid hn1
        replace hn2 := hid hn2
        replace hl1 := hid hl1
        replace hL := hid hL
        replace hm0 := hid hm0
        replace hnE := hid hnE
        replace hmem := hid hmem
        replace hpath := hid hpath
        go_upto_region 15 with (go_at_call 69; (with_reducible refine (hnm.out _).mono ?_); rintro e wn ⟨rfl, hwn⟩; subst hwn)
        clear h65 h66 h64
        replace ht := hid ht
        replace hv := hid hv
        go_wp2_with fail
        have hZY := hid (lt_of_block hA.out.res)
        have hZ0 := hid (lt_of_block hA.out.tr)
        have hT := hA.out.below ((Below.refl w4.heap.size w4).drew)
        have hBd := (sn hBX.out ((Below.refl w4.heap.size w4).drew))
        clear hA hBX q0 q1 q10
        have q0 := hT.t0
        have q1 := hT.t1
        obtain ⟨d0, d1, d2, d3, d4, d5, d6, d7, d8, d9, d10, d11⟩ := nodSR hT.nd
        go_region_with (first
          | (go_at_call 71; (with_reducible refine (htc.out _).mono ?_); rintro e wt ⟨rfl, hbt⟩; replace hT := hT.below hbt; replace hBd := sn hBd hbt; have q2 := hT.t0; have q3 := hT.t1)
          | (go_at_call 70; (with_reducible refine (hst1.out _ hT.row).mono ?_); rintro e w6 ⟨v6, rfl, hv6, hf6, hb6⟩; obtain ⟨a6, c6, rfl, _, _⟩ := hv6.form; replace hT := hT.below hb6; replace hBd := sn hBd hb6; have g0 := block_cell hT.tr 0; have g1 := block_cell hT.tr 1; have e0 := block_free hT.tr 0; have e1 := block_free hT.tr 1))
        all_goals
          obtain ⟨Y9, hY9⟩ : ∃ Z, Z = (w6.setCell ⟨w.heap.size, 0, none⟩ (.int .u64 (x : Int))).setCell ⟨w.heap.size, 1, none⟩ (.slice a6 l1.length c6) := ⟨_, rfl⟩
          rw [← hY9]
          have hszt := hbt.size
          have hX9 := hid (show Y9.heap[w.heap.size]? = some (.cells #[.int .u64 (x : Int), .slice a6 l1.length c6] 32 (0, 0)) by rw [hY9]; exact block_set (block_set hT.tr 0 _) 1 _)
          have hR9 := hid (show Y9.heap[w.heap.size + 1]? = some (.cells #[.int .u64 0, .slice none 0 0] 32 (0, 0)) by rw [hY9]; exact (block_set_other (by show w.heap.size + 1 ≠ w.heap.size; omega)).trans ((block_set_other (by show w.heap.size + 1 ≠ w.heap.size; omega)).trans hT.res))
          have hN9 := hid (show NodsAt Y9 (.slice a6 l1.length c6) l1 by
            rw [hY9]; exact NodsAt.other hv6 w.heap.size (fun e => by have := hf6 _ e; have := hZ0.out; simp at hszt; omega) (by simp) (fun k hk => (block_set_other (by show k ≠ w.heap.size; exact hk)).trans (block_set_other (by show k ≠ w.heap.size; exact hk))))
          have hB9 := hid (show Below w.heap.size w Y9 by rw [hY9]; exact (hBd.setCell (by show w.heap.size ≤ w.heap.size; omega) _).setCell (by show w.heap.size ≤ w.heap.size; omega) _)
          replace hY9 := hid hY9
          clear hT hBd hbt hb6 hv6 hf6 g0 g1 e0 e1 q0 q1 q2 q3 d0 d1 d2 d3 d4 d5 d6 d7 d8 d9 d10 d11 hszt
          have q0 := block_cell hX9.out 0
          have q1 := block_cell hX9.out 1
          have hc2 := hid (hst2.out Y9 _ hN9.out)
          go_wp2_with fail
          refine hc2.out.mono ?_
          rintro e w7 ⟨v7, rfl, hv7, hf7, hb7⟩
          obtain ⟨a7, c7, rfl, _, _⟩ := hv7.form
          have hX7 := hid ((hb7.block _ (lt_of_block hX9.out)).trans hX9.out)
          have hlX := hid (lt_of_block hX9.out)
          have hlR := hid (lt_of_block hR9.out)
          obtain ⟨V7, hV7⟩ : ∃ V, V = w7.setRow w.heap.size #[.int .u64 (x : Int), .slice a7 L.length c7] := ⟨_, rfl⟩
          have hXV := hid (show V7.heap[w.heap.size]? = some (.cells #[.int .u64 (x : Int), .slice a7 L.length c7] 32 (0, 0)) by rw [hV7]; exact setRow_heap _ _ _ _ _ _ hX7.out)
          have hRV := hid (show V7.heap[w.heap.size + 1]? = some (.cells #[.int .u64 0, .slice none 0 0] 32 (0, 0)) by rw [hV7]; exact (setRow_other _ _ _ _ (by omega)).trans ((hb7.block _ (lt_of_block hR9.out)).trans hR9.out))
          have hNV := hid (show NodsAt V7 (.slice a7 L.length c7) L by rw [hV7]; exact NodsAt.other hv7 w.heap.size (fun e => by have := hf7 _ e; have := hlX.out; omega) (by simp) (fun k hk => setRow_other _ _ _ _ hk))
          have hBV := hid (show Below w.heap.size w V7 by rw [hV7]; exact below_setRow (sn hB9.out hb7) (Nat.le_refl _) _)
          have hFV := hid (show ∀ k, (Value.slice a7 L.length c7).ownBlock = some k → w.heap.size + 1 < k from fun k hk => by have := hf7 k hk; have := hlR.out; omega)
          clear hb7 hv7 hf7 hc2 q0 q1
          go_upto_region 18 with (first
            | (rw [← hV7]; replace hV7 := hid hV7)
            | (refine wpList_store_row (by rfl) 32 (.tmp 7) (.tmp 83) (by rfl) w.heap.size #[.int .u64 (x : Int), .slice a7 L.length c7] (by rfl) (by rfl) 32 _ hX7.out (by kernel_rfl) (by kernel_rfl) (by kernel_rfl) ?_))
          try (rw [← hV7]; replace hV7 := hid hV7)
          have q0 := block_cell hXV.out 0
          have f0 := block_free hXV.out 0
          have kx : IntKind.u64.wrap ((x : Int) + 1) = (x : Int) + 1 := IntWalk.u64_in _ (by omega)
          obtain ⟨U, hU⟩ : ∃ U, U = V7.setCell ⟨w.heap.size, 0, none⟩ (.int .u64 ((x : Int) + 1)) := ⟨_, rfl⟩
          have hXU := hid (show U.heap[w.heap.size]? = some (.cells #[.int .u64 ((x : Int) + 1), .slice a7 L.length c7] 32 (0, 0)) by rw [hU]; exact block_set hXV.out 0 _)
          have hRU := hid (show U.heap[w.heap.size + 1]? = some (.cells #[.int .u64 0, .slice none 0 0] 32 (0, 0)) by rw [hU]; exact (block_set_other (by show w.heap.size + 1 ≠ w.heap.size; omega)).trans hRV.out)
          have hNU := hid (show NodsAt U (.slice a7 L.length c7) L by rw [hU]; exact NodsAt.other hNV.out w.heap.size (fun e => by have := hFV.out _ e; omega) (by simp) (fun k hk => block_set_other (by show k ≠ w.heap.size; exact hk)))
          have hBU := hid (show Below w.heap.size w U by rw [hU]; exact hBV.out.setCell (by show w.heap.size ≤ w.heap.size; omega) _)
          go_upto_region 19 with (rw [← hU]; replace hU := hid hU)
          try (rw [← hU]; replace hU := hid hU)
          clear q0 f0
          have q0 := block_cell hXU.out 0
          have q1 := block_cell hXU.out 1
          have hNF := hid (NodsAt.other (w' := U.setRow (w.heap.size + 1) #[.int .u64 ((x : Int) + 1), .slice a7 L.length c7]) hNU.out (w.heap.size + 1) (fun e => by have := hFV.out _ e; omega) (by simp) (fun k hk => setRow_other _ _ _ _ hk))
          go_wp2_with (refine wpList_store_row (by rfl) 32 (.tmp 14) (.tmp 87) (by rfl) (w.heap.size + 1) #[.int .u64 ((x : Int) + 1), .slice a7 L.length c7] (by rfl) (by rfl) 32 _ hRU.out (by kernel_rfl) (by kernel_rfl) (by kernel_rfl) ?_)
          refine bodyPost_ret (results_css rfl _ _ (w.heap.size + 1) _ _ _ _ _ _ rfl rfl rfl (setRow_heap _ _ _ #[.int .u64 ((x : Int) + 1), .slice a7 L.length c7] _ _ hRU.out) Try.underlying32 rfl (by kernel_rfl)) rfl ?_
          refine ⟨.slice a7 L.length c7, ?_, ?_, below_setRow hBU.out (by omega) _⟩
          · rw [hdE.out]; rfl
          · rw [hdE.out]; exact hNF.out
end
end Go.Proofs.Ytpmlhmficmillaa

namespace Go.Proofs.Ytpmlhmficmillaa
section
open Go.RowKit
set_option maxRecDepth 100000
set_option linter.unusedVariables false

def KidsLen (l : List Nod) (d : Nat) (w : World) (e : Ending) (w' : World) : Prop := ∃ a c, e = .returned (.slice a (kidsOf l d).length c) ∧ Below w.heap.size w w'
set_option maxHeartbeats 12800000 in
theorem runlink_of (v : Value) (x : Nat) (l : List Nod) (p : Nat) (who : ByteArray) (now : Nat) (w : World) (hv : NodsAt w v l) (ht : TrOk l) (hne : l ≠ []) (hkids : ∀ (Z : World) (u : Value), NodsAt Z u l → Calls Try.prog 73 #[.agg #[.int .u64 (x : Int), u], .int .u64 (p : Int)] Z (KidsLen l p Z)) :
    Calls Try.prog 39 #[.agg #[.int .u64 (x : Int), v], .int .u64 (p : Int), .string who, .int .u32 (now : Int)] w (RErr w (unlinkT ⟨x, l⟩ p who now)) := by
  have hkd := hid hkids
  clear hkids
  obtain ⟨a, c, rfl, g1, g2⟩ := hv.form
  unfold maxLen at g2
  have hvo := hid (rown hv hne)
  obtain ⟨W, hW⟩ : ∃ W, W = (w.alloc (.cells #[.int .u64 (x : Int), .slice a l.length c] 32)).alloc (.cells #[.int .u64 0, .slice none 0 0] 32) := ⟨_, rfl⟩
  have hb0 : Below w.heap.size w W := by rw [hW]; exact ((Below.refl w.heap.size w).alloc (Nat.le_refl _) _).alloc (by simp) _
  have hx0 : W.heap[w.heap.size]? = some (.cells #[.int .u64 (x : Int), .slice a l.length c] 32 (0, 0)) := by rw [hW, heap_alloc_old _ _ (by simp), heap_alloc_new]
  have hy0 : W.heap[w.heap.size + 1]? = some (.cells #[.int .u64 0, .slice none 0 0] 32 (0, 0)) := by rw [hW]; exact heap2 _ _ _
  have hfi := hid (rget_any _ x l p W (hv.below hb0) (by have := ht.few; omega))
  have e0 := block_cell hx0 0
  have e1 := block_cell hx0 1
  have hv0 := hid (hv.below hb0)
  replace hb0 := hid hb0
  replace hx0 := hid hx0
  replace hy0 := hid hy0
  go_enter Try.func39, Try.ntmps39
  go_upto_region 1 with (rw [← hW]; replace hW := hid hW)
  try (rw [← hW]; replace hW := hid hW)
  go_wp2_with fail
  refine hfi.out.mono ?_
  rintro e w2 ⟨rfl, hb2⟩
  have hB2 := hid (sn hb0.out hb2)
  have hs2 := hid (lt_of_block ((hb2.block _ (lt_of_block hy0.out)).trans hy0.out))
  obtain ⟨n, hn⟩ : ∃ n, n = getN l p := ⟨_, rfl⟩
  have hnew := hid (heap_alloc_new w2 (.cells zeroNod.cells 71))
  obtain ⟨X, hX⟩ : ∃ W, W = boxR w2 n := ⟨_, rfl⟩
  have hbX : Below w2.heap.size w2 X := by rw [hX]; exact boxR_below _ _
  have hBX := hid (sn hB2.out hbX)
  have hA : TrR w.heap.size w2.heap.size (w.heap.size + 1) x (.slice a l.length c) l n X :=
    ⟨(hbX.block _ (by have := hs2.out; omega)).trans ((hb2.block _ (lt_of_block hx0.out)).trans hx0.out), by rw [hX]; exact boxR_heap _ _, (hbX.block _ hs2.out).trans ((hb2.block _ (lt_of_block hy0.out)).trans hy0.out), (hv0.out.below hb2).below hbX⟩
  have q0 := hA.t0
  have q1 := hA.t1
  unfold boxR at hX
  rw [zeroNod_cells] at hX hnew
  rw [← hn]
  clear hb2 hbX hfi e0 e1 hB2 hx0 hy0 hv0 hb0
  replace hA := hid hA
  replace hn := hid hn
  go_upto_region 2 with (first
    | (rw [← hX]; replace hX := hid hX)
    | (refine wpList_store_row (by rfl) 71 (.tmp 10) (.tmp 18) (by rfl) w2.heap.size n.cells (by rfl) (by rfl) 71 _ hnew.out (by kernel_rfl) (by kernel_rfl) (nod_one n) ?_))
  try (rw [← hX]; replace hX := hid hX)
  clear hnew
  generalize w2.heap.size = z at *
  have q10 : X.cell? ⟨z, 10, none⟩ = some (.bool n.gone) := block_cell hA.out.nd 10
  cases hg : getL l p with
  | none =>
    have hdE := hid (show unlinkT ⟨x, l⟩ p who now = (⟨x, l⟩, 6) by unfold unlinkT; rw [hg])
    simp only [Option.isSome_none]
    clear hg
    have hres := hid hA.out.res
    have hlt := hid (lt_of_block hA.out.res)
    have hN := hid (NodsAt.other (w' := X.setRow (w.heap.size + 1) #[.int .u64 (x : Int), .slice a l.length c]) hA.out.row (w.heap.size + 1) (fun e => by have := hvo.out _ e; omega) (by simp) (fun k hk => setRow_other _ _ _ _ hk))
    go_wp2_with (refine wpList_store_row (by rfl) 32 (.tmp 8) (.tmp 23) (by rfl) (w.heap.size + 1) #[.int .u64 (x : Int), .slice a l.length c] (by rfl) (by rfl) 32 _ hres.out (by kernel_rfl) (by kernel_rfl) (by kernel_rfl) ?_)
    refine bodyPost_ret (results_cs rfl _ _ (w.heap.size + 1) _ _ _ _ _ rfl rfl (setRow_heap _ _ _ #[.int .u64 (x : Int), .slice a l.length c] _ _ hres.out) Try.underlying32 rfl (by kernel_rfl)) rfl ?_
    refine ⟨.slice a l.length c, ?_, ?_, below_setRow hBX.out (by omega) _⟩
    · rw [hdE.out]; rfl
    · rw [hdE.out]; exact hN.out
  | some y =>
    have hny : n = y := by rw [hn.out]; unfold getN; rw [hg]; rfl
    subst hny
    simp only [Option.isSome_some]
    by_cases h1 : p = 1
    · have hdE := hid (show unlinkT ⟨x, l⟩ p who now = (⟨x, l⟩, 5) by unfold unlinkT; rw [hg]; simp only; rw [if_pos h1])
      have k1 : ((p : Int) == 1) = true := by simpa using (by omega : (p : Int) = 1)
      clear hg h1
      have hres := hid hA.out.res
      have hlt := hid (lt_of_block hA.out.res)
      have hN := hid (NodsAt.other (w' := X.setRow (w.heap.size + 1) #[.int .u64 (x : Int), .slice a l.length c]) hA.out.row (w.heap.size + 1) (fun e => by have := hvo.out _ e; omega) (by simp) (fun k hk => setRow_other _ _ _ _ hk))
      go_wp2_with (refine wpList_store_row (by rfl) 32 (.tmp 8) (.tmp 27) (by rfl) (w.heap.size + 1) #[.int .u64 (x : Int), .slice a l.length c] (by rfl) (by rfl) 32 _ hres.out (by kernel_rfl) (by kernel_rfl) (by kernel_rfl) ?_)
      refine bodyPost_ret (results_cs rfl _ _ (w.heap.size + 1) _ _ _ _ _ rfl rfl (setRow_heap _ _ _ #[.int .u64 (x : Int), .slice a l.length c] _ _ hres.out) Try.underlying32 rfl (by kernel_rfl)) rfl ?_
      refine ⟨.slice a l.length c, ?_, ?_, below_setRow hBX.out (by omega) _⟩
      · rw [hdE.out]; rfl
      · rw [hdE.out]; exact hN.out
    have k1 : ((p : Int) == 1) = false := by rw [beq_eq_false_iff_ne]; omega
    cases hgn : n.gone with
    | true =>
      have hdE := hid (show unlinkT ⟨x, l⟩ p who now = (⟨x, l⟩, 6) by unfold unlinkT; rw [hg]; simp only; rw [if_neg h1, hgn]; rfl)
      rw [hgn] at q10
      clear hg hgn h1
      have hres := hid hA.out.res
      have hlt := hid (lt_of_block hA.out.res)
      have hN := hid (NodsAt.other (w' := X.setRow (w.heap.size + 1) #[.int .u64 (x : Int), .slice a l.length c]) hA.out.row (w.heap.size + 1) (fun e => by have := hvo.out _ e; omega) (by simp) (fun k hk => setRow_other _ _ _ _ hk))
      go_wp2_with (refine wpList_store_row (by rfl) 32 (.tmp 8) (.tmp 31) (by rfl) (w.heap.size + 1) #[.int .u64 (x : Int), .slice a l.length c] (by rfl) (by rfl) 32 _ hres.out (by kernel_rfl) (by kernel_rfl) (by kernel_rfl) ?_)
      refine bodyPost_ret (results_cs rfl _ _ (w.heap.size + 1) _ _ _ _ _ rfl rfl (setRow_heap _ _ _ #[.int .u64 (x : Int), .slice a l.length c] _ _ hres.out) Try.underlying32 rfl (by kernel_rfl)) rfl ?_
      refine ⟨.slice a l.length c, ?_, ?_, below_setRow hBX.out (by omega) _⟩
      · rw [hdE.out]; rfl
      · rw [hdE.out]; exact hN.out
    | false =>
      obtain ⟨hmem, hpath⟩ := getL_some hg
      rw [hgn] at q10
      have hkc := hid (hkd.out X _ hA.out.row)
      go_wp2_with fail
      refine hkc.out.mono ?_
      rintro e w3 ⟨a3, c3, rfl, hb3⟩
      clear hkc hkd
      have hA0 := hA.out.below hb3
      have hBX0 := hid (sn hBX.out hb3)
      clear hA hBX q0 q1 q10 hb3
      have hA := hid hA0
      have hBX := hBX0
      clear hBX0
      have q0 := hA0.t0
      have q1 := hA0.t1
      clear hA0
      obtain ⟨kn, hkn⟩ : ∃ kn, kn = (kidsOf l p).length := ⟨_, rfl⟩
      rw [← hkn]
      by_cases hk0 : kidsOf l p = []
      case neg =>
        have hdE := hid (show unlinkT ⟨x, l⟩ p who now = (⟨x, l⟩, 15) by unfold unlinkT; rw [hg]; simp only; rw [if_neg h1, hgn, if_neg (by simp), if_pos hk0])
        have hkz : (0 : Int) < (kn : Int) := by
          have : 0 < (kidsOf l p).length := List.length_pos_iff.2 hk0
          omega
        clear hg h1 hkn hk0 hgn
        have hres := hid hA.out.res
        have hlt := hid (lt_of_block hA.out.res)
        have hN := hid (NodsAt.other (w' := w3.setRow (w.heap.size + 1) #[.int .u64 (x : Int), .slice a l.length c]) hA.out.row (w.heap.size + 1) (fun e => by have := hvo.out _ e; omega) (by simp) (fun k hk => setRow_other _ _ _ _ hk))
        go_wp2_with (refine wpList_store_row (by rfl) 32 (.tmp 8) (.tmp 38) (by rfl) (w.heap.size + 1) #[.int .u64 (x : Int), .slice a l.length c] (by rfl) (by rfl) 32 _ hres.out (by kernel_rfl) (by kernel_rfl) (by kernel_rfl) ?_)
        refine bodyPost_ret (results_cs rfl _ _ (w.heap.size + 1) _ _ _ _ _ rfl rfl (setRow_heap _ _ _ #[.int .u64 (x : Int), .slice a l.length c] _ _ hres.out) Try.underlying32 rfl (by kernel_rfl)) rfl ?_
        refine ⟨.slice a l.length c, ?_, ?_, below_setRow hBX.out (by omega) _⟩
        · rw [hdE.out]; rfl
        · rw [hdE.out]; exact hN.out
      have hdT := hid (unlinkT_last ⟨x, l⟩ p who now n hg h1 hgn hk0)
      have hkz : kn = 0 := by rw [hkn, hk0]; rfl
      subst hkz
      have hup := hid (rget_any _ x l n.up w3 hA.out.row (by have := ht.few; omega))
      have q9 := nodIs hA.out.nd
      replace hpath := hid hpath
      replace hgn := hid hgn
      clear hkn hk0 hg h1
      go_wp2_with fail
      refine hup.out.mono ?_
      rintro e w4 ⟨rfl, hb4⟩
      clear hup
      have hA0 := hA.out.below hb4
      have hBX0 := hid (sn hBX.out hb4)
      clear hA hBX q0 q1 q9 hb4
      have hA := hid hA0
      have hBX := hBX0
      clear hBX0
      have q0 := hA0.t0
      have q1 := hA0.t1
      clear hA0
      have hs4 := hid (lt_of_block hA.out.nd)
      have hs4r := hid (lt_of_block hA.out.res)
      have hnok := hid (fun d (h : getL l n.up = some d) => ht.ok d (getL_some h).1)
      obtain ⟨d, hd⟩ : ∃ d, d = getN l n.up := ⟨_, rfl⟩
      have hnew := hid (heap_alloc_new w4 (.cells zeroNod.cells 71))
      obtain ⟨X2, hX2⟩ : ∃ W, W = boxR w4 d := ⟨_, rfl⟩
      have hbX : Below w4.heap.size w4 X2 := by rw [hX2]; exact boxR_below _ _
      have hD0 : X2.heap[w4.heap.size]? = some (.cells d.cells 71 (0, 0)) := by rw [hX2]; exact boxR_heap _ _
      unfold boxR at hX2
      rw [zeroNod_cells] at hX2 hnew
      rw [← hd]
      replace hD0 := hid hD0
      replace hd := hid hd
      have hA0 := hA.out.below hbX
      have hBX0 := hid (sn hBX.out hbX)
      clear hA hBX q0 q1  hbX
      have hA := hid hA0
      have hBX := hBX0
      clear hBX0
      have q0 := hA0.t0
      have q1 := hA0.t1
      clear hA0
      obtain ⟨is, his⟩ : ∃ is, is = (getL l n.up).isSome := ⟨_, rfl⟩
      rw [← his]
      replace his := hid his
      go_upto_region 11 with (first
        | (rw [← hX2]; replace hX2 := hid hX2)
        | (refine wpList_store_row (by rfl) 71 (.tmp 12) (.tmp 44) (by rfl) w4.heap.size d.cells (by rfl) (by rfl) 71 _ hnew.out (by kernel_rfl) (by kernel_rfl) (nod_one d) ?_))
      try (rw [← hX2]; replace hX2 := hid hX2)
      clear hnew
      generalize w4.heap.size = z2 at *
      have hA0 := hA.out
      have c10 : X2.cell? ⟨z, 10, none⟩ = some (.bool n.gone) := block_cell hA0.nd 10
      have f10 : X2.frozen? ⟨z, 10, none⟩ = false := block_free hA0.nd 10
      obtain ⟨n1, hn1⟩ : ∃ n1 : Nod, n1 = { n with gone := true } := ⟨_, rfl⟩
      obtain ⟨Y1, hY1⟩ : ∃ Y, Y = X2.setCell ⟨z, 10, none⟩ (.bool true) := ⟨_, rfl⟩
      have hBY : Below w.heap.size w Y1 := by rw [hY1]; exact hBX.out.setCell (by show w.heap.size ≤ z; have := hs2.out; omega) _
      have hAY : TrR w.heap.size z (w.heap.size + 1) x (.slice a l.length c) l n1 Y1 := by
        have hrow := hv.below hBY
        rw [hY1] at hrow ⊢
        exact hA0.put (by have := hs2.out; omega) (by have := hs2.out; omega) 10 (.bool true) (by rw [hn1]; rfl) hrow
      have c9 : Y1.cell? ⟨z, 9, none⟩ = some (.int .u64 (n.up : Int)) := by have := nodIs hAY.nd; rw [hn1] at this; exact this
      have f9 : Y1.frozen? ⟨z, 9, none⟩ = false := block_free hAY.nd 9
      obtain ⟨n2, hn2⟩ : ∃ n2 : Nod, n2 = goneN n := ⟨_, rfl⟩
      obtain ⟨Y2, hY2⟩ : ∃ Y, Y = Y1.setCell ⟨z, 9, none⟩ (.int .u64 0) := ⟨_, rfl⟩
      have hBY2 : Below w.heap.size w Y2 := by rw [hY2]; exact hBY.setCell (by show w.heap.size ≤ z; have := hs2.out; omega) _
      have hAY2 : TrR w.heap.size z (w.heap.size + 1) x (.slice a l.length c) l n2 Y2 := by
        have hrow := hv.below hBY2
        rw [hY2] at hrow ⊢
        exact hAY.put (by have := hs2.out; omega) (by have := hs2.out; omega) 9 (.int .u64 0) (by rw [hn2, hn1]; rfl) hrow
      have hD2 := hid (show Y2.heap[z2]? = some (.cells d.cells 71 (0, 0)) by
        have h4 := hs4.out
        rw [hY2, hY1]
        exact (block_set_other (by show z2 ≠ z; omega)).trans ((block_set_other (by show z2 ≠ z; omega)).trans hD0.out))
      obtain ⟨l1, hl1⟩ : ∃ l1, l1 = setL l n2 := ⟨_, rfl⟩
      have hst1 := hid (show Calls Try.prog 70 #[.agg #[.int .u64 (x : Int), .slice a l.length c], .agg n2.cells] Y2 (SetPost Y2 x l1) by rw [hl1, ← setR_eq ht.sort]; exact rset_any _ x l n2 Y2 hAY2.row (by have := ht.few; omega))
      have hnd := hid hAY2.nd
      clear hA0 q0 q1 hA hBX hD0
      have q0 := hAY2.t0
      have q1 := hAY2.t1
      have hA := hid hAY2
      have hBX := hid hBY2
      have hs1 := hid (show SortL l1 by rw [hl1]; exact ht.sort.set _)
      have hlen1 : l1.length ≤ 90 := by rw [hl1, set_len ht.sort hmem n2 (by rw [hn2]; rfl)]; have := ht.few; omega
      rw [← hn2, ← hl1] at hdT
      clear hAY hAY2 hBY hBY2
      replace hn1 := hid hn1
      replace hn2 := hid hn2
      replace hl1 := hid hl1
      go_upto_region 13 with (first
        | (rw [← hY1]; replace hY1 := hid hY1)
        | (rw [← hY2]; replace hY2 := hid hY2))
      try (rw [← hY2]; replace hY2 := hid hY2)
      clear c10 f10 c9 f9
      go_wp2_with (refine wpList_load_row (by rfl) 71 (.tmp 10) (by rfl) z (by rfl) 71 n2.cells (0, 0) _ hnd.out Try.underlying71 (by rfl) (by kernel_rfl) ?_)
      refine hst1.out.mono ?_
      rintro e w5 ⟨v5, rfl, hv5, hf5, hb5⟩
      obtain ⟨a5, c5, rfl, _, _⟩ := hv5.form
      have hX5 := hid ((hb5.block _ (lt_of_block hA.out.tr)).trans hA.out.tr)
      have hlz := lt_of_block hA.out.tr
      have hlr := lt_of_block hA.out.res
      have hld := hid (lt_of_block hD2.out)
      obtain ⟨V3, hV3⟩ : ∃ V, V = w5.setRow w.heap.size #[.int .u64 (x : Int), .slice a5 l1.length c5] := ⟨_, rfl⟩
      have hT : TrR w.heap.size z2 (w.heap.size + 1) x (.slice a5 l1.length c5) l1 d V3 := by
        rw [hV3]
        exact ⟨setRow_heap _ _ _ _ _ _ hX5.out, (setRow_other _ _ _ _ (by have := hs4r.out; have := hs2.out; have := hs4.out; omega)).trans ((hb5.block _ (lt_of_block hD2.out)).trans hD2.out), (setRow_other _ _ _ _ (by omega)).trans ((hb5.block _ hlr).trans hA.out.res), NodsAt.other hv5 w.heap.size (fun e => by have := hf5 _ e; omega) (by simp) (fun k hk => setRow_other _ _ _ _ hk)⟩
      have hB5 := hid (show Below w.heap.size w V3 by rw [hV3]; exact below_setRow (sn hBX.out hb5) (Nat.le_refl _) _)
      have hF5 := hid (show ∀ k, (Value.slice a5 l1.length c5).ownBlock = some k → w.heap.size + 1 < k from fun k hk => by have := hf5 k hk; omega)
      replace hT := hid hT
      clear hb5 hA hBX q0 q1 hv5 hf5 hst1 hnd hD2 hlz hlr
      go_upto_region 14 with (first
        | (rw [← hV3]; replace hV3 := hid hV3)
        | (refine wpList_store_row (by rfl) 32 (.tmp 4) (.tmp 50) (by rfl) w.heap.size #[.int .u64 (x : Int), .slice a5 l1.length c5] (by rfl) (by rfl) 32 _ hX5.out (by kernel_rfl) (by kernel_rfl) (by kernel_rfl) ?_))
      try (rw [← hV3]; replace hV3 := hid hV3)
      try simp only [Act.put]
      cases hgu : getL l n.up with
      | none =>
        have hdE := hid (show unlinkT ⟨x, l⟩ p who now = (⟨x, l1⟩, 0) by rw [hdT.out, hgu])
        have hiz : is = false := by rw [his.out, hgu]; rfl
        subst hiz
        have hc := hid hT.out.tr
        have hres := hid hT.out.res
        have hN9 := hid hT.out.row
        have hF := hF5
        have hB9 := hB5
        clear hgu
        have y0 := block_cell hc.out 0
        have y1 := block_cell hc.out 1
        have hlt := hid (lt_of_block hres.out)
        have hN := hid (NodsAt.other (w' := V3.setRow (w.heap.size + 1) #[.int .u64 (x : Int), .slice a5 l1.length c5]) hN9.out (w.heap.size + 1) (fun e => by have := hF.out _ e; omega) (by simp) (fun k hk => setRow_other _ _ _ _ hk))
        go_wp2_with (refine wpList_store_row (by rfl) 32 (.tmp 8) (.tmp 58) (by rfl) (w.heap.size + 1) #[.int .u64 (x : Int), .slice a5 l1.length c5] (by rfl) (by rfl) 32 _ hres.out (by kernel_rfl) (by kernel_rfl) (by kernel_rfl) ?_)
        refine bodyPost_ret (results_cs rfl _ _ (w.heap.size + 1) _ _ _ _ _ rfl rfl (setRow_heap _ _ _ #[.int .u64 (x : Int), .slice a5 l1.length c5] _ _ hres.out) Try.underlying32 rfl (by kernel_rfl)) rfl ?_
        refine ⟨.slice a5 l1.length c5, ?_, ?_, below_setRow hB9.out (by omega) _⟩
        · rw [hdE.out]; rfl
        · rw [hdE.out]; exact hN.out
      | some d' =>
        have hdd : d = d' := by rw [hd.out]; unfold getN; rw [hgu]; rfl
        subst hdd
        have hdE := hid (show unlinkT ⟨x, l⟩ p who now = (⟨x, setL l1 (touchN d who now)⟩, 0) by rw [hdT.out, hgu])
        have hiz : is = true := by rw [his.out, hgu]; rfl
        subst hiz
        obtain ⟨d1, hd1⟩ : ∃ d1, d1 = touchN d who now := ⟨_, rfl⟩
        obtain ⟨L, hL⟩ : ∃ L, L = setL l1 d1 := ⟨_, rfl⟩
        have hdok := hnok.out d hgu
        have htc : Hid (∀ Z, Calls Try.prog 71 #[.agg #[.int .u64 (d.path : Int), .int .u32 (d.vers : Int), .int .u32 (d.mode : Int), .int .u32 (d.atm : Int), .int .u32 (d.mtm : Int), .string d.name, .string d.uid, .string d.gid, .string d.muid, .int .u64 (d.up : Int), .bool d.gone, .string d.data], .string who, .int .u32 (now : Int)] Z fun e w' => e = .returned (.agg d1.cells) ∧ Below Z.heap.size Z w') := hid (fun Z => by rw [hd1]; exact rtouched_any d who now Z hdok)
        have hst2 : Hid (∀ Z, NodsAt Z (.slice a5 l1.length c5) l1 → Calls Try.prog 70 #[.agg #[.int .u64 (x : Int), .slice a5 l1.length c5], .agg d1.cells] Z (SetPost Z x L)) := hid (fun Z hZ => by rw [hL, ← setR_eq hs1.out]; exact rset_any _ x l1 d1 Z hZ (by omega))
        rw [← hd1, ← hL] at hdE
        replace hd1 := hid hd1
        replace hL := hid hL
        replace ht := hid ht
        replace hv := hid hv
        clear hgu hdok
        go_wp2_with fail
        have hZ1 := hid (lt_of_block hT.out.res)
        have hT := hT.out.below ((Below.refl V3.heap.size V3).drew)
        have q0 := hT.t0
        have q1 := hT.t1
        obtain ⟨d0, d1', d2, d3, d4, d5, d6, d7, d8, d9, d10, d11⟩ := nodSR hT.nd
        have hBd := (sn hB5.out ((Below.refl V3.heap.size V3).drew))
        go_region_with (first
          | (go_at_call 71; (with_reducible refine (htc.out _).mono ?_); rintro e wt ⟨rfl, hbt⟩; replace hT := hT.below hbt; replace hBd := sn hBd hbt; have q2 := hT.t0; have q3 := hT.t1)
          | (go_at_call 70; (with_reducible refine (hst2.out _ hT.row).mono ?_); rintro e w6 ⟨v6, rfl, hv6, hf6, hb6⟩; obtain ⟨a6, c6, rfl, _, _⟩ := hv6.form; replace hT := hT.below hb6; replace hBd := sn hBd hb6; have g0 := block_cell hT.tr 0; have g1 := block_cell hT.tr 1; have e0 := block_free hT.tr 0; have e1 := block_free hT.tr 1))
        all_goals
          obtain ⟨Y9, hY9⟩ : ∃ Y, Y = (w6.setCell ⟨w.heap.size, 0, none⟩ (.int .u64 (x : Int))).setCell ⟨w.heap.size, 1, none⟩ (.slice a6 L.length c6) := ⟨_, rfl⟩
          rw [← hY9]
          have hszt := hbt.size
          have hF := hid (show ∀ k, (Value.slice a6 L.length c6).ownBlock = some k → w.heap.size + 1 < k from fun k hk => by have := hf6 k hk; have := hZ1.out; simp at hszt; omega)
          have hc := hid (show Y9.heap[w.heap.size]? = some (.cells #[.int .u64 (x : Int), .slice a6 L.length c6] 32 (0, 0)) by rw [hY9]; exact block_set (block_set hT.tr 0 _) 1 _)
          have hres := hid (show Y9.heap[w.heap.size + 1]? = some (.cells #[.int .u64 0, .slice none 0 0] 32 (0, 0)) by
            rw [hY9]; exact (block_set_other (by show w.heap.size + 1 ≠ w.heap.size; omega)).trans ((block_set_other (by show w.heap.size + 1 ≠ w.heap.size; omega)).trans hT.res))
          have hN9 := hid (show NodsAt Y9 (.slice a6 L.length c6) L by
            rw [hY9]; exact NodsAt.other hv6 w.heap.size (fun e => by have := hF.out _ e; omega) (by simp) (fun k hk => (block_set_other (by show k ≠ w.heap.size; exact hk)).trans (block_set_other (by show k ≠ w.heap.size; exact hk))))
          have hB9 := hid (show Below w.heap.size w Y9 by rw [hY9]; exact (hBd.setCell (by show w.heap.size ≤ w.heap.size; omega) _).setCell (by show w.heap.size ≤ w.heap.size; omega) _)
          replace hY9 := hid hY9
          clear hT hBd hbt hb6 hv6 hf6 g0 g1 e0 e1 q0 q1 q2 q3 d0 d1' d2 d3 d4 d5 d6 d7 d8 d9 d10 d11 hszt
          have y0 := block_cell hc.out 0
          have y1 := block_cell hc.out 1
          have hlt := hid (lt_of_block hres.out)
          have hN := hid (NodsAt.other (w' := Y9.setRow (w.heap.size + 1) #[.int .u64 (x : Int), .slice a6 L.length c6]) hN9.out (w.heap.size + 1) (fun e => by have := hF.out _ e; omega) (by simp) (fun k hk => setRow_other _ _ _ _ hk))
          go_wp2_with (refine wpList_store_row (by rfl) 32 (.tmp 8) (.tmp 58) (by rfl) (w.heap.size + 1) #[.int .u64 (x : Int), .slice a6 L.length c6] (by rfl) (by rfl) 32 _ hres.out (by kernel_rfl) (by kernel_rfl) (by kernel_rfl) ?_)
          refine bodyPost_ret (results_cs rfl _ _ (w.heap.size + 1) _ _ _ _ _ rfl rfl (setRow_heap _ _ _ #[.int .u64 (x : Int), .slice a6 L.length c6] _ _ hres.out) Try.underlying32 rfl (by kernel_rfl)) rfl ?_
          refine ⟨.slice a6 L.length c6, ?_, ?_, below_setRow hB9.out (by omega) _⟩
          · rw [hdE.out]; rfl
          · rw [hdE.out]; exact hN.out
end
end Go.Proofs.Ytpmlhmficmillaa
