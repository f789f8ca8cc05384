/- One step of slices.Equal of nodes, operation by operation. Conditions: none.
slices.Equal of nodes, the program's Same. Conditions: at most a thousand nodes.
The program's Same. Conditions: at most a thousand nodes. -/
import Derived.Test.YtpmlhmficmillaaGreatBunNCl
import Derived.Test.YtpmlhmficmillaaGreatBunRN5
namespace Go.Proofs.YtpmlhmficmillaaGreat
section
open Go.RowKit
set_option maxRecDepth 100000
set_option linter.unusedVariables false

theorem nnod_ncmp2 (x y : Nod) (W : World) : (binOp .neq 28 (.agg x.cells) (.agg y.cells)).run Tryz.prog W = .ok (.bool (!eqN x y)) W := by
  have h1 : Tryz.prog.underlying 28 = some (.struct (Tryz.prog.fieldsOf 28)) := by kernel_rfl
  have h2 : Tryz.prog.stoodInHeld 28 = false := by kernel_rfl
  have h5 := Tryz.underlying4
  have h7 := Tryz.underlying26
  have h8 := Tryz.underlying22
  have h9 := Tryz.underlying9
  rw [run_neq_struct, run_equalIn_agg W _ _ _ _ h1 h2]
  have g2 := Tryz.underlying28
  clear h1
  by_cases h : eqN x y = true
  · obtain rfl := eqN_iff.1 h
    rw [h]
    simp [go_sem, h5, h7, h8, h9, g2, Nod.cells]
  · rw [Bool.eq_false_iff.2 h]
    simp [go_sem, h5, h7, h8, h9, g2, Nod.cells]
    have hx : x.path = y.path → x.vers = y.vers → x.mode = y.mode → x.atm = y.atm → x.mtm = y.mtm → x.name.toList = y.name.toList → x.uid.toList = y.uid.toList → x.gid.toList = y.gid.toList → x.muid.toList = y.muid.toList → x.up = y.up → x.gone = y.gone → x.data.toList = y.data.toList → False :=
      fun a1 a2 a3 a4 a5 a6 a7 a8 a9 a10 a11 a12 => h (decide_eq_true ⟨a1, a2, a3, a4, a5, toListInj a6, toListInj a7, toListInj a8, toListInj a9, a10, a11, toListInj a12⟩)
    clear h2 h5 h7 h8 h9 g2 h
    intro a1 a2 a3 a4 a5 a6 a7 a8 a9 a10 a11 a12
    exact hx (by omega) (by omega) (by omega) (by omega) (by omega) a6 a7 a8 a9 (by omega) a11 a12

noncomputable def ops_eq6 : Array Oper := match Tryz.f37.body with | some c => (allOps' c).getD 6 #[] | none => #[]
theorem size_eq6 : ops_eq6.size = 9 := by kernel_rfl
set_option maxHeartbeats 4000000 in
theorem eq6_all {w1 : World} {b f c b2 f2 c2 k N1 N2 : Nat} {n p : Nod} (hN1 : N1 ≤ 1000) (hN2 : N2 ≤ 1000) (hk1 : k < N1) (hk2 : k < N2) (hr1 : w1.rangeAt b (f + k * 12) n.cells.toList) (hr2 : w1.rangeAt b2 (f2 + k * 12) p.cells.toList)  {v2 v3 v4 v6 v7 v8 v9 v10 v11 v12 v13 : Value} {Q : Exit → Act → World → Prop} {a : Act} {w : World} (hQ : ∀ d u c a w, Q (.panic c) (a.put d u) w → Q (.panic c) a w) (hF : FrL 26 [(0, .slice (some ⟨b, f, none⟩) N1 c), (1, .slice (some ⟨b2, f2, none⟩) N2 c2), (5, .int .i64 ((k : Nat) : Int)), (2, v2), (3, v3), (4, v4), (6, v6), (7, v7), (8, v8), (9, v9), (10, v10), (11, v11), (12, v12), (13, v13)] a) (hS : (fun w' => w' = w1) w) (hE : ∀ a w', FrL 26 ((24, .bool (!eqN n p)) :: [(0, .slice (some ⟨b, f, none⟩) N1 c), (1, .slice (some ⟨b2, f2, none⟩) N2 c2), (5, .int .i64 ((k : Nat) : Int)), (2, v2), (3, v3), (4, v4), (6, v6), (7, v7), (8, v8), (9, v9), (10, v10), (11, v11), (12, v12), (13, v13)]) a → (fun w' => w' = w1) w' → Q .normal a w') : wpAnyH Tryz.prog .any ops_eq6 Q ((fun w' => w' = w1)) 9 (Array.replicate 9 false) a w := by
  refine hst (i := 0) (o := ops_eq6[0]'(show 0 < ops_eq6.size by rw [size_eq6]; decide)) hF 16 true (.slice (some ⟨b, f, none⟩) N1 c) (Array.getElem?_eq_getElem (show 0 < ops_eq6.size by rw [size_eq6]; decide)) (by kernel_rfl) (by decide) (by kernel_rfl) (by kernel_rfl) (by kernel_rfl) (hQ _ _) (want_n (by kernel_rfl)) (fun hW w hS => rrun_move (x := .tmp 0) (.inl (by kernel_rfl)) (hF.ev 0 (.slice (some ⟨b, f, none⟩) N1 c) rfl)) hS (fun a hF => ?_)
  rw [show cond true (.slice (some ⟨b, f, none⟩) N1 c) undef = .slice (some ⟨b, f, none⟩) N1 c from rfl] at hF
  refine hst (i := 1) (o := ops_eq6[1]'(show 1 < ops_eq6.size by rw [size_eq6]; decide)) hF 17 true (.int .i64 ((k : Nat) : Int)) (Array.getElem?_eq_getElem (show 1 < ops_eq6.size by rw [size_eq6]; decide)) (by kernel_rfl) (by decide) (by kernel_rfl) (by kernel_rfl) (by kernel_rfl) (hQ _ _) (want_n (by kernel_rfl)) (fun hW w hS => rrun_move (x := .tmp 5) (.inl (by kernel_rfl)) (hF.ev 5 (.int .i64 ((k : Nat) : Int)) rfl)) hS (fun a hF => ?_)
  rw [show cond true (.int .i64 ((k : Nat) : Int)) undef = .int .i64 ((k : Nat) : Int) from rfl] at hF
  refine hst (i := 2) (o := ops_eq6[2]'(show 2 < ops_eq6.size by rw [size_eq6]; decide)) hF 18 true (ptr b (f + k * 12)) (Array.getElem?_eq_getElem (show 2 < ops_eq6.size by rw [size_eq6]; decide)) (by kernel_rfl) (by decide) (by kernel_rfl) (by kernel_rfl) (by kernel_rfl) (hQ _ _) (want_n (by kernel_rfl)) (fun hW w hS => rrun_idx 12 (ty := 23) (x := .tmp 16) (y := .tmp 17) (by kernel_rfl) (hF.ev 16 (.slice (some ⟨b, f, none⟩) N1 c) rfl) (hF.ev 17 (.int .i64 ((k : Nat) : Int)) rfl) hk1 (ridx_nodP _ _ _ _ _ hk1 (by omega) w)) hS (fun a hF => ?_)
  rw [show cond true (ptr b (f + k * 12)) undef = ptr b (f + k * 12) from rfl] at hF
  refine hst (i := 3) (o := ops_eq6[3]'(show 3 < ops_eq6.size by rw [size_eq6]; decide)) hF 19 true (.agg n.cells) (Array.getElem?_eq_getElem (show 3 < ops_eq6.size by rw [size_eq6]; decide)) (by kernel_rfl) (by decide) (by kernel_rfl) (by kernel_rfl) (by kernel_rfl) (hQ _ _) (want_n (by kernel_rfl)) (fun hW w hS => rrun_load (ty := 28) (x := .tmp 18) (by kernel_rfl) (hF.ev 18 (ptr b (f + k * 12)) rfl) (rld_nnode (by rw [show w = w1 from hS]; exact hr1))) hS (fun a hF => ?_)
  rw [show cond true (.agg n.cells) undef = .agg n.cells from rfl] at hF
  refine hst (i := 4) (o := ops_eq6[4]'(show 4 < ops_eq6.size by rw [size_eq6]; decide)) hF 20 true (.slice (some ⟨b2, f2, none⟩) N2 c2) (Array.getElem?_eq_getElem (show 4 < ops_eq6.size by rw [size_eq6]; decide)) (by kernel_rfl) (by decide) (by kernel_rfl) (by kernel_rfl) (by kernel_rfl) (hQ _ _) (want_n (by kernel_rfl)) (fun hW w hS => rrun_move (x := .tmp 1) (.inl (by kernel_rfl)) (hF.ev 1 (.slice (some ⟨b2, f2, none⟩) N2 c2) rfl)) hS (fun a hF => ?_)
  rw [show cond true (.slice (some ⟨b2, f2, none⟩) N2 c2) undef = .slice (some ⟨b2, f2, none⟩) N2 c2 from rfl] at hF
  refine hst (i := 5) (o := ops_eq6[5]'(show 5 < ops_eq6.size by rw [size_eq6]; decide)) hF 21 true (.int .i64 ((k : Nat) : Int)) (Array.getElem?_eq_getElem (show 5 < ops_eq6.size by rw [size_eq6]; decide)) (by kernel_rfl) (by decide) (by kernel_rfl) (by kernel_rfl) (by kernel_rfl) (hQ _ _) (want_n (by kernel_rfl)) (fun hW w hS => rrun_move (x := .tmp 5) (.inl (by kernel_rfl)) (hF.ev 5 (.int .i64 ((k : Nat) : Int)) rfl)) hS (fun a hF => ?_)
  rw [show cond true (.int .i64 ((k : Nat) : Int)) undef = .int .i64 ((k : Nat) : Int) from rfl] at hF
  refine hst (i := 6) (o := ops_eq6[6]'(show 6 < ops_eq6.size by rw [size_eq6]; decide)) hF 22 true (ptr b2 (f2 + k * 12)) (Array.getElem?_eq_getElem (show 6 < ops_eq6.size by rw [size_eq6]; decide)) (by kernel_rfl) (by decide) (by kernel_rfl) (by kernel_rfl) (by kernel_rfl) (hQ _ _) (want_n (by kernel_rfl)) (fun hW w hS => rrun_idx 12 (ty := 23) (x := .tmp 20) (y := .tmp 21) (by kernel_rfl) (hF.ev 20 (.slice (some ⟨b2, f2, none⟩) N2 c2) rfl) (hF.ev 21 (.int .i64 ((k : Nat) : Int)) rfl) hk2 (ridx_nodP _ _ _ _ _ hk2 (by omega) w)) hS (fun a hF => ?_)
  rw [show cond true (ptr b2 (f2 + k * 12)) undef = ptr b2 (f2 + k * 12) from rfl] at hF
  refine hst (i := 7) (o := ops_eq6[7]'(show 7 < ops_eq6.size by rw [size_eq6]; decide)) hF 23 true (.agg p.cells) (Array.getElem?_eq_getElem (show 7 < ops_eq6.size by rw [size_eq6]; decide)) (by kernel_rfl) (by decide) (by kernel_rfl) (by kernel_rfl) (by kernel_rfl) (hQ _ _) (want_n (by kernel_rfl)) (fun hW w hS => rrun_load (ty := 28) (x := .tmp 22) (by kernel_rfl) (hF.ev 22 (ptr b2 (f2 + k * 12)) rfl) (rld_nnode (by rw [show w = w1 from hS]; exact hr2))) hS (fun a hF => ?_)
  rw [show cond true (.agg p.cells) undef = .agg p.cells from rfl] at hF
  refine hst (i := 8) (o := ops_eq6[8]'(show 8 < ops_eq6.size by rw [size_eq6]; decide)) hF 24 true (.bool (!eqN n p)) (Array.getElem?_eq_getElem (show 8 < ops_eq6.size by rw [size_eq6]; decide)) (by kernel_rfl) (by decide) (by kernel_rfl) (by kernel_rfl) (by kernel_rfl) (hQ _ _) (want_n (by kernel_rfl)) (fun hW w hS => rrun_bin (op := .neq) (ty := 28) (ty2 := 28) (x := .tmp 19) (y := .tmp 23) (u := .agg n.cells) (v := .agg p.cells) (by kernel_rfl) (hF.ev 19 (.agg n.cells) rfl) (hF.ev 23 (.agg p.cells) rfl) (by kernel_rfl) (nnod_ncmp2 n p w)) hS (fun a hF => ?_)
  rw [show cond true (.bool (!eqN n p)) undef = .bool (!eqN n p) from rfl] at hF
  exact wpAnyH_done (by kernel_rfl) (hE _ _ (hF.sub ((24, .bool (!eqN n p)) :: [(0, .slice (some ⟨b, f, none⟩) N1 c), (1, .slice (some ⟨b2, f2, none⟩) N2 c2), (5, .int .i64 ((k : Nat) : Int)), (2, v2), (3, v3), (4, v4), (6, v6), (7, v7), (8, v8), (9, v9), (10, v10), (11, v11), (12, v12), (13, v13)]) ⟨rfl, rfl, rfl, rfl, rfl, rfl, rfl, rfl, rfl, rfl, rfl, rfl, rfl, rfl, rfl, trivial⟩) hS) _
end
end Go.Proofs.YtpmlhmficmillaaGreat

namespace Go.Proofs.YtpmlhmficmillaaGreat
section
open Go.RowKit
set_option maxRecDepth 100000
set_option linter.unusedVariables false

theorem eqL_len {l m : List Nod} (h : l.length ≠ m.length) : eqL l m = false := by
  cases he : eqL l m with
  | false => rfl
  | true => rw [eqL_iff.1 he] at h; exact absurd rfl h
set_option maxHeartbeats 3200000 in
theorem nequal_any (v u : Value) (l m : List Nod) (w : World) (hv : NodsAt w v l) (hu : NodsAt w u m) (hl : l.length ≤ 1000) (hm : m.length ≤ 1000) :
    Calls Tryz.prog 37 #[v, u] w fun e w' => e = .returned (.bool (eqL l m)) ∧ Below w.heap.size w w' := by
  obtain ⟨a, c, rfl, g1, g2⟩ := hv.form
  obtain ⟨a2, c2, rfl, g3, g4⟩ := hu.form
  unfold maxLen at g2 g4
  have mixed : Tryz.prog.follows Departure.mixedOrders = true := by first | kernel_rfl | decide
  replace hv := hid hv
  replace hu := hid hu
  have k2 : ((l.length : Int) != (m.length : Int)) = !decide (l.length = m.length) := by rw [Bool.eq_iff_iff]; simp; omega
  go_enter Tryz.func37, Tryz.ntmps37
  by_cases hlm : l.length = m.length
  case neg =>
    rw [decide_eq_false hlm] at k2
    have hE := hid (eqL_len hlm)
    replace hlm := hid hlm
    go_wp2_with fail
    go_ret
    exact ⟨by rw [hE.out]; rfl, Below.refl _ _⟩
  rw [decide_eq_true hlm] at k2
  replace hlm := hid hlm
  go_wp2_with fail
  go_loopw [13] (fun kv wr => Hid (Below w.heap.size w wr) ∧ ∃ k : Nat, k ≤ l.length ∧ kv = .int .i64 (k : Int) ∧ Hid (eqL l m = eqL (l.drop k) (m.drop k))) (fun kv _ => l.length - (intOf kv).toNat)
  case atStart => exact ⟨hid (Below.refl _ _), 0, by omega, rfl, hid rfl⟩
  case round =>
    obtain ⟨hB, k, hk, rfl, hF⟩ := hrel
    by_cases hkl : k < l.length
    · have hkm : k < m.length := by have := hlm.out; omega
      obtain ⟨b, o, ha, hr⟩ := (hv.out.below hB.out).range k hkl
      obtain ⟨b2, o2, ha2, hr2⟩ := (hu.out.below hB.out).range k hkm
      subst ha ha2
      have hst := hid (hF.out.trans (eqL_step hkl hkm))
      generalize l[k] = n at *
      generalize m[k] = p at *
      replace hr := hid hr
      replace hr2 := hid hr2
      have i1 : (k : Int) < (l.length : Int) := by omega
      obtain ⟨bE, hbE⟩ : ∃ b, b = !eqN n p := ⟨_, rfl⟩
      replace hbE := hid hbE
      go_wp2_with fail
      go_cut [24] (fun s wx => s = .bool bE ∧ Hid (wx = wr.drew))
      case first => as_aux_lemma =>
        rename_i J K' hJ hK
        refine wp_region_noPanic ?_
        refine wp_region_held (S := (fun w' => w' = wr.drew)) mixed ?_
        refine (show wpAnyH Tryz.prog .any ops_eq6 _ _ _ _ _ _ → _ from fun h => h) ?_
        refine eq6_all (w1 := wr.drew) (n := n) (p := p) hl hm hkl hkm hr.out hr2.out (fun _ _ _ _ _ h => h) (FrL.of_all (by rfl) rfl ⟨rfl, rfl, rfl, rfl, rfl, rfl, rfl, rfl, rfl, rfl, rfl, rfl, rfl, rfl, trivial⟩) rfl (fun a w' hF hS => ?_)
        rw [← hbE.out] at hF
        exact hK _ _ (Met.intro (hJ _ _ ⟨a.tmps.getD 14 undef, a.tmps.getD 15 undef, a.tmps.getD 16 undef, a.tmps.getD 17 undef, a.tmps.getD 18 undef, a.tmps.getD 19 undef, a.tmps.getD 20 undef, a.tmps.getD 21 undef, a.tmps.getD 22 undef, a.tmps.getD 23 undef, .bool bE, a.tmps.getD 25 undef, ⟨rfl, hid hS⟩, frame_eq hF _ (by rfl) ⟨hF.get 0 _ rfl, hF.get 1 _ rfl, hF.get 2 _ rfl, hF.get 3 _ rfl, hF.get 4 _ rfl, hF.get 5 _ rfl, hF.get 6 _ rfl, hF.get 7 _ rfl, hF.get 8 _ rfl, hF.get 9 _ rfl, hF.get 10 _ rfl, hF.get 11 _ rfl, hF.get 12 _ rfl, hF.get 13 _ rfl, hF.any 14 (by decide), hF.any 15 (by decide), hF.any 16 (by decide), hF.any 17 (by decide), hF.any 18 (by decide), hF.any 19 (by decide), hF.any 20 (by decide), hF.any 21 (by decide), hF.any 22 (by decide), hF.any 23 (by decide), hF.get 24 _ rfl, hF.any 25 (by decide), trivial⟩⟩))
      case rest =>
        obtain ⟨rfl, hw⟩ := hcut
        have hBd := hid (show Below w.heap.size w wc by rw [hw.out]; exact hB.out.drew)
        cases bE with
        | true =>
          have hR := hid (show eqL l m = false by rw [hst.out, show eqN n p = _ from (Bool.not_eq_eq_eq_not.1 hbE.out.symm)]; rfl)
          go_wp2_with fail
          go_ret
          exact ⟨by rw [hR.out]; rfl, hBd.out⟩
        | false =>
          have hR := hid (show eqL l m = eqL (l.drop (k + 1)) (m.drop (k + 1)) by rw [hst.out, show eqN n p = _ from (Bool.not_eq_eq_eq_not.1 hbE.out.symm)]; rfl)
          go_wp2_with fail
          go_roundw
          case rel => exact ⟨hBd, k + 1, by omega, by go_num, hR⟩
          case measure => simp [intOf]; omega
    · obtain rfl : k = l.length := by omega
      have hR := hid (show eqL l m = true by rw [hF.out, List.drop_of_length_le (Nat.le_refl _), List.drop_of_length_le (by have := hlm.out; omega)]; rfl)
      go_wp2_with fail
      go_ret
      exact ⟨by rw [hR.out]; rfl, hB.out⟩
end
end Go.Proofs.YtpmlhmficmillaaGreat

namespace Go.Proofs.YtpmlhmficmillaaGreat
section
open Go.RowKit
set_option maxRecDepth 100000
set_option linter.unusedVariables false

set_option maxHeartbeats 3200000 in
theorem nsame_any (v u : Value) (x y : Nat) (l m : List Nod) (w : World) (hv : NodsAt w v l) (hu : NodsAt w u m) (hl : l.length ≤ 1000) (hm : m.length ≤ 1000) :
    Calls Tryz.prog 17 #[.agg #[.int .u64 (x : Int), v], .agg #[.int .u64 (y : Int), u]] w fun e w' => e = .returned (.bool (decide (x = y) && eqL l m)) ∧ Below w.heap.size w w' := by
  obtain ⟨a, c, rfl, g1, g2⟩ := hv.form
  obtain ⟨a2, c2, rfl, g3, g4⟩ := hu.form
  unfold maxLen at g2 g4
  obtain ⟨W, hW⟩ : ∃ W, W = (w.alloc (.cells #[.int .u64 (x : Int), .slice a l.length c] 25)).alloc (.cells #[.int .u64 (y : Int), .slice a2 m.length c2] 25) := ⟨_, rfl⟩
  have hb0 : Below w.heap.size w W := by rw [hW]; exact ((Below.refl w.heap.size w).alloc (Nat.le_refl _) _).alloc (by simp) _
  have hx0 : W.heap[w.heap.size]? = some (.cells #[.int .u64 (x : Int), .slice a l.length c] 25 (0, 0)) := by rw [hW, heap_alloc_old _ _ (by simp), heap_alloc_new]
  have hy0 : W.heap[w.heap.size + 1]? = some (.cells #[.int .u64 (y : Int), .slice a2 m.length c2] 25 (0, 0)) := by rw [hW]; exact heap2 _ _ _
  have e0 := block_cell hx0 0
  have e1 := block_cell hx0 1
  have e2 := block_cell hy0 0
  have e3 := block_cell hy0 1
  have heq := hid (nequal_any _ _ l m W (hv.below hb0) (hu.below hb0) hl hm)
  replace hv := hid hv
  replace hu := hid hu
  replace hb0 := hid hb0
  clear hx0 hy0
  have k1 : ((x : Int) == (y : Int)) = decide (x = y) := dec_int _ _
  go_enter Tryz.func17, Tryz.ntmps17
  rcases hxy : decide (x = y) with _ | _
  · rw [hxy] at k1
    replace hxy := hid hxy
    go_wp2_with (rw [← hW]; replace hW := hid hW)
    go_ret
    exact ⟨rfl, hb0.out⟩
  · rw [hxy] at k1
    replace hxy := hid hxy
    go_wp2_with (rw [← hW]; replace hW := hid hW)
    refine heq.out.mono ?_
    rintro e w2 ⟨rfl, hb2⟩
    have hB2 := hid (sn hb0.out hb2)
    obtain ⟨bE, hbE⟩ : ∃ b, b = eqL l m := ⟨_, rfl⟩
    rw [← hbE]
    replace hbE := hid hbE
    clear hb2 heq e0 e1 e2 e3
    go_wp2_with fail
    go_ret
    exact ⟨by simp; exact hbE.out, hB2.out⟩
end
end Go.Proofs.YtpmlhmficmillaaGreat
