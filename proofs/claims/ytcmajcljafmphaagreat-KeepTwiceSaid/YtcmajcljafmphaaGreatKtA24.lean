/- Regions of the program's named, operation by operation. Conditions: texts in their types. And the texts behind it. -/
import Derived.Test.YtcmajcljafmphaaGreatKtA20
import Derived.Test.YtcmajcljafmphaaGreatKtA06
import Derived.Test.YtcmajcljafmphaaGreatKtA03
import Derived.Test.YtcmajcljafmphaaGreatKtA08
import Derived.Test.YtcmajcljafmphaaGreatKtA21
import Derived.Test.YtcmajcljafmphaaGreatKtA23
namespace Go.Proofs.YtcmajcljafmphaaGreat
section
open Go.RowKit
set_option maxRecDepth 100000
set_option linter.unusedVariables false

structure NmS (B g : Nat) (n : Nod) (w0 w : World) : Prop where
  bel : Below B w0 w
  nod : w.heap[g]? = some (.cells n.cells 68 (0, 0))
  hB : B ≤ w.heap.size
theorem NmS.next {B g : Nat} {n : Nod} {w0 w w' : World} (h : NmS B g n w0 w) (hb : Below w.heap.size w w') : NmS B g n w0 w' :=
  ⟨h.bel.trans (hb.mono h.hB), (hb.block _ (lt_of_block h.nod)).trans h.nod, Nat.le_trans h.hB hb.size⟩

noncomputable def ops_nm5 : Array Oper := match Tryz.f70.body with | some c => (allOps' c).getD 5 #[] | none => #[]
noncomputable def l_nm5 : List Oper := ops_nm5.toList
theorem len_nm5 : l_nm5.length = 16 := by kernel_rfl
set_option maxHeartbeats 4000000 in
theorem nm5_all {w0 : World} {B g : Nat} {n : Nod} (hn : NodOk n)  {v0 v2 v3 : Value} {Q : Exit → Act → World → Prop} {a : Act} {w : World} (hF : FrL 28 [(1, ptr g 0), (0, v0), (2, v2), (3, v3)] a) (hS : (NmS B g n w0) w) (hE : ∀ a w', FrL 28 ((27, .bool (((!(validB n.uid)) || (!(validB n.gid))) || (!(validB n.muid)))) :: [(1, ptr g 0), (0, v0), (2, v2), (3, v3)]) a → (NmS B g n w0) w' → Q .normal a w') : wpList Tryz.prog ops_nm5 Q (l_nm5.drop 0) a w := by
  rw [List.drop_eq_getElem_cons (show 0 < l_nm5.length by rw [len_nm5]; decide)]
  refine st hF 12 (ptr g 6) (by kernel_rfl) (by decide) (by kernel_rfl) (rrun_fld (T := 68) (x := .tmp 1) (f := 6) (by kernel_rfl) (hF.ev 1 (ptr g 0) rfl) (by kernel_rfl)) (fun a hF => ?_)
  rw [List.drop_eq_getElem_cons (show 1 < l_nm5.length by rw [len_nm5]; decide)]
  refine st hF 13 (.string n.uid) (by kernel_rfl) (by decide) (by kernel_rfl) (rrun_load (ty := 9) (x := .tmp 12) (by kernel_rfl) (hF.ev 12 (ptr g 6) rfl) (rld_str (block_cell hS.nod 6))) (fun a hF => ?_)
  rw [List.drop_eq_getElem_cons (show 2 < l_nm5.length by rw [len_nm5]; decide)]
  refine stcall hF 14 true (.bool (validB n.uid)) (by kernel_rfl) (by decide) (want_n (by kernel_rfl)) (fun hW => ⟨96, #[.string n.uid], rrun_call1 (fn := 96) (t := 9) rfl (by kernel_rfl) (by kernel_rfl) (hF.ev 13 (.string n.uid) rfl), (valid_any n.uid w hn.uid).mono (by rintro e w' ⟨rfl, hb⟩; exact ⟨rfl, hS.next hb⟩)⟩) hS (fun a w hF hS => ?_)
  rw [show cond true (.bool (validB n.uid)) undef = .bool (validB n.uid) from rfl] at hF
  rw [List.drop_eq_getElem_cons (show 3 < l_nm5.length by rw [len_nm5]; decide)]
  refine st hF 15 (.bool (!(validB n.uid))) (by kernel_rfl) (by decide) (by kernel_rfl) (rrun_not (ty := 4) (x := .tmp 14) (by kernel_rfl) (hF.ev 14 (.bool (validB n.uid)) rfl)) (fun a hF => ?_)
  rw [List.drop_eq_getElem_cons (show 4 < l_nm5.length by rw [len_nm5]; decide)]
  refine st hF 16 (.bool (!(validB n.uid))) (by kernel_rfl) (by decide) (by kernel_rfl) (rrun_move (x := .tmp 15) (.inl (by kernel_rfl)) (hF.ev 15 (.bool (!(validB n.uid))) rfl)) (fun a hF => ?_)
  rw [List.drop_eq_getElem_cons (show 5 < l_nm5.length by rw [len_nm5]; decide)]
  refine st_if hF 17 ((!(validB n.uid)) == false) (ptr g 7) (by kernel_rfl) (by decide) (want_b (gi := 4) (g := 16) (c := (!(validB n.uid))) hF (by kernel_rfl) (by kernel_rfl) rfl) (fun hW => rrun_fld (T := 68) (x := .tmp 1) (f := 7) (by kernel_rfl) (hF.ev 1 (ptr g 0) rfl) (by kernel_rfl)) (fun a hF => ?_)
  rw [List.drop_eq_getElem_cons (show 6 < l_nm5.length by rw [len_nm5]; decide)]
  refine st_if hF 18 ((!(validB n.uid)) == false) (.string n.gid) (by kernel_rfl) (by decide) (want_b (gi := 4) (g := 16) (c := (!(validB n.uid))) hF (by kernel_rfl) (by kernel_rfl) rfl) (fun hW => rrun_load (ty := 9) (x := .tmp 17) (by kernel_rfl) ((hF.ev 17 (cond ((!(validB n.uid)) == false) (ptr g 7) undef) rfl).trans (cond_t hW)) (rld_str (block_cell hS.nod 7))) (fun a hF => ?_)
  rw [List.drop_eq_getElem_cons (show 7 < l_nm5.length by rw [len_nm5]; decide)]
  refine stcall hF 19 ((!(validB n.uid)) == false) (.bool (validB n.gid)) (by kernel_rfl) (by decide) (want_b (gi := 4) (g := 16) (c := (!(validB n.uid))) hF (by kernel_rfl) (by kernel_rfl) rfl) (fun hW => ⟨96, #[.string n.gid], rrun_call1 (fn := 96) (t := 9) rfl (by kernel_rfl) (by kernel_rfl) ((hF.ev 18 (cond ((!(validB n.uid)) == false) (.string n.gid) undef) rfl).trans (cond_t hW)), (valid_any n.gid w hn.gid).mono (by rintro e w' ⟨rfl, hb⟩; exact ⟨rfl, hS.next hb⟩)⟩) hS (fun a w hF hS => ?_)
  rw [List.drop_eq_getElem_cons (show 8 < l_nm5.length by rw [len_nm5]; decide)]
  refine st_if hF 20 ((!(validB n.uid)) == false) (.bool (!(validB n.gid))) (by kernel_rfl) (by decide) (want_b (gi := 4) (g := 16) (c := (!(validB n.uid))) hF (by kernel_rfl) (by kernel_rfl) rfl) (fun hW => rrun_not (ty := 4) (x := .tmp 19) (by kernel_rfl) ((hF.ev 19 (cond ((!(validB n.uid)) == false) (.bool (validB n.gid)) undef) rfl).trans (cond_t hW))) (fun a hF => ?_)
  rw [List.drop_eq_getElem_cons (show 9 < l_nm5.length by rw [len_nm5]; decide)]
  refine st hF 21 (.bool ((!(validB n.uid)) || (!(validB n.gid)))) (by kernel_rfl) (by decide) (by kernel_rfl) (rrun_or (y := .const (.bool true)) (x := .tmp 16) (b := (!(validB n.uid))) (b' := (!(validB n.gid))) (by kernel_rfl) (hF.ev 16 _ rfl) rfl (hF.ev 20 (cond ((!(validB n.uid)) == false) (.bool (!(validB n.gid))) undef) rfl)) (fun a hF => ?_)
  rw [List.drop_eq_getElem_cons (show 10 < l_nm5.length by rw [len_nm5]; decide)]
  refine st hF 22 (.bool ((!(validB n.uid)) || (!(validB n.gid)))) (by kernel_rfl) (by decide) (by kernel_rfl) (rrun_move (x := .tmp 21) (.inl (by kernel_rfl)) (hF.ev 21 (.bool ((!(validB n.uid)) || (!(validB n.gid)))) rfl)) (fun a hF => ?_)
  rw [List.drop_eq_getElem_cons (show 11 < l_nm5.length by rw [len_nm5]; decide)]
  refine st_if hF 23 (((!(validB n.uid)) || (!(validB n.gid))) == false) (ptr g 8) (by kernel_rfl) (by decide) (want_b (gi := 10) (g := 22) (c := ((!(validB n.uid)) || (!(validB n.gid)))) hF (by kernel_rfl) (by kernel_rfl) rfl) (fun hW => rrun_fld (T := 68) (x := .tmp 1) (f := 8) (by kernel_rfl) (hF.ev 1 (ptr g 0) rfl) (by kernel_rfl)) (fun a hF => ?_)
  rw [List.drop_eq_getElem_cons (show 12 < l_nm5.length by rw [len_nm5]; decide)]
  refine st_if hF 24 (((!(validB n.uid)) || (!(validB n.gid))) == false) (.string n.muid) (by kernel_rfl) (by decide) (want_b (gi := 10) (g := 22) (c := ((!(validB n.uid)) || (!(validB n.gid)))) hF (by kernel_rfl) (by kernel_rfl) rfl) (fun hW => rrun_load (ty := 9) (x := .tmp 23) (by kernel_rfl) ((hF.ev 23 (cond (((!(validB n.uid)) || (!(validB n.gid))) == false) (ptr g 8) undef) rfl).trans (cond_t hW)) (rld_str (block_cell hS.nod 8))) (fun a hF => ?_)
  rw [List.drop_eq_getElem_cons (show 13 < l_nm5.length by rw [len_nm5]; decide)]
  refine stcall hF 25 (((!(validB n.uid)) || (!(validB n.gid))) == false) (.bool (validB n.muid)) (by kernel_rfl) (by decide) (want_b (gi := 10) (g := 22) (c := ((!(validB n.uid)) || (!(validB n.gid)))) hF (by kernel_rfl) (by kernel_rfl) rfl) (fun hW => ⟨96, #[.string n.muid], rrun_call1 (fn := 96) (t := 9) rfl (by kernel_rfl) (by kernel_rfl) ((hF.ev 24 (cond (((!(validB n.uid)) || (!(validB n.gid))) == false) (.string n.muid) undef) rfl).trans (cond_t hW)), (valid_any n.muid w hn.muid).mono (by rintro e w' ⟨rfl, hb⟩; exact ⟨rfl, hS.next hb⟩)⟩) hS (fun a w hF hS => ?_)
  rw [List.drop_eq_getElem_cons (show 14 < l_nm5.length by rw [len_nm5]; decide)]
  refine st_if hF 26 (((!(validB n.uid)) || (!(validB n.gid))) == false) (.bool (!(validB n.muid))) (by kernel_rfl) (by decide) (want_b (gi := 10) (g := 22) (c := ((!(validB n.uid)) || (!(validB n.gid)))) hF (by kernel_rfl) (by kernel_rfl) rfl) (fun hW => rrun_not (ty := 4) (x := .tmp 25) (by kernel_rfl) ((hF.ev 25 (cond (((!(validB n.uid)) || (!(validB n.gid))) == false) (.bool (validB n.muid)) undef) rfl).trans (cond_t hW))) (fun a hF => ?_)
  rw [List.drop_eq_getElem_cons (show 15 < l_nm5.length by rw [len_nm5]; decide)]
  refine st hF 27 (.bool (((!(validB n.uid)) || (!(validB n.gid))) || (!(validB n.muid)))) (by kernel_rfl) (by decide) (by kernel_rfl) (rrun_or (y := .const (.bool true)) (x := .tmp 22) (b := ((!(validB n.uid)) || (!(validB n.gid)))) (b' := (!(validB n.muid))) (by kernel_rfl) (hF.ev 22 _ rfl) rfl (hF.ev 26 (cond (((!(validB n.uid)) || (!(validB n.gid))) == false) (.bool (!(validB n.muid))) undef) rfl)) (fun a hF => ?_)
  rw [show l_nm5.drop 16 = [] from by kernel_rfl]
  exact hE _ _ (hF.sub ((27, .bool (((!(validB n.uid)) || (!(validB n.gid))) || (!(validB n.muid)))) :: [(1, ptr g 0), (0, v0), (2, v2), (3, v3)]) ⟨rfl, rfl, rfl, rfl, rfl, trivial⟩) hS
end
end Go.Proofs.YtcmajcljafmphaaGreat

namespace Go.Proofs.YtcmajcljafmphaaGreat
section
open Go.RowKit
set_option maxRecDepth 100000
set_option linter.unusedVariables false

theorem up1_any (b : Nat) (m : Nod) (base : Nat) (w : World) (hb : w.heap[b]? = some (.cells m.cells 68 (0, 0))) (hlt : b < base) :
    TestsN 98 #[.pointer (some ⟨b, 0, none⟩)] base w (fun n => decide (n.path = m.up)) := by
  intro n w' hB
  have hb0 := (Below.refl w'.heap.size w').alloc (Nat.le_refl _) (.cells n.cells 68)
  have c0 : (w'.alloc (.cells n.cells 68)).cell? ⟨b, 9, none⟩ = some (.int .u64 (m.up : Int)) := by
    have h1 := (hB.block b hlt).trans hb
    exact block_cell ((hb0.block b (lt_of_block h1)).trans h1) 9
  have k1 : ((n.path : Int) == (m.up : Int)) = decide (n.path = m.up) := dec_int _ _
  replace hb0 := hid hb0
  replace hb := hid hb
  replace hB := hid hB
  rw [nod_cells] at c0 hb0 ⊢
  show Calls _ _ #[_, _] _ _
  go_enter Tryz.func98, Tryz.ntmps98
  go_wp2_with fail
  go_ret
  exact ⟨ret_bool (by first | rfl | exact k1), hb0.out⟩
theorem enter_up1 : Enters 98 := fun args W => rfl
def twinB (m n : Nod) : Bool := !n.gone && decide (n.up = m.up) && decide (n.name = m.name)
theorem up2_any (b : Nat) (m : Nod) (base : Nat) (w : World) (hb : w.heap[b]? = some (.cells m.cells 68 (0, 0))) (hlt : b < base) :
    TestsN 100 #[.pointer (some ⟨b, 0, none⟩)] base w (twinB m) := by
  intro n w' hB
  have hb0 := (Below.refl w'.heap.size w').alloc (Nat.le_refl _) (.cells n.cells 68)
  have h1 := (hB.block b hlt).trans hb
  have h2 := (hb0.block b (lt_of_block h1)).trans h1
  have c0 : (w'.alloc (.cells n.cells 68)).cell? ⟨b, 9, none⟩ = some (.int .u64 (m.up : Int)) := block_cell h2 9
  have c5 : (w'.alloc (.cells n.cells 68)).cell? ⟨b, 5, none⟩ = some (.string m.name) := block_cell h2 5
  have hE : Hid (twinB m n = (!n.gone && decide (n.up = m.up) && decide (n.name = m.name))) := hid rfl
  have k1 : ((n.up : Int) == (m.up : Int)) = decide (n.up = m.up) := dec_int _ _
  have k2 : (n.name.toList == m.name.toList) = decide (n.name = m.name) := str_beq _ _
  clear h1 h2
  replace hb0 := hid hb0
  replace hb := hid hb
  replace hB := hid hB
  rw [nod_cells] at c0 c5 hb0 ⊢
  rcases hg : n.gone with _ | _ <;> rcases hu : decide (n.up = m.up) with _ | _ <;> rcases hn : decide (n.name = m.name) with _ | _
  all_goals
    rw [hg, hu, hn] at hE
    rw [hg] at c0 c5 hb0
    rw [hu] at k1
    rw [hn] at k2
    replace hg := hid hg
    replace hu := hid hu
    replace hn := hid hn
    show Calls _ _ #[_, _] _ _
    go_enter Tryz.func100, Tryz.ntmps100
    go_wp2_with fail
    go_ret
    exact ⟨ret_bool (by rw [hE.out]; rfl), hb0.out⟩
theorem enter_up2 : Enters 100 := fun args W => rfl
set_option maxHeartbeats 1600000 in
theorem ncont_any (v : Value) (l : List Nod) (f : FuncId) (cap : Array Value) (base : Nat) (p : Nod → Bool) (w : World) (hv : NodsAt w v l) (hl : l.length ≤ 1000) (hT : TestsN f cap base w p) (hE : Enters f) (hB : base ≤ w.heap.size) :
    Calls Tryz.prog 99 #[v, .func (.func f) #[] cap] w fun e w' => e = .returned (.bool (l.any p)) ∧ Below w.heap.size w w' := by
  have hi := hid (nidx_any v l f cap base p w hv hl hT hE hB)
  clear hv hT hE
  go_enter Tryz.func99, Tryz.ntmps99
  go_wp2_with fail
  refine hi.out.mono ?_
  rintro e w2 ⟨i, rfl, hi2, hb⟩
  rcases hi2 with ⟨rfl, h1⟩ | ⟨k, hk, rfl, h1, _⟩
  · have hr2 := hid (show l.any p = false by rw [List.any_eq_false]; intro n hn; rw [h1 n hn]; simp)
    clear h1
    replace hb := hid hb
    go_wp2_with fail
    go_ret
    exact ⟨by rw [hr2.out]; rfl, hb.out⟩
  · have hr2 := hid (show l.any p = true by rw [List.any_eq_true]; exact ⟨_, List.getElem_mem hk, h1⟩)
    have k1 : (0 : Int) ≤ (k : Int) := by omega
    clear h1
    replace hb := hid hb
    go_wp2_with fail
    go_ret
    exact ⟨by rw [hr2.out]; rfl, hb.out⟩
def namedE (n : Nod) : Int := if n.path ≠ 1 ∧ nameN n.name ≠ 0 then 6 else if (validB n.uid && validB n.gid && validB n.muid) = true then 0 else 6
theorem valid_all {n : Nod} {b : Bool} (h : b = ((!(validB n.uid) || !(validB n.gid)) || !(validB n.muid))) : (validB n.uid && validB n.gid && validB n.muid) = !b := by
  rw [h]; cases validB n.uid <;> cases validB n.gid <;> cases validB n.muid <;> rfl
set_option maxHeartbeats 3200000 in
theorem nnamed_any (n : Nod) (w : World) (hn : NodOk n) :
    Calls Tryz.prog 70 #[.agg n.cells] w fun e w' => e = .returned (.int .i64 (namedE n)) ∧ Below w.heap.size w w' := by
  obtain ⟨W, hW⟩ : ∃ W, W = w.alloc (.cells n.cells 68) := ⟨_, rfl⟩
  have hb0 : Below w.heap.size w W := by rw [hW]; exact (Below.refl _ _).alloc (Nat.le_refl _) _
  have hX0 := hid (show W.heap[w.heap.size]? = some (.cells n.cells 68 (0, 0)) by rw [hW, heap_alloc_new])
  have c0 : W.cell? ⟨w.heap.size, 0, none⟩ = some (.int .u64 (n.path : Int)) := block_cell hX0.out 0
  have c5 : W.cell? ⟨w.heap.size, 5, none⟩ = some (.string n.name) := block_cell hX0.out 5
  have hE := hid (show namedE n = if n.path ≠ 1 ∧ nameN n.name ≠ 0 then 6 else if (validB n.uid && validB n.gid && validB n.muid) = true then 0 else 6 from rfl)
  have hnm := hid (name_any n.name W hn.name)
  have hS0 := hid (show NmS w.heap.size w.heap.size n w W from ⟨hb0, hX0.out, hb0.size⟩)
  obtain ⟨bV, hbV⟩ : ∃ b, b = ((!(validB n.uid) || !(validB n.gid)) || !(validB n.muid)) := ⟨_, rfl⟩
  replace hbV := hid hbV
  replace hb0 := hid hb0
  replace hn := hid hn
  rw [nod_cells] at hW ⊢
  by_cases h1 : n.path = 1
  · have k1 : ((n.path : Int) != 1) = false := by rw [h1]; rfl
    replace h1 := hid h1
    go_enter Tryz.func70, Tryz.ntmps70
    go_upto_region 5 with (rw [← hW]; replace hW := hid hW)
    try (rw [← hW]; replace hW := hid hW)
    go_cut [27] (fun s wx => s = .bool bV ∧ Hid (NmS w.heap.size w.heap.size n w wx))
    case first => as_aux_lemma =>
      rename_i J K' hJ hK
      refine wp_region_list ?_
      refine (show wpList Tryz.prog ops_nm5 _ l_nm5 _ _ → _ from fun h => h) ?_
      refine nm5_all hn.out (FrL.of_all (by rfl) rfl ⟨rfl, rfl, rfl, rfl, trivial⟩) hS0.out (fun a w' hF hS => ?_)
      have hE2 := hbV.out
      rw [← hE2] at hF
      exact hK _ _ (Met.intro (hJ _ _ ⟨a.tmps.getD 4 undef, a.tmps.getD 5 undef, a.tmps.getD 6 undef, a.tmps.getD 7 undef, a.tmps.getD 8 undef, a.tmps.getD 9 undef, a.tmps.getD 10 undef, a.tmps.getD 11 undef, a.tmps.getD 12 undef, a.tmps.getD 13 undef, a.tmps.getD 14 undef, a.tmps.getD 15 undef, a.tmps.getD 16 undef, a.tmps.getD 17 undef, a.tmps.getD 18 undef, a.tmps.getD 19 undef, a.tmps.getD 20 undef, a.tmps.getD 21 undef, a.tmps.getD 22 undef, a.tmps.getD 23 undef, a.tmps.getD 24 undef, a.tmps.getD 25 undef, a.tmps.getD 26 undef, .bool bV, ⟨rfl, hid hS⟩, frame_eq hF _ (by rfl) ⟨hF.get 0 _ rfl, hF.get 1 _ rfl, hF.get 2 _ rfl, hF.get 3 _ rfl, hF.any 4 (by decide), hF.any 5 (by decide), hF.any 6 (by decide), hF.any 7 (by decide), hF.any 8 (by decide), hF.any 9 (by decide), hF.any 10 (by decide), hF.any 11 (by decide), hF.any 12 (by decide), hF.any 13 (by decide), hF.any 14 (by decide), hF.any 15 (by decide), hF.any 16 (by decide), hF.any 17 (by decide), hF.any 18 (by decide), hF.any 19 (by decide), hF.any 20 (by decide), hF.any 21 (by decide), hF.any 22 (by decide), hF.any 23 (by decide), hF.any 24 (by decide), hF.any 25 (by decide), hF.any 26 (by decide), hF.get 27 _ rfl, trivial⟩⟩))
    case rest =>
      obtain ⟨rfl, hS⟩ := hcut
      cases bV with
      | true =>
        go_wp2_with fail
        go_ret
        exact ⟨by rw [hE.out, if_neg (fun h => h.1 h1.out), if_neg (by rw [valid_all hbV.out]; simp)]; rfl, hS.out.bel⟩
      | false =>
        go_wp2_with fail
        go_ret
        exact ⟨by rw [hE.out, if_neg (fun h => h.1 h1.out), if_pos (by rw [valid_all hbV.out]; rfl)]; rfl, hS.out.bel⟩
  · have k1 : ((n.path : Int) != 1) = true := by simp; omega
    by_cases h2 : nameN n.name = 0
    · have k2 : ((nameN n.name : Int) != 0) = false := by rw [h2]; rfl
      replace h2 := hid h2
      go_enter Tryz.func70, Tryz.ntmps70
      go_wp2_with (rw [← hW]; replace hW := hid hW)
      refine hnm.out.mono ?_
      rintro e w2 ⟨rfl, hb2⟩
      have hS1 := hid (hS0.out.next hb2)
      clear hb2
      go_upto_region 5 with fail
      go_cut [27] (fun s wx => s = .bool bV ∧ Hid (NmS w.heap.size w.heap.size n w wx))
      case first => as_aux_lemma =>
        rename_i J K' hJ hK
        refine wp_region_list ?_
        refine (show wpList Tryz.prog ops_nm5 _ l_nm5 _ _ → _ from fun h => h) ?_
        refine nm5_all hn.out (FrL.of_all (by rfl) rfl ⟨rfl, rfl, rfl, rfl, trivial⟩) hS1.out (fun a w' hF hS => ?_)
        have hE2 := hbV.out
        rw [← hE2] at hF
        exact hK _ _ (Met.intro (hJ _ _ ⟨a.tmps.getD 4 undef, a.tmps.getD 5 undef, a.tmps.getD 6 undef, a.tmps.getD 7 undef, a.tmps.getD 8 undef, a.tmps.getD 9 undef, a.tmps.getD 10 undef, a.tmps.getD 11 undef, a.tmps.getD 12 undef, a.tmps.getD 13 undef, a.tmps.getD 14 undef, a.tmps.getD 15 undef, a.tmps.getD 16 undef, a.tmps.getD 17 undef, a.tmps.getD 18 undef, a.tmps.getD 19 undef, a.tmps.getD 20 undef, a.tmps.getD 21 undef, a.tmps.getD 22 undef, a.tmps.getD 23 undef, a.tmps.getD 24 undef, a.tmps.getD 25 undef, a.tmps.getD 26 undef, .bool bV, ⟨rfl, hid hS⟩, frame_eq hF _ (by rfl) ⟨hF.get 0 _ rfl, hF.get 1 _ rfl, hF.get 2 _ rfl, hF.get 3 _ rfl, hF.any 4 (by decide), hF.any 5 (by decide), hF.any 6 (by decide), hF.any 7 (by decide), hF.any 8 (by decide), hF.any 9 (by decide), hF.any 10 (by decide), hF.any 11 (by decide), hF.any 12 (by decide), hF.any 13 (by decide), hF.any 14 (by decide), hF.any 15 (by decide), hF.any 16 (by decide), hF.any 17 (by decide), hF.any 18 (by decide), hF.any 19 (by decide), hF.any 20 (by decide), hF.any 21 (by decide), hF.any 22 (by decide), hF.any 23 (by decide), hF.any 24 (by decide), hF.any 25 (by decide), hF.any 26 (by decide), hF.get 27 _ rfl, trivial⟩⟩))
      case rest =>
        obtain ⟨rfl, hS⟩ := hcut
        cases bV with
        | true =>
          go_wp2_with fail
          go_ret
          exact ⟨by rw [hE.out, if_neg (fun h => h.2 h2.out), if_neg (by rw [valid_all hbV.out]; simp)]; rfl, hS.out.bel⟩
        | false =>
          go_wp2_with fail
          go_ret
          exact ⟨by rw [hE.out, if_neg (fun h => h.2 h2.out), if_pos (by rw [valid_all hbV.out]; rfl)]; rfl, hS.out.bel⟩
    · have k2 : ((nameN n.name : Int) != 0) = true := by simp; omega
      go_enter Tryz.func70, Tryz.ntmps70
      go_wp2_with (rw [← hW]; replace hW := hid hW)
      refine hnm.out.mono ?_
      rintro e w2 ⟨rfl, hb2⟩
      have hB2 := hid (sn hb0.out hb2)
      clear hb2
      go_wp2_with fail
      go_ret
      exact ⟨by rw [hE.out, if_pos ⟨h1, h2⟩]; rfl, hB2.out⟩
end
end Go.Proofs.YtcmajcljafmphaaGreat

namespace Go.Proofs.YtcmajcljafmphaaGreat
section
open Go.RowKit
set_option maxRecDepth 100000
set_option linter.unusedVariables false

structure UpOk (l : List Nod) (i : Nat) (n : Nod) : Prop where
  gon : n.gone = true → n.up = 0
  par : n.gone = false → ∃ u, getL l n.up = some u ∧ dirB u = true ∧ u.gone = false
  twin : n.gone = false → (l.take i).any (twinB n) = false
open Classical in
noncomputable def upE (l : List Nod) (i : Nat) (n : Nod) : Int := if n.gone = true then (if n.up = 0 then 0 else 1) else if (∃ u, getL l n.up = some u ∧ dirB u = true ∧ u.gone = false) then (if (l.take i).any (twinB n) = true then 7 else 0) else 13
def UpIs (w : World) (l : List Nod) (i : Nat) (n : Nod) (e : Ending) (w' : World) : Prop := e = .returned (.int .i64 (upE l i n)) ∧ Below w.heap.size w w'
theorem up_is {w w' : World} {i : Nat} {l : List Nod} {n : Nod} {E : Int} (h : upE l i n = E) (hb : Below w.heap.size w w') : UpIs w l i n (.returned (.int .i64 E)) w' := ⟨by rw [h], hb⟩
theorem upE_13 {i : Nat} {l : List Nod} {n : Nod} (hg : n.gone = false) (h : ¬ ∃ u, getL l n.up = some u ∧ dirB u = true ∧ u.gone = false) : upE l i n = 13 := by
  unfold upE
  rw [if_neg (by rw [hg]; decide), if_neg h]
theorem upE_in {i : Nat} {l : List Nod} {n : Nod} (hg : n.gone = false) (h : ∃ u, getL l n.up = some u ∧ dirB u = true ∧ u.gone = false) : upE l i n = if (l.take i).any (twinB n) = true then 7 else 0 := by
  unfold upE
  rw [if_neg (by rw [hg]; decide), if_pos h]
theorem upE_gone {i : Nat} {l : List Nod} {n : Nod} (hg : n.gone = true) : upE l i n = if n.up = 0 then 0 else 1 := by
  unfold upE
  rw [if_pos hg]
theorem upE_ok {i : Nat} {l : List Nod} {n : Nod} : upE l i n = 0 ↔ UpOk l i n := by
  rcases hg : n.gone with _ | _
  · by_cases h : ∃ u, getL l n.up = some u ∧ dirB u = true ∧ u.gone = false
    · rw [upE_in hg h]
      rcases ht : (l.take i).any (twinB n) with _ | _
      · exact ⟨fun _ => ⟨fun h2 => by rw [hg] at h2; (cases h2), fun _ => h, fun _ => ht⟩, fun _ => rfl⟩
      · exact ⟨fun h2 => absurd h2 (by decide), fun h2 => by have := h2.twin hg; rw [ht] at this; (cases this)⟩
    · rw [upE_13 hg h]
      exact ⟨fun h2 => absurd h2 (by decide), fun h2 => absurd (h2.par hg) h⟩
  · rw [upE_gone hg]
    by_cases h : n.up = 0
    · rw [if_pos h]
      exact ⟨fun _ => ⟨fun _ => h, fun h2 => by rw [hg] at h2; (cases h2), fun h2 => by rw [hg] at h2; (cases h2)⟩, fun _ => rfl⟩
    · rw [if_neg h]
      exact ⟨fun h2 => absurd h2 (by decide), fun h2 => absurd (h2.gon hg) h⟩
theorem getL_first {l : List Nod} {p k : Nat} (hk : k < l.length) (hp : l[k].path = p) (ha : ∀ j (h : j < l.length), j < k → decide (l[j].path = p) = false) : getL l p = some l[k] := by
  unfold getL
  rw [List.find?_eq_some_iff_append]
  refine ⟨by simpa using hp, l.take k, l.drop (k + 1), by rw [← List.drop_eq_getElem_cons hk, List.take_append_drop], fun x hx => ?_⟩
  obtain ⟨j, hj, rfl⟩ := List.mem_iff_getElem.1 hx
  rw [List.length_take] at hj
  rw [List.getElem_take]
  have := ha j (by omega) (by omega)
  simpa using this
set_option maxHeartbeats 6400000 in
theorem nup_is (v : Value) (x : Nat) (l : List Nod) (i : Nat) (n : Nod) (w : World) (hv : NodsAt w v l) (hl : l.length ≤ 900) (hin : l[i]? = some n) (hok : ∀ n ∈ l, NodOk n) :
    Calls Tryz.prog 71 #[.agg #[.int .u64 (x : Int), v], .int .i64 (i : Int)] w (UpIs w l i n) := by
  obtain ⟨a, c, rfl, g1, g2⟩ := hv.form
  unfold maxLen at g2
  obtain ⟨W, hW⟩ : ∃ W, W = w.alloc (.cells #[.int .u64 (x : Int), .slice a l.length c] 33) := ⟨_, rfl⟩
  have hb0 : Below w.heap.size w W := by rw [hW]; exact (Below.refl w.heap.size w).alloc (Nat.le_refl _) _
  have hX0 : W.heap[w.heap.size]? = some (.cells #[.int .u64 (x : Int), .slice a l.length c] 33 (0, 0)) := by rw [hW, heap_alloc_new]
  obtain ⟨hi, hne⟩ := List.getElem?_eq_some_iff.1 hin
  obtain ⟨b, o, ha, hr⟩ := (hv.below hb0).range i hi
  subst ha
  have hiz : (i : Int) < (l.length : Int) := by omega
  rw [hne] at hr
  replace hin := hid hin
  clear hne
  have hnew := hid (heap_alloc_new W (.cells zeroNod.cells 68))
  obtain ⟨V, hV⟩ : ∃ V, V = boxN W n := ⟨_, rfl⟩
  have hbV : Below W.heap.size W V := by rw [hV]; exact boxN_below _ _
  have hN := hid (show V.heap[W.heap.size]? = some (.cells n.cells 68 (0, 0)) by rw [hV]; exact boxN_heap _ _)
  have hX := hid ((hbV.block _ (lt_of_block hX0)).trans hX0)
  have hBV := hid (sn hb0 hbV)
  have hvV := hid (hv.below hBV.out)
  have e1 := block_cell hX0 1
  unfold boxN at hV
  rw [zeroNod_cells] at hV hnew
  replace hr := hid hr
  replace hok := hid hok
  have hsz := hid (lt_of_block hN.out)
  have hidx := hid (nidx_any _ l 98 #[.pointer (some ⟨W.heap.size, 0, none⟩)] V.heap.size _ V hvV.out (by omega) (up1_any W.heap.size n V.heap.size V hN.out hsz.out) enter_up1 (Nat.le_refl _))
  replace hv := hid hv
  clear hbV hX0 hb0
  go_enter Tryz.func71, Tryz.ntmps71
  go_upto_region 2 with (first
    | (rw [← hW]; replace hW := hid hW)
    | (refine wpList_load_cells (by rfl) 68 (.tmp 10) (by rfl) b (o + i * 12) (by rfl) n.cells _ hr.out Tryz.underlying68 (by rfl) (by kernel_rfl) ?_)
    | (refine wpList_store_row (by rfl) 68 (.tmp 5) (.tmp 11) (by rfl) W.heap.size n.cells (by rfl) (by rfl) 68 _ hnew.out (by kernel_rfl) (by kernel_rfl) (nod_one n) ?_)
    | (rw [← hV]; replace hV := hid hV))
  try (rw [← hV]; replace hV := hid hV)
  clear hnew e1
  generalize W.heap.size = z at *
  have z9 : V.cell? ⟨z, 9, none⟩ = some (.int .u64 (n.up : Int)) := block_cell hN.out 9
  have z10 : V.cell? ⟨z, 10, none⟩ = some (.bool n.gone) := block_cell hN.out 10
  have e1 := block_cell hX.out 1
  rcases hg : n.gone with _ | _
  · rw [hg] at z10
    go_wp2_with fail
    refine hidx.out.mono ?_
    rintro e w2 ⟨k, rfl, hk, hb2⟩
    have hB2 := hid (sn hBV.out hb2)
    have hX2 := hid ((hb2.block _ (lt_of_block hX.out)).trans hX.out)
    have hN2 := hid ((hb2.block _ (lt_of_block hN.out)).trans hN.out)
    have hv2 := hid (hvV.out.below hb2)
    clear z9 z10 e1 hidx hb2 hX hN hvV
    have e1 := block_cell hX2.out 1
    rcases hk with ⟨rfl, hno⟩ | ⟨k, hkl, rfl, hkp, hfirst⟩
    · have hR := hid (upE_13 (i := i) hg fun h => by
        obtain ⟨u, hu, _⟩ := h
        obtain ⟨h1, h2⟩ := getL_some hu
        have := hno u h1
        simp [h2] at this)
      clear hno hg
      go_wp2_with fail
      go_ret
      exact up_is hR.out hB2.out
    · have hgl := hid (getL_first hkl (by simpa using hkp) hfirst)
      obtain ⟨u, hu⟩ : ∃ u, u = l[k] := ⟨_, rfl⟩
      obtain ⟨b', o', ha', hr2⟩ := hv2.out.range k hkl
      cases ha'
      have huo := hid (hok.out u (by rw [hu]; exact List.getElem_mem hkl))
      rw [← hu] at hgl hr2
      clear hkp hfirst
      replace hu := hid hu
      have s0 : w2.cell? ⟨b, o + k * 12, none⟩ = some (.int .u64 (u.path : Int)) := hr2 0 _ (by rw [nod_cells]; rfl)
      have s1 : w2.cell? ⟨b, o + k * 12 + 1, none⟩ = some (.int .u32 (u.vers : Int)) := hr2 1 _ (by rw [nod_cells]; rfl)
      have s2 : w2.cell? ⟨b, o + k * 12 + 2, none⟩ = some (.int .u32 (u.mode : Int)) := hr2 2 _ (by rw [nod_cells]; rfl)
      have s3 : w2.cell? ⟨b, o + k * 12 + 3, none⟩ = some (.int .u32 (u.atm : Int)) := hr2 3 _ (by rw [nod_cells]; rfl)
      have s4 : w2.cell? ⟨b, o + k * 12 + 4, none⟩ = some (.int .u32 (u.mtm : Int)) := hr2 4 _ (by rw [nod_cells]; rfl)
      have s5 : w2.cell? ⟨b, o + k * 12 + 5, none⟩ = some (.string u.name) := hr2 5 _ (by rw [nod_cells]; rfl)
      have s6 : w2.cell? ⟨b, o + k * 12 + 6, none⟩ = some (.string u.uid) := hr2 6 _ (by rw [nod_cells]; rfl)
      have s7 : w2.cell? ⟨b, o + k * 12 + 7, none⟩ = some (.string u.gid) := hr2 7 _ (by rw [nod_cells]; rfl)
      have s8 : w2.cell? ⟨b, o + k * 12 + 8, none⟩ = some (.string u.muid) := hr2 8 _ (by rw [nod_cells]; rfl)
      have s9 : w2.cell? ⟨b, o + k * 12 + 9, none⟩ = some (.int .u64 (u.up : Int)) := hr2 9 _ (by rw [nod_cells]; rfl)
      have s10 : w2.cell? ⟨b, o + k * 12 + 10, none⟩ = some (.bool u.gone) := hr2 10 _ (by rw [nod_cells]; rfl)
      have s11 : w2.cell? ⟨b, o + k * 12 + 11, none⟩ = some (.string u.data) := hr2 11 _ (by rw [nod_cells]; rfl)
      have j1 : ¬ (k : Int) < 0 := by omega
      have j2 : (0 : Int) ≤ (k : Int) := by omega
      have j3 : (k : Int) < (l.length : Int) := by omega
      replace hr2 := hid hr2
      rcases hug : u.gone with _ | _
      · have hdir := hid (ndir_any u w2 huo.out)
        obtain ⟨bD, hbD⟩ : ∃ bD, bD = dirB u := ⟨_, rfl⟩
        rw [← hbD] at hdir
        rw [nod_cells] at hdir
        rw [hug] at s10 hdir
        replace hbD := hid hbD
        go_wp2_with fail
        refine hdir.out.mono ?_
        rintro e w3 ⟨rfl, hb3⟩
        have hB3 := hid (sn hB2.out hb3)
        have hX3 := hid ((hb3.block _ (lt_of_block hX2.out)).trans hX2.out)
        have hN3 := hid ((hb3.block _ (lt_of_block hN2.out)).trans hN2.out)
        have hv3 := hid (hv2.out.below hb3)
        clear e1 hb3 hdir hX2 hN2 hv2 s0 s1 s2 s3 s4 s5 s6 s7 s8 s9 s10 s11 j1 j2 j3
        have e1 := block_cell hX3.out 1
        cases bD with
        | false =>
          have hR := hid (upE_13 (i := i) hg fun h => by
            obtain ⟨y, hy, h1, _⟩ := h
            rw [hgl.out] at hy; cases hy
            rw [← hbD.out] at h1; cases h1)
          clear hg hug
          go_wp2_with fail
          go_ret
          exact up_is hR.out hB3.out
        | true =>
          have hpar := hid (show n.gone = false → ∃ u, getL l n.up = some u ∧ dirB u = true ∧ u.gone = false from fun _ => ⟨u, hgl.out, hbD.out.symm, hug⟩)
          have hlt : (l.take i).length = i := by rw [List.length_take]; omega
          have hsub : NodsAt w3 (.slice (some ⟨b, o, none⟩) i c) (l.take i) := by
            have := hv3.out.take (m := i) (by omega)
            unfold NodsAt
            rw [hlt]; exact this
          have hz3 := hid (lt_of_block hN3.out)
          have hct := hid (ncont_any _ (l.take i) 100 #[.pointer (some ⟨z, 0, none⟩)] w3.heap.size (twinB n) w3 hsub (by omega) (up2_any z n w3.heap.size w3 hN3.out hz3.out) enter_up2 (Nat.le_refl _))
          obtain ⟨bT, hbT⟩ : ∃ b, b = (l.take i).any (twinB n) := ⟨_, rfl⟩
          rw [← hbT] at hct
          replace hbT := hid hbT
          have i1 : (0 : Int) ≤ (i : Int) := by omega
          have i2 : (i : Int) ≤ (c : Int) := by omega
          replace hg := hid hg
          replace hug := hid hug
          clear hsub hlt
          go_wp2_with fail
          refine hct.out.mono ?_
          rintro e w4 ⟨rfl, hb4⟩
          have hB4 := hid (sn hB3.out hb4)
          clear hb4 hct e1
          cases bT with
          | true =>
            have hR := hid (show upE l i n = 7 by rw [upE_in hg.out (hpar.out hg.out), if_pos hbT.out.symm])
            go_wp2_with fail
            go_ret
            exact up_is hR.out hB4.out
          | false =>
            have hR := hid (show upE l i n = 0 by rw [upE_in hg.out (hpar.out hg.out), ← hbT.out]; rfl)
            go_wp2_with fail
            go_ret
            exact up_is hR.out hB4.out
      · rw [hug] at s10
        have hR := hid (upE_13 (i := i) hg fun h => by
          obtain ⟨y, hy, _, h1⟩ := h
          rw [hgl.out] at hy; cases hy
          rw [hug] at h1; cases h1)
        clear hg hug
        go_wp2_with fail
        go_ret
        exact up_is hR.out hB2.out
  · rw [hg] at z10
    by_cases hu : n.up = 0
    · have k1 : ((n.up : Int) != 0) = false := by rw [hu]; rfl
      have hR := hid (show upE l i n = 0 by rw [upE_gone hg, if_pos hu])
      clear hg hu
      go_wp2_with fail
      go_ret
      exact up_is hR.out hBV.out
    · have k1 : ((n.up : Int) != 0) = true := by simp; omega
      have hR := hid (show upE l i n = 1 by rw [upE_gone hg, if_neg hu])
      clear hg hu
      go_wp2_with fail
      go_ret
      exact up_is hR.out hBV.out
end
end Go.Proofs.YtcmajcljafmphaaGreat

namespace Go.Proofs.YtcmajcljafmphaaGreat
section
open Go.RowKit
set_option maxRecDepth 100000
set_option linter.unusedVariables false

structure PwS (B g z b f x c : Nat) (l : List Nod) (n : Nod) (w0 w : World) : Prop where
  bel : Below B w0 w
  box : w.heap[g]? = some (.cells #[.int .u64 (x : Int), .slice (some ⟨b, f, none⟩) l.length c] 33 (0, 0))
  nod : w.heap[z]? = some (.cells n.cells 68 (0, 0))
  row : NodsAt w (.slice (some ⟨b, f, none⟩) l.length c) l
  hB : B ≤ w.heap.size
theorem PwS.next {B g z b f x c : Nat} {l : List Nod} {n : Nod} {w0 w w' : World} (h : PwS B g z b f x c l n w0 w) (hb : Below w.heap.size w w') : PwS B g z b f x c l n w0 w' :=
  ⟨h.bel.trans (hb.mono h.hB), (hb.block _ (lt_of_block h.box)).trans h.box, (hb.block _ (lt_of_block h.nod)).trans h.nod, h.row.below hb, Nat.le_trans h.hB hb.size⟩
theorem PwS.drew {B g z b f x c : Nat} {l : List Nod} {n : Nod} {w0 w : World} (h : PwS B g z b f x c l n w0 w) : PwS B g z b f x c l n w0 w.drew := h.next (Below.refl _ _).drew
theorem PwS.el {B g z b f x c : Nat} {l : List Nod} {n : Nod} {w0 w : World} (h : PwS B g z b f x c l n w0 w) (j : Nat) (m : Nod) (hm : l[j]? = some m) : w.rangeAt b (f + j * 12) m.cells.toList := by
  obtain ⟨hj, rfl⟩ := List.getElem?_eq_some_iff.1 hm
  obtain ⟨b', o', ha, hr⟩ := h.row.range j hj
  cases ha
  exact hr
theorem rld_nnodsP {p : Addr} {v : Value} {w : World} (h : w.cell? p = some v) : (loadVar 31 p).run Tryz.prog w = .ok v w := by simp [go_sem, h]
theorem ridx_nodP (b f n c j : Nat) (hj : j < n) (hn : n ≤ 9223372036854775807) (w : World) : (Instr.indexAt 31 (.slice (some ⟨b, f, none⟩) n c) (.int .i64 (j : Int))).run Tryz.prog w = .ok (ptr b (f + j * 12)) w := by
  have h1 : (0 : Int) ≤ (j : Int) := by omega
  have h2 : (j : Int) < (n : Int) := by omega
  simp [go_sem, h1, h2, ptr]

noncomputable def ops_pw2 : Array Oper := match Tryz.f36.body with | some c => (allOps' c).getD 2 #[] | none => #[]
theorem size_pw2 : ops_pw2.size = 22 := by kernel_rfl
set_option maxHeartbeats 4000000 in
theorem pw2_all {w0 : World} {B g z b f x c i : Nat} {l : List Nod} {n pr : Nod} (hl : l.length ≤ 9223372036854775807) (hil : i < l.length) (hpr : 0 < i → l[i - 1]? = some pr)  {v0 v3 v4 v44 v50 : Value} {Q : Exit → Act → World → Prop} {a : Act} {w : World} (hQ : ∀ d u c a w, Q (.panic c) (a.put d u) w → Q (.panic c) a w) (hF : FrL 58 [(2, ptr g 0), (1, .int .i64 ((i : Nat) : Int)), (5, ptr z 0), (0, v0), (3, v3), (4, v4), (44, v44), (50, v50)] a) (hS : (PwS B g z b f x c l n w0) w) (hE : ∀ a w', FrL 58 ((11, .bool (((decide (0 < i)) && (decide (n.path ≤ pr.path))) || (decide (x ≤ n.path)))) :: [(2, ptr g 0), (1, .int .i64 ((i : Nat) : Int)), (5, ptr z 0), (0, v0), (3, v3), (4, v4), (44, v44), (50, v50)]) a → (PwS B g z b f x c l n w0) w' → Q .normal a w') : wpAnyH Tryz.prog .any ops_pw2 Q ((PwS B g z b f x c l n w0)) 22 (Array.replicate 22 false) a w := by
  refine hst (i := 0) (o := ops_pw2[0]'(show 0 < ops_pw2.size by rw [size_pw2]; decide)) hF 12 true (.int .i64 ((i : Nat) : Int)) (Array.getElem?_eq_getElem (show 0 < ops_pw2.size by rw [size_pw2]; decide)) (by kernel_rfl) (by decide) (by kernel_rfl) (by kernel_rfl) (by kernel_rfl) (hQ _ _) (want_n (by kernel_rfl)) (fun hW w hS => rrun_move (x := .tmp 1) (.inl (by kernel_rfl)) (hF.ev 1 (.int .i64 ((i : Nat) : Int)) rfl)) hS (fun a hF => ?_)
  rw [show cond true (.int .i64 ((i : Nat) : Int)) undef = .int .i64 ((i : Nat) : Int) from rfl] at hF
  refine hst (i := 1) (o := ops_pw2[1]'(show 1 < ops_pw2.size by rw [size_pw2]; decide)) hF 13 true (.bool (decide (0 < i))) (Array.getElem?_eq_getElem (show 1 < ops_pw2.size by rw [size_pw2]; decide)) (by kernel_rfl) (by decide) (by kernel_rfl) (by kernel_rfl) (by kernel_rfl) (hQ _ _) (want_n (by kernel_rfl)) (fun hW w hS => rrun_bin (op := .gtr) (ty := 3) (ty2 := 3) (x := .tmp 12) (y := .const (.int .i64 0)) (u := .int .i64 ((i : Nat) : Int)) (v := .int .i64 ((0 : Nat) : Int)) (by kernel_rfl) (hF.ev 12 (.int .i64 ((i : Nat) : Int)) rfl) (rfl) (by kernel_rfl) (rgt_i64 _ _ w)) hS (fun a hF => ?_)
  rw [show cond true (.bool (decide (0 < i))) undef = .bool (decide (0 < i)) from rfl] at hF
  refine hst (i := 2) (o := ops_pw2[2]'(show 2 < ops_pw2.size by rw [size_pw2]; decide)) hF 14 true (.bool (decide (0 < i))) (Array.getElem?_eq_getElem (show 2 < ops_pw2.size by rw [size_pw2]; decide)) (by kernel_rfl) (by decide) (by kernel_rfl) (by kernel_rfl) (by kernel_rfl) (hQ _ _) (want_n (by kernel_rfl)) (fun hW w hS => rrun_move (x := .tmp 13) (.inl (by kernel_rfl)) (hF.ev 13 (.bool (decide (0 < i))) rfl)) hS (fun a hF => ?_)
  rw [show cond true (.bool (decide (0 < i))) undef = .bool (decide (0 < i)) from rfl] at hF
  refine hst (i := 3) (o := ops_pw2[3]'(show 3 < ops_pw2.size by rw [size_pw2]; decide)) hF 15 ((decide (0 < i)) == true) (ptr g 1) (Array.getElem?_eq_getElem (show 3 < ops_pw2.size by rw [size_pw2]; decide)) (by kernel_rfl) (by decide) (by kernel_rfl) (by kernel_rfl) (by kernel_rfl) (hQ _ _) (want_b (gi := 2) (g := 14) (c := (decide (0 < i))) hF (by kernel_rfl) (by kernel_rfl) rfl) (fun hW w hS => rrun_fld (T := 33) (x := .tmp 2) (f := 1) (by kernel_rfl) (hF.ev 2 (ptr g 0) rfl) (by kernel_rfl)) hS (fun a hF => ?_)
  refine hst (i := 4) (o := ops_pw2[4]'(show 4 < ops_pw2.size by rw [size_pw2]; decide)) hF 16 ((decide (0 < i)) == true) (.slice (some ⟨b, f, none⟩) l.length c) (Array.getElem?_eq_getElem (show 4 < ops_pw2.size by rw [size_pw2]; decide)) (by kernel_rfl) (by decide) (by kernel_rfl) (by kernel_rfl) (by kernel_rfl) (hQ _ _) (want_b (gi := 2) (g := 14) (c := (decide (0 < i))) hF (by kernel_rfl) (by kernel_rfl) rfl) (fun hW w hS => rrun_load (ty := 31) (x := .tmp 15) (by kernel_rfl) ((hF.ev 15 (cond ((decide (0 < i)) == true) (ptr g 1) undef) rfl).trans (cond_t hW)) (rld_nnodsP (block_cell hS.box 1))) hS (fun a hF => ?_)
  refine hst (i := 5) (o := ops_pw2[5]'(show 5 < ops_pw2.size by rw [size_pw2]; decide)) hF 17 ((decide (0 < i)) == true) (.int .i64 ((i : Nat) : Int)) (Array.getElem?_eq_getElem (show 5 < ops_pw2.size by rw [size_pw2]; decide)) (by kernel_rfl) (by decide) (by kernel_rfl) (by kernel_rfl) (by kernel_rfl) (hQ _ _) (want_b (gi := 2) (g := 14) (c := (decide (0 < i))) hF (by kernel_rfl) (by kernel_rfl) rfl) (fun hW w hS => rrun_move (x := .tmp 1) (.inl (by kernel_rfl)) (hF.ev 1 (.int .i64 ((i : Nat) : Int)) rfl)) hS (fun a hF => ?_)
  refine hst (i := 6) (o := ops_pw2[6]'(show 6 < ops_pw2.size by rw [size_pw2]; decide)) hF 18 ((decide (0 < i)) == true) (.int .i64 ((i - 1 : Nat) : Int)) (Array.getElem?_eq_getElem (show 6 < ops_pw2.size by rw [size_pw2]; decide)) (by kernel_rfl) (by decide) (by kernel_rfl) (by kernel_rfl) (by kernel_rfl) (hQ _ _) (want_b (gi := 2) (g := 14) (c := (decide (0 < i))) hF (by kernel_rfl) (by kernel_rfl) rfl) (fun hW w hS => rrun_bin (op := .sub) (ty := 3) (ty2 := 3) (x := .tmp 17) (y := .const (.int .i64 1)) (u := .int .i64 ((i : Nat) : Int)) (v := .int .i64 ((1 : Nat) : Int)) (by kernel_rfl) ((hF.ev 17 (cond ((decide (0 < i)) == true) (.int .i64 ((i : Nat) : Int)) undef) rfl).trans (cond_t hW)) (rfl) (by kernel_rfl) (rsub_one i (by simpa using hW) (by omega) w)) hS (fun a hF => ?_)
  refine hst (i := 7) (o := ops_pw2[7]'(show 7 < ops_pw2.size by rw [size_pw2]; decide)) hF 19 ((decide (0 < i)) == true) (ptr b (f + (i - 1) * 12)) (Array.getElem?_eq_getElem (show 7 < ops_pw2.size by rw [size_pw2]; decide)) (by kernel_rfl) (by decide) (by kernel_rfl) (by kernel_rfl) (by kernel_rfl) (hQ _ _) (want_b (gi := 2) (g := 14) (c := (decide (0 < i))) hF (by kernel_rfl) (by kernel_rfl) rfl) (fun hW w hS => rrun_idx 12 (ty := 31) (x := .tmp 16) (y := .tmp 18) (by kernel_rfl) ((hF.ev 16 (cond ((decide (0 < i)) == true) (.slice (some ⟨b, f, none⟩) l.length c) undef) rfl).trans (cond_t hW)) ((hF.ev 18 (cond ((decide (0 < i)) == true) (.int .i64 ((i - 1 : Nat) : Int)) undef) rfl).trans (cond_t hW)) (by have := hil; omega) (ridx_nodP _ _ _ _ _ (by have := hil; omega) hl w)) hS (fun a hF => ?_)
  refine hst (i := 8) (o := ops_pw2[8]'(show 8 < ops_pw2.size by rw [size_pw2]; decide)) hF 20 ((decide (0 < i)) == true) (ptr b (f + (i - 1) * 12)) (Array.getElem?_eq_getElem (show 8 < ops_pw2.size by rw [size_pw2]; decide)) (by kernel_rfl) (by decide) (by kernel_rfl) (by kernel_rfl) (by kernel_rfl) (hQ _ _) (want_b (gi := 2) (g := 14) (c := (decide (0 < i))) hF (by kernel_rfl) (by kernel_rfl) rfl) (fun hW w hS => rrun_fld (T := 68) (x := .tmp 19) (f := 0) (by kernel_rfl) ((hF.ev 19 (cond ((decide (0 < i)) == true) (ptr b (f + (i - 1) * 12)) undef) rfl).trans (cond_t hW)) (by kernel_rfl)) hS (fun a hF => ?_)
  refine hst (i := 9) (o := ops_pw2[9]'(show 9 < ops_pw2.size by rw [size_pw2]; decide)) hF 21 ((decide (0 < i)) == true) (.int .u64 ((pr.path : Nat) : Int)) (Array.getElem?_eq_getElem (show 9 < ops_pw2.size by rw [size_pw2]; decide)) (by kernel_rfl) (by decide) (by kernel_rfl) (by kernel_rfl) (by kernel_rfl) (hQ _ _) (want_b (gi := 2) (g := 14) (c := (decide (0 < i))) hF (by kernel_rfl) (by kernel_rfl) rfl) (fun hW w hS => rrun_load (ty := 30) (x := .tmp 20) (by kernel_rfl) ((hF.ev 20 (cond ((decide (0 < i)) == true) (ptr b (f + (i - 1) * 12)) undef) rfl).trans (cond_t hW)) (rld_u64 (p := ⟨b, f + (i - 1) * 12, none⟩) (hS.el (i - 1) pr (hpr (by simpa using hW)) 0 (.int .u64 ((pr.path : Nat) : Int)) (by rw [nod_cells]; rfl)))) hS (fun a hF => ?_)
  refine hst (i := 10) (o := ops_pw2[10]'(show 10 < ops_pw2.size by rw [size_pw2]; decide)) hF 22 ((decide (0 < i)) == true) (ptr z 0) (Array.getElem?_eq_getElem (show 10 < ops_pw2.size by rw [size_pw2]; decide)) (by kernel_rfl) (by decide) (by kernel_rfl) (by kernel_rfl) (by kernel_rfl) (hQ _ _) (want_b (gi := 2) (g := 14) (c := (decide (0 < i))) hF (by kernel_rfl) (by kernel_rfl) rfl) (fun hW w hS => rrun_fld (T := 68) (x := .tmp 5) (f := 0) (by kernel_rfl) (hF.ev 5 (ptr z 0) rfl) (by kernel_rfl)) hS (fun a hF => ?_)
  refine hst (i := 11) (o := ops_pw2[11]'(show 11 < ops_pw2.size by rw [size_pw2]; decide)) hF 23 ((decide (0 < i)) == true) (.int .u64 ((n.path : Nat) : Int)) (Array.getElem?_eq_getElem (show 11 < ops_pw2.size by rw [size_pw2]; decide)) (by kernel_rfl) (by decide) (by kernel_rfl) (by kernel_rfl) (by kernel_rfl) (hQ _ _) (want_b (gi := 2) (g := 14) (c := (decide (0 < i))) hF (by kernel_rfl) (by kernel_rfl) rfl) (fun hW w hS => rrun_load (ty := 30) (x := .tmp 22) (by kernel_rfl) ((hF.ev 22 (cond ((decide (0 < i)) == true) (ptr z 0) undef) rfl).trans (cond_t hW)) (rld_u64 (block_cell hS.nod 0))) hS (fun a hF => ?_)
  refine hst (i := 12) (o := ops_pw2[12]'(show 12 < ops_pw2.size by rw [size_pw2]; decide)) hF 24 ((decide (0 < i)) == true) (.bool (decide (n.path ≤ pr.path))) (Array.getElem?_eq_getElem (show 12 < ops_pw2.size by rw [size_pw2]; decide)) (by kernel_rfl) (by decide) (by kernel_rfl) (by kernel_rfl) (by kernel_rfl) (hQ _ _) (want_b (gi := 2) (g := 14) (c := (decide (0 < i))) hF (by kernel_rfl) (by kernel_rfl) rfl) (fun hW w hS => rrun_bin (op := .geq) (ty := 30) (ty2 := 30) (x := .tmp 21) (y := .tmp 23) (u := .int .u64 ((pr.path : Nat) : Int)) (v := .int .u64 ((n.path : Nat) : Int)) (by kernel_rfl) ((hF.ev 21 (cond ((decide (0 < i)) == true) (.int .u64 ((pr.path : Nat) : Int)) undef) rfl).trans (cond_t hW)) ((hF.ev 23 (cond ((decide (0 < i)) == true) (.int .u64 ((n.path : Nat) : Int)) undef) rfl).trans (cond_t hW)) (by kernel_rfl) (rge_u64 _ _ w)) hS (fun a hF => ?_)
  refine hst (i := 13) (o := ops_pw2[13]'(show 13 < ops_pw2.size by rw [size_pw2]; decide)) hF 25 true (.bool ((decide (0 < i)) && (decide (n.path ≤ pr.path)))) (Array.getElem?_eq_getElem (show 13 < ops_pw2.size by rw [size_pw2]; decide)) (by kernel_rfl) (by decide) (by kernel_rfl) (by kernel_rfl) (by kernel_rfl) (hQ _ _) (want_n (by kernel_rfl)) (fun hW w hS => rrun_and (z := .const (.bool false)) (x := .tmp 14) (c := (decide (0 < i))) (b := (decide (n.path ≤ pr.path))) (by kernel_rfl) (hF.ev 14 _ rfl) (hF.ev 24 (cond ((decide (0 < i)) == true) (.bool (decide (n.path ≤ pr.path))) undef) rfl) rfl) hS (fun a hF => ?_)
  rw [show cond true (.bool ((decide (0 < i)) && (decide (n.path ≤ pr.path)))) undef = .bool ((decide (0 < i)) && (decide (n.path ≤ pr.path))) from rfl] at hF
  refine hst (i := 14) (o := ops_pw2[14]'(show 14 < ops_pw2.size by rw [size_pw2]; decide)) hF 26 true (.bool ((decide (0 < i)) && (decide (n.path ≤ pr.path)))) (Array.getElem?_eq_getElem (show 14 < ops_pw2.size by rw [size_pw2]; decide)) (by kernel_rfl) (by decide) (by kernel_rfl) (by kernel_rfl) (by kernel_rfl) (hQ _ _) (want_n (by kernel_rfl)) (fun hW w hS => rrun_move (x := .tmp 25) (.inl (by kernel_rfl)) (hF.ev 25 (.bool ((decide (0 < i)) && (decide (n.path ≤ pr.path)))) rfl)) hS (fun a hF => ?_)
  rw [show cond true (.bool ((decide (0 < i)) && (decide (n.path ≤ pr.path)))) undef = .bool ((decide (0 < i)) && (decide (n.path ≤ pr.path))) from rfl] at hF
  refine hst (i := 15) (o := ops_pw2[15]'(show 15 < ops_pw2.size by rw [size_pw2]; decide)) hF 27 (((decide (0 < i)) && (decide (n.path ≤ pr.path))) == false) (ptr z 0) (Array.getElem?_eq_getElem (show 15 < ops_pw2.size by rw [size_pw2]; decide)) (by kernel_rfl) (by decide) (by kernel_rfl) (by kernel_rfl) (by kernel_rfl) (hQ _ _) (want_b (gi := 14) (g := 26) (c := ((decide (0 < i)) && (decide (n.path ≤ pr.path)))) hF (by kernel_rfl) (by kernel_rfl) rfl) (fun hW w hS => rrun_fld (T := 68) (x := .tmp 5) (f := 0) (by kernel_rfl) (hF.ev 5 (ptr z 0) rfl) (by kernel_rfl)) hS (fun a hF => ?_)
  refine hst (i := 16) (o := ops_pw2[16]'(show 16 < ops_pw2.size by rw [size_pw2]; decide)) hF 28 (((decide (0 < i)) && (decide (n.path ≤ pr.path))) == false) (.int .u64 ((n.path : Nat) : Int)) (Array.getElem?_eq_getElem (show 16 < ops_pw2.size by rw [size_pw2]; decide)) (by kernel_rfl) (by decide) (by kernel_rfl) (by kernel_rfl) (by kernel_rfl) (hQ _ _) (want_b (gi := 14) (g := 26) (c := ((decide (0 < i)) && (decide (n.path ≤ pr.path)))) hF (by kernel_rfl) (by kernel_rfl) rfl) (fun hW w hS => rrun_load (ty := 30) (x := .tmp 27) (by kernel_rfl) ((hF.ev 27 (cond (((decide (0 < i)) && (decide (n.path ≤ pr.path))) == false) (ptr z 0) undef) rfl).trans (cond_t hW)) (rld_u64 (block_cell hS.nod 0))) hS (fun a hF => ?_)
  refine hst (i := 17) (o := ops_pw2[17]'(show 17 < ops_pw2.size by rw [size_pw2]; decide)) hF 29 (((decide (0 < i)) && (decide (n.path ≤ pr.path))) == false) (ptr g 0) (Array.getElem?_eq_getElem (show 17 < ops_pw2.size by rw [size_pw2]; decide)) (by kernel_rfl) (by decide) (by kernel_rfl) (by kernel_rfl) (by kernel_rfl) (hQ _ _) (want_b (gi := 14) (g := 26) (c := ((decide (0 < i)) && (decide (n.path ≤ pr.path)))) hF (by kernel_rfl) (by kernel_rfl) rfl) (fun hW w hS => rrun_fld (T := 33) (x := .tmp 2) (f := 0) (by kernel_rfl) (hF.ev 2 (ptr g 0) rfl) (by kernel_rfl)) hS (fun a hF => ?_)
  refine hst (i := 18) (o := ops_pw2[18]'(show 18 < ops_pw2.size by rw [size_pw2]; decide)) hF 30 (((decide (0 < i)) && (decide (n.path ≤ pr.path))) == false) (.int .u64 ((x : Nat) : Int)) (Array.getElem?_eq_getElem (show 18 < ops_pw2.size by rw [size_pw2]; decide)) (by kernel_rfl) (by decide) (by kernel_rfl) (by kernel_rfl) (by kernel_rfl) (hQ _ _) (want_b (gi := 14) (g := 26) (c := ((decide (0 < i)) && (decide (n.path ≤ pr.path)))) hF (by kernel_rfl) (by kernel_rfl) rfl) (fun hW w hS => rrun_load (ty := 30) (x := .tmp 29) (by kernel_rfl) ((hF.ev 29 (cond (((decide (0 < i)) && (decide (n.path ≤ pr.path))) == false) (ptr g 0) undef) rfl).trans (cond_t hW)) (rld_u64 (block_cell hS.box 0))) hS (fun a hF => ?_)
  refine hst (i := 19) (o := ops_pw2[19]'(show 19 < ops_pw2.size by rw [size_pw2]; decide)) hF 31 (((decide (0 < i)) && (decide (n.path ≤ pr.path))) == false) (.bool (decide (x ≤ n.path))) (Array.getElem?_eq_getElem (show 19 < ops_pw2.size by rw [size_pw2]; decide)) (by kernel_rfl) (by decide) (by kernel_rfl) (by kernel_rfl) (by kernel_rfl) (hQ _ _) (want_b (gi := 14) (g := 26) (c := ((decide (0 < i)) && (decide (n.path ≤ pr.path)))) hF (by kernel_rfl) (by kernel_rfl) rfl) (fun hW w hS => rrun_bin (op := .geq) (ty := 30) (ty2 := 30) (x := .tmp 28) (y := .tmp 30) (u := .int .u64 ((n.path : Nat) : Int)) (v := .int .u64 ((x : Nat) : Int)) (by kernel_rfl) ((hF.ev 28 (cond (((decide (0 < i)) && (decide (n.path ≤ pr.path))) == false) (.int .u64 ((n.path : Nat) : Int)) undef) rfl).trans (cond_t hW)) ((hF.ev 30 (cond (((decide (0 < i)) && (decide (n.path ≤ pr.path))) == false) (.int .u64 ((x : Nat) : Int)) undef) rfl).trans (cond_t hW)) (by kernel_rfl) (rge_u64 _ _ w)) hS (fun a hF => ?_)
  refine hst (i := 20) (o := ops_pw2[20]'(show 20 < ops_pw2.size by rw [size_pw2]; decide)) hF 32 true (.bool (((decide (0 < i)) && (decide (n.path ≤ pr.path))) || (decide (x ≤ n.path)))) (Array.getElem?_eq_getElem (show 20 < ops_pw2.size by rw [size_pw2]; decide)) (by kernel_rfl) (by decide) (by kernel_rfl) (by kernel_rfl) (by kernel_rfl) (hQ _ _) (want_n (by kernel_rfl)) (fun hW w hS => rrun_or (y := .const (.bool true)) (x := .tmp 26) (b := ((decide (0 < i)) && (decide (n.path ≤ pr.path)))) (b' := (decide (x ≤ n.path))) (by kernel_rfl) (hF.ev 26 _ rfl) rfl (hF.ev 31 (cond (((decide (0 < i)) && (decide (n.path ≤ pr.path))) == false) (.bool (decide (x ≤ n.path))) undef) rfl)) hS (fun a hF => ?_)
  rw [show cond true (.bool (((decide (0 < i)) && (decide (n.path ≤ pr.path))) || (decide (x ≤ n.path)))) undef = .bool (((decide (0 < i)) && (decide (n.path ≤ pr.path))) || (decide (x ≤ n.path))) from rfl] at hF
  refine hst (i := 21) (o := ops_pw2[21]'(show 21 < ops_pw2.size by rw [size_pw2]; decide)) hF 11 true (.bool (((decide (0 < i)) && (decide (n.path ≤ pr.path))) || (decide (x ≤ n.path)))) (Array.getElem?_eq_getElem (show 21 < ops_pw2.size by rw [size_pw2]; decide)) (by kernel_rfl) (by decide) (by kernel_rfl) (by kernel_rfl) (by kernel_rfl) (hQ _ _) (want_n (by kernel_rfl)) (fun hW w hS => rrun_move (x := .tmp 32) (.inr (by kernel_rfl)) (hF.ev 32 (.bool (((decide (0 < i)) && (decide (n.path ≤ pr.path))) || (decide (x ≤ n.path)))) rfl)) hS (fun a hF => ?_)
  rw [show cond true (.bool (((decide (0 < i)) && (decide (n.path ≤ pr.path))) || (decide (x ≤ n.path)))) undef = .bool (((decide (0 < i)) && (decide (n.path ≤ pr.path))) || (decide (x ≤ n.path))) from rfl] at hF
  exact wpAnyH_done (by kernel_rfl) (hE _ _ (hF.sub ((11, .bool (((decide (0 < i)) && (decide (n.path ≤ pr.path))) || (decide (x ≤ n.path)))) :: [(2, ptr g 0), (1, .int .i64 ((i : Nat) : Int)), (5, ptr z 0), (0, v0), (3, v3), (4, v4), (44, v44), (50, v50)]) ⟨rfl, rfl, rfl, rfl, rfl, rfl, rfl, rfl, rfl, trivial⟩) hS) _
end
end Go.Proofs.YtcmajcljafmphaaGreat
