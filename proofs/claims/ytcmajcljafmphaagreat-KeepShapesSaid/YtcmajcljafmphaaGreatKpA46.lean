/- Law 19's known. Conditions: none.
Law KeepCut. Conditions: the arguments as they come in.
How what comes in to a law is told to its walk. No condition. -/
import Derived.Test.YtcmajcljafmphaaGreatKpA45
import Derived.Test.YtcmajcljafmphaaGreatKpA35
import Derived.Test.YtcmajcljafmphaaGreatKpA39
import Derived.Test.YtcmajcljafmphaaGreatKpA13
import Derived.Test.YtcmajcljafmphaaGreatKpA22
import Derived.Test.YtcmajcljafmphaaGreatKpA01
import Derived.ProofKit
import Derived.OpenShut
import Derived.ChangeOld
namespace Go.Proofs.YtcmajcljafmphaaGreat
section
open Go.RowKit Go.Maps
set_option maxRecDepth 100000
set_option linter.unusedVariables false

theorem k19_okc (x : Nat) (hx : 2 ≤ x) : OkC ⟨x, [rootN ⟨#[117, 49]⟩ 3]⟩ := root_okc _ 3 x (by kernel_rfl) hx
theorem k19_lay (x : Nat) (hx : 2 ≤ x) (hx2 : x < 18446744073709551616) : LayOk ⟨x, [rootN ⟨#[117, 49]⟩ 3]⟩ := root_lay _ 3 x (by kernel_rfl) (by decide) (by decide) hx hx2
theorem ktree_at {w : World} {d kb : Nat} {t : Tr} {sec down : Bool} (h : KeepAt w d kb t sec down) (ht : LayOk t) : Calls Tryz.prog 12 #[.pointer (some ⟨kb, 0, none⟩)] w (SetPost w t.next t.n) := by
  obtain ⟨v, h1, h2⟩ := h
  have := ktree_any kb d t.next v sec down t.n w h1 h2 ht.len
  rw [ht.d0] at this
  exact this
theorem Fr.cells {base : Nat} {zs : List Nat} {w w' : World} {z : Nat} {o : Obj} (h : Fr base zs w w') (hz : z ∈ zs) (hc : w.heap[z]? = some o) : w'.heap[z]? = some o := (h.keep z hz).trans hc
set_option maxHeartbeats 3200000 in
theorem known19_any (w : World) : Calls Tryz.prog 7 #[] w fun e w' => e = .returned (.bool true) ∧ Below w.heap.size w w' := by
  have hfd : ∀ (y v : Value) (w : World), (Instr.field 33 (.agg #[y, v]) 0).run Tryz.prog w = .ok y w := fun _ _ _ => rfl
  have hp := hid (kplate_any w)
  have hnw := hid (fun X => new2_any ⟨#[117, 49]⟩ 3 X)
  go_enter Tryz.func7, Tryz.ntmps7
  go_wp2_with (first
    | (go_at_call 15; refine hp.out.mono ?_; rintro e w1 ⟨d, rfl, hD, hb1⟩; replace hD := hid hD; replace hb1 := hid hb1)
    | (go_at_call 10; refine (show Calls Tryz.prog 10 #[.string ⟨#[117, 49]⟩, .int .u32 3] _ _ from hnw.out _).mono ?_; rintro e w2 ⟨zt, ct, rfl, hn, hz1, hz2, hb2⟩; replace hn := hid hn; replace hb2 := hid hb2))
  obtain ⟨L, hL⟩ : ∃ L, L = [rootN ⟨#[117, 49]⟩ 3] := ⟨_, rfl⟩
  have hok : ∀ x, 2 ≤ x → OkC ⟨x, L⟩ := fun x h => by rw [hL]; exact k19_okc x h
  have hly : ∀ x, 2 ≤ x → x < 18446744073709551616 → LayOk ⟨x, L⟩ := fun x h1 h2 => by rw [hL]; exact k19_lay x h1 h2
  have hall : ∀ x, (encT x L).length ≤ 47000 := fun x => by rw [hL]; exact Nat.le_trans (root_all x _ 3 (by decide)) (by decide)
  have hlen : L.length = 1 := by rw [hL]; rfl
  rw [← hL] at hn
  replace hok := hid hok
  replace hly := hid hly
  replace hall := hid hall
  clear hL hnw hp
  -- Format
  obtain ⟨w3, hw3⟩ : ∃ W, W = w2.alloc (.cells #[.int .u64 2, .slice (some ⟨zt, 0, none⟩) 1 ct] 33) := ⟨_, rfl⟩
  have hb23 : Below w2.heap.size w2 w3 := by rw [hw3]; exact (Below.refl _ _).alloc (Nat.le_refl _) _
  have hT3 : w3.heap[w2.heap.size]? = some (.cells #[.int .u64 2, .slice (some ⟨zt, 0, none⟩) 1 ct] 33 (0, 0)) := by rw [hw3]; exact heap_alloc_new _ _
  obtain ⟨T, hT⟩ : ∃ T, T = w2.heap.size := ⟨_, rfl⟩
  rw [← hT] at hT3 ⊢
  rw [← hw3]
  have hb13 := sn hb2.out hb23
  have hT9 := lt_of_block hT3
  have hs2 := hb2.out.size
  have hs1 := hb1.out.size
  have hs3 := hb23.size
  have hD3 := hD.out.news hb13 [T, zt] (fun z hz => by simp only [List.mem_cons, List.not_mem_nil, or_false] at hz; omega)
  have hn3 := hn.out.below hb23
  have hf3 := hid (kformat_any (t := ⟨2, L⟩) hD3 (by omega) plate_ok.1 (by decide) rfl rfl _ plate_ok.2 (.slice (some ⟨zt, 0, none⟩) 1 ct) hn3 (fun j hj => by cases hj; left; simp) (hly.out 2 (by decide) (by decide)) (hok.out 2 (by decide)))
  rw [hwhich_zeros] at hf3
  refine (show Calls Tryz.prog 9 #[.pointer (some ⟨d, 0, none⟩), .agg #[.int .u64 2, .slice (some ⟨zt, 0, none⟩) 1 ct]] w3 _ from hf3.out).mono ?_
  rintro e w4 (⟨kb, s1, z, rfl, hL1, hkb3, hD4, hK4, hF4⟩ | ⟨kb, s1, rfl, hC, _⟩)
  case inr => have := hC.was; cases this
  have hT4 := hF4.cells (show T ∈ [T, zt] by simp) hT3
  have hn4 := hn3.fr (fun j hj => by cases hj; exact hF4.keep zt (by simp))
  have hb4 := hid ((hb1.out.trans (hb13.mono hs1)).trans hF4.below)
  have t0 := block_cell hT4 0
  have t1 := block_cell hT4 1
  have hD4b := hid hD4.drop
  have hkb4 := hD4.drop.zlt kb (by simp)
  have hT4z := hD4.drop.zlt T (by simp)
  have hzt4 := hD4.drop.zlt zt (by simp)
  replace hL1 := hid hL1
  replace hK4 := hid hK4
  replace hT4 := hid hT4
  replace hn4 := hid hn4
  replace hw3 := hid hw3
  clear hD4 hF4 hf3 hD3 hn3 hT3 hb13 hb23 hD hn hb2
  subst hT
  go_wp2_with fail
  obtain ⟨w6, hw6⟩ : ∃ W, W = w4.alloc (.cells #[.int .u64 9, .slice (some ⟨zt, 0, none⟩) 1 ct] 33) := ⟨_, rfl⟩
  have hb6 : Below w4.heap.size w4 w6 := by rw [hw6]; exact (Below.refl _ _).alloc (Nat.le_refl _) _
  have hU6 : w6.heap[w4.heap.size]? = some (.cells #[.int .u64 9, .slice (some ⟨zt, 0, none⟩) 1 ct] 33 (0, 0)) := by rw [hw6]; exact heap_alloc_new _ _
  rw [← hw6]
  have hs4 := hb4.out.size
  have hs6 := hb6.size
  have hD6 := hid ((hD4b.out.new hb6 (Nat.le_refl _) (lt_of_block hU6)).sub (zs' := [kb, w4.heap.size, w2.heap.size, zt]) (fun z hz => by simp only [List.mem_cons, List.mem_append, List.not_mem_nil, or_false] at hz ⊢; omega))
  have hkn : kb ∉ [w4.heap.size, w2.heap.size, zt] := fun h => by simp only [List.mem_cons, List.not_mem_nil, or_false] at h; omega
  have hn6 := hn4.out.below hb6
  have hL1' := hL1.out
  have hs9 := hid (ksave_on (t := ⟨9, L⟩) hD6.out (by omega) (by omega) hkn hL1'.ok (Nat.le_trans hL1'.writes (by decide)) hL1'.off hL1'.pend hL1'.armed (hK4.out.keep hb6) (.slice (some ⟨zt, 0, none⟩) 1 ct) hn6 (fun j hj => by cases hj; left; simp) (hly.out 9 (by decide) (by decide)) (hok.out 9 (by decide)))
  refine (show Calls Tryz.prog 17 #[.pointer (some ⟨kb, 0, none⟩), .agg #[.int .u64 9, .slice (some ⟨zt, 0, none⟩) 1 ct]] w6 _ from hs9.out).mono ?_
  rintro e w7 ⟨rfl, s2, hL2, hD7, ⟨v7, hK7, hv7⟩, hF7⟩
  have hU7 := hF7.cells (by simp) hU6
  have hT7 := hF7.cells (show w2.heap.size ∈ [w4.heap.size, w2.heap.size, zt] by simp) ((hb6.block _ hT4z).trans hT4.out)
  have hn7 := hn6.fr (fun j hj => by cases hj; exact hF7.keep zt (by simp))
  have hb7 := hid ((hb4.out.trans (hb6.mono hs4)).trans hF7.below)
  have hcu := hid (kcut_any hD7 hL2.ok (.slice none 0 0) [] RowAt.nil (fun j hj => by cases hj))
  replace hU7 := hid hU7
  replace hT7 := hid hT7
  replace hK7 := hid hK7
  replace hn7 := hid hn7
  replace hL2 := hid hL2
  replace hw6 := hid hw6
  clear hv7 hD7 hF7 hU6 hb6 hn6 hs9 hL1' t0 t1
  -- Cut
  go_wp2_with fail
  refine hcu.out.mono ?_
  rintro e w8 ⟨rfl, hD8, hF8⟩
  have hU8 := hF8.cells (by simp) hU7.out
  have hT8 := hF8.cells (show w2.heap.size ∈ [kb, w4.heap.size, w2.heap.size, zt] by simp) hT7.out
  have hK8 := hF8.cells (show kb ∈ [kb, w4.heap.size, w2.heap.size, zt] by simp) hK7.out
  have hn8 := hn7.out.fr (fun j hj => by cases hj; exact hF8.keep zt (by simp))
  have hb8 := hid (hb7.out.trans hF8.below)
  have hs9 := hid (ksave_off (t := ⟨2, L⟩) hD8 hb8.out.size (by omega) hkn rfl hK8 (.slice (some ⟨zt, 0, none⟩) 1 ct) hn8 (hly.out 2 (by decide) (by decide)) (hok.out 2 (by decide)))
  have t0 := block_cell hT8 0
  have t1 := block_cell hT8 1
  replace hU8 := hid hU8
  replace hn8 := hid hn8
  replace hT8 := hid hT8
  clear hF8 hD8 hK8 hcu hU7 hT7 hn7
  go_wp2_with fail
  refine (show Calls Tryz.prog 17 #[.pointer (some ⟨kb, 0, none⟩), .agg #[.int .u64 2, .slice (some ⟨zt, 0, none⟩) 1 ct]] w8 _ from hs9.out).mono ?_
  rintro e w9 ⟨rfl, hD9, hF9⟩
  have hU9 := hid (hF9.cells (by simp) hU8.out)
  have hn9 := hid (hn8.out.fr (fun j hj => by cases hj; exact hF9.keep zt (by simp)))
  have hb9 := hid (hb8.out.trans hF9.below)
  have hon := hid (kon_any hD9)
  clear hD9 hF9 hU8 hn8 hs9 t0 t1
  go_wp2_with fail
  refine hon.out.mono ?_
  rintro e w10 ⟨rfl, hD10, hF10⟩
  have hU10 := hid (hF10.cells (by simp) hU9.out)
  have hn10 := hid (hn9.out.fr (fun j hj => by cases hj; exact hF10.keep zt (by simp)))
  have hb10 := hid (hb9.out.trans hF10.below)
  have hop := hid (kopen_laid (t := ⟨9, L⟩) hD10 (hL2.out.cut []) rfl (hly.out 9 (by decide) (by decide)) (hok.out 9 (by decide)) (hall.out 9))
  clear hD10 hF10 hU9 hn9 hon
  go_wp2_with fail
  refine hop.out.mono ?_
  rintro e w11 ⟨hb11, kb2, rfl, -, hK11⟩
  have hU11 := (hb11.block _ (lt_of_block hU10.out)).trans hU10.out
  have hn11 := hid (hn10.out.below hb11.drew)
  have hb12 := hid ((hb10.out.trans (hb11.mono hb10.out.size)).drew)
  have hkt := hid (ktree_at (hK11.keep (Below.refl _ _).drew) (hly.out 9 (by decide) (by decide)))
  have u0 : w11.cell? ⟨w4.heap.size, 0, none⟩ = some (.int .u64 9) := block_cell hU11 0
  have u1 : w11.cell? ⟨w4.heap.size, 1, none⟩ = some (.slice (some ⟨zt, 0, none⟩) 1 ct) := block_cell hU11 1
  replace hK11 := hid hK11
  replace hU11 := hid hU11
  clear hb11 hop hn10 hU10
  have hst := hid (fun (X : World) (hb : Below w11.drew.heap.size w11.drew X) => show (X.cell? ⟨w4.heap.size, 0, none⟩ = some (.int .u64 9) ∧ X.cell? ⟨w4.heap.size, 1, none⟩ = some (.slice (some ⟨zt, 0, none⟩) 1 ct)) ∧ Below w.heap.size w X ∧ KeepAt X d kb2 ⟨9, L⟩ (!true) false ∧ NodsAt X (.slice (some ⟨zt, 0, none⟩) 1 ct) L from by
    have h1 := (hb.block _ (by exact lt_of_block hU11.out)).trans hU11.out
    exact ⟨⟨block_cell h1 0, block_cell h1 1⟩, hb12.out.trans (hb.mono hb12.out.size), (hK11.out.keep (Below.refl _ _).drew).keep hb, hn11.out.below hb⟩)
  go_upto_region 15 with fail
  refine wp_region_held_drew (S := (fun X => X.cell? ⟨w4.heap.size, 0, none⟩ = some (.int .u64 9) ∧ X.cell? ⟨w4.heap.size, 1, none⟩ = some (.slice (some ⟨zt, 0, none⟩) 1 ct))) (by kernel_rfl) ?_ (fun hHeld0 => ?_)
  · try dsimp only
    (first | exact s3 | exact s2 | exact s1 | exact ⟨u0, u1⟩)
  refine wpAnyH_take (i := 0) (oi := _) (v := ?_) (take_list rfl) (by kernel_rfl) (by kernel_rfl) (by kernel_rfl) (fun _ _ _ h => h) (Or.inl ⟨by rfl, ?_⟩) (by assumption) ?_
  rotate_left
  · intro w hSw; (try dsimp only at hSw); go_simp; try (with_reducible rfl)
  try simp only [Act.put, List.setIfInBounds_toArray, List.set_cons_zero, List.set_cons_succ]
  refine wpAnyH_take (i := 1) (oi := _) (v := ?_) (take_list rfl) (by kernel_rfl) (by kernel_rfl) (by kernel_rfl) (fun _ _ _ h => h) (Or.inl ⟨by rfl, ?_⟩) (by assumption) ?_
  rotate_left
  · intro w hSw; (try dsimp only at hSw); go_simp; try (with_reducible rfl)
  try simp only [Act.put, List.setIfInBounds_toArray, List.set_cons_zero, List.set_cons_succ]
  refine wpAnyH_take (i := 2) (oi := _) (v := ?_) (take_list rfl) (by kernel_rfl) (by kernel_rfl) (by kernel_rfl) (fun _ _ _ h => h) (Or.inl ⟨by rfl, ?_⟩) (by assumption) ?_
  rotate_left
  · intro w hSw; (try dsimp only at hSw); go_simp; try (with_reducible rfl)
  try simp only [Act.put, List.setIfInBounds_toArray, List.set_cons_zero, List.set_cons_succ]
  refine wpAnyH_take (i := 3) (oi := _) (v := ?_) (take_list rfl) (by kernel_rfl) (by kernel_rfl) (by kernel_rfl) (fun _ _ _ h => h) (Or.inl ⟨by rfl, ?_⟩) (by assumption) ?_
  rotate_left
  · intro w hSw; (try dsimp only at hSw); go_simp; try (with_reducible rfl)
  try simp only [Act.put, List.setIfInBounds_toArray, List.set_cons_zero, List.set_cons_succ]
  refine wpAnyH_take (i := 4) (oi := _) (v := ?_) (take_list rfl) (by kernel_rfl) (by kernel_rfl) (by kernel_rfl) (fun _ _ _ h => h) (Or.inl ⟨by rfl, ?_⟩) (by assumption) ?_
  rotate_left
  · intro w hSw; (try dsimp only at hSw); go_simp; try (with_reducible rfl)
  try simp only [Act.put, List.setIfInBounds_toArray, List.set_cons_zero, List.set_cons_succ]
  refine wpAnyH_take (i := 5) (oi := _) (v := ?_) (take_list rfl) (by kernel_rfl) (by kernel_rfl) (by kernel_rfl) (fun _ _ _ h => h) (Or.inl ⟨by rfl, ?_⟩) (by assumption) ?_
  rotate_left
  · intro w hSw; (try dsimp only at hSw); go_simp; try (with_reducible rfl)
  try simp only [Act.put, List.setIfInBounds_toArray, List.set_cons_zero, List.set_cons_succ]
  refine wpAnyH_take (i := 6) (oi := _) (v := ?_) (take_list rfl) (by kernel_rfl) (by kernel_rfl) (by kernel_rfl) (fun _ _ _ h => h) (Or.inl ⟨by rfl, ?_⟩) (by assumption) ?_
  rotate_left
  · intro w hSw; (try dsimp only at hSw); go_simp; try (with_reducible rfl)
  try simp only [Act.put, List.setIfInBounds_toArray, List.set_cons_zero, List.set_cons_succ]
  refine wpAnyH_take (i := 7) (oi := _) (v := ?_) (take_list rfl) (by kernel_rfl) (by kernel_rfl) (by kernel_rfl) (fun _ _ _ h => h) (Or.inl ⟨by rfl, ?_⟩) (by assumption) ?_
  rotate_left
  · intro w hSw; (try dsimp only at hSw); go_simp; try (with_reducible rfl)
  try simp only [Act.put, List.setIfInBounds_toArray, List.set_cons_zero, List.set_cons_succ]
  refine wpAnyH_take (i := 8) (oi := _) (v := ?_) (take_list rfl) (by kernel_rfl) (by kernel_rfl) (by kernel_rfl) (fun _ _ _ h => h) (Or.inl ⟨by rfl, ?_⟩) (by assumption) ?_
  rotate_left
  · intro w hSw; (try dsimp only at hSw); go_simp; try (with_reducible rfl)
  try simp only [Act.put, List.setIfInBounds_toArray, List.set_cons_zero, List.set_cons_succ]
  refine wpAnyH_take (i := 9) (oi := _) (v := ?_) (take_list rfl) (by kernel_rfl) (by kernel_rfl) (by kernel_rfl) (fun _ _ _ h => h) (Or.inl ⟨by rfl, ?_⟩) (by assumption) ?_
  rotate_left
  · intro w hSw; (try dsimp only at hSw); go_simp; try (with_reducible rfl)
  try simp only [Act.put, List.setIfInBounds_toArray, List.set_cons_zero, List.set_cons_succ]
  refine wpAnyH_take (i := 10) (oi := _) (v := ?_) (take_list rfl) (by kernel_rfl) (by kernel_rfl) (by kernel_rfl) (fun _ _ _ h => h) (Or.inl ⟨by rfl, ?_⟩) (by assumption) ?_
  rotate_left
  · intro w hSw; (try dsimp only at hSw); go_simp; try (with_reducible rfl)
  try simp only [Act.put, List.setIfInBounds_toArray, List.set_cons_zero, List.set_cons_succ]
  refine wpAnyH_take (i := 11) (oi := _) (v := ?_) (take_list rfl) (by kernel_rfl) (by kernel_rfl) (by kernel_rfl) (fun _ _ _ h => h) (Or.inl ⟨by rfl, ?_⟩) (by assumption) ?_
  rotate_left
  · intro w hSw; (try dsimp only at hSw); go_simp; try (with_reducible rfl)
  try simp only [Act.put, List.setIfInBounds_toArray, List.set_cons_zero, List.set_cons_succ]
  refine wpAnyH_take (i := 12) (oi := _) (v := ?_) (take_list rfl) (by kernel_rfl) (by kernel_rfl) (by kernel_rfl) (fun _ _ _ h => h) (Or.inl ⟨by rfl, ?_⟩) (by assumption) ?_
  rotate_left
  · intro w hSw; (try dsimp only at hSw); go_simp; try (with_reducible rfl)
  try simp only [Act.put, List.setIfInBounds_toArray, List.set_cons_zero, List.set_cons_succ]
  refine wpAnyH_take (i := 13) (oi := _) (v := ?_) (take_list rfl) (by kernel_rfl) (by kernel_rfl) (by kernel_rfl) (fun _ _ _ h => h) (Or.inl ⟨by rfl, ?_⟩) (by assumption) ?_
  rotate_left
  · intro w hSw; (try dsimp only at hSw); go_simp; try (with_reducible rfl)
  try simp only [Act.put, List.setIfInBounds_toArray, List.set_cons_zero, List.set_cons_succ]
  refine wpAnyH_ready (rs := [14]) (by kernel_rfl) (by simp) ?_
  refine AllReadyH.cons (take_list rfl) (fun K hK => ?_) ?_
  go_simp
  go_wp2_with ((first
    | (go_at_call 12; refine (show Calls Tryz.prog 12 #[.pointer (some ⟨kb2, 0, none⟩)] w11.drew _ from hkt.out).mono ?_; rintro e x1 ⟨v1, rfl, hn1, -, hx1⟩; obtain ⟨s1, hy1, hq1, hm1⟩ := hst.out x1 hx1; have hkt2 := hid (ktree_at hq1 (hly.out 9 (by decide) (by decide))); replace hx1 := hid hx1; clear hn1 hy1 hq1 hm1)
    | (go_at_call 12; refine (show Calls Tryz.prog 12 #[.pointer (some ⟨kb2, 0, none⟩)] x1 _ from hkt2.out).mono ?_; rintro e x2 ⟨v2, rfl, hn2, -, hx2⟩; have hx12 := hx1.out.trans (hx2.mono hx1.out.size); obtain ⟨s2, hy2, hq2, hm2⟩ := hst.out x2 hx12; have hsm := hid (nsame_any v2 _ 9 9 L L x2 hn2 hm2 (by omega) (by omega)); obtain ⟨a2, c2, rfl, _, _⟩ := hn2.form; rw [hlen] at hsm; replace hx12 := hid hx12; clear hn2 hy2 hq2 hm2 hx2)
    | (go_at_call 18; refine (show Calls Tryz.prog 18 #[.agg #[.int .u64 9, .slice a2 1 c2], .agg #[.int .u64 9, .slice (some ⟨zt, 0, none⟩) 1 ct]] x2 _ from hsm.out).mono ?_; rintro e x3 ⟨rfl, hx3⟩; rw [eqL_iff.2 rfl]; have hx13 := hx12.out.trans (hx3.mono hx12.out.size); obtain ⟨s3, hy3, _, _⟩ := hst.out x3 hx13; replace hy3 := hid hy3; clear hx13 hx3)))
  refine hK.out _ _ ?_ (fun hHeld1 => ?_)
  · try dsimp only
    (first | exact s3 | exact s2 | exact s1 | exact ⟨u0, u1⟩)
  clear hK K hHeld0
  try simp only [Act.put, List.setIfInBounds_toArray, List.set_cons_zero, List.set_cons_succ]
  refine wpAnyH_take (i := 15) (oi := _) (v := ?_) (take_list rfl) (by kernel_rfl) (by kernel_rfl) (by kernel_rfl) (fun _ _ _ h => h) (Or.inl ⟨by rfl, ?_⟩) (by assumption) ?_
  rotate_left
  · intro w hSw; (try dsimp only at hSw); go_simp; try (with_reducible rfl)
  try simp only [Act.put, List.setIfInBounds_toArray, List.set_cons_zero, List.set_cons_succ]
  refine wpAnyH_take (i := 16) (oi := _) (v := ?_) (take_list rfl) (by kernel_rfl) (by kernel_rfl) (by kernel_rfl) (fun _ _ _ h => h) (Or.inl ⟨by rfl, ?_⟩) (by assumption) ?_
  rotate_left
  · intro w hSw; (try dsimp only at hSw); go_simp; try (with_reducible rfl)
  try simp only [Act.put, List.setIfInBounds_toArray, List.set_cons_zero, List.set_cons_succ]
  refine wpAnyH_take (i := 17) (oi := _) (v := ?_) (take_list rfl) (by kernel_rfl) (by kernel_rfl) (by kernel_rfl) (fun _ _ _ h => h) (Or.inl ⟨by rfl, ?_⟩) (by assumption) ?_
  rotate_left
  · intro w hSw; (try dsimp only at hSw); go_simp; try (with_reducible rfl)
  try simp only [Act.put, List.setIfInBounds_toArray, List.set_cons_zero, List.set_cons_succ]
  refine wpAnyH_take (i := 18) (oi := _) (v := ?_) (take_list rfl) (by kernel_rfl) (by kernel_rfl) (by kernel_rfl) (fun _ _ _ h => h) (Or.inl ⟨by rfl, ?_⟩) (by assumption) ?_
  rotate_left
  · intro w hSw; (try dsimp only at hSw); go_simp; try (with_reducible rfl)
  try simp only [Act.put, List.setIfInBounds_toArray, List.set_cons_zero, List.set_cons_succ]
  refine wpAnyH_take (i := 19) (oi := _) (v := ?_) (take_list rfl) (by kernel_rfl) (by kernel_rfl) (by kernel_rfl) (fun _ _ _ h => h) (Or.inl ⟨by rfl, ?_⟩) (by assumption) ?_
  rotate_left
  · intro w hSw; (try dsimp only at hSw); go_simp; try (with_reducible rfl)
  try simp only [Act.put, List.setIfInBounds_toArray, List.set_cons_zero, List.set_cons_succ]
  refine wpAnyH_take (i := 21) (oi := _) (v := ?_) (take_list rfl) (by kernel_rfl) (by kernel_rfl) (by kernel_rfl) (fun _ _ _ h => h) (Or.inl ⟨by rfl, ?_⟩) (by assumption) ?_
  rotate_left
  · intro w hSw; (try dsimp only at hSw); go_simp; try (with_reducible rfl)
  try simp only [Act.put, List.setIfInBounds_toArray, List.set_cons_zero, List.set_cons_succ]
  refine wpAnyH_ready (rs := [20]) (by kernel_rfl) (by simp) ?_
  refine AllReadyH.cons (take_list rfl) (fun K hK => ?_) ?_
  go_simp
  ((first
    | (go_at_call 12; refine (show Calls Tryz.prog 12 #[.pointer (some ⟨kb2, 0, none⟩)] w11.drew _ from hkt.out).mono ?_; rintro e x1 ⟨v1, rfl, hn1, -, hx1⟩; obtain ⟨s1, hy1, hq1, hm1⟩ := hst.out x1 hx1; have hkt2 := hid (ktree_at hq1 (hly.out 9 (by decide) (by decide))); replace hx1 := hid hx1; clear hn1 hy1 hq1 hm1)
    | (go_at_call 12; refine (show Calls Tryz.prog 12 #[.pointer (some ⟨kb2, 0, none⟩)] x1 _ from hkt2.out).mono ?_; rintro e x2 ⟨v2, rfl, hn2, -, hx2⟩; have hx12 := hx1.out.trans (hx2.mono hx1.out.size); obtain ⟨s2, hy2, hq2, hm2⟩ := hst.out x2 hx12; have hsm := hid (nsame_any v2 _ 9 9 L L x2 hn2 hm2 (by omega) (by omega)); obtain ⟨a2, c2, rfl, _, _⟩ := hn2.form; rw [hlen] at hsm; replace hx12 := hid hx12; clear hn2 hy2 hq2 hm2 hx2)
    | (go_at_call 18; refine (show Calls Tryz.prog 18 #[.agg #[.int .u64 9, .slice a2 1 c2], .agg #[.int .u64 9, .slice (some ⟨zt, 0, none⟩) 1 ct]] x2 _ from hsm.out).mono ?_; rintro e x3 ⟨rfl, hx3⟩; rw [eqL_iff.2 rfl]; have hx13 := hx12.out.trans (hx3.mono hx12.out.size); obtain ⟨s3, hy3, _, _⟩ := hst.out x3 hx13; replace hy3 := hid hy3; clear hx13 hx3)))
  go_wp2_with fail
  refine hK.out _ _ ?_ (fun hHeld2 => ?_)
  · try dsimp only
    (first | exact s3 | exact s2 | exact s1 | exact ⟨u0, u1⟩)
  clear hK K hHeld1
  try simp only [Act.put, List.setIfInBounds_toArray, List.set_cons_zero, List.set_cons_succ]
  refine wpAnyH_ready (rs := [22]) (by kernel_rfl) (by simp) ?_
  refine AllReadyH.cons (take_list rfl) (fun K hK => ?_) ?_
  go_simp
  ((first
    | (go_at_call 12; refine (show Calls Tryz.prog 12 #[.pointer (some ⟨kb2, 0, none⟩)] w11.drew _ from hkt.out).mono ?_; rintro e x1 ⟨v1, rfl, hn1, -, hx1⟩; obtain ⟨s1, hy1, hq1, hm1⟩ := hst.out x1 hx1; have hkt2 := hid (ktree_at hq1 (hly.out 9 (by decide) (by decide))); replace hx1 := hid hx1; clear hn1 hy1 hq1 hm1)
    | (go_at_call 12; refine (show Calls Tryz.prog 12 #[.pointer (some ⟨kb2, 0, none⟩)] x1 _ from hkt2.out).mono ?_; rintro e x2 ⟨v2, rfl, hn2, -, hx2⟩; have hx12 := hx1.out.trans (hx2.mono hx1.out.size); obtain ⟨s2, hy2, hq2, hm2⟩ := hst.out x2 hx12; have hsm := hid (nsame_any v2 _ 9 9 L L x2 hn2 hm2 (by omega) (by omega)); obtain ⟨a2, c2, rfl, _, _⟩ := hn2.form; rw [hlen] at hsm; replace hx12 := hid hx12; clear hn2 hy2 hq2 hm2 hx2)
    | (go_at_call 18; refine (show Calls Tryz.prog 18 #[.agg #[.int .u64 9, .slice a2 1 c2], .agg #[.int .u64 9, .slice (some ⟨zt, 0, none⟩) 1 ct]] x2 _ from hsm.out).mono ?_; rintro e x3 ⟨rfl, hx3⟩; rw [eqL_iff.2 rfl]; have hx13 := hx12.out.trans (hx3.mono hx12.out.size); obtain ⟨s3, hy3, _, _⟩ := hst.out x3 hx13; replace hy3 := hid hy3; clear hx13 hx3)))
  go_wp2_with fail
  refine hK.out _ _ ?_ (fun hHeld3 => ?_)
  · try dsimp only
    (first | exact s3 | exact s2 | exact s1 | exact ⟨u0, u1⟩)
  clear hK K hHeld2
  try simp only [Act.put, List.setIfInBounds_toArray, List.set_cons_zero, List.set_cons_succ]
  refine wpAnyH_take (i := 23) (oi := _) (v := ?_) (take_list rfl) (by kernel_rfl) (by kernel_rfl) (by kernel_rfl) (fun _ _ _ h => h) (Or.inl ⟨by rfl, ?_⟩) (by assumption) ?_
  rotate_left
  · intro w hSw; (try dsimp only at hSw); go_simp; try (with_reducible rfl)
  try simp only [Act.put, List.setIfInBounds_toArray, List.set_cons_zero, List.set_cons_succ]
  refine wpAnyH_take (i := 24) (oi := _) (v := ?_) (take_list rfl) (by kernel_rfl) (by kernel_rfl) (by kernel_rfl) (fun _ _ _ h => h) (Or.inl ⟨by rfl, ?_⟩) (by assumption) ?_
  rotate_left
  · intro w hSw; (try dsimp only at hSw); go_simp; try (with_reducible rfl)
  try simp only [Act.put, List.setIfInBounds_toArray, List.set_cons_zero]
  refine wpAnyH_done (by kernel_rfl) ?_ _
  rotate_left
  exact AllReadyH.nil
  exact AllReadyH.nil
  exact AllReadyH.nil
  all_goals
    go_wp2_with fail
    go_ret
    exact ⟨by simp, hy3.out⟩
end
end Go.Proofs.YtcmajcljafmphaaGreat

namespace Go.Proofs.YtcmajcljafmphaaGreat
section
open Go.RowKit Go.Maps
set_option maxRecDepth 100000
set_option linter.unusedVariables false

theorem arm_ok {s : DskV} (h : DOk s) (n : Nat) (hn : n ≤ 1000) (kl : List Bool) : DOk (s.arm n kl) :=
  ⟨h.size, h.least, h.most, h.len, h.writes, fun _ => by show 1 ≤ max (n : Int) 1 ∧ max (n : Int) 1 ≤ 1000000; omega, h.pin, h.plen⟩
set_option maxHeartbeats 3200000 in
theorem law_KeepCutI (v kv : Value) (x n : Nat) (l : List Nod) (kl : List Bool) (w : World) (hv : NodsAt w v l) (hx : x < 18446744073709551616) (hok : ∀ m ∈ l, NodOk m) (hn : n ≤ 255) (hkv : RowAt w 1 kv kl.length (kl.map .bool)) :
    Calls Tryz.prog 5 #[.agg #[.int .u64 (x : Int), v], .int .u8 (n : Int), kv] w fun e w' => e = .returned (.bool true) ∧ Below w.heap.size w w' := by
  have mixed : Tryz.prog.follows Departure.mixedOrders = true := by first | kernel_rfl | decide
  have hkv0 := hkv
  obtain ⟨_, ka, kc, rfl, _, _, _, _, _⟩ := hkv0
  obtain ⟨a, c, rfl, g1, g2⟩ := hv.form
  unfold maxLen at g2
  obtain ⟨W, hW⟩ : ∃ W, W = w.alloc (.cells #[.int .u64 (x : Int), .slice a l.length c] 33) := ⟨_, rfl⟩
  have hb0 : Below w.heap.size w W := by rw [hW]; exact (Below.refl _ _).alloc (Nat.le_refl _) _
  have hx0 := hid (show W.heap[w.heap.size]? = some (.cells #[.int .u64 (x : Int), .slice a l.length c] 33 (0, 0)) by rw [hW]; exact heap_alloc_new _ _)
  have hc := hid (known19_any W)
  have hv0 := hid (hv.below hb0)
  have hk0 := hid (hkv.below hb0)
  replace hb0 := hid hb0
  replace hok := hid hok
  clear hv hkv
  have hpl := hid (fun X => kplate_any X)
  go_enter Tryz.func5, Tryz.ntmps5
  go_wp2_with (rw [← hW]; replace hW := hid hW)
  refine hc.out.mono ?_
  rintro e w1 ⟨rfl, hb1⟩
  have hB := hid (sn hb0.out hb1)
  have tree := hid ((hb1.block _ (lt_of_block hx0.out)).trans hx0.out)
  have row := hid (hv0.out.below hb1)
  have keeps := hid (hk0.out.below hb1)
  clear hc hb1 hx0 hb0 hv0 hk0
  have hm := hid (may14_any (.slice a l.length c) x l w1 row.out hok.out)
  have q0 := block_cell tree.out 0
  have q1 := block_cell tree.out 1
  go_wp2_with fail
  refine hm.out.mono ?_
  rintro e w2 ⟨b, rfl, hmay, hb2⟩
  replace hB := hid (sn hB.out hb2)
  replace tree := hid ((hb2.block _ (lt_of_block tree.out)).trans tree.out)
  replace row := hid (row.out.below hb2)
  replace keeps := hid (keeps.out.below hb2)
  clear hm hb2 q0 q1
  cases b with
  | false =>
    clear hmay
    go_wp2_with fail
    go_ret
    exact ⟨by simp, hB.out⟩
  | true =>
    obtain ⟨hOk, hfew⟩ := hmay rfl
    have hsz := few_enc2 hfew hOk
    have hLy : LayOk ⟨x, l⟩ := okc_lay hOk hok.out hx (fun n hn => by have := hsz.1 n hn; omega) (Nat.le_trans hsz.2 (by decide))
    have hl900 := hLy.len
    have hE := hid hsz.2
    simp only at hl900
    replace hOk := hid hOk
    replace hLy := hid hLy
    have h1000 : l.length ≤ 1000 := by have := hLy.out.len; simp only at this; omega
    clear hmay hfew hsz
    by_cases hk6 : (600 : Int) < (kl.length : Int)
    · go_wp2_with fail
      go_ret
      exact ⟨by simp, hB.out⟩
    have q0 := block_cell tree.out 0
    have q1 := block_cell tree.out 1
    have hk9 : kl.length ≤ 1000 := by omega
    have hn9 : n ≤ 1000 := by omega
    go_upto_region 7 with (first
      | (go_at_call 15; refine (hpl.out _).mono ?_; rintro e w3 ⟨d, rfl, hD, hb3⟩; replace hb3 : Below w2.heap.size w2 w3 := (by first | exact hb3 | exact Below.of_drew hb3); replace hD : Dk w2.heap.size [] d plateV w3 := hD; have har := hid (karm_any hD n hn9 (.slice ka kl.length kc) kl (keeps.out.below hb3) hk9); replace hD := hid hD; replace hb3 := hid hb3)
      | (go_at_call 19; refine har.out.mono ?_; rintro e w4 ⟨rfl, hD4, hF4⟩))
    have hb24 := hb3.out.trans hF4.below
    have hT4 := hid ((hb24.block _ (lt_of_block tree.out)).trans tree.out)
    have hk4 := hid (keeps.out.below hb24)
    have hn4 := hid (row.out.below hb24)
    have hB4 := hid (sn hB.out hb24)
    obtain ⟨z, o, c', e', hz⟩ := row.out.lt hLy.out.ne
    cases e'
    have hs24 := hb24.size
    have hf4 := hid (kformat_any (t := ⟨x, l⟩) hD4 hs24 (arm_ok plate_ok.1 n hn9 kl) (Nat.zero_le _) rfl rfl _ plate_ok.2 (.slice (some ⟨z, o, none⟩) l.length c) hn4.out (fun j hj => by cases hj; exact .inr hz) hLy.out hOk.out)
    rw [hwhich_zeros] at hf4
    have hkb : ∀ j, (Value.slice ka kl.length kc).ownBlock = some j → j < w2.heap.size := fun j hj => RowAt.lt keeps.out hj
    obtain ⟨s0, hs0⟩ : ∃ s, s = plateV.arm n kl := ⟨_, rfl⟩
    have hz0 : s0.kept[0]? = some (zerosL 256) := by rw [hs0]; exact plate_ok.2
    rw [← hs0] at hf4
    replace hs0 := hid hs0
    have t0 := block_cell hT4.out 0
    have t1 := block_cell hT4.out 1
    replace hz0 := hid hz0
    replace hb24 := hid hb24
    clear hD4 hF4 hD hb3 q0 q1 har hpl
    go_wp2_with fail
    refine hf4.out.mono ?_
    rintro e w5 (⟨kb, s1, z1, rfl, hL1, -, hD5, hK5, hF5⟩ | ⟨kb, s1, rfl, hC1, hD5, hF5⟩)
    · have hB5 := hid (hB4.out.trans (hF5.below.mono (by have := hB.out.size; exact this)))
      have hb25 := hid (hb24.out.trans hF5.below)
      have hk5 := RowAt.other hk4.out hF5.below.size (fun j hj => hF5.below.block j (hkb j hj))
      have hof := hid (koff_any hD5)
      rw [hL1.off] at hof
      have hcu := hid (kcut_any hD5 hL1.ok (.slice ka kl.length kc) kl hk5 (fun j hj => .inr (hkb j hj)))
      have hLc := hid (hL1.cut kl)
      clear hD5 hF5 hK5 hk5 hL1 hf4
      go_upto_region 16 with (first
        | (go_at_call 20; refine hof.out.mono ?_; rintro e w6 ⟨rfl, hw6⟩; rw [hw6]; clear hw6)
        | (go_at_call 21; refine hcu.out.mono ?_; rintro e w7 ⟨rfl, hD7, hF7⟩; have hb27 := hid (hb25.out.trans hF7.below); have hon := hid (kon_any hD7); clear hD7 hF7)
        | (go_at_call 22; refine hon.out.mono ?_; rintro e w8 ⟨rfl, hD8, hF8⟩; have hb28 := hid (hb27.out.trans hF8.below); have hop := hid (kopen_laid (t := ⟨x, l⟩) hD8 hLc.out rfl hLy.out hOk.out hE.out); clear hD8 hF8)
        | (go_at_call 11; refine hop.out.mono ?_; rintro e w9 ⟨hb9, k9, rfl, -, hK9⟩; have hb29 := hid (hb28.out.trans (hb9.mono hb28.out.size)); replace hK9 := hid hK9; clear hb9))
      have hst := hid (fun (X : World) (hb : Below w9.drew.heap.size w9.drew X) => show (X.cell? ⟨w.heap.size, 0, none⟩ = some (.int .u64 (x : Int)) ∧ X.cell? ⟨w.heap.size, 1, none⟩ = some (.slice (some ⟨z, o, none⟩) l.length c)) ∧ Below w.heap.size w X ∧ NodsAt X (.slice (some ⟨z, o, none⟩) l.length c) l ∧ KeepAt X d k9 ⟨x, l⟩ (!false) false from by
        have h1 : Below w2.heap.size w2 X := hb29.out.drew.trans (hb.mono hb29.out.size)
        have h2 := (h1.block _ (lt_of_block tree.out)).trans tree.out
        exact ⟨⟨block_cell h2 0, block_cell h2 1⟩, sn hB.out h1, row.out.below h1, (hK9.out.keep (Below.refl _ _).drew).keep hb⟩)
      obtain ⟨s0', b0', n0', k0'⟩ := hst.out w9.drew (Below.refl _ _)
      have hT0 := hid (ktree_at k0' hLy.out)
      have hP0 := hid (of14_any _ x l w9.drew n0' h1000)
      clear b0' n0' k0' t0 t1
      have u0 : w9.cell? ⟨w.heap.size, 0, none⟩ = some (.int .u64 (x : Int)) := s0'.1
      have u1 : w9.cell? ⟨w.heap.size, 1, none⟩ = some (.slice (some ⟨z, o, none⟩) l.length c) := s0'.2
      refine wp_region_held_drew (S := (fun X => X.cell? ⟨w.heap.size, 0, none⟩ = some (.int .u64 (x : Int)) ∧ X.cell? ⟨w.heap.size, 1, none⟩ = some (.slice (some ⟨z, o, none⟩) l.length c))) (by kernel_rfl) ?_ (fun hHeld0 => ?_)
      · try dsimp only
        (first | exact sK | exact ⟨u0, u1⟩)
      refine wpAnyH_take (i := 0) (oi := _) (v := ?_) (take_list rfl) (by kernel_rfl) (by kernel_rfl) (by kernel_rfl) (fun _ _ _ h => h) (Or.inl ⟨by rfl, ?_⟩) (by assumption) ?_
      rotate_left
      · intro w hSw; (try dsimp only at hSw); go_simp; try (with_reducible rfl)
      try simp only [Act.put, List.setIfInBounds_toArray, List.set_cons_zero, List.set_cons_succ]
      refine wpAnyH_take (i := 1) (oi := _) (v := ?_) (take_list rfl) (by kernel_rfl) (by kernel_rfl) (by kernel_rfl) (fun _ _ _ h => h) (Or.inl ⟨by rfl, ?_⟩) (by assumption) ?_
      rotate_left
      · intro w hSw; (try dsimp only at hSw); go_simp; try (with_reducible rfl)
      try simp only [Act.put, List.setIfInBounds_toArray, List.set_cons_zero, List.set_cons_succ]
      refine wpAnyH_take (i := 2) (oi := _) (v := ?_) (take_list rfl) (by kernel_rfl) (by kernel_rfl) (by kernel_rfl) (fun _ _ _ h => h) (Or.inl ⟨by rfl, ?_⟩) (by assumption) ?_
      rotate_left
      · intro w hSw; (try dsimp only at hSw); go_simp; try (with_reducible rfl)
      try simp only [Act.put, List.setIfInBounds_toArray, List.set_cons_zero, List.set_cons_succ]
      refine wpAnyH_take (i := 3) (oi := _) (v := ?_) (take_list rfl) (by kernel_rfl) (by kernel_rfl) (by kernel_rfl) (fun _ _ _ h => h) (Or.inl ⟨by rfl, ?_⟩) (by assumption) ?_
      rotate_left
      · intro w hSw; (try dsimp only at hSw); go_simp; try (with_reducible rfl)
      try simp only [Act.put, List.setIfInBounds_toArray, List.set_cons_zero, List.set_cons_succ]
      refine wpAnyH_take (i := 6) (oi := _) (v := ?_) (take_list rfl) (by kernel_rfl) (by kernel_rfl) (by kernel_rfl) (fun _ _ _ h => h) (Or.inl ⟨by rfl, ?_⟩) (by assumption) ?_
      rotate_left
      · intro w hSw; (try dsimp only at hSw); go_simp; try (with_reducible rfl)
      try simp only [Act.put, List.setIfInBounds_toArray, List.set_cons_zero, List.set_cons_succ]
      refine wpAnyH_ready (rs := [4]) (by kernel_rfl) (by simp) ?_
      refine AllReadyH.cons (take_list rfl) (fun K hK => ?_) ?_
      go_simp
      ((first
      | (go_at_call 12; (with_reducible refine hT0.out.mono ?_); rintro e x1 ⟨v1, rfl, hnx1, -, hbx1⟩; have cx1 := hbx1; obtain ⟨sK, bK, nK, kK⟩ := hst.out x1 cx1; have hO1 := hid (of14_any v1 x l x1 hnx1 h1000); have hP1 := hid (of14_any _ x l x1 nK h1000); replace hnx1 := hid hnx1; replace cx1 := hid cx1; clear bK nK kK hbx1)
      | (go_at_call 23; (with_reducible refine hO1.out.mono ?_); rintro e x2 ⟨v2, rfl, hnx2, -, hbx2⟩; have cx2 := cx1.out.trans (hbx2.mono cx1.out.size); obtain ⟨sK, bK, nK, kK⟩ := hst.out x2 cx2; have hP2 := hid (of14_any _ x l x2 nK h1000); replace hnx2 := hid hnx2; replace cx2 := hid cx2; clear bK nK kK hbx2)
      | (go_at_call 23; (with_reducible refine hP2.out.mono ?_); rintro e x3 ⟨v3, rfl, hnx3, -, hbx3⟩; have cx3 := cx2.out.trans (hbx3.mono cx2.out.size); obtain ⟨sK, bK, nK, kK⟩ := hst.out x3 cx3; have hS := hid (rsame_any v2 v3 x x l l x3 (hnx2.out.below hbx3) hnx3 h1000 h1000); have hbC := hid cx3; replace hnx3 := hid hnx3; replace cx3 := hid cx3; clear bK nK kK hbx3)
      | (go_at_call 23; (with_reducible refine hP1.out.mono ?_); rintro e y2 ⟨u2, rfl, hny2, -, hby2⟩; have cy2 := cx1.out.trans (hby2.mono cx1.out.size); obtain ⟨sK, bK, nK, kK⟩ := hst.out y2 cy2; have hO2 := hid (of14_any v1 x l y2 (hnx1.out.below hby2) h1000); replace hny2 := hid hny2; replace cy2 := hid cy2; clear bK nK kK hby2)
      | (go_at_call 23; (with_reducible refine hO2.out.mono ?_); rintro e y3 ⟨u3, rfl, hny3, -, hby3⟩; have cy3 := cy2.out.trans (hby3.mono cy2.out.size); obtain ⟨sK, bK, nK, kK⟩ := hst.out y3 cy3; have hS := hid (rsame_any u3 u2 x x l l y3 hny3 (hny2.out.below hby3) h1000 h1000); have hbC := hid cy3; replace hny3 := hid hny3; replace cy3 := hid cy3; clear bK nK kK hby3)
      | (go_at_call 23; (with_reducible refine hP0.out.mono ?_); rintro e z1 ⟨t1, rfl, hnz1, -, hbz1⟩; have cz1 := hbz1; obtain ⟨sK, bK, nK, kK⟩ := hst.out z1 cz1; have hT1 := hid (ktree_at kK hLy.out); replace hnz1 := hid hnz1; replace cz1 := hid cz1; clear bK nK kK hbz1)
      | (go_at_call 12; (with_reducible refine hT1.out.mono ?_); rintro e z2 ⟨t2, rfl, hnz2, -, hbz2⟩; have cz2 := cz1.out.trans (hbz2.mono cz1.out.size); obtain ⟨sK, bK, nK, kK⟩ := hst.out z2 cz2; have hO3 := hid (of14_any t2 x l z2 hnz2 h1000); have hn12 := hid (hnz1.out.below hbz2); replace hnz2 := hid hnz2; replace cz2 := hid cz2; clear bK nK kK hbz2)
      | (go_at_call 23; (with_reducible refine hO3.out.mono ?_); rintro e z3 ⟨t3, rfl, hnz3, -, hbz3⟩; have cz3 := cz2.out.trans (hbz3.mono cz2.out.size); obtain ⟨sK, bK, nK, kK⟩ := hst.out z3 cz3; have hS := hid (rsame_any t3 t1 x x l l z3 hnz3 (hn12.out.below hbz3) h1000 h1000); have hbC := hid cz3; replace hnz3 := hid hnz3; replace cz3 := hid cz3; clear bK nK kK hbz3)
      | (go_at_call 24; (with_reducible refine hS.out.mono ?_); rintro e xF ⟨rfl, hbF⟩; rw [eqL_iff.2 rfl]; obtain ⟨sK, bK, nK, kK⟩ := hst.out xF (hbC.out.trans (hbF.mono hbC.out.size)); have hyF := hid bK; clear bK nK kK hbF)))
      go_wp2_with fail
      refine hK.out _ _ ?_ (fun hHeld1 => ?_)
      · try dsimp only
        (first | exact sK | exact ⟨u0, u1⟩)
      clear hK K hHeld0
      try simp only [Act.put, List.setIfInBounds_toArray, List.set_cons_zero, List.set_cons_succ]
      refine wpAnyH_ready (rs := [5]) (by kernel_rfl) (by simp) ?_
      refine AllReadyH.cons (take_list rfl) (fun K hK => ?_) ?_
      go_simp
      ((first
      | (go_at_call 12; (with_reducible refine hT0.out.mono ?_); rintro e x1 ⟨v1, rfl, hnx1, -, hbx1⟩; have cx1 := hbx1; obtain ⟨sK, bK, nK, kK⟩ := hst.out x1 cx1; have hO1 := hid (of14_any v1 x l x1 hnx1 h1000); have hP1 := hid (of14_any _ x l x1 nK h1000); replace hnx1 := hid hnx1; replace cx1 := hid cx1; clear bK nK kK hbx1)
      | (go_at_call 23; (with_reducible refine hO1.out.mono ?_); rintro e x2 ⟨v2, rfl, hnx2, -, hbx2⟩; have cx2 := cx1.out.trans (hbx2.mono cx1.out.size); obtain ⟨sK, bK, nK, kK⟩ := hst.out x2 cx2; have hP2 := hid (of14_any _ x l x2 nK h1000); replace hnx2 := hid hnx2; replace cx2 := hid cx2; clear bK nK kK hbx2)
      | (go_at_call 23; (with_reducible refine hP2.out.mono ?_); rintro e x3 ⟨v3, rfl, hnx3, -, hbx3⟩; have cx3 := cx2.out.trans (hbx3.mono cx2.out.size); obtain ⟨sK, bK, nK, kK⟩ := hst.out x3 cx3; have hS := hid (rsame_any v2 v3 x x l l x3 (hnx2.out.below hbx3) hnx3 h1000 h1000); have hbC := hid cx3; replace hnx3 := hid hnx3; replace cx3 := hid cx3; clear bK nK kK hbx3)
      | (go_at_call 23; (with_reducible refine hP1.out.mono ?_); rintro e y2 ⟨u2, rfl, hny2, -, hby2⟩; have cy2 := cx1.out.trans (hby2.mono cx1.out.size); obtain ⟨sK, bK, nK, kK⟩ := hst.out y2 cy2; have hO2 := hid (of14_any v1 x l y2 (hnx1.out.below hby2) h1000); replace hny2 := hid hny2; replace cy2 := hid cy2; clear bK nK kK hby2)
      | (go_at_call 23; (with_reducible refine hO2.out.mono ?_); rintro e y3 ⟨u3, rfl, hny3, -, hby3⟩; have cy3 := cy2.out.trans (hby3.mono cy2.out.size); obtain ⟨sK, bK, nK, kK⟩ := hst.out y3 cy3; have hS := hid (rsame_any u3 u2 x x l l y3 hny3 (hny2.out.below hby3) h1000 h1000); have hbC := hid cy3; replace hny3 := hid hny3; replace cy3 := hid cy3; clear bK nK kK hby3)
      | (go_at_call 23; (with_reducible refine hP0.out.mono ?_); rintro e z1 ⟨t1, rfl, hnz1, -, hbz1⟩; have cz1 := hbz1; obtain ⟨sK, bK, nK, kK⟩ := hst.out z1 cz1; have hT1 := hid (ktree_at kK hLy.out); replace hnz1 := hid hnz1; replace cz1 := hid cz1; clear bK nK kK hbz1)
      | (go_at_call 12; (with_reducible refine hT1.out.mono ?_); rintro e z2 ⟨t2, rfl, hnz2, -, hbz2⟩; have cz2 := cz1.out.trans (hbz2.mono cz1.out.size); obtain ⟨sK, bK, nK, kK⟩ := hst.out z2 cz2; have hO3 := hid (of14_any t2 x l z2 hnz2 h1000); have hn12 := hid (hnz1.out.below hbz2); replace hnz2 := hid hnz2; replace cz2 := hid cz2; clear bK nK kK hbz2)
      | (go_at_call 23; (with_reducible refine hO3.out.mono ?_); rintro e z3 ⟨t3, rfl, hnz3, -, hbz3⟩; have cz3 := cz2.out.trans (hbz3.mono cz2.out.size); obtain ⟨sK, bK, nK, kK⟩ := hst.out z3 cz3; have hS := hid (rsame_any t3 t1 x x l l z3 hnz3 (hn12.out.below hbz3) h1000 h1000); have hbC := hid cz3; replace hnz3 := hid hnz3; replace cz3 := hid cz3; clear bK nK kK hbz3)
      | (go_at_call 24; (with_reducible refine hS.out.mono ?_); rintro e xF ⟨rfl, hbF⟩; rw [eqL_iff.2 rfl]; obtain ⟨sK, bK, nK, kK⟩ := hst.out xF (hbC.out.trans (hbF.mono hbC.out.size)); have hyF := hid bK; clear bK nK kK hbF)))
      go_wp2_with fail
      refine hK.out _ _ ?_ (fun hHeld2 => ?_)
      · try dsimp only
        (first | exact sK | exact ⟨u0, u1⟩)
      clear hK K hHeld1
      try simp only [Act.put, List.setIfInBounds_toArray, List.set_cons_zero, List.set_cons_succ]
      refine wpAnyH_ready (rs := [7]) (by kernel_rfl) (by simp) ?_
      refine AllReadyH.cons (take_list rfl) (fun K hK => ?_) ?_
      go_simp
      ((first
      | (go_at_call 12; (with_reducible refine hT0.out.mono ?_); rintro e x1 ⟨v1, rfl, hnx1, -, hbx1⟩; have cx1 := hbx1; obtain ⟨sK, bK, nK, kK⟩ := hst.out x1 cx1; have hO1 := hid (of14_any v1 x l x1 hnx1 h1000); have hP1 := hid (of14_any _ x l x1 nK h1000); replace hnx1 := hid hnx1; replace cx1 := hid cx1; clear bK nK kK hbx1)
      | (go_at_call 23; (with_reducible refine hO1.out.mono ?_); rintro e x2 ⟨v2, rfl, hnx2, -, hbx2⟩; have cx2 := cx1.out.trans (hbx2.mono cx1.out.size); obtain ⟨sK, bK, nK, kK⟩ := hst.out x2 cx2; have hP2 := hid (of14_any _ x l x2 nK h1000); replace hnx2 := hid hnx2; replace cx2 := hid cx2; clear bK nK kK hbx2)
      | (go_at_call 23; (with_reducible refine hP2.out.mono ?_); rintro e x3 ⟨v3, rfl, hnx3, -, hbx3⟩; have cx3 := cx2.out.trans (hbx3.mono cx2.out.size); obtain ⟨sK, bK, nK, kK⟩ := hst.out x3 cx3; have hS := hid (rsame_any v2 v3 x x l l x3 (hnx2.out.below hbx3) hnx3 h1000 h1000); have hbC := hid cx3; replace hnx3 := hid hnx3; replace cx3 := hid cx3; clear bK nK kK hbx3)
      | (go_at_call 23; (with_reducible refine hP1.out.mono ?_); rintro e y2 ⟨u2, rfl, hny2, -, hby2⟩; have cy2 := cx1.out.trans (hby2.mono cx1.out.size); obtain ⟨sK, bK, nK, kK⟩ := hst.out y2 cy2; have hO2 := hid (of14_any v1 x l y2 (hnx1.out.below hby2) h1000); replace hny2 := hid hny2; replace cy2 := hid cy2; clear bK nK kK hby2)
      | (go_at_call 23; (with_reducible refine hO2.out.mono ?_); rintro e y3 ⟨u3, rfl, hny3, -, hby3⟩; have cy3 := cy2.out.trans (hby3.mono cy2.out.size); obtain ⟨sK, bK, nK, kK⟩ := hst.out y3 cy3; have hS := hid (rsame_any u3 u2 x x l l y3 hny3 (hny2.out.below hby3) h1000 h1000); have hbC := hid cy3; replace hny3 := hid hny3; replace cy3 := hid cy3; clear bK nK kK hby3)
      | (go_at_call 23; (with_reducible refine hP0.out.mono ?_); rintro e z1 ⟨t1, rfl, hnz1, -, hbz1⟩; have cz1 := hbz1; obtain ⟨sK, bK, nK, kK⟩ := hst.out z1 cz1; have hT1 := hid (ktree_at kK hLy.out); replace hnz1 := hid hnz1; replace cz1 := hid cz1; clear bK nK kK hbz1)
      | (go_at_call 12; (with_reducible refine hT1.out.mono ?_); rintro e z2 ⟨t2, rfl, hnz2, -, hbz2⟩; have cz2 := cz1.out.trans (hbz2.mono cz1.out.size); obtain ⟨sK, bK, nK, kK⟩ := hst.out z2 cz2; have hO3 := hid (of14_any t2 x l z2 hnz2 h1000); have hn12 := hid (hnz1.out.below hbz2); replace hnz2 := hid hnz2; replace cz2 := hid cz2; clear bK nK kK hbz2)
      | (go_at_call 23; (with_reducible refine hO3.out.mono ?_); rintro e z3 ⟨t3, rfl, hnz3, -, hbz3⟩; have cz3 := cz2.out.trans (hbz3.mono cz2.out.size); obtain ⟨sK, bK, nK, kK⟩ := hst.out z3 cz3; have hS := hid (rsame_any t3 t1 x x l l z3 hnz3 (hn12.out.below hbz3) h1000 h1000); have hbC := hid cz3; replace hnz3 := hid hnz3; replace cz3 := hid cz3; clear bK nK kK hbz3)
      | (go_at_call 24; (with_reducible refine hS.out.mono ?_); rintro e xF ⟨rfl, hbF⟩; rw [eqL_iff.2 rfl]; obtain ⟨sK, bK, nK, kK⟩ := hst.out xF (hbC.out.trans (hbF.mono hbC.out.size)); have hyF := hid bK; clear bK nK kK hbF)))
      go_wp2_with fail
      refine hK.out _ _ ?_ (fun hHeld3 => ?_)
      · try dsimp only
        (first | exact sK | exact ⟨u0, u1⟩)
      clear hK K hHeld2
      try simp only [Act.put, List.setIfInBounds_toArray, List.set_cons_zero, List.set_cons_succ]
      refine wpAnyH_ready (rs := [8]) (by kernel_rfl) (by simp) ?_
      refine AllReadyH.cons (take_list rfl) (fun K hK => ?_) ?_
      go_simp
      ((first
      | (go_at_call 12; (with_reducible refine hT0.out.mono ?_); rintro e x1 ⟨v1, rfl, hnx1, -, hbx1⟩; have cx1 := hbx1; obtain ⟨sK, bK, nK, kK⟩ := hst.out x1 cx1; have hO1 := hid (of14_any v1 x l x1 hnx1 h1000); have hP1 := hid (of14_any _ x l x1 nK h1000); replace hnx1 := hid hnx1; replace cx1 := hid cx1; clear bK nK kK hbx1)
      | (go_at_call 23; (with_reducible refine hO1.out.mono ?_); rintro e x2 ⟨v2, rfl, hnx2, -, hbx2⟩; have cx2 := cx1.out.trans (hbx2.mono cx1.out.size); obtain ⟨sK, bK, nK, kK⟩ := hst.out x2 cx2; have hP2 := hid (of14_any _ x l x2 nK h1000); replace hnx2 := hid hnx2; replace cx2 := hid cx2; clear bK nK kK hbx2)
      | (go_at_call 23; (with_reducible refine hP2.out.mono ?_); rintro e x3 ⟨v3, rfl, hnx3, -, hbx3⟩; have cx3 := cx2.out.trans (hbx3.mono cx2.out.size); obtain ⟨sK, bK, nK, kK⟩ := hst.out x3 cx3; have hS := hid (rsame_any v2 v3 x x l l x3 (hnx2.out.below hbx3) hnx3 h1000 h1000); have hbC := hid cx3; replace hnx3 := hid hnx3; replace cx3 := hid cx3; clear bK nK kK hbx3)
      | (go_at_call 23; (with_reducible refine hP1.out.mono ?_); rintro e y2 ⟨u2, rfl, hny2, -, hby2⟩; have cy2 := cx1.out.trans (hby2.mono cx1.out.size); obtain ⟨sK, bK, nK, kK⟩ := hst.out y2 cy2; have hO2 := hid (of14_any v1 x l y2 (hnx1.out.below hby2) h1000); replace hny2 := hid hny2; replace cy2 := hid cy2; clear bK nK kK hby2)
      | (go_at_call 23; (with_reducible refine hO2.out.mono ?_); rintro e y3 ⟨u3, rfl, hny3, -, hby3⟩; have cy3 := cy2.out.trans (hby3.mono cy2.out.size); obtain ⟨sK, bK, nK, kK⟩ := hst.out y3 cy3; have hS := hid (rsame_any u3 u2 x x l l y3 hny3 (hny2.out.below hby3) h1000 h1000); have hbC := hid cy3; replace hny3 := hid hny3; replace cy3 := hid cy3; clear bK nK kK hby3)
      | (go_at_call 23; (with_reducible refine hP0.out.mono ?_); rintro e z1 ⟨t1, rfl, hnz1, -, hbz1⟩; have cz1 := hbz1; obtain ⟨sK, bK, nK, kK⟩ := hst.out z1 cz1; have hT1 := hid (ktree_at kK hLy.out); replace hnz1 := hid hnz1; replace cz1 := hid cz1; clear bK nK kK hbz1)
      | (go_at_call 12; (with_reducible refine hT1.out.mono ?_); rintro e z2 ⟨t2, rfl, hnz2, -, hbz2⟩; have cz2 := cz1.out.trans (hbz2.mono cz1.out.size); obtain ⟨sK, bK, nK, kK⟩ := hst.out z2 cz2; have hO3 := hid (of14_any t2 x l z2 hnz2 h1000); have hn12 := hid (hnz1.out.below hbz2); replace hnz2 := hid hnz2; replace cz2 := hid cz2; clear bK nK kK hbz2)
      | (go_at_call 23; (with_reducible refine hO3.out.mono ?_); rintro e z3 ⟨t3, rfl, hnz3, -, hbz3⟩; have cz3 := cz2.out.trans (hbz3.mono cz2.out.size); obtain ⟨sK, bK, nK, kK⟩ := hst.out z3 cz3; have hS := hid (rsame_any t3 t1 x x l l z3 hnz3 (hn12.out.below hbz3) h1000 h1000); have hbC := hid cz3; replace hnz3 := hid hnz3; replace cz3 := hid cz3; clear bK nK kK hbz3)
      | (go_at_call 24; (with_reducible refine hS.out.mono ?_); rintro e xF ⟨rfl, hbF⟩; rw [eqL_iff.2 rfl]; obtain ⟨sK, bK, nK, kK⟩ := hst.out xF (hbC.out.trans (hbF.mono hbC.out.size)); have hyF := hid bK; clear bK nK kK hbF)))
      go_wp2_with fail
      refine hK.out _ _ ?_ (fun hHeld4 => ?_)
      · try dsimp only
        (first | exact sK | exact ⟨u0, u1⟩)
      clear hK K hHeld3
      try simp only [Act.put, List.setIfInBounds_toArray, List.set_cons_zero, List.set_cons_succ]
      refine wpAnyH_take (i := 9) (oi := _) (v := ?_) (take_list rfl) (by kernel_rfl) (by kernel_rfl) (by kernel_rfl) (fun _ _ _ h => h) (Or.inl ⟨by rfl, ?_⟩) (by assumption) ?_
      rotate_left
      · intro w hSw; (try dsimp only at hSw); go_simp; try (with_reducible rfl)
      try simp only [Act.put, List.setIfInBounds_toArray, List.set_cons_zero, List.set_cons_succ]
      refine wpAnyH_take (i := 10) (oi := _) (v := ?_) (take_list rfl) (by kernel_rfl) (by kernel_rfl) (by kernel_rfl) (fun _ _ _ h => h) (Or.inl ⟨by rfl, ?_⟩) (by assumption) ?_
      rotate_left
      · intro w hSw; (try dsimp only at hSw); go_simp; try (with_reducible rfl)
      try simp only [Act.put, List.setIfInBounds_toArray, List.set_cons_zero, List.set_cons_succ]
      refine wpAnyH_done (by kernel_rfl) ?_ _
      rotate_left
      exact AllReadyH.nil
      exact AllReadyH.nil
      exact AllReadyH.nil
      exact AllReadyH.nil
      all_goals
        go_wp2_with fail
        go_ret
        exact ⟨by simp, hyF.out⟩
    · have hB5 := hid (hB4.out.trans (hF5.below.mono (by have := hB.out.size; exact this)))
      have hk5 := RowAt.other hk4.out hF5.below.size (fun j hj => hF5.below.block j (hkb j hj))
      have hof := hid (koff_any hD5)
      rw [hC1.off] at hof
      have hcu := hid (kcut_any hD5 hC1.ok (.slice ka kl.length kc) kl hk5 (fun j hj => .inr (hkb j hj)))
      obtain ⟨d1, d2, d3, d4, d5, d6, d7⟩ := hC1.ok.cut kl
      have hz2 : (s1.cut kl).kept[0]? = some (zerosL 256) := d6.trans (hC1.zero.trans hz0.out)
      obtain ⟨s2, hs2⟩ : ∃ s, s = s1.cut kl := ⟨_, rfl⟩
      rw [← hs2] at hcu d1 d3 hz2
      replace d1 := hid d1
      replace hz2 := hid hz2
      clear hs2 d2 d4 d5 d6 d7 hC1 hD5 hF5 hk5
      go_wp2_with (first
        | (go_at_call 20; (with_reducible refine hof.out.mono ?_); rintro e w6 ⟨rfl, hw6⟩; rw [hw6]; clear hw6)
        | (go_at_call 21; (with_reducible refine hcu.out.mono ?_); rintro e w7 ⟨rfl, hD7, hF7⟩; have hB7 := hid (hB5.out.trans (hF7.below.mono (by have := hB.out.size; exact this))); have hon := hid (kon_any hD7); clear hD7 hF7)
        | (go_at_call 22; (with_reducible refine hon.out.mono ?_); rintro e w8 ⟨rfl, hD8, hF8⟩; have hB8 := hid (hB7.out.trans (hF8.below.mono (by have := hB.out.size; exact this))); have hop := hid (kopen_none hD8 ⟨d1.out.size, d1.out.least, d1.out.most, d1.out.len, d1.out.writes, d1.out.armed, d1.out.pin, d1.out.plen⟩ d3 rfl _ hz2.out hok_zeros); clear hD8 hF8)
        | (go_at_call 11; (with_reducible refine hop.out.mono ?_); rintro e w9 ⟨hb9, rfl⟩; replace hb9 := hid (sn hB8.out hb9)))
      go_ret
      exact ⟨by simp, hb9.out⟩
end
end Go.Proofs.YtcmajcljafmphaaGreat

namespace Go.Proofs.YtcmajcljafmphaaGreat
section
open Go.ChangeShapes Go.WideShapes Go.ChangeAt Go.RowKit
set_option maxRecDepth 100000

theorem okWide_addr {w : World} {r : Reach} {base : Nat} {t e : TypeId} {ad : Addr} {len cap : Nat} (ht : Tryz.prog.underlying t = some (.slice e)) (h : Value.okWide Tryz.prog w r base t (.slice (some ad) len cap)) :
    ad.spot = none ∧ ad.block < w.heap.size ∧ len ≤ cap ∧ cap ≤ maxLen := by
  simp only [Value.okWide, ht, Cell.okWide, Cell.ok, World.has] at h
  obtain ⟨h1, h2, h3, h4, row, cells, h5, h6⟩ := h
  refine ⟨h4, ?_, h1, by unfold maxLen; have : (cap : Int) ≤ 9223372036854775807 := h2; omega⟩
  unfold World.shape? at h5
  rcases Nat.lt_or_ge ad.block w.heap.size with hl | hl
  · exact hl
  · rw [Array.getElem?_eq_none hl] at h5; cases h5

end
end Go.Proofs.YtcmajcljafmphaaGreat
