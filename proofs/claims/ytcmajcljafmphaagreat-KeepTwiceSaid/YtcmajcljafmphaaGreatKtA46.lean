/- Law 19's known. Conditions: none.
keep.Save of a tree that may not be. Conditions: in the statements. -/
import Derived.Test.YtcmajcljafmphaaGreatKtA45
import Derived.Test.YtcmajcljafmphaaGreatKtA35
import Derived.Test.YtcmajcljafmphaaGreatKtA39
import Derived.Test.YtcmajcljafmphaaGreatKtA13
namespace Go.Proofs.YtcmajcljafmphaaGreat
section
open Go.RowKit Go.Maps
set_option maxRecDepth 100000
set_option linter.unusedVariables false

theorem k19_okc (x : Nat) (hx : 2 ≤ x) : OkC ⟨x, [rootN ⟨#[117, 49]⟩ 3]⟩ := root_okc _ 3 x (by kernel_rfl) hx
theorem k19_lay (x : Nat) (hx : 2 ≤ x) (hx2 : x < 18446744073709551616) : LayOk ⟨x, [rootN ⟨#[117, 49]⟩ 3]⟩ := root_lay _ 3 x (by kernel_rfl) (by decide) (by decide) hx hx2
theorem ktree_at {w : World} {d kb : Nat} {t : Tr} {sec down : Bool} (h : KeepAt w d kb t sec down) (ht : LayOk t) : Calls Tryz.prog 12 #[.pointer (some ⟨kb, 0, none⟩)] w (SetPost w t.next t.n) := by
  obtain ⟨v, h1, h2⟩ := h
  have := ktree_any kb d t.next v sec down t.n w h1 h2 ht.len
  rw [ht.d0] at this
  exact this
theorem Fr.cells {base : Nat} {zs : List Nat} {w w' : World} {z : Nat} {o : Obj} (h : Fr base zs w w') (hz : z ∈ zs) (hc : w.heap[z]? = some o) : w'.heap[z]? = some o := (h.keep z hz).trans hc
set_option maxHeartbeats 3200000 in
theorem known19_any (w : World) : Calls Tryz.prog 7 #[] w fun e w' => e = .returned (.bool true) ∧ Below w.heap.size w w' := by
  have hfd : ∀ (y v : Value) (w : World), (Instr.field 33 (.agg #[y, v]) 0).run Tryz.prog w = .ok y w := fun _ _ _ => rfl
  have hp := hid (kplate_any w)
  have hnw := hid (fun X => new2_any ⟨#[117, 49]⟩ 3 X)
  go_enter Tryz.func7, Tryz.ntmps7
  go_wp2_with (first
    | (go_at_call 15; refine hp.out.mono ?_; rintro e w1 ⟨d, rfl, hD, hb1⟩; replace hD := hid hD; replace hb1 := hid hb1)
    | (go_at_call 10; refine (show Calls Tryz.prog 10 #[.string ⟨#[117, 49]⟩, .int .u32 3] _ _ from hnw.out _).mono ?_; rintro e w2 ⟨zt, ct, rfl, hn, hz1, hz2, hb2⟩; replace hn := hid hn; replace hb2 := hid hb2))
  obtain ⟨L, hL⟩ : ∃ L, L = [rootN ⟨#[117, 49]⟩ 3] := ⟨_, rfl⟩
  have hok : ∀ x, 2 ≤ x → OkC ⟨x, L⟩ := fun x h => by rw [hL]; exact k19_okc x h
  have hly : ∀ x, 2 ≤ x → x < 18446744073709551616 → LayOk ⟨x, L⟩ := fun x h1 h2 => by rw [hL]; exact k19_lay x h1 h2
  have hall : ∀ x, (encT x L).length ≤ 47000 := fun x => by rw [hL]; exact Nat.le_trans (root_all x _ 3 (by decide)) (by decide)
  have hlen : L.length = 1 := by rw [hL]; rfl
  rw [← hL] at hn
  replace hok := hid hok
  replace hly := hid hly
  replace hall := hid hall
  clear hL hnw hp
  -- Format
  obtain ⟨w3, hw3⟩ : ∃ W, W = w2.alloc (.cells #[.int .u64 2, .slice (some ⟨zt, 0, none⟩) 1 ct] 33) := ⟨_, rfl⟩
  have hb23 : Below w2.heap.size w2 w3 := by rw [hw3]; exact (Below.refl _ _).alloc (Nat.le_refl _) _
  have hT3 : w3.heap[w2.heap.size]? = some (.cells #[.int .u64 2, .slice (some ⟨zt, 0, none⟩) 1 ct] 33 (0, 0)) := by rw [hw3]; exact heap_alloc_new _ _
  obtain ⟨T, hT⟩ : ∃ T, T = w2.heap.size := ⟨_, rfl⟩
  rw [← hT] at hT3 ⊢
  rw [← hw3]
  have hb13 := sn hb2.out hb23
  have hT9 := lt_of_block hT3
  have hs2 := hb2.out.size
  have hs1 := hb1.out.size
  have hs3 := hb23.size
  have hD3 := hD.out.news hb13 [T, zt] (fun z hz => by simp only [List.mem_cons, List.not_mem_nil, or_false] at hz; omega)
  have hn3 := hn.out.below hb23
  have hf3 := hid (kformat_any (t := ⟨2, L⟩) hD3 (by omega) plate_ok.1 (by decide) rfl rfl _ plate_ok.2 (.slice (some ⟨zt, 0, none⟩) 1 ct) hn3 (fun j hj => by cases hj; left; simp) (hly.out 2 (by decide) (by decide)) (hok.out 2 (by decide)))
  rw [hwhich_zeros] at hf3
  refine (show Calls Tryz.prog 9 #[.pointer (some ⟨d, 0, none⟩), .agg #[.int .u64 2, .slice (some ⟨zt, 0, none⟩) 1 ct]] w3 _ from hf3.out).mono ?_
  rintro e w4 (⟨kb, s1, z, rfl, hL1, hkb3, hD4, hK4, hF4⟩ | ⟨kb, s1, rfl, hC, _⟩)
  case inr => have := hC.was; cases this
  have hT4 := hF4.cells (show T ∈ [T, zt] by simp) hT3
  have hn4 := hn3.fr (fun j hj => by cases hj; exact hF4.keep zt (by simp))
  have hb4 := hid ((hb1.out.trans (hb13.mono hs1)).trans hF4.below)
  have t0 := block_cell hT4 0
  have t1 := block_cell hT4 1
  have hD4b := hid hD4.drop
  have hkb4 := hD4.drop.zlt kb (by simp)
  have hT4z := hD4.drop.zlt T (by simp)
  have hzt4 := hD4.drop.zlt zt (by simp)
  replace hL1 := hid hL1
  replace hK4 := hid hK4
  replace hT4 := hid hT4
  replace hn4 := hid hn4
  replace hw3 := hid hw3
  clear hD4 hF4 hf3 hD3 hn3 hT3 hb13 hb23 hD hn hb2
  subst hT
  go_wp2_with fail
  obtain ⟨w6, hw6⟩ : ∃ W, W = w4.alloc (.cells #[.int .u64 9, .slice (some ⟨zt, 0, none⟩) 1 ct] 33) := ⟨_, rfl⟩
  have hb6 : Below w4.heap.size w4 w6 := by rw [hw6]; exact (Below.refl _ _).alloc (Nat.le_refl _) _
  have hU6 : w6.heap[w4.heap.size]? = some (.cells #[.int .u64 9, .slice (some ⟨zt, 0, none⟩) 1 ct] 33 (0, 0)) := by rw [hw6]; exact heap_alloc_new _ _
  rw [← hw6]
  have hs4 := hb4.out.size
  have hs6 := hb6.size
  have hD6 := hid ((hD4b.out.new hb6 (Nat.le_refl _) (lt_of_block hU6)).sub (zs' := [kb, w4.heap.size, w2.heap.size, zt]) (fun z hz => by simp only [List.mem_cons, List.mem_append, List.not_mem_nil, or_false] at hz ⊢; omega))
  have hkn : kb ∉ [w4.heap.size, w2.heap.size, zt] := fun h => by simp only [List.mem_cons, List.not_mem_nil, or_false] at h; omega
  have hn6 := hn4.out.below hb6
  have hL1' := hL1.out
  have hs9 := hid (ksave_on (t := ⟨9, L⟩) hD6.out (by omega) (by omega) hkn hL1'.ok (Nat.le_trans hL1'.writes (by decide)) hL1'.off hL1'.pend hL1'.armed (hK4.out.keep hb6) (.slice (some ⟨zt, 0, none⟩) 1 ct) hn6 (fun j hj => by cases hj; left; simp) (hly.out 9 (by decide) (by decide)) (hok.out 9 (by decide)))
  refine (show Calls Tryz.prog 17 #[.pointer (some ⟨kb, 0, none⟩), .agg #[.int .u64 9, .slice (some ⟨zt, 0, none⟩) 1 ct]] w6 _ from hs9.out).mono ?_
  rintro e w7 ⟨rfl, s2, hL2, hD7, ⟨v7, hK7, hv7⟩, hF7⟩
  have hU7 := hF7.cells (by simp) hU6
  have hT7 := hF7.cells (show w2.heap.size ∈ [w4.heap.size, w2.heap.size, zt] by simp) ((hb6.block _ hT4z).trans hT4.out)
  have hn7 := hn6.fr (fun j hj => by cases hj; exact hF7.keep zt (by simp))
  have hb7 := hid ((hb4.out.trans (hb6.mono hs4)).trans hF7.below)
  have hcu := hid (kcut_any hD7 hL2.ok (.slice none 0 0) [] RowAt.nil (fun j hj => by cases hj))
  replace hU7 := hid hU7
  replace hT7 := hid hT7
  replace hK7 := hid hK7
  replace hn7 := hid hn7
  replace hL2 := hid hL2
  replace hw6 := hid hw6
  clear hv7 hD7 hF7 hU6 hb6 hn6 hs9 hL1' t0 t1
  -- Cut
  go_wp2_with fail
  refine hcu.out.mono ?_
  rintro e w8 ⟨rfl, hD8, hF8⟩
  have hU8 := hF8.cells (by simp) hU7.out
  have hT8 := hF8.cells (show w2.heap.size ∈ [kb, w4.heap.size, w2.heap.size, zt] by simp) hT7.out
  have hK8 := hF8.cells (show kb ∈ [kb, w4.heap.size, w2.heap.size, zt] by simp) hK7.out
  have hn8 := hn7.out.fr (fun j hj => by cases hj; exact hF8.keep zt (by simp))
  have hb8 := hid (hb7.out.trans hF8.below)
  have hs9 := hid (ksave_off (t := ⟨2, L⟩) hD8 hb8.out.size (by omega) hkn rfl hK8 (.slice (some ⟨zt, 0, none⟩) 1 ct) hn8 (hly.out 2 (by decide) (by decide)) (hok.out 2 (by decide)))
  have t0 := block_cell hT8 0
  have t1 := block_cell hT8 1
  replace hU8 := hid hU8
  replace hn8 := hid hn8
  replace hT8 := hid hT8
  clear hF8 hD8 hK8 hcu hU7 hT7 hn7
  go_wp2_with fail
  refine (show Calls Tryz.prog 17 #[.pointer (some ⟨kb, 0, none⟩), .agg #[.int .u64 2, .slice (some ⟨zt, 0, none⟩) 1 ct]] w8 _ from hs9.out).mono ?_
  rintro e w9 ⟨rfl, hD9, hF9⟩
  have hU9 := hid (hF9.cells (by simp) hU8.out)
  have hn9 := hid (hn8.out.fr (fun j hj => by cases hj; exact hF9.keep zt (by simp)))
  have hb9 := hid (hb8.out.trans hF9.below)
  have hon := hid (kon_any hD9)
  clear hD9 hF9 hU8 hn8 hs9 t0 t1
  go_wp2_with fail
  refine hon.out.mono ?_
  rintro e w10 ⟨rfl, hD10, hF10⟩
  have hU10 := hid (hF10.cells (by simp) hU9.out)
  have hn10 := hid (hn9.out.fr (fun j hj => by cases hj; exact hF10.keep zt (by simp)))
  have hb10 := hid (hb9.out.trans hF10.below)
  have hop := hid (kopen_laid (t := ⟨9, L⟩) hD10 (hL2.out.cut []) rfl (hly.out 9 (by decide) (by decide)) (hok.out 9 (by decide)) (hall.out 9))
  clear hD10 hF10 hU9 hn9 hon
  go_wp2_with fail
  refine hop.out.mono ?_
  rintro e w11 ⟨hb11, kb2, rfl, -, hK11⟩
  have hU11 := (hb11.block _ (lt_of_block hU10.out)).trans hU10.out
  have hn11 := hid (hn10.out.below hb11.drew)
  have hb12 := hid ((hb10.out.trans (hb11.mono hb10.out.size)).drew)
  have hkt := hid (ktree_at (hK11.keep (Below.refl _ _).drew) (hly.out 9 (by decide) (by decide)))
  have u0 : w11.cell? ⟨w4.heap.size, 0, none⟩ = some (.int .u64 9) := block_cell hU11 0
  have u1 : w11.cell? ⟨w4.heap.size, 1, none⟩ = some (.slice (some ⟨zt, 0, none⟩) 1 ct) := block_cell hU11 1
  replace hK11 := hid hK11
  replace hU11 := hid hU11
  clear hb11 hop hn10 hU10
  have hst := hid (fun (X : World) (hb : Below w11.drew.heap.size w11.drew X) => show (X.cell? ⟨w4.heap.size, 0, none⟩ = some (.int .u64 9) ∧ X.cell? ⟨w4.heap.size, 1, none⟩ = some (.slice (some ⟨zt, 0, none⟩) 1 ct)) ∧ Below w.heap.size w X ∧ KeepAt X d kb2 ⟨9, L⟩ (!true) false ∧ NodsAt X (.slice (some ⟨zt, 0, none⟩) 1 ct) L from by
    have h1 := (hb.block _ (by exact lt_of_block hU11.out)).trans hU11.out
    exact ⟨⟨block_cell h1 0, block_cell h1 1⟩, hb12.out.trans (hb.mono hb12.out.size), (hK11.out.keep (Below.refl _ _).drew).keep hb, hn11.out.below hb⟩)
  go_upto_region 15 with fail
  refine wp_region_held_drew (S := (fun X => X.cell? ⟨w4.heap.size, 0, none⟩ = some (.int .u64 9) ∧ X.cell? ⟨w4.heap.size, 1, none⟩ = some (.slice (some ⟨zt, 0, none⟩) 1 ct))) (by kernel_rfl) ?_ (fun hHeld0 => ?_)
  · try dsimp only
    (first | exact s3 | exact s2 | exact s1 | exact ⟨u0, u1⟩)
  refine wpAnyH_take (i := 0) (oi := _) (v := ?_) (take_list rfl) (by kernel_rfl) (by kernel_rfl) (by kernel_rfl) (fun _ _ _ h => h) (Or.inl ⟨by rfl, ?_⟩) (by assumption) ?_
  rotate_left
  · intro w hSw; (try dsimp only at hSw); go_simp; try (with_reducible rfl)
  try simp only [Act.put, List.setIfInBounds_toArray, List.set_cons_zero, List.set_cons_succ]
  refine wpAnyH_take (i := 1) (oi := _) (v := ?_) (take_list rfl) (by kernel_rfl) (by kernel_rfl) (by kernel_rfl) (fun _ _ _ h => h) (Or.inl ⟨by rfl, ?_⟩) (by assumption) ?_
  rotate_left
  · intro w hSw; (try dsimp only at hSw); go_simp; try (with_reducible rfl)
  try simp only [Act.put, List.setIfInBounds_toArray, List.set_cons_zero, List.set_cons_succ]
  refine wpAnyH_take (i := 2) (oi := _) (v := ?_) (take_list rfl) (by kernel_rfl) (by kernel_rfl) (by kernel_rfl) (fun _ _ _ h => h) (Or.inl ⟨by rfl, ?_⟩) (by assumption) ?_
  rotate_left
  · intro w hSw; (try dsimp only at hSw); go_simp; try (with_reducible rfl)
  try simp only [Act.put, List.setIfInBounds_toArray, List.set_cons_zero, List.set_cons_succ]
  refine wpAnyH_take (i := 3) (oi := _) (v := ?_) (take_list rfl) (by kernel_rfl) (by kernel_rfl) (by kernel_rfl) (fun _ _ _ h => h) (Or.inl ⟨by rfl, ?_⟩) (by assumption) ?_
  rotate_left
  · intro w hSw; (try dsimp only at hSw); go_simp; try (with_reducible rfl)
  try simp only [Act.put, List.setIfInBounds_toArray, List.set_cons_zero, List.set_cons_succ]
  refine wpAnyH_take (i := 4) (oi := _) (v := ?_) (take_list rfl) (by kernel_rfl) (by kernel_rfl) (by kernel_rfl) (fun _ _ _ h => h) (Or.inl ⟨by rfl, ?_⟩) (by assumption) ?_
  rotate_left
  · intro w hSw; (try dsimp only at hSw); go_simp; try (with_reducible rfl)
  try simp only [Act.put, List.setIfInBounds_toArray, List.set_cons_zero, List.set_cons_succ]
  refine wpAnyH_take (i := 5) (oi := _) (v := ?_) (take_list rfl) (by kernel_rfl) (by kernel_rfl) (by kernel_rfl) (fun _ _ _ h => h) (Or.inl ⟨by rfl, ?_⟩) (by assumption) ?_
  rotate_left
  · intro w hSw; (try dsimp only at hSw); go_simp; try (with_reducible rfl)
  try simp only [Act.put, List.setIfInBounds_toArray, List.set_cons_zero, List.set_cons_succ]
  refine wpAnyH_take (i := 6) (oi := _) (v := ?_) (take_list rfl) (by kernel_rfl) (by kernel_rfl) (by kernel_rfl) (fun _ _ _ h => h) (Or.inl ⟨by rfl, ?_⟩) (by assumption) ?_
  rotate_left
  · intro w hSw; (try dsimp only at hSw); go_simp; try (with_reducible rfl)
  try simp only [Act.put, List.setIfInBounds_toArray, List.set_cons_zero, List.set_cons_succ]
  refine wpAnyH_take (i := 7) (oi := _) (v := ?_) (take_list rfl) (by kernel_rfl) (by kernel_rfl) (by kernel_rfl) (fun _ _ _ h => h) (Or.inl ⟨by rfl, ?_⟩) (by assumption) ?_
  rotate_left
  · intro w hSw; (try dsimp only at hSw); go_simp; try (with_reducible rfl)
  try simp only [Act.put, List.setIfInBounds_toArray, List.set_cons_zero, List.set_cons_succ]
  refine wpAnyH_take (i := 8) (oi := _) (v := ?_) (take_list rfl) (by kernel_rfl) (by kernel_rfl) (by kernel_rfl) (fun _ _ _ h => h) (Or.inl ⟨by rfl, ?_⟩) (by assumption) ?_
  rotate_left
  · intro w hSw; (try dsimp only at hSw); go_simp; try (with_reducible rfl)
  try simp only [Act.put, List.setIfInBounds_toArray, List.set_cons_zero, List.set_cons_succ]
  refine wpAnyH_take (i := 9) (oi := _) (v := ?_) (take_list rfl) (by kernel_rfl) (by kernel_rfl) (by kernel_rfl) (fun _ _ _ h => h) (Or.inl ⟨by rfl, ?_⟩) (by assumption) ?_
  rotate_left
  · intro w hSw; (try dsimp only at hSw); go_simp; try (with_reducible rfl)
  try simp only [Act.put, List.setIfInBounds_toArray, List.set_cons_zero, List.set_cons_succ]
  refine wpAnyH_take (i := 10) (oi := _) (v := ?_) (take_list rfl) (by kernel_rfl) (by kernel_rfl) (by kernel_rfl) (fun _ _ _ h => h) (Or.inl ⟨by rfl, ?_⟩) (by assumption) ?_
  rotate_left
  · intro w hSw; (try dsimp only at hSw); go_simp; try (with_reducible rfl)
  try simp only [Act.put, List.setIfInBounds_toArray, List.set_cons_zero, List.set_cons_succ]
  refine wpAnyH_take (i := 11) (oi := _) (v := ?_) (take_list rfl) (by kernel_rfl) (by kernel_rfl) (by kernel_rfl) (fun _ _ _ h => h) (Or.inl ⟨by rfl, ?_⟩) (by assumption) ?_
  rotate_left
  · intro w hSw; (try dsimp only at hSw); go_simp; try (with_reducible rfl)
  try simp only [Act.put, List.setIfInBounds_toArray, List.set_cons_zero, List.set_cons_succ]
  refine wpAnyH_take (i := 12) (oi := _) (v := ?_) (take_list rfl) (by kernel_rfl) (by kernel_rfl) (by kernel_rfl) (fun _ _ _ h => h) (Or.inl ⟨by rfl, ?_⟩) (by assumption) ?_
  rotate_left
  · intro w hSw; (try dsimp only at hSw); go_simp; try (with_reducible rfl)
  try simp only [Act.put, List.setIfInBounds_toArray, List.set_cons_zero, List.set_cons_succ]
  refine wpAnyH_take (i := 13) (oi := _) (v := ?_) (take_list rfl) (by kernel_rfl) (by kernel_rfl) (by kernel_rfl) (fun _ _ _ h => h) (Or.inl ⟨by rfl, ?_⟩) (by assumption) ?_
  rotate_left
  · intro w hSw; (try dsimp only at hSw); go_simp; try (with_reducible rfl)
  try simp only [Act.put, List.setIfInBounds_toArray, List.set_cons_zero, List.set_cons_succ]
  refine wpAnyH_ready (rs := [14]) (by kernel_rfl) (by simp) ?_
  refine AllReadyH.cons (take_list rfl) (fun K hK => ?_) ?_
  go_simp
  go_wp2_with ((first
    | (go_at_call 12; refine (show Calls Tryz.prog 12 #[.pointer (some ⟨kb2, 0, none⟩)] w11.drew _ from hkt.out).mono ?_; rintro e x1 ⟨v1, rfl, hn1, -, hx1⟩; obtain ⟨s1, hy1, hq1, hm1⟩ := hst.out x1 hx1; have hkt2 := hid (ktree_at hq1 (hly.out 9 (by decide) (by decide))); replace hx1 := hid hx1; clear hn1 hy1 hq1 hm1)
    | (go_at_call 12; refine (show Calls Tryz.prog 12 #[.pointer (some ⟨kb2, 0, none⟩)] x1 _ from hkt2.out).mono ?_; rintro e x2 ⟨v2, rfl, hn2, -, hx2⟩; have hx12 := hx1.out.trans (hx2.mono hx1.out.size); obtain ⟨s2, hy2, hq2, hm2⟩ := hst.out x2 hx12; have hsm := hid (nsame_any v2 _ 9 9 L L x2 hn2 hm2 (by omega) (by omega)); obtain ⟨a2, c2, rfl, _, _⟩ := hn2.form; rw [hlen] at hsm; replace hx12 := hid hx12; clear hn2 hy2 hq2 hm2 hx2)
    | (go_at_call 18; refine (show Calls Tryz.prog 18 #[.agg #[.int .u64 9, .slice a2 1 c2], .agg #[.int .u64 9, .slice (some ⟨zt, 0, none⟩) 1 ct]] x2 _ from hsm.out).mono ?_; rintro e x3 ⟨rfl, hx3⟩; rw [eqL_iff.2 rfl]; have hx13 := hx12.out.trans (hx3.mono hx12.out.size); obtain ⟨s3, hy3, _, _⟩ := hst.out x3 hx13; replace hy3 := hid hy3; clear hx13 hx3)))
  refine hK.out _ _ ?_ (fun hHeld1 => ?_)
  · try dsimp only
    (first | exact s3 | exact s2 | exact s1 | exact ⟨u0, u1⟩)
  clear hK K hHeld0
  try simp only [Act.put, List.setIfInBounds_toArray, List.set_cons_zero, List.set_cons_succ]
  refine wpAnyH_take (i := 15) (oi := _) (v := ?_) (take_list rfl) (by kernel_rfl) (by kernel_rfl) (by kernel_rfl) (fun _ _ _ h => h) (Or.inl ⟨by rfl, ?_⟩) (by assumption) ?_
  rotate_left
  · intro w hSw; (try dsimp only at hSw); go_simp; try (with_reducible rfl)
  try simp only [Act.put, List.setIfInBounds_toArray, List.set_cons_zero, List.set_cons_succ]
  refine wpAnyH_take (i := 16) (oi := _) (v := ?_) (take_list rfl) (by kernel_rfl) (by kernel_rfl) (by kernel_rfl) (fun _ _ _ h => h) (Or.inl ⟨by rfl, ?_⟩) (by assumption) ?_
  rotate_left
  · intro w hSw; (try dsimp only at hSw); go_simp; try (with_reducible rfl)
  try simp only [Act.put, List.setIfInBounds_toArray, List.set_cons_zero, List.set_cons_succ]
  refine wpAnyH_take (i := 17) (oi := _) (v := ?_) (take_list rfl) (by kernel_rfl) (by kernel_rfl) (by kernel_rfl) (fun _ _ _ h => h) (Or.inl ⟨by rfl, ?_⟩) (by assumption) ?_
  rotate_left
  · intro w hSw; (try dsimp only at hSw); go_simp; try (with_reducible rfl)
  try simp only [Act.put, List.setIfInBounds_toArray, List.set_cons_zero, List.set_cons_succ]
  refine wpAnyH_take (i := 18) (oi := _) (v := ?_) (take_list rfl) (by kernel_rfl) (by kernel_rfl) (by kernel_rfl) (fun _ _ _ h => h) (Or.inl ⟨by rfl, ?_⟩) (by assumption) ?_
  rotate_left
  · intro w hSw; (try dsimp only at hSw); go_simp; try (with_reducible rfl)
  try simp only [Act.put, List.setIfInBounds_toArray, List.set_cons_zero, List.set_cons_succ]
  refine wpAnyH_take (i := 19) (oi := _) (v := ?_) (take_list rfl) (by kernel_rfl) (by kernel_rfl) (by kernel_rfl) (fun _ _ _ h => h) (Or.inl ⟨by rfl, ?_⟩) (by assumption) ?_
  rotate_left
  · intro w hSw; (try dsimp only at hSw); go_simp; try (with_reducible rfl)
  try simp only [Act.put, List.setIfInBounds_toArray, List.set_cons_zero, List.set_cons_succ]
  refine wpAnyH_take (i := 21) (oi := _) (v := ?_) (take_list rfl) (by kernel_rfl) (by kernel_rfl) (by kernel_rfl) (fun _ _ _ h => h) (Or.inl ⟨by rfl, ?_⟩) (by assumption) ?_
  rotate_left
  · intro w hSw; (try dsimp only at hSw); go_simp; try (with_reducible rfl)
  try simp only [Act.put, List.setIfInBounds_toArray, List.set_cons_zero, List.set_cons_succ]
  refine wpAnyH_ready (rs := [20]) (by kernel_rfl) (by simp) ?_
  refine AllReadyH.cons (take_list rfl) (fun K hK => ?_) ?_
  go_simp
  ((first
    | (go_at_call 12; refine (show Calls Tryz.prog 12 #[.pointer (some ⟨kb2, 0, none⟩)] w11.drew _ from hkt.out).mono ?_; rintro e x1 ⟨v1, rfl, hn1, -, hx1⟩; obtain ⟨s1, hy1, hq1, hm1⟩ := hst.out x1 hx1; have hkt2 := hid (ktree_at hq1 (hly.out 9 (by decide) (by decide))); replace hx1 := hid hx1; clear hn1 hy1 hq1 hm1)
    | (go_at_call 12; refine (show Calls Tryz.prog 12 #[.pointer (some ⟨kb2, 0, none⟩)] x1 _ from hkt2.out).mono ?_; rintro e x2 ⟨v2, rfl, hn2, -, hx2⟩; have hx12 := hx1.out.trans (hx2.mono hx1.out.size); obtain ⟨s2, hy2, hq2, hm2⟩ := hst.out x2 hx12; have hsm := hid (nsame_any v2 _ 9 9 L L x2 hn2 hm2 (by omega) (by omega)); obtain ⟨a2, c2, rfl, _, _⟩ := hn2.form; rw [hlen] at hsm; replace hx12 := hid hx12; clear hn2 hy2 hq2 hm2 hx2)
    | (go_at_call 18; refine (show Calls Tryz.prog 18 #[.agg #[.int .u64 9, .slice a2 1 c2], .agg #[.int .u64 9, .slice (some ⟨zt, 0, none⟩) 1 ct]] x2 _ from hsm.out).mono ?_; rintro e x3 ⟨rfl, hx3⟩; rw [eqL_iff.2 rfl]; have hx13 := hx12.out.trans (hx3.mono hx12.out.size); obtain ⟨s3, hy3, _, _⟩ := hst.out x3 hx13; replace hy3 := hid hy3; clear hx13 hx3)))
  go_wp2_with fail
  refine hK.out _ _ ?_ (fun hHeld2 => ?_)
  · try dsimp only
    (first | exact s3 | exact s2 | exact s1 | exact ⟨u0, u1⟩)
  clear hK K hHeld1
  try simp only [Act.put, List.setIfInBounds_toArray, List.set_cons_zero, List.set_cons_succ]
  refine wpAnyH_ready (rs := [22]) (by kernel_rfl) (by simp) ?_
  refine AllReadyH.cons (take_list rfl) (fun K hK => ?_) ?_
  go_simp
  ((first
    | (go_at_call 12; refine (show Calls Tryz.prog 12 #[.pointer (some ⟨kb2, 0, none⟩)] w11.drew _ from hkt.out).mono ?_; rintro e x1 ⟨v1, rfl, hn1, -, hx1⟩; obtain ⟨s1, hy1, hq1, hm1⟩ := hst.out x1 hx1; have hkt2 := hid (ktree_at hq1 (hly.out 9 (by decide) (by decide))); replace hx1 := hid hx1; clear hn1 hy1 hq1 hm1)
    | (go_at_call 12; refine (show Calls Tryz.prog 12 #[.pointer (some ⟨kb2, 0, none⟩)] x1 _ from hkt2.out).mono ?_; rintro e x2 ⟨v2, rfl, hn2, -, hx2⟩; have hx12 := hx1.out.trans (hx2.mono hx1.out.size); obtain ⟨s2, hy2, hq2, hm2⟩ := hst.out x2 hx12; have hsm := hid (nsame_any v2 _ 9 9 L L x2 hn2 hm2 (by omega) (by omega)); obtain ⟨a2, c2, rfl, _, _⟩ := hn2.form; rw [hlen] at hsm; replace hx12 := hid hx12; clear hn2 hy2 hq2 hm2 hx2)
    | (go_at_call 18; refine (show Calls Tryz.prog 18 #[.agg #[.int .u64 9, .slice a2 1 c2], .agg #[.int .u64 9, .slice (some ⟨zt, 0, none⟩) 1 ct]] x2 _ from hsm.out).mono ?_; rintro e x3 ⟨rfl, hx3⟩; rw [eqL_iff.2 rfl]; have hx13 := hx12.out.trans (hx3.mono hx12.out.size); obtain ⟨s3, hy3, _, _⟩ := hst.out x3 hx13; replace hy3 := hid hy3; clear hx13 hx3)))
  go_wp2_with fail
  refine hK.out _ _ ?_ (fun hHeld3 => ?_)
  · try dsimp only
    (first | exact s3 | exact s2 | exact s1 | exact ⟨u0, u1⟩)
  clear hK K hHeld2
  try simp only [Act.put, List.setIfInBounds_toArray, List.set_cons_zero, List.set_cons_succ]
  refine wpAnyH_take (i := 23) (oi := _) (v := ?_) (take_list rfl) (by kernel_rfl) (by kernel_rfl) (by kernel_rfl) (fun _ _ _ h => h) (Or.inl ⟨by rfl, ?_⟩) (by assumption) ?_
  rotate_left
  · intro w hSw; (try dsimp only at hSw); go_simp; try (with_reducible rfl)
  try simp only [Act.put, List.setIfInBounds_toArray, List.set_cons_zero, List.set_cons_succ]
  refine wpAnyH_take (i := 24) (oi := _) (v := ?_) (take_list rfl) (by kernel_rfl) (by kernel_rfl) (by kernel_rfl) (fun _ _ _ h => h) (Or.inl ⟨by rfl, ?_⟩) (by assumption) ?_
  rotate_left
  · intro w hSw; (try dsimp only at hSw); go_simp; try (with_reducible rfl)
  try simp only [Act.put, List.setIfInBounds_toArray, List.set_cons_zero]
  refine wpAnyH_done (by kernel_rfl) ?_ _
  rotate_left
  exact AllReadyH.nil
  exact AllReadyH.nil
  exact AllReadyH.nil
  all_goals
    go_wp2_with fail
    go_ret
    exact ⟨by simp, hy3.out⟩
end
end Go.Proofs.YtcmajcljafmphaaGreat

namespace Go.Proofs.YtcmajcljafmphaaGreat
section
open Go.RowKit Go.Maps
set_option maxRecDepth 100000
set_option linter.unusedVariables false

set_option maxHeartbeats 1600000 in
theorem ksave_bad (kb y : Nat) (v : Value) (m : List Nod) (w : World) (hv : NodsAt w v m) (hl : m.length ≤ 900) (hok : ∀ n ∈ m, NodOk n) (hds : ∀ n ∈ m, n.data.size ≤ 1000000) (hE : chkE y m ≠ 0) :
    Calls Tryz.prog 17 #[.pointer (some ⟨kb, 0, none⟩), .agg #[.int .u64 (y : Int), v]] w fun e w' => e = .returned (.int .i64 (chkE y m)) ∧ Below w.heap.size w w' := by
  obtain ⟨va, vc, rfl, _, _⟩ := hv.form
  obtain ⟨W, hW⟩ : ∃ W, W = w.alloc (.cells #[.int .u64 (y : Int), .slice va m.length vc] 33) := ⟨_, rfl⟩
  have hb0 : Below w.heap.size w W := by rw [hW]; exact (Below.refl _ _).alloc (Nat.le_refl _) _
  have hY0 : W.heap[w.heap.size]? = some (.cells #[.int .u64 (y : Int), .slice va m.length vc] 33 (0, 0)) := by rw [hW]; exact heap_alloc_new _ _
  have c0 := block_cell hY0 0
  have c1 := block_cell hY0 1
  have hck := hid (ncheck_is (.slice va m.length vc) y m W (hv.below hb0) hl hok hds)
  obtain ⟨E, hEE⟩ : ∃ E, E = chkE y m := ⟨_, rfl⟩
  unfold NCheckIs at hck
  rw [← hEE] at hck hE ⊢
  have k1 : (E != 0) = true := by simpa using hE
  replace hb0 := hid hb0
  replace hEE := hid hEE
  clear hv hY0
  go_enter Tryz.func17, Tryz.ntmps17
  go_wp2_with (first
    | (rw [← hW]; replace hW := hid hW)
    | (go_at_call 16; refine hck.out.mono ?_; rintro e w2 ⟨rfl, hb2⟩; have hbA := hid (sn hb0.out hb2); clear hb2))
  go_ret
  exact ⟨by simp, hbA.out⟩
end
end Go.Proofs.YtcmajcljafmphaaGreat
