/- The tree of law 14's known: a root and a file. Plain.
What is known of layer 14. No condition. -/
import Derived.Test.YtpmlhmficmillaaGreatBunNTr
import Derived.Test.YtpmlhmficmillaaGreatBunDec
import Derived.Test.YtpmlhmficmillaaGreatBunTG
import Derived.Test.YtpmlhmficmillaaGreatBunNSt
import Derived.Test.YtpmlhmficmillaaGreatBunNSm
import Derived.Test.YtpmlhmficmillaaGreatBunEnc
import Derived.Test.YtpmlhmficmillaaGreatBunNWy
import Derived.Test.YtpmlhmficmillaaGreatBunSC
import Derived.Test.YtpmlhmficmillaaGreatBunNF
namespace Go.Proofs.YtpmlhmficmillaaGreat
section
open Go.RowKit
set_option maxRecDepth 100000
set_option linter.unusedVariables false

noncomputable def kR : Nod := rootN ⟨#[117, 49]⟩ 5
noncomputable def kF : Nod := ⟨2, 0, 420, 0, 0, ⟨#[97]⟩, ⟨#[117, 49]⟩, ⟨#[103, 49]⟩, ⟨#[117, 49]⟩, 1, false, ⟨#[120, 121]⟩⟩
noncomputable def kL : List Nod := [kR, kF]
theorem kvU : validB ⟨#[117, 49]⟩ = true := by kernel_rfl
theorem kvG : validB ⟨#[103, 49]⟩ = true := by kernel_rfl
theorem knA : nameN ⟨#[97]⟩ = 0 := by kernel_rfl
theorem k_set : setL [kR] kF = kL := by kernel_rfl
theorem k_below : belowN [kR] kF.path = [kR].length := by kernel_rfl
theorem k_find : findL kL 1 ⟨#[97]⟩ = some kF := by kernel_rfl
theorem k_kids : kidsOf kL 1 = [kF] := by kernel_rfl
theorem k_way : (wayL kL kL.length 2).getD [] = [⟨#[97]⟩] := by kernel_rfl
theorem k_bytes : bytesL kL = 2 := by kernel_rfl
theorem k_drop : (dropL kL 2).length = 1 := by kernel_rfl
theorem k_len : kL.length = 2 := rfl
theorem k_dirF : dirB kF = false := by kernel_rfl
theorem k_lenF : lenN kF = 2 := by kernel_rfl
theorem kmem {n : Nod} (h : n ∈ kL) : n = kR ∨ n = kF := by unfold kL at h; simpa using h
theorem kR_in : kR ∈ kL := by unfold kL; simp
theorem kF_in : kF ∈ kL := by unfold kL; simp
theorem kF_ok : NodOk kF := ⟨by show (2 : Nat) < _; omega, by show (0 : Nat) < _; omega, by show (420 : Nat) < _; omega, by show (0 : Nat) < _; omega, by show (0 : Nat) < _; omega, by show (1 : Nat) ≤ maxLen; unfold maxLen; omega, by show (2 : Nat) ≤ maxLen; unfold maxLen; omega, by show (2 : Nat) ≤ maxLen; unfold maxLen; omega, by show (2 : Nat) ≤ maxLen; unfold maxLen; omega, by show (1 : Nat) < _; omega, by show (2 : Nat) ≤ maxLen; unfold maxLen; omega⟩
theorem kR_ok : NodOk kR := root_nod _ _ (by show (2 : Nat) ≤ maxLen; unfold maxLen; omega) (by omega)
theorem k_nods : ∀ n ∈ kL, NodOk n := fun n hn => by rcases kmem hn with rfl | rfl; exact kR_ok; exact kF_ok
theorem kR_dir : dirB kR = true := root_dir _ _
theorem k_sort : SortL kL := by
  unfold kL SortL
  refine List.pairwise_cons.2 ⟨fun b hb => ?_, List.pairwise_singleton _ _⟩
  rw [List.mem_singleton.1 hb]; exact (show (1 : Nat) < 2 by omega)
theorem kR_kid (d : Nat) : kidB d kR = false := by unfold kidB; simp [kR, rootN]
theorem k_ok : OkC ⟨3, kL⟩ where
  sort := k_sort
  root := ⟨kR, kR_in, rfl, kR_dir, rfl, rfl, rfl⟩
  low n hn := by
    rcases kmem hn with rfl | rfl
    · exact ⟨Nat.le_refl 1, (show (1 : Nat) < 3 by omega)⟩
    · exact ⟨(show (1 : Nat) ≤ 2 by omega), (show (2 : Nat) < 3 by omega)⟩
  bits n hn := by
    rcases kmem hn with rfl | rfl
    · exact root_bits _ _
    · show bitsB 420 = true; decide
  empt n hn h := by
    rcases kmem hn with rfl | rfl
    · rfl
    · rw [k_dirF] at h; cases h
  nam n hn h := by
    rcases kmem hn with rfl | rfl
    · exact absurd rfl h
    · exact knA
  ids n hn := by
    rcases kmem hn with rfl | rfl
    · exact ⟨kvU, kvU, kvU⟩
    · exact ⟨kvU, kvG, kvU⟩
  len n hn := by
    rcases kmem hn with rfl | rfl
    · exact Nat.zero_le _
    · exact (show (2 : Nat) ≤ 4096 by omega)
  gon n hn h := by
    rcases kmem hn with rfl | rfl
    · cases h
    · cases h
  par n hn _ := ⟨kR, kR_in, by rcases kmem hn with rfl | rfl <;> rfl, kR_dir, rfl⟩
  uniq a ha b hb d h1 h2 _ := by
    rcases kmem ha with rfl | rfl
    · rw [kR_kid] at h1; cases h1
    · rcases kmem hb with rfl | rfl
      · rw [kR_kid] at h2; cases h2
      · rfl
  few := by rw [k_len]; omega
  byt := by rw [k_bytes]; omega
  way n hn _ := by
    rcases kmem hn with rfl | rfl
    · exact .root
    · exact .up (n := kF) ((getL_iff k_sort).2 ⟨kF_in, rfl⟩) rfl .root
theorem k_enc : ∀ n ∈ kL, (encN n).length ≤ 100000 := fun n hn => by
  rw [encN_len]
  rcases kmem hn with rfl | rfl
  · show 8 + 16 + 8 + 1 + 20 + 1 + 2 + 2 + 2 + 0 ≤ 100000; omega
  · show 8 + 16 + 8 + 1 + 20 + 1 + 2 + 2 + 2 + 2 ≤ 100000; omega
theorem k_data : ∀ n ∈ kL, n.data.size ≤ 1000000 := fun n hn => by
  rcases kmem hn with rfl | rfl
  · exact Nat.zero_le _
  · exact (show (2 : Nat) ≤ 1000000 by omega)
theorem encT_length (x : Nat) (l : List Nod) : (encT x l).length = 12 + (l.flatMap encN).length := by
  unfold encT; simp [numBytes_length]; omega
theorem k_encl : (encT 3 kL).length ≤ 47000 := by
  rw [encT_length]
  unfold kL
  simp only [List.flatMap_cons, List.flatMap_nil, List.length_append, List.length_nil, encN_len]
  show 12 + (8 + 16 + 8 + 1 + 20 + 1 + 2 + 2 + 2 + 0 + (8 + 16 + 8 + 1 + 20 + 1 + 2 + 2 + 2 + 2 + 0)) ≤ 47000
  omega
theorem k_treeP : treeP (encT 3 kL) = some ⟨3, kL⟩ := treeP_enc 3 kL (by omega) (by rw [k_len]; omega) k_nods k_enc
theorem decode_enc {w w' : World} {x : Nat} {l : List Nod} {e : Ending} (h : NDecPost w (encT x l) e w') (hp : treeP (encT x l) = some ⟨x, l⟩) (hok : OkC ⟨x, l⟩) : ∃ v, e = .returned (.tuple #[.agg #[.int .u64 (x : Int), v], .int .i64 0]) ∧ NodsAt w' v l ∧ Below w.heap.size w w' := by
  obtain ⟨t, v, E, rfl, hv, hb, h1 | h1⟩ := h
  · obtain ⟨ht, rfl⟩ := h1
    have := ht.is
    rw [hp] at this
    cases this
    exact ⟨v, rfl, hv, hb⟩
  · exact absurd ⟨hp, hok⟩ (h1.1 _)
end
end Go.Proofs.YtpmlhmficmillaaGreat

namespace Go.Proofs.YtpmlhmficmillaaGreat
section
open Go.RowKit
set_option maxRecDepth 100000
set_option linter.unusedVariables false

set_option maxHeartbeats 6400000 in
theorem known14_any (w : World) : Calls Tryz.prog 8 #[] w fun e w' => e = .returned (.bool true) ∧ Below w.heap.size w w' := by
  have hc := hid (new_any ⟨#[117, 49]⟩ 5 w)
  go_enter Tryz.func8, Tryz.ntmps8
  go_wp2_with fail
  refine hc.out.mono ?_
  rintro e w1 ⟨v1, rfl, hv1, hb1⟩
  obtain ⟨a1, c1, rfl, _, _⟩ := hv1.form
  change NodsAt w1 (.slice a1 [kR].length c1) [kR] at hv1
  clear hc
  obtain ⟨k1, hk1⟩ : ∃ k, k = w1.heap.size := ⟨_, rfl⟩
  obtain ⟨V1, hV1⟩ : ∃ V, V = w1.alloc (.cells #[.int .u64 2, .slice a1 1 c1] 25) := ⟨_, rfl⟩
  have hbV : Below w1.heap.size w1 V1 := by rw [hV1]; exact (Below.refl _ _).alloc (Nat.le_refl _) _
  have blk1 := (show V1.heap[k1]? = some (.cells #[.int .u64 2, .slice a1 1 c1] 25 (0, 0)) by rw [hk1, hV1]; exact heap_alloc_new _ _)
  have hlo1 : w.heap.size ≤ k1 := by rw [hk1]; exact hb1.size
  have hB := hid (sn hb1 hbV)
  have hne : (Value.slice a1 1 c1).ownBlock ≠ some k1 := by
    obtain ⟨b, o, ha, hr⟩ := hv1.range 0 (by show 0 < 1; omega)
    have hlt := World.block_lt_of_cell? _ _ (hr 0 _ (by rw [nod_cells]; rfl))
    rw [ha]
    intro e
    have e2 : b = k1 := by simpa [Value.ownBlock] using e
    simp at hlt
    omega
  have row1 := hv1.below hbV
  obtain ⟨X, hX⟩ : ∃ X, X = V1.setCell ⟨k1, 0, none⟩ (.int .u64 3) := ⟨_, rfl⟩
  have tree := hid (show X.heap[k1]? = some (.cells #[.int .u64 3, .slice a1 1 c1] 25 (0, 0)) by rw [hX]; exact block_set blk1 0 _)
  have row := hid (show NodsAt X (.slice a1 1 c1) [kR] by rw [hX]; exact NodsAt.other row1 k1 hne (by simp [World.setCell]) (fun k hk => block_set_other hk))
  replace hB := hid (show Below w.heap.size w X by rw [hX]; exact hB.out.setCell (p := ⟨k1, 0, none⟩) hlo1 _)
  have q0 := block_cell blk1 0
  have q0f := block_free blk1 0
  clear hbV hb1 hv1 hne row1 blk1
  have hcS := hid (nset_any (.slice a1 1 c1) 3 [kR] kF X row.out (List.pairwise_singleton _ _) (by show 1 ≤ 900; omega) (.inr k_below))
  go_upto_region 2 with (rw [← hV1]; replace hV1 := hid hV1)
  try (rw [← hV1]; replace hV1 := hid hV1)
  rw [← hk1]
  replace hk1 := hid hk1
  go_upto_region 3 with (rw [← hX]; replace hX := hid hX)
  try (rw [← hX]; replace hX := hid hX)
  clear q0 q0f
  go_wp2_with (refine wpList_load_row (by rfl) 25 (.tmp 1) (by rfl) k1 (by rfl) 25 #[.int .u64 3, .slice a1 1 c1] (0, 0) _ tree.out Tryz.underlying25 (by rfl) (by kernel_rfl) ?_)
  refine hcS.out.mono ?_
  rintro e w2 ⟨v2, rfl, hv2, hf2, hb2⟩
  rw [k_set] at hv2
  obtain ⟨a2, c2, rfl, _, _⟩ := hv2.form
  clear hcS row
  have hlt1 : k1 < X.heap.size := lt_of_block tree.out
  obtain ⟨X2, hX2⟩ : ∃ X2, X2 = w2.setRow k1 #[.int .u64 3, .slice a2 kL.length c2] := ⟨_, rfl⟩
  have blkn := hid ((hb2.block _ hlt1).trans tree.out)
  have row := hid (show NodsAt X2 (.slice a2 kL.length c2) kL by rw [hX2]; exact NodsAt.other hv2 k1 (fun e => by have := hf2 _ e; omega) (by simp [World.setRow]) (fun k hk => setRow_other _ _ _ _ hk))
  replace tree := hid (show X2.heap[k1]? = some (.cells #[.int .u64 3, .slice a2 kL.length c2] 25 (0, 0)) by rw [hX2]; exact setRow_heap _ _ _ _ _ _ blkn.out)
  replace hB := hid (show Below w.heap.size w X2 by rw [hX2]; exact below_setRow (sn hB.out hb2) hlo1 _)
  clear hv2 hf2 hb2 hlt1
  replace hlo1 := hid hlo1
  have hc := hid (show Calls _ _ _ _ (fun e w' => e = .returned (.tuple #[.agg kF.cells, .bool true]) ∧ Below X2.heap.size X2 w') from (nfind_any (.slice a2 kL.length c2) 3 kL 1 ⟨#[97]⟩ X2 row.out (by rw [k_len]; omega)).mono (by
    rintro e w' ⟨h, hb⟩
    rw [k_find] at h
    exact ⟨h, hb⟩))
  go_upto_region 4 with (first
    | (rw [← hX2]; replace hX2 := hid hX2)
    | (refine wpList_store_row (by rfl) 25 (.tmp 1) (.tmp 13) (by rfl) k1 #[.int .u64 3, .slice a2 kL.length c2] (by rfl) (by rfl) 25 _ blkn.out (by kernel_rfl) (by kernel_rfl) (by kernel_rfl) ?_))
  try (rw [← hX2]; replace hX2 := hid hX2)
  clear blkn
  go_wp2_with (refine wpList_load_row (by rfl) 25 (.tmp 1) (by rfl) k1 (by rfl) 25 #[.int .u64 3, .slice a2 kL.length c2] (0, 0) _ tree.out Tryz.underlying25 (by rfl) (by kernel_rfl) ?_)
  refine hc.out.mono ?_
  rintro e w4 ⟨rfl, hb4⟩
  clear hc
  have hnew := hid (heap_alloc_new w4 (.cells zeroNod.cells 28))
  obtain ⟨k2, hk2⟩ : ∃ k, k = w4.heap.size := ⟨_, rfl⟩
  obtain ⟨V4, hV4⟩ : ∃ V, V = boxN w4 kF := ⟨_, rfl⟩
  have hbV : Below w4.heap.size w4 V4 := by rw [hV4]; exact boxN_below _ _
  have node := hid (show V4.heap[k2]? = some (.cells kF.cells 28 (0, 0)) by rw [hV4, hk2]; exact boxN_heap _ _)
  have hbx := sn hb4 hbV
  replace tree := hid ((hbx.block _ (lt_of_block tree.out)).trans tree.out)
  replace row := hid (row.out.below hbx)
  replace hB := hid (sn hB.out hbx)
  clear hbV hbx hb4
  unfold boxN at hV4
  rw [zeroNod_cells] at hV4 hnew
  rw [← hk2] at hV4 hnew
  have hkd := hid (show Calls _ _ _ _ (fun e w' => ∃ a c, e = .returned (.slice a 1 c) ∧ NodsAt w' (.slice a 1 c) [kF] ∧ Below V4.heap.size V4 w') from (kids_any (.slice a2 kL.length c2) 3 kL 1 V4 row.out k_sort (by rw [k_len]; omega)).mono (by
    rintro e w' ⟨r, ks, rfl, h1, h2, _, hp⟩
    rw [k_kids] at hp
    have := List.perm_singleton.1 hp
    subst this
    obtain ⟨a, c, rfl, _, _⟩ := h1.form
    exact ⟨a, c, rfl, h1, h2⟩))
  go_upto_region 5 with (first
    | (rw [← hk2])
    | (rw [← hV4]; replace hV4 := hid hV4)
    | (refine wpList_store_row (by rfl) 28 (.tmp 2) (.tmp 17) (by rfl) k2 kF.cells (by rfl) (by rfl) 28 _ hnew.out (by kernel_rfl) (by kernel_rfl) (nod_one kF) ?_))
  replace hk2 := hid hk2
  clear hnew
  go_wp2_with (refine wpList_load_row (by rfl) 25 (.tmp 1) (by rfl) k1 (by rfl) 25 #[.int .u64 3, .slice a2 kL.length c2] (0, 0) _ tree.out Tryz.underlying25 (by rfl) (by kernel_rfl) ?_)
  refine hkd.out.mono ?_
  rintro e w5 ⟨a5, c5, rfl, hkids, hb5⟩
  clear hkd hkids
  replace tree := hid ((hb5.block _ (lt_of_block tree.out)).trans tree.out)
  replace node := hid ((hb5.block _ (lt_of_block node.out)).trans node.out)
  replace row := hid (row.out.below hb5)
  replace hB := hid (sn hB.out hb5)
  clear hb5
  have hc := hid (show Calls _ _ _ _ (fun e w' => ∃ b6 o6 c6, e = .returned (.slice (some ⟨b6, o6, none⟩) 1 c6) ∧ w'.cell? ⟨b6, o6, none⟩ = some (.string ⟨#[97]⟩) ∧ Below w5.heap.size w5 w') from (nwayO_any (.slice a2 kL.length c2) 3 kL 2 w5 row.out k_sort (by rw [k_len]; omega) ⟨kR, (getL_iff k_sort).2 ⟨kR_in, rfl⟩, rfl⟩).mono (by
    rintro e w' ⟨rv, rfl, h1, h2⟩
    rw [k_way] at h1
    obtain ⟨_, a, c, rfl, _, _, _, h4⟩ := h1
    obtain ⟨b6, o6, rfl, hcell⟩ := h4 0 _ rfl
    exact ⟨b6, o6, c, rfl, hcell, h2⟩))
  go_upto_region 6 with fail
  go_wp2_with (refine wpList_load_row (by rfl) 25 (.tmp 1) (by rfl) k1 (by rfl) 25 #[.int .u64 3, .slice a2 kL.length c2] (0, 0) _ tree.out Tryz.underlying25 (by rfl) (by kernel_rfl) ?_)
  refine hc.out.mono ?_
  rintro e w6 ⟨b6, o6, c6, rfl, way, hb6⟩
  clear hc
  replace tree := hid ((hb6.block _ (lt_of_block tree.out)).trans tree.out)
  replace node := hid ((hb6.block _ (lt_of_block node.out)).trans node.out)
  replace row := hid (row.out.below hb6)
  replace hB := hid (sn hB.out hb6)
  clear hb6
  replace way := hid way
  have hc := hid (nencode_any (.slice a2 kL.length c2) 3 kL w6 row.out (by rw [k_len]; omega) (by omega) k_nods k_enc)
  go_upto_region 7 with fail
  go_wp2_with (refine wpList_load_row (by rfl) 25 (.tmp 1) (by rfl) k1 (by rfl) 25 #[.int .u64 3, .slice a2 kL.length c2] (0, 0) _ tree.out Tryz.underlying25 (by rfl) (by kernel_rfl) ?_)
  refine hc.out.mono ?_
  rintro e w7 ⟨v7, rfl, hv7, hb7⟩
  clear hc
  replace tree := hid ((hb7.block _ (lt_of_block tree.out)).trans tree.out)
  replace node := hid ((hb7.block _ (lt_of_block node.out)).trans node.out)
  replace row := hid (row.out.below hb7)
  replace hB := hid (sn hB.out hb7)
  replace way := hid ((hb7.cell (p := ⟨b6, o6, none⟩) (World.block_lt_of_cell? _ _ way.out)).trans way.out)
  clear hb7
  have hc := hid (show Calls _ _ _ _ (fun e w' => ∃ a c, e = .returned (.tuple #[.agg #[.int .u64 3, .slice a kL.length c], .int .i64 0]) ∧ NodsAt w' (.slice a kL.length c) kL ∧ Below w7.heap.size w7 w') from (ndecode_any v7 (encT 3 kL) w7 hv7 k_encl).mono (by
    rintro e w' h
    obtain ⟨v, rfl, h1, h2⟩ := decode_enc h k_treeP k_ok
    obtain ⟨a, c, rfl, _, _⟩ := h1.form
    exact ⟨a, c, rfl, h1, h2⟩))
  go_wp2_with fail
  refine hc.out.mono ?_
  rintro e w8 ⟨a8, c8, rfl, row8', hb8⟩
  clear hc hv7
  obtain ⟨k6, hk6⟩ : ∃ k, k = w8.heap.size := ⟨_, rfl⟩
  obtain ⟨V8, hV8⟩ : ∃ V, V = w8.alloc (.cells #[.int .u64 3, .slice a8 kL.length c8] 25) := ⟨_, rfl⟩
  have hbV : Below w8.heap.size w8 V8 := by rw [hV8]; exact (Below.refl _ _).alloc (Nat.le_refl _) _
  have tree8 := hid (show V8.heap[k6]? = some (.cells #[.int .u64 3, .slice a8 kL.length c8] 25 (0, 0)) by rw [hk6, hV8]; exact heap_alloc_new _ _)
  have row8 := hid (row8'.below hbV)
  have hbx := sn hb8 hbV
  replace tree := hid ((hbx.block _ (lt_of_block tree.out)).trans tree.out)
  replace node := hid ((hbx.block _ (lt_of_block node.out)).trans node.out)
  replace row := hid (row.out.below hbx)
  replace hB := hid (sn hB.out hbx)
  replace way := hid ((hbx.cell (p := ⟨b6, o6, none⟩) (World.block_lt_of_cell? _ _ way.out)).trans way.out)
  clear hbV hbx hb8 row8'
  have hc := hid (nstat_any kF V8 kF_ok (by show (2 : Nat) ≤ 1000000; omega))
  rw [k_lenF] at hc
  go_upto_region 8 with (rw [← hV8]; replace hV8 := hid hV8)
  try (rw [← hV8]; replace hV8 := hid hV8)
  rw [← hk6]
  replace hk6 := hid hk6
  go_wp2_with (refine wpList_load_row (by rfl) 28 (.tmp 2) (by rfl) k2 (by rfl) 28 kF.cells (0, 0) _ node.out Tryz.underlying28 (by rfl) (by kernel_rfl) ?_)
  refine hc.out.mono ?_
  rintro e w9 ⟨rfl, hb9⟩
  clear hc
  have hnew := hid (heap_alloc_new w9 (.cells #[.int .u16 0, .int .u32 0, .int .u8 0, .int .u32 0, .int .u64 0, .int .u32 0, .int .u32 0, .int .u32 0, .int .u64 0, .string ⟨#[]⟩, .string ⟨#[]⟩, .string ⟨#[]⟩, .string ⟨#[]⟩] 61))
  obtain ⟨k8, hk8⟩ : ∃ k, k = w9.heap.size := ⟨_, rfl⟩
  obtain ⟨V9, hV9⟩ : ∃ V, V = (w9.alloc (.cells #[.int .u16 0, .int .u32 0, .int .u8 0, .int .u32 0, .int .u64 0, .int .u32 0, .int .u32 0, .int .u32 0, .int .u64 0, .string ⟨#[]⟩, .string ⟨#[]⟩, .string ⟨#[]⟩, .string ⟨#[]⟩] 61)).setRow k8 (statC kF 2) := ⟨_, rfl⟩
  rw [← hk8] at hnew
  have hbV : Below w9.heap.size w9 V9 := by rw [hV9, hk8]; exact below_setRow ((Below.refl _ _).alloc (Nat.le_refl _) _) (Nat.le_refl _) _
  have stat := hid (show V9.heap[k8]? = some (.cells (statC kF 2) 61 (0, 0)) by rw [hV9]; exact setRow_heap _ _ _ _ _ _ hnew.out)
  have hbx := sn hb9 hbV
  replace tree := hid ((hbx.block _ (lt_of_block tree.out)).trans tree.out)
  replace node := hid ((hbx.block _ (lt_of_block node.out)).trans node.out)
  replace tree8 := hid ((hbx.block _ (lt_of_block tree8.out)).trans tree8.out)
  replace row := hid (row.out.below hbx)
  replace row8 := hid (row8.out.below hbx)
  replace hB := hid (sn hB.out hbx)
  replace way := hid ((hbx.cell (p := ⟨b6, o6, none⟩) (World.block_lt_of_cell? _ _ way.out)).trans way.out)
  clear hbV hbx hb9
  go_upto_region 9 with (first
    | (rw [← hk8])
    | (rw [← hV9]; replace hV9 := hid hV9)
    | (refine wpList_store_row (by rfl) 61 (.tmp 8) (.tmp 30) (by rfl) k8 (statC kF 2) (by rfl) (by rfl) 61 _ hnew.out (by kernel_rfl) (by kernel_rfl) (statC_one kF 2) ?_))
  clear hnew
  replace hk8 := hid hk8
  have hc := hid (show Calls _ _ _ _ (fun e w' => e = .returned (.int .i64 0) ∧ Below V9.heap.size V9 w') from (ncheck_any (.slice a2 kL.length c2) 3 kL V9 row.out (by rw [k_len]; omega) k_nods k_data).mono (by
    rintro e w' ⟨E, rfl, hE, hb⟩
    rw [hE.2 k_ok]
    exact ⟨rfl, hb⟩))
  have z0 : V9.cell? ⟨k2, 0, none⟩ = some (.int .u64 2) := block_cell node.out 0
  go_wp2_with (refine wpList_load_row (by rfl) 25 (.tmp 1) (by rfl) k1 (by rfl) 25 #[.int .u64 3, .slice a2 kL.length c2] (0, 0) _ tree.out Tryz.underlying25 (by rfl) (by kernel_rfl) ?_)
  refine hc.out.mono ?_
  rintro e w10 ⟨rfl, hb10⟩
  clear hc z0
  replace tree := hid ((hb10.block _ (lt_of_block tree.out)).trans tree.out)
  replace node := hid ((hb10.block _ (lt_of_block node.out)).trans node.out)
  replace tree8 := hid ((hb10.block _ (lt_of_block tree8.out)).trans tree8.out)
  replace stat := hid ((hb10.block _ (lt_of_block stat.out)).trans stat.out)
  replace row := hid (row.out.below hb10)
  replace row8 := hid (row8.out.below hb10)
  replace hB := hid (sn hB.out hb10)
  replace way := hid ((hb10.cell (p := ⟨b6, o6, none⟩) (World.block_lt_of_cell? _ _ way.out)).trans way.out)
  clear hb10
  have z0 : w10.cell? ⟨k2, 0, none⟩ = some (.int .u64 2) := block_cell node.out 0
  have way' := way.out
  have hc := hid (nbytes_any (.slice a2 kL.length c2) 3 kL w10 row.out (by rw [k_len]; omega) k_data)
  rw [k_bytes] at hc
  have t0 : w10.cell? ⟨k1, 0, none⟩ = some (.int .u64 3) := block_cell tree.out 0
  have t1 : w10.cell? ⟨k1, 1, none⟩ = some (.slice a2 kL.length c2) := block_cell tree.out 1
  go_wp2_with fail
  refine hc.out.mono ?_
  rintro e w11 ⟨rfl, hb11⟩
  clear hc z0 way' t0 t1
  replace tree := hid ((hb11.block _ (lt_of_block tree.out)).trans tree.out)
  replace node := hid ((hb11.block _ (lt_of_block node.out)).trans node.out)
  replace tree8 := hid ((hb11.block _ (lt_of_block tree8.out)).trans tree8.out)
  replace stat := hid ((hb11.block _ (lt_of_block stat.out)).trans stat.out)
  replace row := hid (row.out.below hb11)
  replace row8 := hid (row8.out.below hb11)
  replace hB := hid (sn hB.out hb11)
  replace way := hid ((hb11.cell (p := ⟨b6, o6, none⟩) (World.block_lt_of_cell? _ _ way.out)).trans way.out)
  clear hb11
  have t0 : w11.cell? ⟨k1, 0, none⟩ = some (.int .u64 3) := block_cell tree.out 0
  have t1 : w11.cell? ⟨k1, 1, none⟩ = some (.slice a2 kL.length c2) := block_cell tree.out 1
  have y0 : w11.cell? ⟨k6, 0, none⟩ = some (.int .u64 3) := block_cell tree8.out 0
  have y1 : w11.cell? ⟨k6, 1, none⟩ = some (.slice a8 kL.length c8) := block_cell tree8.out 1
  have hc := hid (show Calls _ _ _ _ (fun e w' => e = .returned (.bool true) ∧ Below w11.heap.size w11 w') from (nsame_any (.slice a8 kL.length c8) (.slice a2 kL.length c2) 3 3 kL kL w11 row8.out row.out (by rw [k_len]; omega) (by rw [k_len]; omega)).mono (by
    rintro e w' ⟨h, hb⟩
    rw [eqL_iff.2 rfl] at h
    exact ⟨h, hb⟩))
  go_wp2_with fail
  refine hc.out.mono ?_
  rintro e w12 ⟨rfl, hb12⟩
  clear hc t0 t1 y0 y1
  replace tree := hid ((hb12.block _ (lt_of_block tree.out)).trans tree.out)
  replace node := hid ((hb12.block _ (lt_of_block node.out)).trans node.out)
  replace tree8 := hid ((hb12.block _ (lt_of_block tree8.out)).trans tree8.out)
  replace stat := hid ((hb12.block _ (lt_of_block stat.out)).trans stat.out)
  replace row := hid (row.out.below hb12)
  replace row8 := hid (row8.out.below hb12)
  replace hB := hid (sn hB.out hb12)
  replace way := hid ((hb12.cell (p := ⟨b6, o6, none⟩) (World.block_lt_of_cell? _ _ way.out)).trans way.out)
  clear hb12
  have s8 : w12.cell? ⟨k8, 8, none⟩ = some (.int .u64 2) := block_cell stat.out 8
  have p0 : w12.cell? ⟨k2, 0, none⟩ = some (.int .u64 2) := block_cell node.out 0
  have p1 : w12.cell? ⟨k2, 1, none⟩ = some (.int .u32 0) := block_cell node.out 1
  have p2 : w12.cell? ⟨k2, 2, none⟩ = some (.int .u32 420) := block_cell node.out 2
  have p3 : w12.cell? ⟨k2, 3, none⟩ = some (.int .u32 0) := block_cell node.out 3
  have p4 : w12.cell? ⟨k2, 4, none⟩ = some (.int .u32 0) := block_cell node.out 4
  have p5 : w12.cell? ⟨k2, 5, none⟩ = some (.string ⟨#[97]⟩) := block_cell node.out 5
  have p6 : w12.cell? ⟨k2, 6, none⟩ = some (.string ⟨#[117, 49]⟩) := block_cell node.out 6
  have p7 : w12.cell? ⟨k2, 7, none⟩ = some (.string ⟨#[103, 49]⟩) := block_cell node.out 7
  have p8 : w12.cell? ⟨k2, 8, none⟩ = some (.string ⟨#[117, 49]⟩) := block_cell node.out 8
  have p9 : w12.cell? ⟨k2, 9, none⟩ = some (.int .u64 1) := block_cell node.out 9
  have p10 : w12.cell? ⟨k2, 10, none⟩ = some (.bool false) := block_cell node.out 10
  have p11 : w12.cell? ⟨k2, 11, none⟩ = some (.string ⟨#[120, 121]⟩) := block_cell node.out 11
  have hc := hid (nqid_any kF w12 kF_ok)
  go_wp2_with fail
  refine hc.out.mono ?_
  rintro e w13 ⟨rfl, hb13⟩
  clear hc s8 p0 p1 p2 p3 p4 p5 p6 p7 p8 p9 p10 p11
  replace tree := hid ((hb13.block _ (lt_of_block tree.out)).trans tree.out)
  replace node := hid ((hb13.block _ (lt_of_block node.out)).trans node.out)
  replace tree8 := hid ((hb13.block _ (lt_of_block tree8.out)).trans tree8.out)
  replace stat := hid ((hb13.block _ (lt_of_block stat.out)).trans stat.out)
  replace row := hid (row.out.below hb13)
  replace row8 := hid (row8.out.below hb13)
  replace hB := hid (sn hB.out hb13)
  replace way := hid ((hb13.cell (p := ⟨b6, o6, none⟩) (World.block_lt_of_cell? _ _ way.out)).trans way.out)
  clear hb13
  have t0 : w13.cell? ⟨k1, 0, none⟩ = some (.int .u64 3) := block_cell tree.out 0
  have t1 : w13.cell? ⟨k1, 1, none⟩ = some (.slice a2 kL.length c2) := block_cell tree.out 1
  have hc := hid (ndrop_any (.slice a2 kL.length c2) 3 kL 2 w13 row.out (by rw [k_len]; omega))
  have hfq : ∀ W, (Instr.field 59 (.agg #[.int .u8 (typeN 420 : Int), .int .u32 0, .int .u64 2]) 2).run Tryz.prog W = .ok (.int .u64 2) W := fun W => by kernel_rfl
  have hft : ∀ (v : Value) W, (Instr.field 25 (.agg #[.int .u64 3, v]) 1).run Tryz.prog W = .ok v W := fun v W => by kernel_rfl
  have hq : qidC kF = #[.int .u8 (typeN 420 : Int), .int .u32 0, .int .u64 2] := rfl
  go_wp2_with fail
  refine hc.out.mono ?_
  rintro e w14 ⟨v14, rfl, hv14, _, hb14⟩
  obtain ⟨a14, c14, rfl, _, _⟩ := hv14.form
  replace hB := hid (sn hB.out hb14)
  have kd := k_drop
  clear hc t0 t1 hb14 hv14
  go_wp2_with fail
  go_ret
  exact ⟨rfl, hB.out⟩
end
end Go.Proofs.YtpmlhmficmillaaGreat
