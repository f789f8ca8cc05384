/- A valid tree whose numbers are in their types; what is done to it keeps it so. Plain.
What is known of layer 17. No condition. -/
import Derived.Test.YtpmlhmficmillaaTr11Z
import Derived.Test.YtpmlhmficmillaaTr10Z
import Derived.Test.YtpmlhmficmillaaBunTK
namespace Go.Proofs.Ytpmlhmficmillaa
section
set_option maxRecDepth 100000
set_option linter.unusedVariables false

def Nods (l : List Nod) : Prop := ∀ n ∈ l, NodOk n
theorem Nods.set {l : List Nod} (h : Nods l) {y : Nod} (hy : NodOk y) : Nods (setL l y) := fun n hn => by
  rcases mem_setL.1 hn with e | ⟨h1, _⟩
  · rw [e]; exact hy
  · exact h n h1
theorem NodOk.touch {x : Nod} (h : NodOk x) {who : ByteArray} {now : Nat} (hw : who.size ≤ maxLen) (hn : now < 4294967296) : NodOk (touchN x who now) :=
  ⟨h.path, by show (x.vers + 1) % 4294967296 < _; omega, h.mode, h.atm, hn, h.name, h.uid, h.gid, hw, h.up, h.data⟩
theorem NodOk.gone {x : Nod} (h : NodOk x) : NodOk (goneN x) := ⟨h.path, h.vers, h.mode, h.atm, h.mtm, h.name, h.uid, h.gid, h.muid, by show 0 < _; omega, h.data⟩
structure Good (t : Tr) : Prop where
  ok : OkC t
  nod : Nods t.n
  next : t.next < 9223372036854775808
theorem Good.tr {t : Tr} (h : Good t) : TrOk t.n :=
  ⟨h.ok.sort, by have := h.ok.few; omega, h.nod, fun n hn => (h.ok.low n hn).1, fun n hn => by have := h.ok.len n hn; omega⟩
theorem valid_small {t : Tr} (h : Good t) {d : Nat} {x : Nod} (hg : getL t.n d = some x) : d < 18446744073709551616 := by
  obtain ⟨h1, h2⟩ := getL_some hg
  rw [← h2]; exact (h.nod x h1).path
theorem makeT_good {t : Tr} (h : Good t) (d : Nat) (name : ByteArray) (mode : Nat) (uid gid : ByteArray) (now : Nat) (hb : bitsB mode = true) (hu : validB uid = true) (hg : validB gid = true) (hm : mode < 4294967296) (hn : now < 4294967296) (h1 : name.size ≤ maxLen) (h2 : uid.size ≤ maxLen) (h3 : gid.size ≤ maxLen) (hx : t.next + 1 < 9223372036854775808) : Good (makeT t d name mode uid gid now).1 := by
  refine ⟨makeT_ok h.ok d name mode uid gid now hb hu hg, ?_, ?_⟩
  · unfold makeT
    cases hq : getL t.n d with
    | none => exact h.nod
    | some x =>
      have hd := valid_small h hq
      have hxo := h.nod x (getL_some hq).1
      simp only
      repeat' split
      all_goals first
        | exact h.nod
        | exact (h.nod.set (hxo.touch h2 hn)).set ⟨by show t.next < _; omega, by show 0 < _; omega, hm, hn, hn, h1, h2, h3, h2, hd, by show (0 : Nat) ≤ _; omega⟩
  · unfold makeT
    have := h.next
    cases hq : getL t.n d with
    | none => exact h.next
    | some x =>
      simp only
      repeat' split
      all_goals first | exact h.next | exact hx
theorem dataT_nods {t : Tr} (h : Good t) {x : Nod} (hx : x ∈ t.n) (b who : ByteArray) (now : Nat) (hb : b.size ≤ maxLen) (hn : now < 4294967296) (h2 : who.size ≤ maxLen) : Nods (dataT t x b who now).1.n := by
  have hxo := h.nod x hx
  unfold dataT
  split
  · exact h.nod
  · exact h.nod.set ⟨hxo.path, by show (x.vers + 1) % 4294967296 < _; omega, hxo.mode, hxo.atm, hn, hxo.name, hxo.uid, hxo.gid, h2, hxo.up, hb⟩
theorem dataT_next (t : Tr) (x : Nod) (b who : ByteArray) (now : Nat) : (dataT t x b who now).1.next = t.next := by
  unfold dataT; split <;> rfl
theorem putT_good {t : Tr} (h : Good t) (p off : Nat) (b who : ByteArray) (now : Nat) (hw : validB who = true) (hn : now < 4294967296) (h2 : who.size ≤ maxLen) : Good (putT t p off b who now).1 := by
  refine ⟨putT_ok h.ok p off b who now hw, ?_, ?_⟩
  · unfold putT
    cases hq : getL t.n p with
    | none => exact h.nod
    | some x =>
      have hx := (getL_some hq).1
      have hlen := h.ok.len x hx
      simp only
      repeat' split
      all_goals first
        | exact h.nod
        | (refine dataT_nods h hx _ who now ?_ hn h2
           rw [putD_size]
           unfold maxLen
           omega)
  · unfold putT
    cases hq : getL t.n p with
    | none => exact h.next
    | some x =>
      simp only
      repeat' split
      all_goals first | exact h.next | (rw [dataT_next]; exact h.next)
theorem cutT_good {t : Tr} (h : Good t) (p size : Nat) (who : ByteArray) (now : Nat) (hw : validB who = true) (hn : now < 4294967296) (h2 : who.size ≤ maxLen) : Good (cutT t p size who now).1 := by
  refine ⟨cutT_ok h.ok p size who now hw, ?_, ?_⟩
  · unfold cutT
    cases hq : getL t.n p with
    | none => exact h.nod
    | some x =>
      have hx := (getL_some hq).1
      simp only
      repeat' split
      all_goals first
        | exact h.nod
        | (refine dataT_nods h hx _ who now ?_ hn h2
           have : (strL (padL x.data.data.toList size)).size = size := by rw [show (strL (padL x.data.data.toList size)).size = (padL x.data.data.toList size).length from by simp [strL, ByteArray.size], padL_length]
           rw [this]
           unfold maxLen
           omega)
  · unfold cutT
    cases hq : getL t.n p with
    | none => exact h.next
    | some x =>
      simp only
      repeat' split
      all_goals first | exact h.next | (rw [dataT_next]; exact h.next)
theorem takeT_good {t : Tr} (h : Good t) (p off k now : Nat) (hn : now < 4294967296) : Good (takeT t p off k now).1 := by
  refine ⟨takeT_ok h.ok p off k now, ?_, ?_⟩
  · unfold takeT
    cases hq : getL t.n p with
    | none => exact h.nod
    | some x =>
      have hxo := h.nod x (getL_some hq).1
      simp only
      split
      · exact h.nod
      · exact h.nod.set ⟨hxo.path, hxo.vers, hxo.mode, hn, hxo.mtm, hxo.name, hxo.uid, hxo.gid, hxo.muid, hxo.up, hxo.data⟩
  · unfold takeT
    cases hq : getL t.n p with
    | none => exact h.next
    | some x => simp only; split <;> exact h.next
theorem unlinkT_good {t : Tr} (h : Good t) (p : Nat) (who : ByteArray) (now : Nat) (hw : validB who = true) (hn : now < 4294967296) (h2 : who.size ≤ maxLen) : Good (unlinkT t p who now).1 := by
  refine ⟨unlinkT_ok h.ok p who now hw, ?_, ?_⟩
  · unfold unlinkT
    cases hq : getL t.n p with
    | none => exact h.nod
    | some x =>
      have hxo := h.nod x (getL_some hq).1
      simp only
      split
      · exact h.nod
      · split
        · exact h.nod
        · split
          · exact h.nod
          · cases hu : getL t.n x.up with
            | none => exact h.nod.set hxo.gone
            | some d => exact (h.nod.set hxo.gone).set ((h.nod d (getL_some hu).1).touch h2 hn)
  · unfold unlinkT
    cases hq : getL t.n p with
    | none => exact h.next
    | some x =>
      simp only
      split
      · exact h.next
      · split
        · exact h.next
        · split
          · exact h.next
          · cases hu : getL t.n x.up <;> exact h.next
theorem reapT_good {t : Tr} (h : Good t) (p : Nat) : Good (reapT t p).1 := by
  refine ⟨reapT_ok h.ok p, ?_, ?_⟩
  · unfold reapT
    cases hq : getL t.n p with
    | none => exact h.nod
    | some x =>
      simp only
      split
      · exact fun n hn => h.nod n (List.mem_filter.1 hn).1
      · exact h.nod
  · unfold reapT
    cases hq : getL t.n p with
    | none => exact h.next
    | some x => simp only; split <;> exact h.next
theorem renameT_good {t : Tr} (h : Good t) (p : Nat) (name : ByteArray) (h1 : name.size ≤ maxLen) : Good (renameT t p name).1 := by
  refine ⟨renameT_ok h.ok p name, ?_, ?_⟩
  · unfold renameT
    cases hq : getL t.n p with
    | none => exact h.nod
    | some x =>
      have hxo := h.nod x (getL_some hq).1
      simp only
      repeat' split
      all_goals first
        | exact h.nod
        | exact h.nod.set ⟨hxo.path, hxo.vers, hxo.mode, hxo.atm, hxo.mtm, h1, hxo.uid, hxo.gid, hxo.muid, hxo.up, hxo.data⟩
  · unfold renameT
    cases hq : getL t.n p with
    | none => exact h.next
    | some x =>
      simp only
      repeat' split
      all_goals exact h.next
theorem root_sort (uid : ByteArray) (now : Nat) : SortL [rootN uid now] := List.pairwise_singleton _ _
theorem root_dir (uid : ByteArray) (now : Nat) : dirB (rootN uid now) = true := by show (!decide ((2147484157 : Nat) &&& 2147483648 = 0)) = true; decide
theorem root_bits (uid : ByteArray) (now : Nat) : bitsB (rootN uid now).mode = true := by show bitsB 2147484157 = true; decide
theorem root_byt (uid : ByteArray) (now : Nat) : bytesL [rootN uid now] = 0 := by rfl
theorem root_name (uid : ByteArray) (now : Nat) : (rootN uid now).name.size ≤ maxLen := by show (1 : Nat) ≤ maxLen; unfold maxLen; omega
theorem root_nod (uid : ByteArray) (now : Nat) (h1 : uid.size ≤ maxLen) (hn : now < 4294967296) : NodOk (rootN uid now) :=
  ⟨by show (1 : Nat) < _; omega, by show (0 : Nat) < _; omega, by show (2147484157 : Nat) < _; omega, hn, hn, root_name uid now, h1, h1, h1, by show (1 : Nat) < _; omega, Nat.zero_le _⟩
theorem root_ok (uid : ByteArray) (now : Nat) (hu : validB uid = true) : OkC ⟨2, [rootN uid now]⟩ where
  sort := root_sort uid now
  root := ⟨rootN uid now, List.mem_singleton.2 rfl, rfl, root_dir uid now, rfl, rfl, rfl⟩
  low n hn := by rw [List.mem_singleton.1 hn]; exact ⟨Nat.le_refl 1, Nat.lt_succ_self 1⟩
  bits n hn := by rw [List.mem_singleton.1 hn]; exact root_bits uid now
  empt n hn _ := by rw [List.mem_singleton.1 hn]; rfl
  nam n hn h := by rw [List.mem_singleton.1 hn] at h; exact absurd rfl h
  ids n hn := by rw [List.mem_singleton.1 hn]; exact ⟨hu, hu, hu⟩
  len n hn := by rw [List.mem_singleton.1 hn]; exact Nat.zero_le _
  gon n hn h := by rw [List.mem_singleton.1 hn] at h; cases h
  par n hn _ := ⟨rootN uid now, List.mem_singleton.2 rfl, by rw [List.mem_singleton.1 hn]; rfl, root_dir uid now, rfl⟩
  uniq a ha b hb d _ _ _ := by rw [List.mem_singleton.1 ha, List.mem_singleton.1 hb]
  few := by simp
  byt := by rw [root_byt uid now]; omega
  way n hn _ := by rw [List.mem_singleton.1 hn]; exact .root
theorem root_good (uid : ByteArray) (now : Nat) (hu : validB uid = true) (h1 : uid.size ≤ maxLen) (hn : now < 4294967296) : Good ⟨2, [rootN uid now]⟩ :=
  ⟨root_ok uid now hu, fun n h => by rw [List.mem_singleton.1 h]; exact root_nod uid now h1 hn, by simp⟩
end
end Go.Proofs.Ytpmlhmficmillaa

namespace Go.Proofs.Ytpmlhmficmillaa
section
open Go.RowKit
set_option maxRecDepth 100000
set_option linter.unusedVariables false

noncomputable def K0 : Tr := ⟨2, [rootN ⟨#[97]⟩ 0]⟩
noncomputable def K1 : Tr := (makeT K0 1 ⟨#[102]⟩ 420 ⟨#[97]⟩ ⟨#[97]⟩ 3).1
noncomputable def K2 : Tr := (putT K1 2 2 ⟨#[120, 121]⟩ ⟨#[98]⟩ 4).1
noncomputable def K3 : Tr := (takeT K2 2 0 9 5).1
noncomputable def K4 : Tr := (cutT K3 2 1 ⟨#[98]⟩ 6).1
noncomputable def K5 : Tr := (renameT K4 2 ⟨#[104]⟩).1
noncomputable def K6 : Tr := (unlinkT K5 2 ⟨#[97]⟩ 7).1
noncomputable def K7 : Tr := (reapT K6 2).1
theorem K1_is : makeT K0 1 ⟨#[102]⟩ 420 ⟨#[97]⟩ ⟨#[97]⟩ 3 = (K1, 2, 0) := by kernel_rfl
theorem K2_is : putT K1 2 2 ⟨#[120, 121]⟩ ⟨#[98]⟩ 4 = (K2, 0) := by kernel_rfl
theorem K3_is : takeT K2 2 0 9 5 = (K3, ⟨#[0, 0, 120, 121]⟩, 0) := by kernel_rfl
theorem K4_is : cutT K3 2 1 ⟨#[98]⟩ 6 = (K4, 0) := by kernel_rfl
theorem K5_is : renameT K4 2 ⟨#[104]⟩ = (K5, 0) := by kernel_rfl
theorem K6_is : unlinkT K5 2 ⟨#[97]⟩ 7 = (K6, 0) := by kernel_rfl
theorem K7_is : reapT K6 2 = (K7, true) := by kernel_rfl
theorem K7_next : K7.next = 3 := by kernel_rfl
theorem K7_len : K7.n.length = 1 := by kernel_rfl
theorem K3_got : (getL K3.n 2).isSome = true := by kernel_rfl
theorem K3_atm : (getN K3.n 2).atm = 5 := by kernel_rfl
theorem K3_vers : (getN K3.n 2).vers = 1 := by kernel_rfl
theorem vA : validB ⟨#[97]⟩ = true := by kernel_rfl
theorem vB : validB ⟨#[98]⟩ = true := by kernel_rfl
theorem sz1 (b : UInt8) : (⟨#[b]⟩ : ByteArray).size ≤ maxLen := by show (1 : Nat) ≤ maxLen; unfold maxLen; omega
theorem G0 : Good K0 := root_good _ _ vA (sz1 _) (by omega)
theorem K0_next : K0.next = 2 := rfl
theorem G1 : Good K1 := makeT_good G0 _ _ _ _ _ _ (by decide) vA vA (by omega) (by omega) (sz1 _) (sz1 _) (sz1 _) (by rw [K0_next]; omega)
theorem G2 : Good K2 := putT_good G1 _ _ _ _ _ vB (by omega) (sz1 _)
theorem G3 : Good K3 := takeT_good G2 _ _ _ _ (by omega)
theorem G4 : Good K4 := cutT_good G3 _ _ _ _ vB (by omega) (sz1 _)
theorem G5 : Good K5 := renameT_good G4 _ _ (sz1 _)
theorem G6 : Good K6 := unlinkT_good G5 _ _ _ vA (by omega) (sz1 _)
set_option maxHeartbeats 6400000 in
theorem known17_any (w : World) : Calls Try.prog 8 #[] w fun e w' => e = .returned (.bool true) ∧ Below w.heap.size w w' := by
  have hc1 := hid (new_any ⟨#[97]⟩ 0 w)
  go_enter Try.func8, Try.ntmps8
  go_upto_region 1 with fail
  go_wp2_with fail
  refine hc1.out.mono ?_
  rintro e w1 ⟨v1, rfl, hv1, hb1⟩
  obtain ⟨a1, c1, rfl, _, _⟩ := hv1.form
  change NodsAt w1 (.slice a1 K0.n.length c1) K0.n at hv1
  clear hc1
  obtain ⟨k1, hk1⟩ : ∃ k, k = w1.heap.size := ⟨_, rfl⟩
  obtain ⟨V1, hV1⟩ : ∃ V, V = w1.alloc (.cells #[.int .u64 2, .slice a1 1 c1] 25) := ⟨_, rfl⟩
  have hbV : Below w1.heap.size w1 V1 := by rw [hV1]; exact (Below.refl _ _).alloc (Nat.le_refl _) _
  have blk1 := hid (show V1.heap[k1]? = some (.cells #[.int .u64 2, .slice a1 1 c1] 25 (0, 0)) by rw [hk1, hV1]; exact heap_alloc_new _ _)
  have row1 := hid (hv1.below hbV)
  have hlo1 : w.heap.size ≤ k1 := by rw [hk1]; exact hb1.size
  have hB := hid (sn hb1 hbV)
  have q0 := block_cell blk1.out 0
  have q1 := block_cell blk1.out 1
  clear hbV hb1 hv1
  go_upto_region 2 with (rw [← hV1]; replace hV1 := hid hV1)
  try (rw [← hV1]; replace hV1 := hid hV1)
  rw [← hk1]
  replace hk1 := hid hk1
  have hc2 := hid (show _ from tmake_any _ K0.next _ 1 ⟨#[102]⟩ 420 ⟨#[97]⟩ ⟨#[97]⟩ 3 V1 (row1.out) G0.tr (sz1 _) (by have := G0.next; omega) (fun n hn => (G0.ok.low n hn).2) (by omega) (by omega))
  have hc2' := hc2.out
  rw [show (⟨K0.next, K0.n⟩ : Tr) = K0 from rfl, K1_is] at hc2'
  replace hc2 := hid hc2'
  clear hc2'
  go_wp2_with fail
  refine hc2.out.mono ?_
  rintro e w2 ⟨v2, rfl, hv2, hf2, hb2⟩
  obtain ⟨a2, c2, rfl, _, _⟩ := hv2.form
  clear hc2 q0 q1
  have hlt := lt_of_block blk1.out
  have blkn := (hb2.block _ hlt).trans blk1.out
  obtain ⟨V2, hV2⟩ : ∃ V, V = w2.setRow k1 #[.int .u64 (K1.next : Int), .slice a2 K1.n.length c2] := ⟨_, rfl⟩
  have hlo := hlo1
  replace hB := hid (show Below w.heap.size w V2 by rw [hV2]; exact below_setRow (sn hB.out hb2) hlo _)
  have row2 := hid (show NodsAt V2 _ _ by rw [hV2]; exact NodsAt.other hv2 k1 (fun e => by have := hf2 _ e; omega) (by simp) (fun k hk => setRow_other _ _ _ _ hk))
  have blk2 := hid (show V2.heap[k1]? = some (.cells #[.int .u64 (K1.next : Int), .slice a2 K1.n.length c2] 25 (0, 0)) by rw [hV2]; exact setRow_heap _ _ _ _ _ _ blkn)
  replace blkn := hid blkn
  have q0 := block_cell blk2.out 0
  have q1 := block_cell blk2.out 1
  clear hlt hlo hb2 hv2 hf2
  go_upto_region 3 with (first
    | (rw [← hV2]; replace hV2 := hid hV2)
    | (refine wpList_store_row (by rfl) 25 (.tmp 1) (.tmp 22) (by rfl) k1 #[.int .u64 (K1.next : Int), .slice a2 K1.n.length c2] (by rfl) (by rfl) 25 _ blkn.out (by kernel_rfl) (by kernel_rfl) (by kernel_rfl) ?_))
  try (rw [← hV2]; replace hV2 := hid hV2)
  clear blkn blk1 row1
  have hc3 := hid (show _ from tput_any _ K1.next _ 2 2 ⟨#[120, 121]⟩ ⟨#[98]⟩ 4 V2 (row2.out) G1.tr (by omega) (by show (2 : Nat) ≤ 1000000; omega))
  have hc3' := hc3.out
  rw [show (⟨K1.next, K1.n⟩ : Tr) = K1 from rfl, K2_is] at hc3'
  replace hc3 := hid hc3'
  clear hc3'
  go_wp2_with fail
  refine hc3.out.mono ?_
  rintro e w3 ⟨v3, rfl, hv3, hf3, hb3⟩
  obtain ⟨a3, c3, rfl, _, _⟩ := hv3.form
  clear hc3 q0 q1
  have hlt := lt_of_block blk2.out
  have blkn := (hb3.block _ hlt).trans blk2.out
  obtain ⟨V3, hV3⟩ : ∃ V, V = w3.setRow k1 #[.int .u64 (K2.next : Int), .slice a3 K2.n.length c3] := ⟨_, rfl⟩
  have hlo := hlo1
  replace hB := hid (show Below w.heap.size w V3 by rw [hV3]; exact below_setRow (sn hB.out hb3) hlo _)
  have row3 := hid (show NodsAt V3 _ _ by rw [hV3]; exact NodsAt.other hv3 k1 (fun e => by have := hf3 _ e; omega) (by simp) (fun k hk => setRow_other _ _ _ _ hk))
  have blk3 := hid (show V3.heap[k1]? = some (.cells #[.int .u64 (K2.next : Int), .slice a3 K2.n.length c3] 25 (0, 0)) by rw [hV3]; exact setRow_heap _ _ _ _ _ _ blkn)
  replace blkn := hid blkn
  have q0 := block_cell blk3.out 0
  have q1 := block_cell blk3.out 1
  clear hlt hlo hb3 hv3 hf3
  go_upto_region 4 with (first
    | (rw [← hV3]; replace hV3 := hid hV3)
    | (refine wpList_store_row (by rfl) 25 (.tmp 1) (.tmp 29) (by rfl) k1 #[.int .u64 (K2.next : Int), .slice a3 K2.n.length c3] (by rfl) (by rfl) 25 _ blkn.out (by kernel_rfl) (by kernel_rfl) (by kernel_rfl) ?_))
  try (rw [← hV3]; replace hV3 := hid hV3)
  clear blkn blk2 row2
  have hc4 := hid (show _ from ttake_any _ K2.next _ 2 0 9 5 V3 (row3.out) G2.tr (by omega) (by omega))
  have hc4' := hc4.out
  rw [show (⟨K2.next, K2.n⟩ : Tr) = K2 from rfl, K3_is] at hc4'
  replace hc4 := hid hc4'
  clear hc4'
  go_wp2_with fail
  refine hc4.out.mono ?_
  rintro e w4 ⟨v4, rfl, hv4, hf4, hb4⟩
  obtain ⟨a4, c4, rfl, _, _⟩ := hv4.form
  clear hc4 q0 q1
  obtain ⟨k4, hk4⟩ : ∃ k, k = w4.heap.size := ⟨_, rfl⟩
  obtain ⟨V4, hV4⟩ : ∃ V, V = w4.alloc (.cells #[.int .u64 (K3.next : Int), .slice a4 K3.n.length c4] 25) := ⟨_, rfl⟩
  have hbV : Below w4.heap.size w4 V4 := by rw [hV4]; exact (Below.refl _ _).alloc (Nat.le_refl _) _
  have blk4 := hid (show V4.heap[k4]? = some (.cells #[.int .u64 (K3.next : Int), .slice a4 K3.n.length c4] 25 (0, 0)) by rw [hk4, hV4]; exact heap_alloc_new _ _)
  have row4 := hid (hv4.below hbV)
  have hbx := sn hb4 hbV
  replace hB := hid (sn hB.out hbx)
  have q0 := block_cell blk4.out 0
  have q1 := block_cell blk4.out 1
  clear hbV hbx hb4 hv4 hf4
  go_upto_region 5 with (rw [← hV4]; replace hV4 := hid hV4)
  try (rw [← hV4]; replace hV4 := hid hV4)
  rw [← hk4]
  replace hk4 := hid hk4
  have hc5 := hid (show _ from tcut_any _ K3.next _ 2 1 ⟨#[98]⟩ 6 V4 (row4.out) G3.tr (by omega))
  have hc5' := hc5.out
  rw [show (⟨K3.next, K3.n⟩ : Tr) = K3 from rfl, K4_is] at hc5'
  replace hc5 := hid hc5'
  clear hc5'
  go_wp2_with fail
  refine hc5.out.mono ?_
  rintro e w5 ⟨v5, rfl, hv5, hf5, hb5⟩
  obtain ⟨a5, c5, rfl, _, _⟩ := hv5.form
  clear hc5 q0 q1
  obtain ⟨k5, hk5⟩ : ∃ k, k = w5.heap.size := ⟨_, rfl⟩
  obtain ⟨V5, hV5⟩ : ∃ V, V = w5.alloc (.cells #[.int .u64 (K4.next : Int), .slice a5 K4.n.length c5] 25) := ⟨_, rfl⟩
  have hbV : Below w5.heap.size w5 V5 := by rw [hV5]; exact (Below.refl _ _).alloc (Nat.le_refl _) _
  have blk5 := hid (show V5.heap[k5]? = some (.cells #[.int .u64 (K4.next : Int), .slice a5 K4.n.length c5] 25 (0, 0)) by rw [hk5, hV5]; exact heap_alloc_new _ _)
  have row5 := hid (hv5.below hbV)
  have hbx := sn hb5 hbV
  replace hB := hid (sn hB.out hbx)
  replace blk4 := hid ((hbx.block _ (lt_of_block blk4.out)).trans blk4.out)
  replace row4 := hid (row4.out.below hbx)
  have q0 := block_cell blk5.out 0
  have q1 := block_cell blk5.out 1
  clear hbV hbx hb5 hv5 hf5
  go_upto_region 6 with (rw [← hV5]; replace hV5 := hid hV5)
  try (rw [← hV5]; replace hV5 := hid hV5)
  rw [← hk5]
  replace hk5 := hid hk5
  have hc6 := hid (show _ from trename_any _ K4.next _ 2 ⟨#[104]⟩ V5 (row5.out) G4.tr (sz1 _))
  have hc6' := hc6.out
  rw [show (⟨K4.next, K4.n⟩ : Tr) = K4 from rfl, K5_is] at hc6'
  replace hc6 := hid hc6'
  clear hc6'
  go_wp2_with fail
  refine hc6.out.mono ?_
  rintro e w6 ⟨v6, rfl, hv6, hf6, hb6⟩
  obtain ⟨a6, c6, rfl, _, _⟩ := hv6.form
  clear hc6 q0 q1
  obtain ⟨k6, hk6⟩ : ∃ k, k = w6.heap.size := ⟨_, rfl⟩
  obtain ⟨V6, hV6⟩ : ∃ V, V = w6.alloc (.cells #[.int .u64 (K5.next : Int), .slice a6 K5.n.length c6] 25) := ⟨_, rfl⟩
  have hbV : Below w6.heap.size w6 V6 := by rw [hV6]; exact (Below.refl _ _).alloc (Nat.le_refl _) _
  have blk6 := hid (show V6.heap[k6]? = some (.cells #[.int .u64 (K5.next : Int), .slice a6 K5.n.length c6] 25 (0, 0)) by rw [hk6, hV6]; exact heap_alloc_new _ _)
  have row6 := hid (hv6.below hbV)
  have hbx := sn hb6 hbV
  replace hB := hid (sn hB.out hbx)
  replace blk4 := hid ((hbx.block _ (lt_of_block blk4.out)).trans blk4.out)
  replace row4 := hid (row4.out.below hbx)
  have q0 := block_cell blk6.out 0
  have q1 := block_cell blk6.out 1
  clear hbV hbx hb6 hv6 hf6
  go_upto_region 7 with (rw [← hV6]; replace hV6 := hid hV6)
  try (rw [← hV6]; replace hV6 := hid hV6)
  rw [← hk6]
  replace hk6 := hid hk6
  have hc7 := hid (show _ from tunlink_any _ K5.next _ 2 ⟨#[97]⟩ 7 V6 (row6.out) G5.tr (by omega))
  have hc7' := hc7.out
  rw [show (⟨K5.next, K5.n⟩ : Tr) = K5 from rfl, K6_is] at hc7'
  replace hc7 := hid hc7'
  clear hc7'
  go_wp2_with fail
  refine hc7.out.mono ?_
  rintro e w7 ⟨v7, rfl, hv7, hf7, hb7⟩
  obtain ⟨a7, c7, rfl, _, _⟩ := hv7.form
  clear hc7 q0 q1
  obtain ⟨k7, hk7⟩ : ∃ k, k = w7.heap.size := ⟨_, rfl⟩
  obtain ⟨V7, hV7⟩ : ∃ V, V = w7.alloc (.cells #[.int .u64 (K6.next : Int), .slice a7 K6.n.length c7] 25) := ⟨_, rfl⟩
  have hbV : Below w7.heap.size w7 V7 := by rw [hV7]; exact (Below.refl _ _).alloc (Nat.le_refl _) _
  have blk7 := hid (show V7.heap[k7]? = some (.cells #[.int .u64 (K6.next : Int), .slice a7 K6.n.length c7] 25 (0, 0)) by rw [hk7, hV7]; exact heap_alloc_new _ _)
  have row7 := hid (hv7.below hbV)
  have hbx := sn hb7 hbV
  replace hB := hid (sn hB.out hbx)
  replace blk4 := hid ((hbx.block _ (lt_of_block blk4.out)).trans blk4.out)
  replace row4 := hid (row4.out.below hbx)
  have q0 := block_cell blk7.out 0
  have q1 := block_cell blk7.out 1
  clear hbV hbx hb7 hv7 hf7
  go_upto_region 8 with (rw [← hV7]; replace hV7 := hid hV7)
  try (rw [← hV7]; replace hV7 := hid hV7)
  rw [← hk7]
  replace hk7 := hid hk7
  have hc8 := hid (show _ from treap_any _ K6.next _ 2 V7 (row7.out) G6.tr)
  have hc8' := hc8.out
  rw [show (⟨K6.next, K6.n⟩ : Tr) = K6 from rfl, K7_is] at hc8'
  replace hc8 := hid hc8'
  clear hc8'
  go_wp2_with fail
  refine hc8.out.mono ?_
  rintro e w8 ⟨v8, rfl, hv8, hf8, hb8⟩
  obtain ⟨a8, c8, rfl, _, _⟩ := hv8.form
  clear hc8 q0 q1
  obtain ⟨k8, hk8⟩ : ∃ k, k = w8.heap.size := ⟨_, rfl⟩
  obtain ⟨V8, hV8⟩ : ∃ V, V = w8.alloc (.cells #[.int .u64 (K7.next : Int), .slice a8 K7.n.length c8] 25) := ⟨_, rfl⟩
  have hbV : Below w8.heap.size w8 V8 := by rw [hV8]; exact (Below.refl _ _).alloc (Nat.le_refl _) _
  have blk8 := hid (show V8.heap[k8]? = some (.cells #[.int .u64 (K7.next : Int), .slice a8 K7.n.length c8] 25 (0, 0)) by rw [hk8, hV8]; exact heap_alloc_new _ _)
  have row8 := hid (hv8.below hbV)
  have hbx := sn hb8 hbV
  replace hB := hid (sn hB.out hbx)
  replace blk4 := hid ((hbx.block _ (lt_of_block blk4.out)).trans blk4.out)
  replace row4 := hid (row4.out.below hbx)
  have q0 := block_cell blk4.out 0
  have q1 := block_cell blk4.out 1
  clear hbV hbx hb8 hv8 hf8
  go_upto_region 9 with (rw [← hV8]; replace hV8 := hid hV8)
  try (rw [← hV8]; replace hV8 := hid hV8)
  rw [← hk8]
  replace hk8 := hid hk8
  have hc9 := hid (get_any _ K3.next K3.n 2 V8 row4.out G3.ok.sort (by have := G3.ok.few; omega))
  go_wp2_with fail
  refine hc9.out.mono ?_
  rintro e w9 ⟨rfl, hb9⟩
  obtain ⟨n, hn⟩ : ∃ n, n = getN K3.n 2 := ⟨_, rfl⟩
  have hn5 : n.atm = 5 := by rw [hn]; exact K3_atm
  have hn1 : n.vers = 1 := by rw [hn]; exact K3_vers
  rw [K3_got, ← hn]
  have hnew := hid (heap_alloc_new w9 (.cells zeroNod.cells 56))
  obtain ⟨X, hX⟩ : ∃ W, W = boxN w9 n := ⟨_, rfl⟩
  have hbX : Below w9.heap.size w9 X := by rw [hX]; exact boxN_below _ _
  have hxN : X.heap[w9.heap.size]? = some (.cells n.cells 56 (0, 0)) := by rw [hX]; exact boxN_heap _ _
  have hbx := sn hb9 hbX
  replace hB := hid (sn hB.out hbx)
  have blk8' := (hbx.block _ (lt_of_block blk8.out)).trans blk8.out
  rw [K7_next, K7_len] at blk8'
  have y0 := block_cell blk8' 0
  have y1 := block_cell blk8' 1
  have z3 : X.cell? ⟨w9.heap.size, 3, none⟩ = some (.int .u32 (n.atm : Int)) := block_cell hxN 3
  have z1 : X.cell? ⟨w9.heap.size, 1, none⟩ = some (.int .u32 (n.vers : Int)) := block_cell hxN 1
  rw [hn5] at z3
  rw [hn1] at z1
  unfold boxN at hX
  rw [zeroNod_cells] at hX hnew
  replace hn := hid hn
  replace hn5 := hid hn5
  replace hn1 := hid hn1
  clear hc9 q0 q1 hb9 hbX hbx blk8' hxN
  go_upto_region 10 with (first
    | (rw [← hX]; replace hX := hid hX)
    | (refine wpList_store_row (by rfl) 56 (.tmp 16) (.tmp 66) (by rfl) w9.heap.size n.cells (by rfl) (by rfl) 56 _ hnew.out (by kernel_rfl) (by kernel_rfl) (nod_one n) ?_))
  try (rw [← hX]; replace hX := hid hX)
  clear hnew
  generalize w9.heap.size = z at *
  go_wp2_with fail
  go_ret
  exact ⟨rfl, hB.out⟩
end
end Go.Proofs.Ytpmlhmficmillaa
