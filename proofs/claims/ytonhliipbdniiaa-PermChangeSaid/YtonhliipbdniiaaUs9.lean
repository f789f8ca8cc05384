/- What Few, Of and Table of layer 15 do. Conditions: groups that fit into a slice; for Table: what the document allows. -/
import Derived.Test.YtonhliipbdniiaaUs8
import Derived.Deep.AppendLies
namespace Go.Proofs.Ytonhliipbdniiaa
open Go.RowKit
set_option maxRecDepth 100000
set_option linter.unusedVariables false

/-- It says true or false, true only where p holds, and changes nothing. -/
def BoolPost (w : World) (p : Prop) (e : Ending) (w' : World) : Prop := (∃ r, e = .returned (.bool r) ∧ (r = true → p)) ∧ w' = w
def FewL (l : List ByteArray) : Prop := l.length ≤ 40 ∧ ∀ s ∈ l, s.size ≤ 100
theorem few15_any (v : Value) (l : List ByteArray) (w : World) (hv : TxtsAt w v l) :
    Calls Try.prog 36 #[v] w (BoolPost w (FewL l)) := by
  obtain ⟨a, c, rfl, g1, g2⟩ := hv.form
  unfold maxLen at g2
  replace hv := hid hv
  by_cases hl : 40 < l.length
  · go_enter Try.func36, Try.ntmps36
    go_wp2_with fail
    go_ret
    exact ⟨⟨false, rfl, fun h => by cases h⟩, rfl⟩
  have kl : decide ((40 : Int) < (l.length : Int)) = false := by simp; omega
  replace hl := hid hl
  go_enter Try.func36, Try.ntmps36
  go_wp2_with fail
  go_loopw [3] (fun kv wr => ∃ k : Nat, k ≤ l.length ∧ kv = .int .i64 (k : Int) ∧ wr = w ∧ Hid (∀ j (h : j < l.length), j < k → l[j].size ≤ 100)) (fun kv _ => l.length - (intOf kv).toNat)
  case atStart => exact ⟨0, by omega, rfl, rfl, hid (fun j _ h => by omega)⟩
  case round =>
    obtain ⟨k, hk, rfl, rfl, hall⟩ := hrel
    by_cases hkl : k < l.length
    · obtain ⟨b1, o1, ha1, hc1⟩ := TxtsAt.cell hv.out k hkl
      subst ha1
      have hnext : l[k].size ≤ 100 → Hid (∀ j (h : j < l.length), j < k + 1 → l[j].size ≤ 100) := fun q => hid (fun j h h2 => by
        by_cases hjk : j < k
        · exact hall.out j h hjk
        · obtain rfl : j = k := by omega
          exact q)
      replace hnext := hid hnext
      generalize hs1 : l[k] = s1 at *
      replace hs1 := hid hs1
      by_cases hsz : 100 < s1.size
      · go_wp2_with fail
        go_ret
        exact ⟨⟨false, rfl, fun h => by cases h⟩, rfl⟩
      · have hn := hnext.out (by omega)
        have ks : decide ((100 : Int) < (s1.size : Int)) = false := by simp; omega
        go_wp2_with fail
        go_roundw
        case rel => exact ⟨k + 1, by omega, by go_num, by first | rfl | trivial, hn⟩
        case measure => simp [intOf]; omega
    · obtain rfl : k = l.length := by omega
      go_wp2_with fail
      go_ret
      exact ⟨⟨true, rfl, fun _ => ⟨by have := hl.out; omega, fun s hs => by obtain ⟨j, hj, rfl⟩ := List.getElem_of_mem hs; exact hall.out j hj hj⟩⟩, rfl⟩

def GFew (g : Grp) : Prop := g.name.size ≤ 100 ∧ FewL g.mem
set_option maxHeartbeats 1600000 in
theorem fewU_any (uv gv : Value) (us : List ByteArray) (gs : List Grp) (w : World) (h2 : TxtsAt w uv us) (h3 : GrpsAt w gv gs) :
    Calls Try.prog 11 #[uv, gv] w (BoolPost w (FewU us gs)) := by
  have hfu := hid (few15_any uv us w h2)
  obtain ⟨ag, cg, rfl, gg1, gg2⟩ := h3.form
  unfold maxLen at gg2
  replace h2 := hid h2
  replace h3 := hid h3
  go_enter Try.func11, Try.ntmps11
  go_wp2_with fail
  refine hfu.out.mono ?_
  rintro e w1 ⟨⟨r, rfl, hr⟩, rfl⟩
  cases r with
  | false =>
    go_wp2_with fail
    go_ret
    exact ⟨⟨false, rfl, fun h => by cases h⟩, rfl⟩
  | true =>
  have hr2 := hid (hr rfl)
  clear hr hfu
  by_cases hl : 40 < gs.length
  · go_wp2_with fail
    go_ret
    exact ⟨⟨false, rfl, fun h => by cases h⟩, rfl⟩
  have kl : decide ((40 : Int) < (gs.length : Int)) = false := by simp; omega
  replace hl := hid hl
  go_wp2_with fail
  go_loopw [5] (fun kv wr => ∃ k : Nat, k ≤ gs.length ∧ kv = .int .i64 (k : Int) ∧ wr = w1 ∧ Hid (∀ j (h : j < gs.length), j < k → GFew gs[j])) (fun kv _ => gs.length - (intOf kv).toNat)
  case atStart => exact ⟨0, by omega, rfl, rfl, hid (fun j _ h => by omega)⟩
  case round =>
    obtain ⟨k, hk, rfl, rfl, hall⟩ := hrel
    by_cases hkl : k < gs.length
    · obtain ⟨b1, o1, ha1, hc1, hc2, hm⟩ := GrpsAt.cell h3.out k hkl
      subst ha1
      have hnext : GFew gs[k] → Hid (∀ j (h : j < gs.length), j < k + 1 → GFew gs[j]) := fun q => hid (fun j h h2 => by
        by_cases hjk : j < k
        · exact hall.out j h hjk
        · obtain rfl : j = k := by omega
          exact q)
      replace hnext := hid hnext
      have hfm := hid (few15_any gs[k].mv gs[k].mem wr hm)
      clear hm
      generalize hs1 : gs[k] = s1 at *
      replace hs1 := hid hs1
      by_cases hsz : 100 < s1.name.size
      · go_wp2_with fail
        go_ret
        exact ⟨⟨false, rfl, fun h => by cases h⟩, rfl⟩
      · have ks : decide ((100 : Int) < (s1.name.size : Int)) = false := by simp; omega
        go_wp2_with fail
        refine hfm.out.mono ?_
        rintro e w2 ⟨⟨r, rfl, hr⟩, rfl⟩
        cases r with
        | false =>
          clear hr
          go_wp2_with fail
          go_ret
          exact ⟨⟨false, rfl, fun h => by cases h⟩, rfl⟩
        | true =>
        have hn := hnext.out ⟨by omega, hr rfl⟩
        clear hr
        go_wp2_with fail
        go_roundw
        case rel => exact ⟨k + 1, by omega, by go_num, by first | rfl | trivial, hn⟩
        case measure => simp [intOf]; omega
    · obtain rfl : k = gs.length := by omega
      go_wp2_with fail
      go_ret
      have hg : ∀ g ∈ gs, GFew g := fun g hg => by obtain ⟨j, hj, rfl⟩ := List.getElem_of_mem hg; exact hall.out j hj hj
      exact ⟨⟨true, rfl, fun _ => ⟨hr2.out.1, hr2.out.2, by have := hl.out; omega, fun g h => (hg g h).1, fun g h => (hg g h).2.1, fun g h => (hg g h).2.2⟩⟩, rfl⟩

theorem infoRGrp : (Try.prog.info? 61).map (fun i => (i.zero, i.size, i.bytes)) = some (some (.agg #[.string ⟨#[]⟩, .slice none 0 0]), 2, 40) := by kernel_rfl
theorem elemRGrp : ElemOk Try.prog 29 61 2 40 := elemOk_of Try.underlying29 infoRGrp rfl (by decide)

theorem flat_succ {gs : List Grp} {k : Nat} (h : k < gs.length) : (gs.take (k + 1)).flatMap Grp.cells = (gs.take k).flatMap Grp.cells ++ [.string gs[k].name, gs[k].mv] := by
  rw [List.take_succ_eq_append_getElem h, List.flatMap_append]
  simp [Grp.cells]

def TabPost (w : World) (us : List ByteArray) (gs : List Grp) (e : Ending) (w' : World) : Prop :=
  ∃ p gs', e = .returned (.pointer (some ⟨p, 0, none⟩)) ∧ TabAt w' p us gs' ∧ SameG gs gs' ∧ Below w.heap.size w w'

set_option maxHeartbeats 3200000 in
theorem table_any (uv gv : Value) (us : List ByteArray) (gs : List Grp) (w : World) (h2 : TxtsAt w uv us) (h3 : GrpsAt w gv gs) (hok : UOk us gs) (hlm : ∀ g ∈ gs, g.mem.length ≤ 1000) :
    Calls Try.prog 14 #[.agg #[uv, gv]] w (TabPost w us gs) := by
  obtain ⟨W, hW⟩ : ∃ W, W = w.alloc (.cells #[uv, gv] 31) := ⟨_, rfl⟩
  have hb0 : Below w.heap.size w W := by rw [hW]; exact (Below.refl w.heap.size w).alloc (Nat.le_refl _) _
  have hx : W.heap[w.heap.size]? = some (.cells #[uv, gv] 31 (0, 0)) := by rw [hW, heap_alloc_new]
  obtain ⟨au, cu, rfl, gu1, gu2⟩ := h2.form
  obtain ⟨ag, cg, rfl, gg1, gg2⟩ := h3.form
  unfold maxLen at gu2 gg2
  have hzW : w.heap.size < W.heap.size := lt_of_block hx
  have hng := hok.ng
  have h2' := hid (h2.below hb0)
  have h3' := hid (h3.below hb0)
  replace hb0 := hid hb0
  replace hx := hid hx
  replace hok := hid hok
  replace hlm := hid hlm
  clear h2 h3
  go_enter Try.func14, Try.ntmps14
  go_wp2_with (rw [← hW]; replace hW := hid hW)
  try (rw [← hW]; replace hW := hid hW)
  go_loopw [4, 3] (fun kv gvk wr => ∃ k : Nat, k ≤ gs.length ∧ kv = .int .i64 (k : Int) ∧ Hid (wr.ownsRow W.heap.size 78 2 gvk k ((gs.take k).flatMap Grp.cells)) ∧ Hid (Below W.heap.size W wr)) (fun kv _ _ => gs.length - (intOf kv).toNat)
  case atStart => exact ⟨0, by omega, rfl, hid (World.ownsRow_nil _ _ _ _), hid (Below.refl _ _)⟩
  case round =>
    obtain ⟨k, hk1, rfl, hown, hB⟩ := hrel
    have hBw := hid (hb0.out.trans (hB.out.mono (Nat.le_of_lt hzW)))
    have hxr := (hB.out.block _ hzW).trans hx.out
    have d1 : wr.cell? ⟨w.heap.size, 1, none⟩ = some (.slice ag gs.length cg) := block_cell hxr 1
    by_cases hkl : k < gs.length
    · obtain ⟨b1, o1, ha1, hc1, hc2, hm⟩ := GrpsAt.cell (h3'.out.below hB.out) k hkl
      subst ha1
      obtain ⟨am, cm, hmv, gm1, gm2⟩ := hm.form
      have hfl := hid (flat_succ hkl)
      clear hm
      obtain ⟨g, hg1⟩ : ∃ g, g = gs[k] := ⟨_, rfl⟩
      rw [← hg1] at hc1 hc2 hmv gm1 hfl
      replace hg1 := hid hg1
      obtain ⟨nm, mv, mem⟩ := g
      simp only at hc1 hc2 hmv gm1 hfl
      subst hmv
      have i1 : (0 : Int) ≤ (k : Int) := by omega
      have i2 : (k : Int) < (gs.length : Int) := by omega
      have hD := (Below.refl wr.heap.size wr).drew
      have hA := (Below.refl wr.drew.heap.size wr.drew).alloc (Nat.le_refl _) (.cells #[.string nm, .slice am mem.length cm] 78)
      have hownA := hid (own_keep hown.out (fun j hj => (hA.block j (hown.out.lt j hj).2).trans (hD.block j (hown.out.lt j hj).2)))
      have hsrc : Hid (RowAt (wr.drew.alloc (.cells #[.string nm, .slice am mem.length cm] 78)) 2 (.slice (some ⟨wr.drew.heap.size, 0, none⟩) 1 1) 1 [.string nm, .slice am mem.length cm]) := hid (RowAt.of_block (n := 1) (heap_alloc_new _ _) rfl (by unfold maxLen; omega))
      have hsz : W.heap.size ≤ wr.heap.size := hB.out.size
      have hBA := hid (hB.out.drew.trans (hA.mono hB.out.size))
      have hvl := hid hown.out.lt
      obtain ⟨ak, ck, rfl⟩ := own_form hown.out
      have s1 : wr.drew.cell? ⟨w.heap.size, 1, none⟩ = some (.slice (some ⟨b1, o1, none⟩) gs.length cg) := d1
      have s2 : wr.drew.cell? ⟨b1, o1 + k * 2, none⟩ = some (.string nm) := hc1
      have s3 : wr.drew.cell? ⟨b1, o1 + k * 2 + 1, none⟩ = some (.slice am mem.length cm) := hc2
      replace hA := hid hA
      replace hD := hid hD
      replace hxr := hid hxr
      go_wp2_with fail
      go_region_law ((refine step_append_row elemGrp _ rfl (.tmp 14) (.tmp 28) rfl W.heap.size (.slice ak k ck) k _ rfl hownA.out _ 1 [.string nm, .slice am mem.length cm] rfl hsrc.out (by intro u hu; simp at hu; rcases hu with rfl | rfl <;> rfl) (by unfold maxLen; omega) (by omega) (by simp; omega) ?_; intro a' c' w' h2 h3; have hown2 := hid h2; have hB2 := hid (hBA.out.grown h3 (by simp; omega) (fun j hj => by have := (hvl.out j hj).1; omega)); clear h2 h3))
      all_goals
        clear s1 s2 s3 hown hownA hvl hA hD hsrc hBA d1 hc1 hc2 i1 i2
        go_wp2_with fail
        go_roundw
        case rel => exact ⟨k + 1, by omega, by go_num, hid (by rw [hfl.out]; exact hown2.out), hB2⟩
        case measure => simp [intOf]; omega
    · obtain rfl : k = gs.length := by omega
      rw [List.take_length] at hown
      have hnew := hid (unew_any (.slice au us.length cu) u3 us gs wr (h2'.out.below hB.out) ⟨(RowAt.of_own hown.out).weak, fun g hg => (h3'.out.2 g hg).below hB.out⟩ hok.out hlm.out)
      have d0 : wr.cell? ⟨w.heap.size, 0, none⟩ = some (.slice au us.length cu) := block_cell hxr 0
      replace hxr := hid hxr
      clear hown
      go_wp2_with fail
      refine hnew.out.mono ?_
      rintro e w9 ⟨p, gs', rfl, hT, hS, hb9⟩
      have hB9 := hid (sn hBw.out hb9)
      replace hT := hid hT
      replace hS := hid hS
      clear hb9 hnew
      go_wp2_with fail
      go_ret
      exact ⟨p, gs', rfl, hT.out, hS.out, hB9.out⟩
end Go.Proofs.Ytonhliipbdniiaa
