/- Whether a user is in a group, in the program's table and in the reference's. No further condition. -/
import Derived.Test.YtonhliipbdniiaaUs2
namespace Go.Proofs.Ytonhliipbdniiaa
open Go.RowKit
set_option maxRecDepth 100000
set_option linter.unusedVariables false

structure UB (us : List ByteArray) (gs : List Grp) : Prop where
  users : us.length < 4611686018427387904
  groups : gs.length < 4611686018427387904
  mems : ∀ g ∈ gs, g.mem.length < 4611686018427387904
/-- The table at a block. -/
def TabAt (w : World) (p : Nat) (us : List ByteArray) (gs : List Grp) : Prop :=
  ∃ uv gv, w.heap[p]? = some (.cells #[uv, gv] 114 (0, 0)) ∧ TxtsAt w uv us ∧ GrpsAt w gv gs
theorem TabAt.lt {w : World} {p : Nat} {us : List ByteArray} {gs : List Grp} (h : TabAt w p us gs) : p < w.heap.size := by
  obtain ⟨_, _, h, _⟩ := h
  exact lt_of_block h
theorem TabAt.below {w w' : World} {p : Nat} {us : List ByteArray} {gs : List Grp} (h : TabAt w p us gs) (hb : Below w.heap.size w w') : TabAt w' p us gs := by
  obtain ⟨uv, gv, h1, h2, h3⟩ := h
  exact ⟨uv, gv, (hb.block p (lt_of_block h1)).trans h1, h2.below hb, h3.below hb⟩

theorem has_any (p : Nat) (us : List ByteArray) (gs : List Grp) (s : ByteArray) (w : World) (h : TabAt w p us gs) (hl : us.length < 4611686018427387904) :
    Calls Try.prog 66 #[.pointer (some ⟨p, 0, none⟩), .string s] w fun e w' => e = .returned (.bool (hasS us s)) ∧ w' = w := by
  obtain ⟨uv, gv, h1, h2, h3⟩ := h
  have hc := hid (scontains_any uv us s w h2 hl)
  have c1 := block_cell h1 0
  replace h1 := hid h1
  clear h2 h3
  go_enter Try.func66, Try.ntmps66
  go_wp2_with fail
  refine hc.out.mono ?_
  rintro e w1 ⟨rfl, rfl⟩
  go_wp2_with fail
  go_ret
  exact ⟨rfl, rfl⟩

/-- Is a user in a group? -/
def inB (us : List ByteArray) (gs : List Grp) (who grp : ByteArray) : Bool := hasS us who && (decide (who = grp) || gs.any (memB grp who))

set_option maxHeartbeats 800000 in
theorem in_any (p : Nat) (us : List ByteArray) (gs : List Grp) (who grp : ByteArray) (w : World) (h : TabAt w p us gs) (hl : UB us gs) :
    Calls Try.prog 40 #[.pointer (some ⟨p, 0, none⟩), .string who, .string grp] w fun e w' => e = .returned (.bool (inB us gs who grp)) ∧ Below w.heap.size w w' := by
  obtain ⟨W, hW⟩ : ∃ W, W = (w.alloc (.cells #[.string who] 9)).alloc (.cells #[.string grp] 9) := ⟨_, rfl⟩
  have hb0 : Below w.heap.size w W := by rw [hW]; exact ((Below.refl w.heap.size w).alloc (Nat.le_refl _) _).alloc (by simp) _
  have hz : W.heap.size = w.heap.size + 2 := by rw [hW]; simp
  have hw1 : BoxS W w.heap.size who := by
    rw [hW]
    have := heap_alloc_new w (.cells #[.string who] 9)
    exact (((Below.refl _ _).alloc (Nat.le_refl _) _).block _ (by simp)).trans this
  have hw2 : BoxS W (w.heap.size + 1) grp := by
    rw [hW]
    have := heap_alloc_new (w.alloc (.cells #[.string who] 9)) (.cells #[.string grp] 9)
    simpa [BoxS] using this
  have hT := h.below hb0
  have hhas := hid (has_any p us gs who W hT hl.users)
  have hmf : ∀ (fn : Fn) (first cap : Array Value) (w : World), (Instr.makeFunc fn first cap).run Try.prog w = .ok (.func fn first cap) w := fun _ _ _ _ => rfl
  obtain ⟨uv, gv, h1, h2, h3⟩ := hT
  have hcf := hid (cfunc_any gv gs 68 #[.pointer (some ⟨w.heap.size + 1, 0, none⟩), .pointer (some ⟨w.heap.size, 0, none⟩)] (memB grp who) W h3 hl.groups
    (fun g hg w' hw => in1_any g (w.heap.size + 1) w.heap.size grp who w' (RowW.below (h3.2 g hg) hw) (hl.mems g hg) ((hw.block _ (by omega)).trans hw2) ((hw.block _ (by omega)).trans hw1)) enter_in1)
  have d1 : W.cell? ⟨w.heap.size, 0, none⟩ = some (.string who) := block_cell hw1 0
  have d2 : W.cell? ⟨w.heap.size + 1, 0, none⟩ = some (.string grp) := block_cell hw2 0
  have d3 : W.cell? ⟨p, 1, none⟩ = some gv := block_cell h1 1
  replace h1 := hid h1
  replace hb0 := hid hb0
  replace hw1 := hid hw1
  replace hw2 := hid hw2
  replace hz := hid hz
  unfold inB
  clear h h2 h3 hl
  cases hu : hasS us who with
  | false =>
    rw [hu] at hhas
    go_enter Try.func40, Try.ntmps40
    go_wp2_with (rw [← hW]; replace hW := hid hW)
    refine hhas.out.mono ?_
    rintro e w1 ⟨rfl, rfl⟩
    go_wp2_with fail
    go_ret
    exact ⟨rfl, hb0.out⟩
  | true =>
  rw [hu] at hhas
  replace hu := hid hu
  by_cases hg : who = grp
  · have hq : (who.toList == grp.toList) = true := by rw [hg]; simp
    have hr : Hid (decide (who = grp) = true) := hid (decide_eq_true hg)
    clear hg
    go_enter Try.func40, Try.ntmps40
    go_wp2_with (rw [← hW]; replace hW := hid hW)
    refine hhas.out.mono ?_
    rintro e w1 ⟨rfl, rfl⟩
    go_wp2_with fail
    go_ret
    exact ⟨ret_bool (by rw [hr.out]; rfl), hb0.out⟩
  · have hq : (who.toList == grp.toList) = false := by rw [str_beq]; exact decide_eq_false hg
    have hr : Hid (decide (who = grp) = false) := hid (decide_eq_false hg)
    clear hg
    go_enter Try.func40, Try.ntmps40
    go_wp2_with (rw [← hW]; replace hW := hid hW)
    refine hhas.out.mono ?_
    rintro e w1 ⟨rfl, rfl⟩
    go_wp2_with fail
    refine hcf.out.mono ?_
    rintro e w1 ⟨rfl, hb1⟩
    have hB := hid (sn hb0.out hb1)
    clear hb1
    go_wp2_with fail
    go_ret
    exact ⟨ret_bool (by rw [hr.out]; rfl), hB.out⟩

theorem mems_false {gs : List Grp} {p : Grp → Bool} (h : ∀ j (h : j < gs.length), j < gs.length → p gs[j] = false) : gs.any p = false := by
  rw [List.any_eq_false]
  intro g hg
  obtain ⟨j, hj, rfl⟩ := List.getElem_of_mem hg
  rw [h j hj hj]; decide
theorem mems_true {gs : List Grp} {p : Grp → Bool} {k : Nat} (hk : k < gs.length) (h : p gs[k] = true) : gs.any p = true :=
  List.any_eq_true.2 ⟨_, List.getElem_mem hk, h⟩

set_option maxHeartbeats 1600000 in
theorem rin_any (uv gv : Value) (us : List ByteArray) (gs : List Grp) (who grp : ByteArray) (w : World) (h2 : TxtsAt w uv us) (h3 : GrpsAt w gv gs) (hl : UB us gs) :
    Calls Try.prog 41 #[.agg #[uv, gv], .string who, .string grp] w fun e w' => e = .returned (.bool (inB us gs who grp)) ∧ Below w.heap.size w w' := by
  obtain ⟨W, hW⟩ : ∃ W, W = w.alloc (.cells #[uv, gv] 31) := ⟨_, rfl⟩
  have hb0 : Below w.heap.size w W := by rw [hW]; exact (Below.refl w.heap.size w).alloc (Nat.le_refl _) _
  have hx : W.heap[w.heap.size]? = some (.cells #[uv, gv] 31 (0, 0)) := by rw [hW, heap_alloc_new]
  have ham := hid (among_any uv us who W (h2.below hb0) hl.users)
  have h3' := hid (h3.below hb0)
  have d0 : W.cell? ⟨w.heap.size, 0, none⟩ = some uv := block_cell hx 0
  have d1 : W.cell? ⟨w.heap.size, 1, none⟩ = some gv := block_cell hx 1
  obtain ⟨a, c, rfl, g1, g2⟩ := h3.form
  unfold maxLen at g2
  have hlg := hl.groups
  replace hx := hid hx
  replace hb0 := hid hb0
  replace hl := hid hl
  clear h2 h3
  unfold inB
  cases hu : hasS us who with
  | false =>
    rw [hu] at ham
    go_enter Try.func41, Try.ntmps41
    go_wp2_with (rw [← hW]; replace hW := hid hW)
    refine ham.out.mono ?_
    rintro e w1 ⟨rfl, rfl⟩
    go_wp2_with fail
    go_ret
    exact ⟨rfl, hb0.out⟩
  | true =>
  rw [hu] at ham
  replace hu := hid hu
  by_cases hg : who = grp
  · have hq : (who.toList == grp.toList) = true := by rw [hg]; simp
    have hr : Hid (decide (who = grp) = true) := hid (decide_eq_true hg)
    clear hg
    go_enter Try.func41, Try.ntmps41
    go_wp2_with (rw [← hW]; replace hW := hid hW)
    refine ham.out.mono ?_
    rintro e w1 ⟨rfl, rfl⟩
    go_wp2_with fail
    go_ret
    exact ⟨ret_bool (by rw [hr.out]; rfl), hb0.out⟩
  · have hq : (who.toList == grp.toList) = false := by rw [str_beq]; exact decide_eq_false hg
    have hr : Hid (decide (who = grp) = false) := hid (decide_eq_false hg)
    clear hg
    go_enter Try.func41, Try.ntmps41
    go_wp2_with (rw [← hW]; replace hW := hid hW)
    refine ham.out.mono ?_
    rintro e w1 ⟨rfl, rfl⟩
    go_wp2_with fail
    go_loopw [7] (fun kv wr => ∃ k : Nat, k ≤ gs.length ∧ kv = .int .i64 (k : Int) ∧ wr = w1 ∧ Hid (∀ j (h : j < gs.length), j < k → memB grp who gs[j] = false)) (fun kv _ => gs.length - (intOf kv).toNat)
    case atStart => exact ⟨0, by omega, rfl, rfl, hid (fun j _ h => by omega)⟩
    case round =>
      obtain ⟨k, hk, rfl, rfl, hall⟩ := hrel
      by_cases hkl : k < gs.length
      · obtain ⟨b1, o1, ha1, hc1, hc2, hm⟩ := GrpsAt.cell h3'.out k hkl
        subst ha1
        have ham2 := hid (among_any gs[k].mv gs[k].mem who wr hm (hl.out.mems _ (List.getElem_mem hkl)))
        clear hm
        have hnew : memB grp who gs[k] = false → Hid (∀ j (h : j < gs.length), j < k + 1 → memB grp who gs[j] = false) := fun hf => hid (fun j h h2 => by
          by_cases hjk : j < k
          · exact hall.out j h hjk
          · obtain rfl : j = k := by omega
            exact hf)
        have hend : memB grp who gs[k] = true → Hid (gs.any (memB grp who) = true) := fun hf => hid (mems_true hkl hf)
        replace hnew := hid hnew
        replace hend := hid hend
        have hmb : Hid (memB grp who gs[k] = (decide (gs[k].name = grp) && hasS gs[k].mem who)) := hid rfl
        generalize hg1 : gs[k] = g at *
        replace hg1 := hid hg1
        by_cases hn : g.name = grp
        · have hq2 : (g.name.toList == grp.toList) = true := by rw [hn]; simp
          rw [show decide (g.name = grp) = true from decide_eq_true hn, Bool.true_and] at hmb
          clear hn
          go_wp2_with fail
          refine ham2.out.mono ?_
          rintro e w2 ⟨rfl, rfl⟩
          cases hh : hasS g.mem who with
          | true =>
            rw [hh] at hmb
            have he := hend.out hmb.out
            replace hh := hid hh
            go_wp2_with fail
            go_ret
            exact ⟨ret_bool (by rw [he.out]; simp), hb0.out⟩
          | false =>
            rw [hh] at hmb
            have he := hnew.out hmb.out
            replace hh := hid hh
            go_wp2_with fail
            go_roundw
            case rel => exact ⟨k + 1, by omega, by go_num, by first | rfl | trivial, he⟩
            case measure => simp [intOf]; omega
        · have hq2 : (g.name.toList == grp.toList) = false := by rw [str_beq]; exact decide_eq_false hn
          rw [show decide (g.name = grp) = false from decide_eq_false hn, Bool.false_and] at hmb
          have he := hnew.out hmb.out
          clear hn
          go_wp2_with fail
          go_roundw
          case rel => exact ⟨k + 1, by omega, by go_num, by first | rfl | trivial, he⟩
          case measure => simp [intOf]; omega
      · obtain rfl : k = gs.length := by omega
        go_wp2_with fail
        go_ret
        exact ⟨ret_bool (by rw [mems_false hall.out, hr.out]; rfl), hb0.out⟩
end Go.Proofs.Ytonhliipbdniiaa
