/- A slice of groups; whether a user is in a group, in the program's table. No further condition. -/
import Derived.Test.YtonhliipbdniiaaUs1
namespace Go.Proofs.Ytonhliipbdniiaa
open Go.RowKit
set_option maxRecDepth 100000
set_option linter.unusedVariables false

/-- A group: its name, its members, and the slice that holds them. -/
structure Grp where
  name : ByteArray
  mv : Value
  mem : List ByteArray
def Grp.cells (g : Grp) : List Value := [.string g.name, g.mv]
def GrpsAt (w : World) (v : Value) (gs : List Grp) : Prop := RowW w 2 v gs.length (gs.flatMap Grp.cells) ∧ ∀ g ∈ gs, TxtsAt w g.mv g.mem
theorem gflat_len (gs : List Grp) : (gs.flatMap Grp.cells).length = gs.length * 2 := by
  induction gs with
  | nil => rfl
  | cons g r ih => simp [List.flatMap_cons, Grp.cells, ih]; omega
theorem gflat_get (gs : List Grp) (i : Nat) (hi : i < gs.length) : (gs.flatMap Grp.cells)[i * 2]? = some (.string gs[i].name) ∧ (gs.flatMap Grp.cells)[i * 2 + 1]? = some gs[i].mv := by
  induction gs generalizing i with
  | nil => simp at hi
  | cons g r ih =>
    cases i with
    | zero => simp [List.flatMap_cons, Grp.cells]
    | succ k =>
      have := ih k (by simpa using hi)
      simp only [List.flatMap_cons]
      rw [List.getElem?_append_right (by simp [Grp.cells]; omega), List.getElem?_append_right (by simp [Grp.cells]; omega)]
      simp only [Grp.cells, List.length_cons, List.length_nil, List.getElem_cons_succ]
      rw [show (k + 1) * 2 - (0 + 1 + 1) = k * 2 by omega, show (k + 1) * 2 + 1 - (0 + 1 + 1) = k * 2 + 1 by omega]
      exact this
theorem GrpsAt.form {w : World} {v : Value} {gs : List Grp} (h : GrpsAt w v gs) : ∃ a c, v = .slice a gs.length c ∧ gs.length ≤ c ∧ c ≤ maxLen := by
  obtain ⟨⟨_, a', c', hv, h1, h2, _⟩, _⟩ := h
  exact ⟨a', c', hv, h1, h2⟩
theorem GrpsAt.cell {w : World} {a : Option Addr} {n c : Nat} {gs : List Grp} (h : GrpsAt w (.slice a n c) gs) (i : Nat) (hi : i < gs.length) :
    ∃ b o, a = some ⟨b, o, none⟩ ∧ w.cell? ⟨b, o + i * 2, none⟩ = some (.string gs[i].name) ∧ w.cell? ⟨b, o + i * 2 + 1, none⟩ = some gs[i].mv ∧ TxtsAt w gs[i].mv gs[i].mem := by
  obtain ⟨⟨_, a', c', hv, h1, h2, h3, h4⟩, hm⟩ := h
  cases hv
  obtain ⟨e1, e2⟩ := gflat_get gs i hi
  obtain ⟨b, o, ha, hc⟩ := h4 (i * 2) _ e1
  obtain ⟨b', o', ha', hc'⟩ := h4 (i * 2 + 1) _ e2
  rw [ha] at ha'
  cases ha'
  exact ⟨b, o, ha, hc, hc', hm _ (List.getElem_mem hi)⟩
theorem GrpsAt.below {w w' : World} {v : Value} {gs : List Grp} (h : GrpsAt w v gs) (hb : Below w.heap.size w w') : GrpsAt w' v gs :=
  ⟨RowW.below h.1 hb, fun g hg => RowW.below (h.2 g hg) hb⟩

def memB (grp usr : ByteArray) (g : Grp) : Bool := decide (g.name = grp) && hasS g.mem usr
/-- A variable of its own that holds a text. -/
def BoxS (w : World) (b : Nat) (s : ByteArray) : Prop := w.heap[b]? = some (.cells #[.string s] 9 (0, 0))

theorem in1_any (g : Grp) (bg bu : Nat) (grp usr : ByteArray) (w : World) (hm : TxtsAt w g.mv g.mem) (hl : g.mem.length < 4611686018427387904) (h1 : BoxS w bg grp) (h2 : BoxS w bu usr) :
    Calls Try.prog 68 #[.agg #[.string g.name, g.mv], .pointer (some ⟨bg, 0, none⟩), .pointer (some ⟨bu, 0, none⟩)] w fun e w' => e = .returned (.bool (memB grp usr g)) ∧ Below w.heap.size w w' := by
  have hb0 := (Below.refl w.heap.size w).alloc (Nat.le_refl _) (.cells #[.string g.name, g.mv] 78)
  have c1 : (w.alloc (.cells #[.string g.name, g.mv] 78)).cell? ⟨bg, 0, none⟩ = some (.string grp) := block_cell ((hb0.block bg (lt_of_block h1)).trans h1) 0
  have c2 : (w.alloc (.cells #[.string g.name, g.mv] 78)).cell? ⟨bu, 0, none⟩ = some (.string usr) := block_cell ((hb0.block bu (lt_of_block h2)).trans h2) 0
  have hc := hid (scontains_any g.mv g.mem usr _ (hm.below hb0) hl)
  replace hb0 := hid hb0
  replace h1 := hid h1
  replace h2 := hid h2
  unfold memB
  by_cases hn : g.name = grp
  · have hq : (g.name.toList == grp.toList) = true := by rw [hn]; simp
    rw [show decide (g.name = grp) = true from decide_eq_true hn, Bool.true_and]
    clear hn
    go_enter Try.func68, Try.ntmps68
    go_wp2_with fail
    refine hc.out.mono ?_
    rintro e w1 ⟨rfl, rfl⟩
    go_wp2_with fail
    go_ret
    exact ⟨rfl, hb0.out⟩
  · have hq : (g.name.toList == grp.toList) = false := by rw [str_beq]; exact decide_eq_false hn
    rw [show decide (g.name = grp) = false from decide_eq_false hn, Bool.false_and]
    clear hn
    go_enter Try.func68, Try.ntmps68
    go_wp2_with fail
    go_ret
    exact ⟨rfl, hb0.out⟩

/-- A test of a group, as a function value. -/
def Tests (f : FuncId) (cap : Array Value) (w : World) (p : Grp → Bool) (gs : List Grp) : Prop := ∀ g ∈ gs, ∀ w', Below w.heap.size w w' → Calls Try.prog f (#[.agg #[.string g.name, g.mv]] ++ cap) w' fun e w2 => e = .returned (.bool (p g)) ∧ Below w'.heap.size w' w2

set_option maxHeartbeats 1600000 in
theorem ifunc_any (v : Value) (gs : List Grp) (f : FuncId) (cap : Array Value) (p : Grp → Bool) (w : World) (hv : GrpsAt w v gs) (hl : gs.length < 4611686018427387904) (hT : Tests f cap w p gs)
    (hE : ∀ args W, Sem.run Try.prog (callFunc f args) W = .ok (.enter f args) W) :
    Calls Try.prog 92 #[v, .func (.func f) #[] cap] w fun e w' => ∃ i : Int, e = .returned (.int .i64 i) ∧ decide (0 ≤ i) = gs.any p ∧ Below w.heap.size w w' := by
  obtain ⟨a, c, rfl, g1, g2⟩ := hv.form
  unfold maxLen at g2
  replace hv := hid hv
  replace hT := hid hT
  replace hE := hid hE
  go_enter Try.func92, Try.ntmps92
  go_wp2_with fail
  go_loopw [8] (fun kv wr => ∃ k : Nat, k ≤ gs.length ∧ kv = .int .i64 (k : Int) ∧ Hid (Below w.heap.size w wr) ∧ Hid ((gs.take k).any p = false)) (fun kv _ => gs.length - (intOf kv).toNat)
  case atStart => exact ⟨0, by omega, rfl, hid (Below.refl _ _), hid (by simp)⟩
  case round =>
    obtain ⟨k, hk, rfl, hB, hall⟩ := hrel
    by_cases hkl : k < gs.length
    · have hv1 := hv.out.below hB.out
      obtain ⟨b1, o1, ha1, hc1, hc2, _⟩ := GrpsAt.cell hv1 k hkl
      subst ha1
      have hcall := hid (hT.out _ (List.getElem_mem hkl) wr hB.out)
      clear hv1
      generalize hg : gs[k] = g at *
      replace hg := hid hg
      have hE' := hE.out (#[.agg #[.string g.name, g.mv]] ++ cap) wr
      go_wp2_with fail
      refine hcall.out.mono ?_
      rintro e w2 ⟨rfl, hb2⟩
      have hB2 := hid (sn hB.out hb2)
      clear hb2 hcall hE' hc1 hc2
      cases hp : p g with
      | true =>
        go_wp2_with fail
        go_ret
        exact ⟨(k : Int), rfl, by
          rw [List.any_eq_true.2 ⟨g, by rw [← hg.out]; exact List.getElem_mem hkl, hp⟩]; simp, hB2.out⟩
      | false =>
        have hall2 := hid (show (gs.take (k + 1)).any p = false by
          rw [List.take_succ_eq_append_getElem hkl, List.any_append, hall.out, hg.out]
          simp [hp])
        replace hp := hid hp
        go_wp2_with fail
        go_roundw
        case rel => exact ⟨k + 1, by omega, by go_num, hB2, hall2⟩
        case measure => simp [intOf]; omega
    · obtain rfl : k = gs.length := by omega
      go_wp2_with fail
      go_ret
      exact ⟨-1, rfl, by have := hall.out; rw [List.take_length] at this; rw [this]; rfl, hB.out⟩

theorem cfunc_any (v : Value) (gs : List Grp) (f : FuncId) (cap : Array Value) (p : Grp → Bool) (w : World) (hv : GrpsAt w v gs) (hl : gs.length < 4611686018427387904) (hT : Tests f cap w p gs)
    (hE : ∀ args W, Sem.run Try.prog (callFunc f args) W = .ok (.enter f args) W) :
    Calls Try.prog 67 #[v, .func (.func f) #[] cap] w fun e w' => e = .returned (.bool (gs.any p)) ∧ Below w.heap.size w w' := by
  have h := hid (ifunc_any v gs f cap p w hv hl hT hE)
  obtain ⟨a, c, rfl, g1, g2⟩ := hv.form
  clear hv hT hE
  go_enter Try.func67, Try.ntmps67
  go_wp2_with fail
  refine h.out.mono ?_
  rintro e w1 ⟨i, rfl, hi, hb⟩
  replace hi := hid hi
  replace hb := hid hb
  go_wp2_with fail
  go_ret
  exact ⟨ret_bool (by rw [← hi.out]), hb.out⟩

theorem enter_in1 (args : Array Value) (W : World) : Sem.run Try.prog (callFunc 68 args) W = .ok (.enter 68 args) W := by
  rfl
theorem enter_group1 (args : Array Value) (W : World) : Sem.run Try.prog (callFunc 90 args) W = .ok (.enter 90 args) W := by
  rfl
end Go.Proofs.Ytonhliipbdniiaa
