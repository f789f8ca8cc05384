/- Two nodes of the reference compared; two trees: Same. Conditions: at most a thousand nodes. -/
import Derived.Test.YtpmlhmficmillaaRNd2Z
import Derived.Test.YtpmlhmficmillaaBunSB
import Derived.Test.YtpmlhmficmillaaBunN
namespace Go.Proofs.Ytpmlhmficmillaa
open Go.RowKit
set_option maxRecDepth 100000
set_option linter.unusedVariables false
attribute [local go_sem ↓] load12_eq

theorem toListInj {s t : ByteArray} (h : s.toList = t.toList) : s = t := by
  rw [ByteArray.toList_eq, ByteArray.toList_eq] at h
  cases s; cases t
  simpa using h
def eqN (x y : Nod) : Bool := decide (x.path = y.path ∧ x.vers = y.vers ∧ x.mode = y.mode ∧ x.atm = y.atm ∧ x.mtm = y.mtm ∧ x.name = y.name ∧ x.uid = y.uid ∧ x.gid = y.gid ∧ x.muid = y.muid ∧ x.up = y.up ∧ x.gone = y.gone ∧ x.data = y.data)
theorem eqN_iff {x y : Nod} : eqN x y = true ↔ x = y := by
  unfold eqN
  rw [decide_eq_true_eq]
  constructor
  · rintro ⟨a1, a2, a3, a4, a5, a6, a7, a8, a9, a10, a11, a12⟩
    cases x; cases y; simp only at *; subst a1 a2 a3 a4 a5 a6 a7 a8 a9 a10 a11 a12; rfl
  · rintro rfl; simp
theorem nod_ncmp (x y : Nod) (W : World) : (binOp .neq 71 (.agg x.cells) (.agg y.cells)).run Try.prog W = .ok (.bool (!eqN x y)) W := by
  have h1 : Try.prog.underlying 71 = some (.struct (Try.prog.fieldsOf 71)) := by kernel_rfl
  have h2 : Try.prog.stoodInHeld 71 = false := by kernel_rfl
  have h5 := Try.underlying4
  have h7 := Try.underlying34
  have h8 := Try.underlying22
  have h9 := Try.underlying9
  rw [run_neq_struct, run_equalIn_agg W _ _ _ _ h1 h2]
  have g2 := Try.underlying71
  clear h1
  by_cases h : eqN x y = true
  · obtain rfl := eqN_iff.1 h
    rw [h]
    simp [go_sem, h5, h7, h8, h9, g2, Nod.cells]
  · rw [Bool.eq_false_iff.2 h]
    simp [go_sem, h5, h7, h8, h9, g2, Nod.cells]
    have hx : x.path = y.path → x.vers = y.vers → x.mode = y.mode → x.atm = y.atm → x.mtm = y.mtm → x.name.toList = y.name.toList → x.uid.toList = y.uid.toList → x.gid.toList = y.gid.toList → x.muid.toList = y.muid.toList → x.up = y.up → x.gone = y.gone → x.data.toList = y.data.toList → False :=
      fun a1 a2 a3 a4 a5 a6 a7 a8 a9 a10 a11 a12 => h (decide_eq_true ⟨a1, a2, a3, a4, a5, toListInj a6, toListInj a7, toListInj a8, toListInj a9, a10, a11, toListInj a12⟩)
    clear h2 h5 h7 h8 h9 g2 h
    intro a1 a2 a3 a4 a5 a6 a7 a8 a9 a10 a11 a12
    exact hx (by omega) (by omega) (by omega) (by omega) (by omega) a6 a7 a8 a9 (by omega) a11 a12
def eqL : List Nod → List Nod → Bool
  | [], [] => true
  | x :: l, y :: m => eqN x y && eqL l m
  | _, _ => false
theorem eqL_iff : ∀ {l m : List Nod}, eqL l m = true ↔ l = m
  | [], [] => by simp [eqL]
  | x :: l, y :: m => by simp [eqL, eqN_iff, eqL_iff]
  | [], y :: m => by simp [eqL]
  | x :: l, [] => by simp [eqL]
theorem eqL_step {l m : List Nod} {k : Nat} (h1 : k < l.length) (h2 : k < m.length) : eqL (l.drop k) (m.drop k) = (eqN l[k] m[k] && eqL (l.drop (k + 1)) (m.drop (k + 1))) := by
  rw [List.drop_eq_getElem_cons h1, List.drop_eq_getElem_cons h2]; rfl
def ncmpN (a b : Value) : Sem Value := binOp .neq 71 a b
theorem ncmpN_eq (a b : Value) : binOp .neq 71 a b = ncmpN a b := rfl
attribute [local go_sem ↓] ncmpN_eq
theorem range_load {P : Program} {w : World} {b o : Nat} {n : Nod} (h : w.rangeAt b o n.cells.toList) : Sem.run P (load12 ⟨b, o, none⟩) w = .ok n.cells w := by
  have hl : n.cells.toList.length = 12 := by rw [nod_cells]; rfl
  have := run_loadCells_list (P := P) (w := w) ⟨b, o, none⟩ n.cells.toList (fun j v hv => by rw [Addr.add_mid]; exact h j v hv)
  rw [hl] at this
  simpa [loadCells, load12] using this
set_option maxHeartbeats 6400000 in
theorem rsame_any (v u : Value) (x y : Nat) (l m : List Nod) (w : World) (hv : NodsAt w v l) (hu : NodsAt w u m) (hl : l.length ≤ 1000) (hm : m.length ≤ 1000) :
    Calls Try.prog 15 #[.agg #[.int .u64 (x : Int), v], .agg #[.int .u64 (y : Int), u]] w fun e w' => e = .returned (.bool (decide (x = y) && eqL l m)) ∧ Below w.heap.size w w' := by
  obtain ⟨a, c, rfl, g1, g2⟩ := hv.form
  obtain ⟨a2, c2, rfl, g3, g4⟩ := hu.form
  unfold maxLen at g2 g4
  obtain ⟨W, hW⟩ : ∃ W, W = (w.alloc (.cells #[.int .u64 (x : Int), .slice a l.length c] 32)).alloc (.cells #[.int .u64 (y : Int), .slice a2 m.length c2] 32) := ⟨_, rfl⟩
  have hb0 : Below w.heap.size w W := by rw [hW]; exact ((Below.refl w.heap.size w).alloc (Nat.le_refl _) _).alloc (by simp) _
  have hx0 : W.heap[w.heap.size]? = some (.cells #[.int .u64 (x : Int), .slice a l.length c] 32 (0, 0)) := by rw [hW, heap_alloc_old _ _ (by simp), heap_alloc_new]
  have hy0 : W.heap[w.heap.size + 1]? = some (.cells #[.int .u64 (y : Int), .slice a2 m.length c2] 32 (0, 0)) := by rw [hW]; exact heap2 _ _ _
  have e0 := block_cell hx0 0
  have e1 := block_cell hx0 1
  have e2 := block_cell hy0 0
  have e3 := block_cell hy0 1
  replace hv := hid (hv.below hb0)
  replace hu := hid (hu.below hb0)
  replace hb0 := hid hb0
  clear hx0 hy0
  have mixed : Try.prog.follows Departure.mixedOrders = true := by first | kernel_rfl | decide
  have k1 : ((x : Int) != (y : Int)) = !decide (x = y) := by rw [Bool.eq_iff_iff]; simp; omega
  have k2 : ((l.length : Int) != (m.length : Int)) = !decide (l.length = m.length) := by rw [Bool.eq_iff_iff]; simp; omega
  go_enter Try.func15, Try.ntmps15
  by_cases hxy : x = y
  case neg =>
    rw [decide_eq_false hxy] at k1 ⊢
    go_wp2_with (rw [← hW]; replace hW := hid hW)
    go_ret
    exact ⟨rfl, hb0.out⟩
  subst hxy
  rw [decide_eq_true rfl] at k1 ⊢
  by_cases hlm : l.length = m.length
  case neg =>
    rw [decide_eq_false hlm] at k2
    have hE : eqL l m = false := by
      cases h : eqL l m with
      | false => rfl
      | true => rw [eqL_iff.1 h] at hlm; exact absurd rfl hlm
    rw [hE]
    replace hlm := hid hlm
    go_wp2_with (rw [← hW]; replace hW := hid hW)
    go_ret
    exact ⟨rfl, hb0.out⟩
  rw [decide_eq_true hlm] at k2
  replace hlm := hid hlm
  go_wp2_with (rw [← hW]; replace hW := hid hW)
  have HW := hid (Below.refl W.heap.size W)
  have E1 := hid e1
  have E3 := hid e3
  clear e0 e1 e2 e3
  go_loopw [5] (fun kv wr => Hid (Below W.heap.size W wr) ∧ ∃ k : Nat, k ≤ l.length ∧ kv = .int .i64 (k : Int) ∧ Hid (eqL l m = eqL (l.drop k) (m.drop k))) (fun kv _ => l.length - (intOf kv).toNat)
  case atStart => exact ⟨HW, 0, by omega, rfl, hid rfl⟩
  case round =>
    obtain ⟨hB, k, hk, rfl, hF⟩ := hrel
    have hBw := hid (sn hb0.out hB.out)
    have e1 : wr.cell? ⟨w.heap.size, 1, none⟩ = some (.slice a l.length c) := by rw [hB.out.cell (World.block_lt_of_cell? _ _ E1.out)]; exact E1.out
    have e3 : wr.cell? ⟨w.heap.size + 1, 1, none⟩ = some (.slice a2 m.length c2) := by rw [hB.out.cell (World.block_lt_of_cell? _ _ E3.out)]; exact E3.out
    by_cases hkl : k < l.length
    · have hkm : k < m.length := by have := hlm.out; omega
      obtain ⟨b, o, ha, hr⟩ := (hv.out.below hB.out).range k hkl
      obtain ⟨b2, o2, ha2, hr2⟩ := (hu.out.below hB.out).range k hkm
      subst ha ha2
      have hst := hid (hF.out.trans (eqL_step hkl hkm))
      generalize l[k] = n at *
      generalize m[k] = p at *
      have lx : Sem.run Try.prog (load12 ⟨b, o + k * 12, none⟩) wr.drew = .ok n.cells wr.drew := range_load hr
      have ly : Sem.run Try.prog (load12 ⟨b2, o2 + k * 12, none⟩) wr.drew = .ok p.cells wr.drew := range_load hr2
      have s1 : wr.drew.cell? ⟨w.heap.size, 1, none⟩ = some (.slice (some ⟨b, o, none⟩) l.length c) := e1
      have s3 : wr.drew.cell? ⟨w.heap.size + 1, 1, none⟩ = some (.slice (some ⟨b2, o2, none⟩) m.length c2) := e3
      have hc : Sem.run Try.prog (ncmpN (.agg n.cells) (.agg p.cells)) wr.drew = .ok (.bool (!eqN n p)) wr.drew := nod_ncmp n p wr.drew
      have hBd := hid (hB.out.drew)
      replace hr := hid hr
      replace hr2 := hid hr2
      have i1 : (k : Int) < (l.length : Int) := by omega
      have i2 : (k : Int) < (m.length : Int) := by omega
      cases hE : eqN n p with
      | true =>
        have hF2 := hid (show eqL l m = eqL (l.drop (k + 1)) (m.drop (k + 1)) by rw [hst.out, hE, Bool.true_and])
        rw [hE] at hc
        clear hE hst
        go_wp2_with fail
        go_big_region_o
        all_goals go_wp2_with fail
        go_roundw
        case rel => exact ⟨hBd, k + 1, by omega, by go_num, hF2⟩
        case measure => simp [intOf]; omega
      | false =>
        have hF2 := hid (show eqL l m = false by rw [hst.out, hE, Bool.false_and])
        rw [hE] at hc
        clear hE hst
        go_wp2_with fail
        go_big_region_o
        all_goals go_wp2_with fail
        go_ret
        exact ⟨by rw [hF2.out]; rfl, sn hb0.out hBd.out⟩
    · obtain rfl : k = l.length := by omega
      have hF2 : eqL l m = true := by rw [hF.out, List.drop_length, show m.drop l.length = [] by rw [hlm.out]; exact List.drop_length]; rfl
      replace hF2 := hid hF2
      go_wp2_with fail
      go_ret
      exact ⟨by rw [hF2.out]; rfl, hBw.out⟩
end Go.Proofs.Ytpmlhmficmillaa
