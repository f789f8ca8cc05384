/- How the fields of what comes in to a law are told to its walk; a record. No condition. -/
import Derived.Test.YtpmlhmficmillaaFrameKitZ
import Derived.Test.YtpmlhmficmillaaBunC
namespace Go.Proofs.Ytpmlhmficmillaa
open Go.ChangeShapes Go.WideShapes Go.ChangeAt Go.RowKit
set_option maxRecDepth 100000
set_option linter.unusedVariables false

theorem nat_of {k : IntKind} {n : Int} (h0 : k.min = 0) (h : (Lit.int k n).wf = true) : ∃ m : Nat, n = (m : Int) ∧ (m : Int) ≤ k.max := by
  simp only [Lit.wf, Bool.and_eq_true, decide_eq_true_eq] at h
  obtain ⟨h1, h2⟩ := h
  rw [h0] at h1
  obtain ⟨m, rfl⟩ := Int.eq_ofNat_of_zero_le h1
  exact ⟨m, rfl, h2⟩

theorem field_in {H : Type} {enc : TypeId × Value → H} {w : World} {base fuel : Nat} {sp : Nat → Bool} {held : Bool} {t : TypeId} {c : Value} {k : IntKind} {xs : List (DataW H × List MemPlace)} {i : Nat} (ht : Try.prog.underlying t = some (.int k)) (h0 : k.min = 0)
    (hi : i < xs.length) (h : DataW.trod enc Try.prog w base sp held fuel t [c] = xs[i]?) : ∃ m : Nat, c = .int k (m : Int) ∧ (m : Int) ≤ k.max := by
  rw [List.getElem?_eq_getElem hi] at h
  obtain ⟨n, hc, _, hw⟩ := DataW.trod_int ht h
  obtain ⟨m, rfl, hm⟩ := nat_of h0 hw
  exact ⟨m, by simpa using hc, hm⟩
theorem field_str {H : Type} {enc : TypeId × Value → H} {w : World} {base fuel : Nat} {sp : Nat → Bool} {held : Bool} {t : TypeId} {c : Value} {xs : List (DataW H × List MemPlace)} {i : Nat} (ht : Try.prog.underlying t = some .string)
    (hi : i < xs.length) (h : DataW.trod enc Try.prog w base sp held fuel t [c] = xs[i]?) : ∃ s : ByteArray, c = .string s ∧ s.size ≤ maxLen := by
  rw [List.getElem?_eq_getElem hi] at h
  obtain ⟨s, hc, _, hw⟩ := DataW.trod_string ht h
  exact ⟨s, by simpa using hc, hw⟩

theorem fld {H : Type} {enc : TypeId × Value → H} {P : Program} {w : World} {base n : Nat} {sp : Nat → Bool} {held : Bool} {cs : List Value} {xs : List (DataW H × List MemPlace)} {fs : Array Field}
    (hf : ∀ (i : Nat) (f : Field), fs[i]? = some f → DataW.trod enc P w base sp held n f.type ((cs.drop f.offset).take (P.cellsOf f.type)) = xs[i]?) (i : Nat) (t o k : Nat)
    (h : (fs[i]?).map (fun f => (f.type, f.offset)) = some (t, o)) (hc : P.cellsOf t = k) : DataW.trod enc P w base sp held n t ((cs.drop o).take k) = xs[i]? := by
  cases hfi : fs[i]? with
  | none => rw [hfi] at h; cases h
  | some f =>
    rw [hfi] at h
    simp only [Option.map_some, Option.some.injEq, Prod.mk.injEq] at h
    obtain ⟨rfl, rfl⟩ := h
    subst hc
    exact hf i f hfi

theorem stat_in {H : Type} {enc : TypeId × Value → H} {w : World} {base fuel : Nat} {sp : Nat → Bool} {held : Bool} {cs : List Value} {x : DataW H × List MemPlace}
    (h : DataW.trod enc Try.prog w base sp held fuel 77 cs = some x) : ∃ s : Stat, cs = s.cells.toList ∧ StatOk s := by
  obtain ⟨xs, n, _, _, hlen, hxl, hf⟩ := DataW.trod_struct Try.underlying77 h
  rw [show Try.prog.cellsOf 77 = 13 by kernel_rfl] at hlen
  replace hxl : xs.length = 11 := hxl
  match cs, hlen with
  | [c0, c1, c2, c3, c4, c5, c6, c7, c8, c9, c10, c11, c12], _ =>
  · have f0 : DataW.trod enc Try.prog w base sp held n 44 [c0] = xs[0]? := fld hf 0 _ 0 1 rfl (by kernel_rfl)
    have f1 : DataW.trod enc Try.prog w base sp held n 34 [c1] = xs[1]? := fld hf 1 _ 1 1 rfl (by kernel_rfl)
    have f2 : DataW.trod enc Try.prog w base sp held n 68 [c2, c3, c4] = xs[2]? := fld hf 2 _ 2 3 rfl (by kernel_rfl)
    have f3 : DataW.trod enc Try.prog w base sp held n 34 [c5] = xs[3]? := fld hf 3 _ 5 1 rfl (by kernel_rfl)
    have f4 : DataW.trod enc Try.prog w base sp held n 34 [c6] = xs[4]? := fld hf 4 _ 6 1 rfl (by kernel_rfl)
    have f5 : DataW.trod enc Try.prog w base sp held n 34 [c7] = xs[5]? := fld hf 5 _ 7 1 rfl (by kernel_rfl)
    have f6 : DataW.trod enc Try.prog w base sp held n 22 [c8] = xs[6]? := fld hf 6 _ 8 1 rfl (by kernel_rfl)
    have f7 : DataW.trod enc Try.prog w base sp held n 9 [c9] = xs[7]? := fld hf 7 _ 9 1 rfl (by kernel_rfl)
    have f8 : DataW.trod enc Try.prog w base sp held n 9 [c10] = xs[8]? := fld hf 8 _ 10 1 rfl (by kernel_rfl)
    have f9 : DataW.trod enc Try.prog w base sp held n 9 [c11] = xs[9]? := fld hf 9 _ 11 1 rfl (by kernel_rfl)
    have f10 : DataW.trod enc Try.prog w base sp held n 9 [c12] = xs[10]? := fld hf 10 _ 12 1 rfl (by kernel_rfl)
    obtain ⟨kind, rfl, b_kind⟩ := field_in Try.underlying44 rfl (i := 0) (by omega) f0
    obtain ⟨dev, rfl, b_dev⟩ := field_in Try.underlying34 rfl (i := 1) (by omega) f1
    obtain ⟨mode, rfl, b_mode⟩ := field_in Try.underlying34 rfl (i := 3) (by omega) f3
    obtain ⟨atm, rfl, b_atm⟩ := field_in Try.underlying34 rfl (i := 4) (by omega) f4
    obtain ⟨mtm, rfl, b_mtm⟩ := field_in Try.underlying34 rfl (i := 5) (by omega) f5
    obtain ⟨len, rfl, b_len⟩ := field_in Try.underlying22 rfl (i := 6) (by omega) f6
    obtain ⟨name, rfl, b_name⟩ := field_str Try.underlying9 (i := 7) (by omega) f7
    obtain ⟨uid, rfl, b_uid⟩ := field_str Try.underlying9 (i := 8) (by omega) f8
    obtain ⟨gid, rfl, b_gid⟩ := field_str Try.underlying9 (i := 9) (by omega) f9
    obtain ⟨muid, rfl, b_muid⟩ := field_str Try.underlying9 (i := 10) (by omega) f10
    rw [List.getElem?_eq_getElem (by omega)] at f2
    obtain ⟨ys, m, _, _, _, hyl, hg⟩ := DataW.trod_struct Try.underlying68 f2
    replace hyl : ys.length = 3 := hyl
    have g0 : DataW.trod enc Try.prog w base sp held m 5 [c2] = ys[0]? := fld hg 0 _ 0 1 rfl (by kernel_rfl)
    have g1 : DataW.trod enc Try.prog w base sp held m 34 [c3] = ys[1]? := fld hg 1 _ 1 1 rfl (by kernel_rfl)
    have g2 : DataW.trod enc Try.prog w base sp held m 22 [c4] = ys[2]? := fld hg 2 _ 2 1 rfl (by kernel_rfl)
    obtain ⟨qt, rfl, b_qt⟩ := field_in Try.underlying5 rfl (i := 0) (by omega) g0
    obtain ⟨qv, rfl, b_qv⟩ := field_in Try.underlying34 rfl (i := 1) (by omega) g1
    obtain ⟨qp, rfl, b_qp⟩ := field_in Try.underlying22 rfl (i := 2) (by omega) g2
    refine ⟨⟨kind, dev, qt, qv, qp, mode, atm, mtm, len, name, uid, gid, muid⟩, rfl, ?_⟩
    simp only [show IntKind.u8.max = 255 from rfl, show IntKind.u16.max = 65535 from rfl, show IntKind.u32.max = 4294967295 from rfl, show IntKind.u64.max = 18446744073709551615 from rfl] at *
    exact ⟨by show kind < _; omega, by show dev < _; omega, by show qt < _; omega, by show qv < _; omega, by show qp < _; omega, by show mode < _; omega, by show atm < _; omega, by show mtm < _; omega, by show len < _; omega, b_name, b_uid, b_gid, b_muid⟩

theorem flat_at {α β : Type} (f : α → List β) (n : Nat) : ∀ (L : List α) (_ : ∀ a ∈ L, (f a).length = n) (k j : Nat) (hk : k < L.length) (_ : j < n), (L.flatMap f)[k * n + j]? = (f L[k])[j]?
  | [], _, k, _, hk, _ => by simp at hk
  | a :: L, hf, 0, j, _, hj => by
    rw [List.flatMap_cons, List.getElem?_append_left (by rw [hf a (by simp)]; omega)]
    simp
  | a :: L, hf, k + 1, j, hk, hj => by
    have hl := hf a (by simp)
    rw [List.flatMap_cons, List.getElem?_append_right (by rw [hl, Nat.add_mul]; omega), hl, show (k + 1) * n + j - n = k * n + j by rw [Nat.add_mul]; omega]
    exact flat_at f n L (fun b hb => hf b (by simp [hb])) k j (by simpa using hk) hj
end Go.Proofs.Ytpmlhmficmillaa
