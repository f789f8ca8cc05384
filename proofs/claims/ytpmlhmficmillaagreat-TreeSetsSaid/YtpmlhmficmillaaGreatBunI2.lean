/- How the fields of what comes in to a law are told to its walk; a record. No condition. -/
import Derived.Test.YtpmlhmficmillaaGreatFrameKitZ
import Derived.Test.YtpmlhmficmillaaGreatBunC
namespace Go.Proofs.YtpmlhmficmillaaGreat
open Go.ChangeShapes Go.WideShapes Go.ChangeAt Go.RowKit
set_option maxRecDepth 100000
set_option linter.unusedVariables false

theorem nat_of {k : IntKind} {n : Int} (h0 : k.min = 0) (h : (Lit.int k n).wf = true) : ∃ m : Nat, n = (m : Int) ∧ (m : Int) ≤ k.max := by
  simp only [Lit.wf, Bool.and_eq_true, decide_eq_true_eq] at h
  obtain ⟨h1, h2⟩ := h
  rw [h0] at h1
  obtain ⟨m, rfl⟩ := Int.eq_ofNat_of_zero_le h1
  exact ⟨m, rfl, h2⟩

theorem field_in {H : Type} {enc : TypeId × Value → H} {w : World} {base fuel : Nat} {sp : Nat → Bool} {held : Bool} {t : TypeId} {c : Value} {k : IntKind} {xs : List (DataW H × List MemPlace)} {i : Nat} (ht : Tryz.prog.underlying t = some (.int k)) (h0 : k.min = 0)
    (hi : i < xs.length) (h : DataW.trod enc Tryz.prog w base sp held fuel t [c] = xs[i]?) : ∃ m : Nat, c = .int k (m : Int) ∧ (m : Int) ≤ k.max := by
  rw [List.getElem?_eq_getElem hi] at h
  obtain ⟨n, hc, _, hw⟩ := DataW.trod_int ht h
  obtain ⟨m, rfl, hm⟩ := nat_of h0 hw
  exact ⟨m, by simpa using hc, hm⟩
theorem field_str {H : Type} {enc : TypeId × Value → H} {w : World} {base fuel : Nat} {sp : Nat → Bool} {held : Bool} {t : TypeId} {c : Value} {xs : List (DataW H × List MemPlace)} {i : Nat} (ht : Tryz.prog.underlying t = some .string)
    (hi : i < xs.length) (h : DataW.trod enc Tryz.prog w base sp held fuel t [c] = xs[i]?) : ∃ s : ByteArray, c = .string s ∧ s.size ≤ maxLen := by
  rw [List.getElem?_eq_getElem hi] at h
  obtain ⟨s, hc, _, hw⟩ := DataW.trod_string ht h
  exact ⟨s, by simpa using hc, hw⟩

theorem fld {H : Type} {enc : TypeId × Value → H} {P : Program} {w : World} {base n : Nat} {sp : Nat → Bool} {held : Bool} {cs : List Value} {xs : List (DataW H × List MemPlace)} {fs : Array Field}
    (hf : ∀ (i : Nat) (f : Field), fs[i]? = some f → DataW.trod enc P w base sp held n f.type ((cs.drop f.offset).take (P.cellsOf f.type)) = xs[i]?) (i : Nat) (t o k : Nat)
    (h : (fs[i]?).map (fun f => (f.type, f.offset)) = some (t, o)) (hc : P.cellsOf t = k) : DataW.trod enc P w base sp held n t ((cs.drop o).take k) = xs[i]? := by
  cases hfi : fs[i]? with
  | none => rw [hfi] at h; cases h
  | some f =>
    rw [hfi] at h
    simp only [Option.map_some, Option.some.injEq, Prod.mk.injEq] at h
    obtain ⟨rfl, rfl⟩ := h
    subst hc
    exact hf i f hfi

theorem flat_at {α β : Type} (f : α → List β) (n : Nat) : ∀ (L : List α) (_ : ∀ a ∈ L, (f a).length = n) (k j : Nat) (hk : k < L.length) (_ : j < n), (L.flatMap f)[k * n + j]? = (f L[k])[j]?
  | [], _, k, _, hk, _ => by simp at hk
  | a :: L, hf, 0, j, _, hj => by
    rw [List.flatMap_cons, List.getElem?_append_left (by rw [hf a (by simp)]; omega)]
    simp
  | a :: L, hf, k + 1, j, hk, hj => by
    have hl := hf a (by simp)
    rw [List.flatMap_cons, List.getElem?_append_right (by rw [hl, Nat.add_mul]; omega), hl, show (k + 1) * n + j - n = k * n + j by rw [Nat.add_mul]; omega]
    exact flat_at f n L (fun b hb => hf b (by simp [hb])) k j (by simpa using hk) hj
end Go.Proofs.YtpmlhmficmillaaGreat
