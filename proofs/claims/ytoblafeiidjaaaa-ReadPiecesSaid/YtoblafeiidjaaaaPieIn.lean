/- A []uint16 that comes in is told to a walk; the law ReadPieces for any such arguments. No condition. -/
import Derived.Test.YtoblafeiidjaaaaLawPie
import Derived.Test.YtoblafeiidjaaaaFrameKit
namespace Go.Proofs.Ytoblafeiidjaaaa
open Go.RowKit Go.ChangeShapes Go.WideShapes Go.ChangeAt
set_option maxRecDepth 100000

theorem u16_in {H : Type} {enc : TypeId × Value → H} {w : World} {r : Reach} {base : Nat} {a : Option Addr} {len cap : Nat} {held : Bool} {x : DataW H} {p : List MemPlace}
    (hv : Value.okWide Try.prog w r base 42 (.slice a len cap)) (h : DataW.Trod enc Try.prog w 0 (fun _ => true) held 42 (.slice a len cap) x p) : ∃ z : List Nat, U16At w (.slice a len cap) z ∧ ∀ x ∈ z, x < 65536 := by
  obtain ⟨fuel, hf⟩ := h
  cases a with
  | none =>
    obtain ⟨rfl, rfl⟩ := okWide_none Try.underlying42 hv
    exact ⟨[], RowAt.nil, by simp⟩
  | some ad =>
    obtain ⟨hs, hb, h1, h2⟩ := okWide_addr Try.underlying42 hv
    rcases open_ints Try.underlying42 Try.underlying32 (by kernel_rfl) hf with ⟨hcs, _⟩ | ⟨x, l, c, zs, hcs, _, hl, hm, hz, _, hcell, hwz⟩
    · simp [Value.cells] at hcs
    · simp [Value.cells] at hcs
      obtain ⟨rfl, rfl, rfl⟩ := hcs
      simp only [if_true] at hz
      have hlen : (zs.take len).length = len := by simp; omega
      have hbd : ∀ y ∈ zs, 0 ≤ y ∧ y ≤ 65535 := fun y hy => by
        have hw := hwz y hy
        simp only [Lit.wf, Bool.and_eq_true, decide_eq_true_eq] at hw
        exact hw
      refine ⟨(zs.take len).map Int.toNat, ?_, fun y hy => ?_⟩
      · unfold U16At
        rw [List.length_map, hlen]
        refine ⟨by simp; omega, some ad, cap, rfl, h1, h2, fun h => (by cases h), fun _ h => (by cases h; exact ⟨hs, hb⟩), fun i u hu => ?_⟩
        obtain ⟨b, o, s⟩ := ad
        subst hs
        have hi : i < len := by have := (List.getElem?_eq_some_iff.1 hu).1; simp at this; omega
        have hiz : i < zs.length := by omega
        refine ⟨b, o, rfl, ?_⟩
        have hc := hcell i (by omega)
        rw [add_plain'] at hc
        rw [hc, ← hu]
        have := hbd zs[i] (List.getElem_mem hiz)
        simp [List.getD, hiz, hi]
        omega
      · obtain ⟨q, hq, rfl⟩ := List.mem_map.1 hy
        have := hbd q (List.mem_of_mem_take hq)
        omega
end Go.Proofs.Ytoblafeiidjaaaa
