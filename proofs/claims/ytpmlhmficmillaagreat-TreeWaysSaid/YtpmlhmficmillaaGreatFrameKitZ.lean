/- How what comes in to a law is told to its walk. No condition. -/
import Derived.Test.YtpmlhmficmillaaGreatBunNA
import Derived.ProofKit
import Derived.OpenShut
import Derived.ChangeOld
namespace Go.Proofs.YtpmlhmficmillaaGreat
open Go.ChangeShapes Go.WideShapes Go.ChangeAt Go.RowKit
set_option maxRecDepth 100000

theorem okWide_addr {w : World} {r : Reach} {base : Nat} {t e : TypeId} {ad : Addr} {len cap : Nat} (ht : Tryz.prog.underlying t = some (.slice e)) (h : Value.okWide Tryz.prog w r base t (.slice (some ad) len cap)) :
    ad.spot = none ∧ ad.block < w.heap.size ∧ len ≤ cap ∧ cap ≤ maxLen := by
  simp only [Value.okWide, ht, Cell.okWide, Cell.ok, World.has] at h
  obtain ⟨h1, h2, h3, h4, row, cells, h5, h6⟩ := h
  refine ⟨h4, ?_, h1, by unfold maxLen; have : (cap : Int) ≤ 9223372036854775807 := h2; omega⟩
  unfold World.shape? at h5
  rcases Nat.lt_or_ge ad.block w.heap.size with hl | hl
  · exact hl
  · rw [Array.getElem?_eq_none hl] at h5; cases h5

theorem okWide_none {w : World} {r : Reach} {base : Nat} {t e : TypeId} {len cap : Nat} (ht : Tryz.prog.underlying t = some (.slice e)) (h : Value.okWide Tryz.prog w r base t (.slice none len cap)) : len = 0 ∧ cap = 0 := by
  simp only [Value.okWide, ht, Cell.okWide, Cell.ok] at h
  split at h <;> simp_all

theorem bytes_in {H : Type} {enc : TypeId × Value → H} {w : World} {r : Reach} {base : Nat} {a : Option Addr} {len cap : Nat} {held : Bool} {x : DataW H} {p : List MemPlace}
    (hv : Value.okWide Tryz.prog w r base 46 (.slice a len cap)) (h : DataW.Trod enc Tryz.prog w 0 (fun _ => true) held 46 (.slice a len cap) x p) : ∃ l, BytesAt w (.slice a len cap) l := by
  obtain ⟨fuel, hf⟩ := h
  cases a with
  | none =>
    obtain ⟨rfl, rfl⟩ := okWide_none Tryz.underlying46 hv
    exact ⟨[], RowAt.nil⟩
  | some ad =>
    obtain ⟨hs, hb, h1, h2⟩ := okWide_addr Tryz.underlying46 hv
    rcases open_ints Tryz.underlying46 Tryz.underlying5 (by kernel_rfl) hf with ⟨hcs, _⟩ | ⟨x, l, c, zs, hcs, _, hl, hm, hz, _, hcell, hwz⟩
    · simp [Value.cells] at hcs
    · simp [Value.cells] at hcs
      obtain ⟨rfl, rfl, rfl⟩ := hcs
      simp only [if_true] at hz
      have hlen : (zs.take len).length = len := by simp; omega
      refine ⟨(zs.take len).map fun n => UInt8.ofNat n.toNat, ?_⟩
      unfold BytesAt
      rw [List.length_map, hlen]
      refine ⟨by simp; omega, some ad, cap, rfl, h1, h2, fun h => (by cases h), fun _ h => (by cases h; exact ⟨hs, hb⟩), fun i u hu => ?_⟩
      obtain ⟨b, o, s⟩ := ad
      subst hs
      have hi : i < len := by have := (List.getElem?_eq_some_iff.1 hu).1; simp at this; omega
      have hiz : i < zs.length := by omega
      refine ⟨b, o, rfl, ?_⟩
      have hc := hcell i (by omega)
      rw [add_plain'] at hc
      rw [hc, ← hu]
      have hw := hwz zs[i] (List.getElem_mem hiz)
      have hbd : 0 ≤ zs[i] ∧ zs[i] ≤ 255 := by
        simp only [Lit.wf, Bool.and_eq_true, decide_eq_true_eq] at hw
        exact hw
      simp [byteV, List.getD, hiz, hi]
      omega
end Go.Proofs.YtpmlhmficmillaaGreat
