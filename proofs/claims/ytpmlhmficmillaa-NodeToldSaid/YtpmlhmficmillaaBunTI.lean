/- How slices of bools and of nodes, and trees, that come in to a law are told to its walk. No condition. -/
import Derived.Test.YtpmlhmficmillaaBunI2
import Derived.Test.YtpmlhmficmillaaBunUs
import Derived.SizedLaws
namespace Go.Proofs.Ytpmlhmficmillaa
open Go.ChangeShapes Go.WideShapes Go.ChangeAt Go.RowKit
set_option maxRecDepth 100000
set_option linter.unusedVariables false
theorem field_bool {H : Type} {enc : TypeId × Value → H} {w : World} {base fuel : Nat} {sp : Nat → Bool} {held : Bool} {t : TypeId} {c : Value} {xs : List (DataW H × List MemPlace)} {i : Nat} (ht : Try.prog.underlying t = some .bool)
    (hi : i < xs.length) (h : DataW.trod enc Try.prog w base sp held fuel t [c] = xs[i]?) : ∃ b : Bool, c = .bool b := by
  rw [List.getElem?_eq_getElem hi] at h
  obtain ⟨b, hc, _⟩ := DataW.trod_bool ht h
  exact ⟨b, by simpa using hc⟩
theorem node_in {H : Type} {enc : TypeId × Value → H} {w : World} {base fuel : Nat} {sp : Nat → Bool} {held : Bool} {cs : List Value} {x : DataW H × List MemPlace}
    (h : DataW.trod enc Try.prog w base sp held fuel 56 cs = some x) : ∃ n : Nod, cs = n.cells.toList ∧ NodOk n := by
  obtain ⟨xs, n, _, _, hlen, hxl, hf⟩ := DataW.trod_struct Try.underlying56 h
  rw [show Try.prog.cellsOf 56 = 12 by kernel_rfl] at hlen
  replace hxl : xs.length = 12 := hxl
  match cs, hlen with
  | [c0, c1, c2, c3, c4, c5, c6, c7, c8, c9, c10, c11], _ =>
    have f0 : DataW.trod enc Try.prog w base sp held n 22 [c0] = xs[0]? := fld hf 0 _ 0 1 rfl (by kernel_rfl)
    have f1 : DataW.trod enc Try.prog w base sp held n 34 [c1] = xs[1]? := fld hf 1 _ 1 1 rfl (by kernel_rfl)
    have f2 : DataW.trod enc Try.prog w base sp held n 34 [c2] = xs[2]? := fld hf 2 _ 2 1 rfl (by kernel_rfl)
    have f3 : DataW.trod enc Try.prog w base sp held n 34 [c3] = xs[3]? := fld hf 3 _ 3 1 rfl (by kernel_rfl)
    have f4 : DataW.trod enc Try.prog w base sp held n 34 [c4] = xs[4]? := fld hf 4 _ 4 1 rfl (by kernel_rfl)
    have f5 : DataW.trod enc Try.prog w base sp held n 9 [c5] = xs[5]? := fld hf 5 _ 5 1 rfl (by kernel_rfl)
    have f6 : DataW.trod enc Try.prog w base sp held n 9 [c6] = xs[6]? := fld hf 6 _ 6 1 rfl (by kernel_rfl)
    have f7 : DataW.trod enc Try.prog w base sp held n 9 [c7] = xs[7]? := fld hf 7 _ 7 1 rfl (by kernel_rfl)
    have f8 : DataW.trod enc Try.prog w base sp held n 9 [c8] = xs[8]? := fld hf 8 _ 8 1 rfl (by kernel_rfl)
    have f9 : DataW.trod enc Try.prog w base sp held n 22 [c9] = xs[9]? := fld hf 9 _ 9 1 rfl (by kernel_rfl)
    have f10 : DataW.trod enc Try.prog w base sp held n 4 [c10] = xs[10]? := fld hf 10 _ 10 1 rfl (by kernel_rfl)
    have f11 : DataW.trod enc Try.prog w base sp held n 9 [c11] = xs[11]? := fld hf 11 _ 11 1 rfl (by kernel_rfl)
    obtain ⟨path, rfl, b0⟩ := field_in Try.underlying22 rfl (i := 0) (by omega) f0
    obtain ⟨vers, rfl, b1⟩ := field_in Try.underlying34 rfl (i := 1) (by omega) f1
    obtain ⟨mode, rfl, b2⟩ := field_in Try.underlying34 rfl (i := 2) (by omega) f2
    obtain ⟨atm, rfl, b3⟩ := field_in Try.underlying34 rfl (i := 3) (by omega) f3
    obtain ⟨mtm, rfl, b4⟩ := field_in Try.underlying34 rfl (i := 4) (by omega) f4
    obtain ⟨name, rfl, b5⟩ := field_str Try.underlying9 (i := 5) (by omega) f5
    obtain ⟨uid, rfl, b6⟩ := field_str Try.underlying9 (i := 6) (by omega) f6
    obtain ⟨gid, rfl, b7⟩ := field_str Try.underlying9 (i := 7) (by omega) f7
    obtain ⟨muid, rfl, b8⟩ := field_str Try.underlying9 (i := 8) (by omega) f8
    obtain ⟨up, rfl, b9⟩ := field_in Try.underlying22 rfl (i := 9) (by omega) f9
    obtain ⟨gone, rfl⟩ := field_bool Try.underlying4 (i := 10) (by omega) f10
    obtain ⟨data, rfl, b11⟩ := field_str Try.underlying9 (i := 11) (by omega) f11
    refine ⟨⟨path, vers, mode, atm, mtm, name, uid, gid, muid, up, gone, data⟩, rfl, ?_⟩
    simp only [show IntKind.u32.max = 4294967295 from rfl, show IntKind.u64.max = 18446744073709551615 from rfl] at *
    exact ⟨by show path < _; omega, by show vers < _; omega, by show mode < _; omega, by show atm < _; omega, by show mtm < _; omega, b5, b6, b7, b8, by show up < _; omega, b11⟩
end Go.Proofs.Ytpmlhmficmillaa
