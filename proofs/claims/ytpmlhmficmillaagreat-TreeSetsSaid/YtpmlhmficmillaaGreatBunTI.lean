/- How slices of bools and of nodes, and trees, that come in to a law are told to its walk. No condition.
How a tree, an act and a slice of acts that come in to a law are told to its walk. No condition. -/
import Derived.Test.YtpmlhmficmillaaGreatBunI2
import Derived.Test.YtpmlhmficmillaaGreatBunUs
import Derived.SizedLaws
import Derived.Test.YtpmlhmficmillaaGreatBunLA
namespace Go.Proofs.YtpmlhmficmillaaGreat
section
open Go.ChangeShapes Go.WideShapes Go.ChangeAt Go.RowKit
set_option maxRecDepth 100000
set_option linter.unusedVariables false

theorem flat_len_of {α β : Type} (f : α → List β) (k : Nat) (hk : ∀ a, (f a).length = k) (L : List α) : (L.flatMap f).length = L.length * k := by
  induction L with
  | nil => simp
  | cons s m ih => rw [List.flatMap_cons, List.length_append, ih, hk, List.length_cons, Nat.add_mul]; omega
theorem cell_spot {w : World} {a : Addr} {u : Value} (h : w.cell? a = some u) : a.spot = none := by
  unfold World.cell? at h
  split at h
  · split at h
    · cases h
    · rename_i hs
      simpa using hs
  · cases h

theorem rows_in {α H : Type} {enc : TypeId × Value → H} {w : World} {base fuel : Nat} {held : Bool} {t e : TypeId} {cs : List Value} {x : DataW H × List MemPlace} (f : α → List Value) (R : α → Prop) (k : Nat) (hk : ∀ a, (f a).length = k) (hk0 : 0 < k)
    (ht : Tryz.prog.underlying t = some (.slice e)) (hc : Tryz.prog.cellsOf e = k) (hel : ∀ n cs x, DataW.trod enc Tryz.prog w base (fun _ => true) held n e cs = some x → ∃ a, cs = f a ∧ R a)
    (h : DataW.trod enc Tryz.prog w base (fun _ => true) held fuel t cs = some x) : ∃ (v : Value) (L : List α), cs = [v] ∧ RowW w k v L.length (L.flatMap f) ∧ ∀ a ∈ L, R a := by
  rcases DataW.trod_slice ht h with ⟨rfl, _⟩ | ⟨ad, len, cap, elems, rest, n, _, rfl, _, _, hl, hm, hlen, hat, _⟩
  · exact ⟨_, [], rfl, RowAt.nil.weak, fun _ h => by cases h⟩
  · rw [hc] at hat
    have hex : ∀ i : Fin len, ∃ a : α, R a ∧ ∀ j, j < k → w.cell? ((ad.add (i.val * k)).add j) = (f a)[j]? := fun i => by
      have hi := hat i.val i.isLt
      rw [List.getElem?_eq_getElem (by omega)] at hi
      obtain ⟨cs, hcs, ht⟩ := Option.bind_eq_some_iff.1 hi
      obtain ⟨q, rfl, hok⟩ := hel _ _ _ ht
      obtain ⟨_, _, hc⟩ := World.cells?_some hcs
      exact ⟨q, hok, fun j hj => hc j hj⟩
    obtain ⟨g, hgs⟩ : ∃ g : Fin len → α, ∀ i, R (g i) ∧ ∀ j, j < k → w.cell? ((ad.add (i.val * k)).add j) = (f (g i))[j]? := ⟨fun i => (hex i).choose, fun i => (hex i).choose_spec⟩
    clear hex
    refine ⟨_, List.ofFn g, rfl, ?_, ?_⟩
    · rw [List.length_ofFn]
      refine ⟨by rw [flat_len_of f k hk, List.length_ofFn], _, cap, rfl, hl, hm, fun h => (by cases h), fun i u hu => ?_⟩
      have hlt : i < len * k := by
        have := (List.getElem?_eq_some_iff.1 hu).1
        rwa [flat_len_of f k hk, List.length_ofFn] at this
      have hk1 : i / k < len := Nat.div_lt_of_lt_mul (by rw [Nat.mul_comm]; exact hlt)
      have hij : i / k * k + i % k = i := by rw [Nat.mul_comm]; exact Nat.div_add_mod i k
      have hpos : 0 < len := Nat.lt_of_le_of_lt (Nat.zero_le _) hk1
      have hsp : ad.spot = none := by
        have h0 := (hgs ⟨0, hpos⟩).2 0 hk0
        rw [List.getElem?_eq_getElem (by rw [hk]; exact hk0)] at h0
        have h1 := cell_spot h0
        simpa [Addr.add] using h1
      obtain ⟨b, o, s⟩ := ad
      simp only at hsp
      subst hsp
      refine ⟨b, o, rfl, ?_⟩
      have hjk : i % k < k := Nat.mod_lt _ hk0
      have hc := (hgs ⟨i / k, hk1⟩).2 (i % k) hjk
      rw [add_plain', add_plain', Nat.add_assoc] at hc
      simp only at hc
      rw [hij] at hc
      rw [hc]
      rw [← hij, flat_at f k _ (fun a _ => hk a) (i / k) (i % k) (by rw [List.length_ofFn]; exact hk1) hjk] at hu
      rw [← hu]
      simp
    · intro a ha
      obtain ⟨i, rfl⟩ := (List.mem_ofFn).1 ha
      exact (hgs i).1

theorem field_bool {H : Type} {enc : TypeId × Value → H} {w : World} {base fuel : Nat} {sp : Nat → Bool} {held : Bool} {t : TypeId} {c : Value} {xs : List (DataW H × List MemPlace)} {i : Nat} (ht : Tryz.prog.underlying t = some .bool)
    (hi : i < xs.length) (h : DataW.trod enc Tryz.prog w base sp held fuel t [c] = xs[i]?) : ∃ b : Bool, c = .bool b := by
  rw [List.getElem?_eq_getElem hi] at h
  obtain ⟨b, hc, _⟩ := DataW.trod_bool ht h
  exact ⟨b, by simpa using hc⟩
theorem node_in {H : Type} {enc : TypeId × Value → H} {w : World} {base fuel : Nat} {sp : Nat → Bool} {held : Bool} {cs : List Value} {x : DataW H × List MemPlace}
    (h : DataW.trod enc Tryz.prog w base sp held fuel 28 cs = some x) : ∃ n : Nod, cs = n.cells.toList ∧ NodOk n := by
  obtain ⟨xs, n, _, _, hlen, hxl, hf⟩ := DataW.trod_struct Tryz.underlying28 h
  rw [show Tryz.prog.cellsOf 28 = 12 by kernel_rfl] at hlen
  replace hxl : xs.length = 12 := hxl
  match cs, hlen with
  | [c0, c1, c2, c3, c4, c5, c6, c7, c8, c9, c10, c11], _ =>
    have f0 : DataW.trod enc Tryz.prog w base sp held n 22 [c0] = xs[0]? := fld hf 0 _ 0 1 rfl (by kernel_rfl)
    have f1 : DataW.trod enc Tryz.prog w base sp held n 26 [c1] = xs[1]? := fld hf 1 _ 1 1 rfl (by kernel_rfl)
    have f2 : DataW.trod enc Tryz.prog w base sp held n 26 [c2] = xs[2]? := fld hf 2 _ 2 1 rfl (by kernel_rfl)
    have f3 : DataW.trod enc Tryz.prog w base sp held n 26 [c3] = xs[3]? := fld hf 3 _ 3 1 rfl (by kernel_rfl)
    have f4 : DataW.trod enc Tryz.prog w base sp held n 26 [c4] = xs[4]? := fld hf 4 _ 4 1 rfl (by kernel_rfl)
    have f5 : DataW.trod enc Tryz.prog w base sp held n 9 [c5] = xs[5]? := fld hf 5 _ 5 1 rfl (by kernel_rfl)
    have f6 : DataW.trod enc Tryz.prog w base sp held n 9 [c6] = xs[6]? := fld hf 6 _ 6 1 rfl (by kernel_rfl)
    have f7 : DataW.trod enc Tryz.prog w base sp held n 9 [c7] = xs[7]? := fld hf 7 _ 7 1 rfl (by kernel_rfl)
    have f8 : DataW.trod enc Tryz.prog w base sp held n 9 [c8] = xs[8]? := fld hf 8 _ 8 1 rfl (by kernel_rfl)
    have f9 : DataW.trod enc Tryz.prog w base sp held n 22 [c9] = xs[9]? := fld hf 9 _ 9 1 rfl (by kernel_rfl)
    have f10 : DataW.trod enc Tryz.prog w base sp held n 4 [c10] = xs[10]? := fld hf 10 _ 10 1 rfl (by kernel_rfl)
    have f11 : DataW.trod enc Tryz.prog w base sp held n 9 [c11] = xs[11]? := fld hf 11 _ 11 1 rfl (by kernel_rfl)
    obtain ⟨path, rfl, b0⟩ := field_in Tryz.underlying22 rfl (i := 0) (by omega) f0
    obtain ⟨vers, rfl, b1⟩ := field_in Tryz.underlying26 rfl (i := 1) (by omega) f1
    obtain ⟨mode, rfl, b2⟩ := field_in Tryz.underlying26 rfl (i := 2) (by omega) f2
    obtain ⟨atm, rfl, b3⟩ := field_in Tryz.underlying26 rfl (i := 3) (by omega) f3
    obtain ⟨mtm, rfl, b4⟩ := field_in Tryz.underlying26 rfl (i := 4) (by omega) f4
    obtain ⟨name, rfl, b5⟩ := field_str Tryz.underlying9 (i := 5) (by omega) f5
    obtain ⟨uid, rfl, b6⟩ := field_str Tryz.underlying9 (i := 6) (by omega) f6
    obtain ⟨gid, rfl, b7⟩ := field_str Tryz.underlying9 (i := 7) (by omega) f7
    obtain ⟨muid, rfl, b8⟩ := field_str Tryz.underlying9 (i := 8) (by omega) f8
    obtain ⟨up, rfl, b9⟩ := field_in Tryz.underlying22 rfl (i := 9) (by omega) f9
    obtain ⟨gone, rfl⟩ := field_bool Tryz.underlying4 (i := 10) (by omega) f10
    obtain ⟨data, rfl, b11⟩ := field_str Tryz.underlying9 (i := 11) (by omega) f11
    refine ⟨⟨path, vers, mode, atm, mtm, name, uid, gid, muid, up, gone, data⟩, rfl, ?_⟩
    simp only [show IntKind.u32.max = 4294967295 from rfl, show IntKind.u64.max = 18446744073709551615 from rfl] at *
    exact ⟨by show path < _; omega, by show vers < _; omega, by show mode < _; omega, by show atm < _; omega, by show mtm < _; omega, b5, b6, b7, b8, by show up < _; omega, b11⟩
theorem nodes_in {H : Type} {enc : TypeId × Value → H} {w : World} {base fuel : Nat} {held : Bool} {cs : List Value} {x : DataW H × List MemPlace}
    (h : DataW.trod enc Tryz.prog w base (fun _ => true) held fuel 23 cs = some x) : ∃ v l, cs = [v] ∧ NodsAt w v l ∧ ∀ n ∈ l, NodOk n := by
  obtain ⟨v, L, hcs, hr, hok⟩ := rows_in (fun n : Nod => n.cells.toList) NodOk 12 (fun _ => rfl) (by decide) Tryz.underlying23 (by kernel_rfl) (fun n cs x h => node_in h) h
  exact ⟨v, L, hcs, hr, hok⟩
end
end Go.Proofs.YtpmlhmficmillaaGreat

namespace Go.Proofs.YtpmlhmficmillaaGreat
section
open Go.ChangeShapes Go.WideShapes Go.ChangeAt Go.RowKit
set_option maxRecDepth 100000
set_option linter.unusedVariables false

theorem tree_in {H : Type} {enc : TypeId × Value → H} {w : World} {base fuel : Nat} {held : Bool} {cs : List Value} {x : DataW H × List MemPlace}
    (h : DataW.trod enc Tryz.prog w base (fun _ => true) held fuel 25 cs = some x) : ∃ (nx : Nat) (v : Value) (l : List Nod), cs = [.int .u64 (nx : Int), v] ∧ nx < 18446744073709551616 ∧ NodsAt w v l ∧ ∀ n ∈ l, NodOk n := by
  obtain ⟨xs, n, _, _, hlen, hxl, hf⟩ := DataW.trod_struct Tryz.underlying25 h
  rw [show Tryz.prog.cellsOf 25 = 2 by kernel_rfl] at hlen
  replace hxl : xs.length = 2 := hxl
  match cs, hlen with
  | [c0, c1], _ =>
    have f0 : DataW.trod enc Tryz.prog w base (fun _ => true) held n 22 [c0] = xs[0]? := fld hf 0 _ 0 1 rfl (by kernel_rfl)
    have f1 : DataW.trod enc Tryz.prog w base (fun _ => true) held n 23 [c1] = xs[1]? := fld hf 1 _ 1 1 rfl (by kernel_rfl)
    obtain ⟨nx, rfl, b0⟩ := field_in Tryz.underlying22 rfl (i := 0) (by omega) f0
    rw [List.getElem?_eq_getElem (show 1 < xs.length by omega)] at f1
    obtain ⟨v, l, hcs, hr, hok⟩ := nodes_in f1
    simp at hcs
    subst hcs
    refine ⟨nx, c1, l, rfl, ?_, hr, hok⟩
    have : IntKind.u64.max = 18446744073709551615 := rfl
    omega
end
end Go.Proofs.YtpmlhmficmillaaGreat
