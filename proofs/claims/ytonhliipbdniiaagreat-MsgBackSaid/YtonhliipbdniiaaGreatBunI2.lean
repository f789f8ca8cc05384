/- How the fields of what comes in to a law are told to its walk; a record. No condition.
How a message that comes in to a law is told to its walk. No condition. -/
import Derived.Test.YtonhliipbdniiaaGreatFrameKitZ
import Derived.Test.YtonhliipbdniiaaGreatBunC
import Derived.Test.YtonhliipbdniiaaGreatBunP
namespace Go.Proofs.YtonhliipbdniiaaGreat
section
open Go.ChangeShapes Go.WideShapes Go.ChangeAt Go.RowKit
set_option maxRecDepth 100000
set_option linter.unusedVariables false

theorem nat_of {k : IntKind} {n : Int} (h0 : k.min = 0) (h : (Lit.int k n).wf = true) : ∃ m : Nat, n = (m : Int) ∧ (m : Int) ≤ k.max := by
  simp only [Lit.wf, Bool.and_eq_true, decide_eq_true_eq] at h
  obtain ⟨h1, h2⟩ := h
  rw [h0] at h1
  obtain ⟨m, rfl⟩ := Int.eq_ofNat_of_zero_le h1
  exact ⟨m, rfl, h2⟩

theorem field_in {H : Type} {enc : TypeId × Value → H} {w : World} {base fuel : Nat} {sp : Nat → Bool} {held : Bool} {t : TypeId} {c : Value} {k : IntKind} {xs : List (DataW H × List MemPlace)} {i : Nat} (ht : Tryz.prog.underlying t = some (.int k)) (h0 : k.min = 0)
    (hi : i < xs.length) (h : DataW.trod enc Tryz.prog w base sp held fuel t [c] = xs[i]?) : ∃ m : Nat, c = .int k (m : Int) ∧ (m : Int) ≤ k.max := by
  rw [List.getElem?_eq_getElem hi] at h
  obtain ⟨n, hc, _, hw⟩ := DataW.trod_int ht h
  obtain ⟨m, rfl, hm⟩ := nat_of h0 hw
  exact ⟨m, by simpa using hc, hm⟩
theorem field_str {H : Type} {enc : TypeId × Value → H} {w : World} {base fuel : Nat} {sp : Nat → Bool} {held : Bool} {t : TypeId} {c : Value} {xs : List (DataW H × List MemPlace)} {i : Nat} (ht : Tryz.prog.underlying t = some .string)
    (hi : i < xs.length) (h : DataW.trod enc Tryz.prog w base sp held fuel t [c] = xs[i]?) : ∃ s : ByteArray, c = .string s ∧ s.size ≤ maxLen := by
  rw [List.getElem?_eq_getElem hi] at h
  obtain ⟨s, hc, _, hw⟩ := DataW.trod_string ht h
  exact ⟨s, by simpa using hc, hw⟩

theorem fld {H : Type} {enc : TypeId × Value → H} {P : Program} {w : World} {base n : Nat} {sp : Nat → Bool} {held : Bool} {cs : List Value} {xs : List (DataW H × List MemPlace)} {fs : Array Field}
    (hf : ∀ (i : Nat) (f : Field), fs[i]? = some f → DataW.trod enc P w base sp held n f.type ((cs.drop f.offset).take (P.cellsOf f.type)) = xs[i]?) (i : Nat) (t o k : Nat)
    (h : (fs[i]?).map (fun f => (f.type, f.offset)) = some (t, o)) (hc : P.cellsOf t = k) : DataW.trod enc P w base sp held n t ((cs.drop o).take k) = xs[i]? := by
  cases hfi : fs[i]? with
  | none => rw [hfi] at h; cases h
  | some f =>
    rw [hfi] at h
    simp only [Option.map_some, Option.some.injEq, Prod.mk.injEq] at h
    obtain ⟨rfl, rfl⟩ := h
    subst hc
    exact hf i f hfi

theorem stat_in {H : Type} {enc : TypeId × Value → H} {w : World} {base fuel : Nat} {sp : Nat → Bool} {held : Bool} {cs : List Value} {x : DataW H × List MemPlace}
    (h : DataW.trod enc Tryz.prog w base sp held fuel 31 cs = some x) : ∃ s : Stat, cs = s.cells.toList ∧ StatOk s := by
  obtain ⟨xs, n, _, _, hlen, hxl, hf⟩ := DataW.trod_struct Tryz.underlying31 h
  rw [show Tryz.prog.cellsOf 31 = 13 by kernel_rfl] at hlen
  replace hxl : xs.length = 11 := hxl
  match cs, hlen with
  | [c0, c1, c2, c3, c4, c5, c6, c7, c8, c9, c10, c11, c12], _ =>
  · have f0 : DataW.trod enc Tryz.prog w base sp held n 22 [c0] = xs[0]? := fld hf 0 _ 0 1 rfl (by kernel_rfl)
    have f1 : DataW.trod enc Tryz.prog w base sp held n 23 [c1] = xs[1]? := fld hf 1 _ 1 1 rfl (by kernel_rfl)
    have f2 : DataW.trod enc Tryz.prog w base sp held n 28 [c2, c3, c4] = xs[2]? := fld hf 2 _ 2 3 rfl (by kernel_rfl)
    have f3 : DataW.trod enc Tryz.prog w base sp held n 23 [c5] = xs[3]? := fld hf 3 _ 5 1 rfl (by kernel_rfl)
    have f4 : DataW.trod enc Tryz.prog w base sp held n 23 [c6] = xs[4]? := fld hf 4 _ 6 1 rfl (by kernel_rfl)
    have f5 : DataW.trod enc Tryz.prog w base sp held n 23 [c7] = xs[5]? := fld hf 5 _ 7 1 rfl (by kernel_rfl)
    have f6 : DataW.trod enc Tryz.prog w base sp held n 26 [c8] = xs[6]? := fld hf 6 _ 8 1 rfl (by kernel_rfl)
    have f7 : DataW.trod enc Tryz.prog w base sp held n 9 [c9] = xs[7]? := fld hf 7 _ 9 1 rfl (by kernel_rfl)
    have f8 : DataW.trod enc Tryz.prog w base sp held n 9 [c10] = xs[8]? := fld hf 8 _ 10 1 rfl (by kernel_rfl)
    have f9 : DataW.trod enc Tryz.prog w base sp held n 9 [c11] = xs[9]? := fld hf 9 _ 11 1 rfl (by kernel_rfl)
    have f10 : DataW.trod enc Tryz.prog w base sp held n 9 [c12] = xs[10]? := fld hf 10 _ 12 1 rfl (by kernel_rfl)
    obtain ⟨kind, rfl, b_kind⟩ := field_in Tryz.underlying22 rfl (i := 0) (by omega) f0
    obtain ⟨dev, rfl, b_dev⟩ := field_in Tryz.underlying23 rfl (i := 1) (by omega) f1
    obtain ⟨mode, rfl, b_mode⟩ := field_in Tryz.underlying23 rfl (i := 3) (by omega) f3
    obtain ⟨atm, rfl, b_atm⟩ := field_in Tryz.underlying23 rfl (i := 4) (by omega) f4
    obtain ⟨mtm, rfl, b_mtm⟩ := field_in Tryz.underlying23 rfl (i := 5) (by omega) f5
    obtain ⟨len, rfl, b_len⟩ := field_in Tryz.underlying26 rfl (i := 6) (by omega) f6
    obtain ⟨name, rfl, b_name⟩ := field_str Tryz.underlying9 (i := 7) (by omega) f7
    obtain ⟨uid, rfl, b_uid⟩ := field_str Tryz.underlying9 (i := 8) (by omega) f8
    obtain ⟨gid, rfl, b_gid⟩ := field_str Tryz.underlying9 (i := 9) (by omega) f9
    obtain ⟨muid, rfl, b_muid⟩ := field_str Tryz.underlying9 (i := 10) (by omega) f10
    rw [List.getElem?_eq_getElem (by omega)] at f2
    obtain ⟨ys, m, _, _, _, hyl, hg⟩ := DataW.trod_struct Tryz.underlying28 f2
    replace hyl : ys.length = 3 := hyl
    have g0 : DataW.trod enc Tryz.prog w base sp held m 5 [c2] = ys[0]? := fld hg 0 _ 0 1 rfl (by kernel_rfl)
    have g1 : DataW.trod enc Tryz.prog w base sp held m 23 [c3] = ys[1]? := fld hg 1 _ 1 1 rfl (by kernel_rfl)
    have g2 : DataW.trod enc Tryz.prog w base sp held m 26 [c4] = ys[2]? := fld hg 2 _ 2 1 rfl (by kernel_rfl)
    obtain ⟨qt, rfl, b_qt⟩ := field_in Tryz.underlying5 rfl (i := 0) (by omega) g0
    obtain ⟨qv, rfl, b_qv⟩ := field_in Tryz.underlying23 rfl (i := 1) (by omega) g1
    obtain ⟨qp, rfl, b_qp⟩ := field_in Tryz.underlying26 rfl (i := 2) (by omega) g2
    refine ⟨⟨kind, dev, qt, qv, qp, mode, atm, mtm, len, name, uid, gid, muid⟩, rfl, ?_⟩
    simp only [show IntKind.u8.max = 255 from rfl, show IntKind.u16.max = 65535 from rfl, show IntKind.u32.max = 4294967295 from rfl, show IntKind.u64.max = 18446744073709551615 from rfl] at *
    exact ⟨by show kind < _; omega, by show dev < _; omega, by show qt < _; omega, by show qv < _; omega, by show qp < _; omega, by show mode < _; omega, by show atm < _; omega, by show mtm < _; omega, by show len < _; omega, b_name, b_uid, b_gid, b_muid⟩

theorem flat_at {α β : Type} (f : α → List β) (n : Nat) : ∀ (L : List α) (_ : ∀ a ∈ L, (f a).length = n) (k j : Nat) (hk : k < L.length) (_ : j < n), (L.flatMap f)[k * n + j]? = (f L[k])[j]?
  | [], _, k, _, hk, _ => by simp at hk
  | a :: L, hf, 0, j, _, hj => by
    rw [List.flatMap_cons, List.getElem?_append_left (by rw [hf a (by simp)]; omega)]
    simp
  | a :: L, hf, k + 1, j, hk, hj => by
    have hl := hf a (by simp)
    rw [List.flatMap_cons, List.getElem?_append_right (by rw [hl, Nat.add_mul]; omega), hl, show (k + 1) * n + j - n = k * n + j by rw [Nat.add_mul]; omega]
    exact flat_at f n L (fun b hb => hf b (by simp [hb])) k j (by simpa using hk) hj
end
end Go.Proofs.YtonhliipbdniiaaGreat

namespace Go.Proofs.YtonhliipbdniiaaGreat
section
open Go.ChangeShapes Go.WideShapes Go.ChangeAt Go.RowKit
set_option maxRecDepth 100000
set_option linter.unusedVariables false

theorem strs_in {H : Type} {enc : TypeId × Value → H} {w : World} {r : Reach} {base fuel : Nat} {a : Option Addr} {len cap : Nat} {held : Bool} {x : DataW H × List MemPlace}
    (hv : Value.okWide Tryz.prog w r base 24 (.slice a len cap)) (hf : DataW.trod enc Tryz.prog w 0 (fun _ => true) held fuel 24 [.slice a len cap] = some x) : ∃ L, StrsAt w (.slice a len cap) L := by
  cases a with
  | none =>
    obtain ⟨rfl, rfl⟩ := okWide_none Tryz.underlying24 hv
    exact ⟨[], RowAt.nil⟩
  | some ad =>
    obtain ⟨hs, hb, h1, h2⟩ := okWide_addr Tryz.underlying24 hv
    obtain ⟨b, o, sp⟩ := ad
    simp only at hs
    subst hs
    rcases DataW.trod_slice Tryz.underlying24 hf with ⟨hcs, _⟩ | ⟨x, l, c, elems, rest, n, _, hcs, _, _, hl, hm, hel, hat, _⟩
    · simp at hcs
    · simp at hcs
      obtain ⟨rfl, rfl, rfl⟩ := hcs
      rw [show Tryz.prog.cellsOf 9 = 1 by kernel_rfl] at hat
      have hex : ∀ i : Fin len, ∃ s : ByteArray, w.cell? ⟨b, o + i.val, none⟩ = some (.string s) := fun i => by
        have hi := hat i.val i.isLt
        rw [List.getElem?_eq_getElem (by omega)] at hi
        obtain ⟨cs, hcs, ht⟩ := Option.bind_eq_some_iff.1 hi
        obtain ⟨s, hc, _, hw⟩ := DataW.trod_string Tryz.underlying9 ht
        obtain ⟨_, _, hcc⟩ := World.cells?_some hcs
        refine ⟨s, ?_⟩
        have := hcc 0 (by omega)
        rw [hc, add_plain', add_plain'] at this
        simpa [Nat.mul_one] using this
      obtain ⟨f, hfs⟩ : ∃ f : Fin len → ByteArray, ∀ i : Fin len, w.cell? ⟨b, o + i.val, none⟩ = some (.string (f i)) := ⟨fun i => (hex i).choose, fun i => (hex i).choose_spec⟩
      clear hex
      refine ⟨List.ofFn f, ?_⟩
      unfold StrsAt
      rw [List.length_ofFn]
      refine ⟨by simp, _, cap, rfl, h1, h2, fun h => (by cases h), fun _ h => (by cases h; exact ⟨rfl, hb⟩), fun i u hu => ⟨b, o, rfl, ?_⟩⟩
      have hlt : i < len := by
        have := (List.getElem?_eq_some_iff.1 hu).1
        simpa using this
      have hc := hfs ⟨i, hlt⟩
      simp only at hc
      rw [hc, ← hu]
      simp [hlt]

theorem qid_in {H : Type} {enc : TypeId × Value → H} {w : World} {base fuel : Nat} {sp : Nat → Bool} {held : Bool} {cs : List Value} {x : DataW H × List MemPlace}
    (h : DataW.trod enc Tryz.prog w base sp held fuel 28 cs = some x) : ∃ q : QidV, cs = q.cells.toList ∧ QidOk q := by
  obtain ⟨ys, m, _, _, hlen, hyl, hg⟩ := DataW.trod_struct Tryz.underlying28 h
  rw [show Tryz.prog.cellsOf 28 = 3 by kernel_rfl] at hlen
  replace hyl : ys.length = 3 := hyl
  match cs, hlen with
  | [c2, c3, c4], _ =>
    have g0 : DataW.trod enc Tryz.prog w base sp held m 5 [c2] = ys[0]? := fld hg 0 _ 0 1 rfl (by kernel_rfl)
    have g1 : DataW.trod enc Tryz.prog w base sp held m 23 [c3] = ys[1]? := fld hg 1 _ 1 1 rfl (by kernel_rfl)
    have g2 : DataW.trod enc Tryz.prog w base sp held m 26 [c4] = ys[2]? := fld hg 2 _ 2 1 rfl (by kernel_rfl)
    obtain ⟨qt, rfl, b_qt⟩ := field_in Tryz.underlying5 rfl (i := 0) (by omega) g0
    obtain ⟨qv, rfl, b_qv⟩ := field_in Tryz.underlying23 rfl (i := 1) (by omega) g1
    obtain ⟨qp, rfl, b_qp⟩ := field_in Tryz.underlying26 rfl (i := 2) (by omega) g2
    refine ⟨⟨qt, qv, qp⟩, rfl, ?_⟩
    simp only [show IntKind.u8.max = 255 from rfl, show IntKind.u32.max = 4294967295 from rfl, show IntKind.u64.max = 18446744073709551615 from rfl] at *
    exact ⟨by show qt < _; omega, by show qv < _; omega, by show qp < _; omega⟩

theorem qflat_len (l : List QidV) : (l.flatMap fun q => q.cells.toList).length = l.length * 3 := by
  induction l with
  | nil => rfl
  | cons s m ih => rw [List.flatMap_cons, List.length_append, ih]; simp [QidV.cells]; omega
theorem qids_in {H : Type} {enc : TypeId × Value → H} {w : World} {r : Reach} {base fuel : Nat} {a : Option Addr} {len cap : Nat} {held : Bool} {x : DataW H × List MemPlace}
    (hv : Value.okWide Tryz.prog w r base 25 (.slice a len cap)) (hf : DataW.trod enc Tryz.prog w 0 (fun _ => true) held fuel 25 [.slice a len cap] = some x) : ∃ L, QidsAt w (.slice a len cap) L ∧ ∀ q ∈ L, QidOk q := by
  cases a with
  | none =>
    obtain ⟨rfl, rfl⟩ := okWide_none Tryz.underlying25 hv
    exact ⟨[], RowAt.nil, by simp⟩
  | some ad =>
    obtain ⟨hs, hb, h1, h2⟩ := okWide_addr Tryz.underlying25 hv
    rcases DataW.trod_slice Tryz.underlying25 hf with ⟨hcs, _⟩ | ⟨x, l, c, elems, rest, n, _, hcs, _, _, hl, hm, hel, hat, _⟩
    · simp at hcs
    · simp at hcs
      obtain ⟨rfl, rfl, rfl⟩ := hcs
      rw [show Tryz.prog.cellsOf 28 = 3 by kernel_rfl] at hat
      have hex : ∀ i : Fin len, ∃ q : QidV, QidOk q ∧ ∀ j, j < 3 → w.cell? ((ad.add (i.val * 3)).add j) = q.cells[j]? := fun i => by
        have hi := hat i.val i.isLt
        rw [List.getElem?_eq_getElem (by omega)] at hi
        obtain ⟨cs, hcs, ht⟩ := Option.bind_eq_some_iff.1 hi
        obtain ⟨q, rfl, hok⟩ := qid_in ht
        refine ⟨q, hok, fun j hj => ?_⟩
        obtain ⟨_, _, hc⟩ := World.cells?_some hcs
        have := hc j hj
        simpa using this
      obtain ⟨f, hfs⟩ : ∃ f : Fin len → QidV, ∀ i, QidOk (f i) ∧ ∀ j, j < 3 → w.cell? ((ad.add (i.val * 3)).add j) = (f i).cells[j]? := ⟨fun i => (hex i).choose, fun i => (hex i).choose_spec⟩
      clear hex
      refine ⟨List.ofFn f, ?_, ?_⟩
      · unfold QidsAt
        rw [List.length_ofFn]
        obtain ⟨b, o, s⟩ := ad
        subst hs
        refine ⟨by rw [qflat_len, List.length_ofFn], _, cap, rfl, h1, h2, fun h => (by cases h), fun _ h => (by cases h; exact ⟨rfl, hb⟩), fun i u hu => ⟨b, o, rfl, ?_⟩⟩
        have hlt : i < len * 3 := by
          have := (List.getElem?_eq_some_iff.1 hu).1
          rwa [qflat_len, List.length_ofFn] at this
        have hk : i / 3 < len := by omega
        have hij : i / 3 * 3 + i % 3 = i := by omega
        rw [← hij] at hu ⊢
        rw [flat_at (fun q : QidV => q.cells.toList) 3 _ (fun _ _ => rfl) (i / 3) (i % 3) (by rw [List.length_ofFn]; exact hk) (by omega)] at hu
        have hc := (hfs ⟨i / 3, hk⟩).2 (i % 3) (by omega)
        rw [add_plain', add_plain', Nat.add_assoc] at hc
        rw [hc]
        simpa using hu
      · intro s hs
        obtain ⟨i, rfl⟩ := (List.mem_ofFn).1 hs
        exact (hfs i).1

/-- A cell of a struct is of its own type. -/
theorem cell_wide {w : World} {r : Reach} {base t u : Nat} {cs : Array Value} {ts : List TypeId} {i : Nat} {v : Value} (hr : Row.okWide Tryz.prog w r base t cs) (hts : Tryz.prog.cellTypes Tryz.prog.depth t = some ts) (hi : cs[i]? = some v) (hu : ts[i % ts.length]? = some u) : Cell.okWide Tryz.prog w r base u v := by
  obtain ⟨ts', h1, _, h3⟩ := hr
  rw [hts] at h1
  cases h1
  obtain ⟨u', h4, h5⟩ := h3 i v hi
  rw [hu] at h4
  cases h4
  exact h5

theorem list36 {α : Type} (l : List α) (h : l.length = 36) : ∃ c0 c1 c2 c3 c4 c5 c6 c7 c8 c9 c10 c11 c12 c13 c14 c15 c16 c17 c18 c19 c20 c21 c22 c23 c24 c25 c26 c27 c28 c29 c30 c31 c32 c33 c34 c35, l = [c0, c1, c2, c3, c4, c5, c6, c7, c8, c9, c10, c11, c12, c13, c14, c15, c16, c17, c18, c19, c20, c21, c22, c23, c24, c25, c26, c27, c28, c29, c30, c31, c32, c33, c34, c35] := by
  obtain ⟨c0, t0, e0⟩ := List.exists_cons_of_length_eq_add_one h
  rw [e0, List.length_cons] at h
  replace h := Nat.succ.inj h
  obtain ⟨c1, t1, e1⟩ := List.exists_cons_of_length_eq_add_one h
  rw [e1, List.length_cons] at h
  replace h := Nat.succ.inj h
  obtain ⟨c2, t2, e2⟩ := List.exists_cons_of_length_eq_add_one h
  rw [e2, List.length_cons] at h
  replace h := Nat.succ.inj h
  obtain ⟨c3, t3, e3⟩ := List.exists_cons_of_length_eq_add_one h
  rw [e3, List.length_cons] at h
  replace h := Nat.succ.inj h
  obtain ⟨c4, t4, e4⟩ := List.exists_cons_of_length_eq_add_one h
  rw [e4, List.length_cons] at h
  replace h := Nat.succ.inj h
  obtain ⟨c5, t5, e5⟩ := List.exists_cons_of_length_eq_add_one h
  rw [e5, List.length_cons] at h
  replace h := Nat.succ.inj h
  obtain ⟨c6, t6, e6⟩ := List.exists_cons_of_length_eq_add_one h
  rw [e6, List.length_cons] at h
  replace h := Nat.succ.inj h
  obtain ⟨c7, t7, e7⟩ := List.exists_cons_of_length_eq_add_one h
  rw [e7, List.length_cons] at h
  replace h := Nat.succ.inj h
  obtain ⟨c8, t8, e8⟩ := List.exists_cons_of_length_eq_add_one h
  rw [e8, List.length_cons] at h
  replace h := Nat.succ.inj h
  obtain ⟨c9, t9, e9⟩ := List.exists_cons_of_length_eq_add_one h
  rw [e9, List.length_cons] at h
  replace h := Nat.succ.inj h
  obtain ⟨c10, t10, e10⟩ := List.exists_cons_of_length_eq_add_one h
  rw [e10, List.length_cons] at h
  replace h := Nat.succ.inj h
  obtain ⟨c11, t11, e11⟩ := List.exists_cons_of_length_eq_add_one h
  rw [e11, List.length_cons] at h
  replace h := Nat.succ.inj h
  obtain ⟨c12, t12, e12⟩ := List.exists_cons_of_length_eq_add_one h
  rw [e12, List.length_cons] at h
  replace h := Nat.succ.inj h
  obtain ⟨c13, t13, e13⟩ := List.exists_cons_of_length_eq_add_one h
  rw [e13, List.length_cons] at h
  replace h := Nat.succ.inj h
  obtain ⟨c14, t14, e14⟩ := List.exists_cons_of_length_eq_add_one h
  rw [e14, List.length_cons] at h
  replace h := Nat.succ.inj h
  obtain ⟨c15, t15, e15⟩ := List.exists_cons_of_length_eq_add_one h
  rw [e15, List.length_cons] at h
  replace h := Nat.succ.inj h
  obtain ⟨c16, t16, e16⟩ := List.exists_cons_of_length_eq_add_one h
  rw [e16, List.length_cons] at h
  replace h := Nat.succ.inj h
  obtain ⟨c17, t17, e17⟩ := List.exists_cons_of_length_eq_add_one h
  rw [e17, List.length_cons] at h
  replace h := Nat.succ.inj h
  obtain ⟨c18, t18, e18⟩ := List.exists_cons_of_length_eq_add_one h
  rw [e18, List.length_cons] at h
  replace h := Nat.succ.inj h
  obtain ⟨c19, t19, e19⟩ := List.exists_cons_of_length_eq_add_one h
  rw [e19, List.length_cons] at h
  replace h := Nat.succ.inj h
  obtain ⟨c20, t20, e20⟩ := List.exists_cons_of_length_eq_add_one h
  rw [e20, List.length_cons] at h
  replace h := Nat.succ.inj h
  obtain ⟨c21, t21, e21⟩ := List.exists_cons_of_length_eq_add_one h
  rw [e21, List.length_cons] at h
  replace h := Nat.succ.inj h
  obtain ⟨c22, t22, e22⟩ := List.exists_cons_of_length_eq_add_one h
  rw [e22, List.length_cons] at h
  replace h := Nat.succ.inj h
  obtain ⟨c23, t23, e23⟩ := List.exists_cons_of_length_eq_add_one h
  rw [e23, List.length_cons] at h
  replace h := Nat.succ.inj h
  obtain ⟨c24, t24, e24⟩ := List.exists_cons_of_length_eq_add_one h
  rw [e24, List.length_cons] at h
  replace h := Nat.succ.inj h
  obtain ⟨c25, t25, e25⟩ := List.exists_cons_of_length_eq_add_one h
  rw [e25, List.length_cons] at h
  replace h := Nat.succ.inj h
  obtain ⟨c26, t26, e26⟩ := List.exists_cons_of_length_eq_add_one h
  rw [e26, List.length_cons] at h
  replace h := Nat.succ.inj h
  obtain ⟨c27, t27, e27⟩ := List.exists_cons_of_length_eq_add_one h
  rw [e27, List.length_cons] at h
  replace h := Nat.succ.inj h
  obtain ⟨c28, t28, e28⟩ := List.exists_cons_of_length_eq_add_one h
  rw [e28, List.length_cons] at h
  replace h := Nat.succ.inj h
  obtain ⟨c29, t29, e29⟩ := List.exists_cons_of_length_eq_add_one h
  rw [e29, List.length_cons] at h
  replace h := Nat.succ.inj h
  obtain ⟨c30, t30, e30⟩ := List.exists_cons_of_length_eq_add_one h
  rw [e30, List.length_cons] at h
  replace h := Nat.succ.inj h
  obtain ⟨c31, t31, e31⟩ := List.exists_cons_of_length_eq_add_one h
  rw [e31, List.length_cons] at h
  replace h := Nat.succ.inj h
  obtain ⟨c32, t32, e32⟩ := List.exists_cons_of_length_eq_add_one h
  rw [e32, List.length_cons] at h
  replace h := Nat.succ.inj h
  obtain ⟨c33, t33, e33⟩ := List.exists_cons_of_length_eq_add_one h
  rw [e33, List.length_cons] at h
  replace h := Nat.succ.inj h
  obtain ⟨c34, t34, e34⟩ := List.exists_cons_of_length_eq_add_one h
  rw [e34, List.length_cons] at h
  replace h := Nat.succ.inj h
  obtain ⟨c35, t35, e35⟩ := List.exists_cons_of_length_eq_add_one h
  rw [e35, List.length_cons] at h
  replace h := Nat.succ.inj h
  have e36 := List.eq_nil_of_length_eq_zero h
  exact ⟨_, _, _, _, _, _, _, _, _, _, _, _, _, _, _, _, _, _, _, _, _, _, _, _, _, _, _, _, _, _, _, _, _, _, _, _, by rw [e0, e1, e2, e3, e4, e5, e6, e7, e8, e9, e10, e11, e12, e13, e14, e15, e16, e17, e18, e19, e20, e21, e22, e23, e24, e25, e26, e27, e28, e29, e30, e31, e32, e33, e34, e35, e36]⟩
set_option maxHeartbeats 1600000 in
theorem msg_in {H : Type} {enc : TypeId × Value → H} {w : World} {r : Reach} {base fuel : Nat} {held : Bool} {cs : Array Value} {x : DataW H × List MemPlace}
    (hv : Value.okWide Tryz.prog w r base 33 (.agg cs)) (h : DataW.trod enc Tryz.prog w 0 (fun _ => true) held fuel 33 cs.toList = some x) : ∃ a : MV, cs = a.cells ∧ MOk a.m ∧ a.At w := by
  have hrow : Row.okWide Tryz.prog w r base 33 cs := by
    simp only [Value.okWide, Tryz.underlying33] at hv
    obtain ⟨cs', h1, _, h3⟩ := hv
    cases h1
    exact h3
  obtain ⟨xs, n, _, _, hlen, hxl, hf⟩ := DataW.trod_struct Tryz.underlying33 h
  rw [show Tryz.prog.cellsOf 33 = 36 by kernel_rfl] at hlen
  replace hxl : xs.length = 22 := hxl
  obtain ⟨cl⟩ := cs
  simp only at hlen hf h
  obtain ⟨c0, c1, c2, c3, c4, c5, c6, c7, c8, c9, c10, c11, c12, c13, c14, c15, c16, c17, c18, c19, c20, c21, c22, c23, c24, c25, c26, c27, c28, c29, c30, c31, c32, c33, c34, c35, rfl⟩ := list36 cl hlen

  · have f0 : DataW.trod enc Tryz.prog w 0 (fun _ => true) held n 5 [c0] = xs[0]? := fld hf 0 _ 0 1 rfl (by kernel_rfl)
    have f1 : DataW.trod enc Tryz.prog w 0 (fun _ => true) held n 22 [c1] = xs[1]? := fld hf 1 _ 1 1 rfl (by kernel_rfl)
    have f2 : DataW.trod enc Tryz.prog w 0 (fun _ => true) held n 23 [c2] = xs[2]? := fld hf 2 _ 2 1 rfl (by kernel_rfl)
    have f3 : DataW.trod enc Tryz.prog w 0 (fun _ => true) held n 9 [c3] = xs[3]? := fld hf 3 _ 3 1 rfl (by kernel_rfl)
    have f4 : DataW.trod enc Tryz.prog w 0 (fun _ => true) held n 23 [c4] = xs[4]? := fld hf 4 _ 4 1 rfl (by kernel_rfl)
    have f5 : DataW.trod enc Tryz.prog w 0 (fun _ => true) held n 23 [c5] = xs[5]? := fld hf 5 _ 5 1 rfl (by kernel_rfl)
    have f6 : DataW.trod enc Tryz.prog w 0 (fun _ => true) held n 23 [c6] = xs[6]? := fld hf 6 _ 6 1 rfl (by kernel_rfl)
    have f7 : DataW.trod enc Tryz.prog w 0 (fun _ => true) held n 9 [c7] = xs[7]? := fld hf 7 _ 7 1 rfl (by kernel_rfl)
    have f8 : DataW.trod enc Tryz.prog w 0 (fun _ => true) held n 9 [c8] = xs[8]? := fld hf 8 _ 8 1 rfl (by kernel_rfl)
    have f9 : DataW.trod enc Tryz.prog w 0 (fun _ => true) held n 9 [c9] = xs[9]? := fld hf 9 _ 9 1 rfl (by kernel_rfl)
    have f10 : DataW.trod enc Tryz.prog w 0 (fun _ => true) held n 22 [c10] = xs[10]? := fld hf 10 _ 10 1 rfl (by kernel_rfl)
    have f11 : DataW.trod enc Tryz.prog w 0 (fun _ => true) held n 24 [c11] = xs[11]? := fld hf 11 _ 11 1 rfl (by kernel_rfl)
    have f12 : DataW.trod enc Tryz.prog w 0 (fun _ => true) held n 25 [c12] = xs[12]? := fld hf 12 _ 12 1 rfl (by kernel_rfl)
    have f13 : DataW.trod enc Tryz.prog w 0 (fun _ => true) held n 28 [c13, c14, c15] = xs[13]? := fld hf 13 _ 13 3 rfl (by kernel_rfl)
    have f14 : DataW.trod enc Tryz.prog w 0 (fun _ => true) held n 23 [c16] = xs[14]? := fld hf 14 _ 16 1 rfl (by kernel_rfl)
    have f15 : DataW.trod enc Tryz.prog w 0 (fun _ => true) held n 5 [c17] = xs[15]? := fld hf 15 _ 17 1 rfl (by kernel_rfl)
    have f16 : DataW.trod enc Tryz.prog w 0 (fun _ => true) held n 23 [c18] = xs[16]? := fld hf 16 _ 18 1 rfl (by kernel_rfl)
    have f17 : DataW.trod enc Tryz.prog w 0 (fun _ => true) held n 9 [c19] = xs[17]? := fld hf 17 _ 19 1 rfl (by kernel_rfl)
    have f18 : DataW.trod enc Tryz.prog w 0 (fun _ => true) held n 26 [c20] = xs[18]? := fld hf 18 _ 20 1 rfl (by kernel_rfl)
    have f19 : DataW.trod enc Tryz.prog w 0 (fun _ => true) held n 23 [c21] = xs[19]? := fld hf 19 _ 21 1 rfl (by kernel_rfl)
    have f20 : DataW.trod enc Tryz.prog w 0 (fun _ => true) held n 29 [c22] = xs[20]? := fld hf 20 _ 22 1 rfl (by kernel_rfl)
    have f21 : DataW.trod enc Tryz.prog w 0 (fun _ => true) held n 31 [c23, c24, c25, c26, c27, c28, c29, c30, c31, c32, c33, c34, c35] = xs[21]? := fld hf 21 _ 23 13 rfl (by kernel_rfl)
    obtain ⟨ty', rfl, b0⟩ := field_in Tryz.underlying5 rfl (i := 0) (by omega) f0
    obtain ⟨tag', rfl, b1⟩ := field_in Tryz.underlying22 rfl (i := 1) (by omega) f1
    obtain ⟨msize', rfl, b2⟩ := field_in Tryz.underlying23 rfl (i := 2) (by omega) f2
    obtain ⟨version', rfl, b3⟩ := field_str Tryz.underlying9 (i := 3) (by omega) f3
    obtain ⟨fid', rfl, b4⟩ := field_in Tryz.underlying23 rfl (i := 4) (by omega) f4
    obtain ⟨afid', rfl, b5⟩ := field_in Tryz.underlying23 rfl (i := 5) (by omega) f5
    obtain ⟨new', rfl, b6⟩ := field_in Tryz.underlying23 rfl (i := 6) (by omega) f6
    obtain ⟨uname', rfl, b7⟩ := field_str Tryz.underlying9 (i := 7) (by omega) f7
    obtain ⟨aname', rfl, b8⟩ := field_str Tryz.underlying9 (i := 8) (by omega) f8
    obtain ⟨ename', rfl, b9⟩ := field_str Tryz.underlying9 (i := 9) (by omega) f9
    obtain ⟨old', rfl, b10⟩ := field_in Tryz.underlying22 rfl (i := 10) (by omega) f10
    obtain ⟨iounit', rfl, b14⟩ := field_in Tryz.underlying23 rfl (i := 14) (by omega) f14
    obtain ⟨mode', rfl, b15⟩ := field_in Tryz.underlying5 rfl (i := 15) (by omega) f15
    obtain ⟨perm', rfl, b16⟩ := field_in Tryz.underlying23 rfl (i := 16) (by omega) f16
    obtain ⟨name', rfl, b17⟩ := field_str Tryz.underlying9 (i := 17) (by omega) f17
    obtain ⟨offset', rfl, b18⟩ := field_in Tryz.underlying26 rfl (i := 18) (by omega) f18
    obtain ⟨count', rfl, b19⟩ := field_in Tryz.underlying23 rfl (i := 19) (by omega) f19
    rw [List.getElem?_eq_getElem (by omega)] at f13
    obtain ⟨qid', hqid, b13⟩ := qid_in f13
    rw [List.getElem?_eq_getElem (by omega)] at f21
    obtain ⟨stat', hstat, b21⟩ := stat_in f21
    have hts : Tryz.prog.cellTypes Tryz.prog.depth 33 = some [5, 22, 23, 9, 23, 23, 23, 9, 9, 9, 22, 24, 25, 5, 23, 26, 23, 5, 23, 9, 26, 23, 29, 22, 23, 5, 23, 26, 23, 23, 23, 26, 9, 9, 9, 9] := by kernel_rfl
    have v11 : Value.okWide Tryz.prog w r base 24 c11 := by
      have := cell_wide (i := 11) hrow hts rfl rfl
      simp only [Value.okWide, Tryz.underlying24]
      exact this
    obtain ⟨a11, l11, k11, rfl⟩ := okWide_slice Tryz.underlying24 v11
    rw [List.getElem?_eq_getElem (by omega)] at f11
    have v12 : Value.okWide Tryz.prog w r base 25 c12 := by
      have := cell_wide (i := 12) hrow hts rfl rfl
      simp only [Value.okWide, Tryz.underlying25]
      exact this
    obtain ⟨a12, l12, k12, rfl⟩ := okWide_slice Tryz.underlying25 v12
    rw [List.getElem?_eq_getElem (by omega)] at f12
    have v20 : Value.okWide Tryz.prog w r base 29 c22 := by
      have := cell_wide (i := 22) hrow hts rfl rfl
      simp only [Value.okWide, Tryz.underlying29]
      exact this
    obtain ⟨a20, l20, k20, rfl⟩ := okWide_slice Tryz.underlying29 v20
    rw [List.getElem?_eq_getElem (by omega)] at f20
    obtain ⟨names', hN⟩ := strs_in v11 f11
    obtain ⟨qids', hQ, hQo⟩ := qids_in v12 f12
    obtain ⟨data', hD⟩ := bytes_in v20 ⟨n, f20⟩
    refine ⟨⟨⟨ty', tag', msize', version', fid', afid', new', uname', aname', ename', old', names', qids', qid', iounit', mode', perm', name', offset', count', data', stat'⟩, .slice a11 l11 k11, .slice a12 l12 k12, .slice a20 l20 k20⟩, ?_, ?_, hN, hQ, hD⟩
    · simp only [QidV.cells, Stat.cells, List.cons.injEq, and_true] at hqid hstat
      obtain ⟨rfl, rfl, rfl⟩ := hqid
      obtain ⟨rfl, rfl, rfl, rfl, rfl, rfl, rfl, rfl, rfl, rfl, rfl, rfl, rfl⟩ := hstat
      rfl
    · simp only [show IntKind.u8.max = 255 from rfl, show IntKind.u16.max = 65535 from rfl, show IntKind.u32.max = 4294967295 from rfl, show IntKind.u64.max = 18446744073709551615 from rfl] at *
      exact ⟨by show ty' < _; omega, by show tag' < _; omega, by show msize' < _; omega, by show fid' < _; omega, by show afid' < _; omega, by show new' < _; omega, by show old' < _; omega, hQo, b13, by show iounit' < _; omega, by show mode' < _; omega, by show perm' < _; omega, by show offset' < _; omega, by show count' < _; omega, b21⟩
end
end Go.Proofs.YtonhliipbdniiaaGreat
