/- How the fields of what comes in to a law are told to its walk; a record. No condition. And the texts behind it. -/
import Derived.Test.YtcmajcljafmphaaGreatKtA47
import Derived.Test.YtcmajcljafmphaaGreatKtA13
import Derived.Test.YtcmajcljafmphaaGreatKtA05
import Derived.SizedLaws
import Derived.Test.YtcmajcljafmphaaGreatKtA22
import Derived.Test.YtcmajcljafmphaaGreatKtA35
import Derived.Test.YtcmajcljafmphaaGreatKtA39
import Derived.Test.YtcmajcljafmphaaGreatKtA40
namespace Go.Proofs.YtcmajcljafmphaaGreat
section
open Go.ChangeShapes Go.WideShapes Go.ChangeAt Go.RowKit
set_option maxRecDepth 100000
set_option linter.unusedVariables false

theorem nat_of {k : IntKind} {n : Int} (h0 : k.min = 0) (h : (Lit.int k n).wf = true) : ∃ m : Nat, n = (m : Int) ∧ (m : Int) ≤ k.max := by
  simp only [Lit.wf, Bool.and_eq_true, decide_eq_true_eq] at h
  obtain ⟨h1, h2⟩ := h
  rw [h0] at h1
  obtain ⟨m, rfl⟩ := Int.eq_ofNat_of_zero_le h1
  exact ⟨m, rfl, h2⟩

theorem field_in {H : Type} {enc : TypeId × Value → H} {w : World} {base fuel : Nat} {sp : Nat → Bool} {held : Bool} {t : TypeId} {c : Value} {k : IntKind} {xs : List (DataW H × List MemPlace)} {i : Nat} (ht : Tryz.prog.underlying t = some (.int k)) (h0 : k.min = 0)
    (hi : i < xs.length) (h : DataW.trod enc Tryz.prog w base sp held fuel t [c] = xs[i]?) : ∃ m : Nat, c = .int k (m : Int) ∧ (m : Int) ≤ k.max := by
  rw [List.getElem?_eq_getElem hi] at h
  obtain ⟨n, hc, _, hw⟩ := DataW.trod_int ht h
  obtain ⟨m, rfl, hm⟩ := nat_of h0 hw
  exact ⟨m, by simpa using hc, hm⟩
theorem field_str {H : Type} {enc : TypeId × Value → H} {w : World} {base fuel : Nat} {sp : Nat → Bool} {held : Bool} {t : TypeId} {c : Value} {xs : List (DataW H × List MemPlace)} {i : Nat} (ht : Tryz.prog.underlying t = some .string)
    (hi : i < xs.length) (h : DataW.trod enc Tryz.prog w base sp held fuel t [c] = xs[i]?) : ∃ s : ByteArray, c = .string s ∧ s.size ≤ maxLen := by
  rw [List.getElem?_eq_getElem hi] at h
  obtain ⟨s, hc, _, hw⟩ := DataW.trod_string ht h
  exact ⟨s, by simpa using hc, hw⟩

theorem fld {H : Type} {enc : TypeId × Value → H} {P : Program} {w : World} {base n : Nat} {sp : Nat → Bool} {held : Bool} {cs : List Value} {xs : List (DataW H × List MemPlace)} {fs : Array Field}
    (hf : ∀ (i : Nat) (f : Field), fs[i]? = some f → DataW.trod enc P w base sp held n f.type ((cs.drop f.offset).take (P.cellsOf f.type)) = xs[i]?) (i : Nat) (t o k : Nat)
    (h : (fs[i]?).map (fun f => (f.type, f.offset)) = some (t, o)) (hc : P.cellsOf t = k) : DataW.trod enc P w base sp held n t ((cs.drop o).take k) = xs[i]? := by
  cases hfi : fs[i]? with
  | none => rw [hfi] at h; cases h
  | some f =>
    rw [hfi] at h
    simp only [Option.map_some, Option.some.injEq, Prod.mk.injEq] at h
    obtain ⟨rfl, rfl⟩ := h
    subst hc
    exact hf i f hfi

theorem flat_at {α β : Type} (f : α → List β) (n : Nat) : ∀ (L : List α) (_ : ∀ a ∈ L, (f a).length = n) (k j : Nat) (hk : k < L.length) (_ : j < n), (L.flatMap f)[k * n + j]? = (f L[k])[j]?
  | [], _, k, _, hk, _ => by simp at hk
  | a :: L, hf, 0, j, _, hj => by
    rw [List.flatMap_cons, List.getElem?_append_left (by rw [hf a (by simp)]; omega)]
    simp
  | a :: L, hf, k + 1, j, hk, hj => by
    have hl := hf a (by simp)
    rw [List.flatMap_cons, List.getElem?_append_right (by rw [hl, Nat.add_mul]; omega), hl, show (k + 1) * n + j - n = k * n + j by rw [Nat.add_mul]; omega]
    exact flat_at f n L (fun b hb => hf b (by simp [hb])) k j (by simpa using hk) hj
end
end Go.Proofs.YtcmajcljafmphaaGreat

namespace Go.Proofs.YtcmajcljafmphaaGreat
section
open Go.ChangeShapes Go.WideShapes Go.ChangeAt Go.RowKit
set_option maxRecDepth 100000
set_option linter.unusedVariables false

theorem flat_len_of {α β : Type} (f : α → List β) (k : Nat) (hk : ∀ a, (f a).length = k) (L : List α) : (L.flatMap f).length = L.length * k := by
  induction L with
  | nil => simp
  | cons s m ih => rw [List.flatMap_cons, List.length_append, ih, hk, List.length_cons, Nat.add_mul]; omega
theorem cell_spot {w : World} {a : Addr} {u : Value} (h : w.cell? a = some u) : a.spot = none := by
  unfold World.cell? at h
  split at h
  · split at h
    · cases h
    · rename_i hs
      simpa using hs
  · cases h

theorem rows_in {α H : Type} {enc : TypeId × Value → H} {w : World} {base fuel : Nat} {held : Bool} {t e : TypeId} {cs : List Value} {x : DataW H × List MemPlace} (f : α → List Value) (R : α → Prop) (k : Nat) (hk : ∀ a, (f a).length = k) (hk0 : 0 < k)
    (ht : Tryz.prog.underlying t = some (.slice e)) (hc : Tryz.prog.cellsOf e = k) (hel : ∀ n cs x, DataW.trod enc Tryz.prog w base (fun _ => true) held n e cs = some x → ∃ a, cs = f a ∧ R a)
    (h : DataW.trod enc Tryz.prog w base (fun _ => true) held fuel t cs = some x) : ∃ (v : Value) (L : List α), cs = [v] ∧ RowW w k v L.length (L.flatMap f) ∧ ∀ a ∈ L, R a := by
  rcases DataW.trod_slice ht h with ⟨rfl, _⟩ | ⟨ad, len, cap, elems, rest, n, _, rfl, _, _, hl, hm, hlen, hat, _⟩
  · exact ⟨_, [], rfl, RowAt.nil.weak, fun _ h => by cases h⟩
  · rw [hc] at hat
    have hex : ∀ i : Fin len, ∃ a : α, R a ∧ ∀ j, j < k → w.cell? ((ad.add (i.val * k)).add j) = (f a)[j]? := fun i => by
      have hi := hat i.val i.isLt
      rw [List.getElem?_eq_getElem (by omega)] at hi
      obtain ⟨cs, hcs, ht⟩ := Option.bind_eq_some_iff.1 hi
      obtain ⟨q, rfl, hok⟩ := hel _ _ _ ht
      obtain ⟨_, _, hc⟩ := World.cells?_some hcs
      exact ⟨q, hok, fun j hj => hc j hj⟩
    obtain ⟨g, hgs⟩ : ∃ g : Fin len → α, ∀ i, R (g i) ∧ ∀ j, j < k → w.cell? ((ad.add (i.val * k)).add j) = (f (g i))[j]? := ⟨fun i => (hex i).choose, fun i => (hex i).choose_spec⟩
    clear hex
    refine ⟨_, List.ofFn g, rfl, ?_, ?_⟩
    · rw [List.length_ofFn]
      refine ⟨by rw [flat_len_of f k hk, List.length_ofFn], _, cap, rfl, hl, hm, fun h => (by cases h), fun i u hu => ?_⟩
      have hlt : i < len * k := by
        have := (List.getElem?_eq_some_iff.1 hu).1
        rwa [flat_len_of f k hk, List.length_ofFn] at this
      have hk1 : i / k < len := Nat.div_lt_of_lt_mul (by rw [Nat.mul_comm]; exact hlt)
      have hij : i / k * k + i % k = i := by rw [Nat.mul_comm]; exact Nat.div_add_mod i k
      have hpos : 0 < len := Nat.lt_of_le_of_lt (Nat.zero_le _) hk1
      have hsp : ad.spot = none := by
        have h0 := (hgs ⟨0, hpos⟩).2 0 hk0
        rw [List.getElem?_eq_getElem (by rw [hk]; exact hk0)] at h0
        have h1 := cell_spot h0
        simpa [Addr.add] using h1
      obtain ⟨b, o, s⟩ := ad
      simp only at hsp
      subst hsp
      refine ⟨b, o, rfl, ?_⟩
      have hjk : i % k < k := Nat.mod_lt _ hk0
      have hc := (hgs ⟨i / k, hk1⟩).2 (i % k) hjk
      rw [add_plain', add_plain', Nat.add_assoc] at hc
      simp only at hc
      rw [hij] at hc
      rw [hc]
      rw [← hij, flat_at f k _ (fun a _ => hk a) (i / k) (i % k) (by rw [List.length_ofFn]; exact hk1) hjk] at hu
      rw [← hu]
      simp
    · intro a ha
      obtain ⟨i, rfl⟩ := (List.mem_ofFn).1 ha
      exact (hgs i).1

theorem field_bool {H : Type} {enc : TypeId × Value → H} {w : World} {base fuel : Nat} {sp : Nat → Bool} {held : Bool} {t : TypeId} {c : Value} {xs : List (DataW H × List MemPlace)} {i : Nat} (ht : Tryz.prog.underlying t = some .bool)
    (hi : i < xs.length) (h : DataW.trod enc Tryz.prog w base sp held fuel t [c] = xs[i]?) : ∃ b : Bool, c = .bool b := by
  rw [List.getElem?_eq_getElem hi] at h
  obtain ⟨b, hc, _⟩ := DataW.trod_bool ht h
  exact ⟨b, by simpa using hc⟩
theorem node_in {H : Type} {enc : TypeId × Value → H} {w : World} {base fuel : Nat} {sp : Nat → Bool} {held : Bool} {cs : List Value} {x : DataW H × List MemPlace}
    (h : DataW.trod enc Tryz.prog w base sp held fuel 68 cs = some x) : ∃ n : Nod, cs = n.cells.toList ∧ NodOk n := by
  obtain ⟨xs, n, _, _, hlen, hxl, hf⟩ := DataW.trod_struct Tryz.underlying68 h
  rw [show Tryz.prog.cellsOf 68 = 12 by kernel_rfl] at hlen
  replace hxl : xs.length = 12 := hxl
  match cs, hlen with
  | [c0, c1, c2, c3, c4, c5, c6, c7, c8, c9, c10, c11], _ =>
    have f0 : DataW.trod enc Tryz.prog w base sp held n 30 [c0] = xs[0]? := fld hf 0 _ 0 1 rfl (by kernel_rfl)
    have f1 : DataW.trod enc Tryz.prog w base sp held n 35 [c1] = xs[1]? := fld hf 1 _ 1 1 rfl (by kernel_rfl)
    have f2 : DataW.trod enc Tryz.prog w base sp held n 35 [c2] = xs[2]? := fld hf 2 _ 2 1 rfl (by kernel_rfl)
    have f3 : DataW.trod enc Tryz.prog w base sp held n 35 [c3] = xs[3]? := fld hf 3 _ 3 1 rfl (by kernel_rfl)
    have f4 : DataW.trod enc Tryz.prog w base sp held n 35 [c4] = xs[4]? := fld hf 4 _ 4 1 rfl (by kernel_rfl)
    have f5 : DataW.trod enc Tryz.prog w base sp held n 9 [c5] = xs[5]? := fld hf 5 _ 5 1 rfl (by kernel_rfl)
    have f6 : DataW.trod enc Tryz.prog w base sp held n 9 [c6] = xs[6]? := fld hf 6 _ 6 1 rfl (by kernel_rfl)
    have f7 : DataW.trod enc Tryz.prog w base sp held n 9 [c7] = xs[7]? := fld hf 7 _ 7 1 rfl (by kernel_rfl)
    have f8 : DataW.trod enc Tryz.prog w base sp held n 9 [c8] = xs[8]? := fld hf 8 _ 8 1 rfl (by kernel_rfl)
    have f9 : DataW.trod enc Tryz.prog w base sp held n 30 [c9] = xs[9]? := fld hf 9 _ 9 1 rfl (by kernel_rfl)
    have f10 : DataW.trod enc Tryz.prog w base sp held n 4 [c10] = xs[10]? := fld hf 10 _ 10 1 rfl (by kernel_rfl)
    have f11 : DataW.trod enc Tryz.prog w base sp held n 9 [c11] = xs[11]? := fld hf 11 _ 11 1 rfl (by kernel_rfl)
    obtain ⟨path, rfl, b0⟩ := field_in Tryz.underlying30 rfl (i := 0) (by omega) f0
    obtain ⟨vers, rfl, b1⟩ := field_in Tryz.underlying35 rfl (i := 1) (by omega) f1
    obtain ⟨mode, rfl, b2⟩ := field_in Tryz.underlying35 rfl (i := 2) (by omega) f2
    obtain ⟨atm, rfl, b3⟩ := field_in Tryz.underlying35 rfl (i := 3) (by omega) f3
    obtain ⟨mtm, rfl, b4⟩ := field_in Tryz.underlying35 rfl (i := 4) (by omega) f4
    obtain ⟨name, rfl, b5⟩ := field_str Tryz.underlying9 (i := 5) (by omega) f5
    obtain ⟨uid, rfl, b6⟩ := field_str Tryz.underlying9 (i := 6) (by omega) f6
    obtain ⟨gid, rfl, b7⟩ := field_str Tryz.underlying9 (i := 7) (by omega) f7
    obtain ⟨muid, rfl, b8⟩ := field_str Tryz.underlying9 (i := 8) (by omega) f8
    obtain ⟨up, rfl, b9⟩ := field_in Tryz.underlying30 rfl (i := 9) (by omega) f9
    obtain ⟨gone, rfl⟩ := field_bool Tryz.underlying4 (i := 10) (by omega) f10
    obtain ⟨data, rfl, b11⟩ := field_str Tryz.underlying9 (i := 11) (by omega) f11
    refine ⟨⟨path, vers, mode, atm, mtm, name, uid, gid, muid, up, gone, data⟩, rfl, ?_⟩
    simp only [show IntKind.u32.max = 4294967295 from rfl, show IntKind.u64.max = 18446744073709551615 from rfl] at *
    exact ⟨by show path < _; omega, by show vers < _; omega, by show mode < _; omega, by show atm < _; omega, by show mtm < _; omega, b5, b6, b7, b8, by show up < _; omega, b11⟩
theorem nodes_in {H : Type} {enc : TypeId × Value → H} {w : World} {base fuel : Nat} {held : Bool} {cs : List Value} {x : DataW H × List MemPlace}
    (h : DataW.trod enc Tryz.prog w base (fun _ => true) held fuel 31 cs = some x) : ∃ v l, cs = [v] ∧ NodsAt w v l ∧ ∀ n ∈ l, NodOk n := by
  obtain ⟨v, L, hcs, hr, hok⟩ := rows_in (fun n : Nod => n.cells.toList) NodOk 12 (fun _ => rfl) (by decide) Tryz.underlying31 (by kernel_rfl) (fun n cs x h => node_in h) h
  exact ⟨v, L, hcs, hr, hok⟩
end
end Go.Proofs.YtcmajcljafmphaaGreat

namespace Go.Proofs.YtcmajcljafmphaaGreat
section
open Go.RowKit
set_option maxRecDepth 100000
set_option linter.unusedVariables false

structure ActV where
  op : Int
  dir : Nat
  path : Nat
  off : Nat
  n : Nat
  mode : Nat
  name : ByteArray
  who : ByteArray
  gid : ByteArray
  data : ByteArray
  now : Nat
def ActV.cells (a : ActV) : Array Value := #[.int .i64 a.op, .int .u64 (a.dir : Int), .int .u64 (a.path : Int), .int .u64 (a.off : Int), .int .u32 (a.n : Int), .int .u32 (a.mode : Int), .string a.name, .string a.who, .string a.gid, .string a.data, .int .u32 (a.now : Int)]
structure ActOk (a : ActV) : Prop where
  dir : a.dir < 18446744073709551616
  path : a.path < 18446744073709551616
  off : a.off < 18446744073709551616
  n : a.n < 4294967296
  mode : a.mode < 4294967296
  name : a.name.size ≤ maxLen
  who : a.who.size ≤ maxLen
  gid : a.gid.size ≤ maxLen
  data : a.data.size ≤ maxLen
  now : a.now < 4294967296
theorem act_cells (a : ActV) : a.cells = #[.int .i64 a.op, .int .u64 (a.dir : Int), .int .u64 (a.path : Int), .int .u64 (a.off : Int), .int .u32 (a.n : Int), .int .u32 (a.mode : Int), .string a.name, .string a.who, .string a.gid, .string a.data, .int .u32 (a.now : Int)] := rfl
def actsL (l : List ActV) : List Value := l.flatMap fun a => a.cells.toList
theorem actsL_get (l : List ActV) (i j : Nat) (hi : i < l.length) (hj : j < 11) : (actsL l)[i * 11 + j]? = l[i].cells.toList[j]? := by
  induction l generalizing i with
  | nil => simp at hi
  | cons n l ih =>
    show (n.cells.toList ++ actsL l)[i * 11 + j]? = _
    have h12 : n.cells.toList.length = 11 := by rw [act_cells]; rfl
    cases i with
    | zero => rw [Nat.zero_mul, Nat.zero_add, List.getElem?_append_left (by omega)]; rfl
    | succ k =>
      rw [List.getElem?_append_right (by omega), h12, show (k + 1) * 11 + j - 11 = k * 11 + j by omega]
      exact ih k (by simpa using hi)
def ActsAt (w : World) (v : Value) (l : List ActV) : Prop := RowW w 11 v l.length (actsL l)
theorem ActsAt.form {w : World} {v : Value} {l : List ActV} (h : ActsAt w v l) : ∃ a c, v = .slice a l.length c ∧ l.length ≤ c ∧ c ≤ maxLen := by
  obtain ⟨_, a, c, hv, h1, h2, _⟩ := h
  exact ⟨a, c, hv, h1, h2⟩
theorem ActsAt.below {w w' : World} {v : Value} {l : List ActV} (h : ActsAt w v l) (hb : Below w.heap.size w w') : ActsAt w' v l := RowW.below h hb
theorem ActsAt.range {w : World} {a : Option Addr} {n c : Nat} {l : List ActV} (h : ActsAt w (.slice a n c) l) (i : Nat) (hi : i < l.length) : ∃ b o, a = some ⟨b, o, none⟩ ∧ w.rangeAt b (o + i * 11) l[i].cells.toList := by
  obtain ⟨_, a', c', hv, h1, h2, h3, h4⟩ := h
  cases hv
  obtain ⟨b, o, ha, _⟩ := h4 (i * 11) _ (by rw [show i * 11 = i * 11 + 0 from rfl, actsL_get l i 0 hi (by omega), act_cells]; rfl)
  refine ⟨b, o, ha, fun j u hu => ?_⟩
  have hj : j < 11 := by have := (List.getElem?_eq_some_iff.1 hu).1; rw [act_cells] at this; simpa using this
  obtain ⟨b', o', ha', hc⟩ := h4 (i * 11 + j) u (by rw [actsL_get l i j hi hj]; exact hu)
  rw [ha] at ha'; cases ha'
  rw [Nat.add_assoc]; exact hc
end
end Go.Proofs.YtcmajcljafmphaaGreat

namespace Go.Proofs.YtcmajcljafmphaaGreat
section
open Go.ChangeShapes Go.WideShapes Go.ChangeAt Go.RowKit
set_option maxRecDepth 100000
set_option linter.unusedVariables false

theorem tree_in {H : Type} {enc : TypeId × Value → H} {w : World} {base fuel : Nat} {held : Bool} {cs : List Value} {x : DataW H × List MemPlace}
    (h : DataW.trod enc Tryz.prog w base (fun _ => true) held fuel 33 cs = some x) : ∃ (nx : Nat) (v : Value) (l : List Nod), cs = [.int .u64 (nx : Int), v] ∧ nx < 18446744073709551616 ∧ NodsAt w v l ∧ ∀ n ∈ l, NodOk n := by
  obtain ⟨xs, n, _, _, hlen, hxl, hf⟩ := DataW.trod_struct Tryz.underlying33 h
  rw [show Tryz.prog.cellsOf 33 = 2 by kernel_rfl] at hlen
  replace hxl : xs.length = 2 := hxl
  match cs, hlen with
  | [c0, c1], _ =>
    have f0 : DataW.trod enc Tryz.prog w base (fun _ => true) held n 30 [c0] = xs[0]? := fld hf 0 _ 0 1 rfl (by kernel_rfl)
    have f1 : DataW.trod enc Tryz.prog w base (fun _ => true) held n 31 [c1] = xs[1]? := fld hf 1 _ 1 1 rfl (by kernel_rfl)
    obtain ⟨nx, rfl, b0⟩ := field_in Tryz.underlying30 rfl (i := 0) (by omega) f0
    rw [List.getElem?_eq_getElem (show 1 < xs.length by omega)] at f1
    obtain ⟨v, l, hcs, hr, hok⟩ := nodes_in f1
    simp at hcs
    subst hcs
    refine ⟨nx, c1, l, rfl, ?_, hr, hok⟩
    have : IntKind.u64.max = 18446744073709551615 := rfl
    omega
end
end Go.Proofs.YtcmajcljafmphaaGreat

namespace Go.Proofs.YtcmajcljafmphaaGreat
section
open Go.RowKit
set_option maxRecDepth 100000
set_option linter.unusedVariables false
theorem law_KeepTwiceF (v u : Value) (x y : Nat) (k : Int) (l m : List Nod) (w : World) (hv : NodsAt w v l) (hu : NodsAt w u m) (hx : x < 18446744073709551616) (hok : ∀ q ∈ l, NodOk q) (hok2 : ∀ q ∈ m, NodOk q) (hk : 0 ≤ k ∧ k ≤ 255) :
    Calls Tryz.prog 4 #[.agg #[.int .u64 (x : Int), v], .agg #[.int .u64 (y : Int), u], .int .u8 k] w fun e w' => e = .returned (.bool true) ∧ Below w.heap.size w w' := by
  obtain ⟨n, rfl⟩ := Int.eq_ofNat_of_zero_le hk.1
  exact law_KeepTwiceI v u x y n l m w hv hu hx hok hok2 (by omega)
end
end Go.Proofs.YtcmajcljafmphaaGreat
