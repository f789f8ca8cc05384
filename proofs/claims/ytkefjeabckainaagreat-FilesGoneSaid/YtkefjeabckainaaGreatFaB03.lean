/- What Valid, may and Name return, in the program and in the reference, for every text of at most maxLen bytes. No further condition.
What text.Put and text.Take do, under bounds on lengths that each theorem names. No further condition.
What Put and Raw of num.Out and text.Put leave as it was, block by block, under bounds on lengths that each theorem names. No further condition. -/
import Derived.Test.YtkefjeabckainaaGreatFaB02
import Derived.Test.YtkefjeabckainaaGreatShelf
import Derived.Lib.ConvBytes
import Derived.Lib.AppendStr
namespace Go.Proofs.YtkefjeabckainaaGreat
section
open Go.RowKit
set_option maxRecDepth 100000

theorem indexByte_mem (c : UInt8) : ∀ l : List UInt8, decide (0 ≤ Lib.indexByte l c) = l.contains c
  | [] => rfl
  | b :: l => by
    have ih := indexByte_mem c l
    have hlb : ∀ l : List UInt8, -1 ≤ Lib.indexByte l c := by
      intro l
      induction l with
      | nil => simp [Lib.indexByte]
      | cons b l ih => simp only [Lib.indexByte]; split <;> (try split) <;> omega
    have h1 := hlb l
    simp only [Lib.indexByte, List.contains_cons]
    by_cases hbc : b = c
    · subst hbc; simp
    · have e1 : (b == c) = false := by simpa using hbc
      have e2 : (c == b) = false := by simp; exact fun h => hbc h.symm
      rw [e2, ← ih, Bool.false_or]
      refine decide_eq_decide.2 ?_
      rw [e1]
      simp only [Bool.false_eq_true, if_false]
      by_cases h2 : Lib.indexByte l c = -1
      · simp [h2]
      · have e3 : (Lib.indexByte l c == -1) = false := by simpa using h2
        rw [e3]; simp; omega

def validB (s : ByteArray) : Bool := S.valid s.data.toList
def nameN (s : ByteArray) : Nat := S.name s.data.toList
theorem validB_eq (s : ByteArray) : validB s = (runesOk s && decide (s.size ≤ 64) && !decide (0 ≤ Lib.indexByte s.data.toList 0)) := by
  rw [indexByte_mem]; rfl

set_option maxHeartbeats 400000 in
theorem valid_any (s : ByteArray) (w : World) (hs : s.size ≤ maxLen) :
    Calls Tryz.prog 133 #[.string s] w fun e w' => e = .returned (.bool (validB s)) ∧ Below w.heap.size w w' := by
  have E := validB_eq s
  unfold maxLen at hs
  cases h1 : runesOk s with
  | false =>
    rw [h1] at E
    replace E := hid E
    replace h1 := hid h1
    go_enter Tryz.func133, Tryz.ntmps133
    go_wp2_with (go_at_call 170; refine (runes_any s _ (by unfold maxLen; omega)).mono ?_; rw [h1.out]; rintro e w' ⟨rfl, hb⟩)
    go_ret
    exact ⟨by rw [E.out]; rfl, hb⟩
  | true =>
    rw [h1] at E
    replace h1 := hid h1
    by_cases h2 : s.size ≤ 64
    · rw [decide_eq_true h2] at E
      replace E := hid E
      go_enter Tryz.func133, Tryz.ntmps133
      go_wp2_with (first | (go_at_call 170; refine (runes_any s _ (by unfold maxLen; omega)).mono ?_; rw [h1.out]; rintro e w' ⟨rfl, hb⟩) | (go_at_call 171; refine (Tryz.strings_Contains_one s 0 _).mono ?_; rintro e w' ⟨rfl, rfl⟩))
      go_ret
      exact ⟨by rw [E.out]; rfl, hb⟩
    · rw [decide_eq_false h2] at E
      replace E := hid E
      go_enter Tryz.func133, Tryz.ntmps133
      go_wp2_with (first | (go_at_call 170; refine (runes_any s _ (by unfold maxLen; omega)).mono ?_; rw [h1.out]; rintro e w' ⟨rfl, hb⟩))
      go_ret
      exact ⟨by rw [E.out]; rfl, hb⟩

theorem bytesWorld_cell' (w : World) (e : TypeId) (s : ByteArray) (j : Nat) (hj : j < s.size) : (Lib.bytesWorld w e s).cell? ⟨w.heap.size, j, none⟩ = some (.int .u8 (s[j].toNat : Int)) := by
  rw [Lib.bytesWorld_cell w e s j hj]
  have : s.data.toList.getD j 0 = s[j] := by
    simp only [List.getD_eq_getElem?_getD]
    rw [List.getElem?_eq_getElem (by simpa using hj)]; rfl
  rw [this]

theorem bad_any (c : Nat) (w : World) (hc : c < 256) :
    Calls Tryz.prog 182 #[.int .u8 (c : Int)] w fun e w' => e = .returned (.bool (decide (c < 32) || c == 47)) ∧ w = w' := by
  by_cases h1 : c < 32
  · go_enter Tryz.func182, Tryz.ntmps182
    go_wp2
    go_ret
    exact ⟨ret_bool (by simp), rfl⟩
  · go_enter Tryz.func182, Tryz.ntmps182
    go_wp2
    go_ret
    exact ⟨ret_bool (by rw [show decide (c < 32) = false from decide_eq_false h1, show decide ((c : Int) < 32) = false from decide_eq_false (by omega)]; exact Bool.eq_iff_iff.2 (by simp; omega)), rfl⟩

theorem name_eq (s : ByteArray) : nameN s = if !validB s || s.toList.isEmpty || s.toList == [46] || s.toList == [46, 46] then 6 else if s.data.toList.any S.badByte then 6 else if 28 < s.size then 3 else 0 := by
  rw [ByteArray.toList_eq]; rfl

set_option maxHeartbeats 800000 in
theorem name_any (s : ByteArray) (w : World) (hs : s.size ≤ maxLen) :
    Calls Tryz.prog 145 #[.string s] w fun e w' => e = .returned (.int .i64 (nameN s : Int)) ∧ Below w.heap.size w w' := by
  unfold maxLen at hs
  have E := name_eq s
  cases h1 : validB s with
  | false =>
    rw [h1] at E
    have E1 : Hid (nameN s = 6) := hid (by rw [E]; rfl)
    clear E
    replace h1 := hid h1
    go_enter Tryz.func145, Tryz.ntmps145
    go_wp2_with (go_at_call 133; refine (valid_any s _ (by unfold maxLen; omega)).mono ?_; rw [h1.out]; rintro e w' ⟨rfl, hb⟩)
    go_ret
    exact ⟨by rw [E1.out]; rfl, hb⟩
  | true =>
    rw [h1] at E
    replace h1 := hid h1
    by_cases h2 : (s.toList.isEmpty || s.toList == [46] || s.toList == [46, 46]) = true
    · have E1 : Hid (nameN s = 6) := hid (by rw [E]; simp only [Bool.not_true, Bool.false_or]; rw [if_pos h2])
      clear E
      go_enter Tryz.func145, Tryz.ntmps145
      go_wp2_with (go_at_call 133; refine (valid_any s _ (by unfold maxLen; omega)).mono ?_; rw [h1.out]; rintro e w' ⟨rfl, hb⟩)
      all_goals (go_ret; exact ⟨by rw [E1.out]; rfl, hb⟩)
    · have E1 := hid E
      have h3 : s.toList.isEmpty = false ∧ (s.toList == [46]) = false ∧ (s.toList == [46, 46]) = false := by simpa [and_assoc] using h2
      obtain ⟨h3, h4, h5⟩ := h3
      clear E h2
      have hcv := fun W => Lib.run_convert_string_bytes (P := Tryz.prog) W 9 226 5 s Tryz.underlying9 Tryz.underlying226 Tryz.underlying5
      go_enter Tryz.func145, Tryz.ntmps145
      go_wp2_with (go_at_call 133; refine (valid_any s _ (by unfold maxLen; omega)).mono ?_; rw [h1.out]; rintro e w' ⟨rfl, hb⟩)
      have hbd : Below w.heap.size w (Lib.bytesWorld w' 5 s) := hb.trans ⟨rfl, rfl, rfl, by rw [Lib.bytesWorld_size]; omega, fun k hk => Lib.bytesWorld_at_old w' _ s k (by have := hb.size; omega)⟩
      go_loop [23] (fun i => ∃ k : Nat, k ≤ s.size ∧ i = .int .i64 (k : Int) ∧ Hid ((s.data.toList.take k).any S.badByte = false)) (fun i => s.size - (intOf i).toNat)
      case atStart => exact ⟨0, by omega, rfl, hid rfl⟩
      case round =>
        obtain ⟨k, hk, rfl, hany⟩ := hrel
        by_cases hlt : k < s.size
        · have hcl := bytesWorld_cell' w' 5 s k hlt
          have hta := S.take_any s S.badByte k hlt
          rw [hany.out, Bool.false_or] at hta
          cases hbad : S.badByte s[k] with
          | true =>
            have hb2 : Hid ((decide (s[k].toNat < 32) || s[k].toNat == 47) = true) := hid hbad
            have E2 : Hid (nameN s = 6) := hid (by
              rw [E1.out]; rw [hbad] at hta
              simp only [h3, h4, h5, Bool.not_true, Bool.or_self, Bool.false_eq_true, if_false]
              rw [if_pos (S.any_of_take (k + 1) hta)])
            clear E1 hta hbad
            go_wp2_with (go_at_call 182; refine (bad_any _ _ s[k].toNat_lt).mono ?_; rw [hb2.out]; rintro e w' ⟨rfl, rfl⟩)
            go_ret
            exact ⟨by rw [E2.out]; rfl, hbd⟩
          | false =>
            have hb2 : Hid ((decide (s[k].toNat < 32) || s[k].toNat == 47) = false) := hid hbad
            replace hta := hid (hta.trans hbad)
            clear hbad
            go_wp2_with (go_at_call 182; refine (bad_any _ _ s[k].toNat_lt).mono ?_; rw [hb2.out]; rintro e w' ⟨rfl, rfl⟩)
            go_round
            case rel => exact ⟨k + 1, by omega, by go_num, hta⟩
            case measure => simp [intOf]; omega
        · obtain rfl : k = s.size := by omega
          have E2 : Hid (nameN s = if 28 < s.size then 3 else 0) := hid (by
            rw [E1.out]
            have h := hany.out
            rw [List.take_of_length_le (by simp)] at h
            simp only [h3, h4, h5, h, Bool.not_true, Bool.or_self, Bool.false_eq_true, if_false])
          clear E1
          by_cases h28 : 28 < s.size
          · go_wp2_with fail
            go_ret
            exact ⟨by rw [E2.out, if_pos h28]; rfl, hbd⟩
          · go_wp2_with fail
            go_ret
            exact ⟨by rw [E2.out, if_neg h28]; rfl, hbd⟩

end
end Go.Proofs.YtkefjeabckainaaGreat

namespace Go.Proofs.YtkefjeabckainaaGreat
section
open Go.RowKit
set_option maxRecDepth 100000

def strL (l : List UInt8) : ByteArray := ⟨l.toArray⟩
theorem strL_size (l : List UInt8) : (strL l).size = l.length := by simp [strL, ByteArray.size]
theorem conv_string (w : World) (v : Value) (l : List UInt8) (h : BytesAt w v l) : (convert 226 9 v).run Tryz.prog w = .ok (.string (strL l)) w := by
  obtain ⟨hl, a, c, rfl, h1, h2, h3, h5, h4⟩ := h
  cases a with
  | none =>
    have hc := h3 rfl
    obtain rfl : l = [] := List.eq_nil_of_length_eq_zero (by omega)
    exact run_convert_bytes_nil w _ _ Tryz.underlying226 Tryz.underlying5 _ _ _ Tryz.underlying9
  | some ad =>
    obtain ⟨b, o, sp⟩ := ad
    have := (h5 _ rfl).1
    subst this
    rw [run_convert_bytes_arg w _ _ Tryz.underlying226 Tryz.underlying5 b o l.length c (l.map fun x => (x.toNat : Int)) (by simp) (fun i hi => ?_) _ Tryz.underlying9]
    · congr 1
      have : ∀ l : List UInt8, List.map ((fun n : Int => UInt8.ofNat n.toNat) ∘ fun x : UInt8 => (x.toNat : Int)) l = l := by
        intro l
        induction l with
        | nil => rfl
        | cons c l ih => simp only [List.map_cons, ih]; simp
      simp [strOfNums, strL, this]
    · obtain ⟨b', o', he, hc⟩ := h4 i (byteV l[i]) (by simp [hi])
      cases he
      rw [hc]
      simp [byteV, List.getD, hi]

theorem OutIs.below {w w' : World} {b : Nat} {xs : List UInt8} (h : OutIs w b xs) (hb : Below w.heap.size w w') : OutIs w' b xs := by
  obtain ⟨v, ot, h1, h2⟩ := h
  refine ⟨v, ot, (hb.block b (lt_of_block h1)).trans h1, h2.1, ?_⟩
  rcases h2.2 with h3 | ⟨g, cap, cur, hv, hg, hh, r⟩
  · exact .inl h3
  · exact .inr ⟨g, cap, cur, hv, hg, (hb.block g (lt_of_block hh)).trans hh, r⟩
theorem OutIs.lt {w : World} {b : Nat} {xs : List UInt8} (h : OutIs w b xs) : b < w.heap.size := by
  obtain ⟨v, ot, h1, _⟩ := h
  exact lt_of_block h1

theorem sn {W a b : World} (h : Below W.heap.size W a) (k : Below a.heap.size a b) : Below W.heap.size W b := h.trans (k.mono h.size)

def Holds (w : World) (e : Ending) (w' : World) : Prop := e = .returned (.bool true) ∧ Below w.heap.size w w'

end
end Go.Proofs.YtkefjeabckainaaGreat

namespace Go.Proofs.YtkefjeabckainaaGreat
section
open Go.RowKit
set_option maxRecDepth 100000
def Foot (w : World) (b k : Nat) : Prop := k = b ∨ ∃ v, w.cell? ⟨b, 0, none⟩ = some v ∧ v.ownBlock = some k

def TwoAt (w : World) (b : Nat) : Prop := ∃ (cs : Array Value) (t : TypeId) (fr : Nat × Nat), w.heap[b]? = some (.cells cs t fr) ∧ cs.size = 2
structure OStep (b : Nat) (w w' : World) : Prop where
  below : Below b w w'
  block : ∀ k, k < w.heap.size → ¬ Foot w b k → w'.heap[k]? = w.heap[k]? ∧ ¬ Foot w' b k
  two : TwoAt w b → TwoAt w' b ∧ ∀ k, Foot w' b k → Foot w b k

theorem OStep.refl (b : Nat) (w : World) : OStep b w w := ⟨Below.refl _ _, fun _ _ h => ⟨rfl, h⟩, fun h => ⟨h, fun _ h => h⟩⟩
theorem OStep.trans {b : Nat} {w w1 w2 : World} (h : OStep b w w1) (k : OStep b w1 w2) : OStep b w w2 :=
  ⟨h.below.trans k.below, fun j hj hn => by
    obtain ⟨e1, n1⟩ := h.block j hj hn
    obtain ⟨e2, n2⟩ := k.block j (Nat.lt_of_lt_of_le hj h.below.size) n1
    exact ⟨e2.trans e1, n2⟩, fun ht => by
    obtain ⟨t1, f1⟩ := h.two ht
    obtain ⟨t2, f2⟩ := k.two t1
    exact ⟨t2, fun j hj => f1 j (f2 j hj)⟩⟩
theorem OStep.pure {b : Nat} {w w' : World} (hb : b < w.heap.size) (h : Below w.heap.size w w') : OStep b w w' :=
  have hf : ∀ k, Foot w' b k → Foot w b k := fun k hf => by
    rcases hf with hf | ⟨v, hv, hk⟩
    · exact .inl hf
    · exact .inr ⟨v, by rw [h.cell (p := ⟨b, 0, none⟩) hb] at hv; exact hv, hk⟩
  ⟨h.mono (Nat.le_of_lt hb), fun j hj hn => ⟨h.block j hj, fun h => hn (hf j h)⟩, fun ⟨cs, t, fr, hc, hs⟩ => ⟨⟨cs, t, fr, (h.block b hb).trans hc, hs⟩, hf⟩⟩

theorem OutIs.new {w : World} {b : Nat} {xs : List UInt8} (h : OutIs w b xs) (o : Obj) : ¬ Foot (w.alloc o) b w.heap.size := by
  obtain ⟨v, ot, h1, h2⟩ := h
  have hlt := lt_of_block h1
  rintro (he | ⟨u, hu, hk⟩)
  · omega
  · have h1' : (w.alloc o).heap[b]? = some (.cells #[v] ot (0, 0)) := (heap_alloc_old w o hlt).trans h1
    rw [cell_of_one h1'] at hu
    cases hu
    have := (h2.lt _ hk).2
    omega

end
end Go.Proofs.YtkefjeabckainaaGreat
