/- What Words returns, in the program and in the reference, under bounds on lengths that each theorem names. No further condition. -/
import Derived.Test.YtoblafeiidjaaaaRefIn
namespace Go.Proofs.Ytoblafeiidjaaaa
open Go.RowKit
set_option maxRecDepth 100000

def isSep (x : Nat) : Bool := x == 47

/-- The pieces between the bytes 47, from place i on; the present piece begins at 'a'. -/
def bspans (s : ByteArray) : Nat → Nat → Nat → List (Nat × Nat)
  | 0, _, _ => []
  | f + 1, i, a => if h : i < s.size then (if s[i].toNat = 47 then (if a < i then (a, i) :: bspans s f (i + 1) (i + 1) else bspans s f (i + 1) (i + 1)) else bspans s f (i + 1) a)
      else if a < i then [(a, i)] else []

def wordsL (s : ByteArray) : List ByteArray := (bspans s (s.size + 1) 0 0).map fun x => s.extract x.1 x.2

theorem bspans_skip (s : ByteArray) : ∀ (k f i a : Nat), i + k ≤ s.size → (∀ j (h : i + j < s.size), j < k → s[i + j].toNat ≠ 47) → bspans s (f + k) i a = bspans s f (i + k) a
  | 0, _, _, _, _, _ => rfl
  | k + 1, f, i, a, hk, hn => by
    have h0 : i < s.size := by omega
    have h1 : s[i].toNat ≠ 47 := hn 0 (by simpa using h0) (by omega)
    rw [show f + (k + 1) = (f + k) + 1 from by omega]
    conv => lhs; unfold bspans
    rw [dif_pos h0, if_neg h1, bspans_skip s k f (i + 1) a (by omega) (fun j h hj => by
      have := hn (j + 1) (by omega) (by omega)
      simpa [show i + 1 + j = i + (j + 1) by omega] using this)]
    rw [show i + 1 + k = i + (k + 1) from by omega]

theorem get_lt (s : ByteArray) (i : Nat) (h : i < s.size) : s.get! i = s[i] := by
  show s.data[i]! = _
  exact getElem!_pos s.data i h

theorem decode_47 (s : ByteArray) (i : Nat) (h : i < s.size) (c : s[i].toNat = 47) : Utf8.decode s i = (47, 1) := by
  have e0 : (s.get! (i + 0)).toNat = 47 := by rw [Nat.add_zero, get_lt s i h, c]
  unfold Utf8.decode
  simp only [e0]
  rw [if_pos (by omega)]

def DecOk (s : ByteArray) (i : Nat) (x : Nat × Nat) : Prop := 1 ≤ x.2 ∧ i + x.2 ≤ s.size ∧ isSep x.1 = false ∧ ∀ j (hj : i + j < s.size), j < x.2 → s[i + j].toNat ≠ 47

theorem decode_other (s : ByteArray) (i : Nat) (h : i < s.size) (hne : s[i].toNat ≠ 47) : DecOk s i (Utf8.decode s i) := by
  have e0 : (s.get! (i + 0)).toNat = s[i].toNat := by rw [Nat.add_zero, get_lt s i h]
  have hb : s[i].toNat < 256 := s[i].toNat_lt
  have one : ∀ r : Nat, r ≠ 47 → DecOk s i (r, 1) := by
    intro r hr
    refine ⟨Nat.le_refl _, by show i + 1 ≤ s.size; omega, by simpa [isSep] using hr, fun j hj hj1 => ?_⟩
    obtain rfl : j = 0 := by simp at hj1; omega
    simpa using hne
  have contB : ∀ k, (decide (i + k < s.size) && (s.get! (i + k)).toNat / 64 == 2) = true → ∃ hk : i + k < s.size, s[i + k].toNat ≠ 47 := by
    intro k hk
    simp only [Bool.and_eq_true, decide_eq_true_eq, beq_iff_eq] at hk
    refine ⟨hk.1, ?_⟩
    have := hk.2
    rw [get_lt s _ hk.1] at this
    omega
  unfold Utf8.decode
  simp only [e0]
  by_cases c1 : s[i].toNat < 128
  · rw [if_pos c1]; exact one _ hne
  rw [if_neg c1]
  split
  · rename_i c2
    simp only [Bool.and_eq_true] at c2
    obtain ⟨k1, n1⟩ := contB 1 (by simpa using c2.2)
    split
    · rename_i c3
      refine ⟨by show 1 ≤ 2; omega, by show i + 2 ≤ s.size; omega, by simp [isSep]; omega, fun j hj hj1 => ?_⟩
      have hj2 : j < 2 := hj1
      match j, hj2 with
      | 0, _ => simpa using hne
      | 1, _ => exact n1
    · exact one _ (by decide)
  · split
    · rename_i c2
      simp only [Bool.and_eq_true] at c2
      obtain ⟨k1, n1⟩ := contB 1 (by simpa using c2.1.2)
      obtain ⟨k2, n2⟩ := contB 2 (by simpa using c2.2)
      split
      · rename_i c3
        simp only [Bool.and_eq_true, decide_eq_true_eq] at c3
        refine ⟨by show 1 ≤ 3; omega, by show i + 3 ≤ s.size; omega, by simp [isSep]; omega, fun j hj hj1 => ?_⟩
        have hj2 : j < 3 := hj1
        match j, hj2 with
        | 0, _ => simpa using hne
        | 1, _ => exact n1
        | 2, _ => exact n2
      · exact one _ (by decide)
    · split
      · rename_i c2
        simp only [Bool.and_eq_true] at c2
        obtain ⟨k1, n1⟩ := contB 1 (by simpa using c2.1.1.2)
        obtain ⟨k2, n2⟩ := contB 2 (by simpa using c2.1.2)
        obtain ⟨k3, n3⟩ := contB 3 (by simpa using c2.2)
        split
        · rename_i c3
          simp only [Bool.and_eq_true, decide_eq_true_eq] at c3
          refine ⟨by show 1 ≤ 4; omega, by show i + 4 ≤ s.size; omega, by simp [isSep]; omega, fun j hj hj1 => ?_⟩
          have hj2 : j < 4 := hj1
          match j, hj2 with
          | 0, _ => simpa using hne
          | 1, _ => exact n1
          | 2, _ => exact n2
          | 3, _ => exact n3
        · exact one _ (by decide)
      · exact one _ (by decide)

theorem fields_spans (s : ByteArray) : ∀ (f pos a g : Nat) (st : Option Nat) (acc : List (Nat × Nat)), s.size - pos ≤ f → s.size - pos < g → pos ≤ s.size →
    (st = none ∧ a = pos ∨ st = some a ∧ a < pos) → Lib.closeSpans s (Lib.spansFromP isSep s f pos st acc) = acc ++ bspans s g pos a
  | 0, pos, a, g, st, acc, hf, hg, hp, hst => by
    obtain ⟨g, rfl⟩ : ∃ g', g = g' + 1 := ⟨g - 1, by omega⟩
    obtain rfl : pos = s.size := by omega
    simp only [Lib.spansFromP, bspans, Nat.lt_irrefl, dite_false]
    rcases hst with ⟨rfl, rfl⟩ | ⟨rfl, hlt⟩
    · simp [Lib.closeSpans]
    · simp [Lib.closeSpans, hlt]
  | f + 1, pos, a, g, st, acc, hf, hg, hp, hst => by
    obtain ⟨g, rfl⟩ : ∃ g', g = g' + 1 := ⟨g - 1, by omega⟩
    by_cases h : pos < s.size
    · simp only [Lib.spansFromP, if_pos h]
      by_cases c : s[pos].toNat = 47
      · have h3 := decode_47 s pos h c
        have hb : ∀ a, bspans s (g + 1) pos a = if a < pos then (a, pos) :: bspans s g (pos + 1) (pos + 1) else bspans s g (pos + 1) (pos + 1) := by
          intro a; conv => lhs; unfold bspans
          rw [dif_pos h, if_pos c]
        rw [hb, h3]
        simp only [isSep, beq_self_eq_true, if_true]
        rcases hst with ⟨rfl, rfl⟩ | ⟨rfl, hlt⟩
        · simp only [Nat.lt_irrefl, if_false]
          exact fields_spans s f (a + 1) (a + 1) g none acc (by omega) (by omega) (by omega) (.inl ⟨rfl, rfl⟩)
        · simp only [hlt, if_true]
          rw [fields_spans s f (pos + 1) (pos + 1) g none (acc ++ [(a, pos)]) (by omega) (by omega) (by omega) (.inl ⟨rfl, rfl⟩)]
          simp
      · obtain ⟨h1, h2, h3⟩ := decode_other s pos h c
        obtain ⟨k, hk⟩ : ∃ k, k = (Utf8.decode s pos).2 := ⟨_, rfl⟩
        rw [← hk] at h1 h2 h3
        rw [h3.1, ← hk]
        simp only [Bool.false_eq_true, if_false]
        have hgk : g + 1 = (g + 1 - k) + k := by omega
        rw [hgk, bspans_skip s k (g + 1 - k) pos a h2 h3.2]
        rcases hst with ⟨rfl, rfl⟩ | ⟨rfl, hlt⟩
        · exact fields_spans s f (a + k) a (g + 1 - k) (some a) acc (by omega) (by omega) (by omega) (.inr ⟨rfl, by omega⟩)
        · exact fields_spans s f (pos + k) a (g + 1 - k) (some a) acc (by omega) (by omega) (by omega) (.inr ⟨rfl, by omega⟩)
    · obtain rfl : pos = s.size := by omega
      simp only [Lib.spansFromP, bspans, Nat.lt_irrefl, dite_false]
      rcases hst with ⟨rfl, rfl⟩ | ⟨rfl, hlt⟩
      · simp [Lib.closeSpans]
      · simp [Lib.closeSpans, hlt]

theorem words_eq (s : ByteArray) : Lib.goFieldsP isSep s = wordsL s := by
  unfold Lib.goFieldsP wordsL Lib.spansOfP
  rw [fields_spans s s.size 0 0 (s.size + 1) none [] (by omega) (by omega) (by omega) (.inl ⟨rfl, rfl⟩)]
  simp
/-- The value v reads as the texts l. -/
def TextsAt (w : World) (v : Value) (l : List ByteArray) : Prop := RowAt w 1 v l.length (l.map Value.string)
theorem TextsAt.below {w w' : World} {v : Value} {l : List ByteArray} (h : TextsAt w v l) (hb : Below w.heap.size w w') : TextsAt w' v l := RowAt.below h hb
theorem TextsAt.form {w : World} {v : Value} {l : List ByteArray} (h : TextsAt w v l) : ∃ a c, v = .slice a l.length c ∧ l.length ≤ c ∧ c ≤ maxLen := by
  obtain ⟨_, a, c, hv, h1, h2, _⟩ := h
  exact ⟨a, c, hv, h1, h2⟩
theorem TextsAt.cell {w : World} {a : Option Addr} {n c : Nat} {l : List ByteArray} (h : TextsAt w (.slice a n c) l) (i : Nat) (hi : i < l.length) : ∃ b o, a = some ⟨b, o, none⟩ ∧ w.cell? ⟨b, o + i, none⟩ = some (.string l[i]) := by
  obtain ⟨_, a', c', hv, h1, h2, h3, h5, h4⟩ := h
  cases hv
  exact h4 i _ (by simp [hi])

def RetTexts (w : World) (l : List ByteArray) (e : Ending) (w' : World) : Prop := ∃ v', e = .returned v' ∧ TextsAt w' v' l ∧ Below w.heap.size w w'

theorem words1_any (x : Nat) (w : World) : Calls Try.prog 57 #[.int .i32 (x : Int)] w fun e w' => e = .returned (.bool (isSep x)) ∧ w = w' := by
  go_enter Try.func57, Try.ntmps57
  go_wp2
  go_ret
  exact ⟨ret_bool (by unfold isSep; rw [Bool.eq_iff_iff]; simp; omega), rfl⟩

set_option maxHeartbeats 800000 in
theorem words_any (s : ByteArray) (w : World) (hs : s.size ≤ 1000000000) : Calls Try.prog 24 #[.string s] w (RetTexts w (wordsL s)) := by
  have hff := Try.strings_FieldsFunc_grows 57 #[] (fun args w => by kernel_rfl) isSep s w (by omega) (fun W x _ _ => (words1_any x W).mono fun e w' ⟨he, hw⟩ => ⟨he, by subst hw; exact Below.refl _ _⟩)
  rw [words_eq] at hff
  replace hff := hid hff
  go_enter Try.func24, Try.ntmps24
  go_wp2_with fail
  refine hff.out.mono ?_
  rintro e w1 ⟨A, rfl, hA, hown, hb⟩
  go_wp2_with fail
  go_ret
  exact ⟨_, rfl, RowAt.of_own hown, hb⟩

theorem infoStr : (Try.prog.info? 9).map (fun i => (i.zero, i.size, i.bytes)) = some (some (.string ByteArray.empty), 1, 16) := by kernel_rfl
theorem elemStr : ElemOk Try.prog 49 9 1 16 := elemOk_of Try.underlying49 infoStr rfl (by decide)

theorem bspans_len (s : ByteArray) : ∀ (f i a : Nat), (bspans s f i a).length ≤ f
  | 0, _, _ => Nat.le_refl _
  | f + 1, i, a => by
    unfold bspans
    have h1 := bspans_len s f (i + 1) (i + 1)
    have h2 := bspans_len s f (i + 1) a
    split
    · split
      · split
        · simp; omega
        · omega
      · omega
    · split <;> simp

theorem bspans_end (s : ByteArray) (f i a : Nat) (hi : i = s.size) : bspans s (f + 1) i a = if a < i then [(a, i)] else [] := by
  subst hi
  conv => lhs; unfold bspans
  rw [dif_neg (Nat.lt_irrefl _)]
theorem bspans_sep (s : ByteArray) (f i a : Nat) (h : i < s.size) (c : s[i].toNat = 47) : bspans s (f + 1) i a = (if a < i then [(a, i)] else []) ++ bspans s f (i + 1) (i + 1) := by
  conv => lhs; unfold bspans
  rw [dif_pos h, if_pos c]; split <;> rfl
theorem bspans_no (s : ByteArray) (f i a : Nat) (h : i < s.size) (c : s[i].toNat ≠ 47) : bspans s (f + 1) i a = bspans s f (i + 1) a := by
  conv => lhs; unfold bspans
  rw [dif_pos h, if_neg c]

def extS (s : ByteArray) (x : Nat × Nat) : ByteArray := s.extract x.1 x.2

set_option maxHeartbeats 1600000 in
theorem ref_words_any (s : ByteArray) (w : World) (hs : s.size ≤ 1000000) : Calls Try.prog 25 #[.string s] w (RetTexts w (wordsL s)) := by
  go_enter Try.func25, Try.ntmps25
  go_wp2_with fail
  go_loopw [3, 4, 5] (fun v av iv wr => ∃ (k a : Nat) (ys : List (Nat × Nat)), a ≤ k ∧ k ≤ s.size + 1 ∧ (k = s.size + 1 → a = k) ∧ iv = .int .i64 (k : Int) ∧ av = .int .i64 (a : Int) ∧
      wr.ownsRow w.heap.size 9 1 v ys.length ((ys.map (extS s)).map Value.string) ∧ Below w.heap.size w wr ∧ ys.length ≤ k ∧ Hid (bspans s (s.size + 1) 0 0 = ys ++ bspans s (s.size + 1 - k) k a)) (fun _ _ iv _ => s.size + 1 - (intOf iv).toNat)
  case atStart => exact ⟨0, 0, [], by omega, by omega, by omega, rfl, rfl, World.ownsRow_nil _ _ _ _, Below.refl _ _, by simp, hid rfl⟩
  case round =>
    obtain ⟨k, a, ys, hak, hk, hka, rfl, rfl, hown, hb, hyl, hsp⟩ := hrel
    by_cases hk2 : k = s.size + 1
    · have hw : wordsL s = ys.map (extS s) := by
        unfold wordsL
        rw [hsp.out, show s.size + 1 - k = 0 by omega]
        simp only [bspans, List.append_nil]
        rfl
      replace hsp := hid hw
      go_wp2_with fail
      go_ret
      exact ⟨_, rfl, by rw [hsp.out]; unfold TextsAt; rw [List.length_map]; exact RowAt.of_own hown, hb⟩
    · by_cases hks : k = s.size
      · have e1 := bspans_end s 0 k a hks
        rw [show s.size + 1 - k = 0 + 1 by omega, e1] at hsp
        have hq : (((k : Nat) : Int) == (s.size : Int)) = true := by simp [hks]
        have hkl : k ≤ s.size := by omega
        have hkk := hks
        replace hks := hid hks
        clear hkk e1
        by_cases hlt : a < k
        · rw [if_pos hlt] at hsp
          have hblk : ∀ o, (wr.alloc o).heap[wr.heap.size]? = some o := fun o => heap_alloc_new _ _
          go_wp2_with (at_builtin; refine wpList_append_row elemStr _ rfl (.tmp 25) (.tmp 30) rfl w.heap.size u3 ys.length ((ys.map (extS s)).map Value.string) rfl (hown.alloc _) (.slice (some ⟨wr.heap.size, 0, none⟩) 1 1) 1 [.string (s.extract a k)] rfl (RowAt.of_block (hblk _) (by simp) (by unfold maxLen; omega)) (by intro u hu; rw [List.mem_singleton] at hu; subst hu; rfl) (by unfold maxLen; omega) (by omega) (by have := hb.size; simp; omega) ?_)
          intro a' c' w' h2 h3
          have hb' : Below w.heap.size w w' := (hb.alloc hb.size _).grown h3 (by have := hb.size; simp; omega) (fun j hj => (hown.lt j hj).1)
          have h4 : w'.ownsRow w.heap.size 9 1 (.slice a' (ys.length + 1) c') (ys ++ [(a, k)]).length (((ys ++ [(a, k)]).map (extS s)).map Value.string) := by simpa [extS] using h2
          replace h4 := hid h4
          clear h2 h3
          go_wp2_with fail
          go_roundw
          case rel => exact ⟨k + 1, k + 1, ys ++ [(a, k)], by omega, by omega, fun _ => rfl, by go_num, by go_num, h4.out, hb', by simp; omega, hid (by rw [hsp.out, show s.size + 1 - (k + 1) = 0 by have := hks.out; omega]; simp [bspans])⟩
          case measure => simp [intOf]; omega
        · rw [if_neg hlt] at hsp
          go_wp2_with fail
          go_roundw
          case rel => exact ⟨k + 1, k + 1, ys, by omega, by omega, fun _ => rfl, by go_num, by go_num, hown, hb, by omega, hid (by rw [hsp.out, show s.size + 1 - (k + 1) = 0 by have := hks.out; omega]; simp [bspans])⟩
          case measure => simp [intOf]; omega
      · have hkl : k < s.size := by omega
        have hq : (((k : Nat) : Int) == (s.size : Int)) = false := by simp; omega
        by_cases hc : s[k].toNat = 47
        · have hq2 : (((s[k].toNat : Nat) : Int) == 47) = true := by simp [hc]
          have e1 := bspans_sep s (s.size - k) k a hkl hc
          rw [show s.size + 1 - k = (s.size - k) + 1 by omega, e1] at hsp
          clear hks hc e1
          by_cases hlt : a < k
          · rw [if_pos hlt] at hsp
            have hblk : ∀ o, (wr.alloc o).heap[wr.heap.size]? = some o := fun o => heap_alloc_new _ _
            go_wp2_with (at_builtin; refine wpList_append_row elemStr _ rfl (.tmp 25) (.tmp 30) rfl w.heap.size u3 ys.length ((ys.map (extS s)).map Value.string) rfl (hown.alloc _) (.slice (some ⟨wr.heap.size, 0, none⟩) 1 1) 1 [.string (s.extract a k)] rfl (RowAt.of_block (hblk _) (by simp) (by unfold maxLen; omega)) (by intro u hu; rw [List.mem_singleton] at hu; subst hu; rfl) (by unfold maxLen; omega) (by omega) (by have := hb.size; simp; omega) ?_)
            intro a' c' w' h2 h3
            have hb' : Below w.heap.size w w' := (hb.alloc hb.size _).grown h3 (by have := hb.size; simp; omega) (fun j hj => (hown.lt j hj).1)
            have h4 : w'.ownsRow w.heap.size 9 1 (.slice a' (ys.length + 1) c') (ys ++ [(a, k)]).length (((ys ++ [(a, k)]).map (extS s)).map Value.string) := by simpa [extS] using h2
            replace h4 := hid h4
            clear h2 h3
            go_wp2_with fail
            go_roundw
            case rel => exact ⟨k + 1, k + 1, ys ++ [(a, k)], by omega, by omega, fun _ => rfl, by go_num, by go_num, h4.out, hb', by simp; omega, hid (by rw [hsp.out, show s.size + 1 - (k + 1) = s.size - k by omega]; simp)⟩
            case measure => simp [intOf]; omega
          · rw [if_neg hlt] at hsp
            go_wp2_with fail
            go_roundw
            case rel => exact ⟨k + 1, k + 1, ys, by omega, by omega, fun _ => rfl, by go_num, by go_num, hown, hb, by omega, hid (by rw [hsp.out, show s.size + 1 - (k + 1) = s.size - k by omega]; simp)⟩
            case measure => simp [intOf]; omega
        · have hq2 : (((s[k].toNat : Nat) : Int) == 47) = false := by simp; omega
          have e1 := bspans_no s (s.size - k) k a hkl hc
          rw [show s.size + 1 - k = (s.size - k) + 1 by omega, e1] at hsp
          clear hks hc e1
          go_wp2_with fail
          go_roundw
          case rel => exact ⟨k + 1, a, ys, by omega, by omega, by omega, by go_num, rfl, hown, hb, by omega, hid (by rw [hsp.out, show s.size + 1 - (k + 1) = s.size - k by omega])⟩
          case measure => simp [intOf]; omega
end Go.Proofs.Ytoblafeiidjaaaa
