/- What Fit, Whole and Ask return, for every records whose texts are at most 200 bytes each. No further condition. -/
import Derived.Test.YtoblafeiidjaaaaDread
namespace Go.Proofs.Ytoblafeiidjaaaa
open Go.RowKit
set_option maxRecDepth 100000

def askN (a b : Nat) : Nat := if a = 0 then 0 else if a = b then 0 else 21

theorem ask_any (a b : Nat) (w : World) : Calls Try.prog 14 #[.int .u64 (a : Int), .int .u64 (b : Int)] w fun e w' => e = .returned (.int .i64 (askN a b : Int)) ∧ w = w' := by
  by_cases h1 : a = 0
  · have hE := hid (show askN a b = 0 by simp [askN, h1])
    have k1 : ((a : Int) != 0) = false := by simp [h1]
    clear h1
    go_enter Try.func14, Try.ntmps14
    go_wp2_with fail
    go_ret
    exact ⟨by rw [hE.out]; rfl, rfl⟩
  · have k1 : ((a : Int) != 0) = true := by simp; omega
    by_cases h2 : a = b
    · have hE := hid (show askN a b = 0 by simp [askN, h2])
      have k2 : ((a : Int) != (b : Int)) = false := by simp [h2]
      clear h1 h2
      go_enter Try.func14, Try.ntmps14
      go_wp2_with fail
      go_ret
      exact ⟨by rw [hE.out]; rfl, rfl⟩
    · have hE := hid (show askN a b = 21 by simp [askN, h1, h2])
      have k2 : ((a : Int) != (b : Int)) = true := by simp; omega
      clear h1 h2
      go_enter Try.func14, Try.ntmps14
      go_wp2_with fail
      go_ret
      exact ⟨by rw [hE.out]; rfl, rfl⟩

def FitPost (w : World) (b : List UInt8) (k : Int) (e : Nat) (en : Ending) (w' : World) : Prop := ∃ v', en = .returned (.tuple #[v', .int .i64 k, .int .i64 (e : Int)]) ∧ BytesAt w' v' b ∧ Below w.heap.size w w'

/-- What Fit tells of the records from a place on. -/
def fitB (n : Nat) (L : List Stat) : List UInt8 := if (fillS n L [] 0).2.2 = 0 then (fillS n L [] 0).1 else []
def fitE (n : Nat) (L : List Stat) : Nat := (fillS n L [] 0).2.2
def fitK (n : Nat) (L : List Stat) (i : Nat) : Nat := if (fillS n L [] 0).2.2 = 0 then i + (fillS n L [] 0).2.1 else 0

theorem StatsAt.dropn {w : World} {a : Option Addr} {n c : Nat} {l : List Stat} (h : StatsAt w (.slice a n c) l) (k : Nat) (hk : k ≤ l.length) : StatsAt w (.slice (Option.map (fun x => x.add (k * 13)) a) (l.length - k) (c - k)) (l.drop k) := by
  obtain ⟨_, a', c', hv, h1, h2, h3, h5, h4⟩ := h
  cases hv
  have hfl : ∀ m : List Stat, (m.flatMap fun s => s.cells.toList).length = m.length * 13 := fun m => by
    induction m with
    | nil => rfl
    | cons s m ih => rw [List.flatMap_cons, List.length_append, ih]; simp [Stat.cells]; omega
  have hsplit : (l.flatMap fun s => s.cells.toList) = (l.take k).flatMap (fun s => s.cells.toList) ++ (l.drop k).flatMap (fun s => s.cells.toList) := by
    rw [← List.flatMap_append, List.take_append_drop]
  refine ⟨by rw [hfl, List.length_drop], Option.map (fun x => x.add (k * 13)) a, c - k, by simp, by simp; omega, by omega, ?_, ?_, fun i u hu => ?_⟩
  · cases a with
    | none => intro _; have := h3 rfl; omega
    | some a => intro h; cases h
  · intro ad ha
    cases a with
    | none => cases ha
    | some a0 =>
      have := h5 a0 rfl
      simp only [Option.map_some, Option.some.injEq] at ha
      subst ha
      unfold Addr.add
      split
      · exact this
      · exact ⟨rfl, this.2⟩
  obtain ⟨b', o', he, hcell⟩ := h4 (k * 13 + i) u (by rw [hsplit, List.getElem?_append_right (by rw [hfl, List.length_take]; omega), hfl, List.length_take, ← hu]; congr 1; rw [Nat.min_eq_left hk]; omega)
  cases he
  exact ⟨b', o' + k * 13, by simp [add_plain'], by rw [Nat.add_assoc]; exact hcell⟩

theorem StatsAt.drop0 {w : World} {a : Option Addr} {n c k : Nat} {l : List Stat} (h : StatsAt w (.slice a n c) l) (hk : c = k) : StatsAt w (.slice a (l.length - k) 0) (l.drop k) := by
  obtain ⟨_, a', c', hv, h1, h2, h3, h5, h4⟩ := h
  cases hv
  subst hk
  have : l.drop c = [] := List.drop_eq_nil_of_le h1
  rw [this]
  exact ⟨rfl, a, 0, by simp; omega, Nat.le_refl _, by unfold maxLen; omega, fun _ => rfl, h5, fun i u hu => by simp at hu⟩

theorem row_new (w : World) (most : Nat) : RowIs (w.alloc (.cells #[.slice none 0 0, .int .i64 0, .int .u64 (most : Int), .int .i64 0] 95)) w.heap.size [] 0 most 0 :=
  ⟨_, heap_alloc_new _ _, World.ownsRow_nil _ _ _ _⟩

theorem fillS_len (most : Nat) : ∀ (L : List Stat) (b : List UInt8) (k : Nat), (∀ s ∈ L, Few s) → (fillS most L b k).1.length ≤ b.length + 849 * L.length ∧ (fillS most L b k).2.1 ≤ k + L.length
  | [], b, k, _ => by simp [fillS]
  | s :: L, b, k, h => by
    have ih := fillS_len most L (b ++ s.bytes) (k + 1) (fun x hx => h x (by simp [hx]))
    have hs := bytes_le s (h s (by simp))
    rw [List.length_append] at ih
    simp only [fillS, List.length_cons]
    split
    · simp
    · split
      · simp
      · omega

theorem RowIs.parts {w : World} {r n most err : Nat} {xs : List UInt8} (h : RowIs w r xs n most err) : ∃ v, w.cell? ⟨r, 0, none⟩ = some v ∧ w.cell? ⟨r, 0 + 1, none⟩ = some (.int .i64 (n : Int)) ∧ w.cell? ⟨r, 0 + 3, none⟩ = some (.int .i64 (err : Int)) ∧ BytesAt w v xs := by
  obtain ⟨v, hb, ho⟩ := h
  exact ⟨v, block_cell hb 0, block_cell hb 1, block_cell hb 3, BytesAt.of_own ho rfl⟩

set_option maxHeartbeats 400000 in
theorem clip_is (a : Option Addr) (n c : Nat) (w : World) (_hn : n ≤ c) (_hc : c ≤ maxLen) :
    Calls Try.prog 51 #[.slice a n c] w fun e w' => e = .returned (.slice a n n) ∧ w' = w := by
  unfold maxLen at _hc
  go_enter Try.func51, Try.ntmps51
  go_wp2
  go_ret
  exact ⟨rfl, rfl⟩

theorem BytesAt.clip {w : World} {a : Option Addr} {c : Nat} {l : List UInt8} (h : BytesAt w (.slice a l.length c) l) : BytesAt w (.slice a l.length l.length) l := by
  have h1 : l.length ≤ c := by
    obtain ⟨a', c', hv, h1, _⟩ := h.form
    cases hv
    exact h1
  have := BytesAt.take h l.length l.length (Nat.le_refl _) (Nat.le_refl _) h1
  rwa [List.take_length] at this

set_option maxHeartbeats 800000 in
theorem fit_in (L : List Stat) (v : Value) (i n : Nat) (w : World) (hL : StatsAt w v L) (hi : i ≤ L.length) (hn : n < 4294967296) (hok : ∀ s ∈ L, StatOk s ∧ Few s) (hlen : L.length ≤ 1000) :
    Calls Try.prog 18 #[v, .int .i64 (i : Int), .int .u32 (n : Int)] w (FitPost w (fitB n (L.drop i)) (fitK n (L.drop i) i : Int) (fitE n (L.drop i))) := by
  obtain ⟨a, c, rfl, hc1, hc2⟩ := hL.form
  have hokd : ∀ s ∈ L.drop i, StatOk s ∧ Few s := fun s hs => hok s (List.drop_subset _ _ hs)
  have hlend : (L.drop i).length ≤ 1000 := by rw [List.length_drop]; omega
  have hbn := (Below.refl w.heap.size w).alloc (Nat.le_refl _) (.cells #[.slice none 0 0, .int .i64 0, .int .u64 (n : Int), .int .i64 0] 95)
  have hrn := row_new w n
  have hd1 := hL.dropn i hi
  have hF := fillS_len n (L.drop i) [] 0 (fun s hs => (hokd s hs).2)
  have hB : Hid (fitB n (L.drop i) = if (fillS n (L.drop i) [] 0).2.2 = 0 then (fillS n (L.drop i) [] 0).1 else []) := hid rfl
  have hK : Hid (fitK n (L.drop i) i = if (fillS n (L.drop i) [] 0).2.2 = 0 then i + (fillS n (L.drop i) [] 0).2.1 else 0) := hid rfl
  have hE : Hid (fitE n (L.drop i) = (fillS n (L.drop i) [] 0).2.2) := hid rfl
  unfold maxLen at hc2
  by_cases hcn : c = i
  case' pos =>
    have hd0 := hL.drop0 hcn
    go_enter Try.func18, Try.ntmps18
    go_wp2_with fail
    refine (fill_any w.heap.size n _ _ w _ hd0 hbn (Nat.le_refl _) (by omega) hokd hlend hrn).mono ?_
  case' neg =>
    go_enter Try.func18, Try.ntmps18
    go_wp2_with fail
    refine (fill_any w.heap.size n _ _ w _ hd1 hbn (Nat.le_refl _) (by omega) hokd hlend hrn).mono ?_
  all_goals
    rintro e w1 ⟨rfl, ho, hb⟩
    generalize fillS n (L.drop i) [] 0 = R at ho hF hB hK hE
    obtain ⟨xs, k, err⟩ := R
    simp only [List.length_nil, Nat.zero_add] at hF ho
    obtain ⟨hF1, hF2⟩ := hF
    have hbw := hbn.trans hb
    obtain ⟨va, c0, c1, c3, hva⟩ := ho.parts
    obtain ⟨a4, c4, rfl, hc4, hd4, _⟩ := hva.form
    clear hb hd1 hrn hbn hL ho
    by_cases he : err = 0
    · subst he
      have hB2 := hid (show fitB n (L.drop i) = xs from hB.out)
      have hK2 := hid (show fitK n (L.drop i) i = i + k from hK.out)
      have hE2 := hid (show fitE n (L.drop i) = 0 from hE.out)
      clear hB hK hE
      go_wp2_with fail
      go_quiet (refine Calls.quiet_of_same (clip_is _ _ _ _ (by assumption) (by assumption)))
      go_wp2_with fail
      go_ret3
      exact ⟨_, by rw [hK2.out, hE2.out]; simp only [Int.natCast_add]; rfl, by rw [hB2.out]; exact hva.clip.below (bdrewN (Below.refl _ _) _), bdrewN hbw _⟩
    · have hB2 := hid (show fitB n (L.drop i) = [] from hB.out.trans (if_neg he))
      have hK2 := hid (show fitK n (L.drop i) i = 0 from hK.out.trans (if_neg he))
      have hE2 := hid (show fitE n (L.drop i) = err from hE.out)
      have k0 : ((err : Int) != 0) = true := by simpa using he
      clear hB hK hE
      replace he := hid he
      go_wp2_with fail
      go_quiet (fail)
      go_wp2_with fail
      go_ret3
      exact ⟨_, by rw [hK2.out, hE2.out]; rfl, by rw [hB2.out]; exact RowAt.nil, bdrewN hbw _⟩

set_option maxHeartbeats 400000 in
theorem fit_out (L : List Stat) (v : Value) (i : Int) (n : Nat) (w : World) (hL : StatsAt w v L) (hi : i < 0 ∨ (L.length : Int) < i) (hi2 : i < 9223372036854775808) (hi3 : -9223372036854775808 ≤ i) :
    Calls Try.prog 18 #[v, .int .i64 i, .int .u32 (n : Int)] w (FitPost w [] 0 1) := by
  obtain ⟨a, c, rfl, hc1, hc2⟩ := hL.form
  by_cases h1 : i < 0
  · have k1 : decide (i < 0) = true := by simpa using h1
    go_enter Try.func18, Try.ntmps18
    go_wp2_with fail
    go_ret3
    exact ⟨_, rfl, RowAt.nil, Below.refl _ _⟩
  · have k1 : decide (i < 0) = false := by simpa using h1
    have k2 : decide ((L.length : Int) < i) = true := by simp; omega
    go_enter Try.func18, Try.ntmps18
    go_wp2_with fail
    go_ret3
    exact ⟨_, rfl, RowAt.nil, Below.refl _ _⟩

def most62 : Nat := 4611686018427387904
theorem most62_eq : (most62 : Int) = 4611686018427387904 := rfl

/-- What Whole tells. -/
def WholePost (w : World) (b : List UInt8) (e : Nat) (en : Ending) (w' : World) : Prop := ∃ v', en = .returned (.tuple #[v', .int .i64 (e : Int)]) ∧ BytesAt w' v' b ∧ Below w.heap.size w w'

set_option maxHeartbeats 800000 in
theorem whole_any (L : List Stat) (v : Value) (w : World) (hL : StatsAt w v L) (hok : ∀ s ∈ L, StatOk s ∧ Few s) (hlen : L.length ≤ 1000) :
    Calls Try.prog 19 #[v] w (WholePost w (fitB most62 L) (fitE most62 L)) := by
  obtain ⟨a, c, rfl, hc1, hc2⟩ := hL.form
  have hbn := (Below.refl w.heap.size w).alloc (Nat.le_refl _) (.cells #[.slice none 0 0, .int .i64 0, .int .u64 (most62 : Int), .int .i64 0] 95)
  have hrn := row_new w most62
  have hF := fillS_len most62 L [] 0 (fun s hs => (hok s hs).2)
  have hB : Hid (fitB most62 L = if (fillS most62 L [] 0).2.2 = 0 then (fillS most62 L [] 0).1 else []) := hid rfl
  have hE : Hid (fitE most62 L = (fillS most62 L [] 0).2.2) := hid rfl
  unfold maxLen at hc2
  have hfill := fill_any w.heap.size most62 L _ w _ hL hbn (Nat.le_refl _) (by unfold most62; omega) hok hlen hrn
  rw [most62_eq] at hbn hfill
  replace hfill := hid hfill
  go_enter Try.func19, Try.ntmps19
  go_wp2_with fail
  refine hfill.out.mono ?_
  rintro e w1 ⟨rfl, ho, hb⟩
  generalize fillS most62 L [] 0 = R at ho hF hB hE
  obtain ⟨xs, k, err⟩ := R
  simp only [List.length_nil, Nat.zero_add] at hF ho
  obtain ⟨hF1, hF2⟩ := hF
  have hbw := hbn.trans hb
  obtain ⟨va, c0, c1, c3, hva⟩ := ho.parts
  obtain ⟨a4, c4, rfl, hc4, hd4, _⟩ := hva.form
  clear hb hrn hbn hL ho hfill
  by_cases he : err = 0
  · subst he
    have hB2 := hid (show fitB most62 L = xs from hB.out)
    have hE2 := hid (show fitE most62 L = 0 from hE.out)
    clear hB hE
    go_wp2_with fail
    refine (clip_is _ _ _ _ hc4 hd4).mono ?_
    rintro e w2 ⟨rfl, rfl⟩
    go_wp2_with fail
    go_ret2
    exact ⟨_, by rw [hE2.out]; rfl, by rw [hB2.out]; exact hva.clip, hbw⟩
  · have hB2 := hid (show fitB most62 L = [] from hB.out.trans (if_neg he))
    have hE2 := hid (show fitE most62 L = err from hE.out)
    have k0 : ((err : Int) != 0) = true := by simpa using he
    clear hB hE
    replace he := hid he
    go_wp2_with fail
    go_quiet (fail)
    go_wp2_with fail
    go_ret2
    exact ⟨_, by rw [hE2.out]; rfl, by rw [hB2.out]; exact RowAt.nil, bdrewN hbw _⟩
end Go.Proofs.Ytoblafeiidjaaaa
