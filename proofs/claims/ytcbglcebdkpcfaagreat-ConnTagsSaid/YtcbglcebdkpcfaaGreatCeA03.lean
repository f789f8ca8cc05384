/- What Valid, may and Name return, in the program and in the reference, for every text of at most maxLen bytes. No further condition. And the texts behind it. -/
import Derived.Test.YtcbglcebdkpcfaaGreatCeA02
import Derived.Test.YtcbglcebdkpcfaaGreatShelf
import Derived.Lib.ConvBytes
import Derived.Lib.AppendStr
namespace Go.Proofs.YtcbglcebdkpcfaaGreat
section
open Go.RowKit
set_option maxRecDepth 100000

theorem indexByte_mem (c : UInt8) : ∀ l : List UInt8, decide (0 ≤ Lib.indexByte l c) = l.contains c
  | [] => rfl
  | b :: l => by
    have ih := indexByte_mem c l
    have hlb : ∀ l : List UInt8, -1 ≤ Lib.indexByte l c := by
      intro l
      induction l with
      | nil => simp [Lib.indexByte]
      | cons b l ih => simp only [Lib.indexByte]; split <;> (try split) <;> omega
    have h1 := hlb l
    simp only [Lib.indexByte, List.contains_cons]
    by_cases hbc : b = c
    · subst hbc; simp
    · have e1 : (b == c) = false := by simpa using hbc
      have e2 : (c == b) = false := by simp; exact fun h => hbc h.symm
      rw [e2, ← ih, Bool.false_or]
      refine decide_eq_decide.2 ?_
      rw [e1]
      simp only [Bool.false_eq_true, if_false]
      by_cases h2 : Lib.indexByte l c = -1
      · simp [h2]
      · have e3 : (Lib.indexByte l c == -1) = false := by simpa using h2
        rw [e3]; simp; omega

def validB (s : ByteArray) : Bool := S.valid s.data.toList
def mayN (s : ByteArray) : Nat := S.may s.data.toList

theorem validB_eq (s : ByteArray) : validB s = (runesOk s && decide (s.size ≤ 64) && !decide (0 ≤ Lib.indexByte s.data.toList 0)) := by
  rw [indexByte_mem]; rfl

set_option maxHeartbeats 400000 in
theorem valid_any (s : ByteArray) (w : World) (hs : s.size ≤ maxLen) :
    Calls Tryz.prog 134 #[.string s] w fun e w' => e = .returned (.bool (validB s)) ∧ Below w.heap.size w w' := by
  have E := validB_eq s
  unfold maxLen at hs
  cases h1 : runesOk s with
  | false =>
    rw [h1] at E
    replace E := hid E
    replace h1 := hid h1
    go_enter Tryz.func134, Tryz.ntmps134
    go_wp2_with (go_at_call 135; refine (runes_any s _ (by unfold maxLen; omega)).mono ?_; rw [h1.out]; rintro e w' ⟨rfl, hb⟩)
    go_ret
    exact ⟨by rw [E.out]; rfl, hb⟩
  | true =>
    rw [h1] at E
    replace h1 := hid h1
    by_cases h2 : s.size ≤ 64
    · rw [decide_eq_true h2] at E
      replace E := hid E
      go_enter Tryz.func134, Tryz.ntmps134
      go_wp2_with (first | (go_at_call 135; refine (runes_any s _ (by unfold maxLen; omega)).mono ?_; rw [h1.out]; rintro e w' ⟨rfl, hb⟩) | (go_at_call 136; refine (Tryz.strings_Contains_one s 0 _).mono ?_; rintro e w' ⟨rfl, rfl⟩))
      go_ret
      exact ⟨by rw [E.out]; rfl, hb⟩
    · rw [decide_eq_false h2] at E
      replace E := hid E
      go_enter Tryz.func134, Tryz.ntmps134
      go_wp2_with (first | (go_at_call 135; refine (runes_any s _ (by unfold maxLen; omega)).mono ?_; rw [h1.out]; rintro e w' ⟨rfl, hb⟩))
      go_ret
      exact ⟨by rw [E.out]; rfl, hb⟩

set_option maxHeartbeats 400000 in
theorem may_any (s : ByteArray) (w : World) (hs : s.size ≤ maxLen) :
    Calls Tryz.prog 133 #[.string s] w fun e w' => e = .returned (.int .i64 (mayN s : Int)) ∧ Below w.heap.size w w' := by
  have hs' := hs
  unfold maxLen at hs
  by_cases h2 : 64 < s.size
  · have E := hid (show mayN s = 3 by unfold mayN S.may; rw [if_pos (by simpa using h2)])
    go_enter Tryz.func133, Tryz.ntmps133
    go_wp2_with fail
    go_ret
    exact ⟨by rw [E.out]; rfl, Below.refl _ _⟩
  · have E : mayN s = if !validB s then 2 else 0 := by unfold mayN S.may; rw [if_neg (by simpa using h2)]; rfl
    cases h1 : validB s
    all_goals
      rw [h1] at E
      replace E := hid E
      replace h1 := hid h1
      go_enter Tryz.func133, Tryz.ntmps133
      go_wp2_with (go_at_call 134; refine (valid_any s _ (by unfold maxLen; omega)).mono ?_; rw [h1.out]; rintro e w' ⟨rfl, hb⟩)
      go_ret
      exact ⟨by rw [E.out]; rfl, hb⟩

theorem bytesWorld_cell' (w : World) (e : TypeId) (s : ByteArray) (j : Nat) (hj : j < s.size) : (Lib.bytesWorld w e s).cell? ⟨w.heap.size, j, none⟩ = some (.int .u8 (s[j].toNat : Int)) := by
  rw [Lib.bytesWorld_cell w e s j hj]
  have : s.data.toList.getD j 0 = s[j] := by
    simp only [List.getD_eq_getElem?_getD]
    rw [List.getElem?_eq_getElem (by simpa using hj)]; rfl
  rw [this]

set_option maxHeartbeats 800000 in
theorem ref_valid_any (s : ByteArray) (w : World) (hs : s.size ≤ maxLen) :
    Calls Tryz.prog 89 #[.string s] w fun e w' => e = .returned (.bool (validB s)) ∧ w = w' := by
  unfold maxLen at hs
  have E : validB s = (runesOk s && decide (s.size ≤ 64) && !(s.data.toList.any (· == 0))) := by
    unfold validB S.valid
    have h : ∀ l : List UInt8, l.contains 0 = l.any (· == 0) := by
      intro l
      induction l with
      | nil => rfl
      | cons b l ih => rw [List.contains_cons, List.any_cons, ih, Bool.beq_comm]
    rw [h]; rfl
  go_enter Tryz.func89, Tryz.ntmps89
  replace E := hid E
  go_wp2_with fail
  go_loop [3] (fun i => ∃ k : Nat, k ≤ s.size ∧ i = .int .i64 (k : Int) ∧ Hid ((s.data.toList.take k).any (· == 0) = false)) (fun i => s.size - (intOf i).toNat)
  case atStart => exact ⟨0, by omega, rfl, hid rfl⟩
  case round =>
    obtain ⟨k, hk, rfl, hany⟩ := hrel
    by_cases hlt : k < s.size
    · have hta := S.take_any s (· == 0) k hlt
      rw [hany.out, Bool.false_or] at hta
      by_cases h0 : s[k].toNat = 0
      · have hk0 : (((s[k].toNat : Nat) : Int) == 0) = true := by simp [h0]
        have h00 : (s[k] == 0) = true := by simpa [← UInt8.toNat_inj] using h0
        have E1 : Hid (validB s = false) := hid (by rw [E.out, S.any_of_take (k + 1) (hta.trans h00)]; simp)
        clear h0 h00 hta E
        go_wp2_with fail
        go_ret
        exact ⟨by rw [E1.out]; rfl, rfl⟩
      · have hk0 : (((s[k].toNat : Nat) : Int) == 0) = false := by simp [h0]
        have h00 : (s[k] == 0) = false := by simpa [← UInt8.toNat_inj] using h0
        replace hta := hid (hta.trans h00)
        clear h0 h00
        go_wp2_with fail
        go_round
        case rel => exact ⟨k + 1, by omega, by go_num, hta⟩
        case measure => simp [intOf]; omega
    · obtain rfl : k = s.size := by omega
      have E1 : validB s = (runesOk s && decide (s.size ≤ 64)) := by
        have h := hany.out
        rw [List.take_of_length_le (by simp)] at h
        rw [E.out, h]; simp
      clear E
      cases h1 : runesOk s
      · rw [h1] at E1
        replace E1 := hid E1
        replace h1 := hid h1
        go_wp2_with (go_at_call 92; refine (ref_runes_any s _ (by unfold maxLen; omega)).mono ?_; rw [h1.out]; rintro e w' ⟨rfl, rfl⟩)
        go_ret
        exact ⟨by rw [E1.out]; rfl, rfl⟩
      · rw [h1] at E1
        replace h1 := hid h1
        by_cases h2 : s.size ≤ 64
        · rw [decide_eq_true h2] at E1
          replace E1 := hid E1
          go_wp2_with (go_at_call 92; refine (ref_runes_any s _ (by unfold maxLen; omega)).mono ?_; rw [h1.out]; rintro e w' ⟨rfl, rfl⟩)
          go_ret
          exact ⟨by rw [E1.out]; exact ret_bool (by simp; omega), rfl⟩
        · rw [decide_eq_false h2] at E1
          replace E1 := hid E1
          go_wp2_with (go_at_call 92; refine (ref_runes_any s _ (by unfold maxLen; omega)).mono ?_; rw [h1.out]; rintro e w' ⟨rfl, rfl⟩)
          go_ret
          exact ⟨by rw [E1.out]; exact ret_bool (by simp; omega), rfl⟩
end
end Go.Proofs.YtcbglcebdkpcfaaGreat

namespace Go.Proofs.YtcbglcebdkpcfaaGreat
section
open Go.RowKit
set_option maxRecDepth 100000

def strL (l : List UInt8) : ByteArray := ⟨l.toArray⟩
theorem strL_size (l : List UInt8) : (strL l).size = l.length := by simp [strL, ByteArray.size]
theorem strL_self (s : ByteArray) : strL s.data.toList = s := rfl

theorem conv_string (w : World) (v : Value) (l : List UInt8) (h : BytesAt w v l) : (convert 29 9 v).run Tryz.prog w = .ok (.string (strL l)) w := by
  obtain ⟨hl, a, c, rfl, h1, h2, h3, h5, h4⟩ := h
  cases a with
  | none =>
    have hc := h3 rfl
    obtain rfl : l = [] := List.eq_nil_of_length_eq_zero (by omega)
    exact run_convert_bytes_nil w _ _ Tryz.underlying29 Tryz.underlying5 _ _ _ Tryz.underlying9
  | some ad =>
    obtain ⟨b, o, sp⟩ := ad
    have := (h5 _ rfl).1
    subst this
    rw [run_convert_bytes_arg w _ _ Tryz.underlying29 Tryz.underlying5 b o l.length c (l.map fun x => (x.toNat : Int)) (by simp) (fun i hi => ?_) _ Tryz.underlying9]
    · congr 1
      have : ∀ l : List UInt8, List.map ((fun n : Int => UInt8.ofNat n.toNat) ∘ fun x : UInt8 => (x.toNat : Int)) l = l := by
        intro l
        induction l with
        | nil => rfl
        | cons c l ih => simp only [List.map_cons, ih]; simp
      simp [strOfNums, strL, this]
    · obtain ⟨b', o', he, hc⟩ := h4 i (byteV l[i]) (by simp [hi])
      cases he
      rw [hc]
      simp [byteV, List.getD, hi]

def putText (s : ByteArray) : List UInt8 := numBytes s.size 2 ++ s.data.toList

def putTextR (s : ByteArray) : List UInt8 := if mayN s = 0 then putText s else []
theorem putTextR_ok {s : ByteArray} (h : mayN s = 0) : putTextR s = putText s := by unfold putTextR; rw [if_pos h]
theorem putTextR_no {s : ByteArray} (h : mayN s ≠ 0) : putTextR s = [] := by unfold putTextR; rw [if_neg h]

theorem OutIs.below {w w' : World} {b : Nat} {xs : List UInt8} (h : OutIs w b xs) (hb : Below w.heap.size w w') : OutIs w' b xs := by
  obtain ⟨v, ot, h1, h2⟩ := h
  refine ⟨v, ot, (hb.block b (lt_of_block h1)).trans h1, h2.1, ?_⟩
  rcases h2.2 with h3 | ⟨g, cap, cur, hv, hg, hh, r⟩
  · exact .inl h3
  · exact .inr ⟨g, cap, cur, hv, hg, (hb.block g (lt_of_block hh)).trans hh, r⟩
theorem OutIs.lt {w : World} {b : Nat} {xs : List UInt8} (h : OutIs w b xs) : b < w.heap.size := by
  obtain ⟨v, ot, h1, _⟩ := h
  exact lt_of_block h1

theorem bytesWorld_bytes (w : World) (s : ByteArray) (hs : s.size ≤ 1000000000) : BytesAt (Lib.bytesWorld w 5 s) (.slice (some ⟨w.heap.size, 0, none⟩) s.size (grownCap w s.size 0 5)) s.data.toList := by
  refine ⟨by simp, some ⟨w.heap.size, 0, none⟩, _, by simp; rfl, by simpa using grownCap_ge w s.size 0 _, grownCap_le_maxLen w s.size 0 _ (by unfold maxLen; omega), fun h => (by cases h), fun ad ha => (by cases ha; exact ⟨rfl, by rw [Lib.bytesWorld_size]; exact Nat.lt_succ_self _⟩), fun i u hu => ⟨w.heap.size, 0, rfl, ?_⟩⟩
  have hi : i < s.size := by have := (List.getElem?_eq_some_iff.1 hu).1; simpa using this
  rw [Nat.zero_add, bytesWorld_cell' w _ s i hi, ← hu]
  simp [byteV, hi]
  rfl

theorem below_bytesWorld (w : World) (e : TypeId) (s : ByteArray) : Below w.heap.size w (Lib.bytesWorld w e s) := ⟨rfl, rfl, rfl, by rw [Lib.bytesWorld_size]; omega, fun k hk => Lib.bytesWorld_at_old w e s k hk⟩

def tkErr (l : List UInt8) (e : Nat) : Nat := if restE (takeV 2 l e) (restL 2 l e) (restE 2 l e) ≠ 0 then restE (takeV 2 l e) (restL 2 l e) (restE 2 l e) else mayN (strL (rawL (takeV 2 l e) (restL 2 l e) (restE 2 l e)))
def tkStr (l : List UInt8) (e : Nat) : ByteArray := if tkErr l e ≠ 0 then ByteArray.empty else strL (rawL (takeV 2 l e) (restL 2 l e) (restE 2 l e))
def tkL (l : List UInt8) (e : Nat) : List UInt8 := restL (takeV 2 l e) (restL 2 l e) (restE 2 l e)
def tkE (l : List UInt8) (e : Nat) : Nat := restE (takeV 2 l e) (restL 2 l e) (restE 2 l e)

theorem takeV_lt (n : Nat) (l : List UInt8) (e : Nat) (_hn : n ≤ 8) : takeV n l e < 256 ^ n := by
  unfold takeV
  split
  · exact Nat.pow_pos (by omega)
  · split
    · exact Nat.pow_pos (by omega)
    · have := leN_lt (l.take n)
      rwa [show (l.take n).length = n by simp; omega] at this

theorem restL_le (n : Nat) (l : List UInt8) (e : Nat) : (restL n l e).length ≤ l.length := by unfold restL; split <;> (try split) <;> simp
theorem rawL_le (n : Nat) (l : List UInt8) (e : Nat) : (rawL n l e).length ≤ l.length := by unfold rawL; split <;> (try split) <;> simp; omega

theorem outIs_new {t : TypeId} (w : World) : OutIs (w.alloc (.cells #[.slice none 0 0] t)) w.heap.size [] := ⟨_, t, heap_alloc_new _ _, World.ownsRow_nil _ _ _ _⟩

theorem sn {W a b : World} (h : Below W.heap.size W a) (k : Below a.heap.size a b) : Below W.heap.size W b := h.trans (k.mono h.size)

theorem mayN_eq (s : ByteArray) : mayN s = if 64 < s.size then 3 else if !validB s then 2 else 0 := by
  unfold mayN S.may; rw [show s.data.toList.length = s.size from by simp]; rfl

def Holds (w : World) (e : Ending) (w' : World) : Prop := e = .returned (.bool true) ∧ Below w.heap.size w w'

theorem mayN_zero_size {s : ByteArray} (h : mayN s = 0) : s.size ≤ 64 := by
  rw [mayN_eq] at h
  by_cases h64 : 64 < s.size
  · rw [if_pos h64] at h; cases h
  · omega
end
end Go.Proofs.YtcbglcebdkpcfaaGreat

namespace Go.Proofs.YtcbglcebdkpcfaaGreat
section
open Go.RowKit
set_option maxRecDepth 100000

theorem run_append_rowl {P : Program} {t e size bytes : Nat} (E : ElemOk P t e size bytes) (w : World) (base : Nat) (ty : TypeId)
    (v : Value) (n : Nat) (xs : List Value) (hown : w.ownsRow base e size v n xs)
    (sv : Value) (m : Nat) (news : List Value) (hsrc : RowAt w size sv m news) (h1 : ∀ u ∈ news, u.oneCell' = true)
    (h63 : n + m ≤ maxLen) (hbytes : (n + m) * bytes ≤ 140737488355328) (hbase : base ≤ w.heap.size) :
    ∃ a' c' w', (Builtin.append_ #[t, t] ty #[v, sv]).run P w = .ok (.slice a' (n + m) c') w' ∧ w'.ownsRow base e size (.slice a' (n + m) c') (n + m) (xs ++ news) ∧ w.grownBy w' v.ownBlock ∧
      (∀ k, (Value.slice a' (n + m) c').ownBlock = some k → v.ownBlock = some k ∨ w.heap.size ≤ k) := by
  obtain ⟨i, z, hi, hz, hsize, hby, hzs⟩ := E.hi
  have ht := E.ht
  have hsz := E.hsz
  obtain ⟨hl, a, c, rfl, hc1, hc2, hc3, _, hcell⟩ := hsrc
  cases a with
  | some ad =>
    have hnews : ∀ j u, news[j]? = some u → w.cell? (ad.add j) = some u := fun j u hu => by
      obtain ⟨b, o, hb, hcc⟩ := hcell j u hu
      cases hb
      rw [add_plain']; exact hcc
    obtain ⟨v', w', hr, ho, hg, _, h5⟩ := run_append_own_at (P := P) w base t ty e i z size bytes ht hi hz hsize hby hzs hsz v n xs hown ad m c news hl hnews h1 h63 hbytes hbase
    obtain ⟨a', c', rfl⟩ := own_form ho
    refine ⟨a', c', w', hr, ho, hg, fun k hk => ?_⟩
    rcases h5 with h5 | h5
    · left; rw [h5] at hk; exact hk
    · right; rw [h5] at hk; cases hk; exact Nat.le_refl _
  | none =>
    have hc0 := hc3 rfl
    obtain rfl : c = 0 := hc0
    obtain rfl : m = 0 := by omega
    have : news = [] := List.eq_nil_of_length_eq_zero (by simpa using hl)
    subst this
    obtain ⟨a', c', rfl⟩ := own_form hown
    refine ⟨a', c', w, ?_, by simpa using hown, ⟨rfl, rfl, rfl, Nat.le_refl _, fun _ _ _ => rfl⟩, fun k hk => .inl hk⟩
    subst hsize
    rcases hown.2 with ⟨he, _⟩ | ⟨g, cap, cur, he, _, _, hnc, _⟩
    · cases he
      simp [Builtin.append_, run_underlying ht, sizeOf, typeInfo, hi, Builtin.lenOf, Builtin.firstCells]
    · cases he
      simp [Builtin.append_, run_underlying ht, sizeOf, typeInfo, hi, Builtin.lenOf, Builtin.firstCells, loadCells, storeCells, hnc]

theorem wpList_append_rowl {P : Program} {t e size bytes : Nat} (E : ElemOk P t e size bytes) {ops : Array Oper} {rest : List Oper} {o : Oper} {a : Act} {Q : Exit → Act → World → Prop} (w : World) (hgd : o.guard = none) (s x : Operand)
    (ho : o.op = .call { callee := .builtin .append, args := #[s, x], argTypes := #[t, t] })
    (base : Nat) (v : Value) (n : Nat) (xs : List Value) (hs : a.eval s = v) (hown : w.ownsRow base e size v n xs)
    (sv : Value) (m : Nat) (news : List Value) (hx : a.eval x = sv) (hsrc : RowAt w size sv m news) (h1 : ∀ u ∈ news, u.oneCell' = true)
    (h63 : n + m ≤ maxLen) (hbytes : (n + m) * bytes ≤ 140737488355328) (hbase : base ≤ w.heap.size)
    (h : ∀ a' c' w', w'.ownsRow base e size (.slice a' (n + m) c') (n + m) (xs ++ news) → w.grownBy w' v.ownBlock → (∀ k, (Value.slice a' (n + m) c').ownBlock = some k → v.ownBlock = some k ∨ w.heap.size ≤ k) → wpList P ops Q rest (a.put o.dst (.slice a' (n + m) c')) w') : wpList P ops Q (o :: rest) a w :=
  wpList_plain hgd fun K hK => by
    refine wp_append_run s x t ho hs hx (R := fun v' w' => ∃ a' c', v' = .slice a' (n + m) c' ∧ w'.ownsRow base e size (.slice a' (n + m) c') (n + m) (xs ++ news) ∧ w.grownBy w' v.ownBlock ∧ (∀ k, (Value.slice a' (n + m) c').ownBlock = some k → v.ownBlock = some k ∨ w.heap.size ≤ k)) ?_ ?_
    · obtain ⟨a', c', w', hr, h2, h3, h4⟩ := run_append_rowl E w base o.type v n xs hown sv m news hsrc h1 h63 hbytes hbase
      exact ⟨_, w', hr, a', c', rfl, h2, h3, h4⟩
    · rintro _ w' ⟨a', c', rfl, h2, h3, h4⟩
      exact hK _ _ (h a' c' w' h2 h3 h4)

def Foot (w : World) (b k : Nat) : Prop := k = b ∨ ∃ v, w.cell? ⟨b, 0, none⟩ = some v ∧ v.ownBlock = some k

def TwoAt (w : World) (b : Nat) : Prop := ∃ (cs : Array Value) (t : TypeId) (fr : Nat × Nat), w.heap[b]? = some (.cells cs t fr) ∧ cs.size = 2
structure OStep (b : Nat) (w w' : World) : Prop where
  below : Below b w w'
  block : ∀ k, k < w.heap.size → ¬ Foot w b k → w'.heap[k]? = w.heap[k]? ∧ ¬ Foot w' b k
  two : TwoAt w b → TwoAt w' b ∧ ∀ k, Foot w' b k → Foot w b k

theorem OStep.refl (b : Nat) (w : World) : OStep b w w := ⟨Below.refl _ _, fun _ _ h => ⟨rfl, h⟩, fun h => ⟨h, fun _ h => h⟩⟩
theorem OStep.trans {b : Nat} {w w1 w2 : World} (h : OStep b w w1) (k : OStep b w1 w2) : OStep b w w2 :=
  ⟨h.below.trans k.below, fun j hj hn => by
    obtain ⟨e1, n1⟩ := h.block j hj hn
    obtain ⟨e2, n2⟩ := k.block j (Nat.lt_of_lt_of_le hj h.below.size) n1
    exact ⟨e2.trans e1, n2⟩, fun ht => by
    obtain ⟨t1, f1⟩ := h.two ht
    obtain ⟨t2, f2⟩ := k.two t1
    exact ⟨t2, fun j hj => f1 j (f2 j hj)⟩⟩
theorem OStep.pure {b : Nat} {w w' : World} (hb : b < w.heap.size) (h : Below w.heap.size w w') : OStep b w w' :=
  have hf : ∀ k, Foot w' b k → Foot w b k := fun k hf => by
    rcases hf with hf | ⟨v, hv, hk⟩
    · exact .inl hf
    · exact .inr ⟨v, by rw [h.cell (p := ⟨b, 0, none⟩) hb] at hv; exact hv, hk⟩
  ⟨h.mono (Nat.le_of_lt hb), fun j hj hn => ⟨h.block j hj, fun h => hn (hf j h)⟩, fun ⟨cs, t, fr, hc, hs⟩ => ⟨⟨cs, t, fr, (h.block b hb).trans hc, hs⟩, hf⟩⟩

theorem OutIs.new {w : World} {b : Nat} {xs : List UInt8} (h : OutIs w b xs) (o : Obj) : ¬ Foot (w.alloc o) b w.heap.size := by
  obtain ⟨v, ot, h1, h2⟩ := h
  have hlt := lt_of_block h1
  rintro (he | ⟨u, hu, hk⟩)
  · omega
  · have h1' : (w.alloc o).heap[b]? = some (.cells #[v] ot (0, 0)) := (heap_alloc_old w o hlt).trans h1
    rw [cell_of_one h1'] at hu
    cases hu
    have := (h2.lt _ hk).2
    omega

theorem ostep_store {ot : TypeId} {b n : Nat} {w w' : World} {va v2 : Value} {W : World} (hb : w.heap[b]? = some (.cells #[va] ot (0, 0))) (hbw : Below w.heap.size w W) (hg : W.grownBy w' va.ownBlock)
    (hne : some b ≠ va.ownBlock) (hbo : ∀ k, va.ownBlock = some k → b ≤ k) (hlies : ∀ k, v2.ownBlock = some k → va.ownBlock = some k ∨ w.heap.size ≤ k) (_hn : n = 0) : OStep b w (w'.setCell ⟨b, 0, none⟩ v2) := by
  have hlt := lt_of_block hb
  have hb' : w'.heap[b]? = some (.cells #[va] ot (0, 0)) := (hg.block b (Nat.lt_of_lt_of_le hlt hbw.size) hne).trans ((hbw.block b hlt).trans hb)
  refine ⟨((hbw.mono (Nat.le_of_lt hlt)).grown hg (Nat.le_trans (Nat.le_of_lt hlt) hbw.size) hbo).setCell (Nat.le_refl _) _, fun k hk hn => ?_, fun ⟨cs, t, fr, hc, hs⟩ => by rw [hb] at hc; cases hc; simp at hs⟩
  have hkb : k ≠ b := fun e => hn (.inl e)
  have hko : some k ≠ va.ownBlock := fun e => hn (.inr ⟨va, cell_of_one hb, e.symm⟩)
  refine ⟨?_, ?_⟩
  · rw [block_set_other hkb]
    exact (hg.block k (Nat.lt_of_lt_of_le hk hbw.size) hko).trans (hbw.block k hk)
  · rintro (he | ⟨u, hu, hk2⟩)
    · exact hkb he
    · rw [cell_of_one (one_setCell hb')] at hu
      cases hu
      rcases hlies k hk2 with h | h
      · exact hko h.symm
      · omega

set_option maxHeartbeats 800000 in
theorem put_step (b : Nat) (xs : List UInt8) (n v : Nat) (w : World) (_hv : v < 18446744073709551616) (hn1 : 1 ≤ n) (hn : n ≤ 8) (hx : xs.length ≤ 1000000000) (ho : OutIs w b xs) :
    Calls Tryz.prog 72 #[.pointer (some ⟨b, 0, none⟩), .int .i64 (n : Int), .int .u64 (v : Int)] w fun e w' => e = .returned (.tuple #[]) ∧ OutIs w' b (xs ++ numBytes v n) ∧ OStep b w w' := by
  obtain ⟨va, ot, hb, hown⟩ := ho
  obtain ⟨i0, hi, hz0, hz1, hz2⟩ := info_parts infoU8
  go_enter Tryz.func72, Tryz.ntmps72
  go_wp2_with fail
  go_loopw [6, 14] (fun _ i wr => ∃ (k : Nat) (ys : List UInt8), k ≤ n ∧ i = .int .i64 (k : Int) ∧ OutIs wr b ys ∧ Hid (ys = xs ++ numBytes v k) ∧ OStep b w wr) (fun _ i _ => n - (intOf i).toNat)
  case atStart => exact ⟨0, xs, by omega, rfl, ⟨va, ot, hb, hown⟩, hid (by simp [numBytes]), OStep.refl _ _⟩
  case round =>
    obtain ⟨k, ys, hk, rfl, ⟨va, ot, hb, hown⟩, hys, hbl⟩ := hrel
    have hlen2 : ys.length ≤ 1000000008 := by rw [hys.out, List.length_append, numBytes_length]; omega
    by_cases hlt : k < n
    · have hc : wr.cell? ⟨b, 0, none⟩ = some va := cell_of_one hb
      have hf : wr.frozen? ⟨b, 0, none⟩ = false := free_of_one hb
      have hblt := lt_of_block hb
      have hb := hid hb
      go_wp2_with fail
      have hsh : ∀ W, (Op.shift BinOp.shr .u64 (v : Int) .i64 (IntKind.i64.wrap (8 * (k : Int)))).run Tryz.prog W = .ok (.int .u64 ((v / 2 ^ (8 * k) : Nat) : Int)) W := by
        intro W
        rw [IntWalk.i64_in _ (by omega), shift_shr .u64 .i64 _ _ (by omega) (by simp only [IntKind.bits]; omega), Sem.run_pure]
        rw [show ((8 * (k : Int)).toNat) = 8 * k from by omega]
        congr 2
      have e1 : ∀ o, (wr.drew.alloc o).heap[wr.heap.size]? = some o := fun o => heap_alloc_new _ _
      go_region_law (refine step_append_lies (P := Tryz.prog) _ rfl (.tmp 21) (.tmp 27) 29 rfl (b + 1) 5 i0 (.int .u8 0) 1 1 Tryz.underlying29 hi hz0 hz1 hz2 rfl (by decide) va ys.length (ys.map byteV) ?_ ?_ ⟨wr.heap.size, 0, none⟩ 1 1 [.int .u8 (IntKind.u8.wrap ((v : Int) / 2 ^ (8 * k)))] ?_ rfl ?_ (by intro u hu; rw [List.mem_singleton] at hu; subst hu; rfl) (by omega) (by unfold maxLen; omega) (by omega) ?_ (wr.heap.size + 1) ?_ (fun g cap w' h2 h3 h4 h5 => ?_); rfl; exact hown.drew.alloc _; rfl; exact World.news_of_block (e1 _); (simp; omega); simp; (have hb' := kept_da hb.out h3 (own_ne hown); have hc' := cell_of_one hb'; have hf' := free_of_one hb'; replace hb' := hid hb'))
      all_goals
        have hst := out_store hb'.out h2 (xs := ys ++ [numAt v k]) (by simp [byteV_numAt])
        have hbs := ostep_store (v2 := .slice (some ⟨g, 0, none⟩) (ys.length + 1) cap) hb.out (W := wr.drew.alloc _) ((Below.refl wr.heap.size wr).drew.alloc (Nat.le_refl _) _) h3 (own_ne hown) (fun j hj => by have := (hown.lt j hj).1; omega) (fun j hj => by
          cases hj
          rcases h4 with h4 | h4
          · exact .inl h4
          · right; show wr.heap.size ≤ g; omega) rfl
        clear h2 h3 h4 h5 hc' hf' hb'
        go_wp2
        go_roundw
        case rel => exact ⟨k + 1, _, by omega, by go_num, hst, hid (by rw [hys.out]; simp [numBytes]), hbl.trans hbs⟩
        case measure => simp [intOf]; omega
    · obtain rfl : k = n := by omega
      go_wp2_with fail
      go_end0
      exact ⟨rfl, by rw [← hys.out]; exact ⟨va, ot, hb, hown⟩, hbl⟩

set_option maxHeartbeats 800000 in
theorem raw_step (b : Nat) (xs l : List UInt8) (v : Value) (w : World) (hl : BytesAt w v l) (hx : xs.length + l.length ≤ 1000000000) (ho : OutIs w b xs) :
    Calls Tryz.prog 73 #[.pointer (some ⟨b, 0, none⟩), v] w fun e w' => e = .returned (.tuple #[]) ∧ OutIs w' b (xs ++ l) ∧ OStep b w w' := by
  obtain ⟨va, ot, hb, hown⟩ := ho
  have hc := cell_of_one hb
  have hf := free_of_one hb
  have hblt := lt_of_block hb
  replace hb := hid hb
  go_enter Tryz.func73, Tryz.ntmps73
  go_wp2_with (at_builtin; refine wpList_append_rowl elemU8 _ rfl (.tmp 8) (.tmp 9) rfl (b + 1) va xs.length (xs.map byteV) rfl hown v l.length (l.map byteV) rfl hl (bytes_oneCell l) (by unfold maxLen; omega) (by omega) (by omega) ?_)
  intro a' c' w' h2 h3 h4
  have hb' : w'.heap[b]? = some (.cells #[va] ot (0, 0)) := (h3.block b hblt (own_ne hown)).trans hb.out
  have hc' := cell_of_one hb'
  have hf' := free_of_one hb'
  have hst := out_store hb' h2 (xs := xs ++ l) (by simp)
  have hbs := ostep_store (v2 := .slice a' (xs.length + l.length) c') hb.out (Below.refl _ _) h3 (own_ne hown) (fun j hj => by have := (hown.lt j hj).1; omega) h4 rfl
  clear h2 h3 hb' h4
  go_wp2
  go_end0
  exact ⟨rfl, hst, hbs⟩

set_option maxHeartbeats 800000 in
theorem text_put_step (b : Nat) (xs : List UInt8) (s : ByteArray) (w : World) (hs : s.size ≤ 1000000) (hx : xs.length ≤ 1000000) (ho : OutIs w b xs) :
    Calls Tryz.prog 131 #[.pointer (some ⟨b, 0, none⟩), .string s] w fun e w' => e = .returned (.int .i64 (mayN s : Int)) ∧ OutIs w' b (xs ++ putTextR s) ∧ OStep b w w' := by
  have hml : s.size ≤ maxLen := by unfold maxLen; omega
  by_cases hm : mayN s = 0
  · have hp := hid (putTextR_ok hm)
    have hm' := hid hm
    clear hm
    go_enter Tryz.func131, Tryz.ntmps131
    go_wp2_with fail
    refine (may_any s w hml).mono ?_
    rw [hm'.out]
    rintro e w1 ⟨rfl, hb1⟩
    have ho1 := ho.below hb1
    go_wp2_with fail
    refine (put_step b xs 2 s.size w1 (by omega) (by omega) (by omega) (by omega) ho1).mono ?_
    rintro e w2 ⟨rfl, ho2, hb2⟩
    have hcv := fun W => Lib.run_convert_string_bytes (P := Tryz.prog) W 9 29 5 s Tryz.underlying9 Tryz.underlying29 Tryz.underlying5
    have ho3 := ho2.below (below_bytesWorld w2 5 s)
    have hnl : (xs ++ numBytes s.size 2).length = xs.length + 2 := by rw [List.length_append, numBytes_length]
    replace hnl := hid hnl
    go_wp2_with fail
    refine (raw_step b (xs ++ numBytes s.size 2) s.data.toList _ _ (bytesWorld_bytes w2 s (by omega)) (by rw [hnl.out]; simp; omega) ho3).mono ?_
    rintro e w3 ⟨rfl, ho4, hb4⟩
    go_wp2_with fail
    go_ret
    refine ⟨by rw [hm'.out]; rfl, by rw [hp.out]; unfold putText; rw [← List.append_assoc]; exact ho4, ?_⟩
    exact (((OStep.pure ho.lt hb1).trans hb2).trans (OStep.pure ho2.lt (below_bytesWorld w2 _ s))).trans hb4
  · have E := hid (show xs ++ putTextR s = xs by rw [putTextR_no hm, List.append_nil])
    have k0 : ((mayN s : Int) != 0) = true := by simpa using hm
    clear hm
    go_enter Tryz.func131, Tryz.ntmps131
    go_wp2_with fail
    refine (may_any s w hml).mono ?_
    rintro e w1 ⟨rfl, hb1⟩
    go_wp2_with fail
    go_ret
    exact ⟨rfl, by rw [E.out]; exact ho.below hb1, OStep.pure ho.lt hb1⟩
end
end Go.Proofs.YtcbglcebdkpcfaaGreat

namespace Go.Proofs.YtcbglcebdkpcfaaGreat
section
open Go.RowKit
set_option maxRecDepth 100000
set_option linter.unusedVariables false

theorem own_keep {w w' : World} {base e k n : Nat} {v : Value} {xs : List Value} (h2 : w.ownsRow base e k v n xs) (hb : ∀ j, v.ownBlock = some j → w'.heap[j]? = w.heap[j]?) : w'.ownsRow base e k v n xs := by
  refine ⟨h2.1, ?_⟩
  rcases h2.2 with h3 | ⟨g, cap, cur, hv, hg, hh, r⟩
  · exact .inl h3
  · exact .inr ⟨g, cap, cur, hv, hg, (hb g (by rw [hv]; rfl)).trans hh, r⟩
def put (w : World) (q : Nat) : Nat → List Value → World
  | _, [] => w
  | i, u :: us => put (w.setCell ⟨q, i, none⟩ u) q (i + 1) us

theorem set_split (cs : Array Value) (i : Nat) (u : Value) (hi : i < cs.size) : (cs.setIfInBounds i u).toList.take (i + 1) = cs.toList.take i ++ [u] := by
  rw [Array.toList_setIfInBounds, List.take_succ_eq_append_getElem (by simpa using hi)]
  simp [List.take_set_of_le]
theorem put_block {q : Nat} {t : TypeId} {fr : Nat × Nat} : ∀ (us : List Value) (i : Nat) (w : World) (cs : Array Value), w.heap[q]? = some (.cells cs t fr) → cs.size = i + us.length → (put w q i us).heap[q]? = some (.cells ⟨cs.toList.take i ++ us⟩ t fr)
  | [], i, w, cs, h, hs => by
    have e : cs.toList.take i = cs.toList := List.take_of_length_le (by simp at hs ⊢; omega)
    simp only [put]
    rw [e, List.append_nil]
    exact h
  | u :: us, i, w, cs, h, hs => by
    simp only [List.length_cons] at hs
    have ih := put_block us (i + 1) _ _ (block_set h i u) (by simp; omega)
    simp only [put]
    rw [ih, set_split cs i u (by omega)]
    simp
theorem put_other {q b : Nat} (hb : b ≠ q) : ∀ (us : List Value) (i : Nat) (w : World), (put w q i us).heap[b]? = w.heap[b]?
  | [], _, _ => rfl
  | u :: us, i, w => by simp only [put]; rw [put_other hb us]; exact block_set_other hb
theorem put_below {B q : Nat} (hB : B ≤ q) : ∀ (us : List Value) (i : Nat) (w0 w : World), Below B w0 w → Below B w0 (put w q i us)
  | [], _, _, _, h => h
  | u :: us, i, w0, w, h => by simp only [put]; exact put_below hB us _ _ _ (h.setCell (p := ⟨q, i, none⟩) hB u)
theorem put_all {q : Nat} {t : TypeId} {fr : Nat × Nat} {w : World} {cs : Array Value} (us : List Value) (h : w.heap[q]? = some (.cells cs t fr)) (hs : cs.size = us.length) : (put w q 0 us).heap[q]? = some (.cells ⟨us⟩ t fr) := by
  rw [put_block us 0 w cs h (by omega)]; simp
theorem set3 {q : Nat} {t : TypeId} {fr : Nat × Nat} {w : World} {cs : Array Value} (h : w.heap[q]? = some (.cells cs t fr)) (hs : cs.size = 3) {u0 u1 u2 : Value} :
    (((w.setCell ⟨q, 0, none⟩ u0).setCell ⟨q, 1, none⟩ u1).setCell ⟨q, 2, none⟩ u2).heap[q]? = some (.cells #[u0, u1, u2] t fr) := put_all [u0, u1, u2] h hs
theorem set13 {q : Nat} {t : TypeId} {fr : Nat × Nat} {w : World} {cs : Array Value} (h : w.heap[q]? = some (.cells cs t fr)) (hs : cs.size = 13) {u0 u1 u2 u3 u4 u5 u6 u7 u8 u9 u10 u11 u12 : Value} :
    (((((((((((((w.setCell ⟨q, 0, none⟩ u0).setCell ⟨q, 1, none⟩ u1).setCell ⟨q, 2, none⟩ u2).setCell ⟨q, 3, none⟩ u3).setCell ⟨q, 4, none⟩ u4).setCell ⟨q, 5, none⟩ u5).setCell ⟨q, 6, none⟩ u6).setCell ⟨q, 7, none⟩ u7).setCell ⟨q, 8, none⟩ u8).setCell ⟨q, 9, none⟩ u9).setCell ⟨q, 10, none⟩ u10).setCell ⟨q, 11, none⟩ u11).setCell ⟨q, 12, none⟩ u12).heap[q]? = some (.cells #[u0, u1, u2, u3, u4, u5, u6, u7, u8, u9, u10, u11, u12] t fr) := put_all [u0, u1, u2, u3, u4, u5, u6, u7, u8, u9, u10, u11, u12] h hs
theorem below13 {B q : Nat} {w0 w : World} (hB : B ≤ q) (h : Below B w0 w) {u0 u1 u2 u3 u4 u5 u6 u7 u8 u9 u10 u11 u12 : Value} :
    Below B w0 (((((((((((((w.setCell ⟨q, 0, none⟩ u0).setCell ⟨q, 1, none⟩ u1).setCell ⟨q, 2, none⟩ u2).setCell ⟨q, 3, none⟩ u3).setCell ⟨q, 4, none⟩ u4).setCell ⟨q, 5, none⟩ u5).setCell ⟨q, 6, none⟩ u6).setCell ⟨q, 7, none⟩ u7).setCell ⟨q, 8, none⟩ u8).setCell ⟨q, 9, none⟩ u9).setCell ⟨q, 10, none⟩ u10).setCell ⟨q, 11, none⟩ u11).setCell ⟨q, 12, none⟩ u12) := put_below hB [u0, u1, u2, u3, u4, u5, u6, u7, u8, u9, u10, u11, u12] 0 w0 w h
theorem other13 {b q : Nat} {w : World} (hb : b ≠ q) {u0 u1 u2 u3 u4 u5 u6 u7 u8 u9 u10 u11 u12 : Value} :
    (((((((((((((w.setCell ⟨q, 0, none⟩ u0).setCell ⟨q, 1, none⟩ u1).setCell ⟨q, 2, none⟩ u2).setCell ⟨q, 3, none⟩ u3).setCell ⟨q, 4, none⟩ u4).setCell ⟨q, 5, none⟩ u5).setCell ⟨q, 6, none⟩ u6).setCell ⟨q, 7, none⟩ u7).setCell ⟨q, 8, none⟩ u8).setCell ⟨q, 9, none⟩ u9).setCell ⟨q, 10, none⟩ u10).setCell ⟨q, 11, none⟩ u11).setCell ⟨q, 12, none⟩ u12).heap[b]? = w.heap[b]? := put_other hb [u0, u1, u2, u3, u4, u5, u6, u7, u8, u9, u10, u11, u12] 0 w
theorem heap2 (w : World) (o1 o2 : Obj) : ((w.alloc o1).alloc o2).heap[w.heap.size + 1]? = some o2 := by
  have h := heap_alloc_new (w.alloc o1) o2
  have e : (w.alloc o1).heap.size = w.heap.size + 1 := by simp
  rw [e] at h; exact h
theorem heap3 (w : World) (o1 o2 o3 : Obj) : (((w.alloc o1).alloc o2).alloc o3).heap[w.heap.size + 2]? = some o3 := by
  have h := heap_alloc_new ((w.alloc o1).alloc o2) o3
  have e : ((w.alloc o1).alloc o2).heap.size = w.heap.size + 2 := by simp
  rw [e] at h; exact h
end
end Go.Proofs.YtcbglcebdkpcfaaGreat
