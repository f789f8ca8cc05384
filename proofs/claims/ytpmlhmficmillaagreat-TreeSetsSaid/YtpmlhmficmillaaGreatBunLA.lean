/- Laws 14 and 17: valid, Few of a tree. Conditions: lengths of strings and slices.
Law 17: an act; Few of acts. Conditions: the acts read as a list.
An act of a play on a tree: what it makes, that a valid tree stays valid, that other nodes stay. Plain; conditions in the statements. -/
import Derived.Test.YtpmlhmficmillaaGreatBunRN5
import Derived.Test.YtpmlhmficmillaaGreatBunRT
import Derived.Test.YtpmlhmficmillaaGreatBunTG
namespace Go.Proofs.YtpmlhmficmillaaGreat
section
open Go.RowKit
set_option maxRecDepth 100000
set_option linter.unusedVariables false
def fewN (n : Nod) : Bool := decide (n.name.size ≤ 100) && decide (n.uid.size ≤ 100) && decide (n.gid.size ≤ 100) && decide (n.muid.size ≤ 100) && decide (n.data.size ≤ 5000)
def fewL (l : List Nod) : Bool := decide (l.length ≤ 70) && l.all fewN
set_option maxHeartbeats 6400000 in
theorem few14t_any (v : Value) (x : Nat) (l : List Nod) (w : World) (hv : NodsAt w v l) :
    Calls Tryz.prog 30 #[.agg #[.int .u64 (x : Int), v]] w fun e w' => e = .returned (.bool (fewL l)) ∧ Below w.heap.size w w' := by
  obtain ⟨a, c, rfl, g1, g2⟩ := hv.form
  unfold maxLen at g2
  obtain ⟨W, hW⟩ : ∃ W, W = w.alloc (.cells #[.int .u64 (x : Int), .slice a l.length c] 25) := ⟨_, rfl⟩
  have hb0 : Below w.heap.size w W := by rw [hW]; exact (Below.refl w.heap.size w).alloc (Nat.le_refl _) _
  have hX0 := hid (show W.heap[w.heap.size]? = some (.cells #[.int .u64 (x : Int), .slice a l.length c] 25 (0, 0)) by rw [hW, heap_alloc_new])
  obtain ⟨r, hr⟩ : ∃ r, r = fewL l := ⟨_, rfl⟩
  rw [← hr]
  replace hv := hid hv
  have e1 := block_cell hX0.out 1
  go_enter Tryz.func30, Tryz.ntmps30
  by_cases hlen : l.length ≤ 70
  case neg =>
    have hR2 := hid (show r = false by rw [hr]; unfold fewL; rw [decide_eq_false hlen]; rfl)
    have hz : (70 : Int) < (l.length : Int) := by omega
    replace hb0 := hid hb0
    replace hr := hid hr
    go_wp2_with (rw [← hW]; replace hW := hid hW)
    go_ret
    exact ⟨by rw [hR2.out]; rfl, hb0.out⟩
  have hz : ¬ (70 : Int) < (l.length : Int) := by omega
  have hR0 := hid (show r = (l.drop 0).all fewN by rw [hr]; unfold fewL; rw [decide_eq_true hlen]; rfl)
  replace hb0 := hid hb0
  replace hr := hid hr
  go_wp2_with (rw [← hW]; replace hW := hid hW)
  clear e1
  go_loopg [3] l.length (fun g1 kv wr => ∃ k : Nat, kv = .int .i64 (k : Int) ∧ k ≤ l.length ∧ l.length - k ≤ g1 ∧ Hid (Below w.heap.size w wr) ∧ Hid (wr.heap[w.heap.size]? = some (.cells #[.int .u64 (x : Int), .slice a l.length c] 25 (0, 0))) ∧ Hid (r = (l.drop k).all fewN))
  case atStart => exact ⟨0, by first | rfl | go_num, by omega, by omega, hb0, hX0, hR0⟩
  case round =>
    clear hb0 hX0 hR0
    obtain ⟨k, rfl, hk, hg, hB, hX, hR⟩ := hrel
    have e1 := block_cell hX.out 1
    by_cases hkl : k < l.length
    · have hkz : (k : Int) < (l.length : Int) := by omega
      obtain ⟨b, o, ha, hrg⟩ := (hv.out.below hB.out).range k hkl
      subst ha
      have hR1 := hR.out
      rw [List.drop_eq_getElem_cons hkl, List.all_cons] at hR1
      generalize l[k] = n at *
      have hnew := hid (heap_alloc_new wr (.cells zeroNod.cells 28))
      obtain ⟨W3, hW3⟩ : ∃ W, W = boxN wr n := ⟨_, rfl⟩
      have hb3 : Below wr.heap.size wr W3 := by rw [hW3]; exact boxN_below _ _
      have hn3 : W3.heap[wr.heap.size]? = some (.cells n.cells 28 (0, 0)) := by rw [hW3]; exact boxN_heap _ _
      have hB3 := hid (sn hB.out hb3)
      have hX3 := hid ((hb3.block _ (lt_of_block hX.out)).trans hX.out)
      have q5 : W3.cell? ⟨wr.heap.size, 5, none⟩ = some (.string n.name) := block_cell hn3 5
      have q6 : W3.cell? ⟨wr.heap.size, 6, none⟩ = some (.string n.uid) := block_cell hn3 6
      have q7 : W3.cell? ⟨wr.heap.size, 7, none⟩ = some (.string n.gid) := block_cell hn3 7
      have q8 : W3.cell? ⟨wr.heap.size, 8, none⟩ = some (.string n.muid) := block_cell hn3 8
      have q11 : W3.cell? ⟨wr.heap.size, 11, none⟩ = some (.string n.data) := block_cell hn3 11
      unfold boxN at hW3
      rw [zeroNod_cells] at hW3 hnew
      replace hrg := hid hrg
      clear hb3 hn3 hB hX hR
      go_upto_region 7 with (first
        | (refine wpList_load_cells (by rfl) 28 (.tmp 19) (by rfl) b (o + k * 12) (by rfl) n.cells _ hrg.out Tryz.underlying28 (by rfl) (by kernel_rfl) ?_)
        | (refine wpList_store_row (by rfl) 28 (.tmp 4) (.tmp 20) (by rfl) wr.heap.size n.cells (by rfl) (by rfl) 28 _ hnew.out (by kernel_rfl) (by kernel_rfl) (nod_one n) ?_)
        | (rw [← hW3]; replace hW3 := hid hW3))
      try (rw [← hW3]; replace hW3 := hid hW3)
      clear hnew e1
      generalize wr.heap.size = z at *
      have hfn : fewN n = (decide (n.name.size ≤ 100) && decide (n.uid.size ≤ 100) && decide (n.gid.size ≤ 100) && decide (n.muid.size ≤ 100) && decide (n.data.size ≤ 5000)) := rfl
      by_cases h1 : n.name.size ≤ 100
      case neg =>
        have hR2 := hid (show r = false by rw [hR1, hfn, decide_eq_false h1]; rfl)
        have z1 : (100 : Int) < (n.name.size : Int) := by omega
        clear hR1 hfn h1
        go_wp2_with fail
        go_ret
        exact ⟨by rw [hR2.out]; rfl, hB3.out⟩
      have z1 : ¬ (100 : Int) < (n.name.size : Int) := by omega
      by_cases h2 : n.uid.size ≤ 100
      case neg =>
        have hR2 := hid (show r = false by rw [hR1, hfn, decide_eq_false h2]; simp)
        have z2 : (100 : Int) < (n.uid.size : Int) := by omega
        clear hR1 hfn h1 h2
        go_wp2_with fail
        go_ret
        exact ⟨by rw [hR2.out]; rfl, hB3.out⟩
      have z2 : ¬ (100 : Int) < (n.uid.size : Int) := by omega
      by_cases h3 : n.gid.size ≤ 100
      case neg =>
        have hR2 := hid (show r = false by rw [hR1, hfn, decide_eq_false h3]; simp)
        have z3 : (100 : Int) < (n.gid.size : Int) := by omega
        clear hR1 hfn h1 h2 h3
        go_wp2_with fail
        go_ret
        exact ⟨by rw [hR2.out]; rfl, hB3.out⟩
      have z3 : ¬ (100 : Int) < (n.gid.size : Int) := by omega
      by_cases h4 : n.muid.size ≤ 100
      case neg =>
        have hR2 := hid (show r = false by rw [hR1, hfn, decide_eq_false h4]; simp)
        have z4 : (100 : Int) < (n.muid.size : Int) := by omega
        clear hR1 hfn h1 h2 h3 h4
        go_wp2_with fail
        go_ret
        exact ⟨by rw [hR2.out]; rfl, hB3.out⟩
      have z4 : ¬ (100 : Int) < (n.muid.size : Int) := by omega
      by_cases h5 : n.data.size ≤ 5000
      case neg =>
        have hR2 := hid (show r = false by rw [hR1, hfn, decide_eq_false h5]; simp)
        have z5 : (5000 : Int) < (n.data.size : Int) := by omega
        clear hR1 hfn h1 h2 h3 h4 h5
        go_wp2_with fail
        go_ret
        exact ⟨by rw [hR2.out]; rfl, hB3.out⟩
      have z5 : ¬ (5000 : Int) < (n.data.size : Int) := by omega
      have hR2 := hid (show r = (l.drop (k + 1)).all fewN by rw [hR1, hfn, decide_eq_true h1, decide_eq_true h2, decide_eq_true h3, decide_eq_true h4, decide_eq_true h5]; rfl)
      clear hR1 hfn h1 h2 h3 h4 h5
      go_wp2_with fail
      go_roundg (l.length - (k + 1))
      case measure => omega
      case rel => exact ⟨k + 1, by first | rfl | go_num, by omega, by omega, hB3, hX3, hR2⟩
    · have hkz : ¬ (k : Int) < (l.length : Int) := by omega
      have hR2 := hid (show r = true by rw [hR.out, List.drop_of_length_le (by omega)]; rfl)
      go_wp2_with fail
      go_ret
      exact ⟨by rw [hR2.out]; rfl, hB.out⟩
end
end Go.Proofs.YtpmlhmficmillaaGreat

namespace Go.Proofs.YtpmlhmficmillaaGreat
section
open Go.RowKit
set_option maxRecDepth 100000
set_option linter.unusedVariables false

structure ActV where
  op : Int
  dir : Nat
  path : Nat
  off : Nat
  n : Nat
  mode : Nat
  name : ByteArray
  who : ByteArray
  gid : ByteArray
  data : ByteArray
  now : Nat
def ActV.cells (a : ActV) : Array Value := #[.int .i64 a.op, .int .u64 (a.dir : Int), .int .u64 (a.path : Int), .int .u64 (a.off : Int), .int .u32 (a.n : Int), .int .u32 (a.mode : Int), .string a.name, .string a.who, .string a.gid, .string a.data, .int .u32 (a.now : Int)]
structure ActOk (a : ActV) : Prop where
  dir : a.dir < 18446744073709551616
  path : a.path < 18446744073709551616
  off : a.off < 18446744073709551616
  n : a.n < 4294967296
  mode : a.mode < 4294967296
  name : a.name.size ≤ maxLen
  who : a.who.size ≤ maxLen
  gid : a.gid.size ≤ maxLen
  data : a.data.size ≤ maxLen
  now : a.now < 4294967296
theorem act_cells (a : ActV) : a.cells = #[.int .i64 a.op, .int .u64 (a.dir : Int), .int .u64 (a.path : Int), .int .u64 (a.off : Int), .int .u32 (a.n : Int), .int .u32 (a.mode : Int), .string a.name, .string a.who, .string a.gid, .string a.data, .int .u32 (a.now : Int)] := rfl
def actsL (l : List ActV) : List Value := l.flatMap fun a => a.cells.toList
theorem actsL_get (l : List ActV) (i j : Nat) (hi : i < l.length) (hj : j < 11) : (actsL l)[i * 11 + j]? = l[i].cells.toList[j]? := by
  induction l generalizing i with
  | nil => simp at hi
  | cons n l ih =>
    show (n.cells.toList ++ actsL l)[i * 11 + j]? = _
    have h12 : n.cells.toList.length = 11 := by rw [act_cells]; rfl
    cases i with
    | zero => rw [Nat.zero_mul, Nat.zero_add, List.getElem?_append_left (by omega)]; rfl
    | succ k =>
      rw [List.getElem?_append_right (by omega), h12, show (k + 1) * 11 + j - 11 = k * 11 + j by omega]
      exact ih k (by simpa using hi)
def ActsAt (w : World) (v : Value) (l : List ActV) : Prop := RowW w 11 v l.length (actsL l)
theorem ActsAt.form {w : World} {v : Value} {l : List ActV} (h : ActsAt w v l) : ∃ a c, v = .slice a l.length c ∧ l.length ≤ c ∧ c ≤ maxLen := by
  obtain ⟨_, a, c, hv, h1, h2, _⟩ := h
  exact ⟨a, c, hv, h1, h2⟩
theorem ActsAt.below {w w' : World} {v : Value} {l : List ActV} (h : ActsAt w v l) (hb : Below w.heap.size w w') : ActsAt w' v l := RowW.below h hb
theorem ActsAt.range {w : World} {a : Option Addr} {n c : Nat} {l : List ActV} (h : ActsAt w (.slice a n c) l) (i : Nat) (hi : i < l.length) : ∃ b o, a = some ⟨b, o, none⟩ ∧ w.rangeAt b (o + i * 11) l[i].cells.toList := by
  obtain ⟨_, a', c', hv, h1, h2, h3, h4⟩ := h
  cases hv
  obtain ⟨b, o, ha, _⟩ := h4 (i * 11) _ (by rw [show i * 11 = i * 11 + 0 from rfl, actsL_get l i 0 hi (by omega), act_cells]; rfl)
  refine ⟨b, o, ha, fun j u hu => ?_⟩
  have hj : j < 11 := by have := (List.getElem?_eq_some_iff.1 hu).1; rw [act_cells] at this; simpa using this
  obtain ⟨b', o', ha', hc⟩ := h4 (i * 11 + j) u (by rw [actsL_get l i j hi hj]; exact hu)
  rw [ha] at ha'; cases ha'
  rw [Nat.add_assoc]; exact hc
end
end Go.Proofs.YtpmlhmficmillaaGreat

namespace Go.Proofs.YtpmlhmficmillaaGreat
section
open Go.RowKit
set_option maxRecDepth 100000
set_option linter.unusedVariables false
structure Left (t T : Tr) (a : ActV) : Prop where
  sort : SortL T.n
  get : ∀ p n, getL t.n p = some n → (a.op = 1 ∨ p ≠ a.path) → ∃ m, getL T.n p = some m ∧ (m = n ∨ ∃ v c u, m = { n with vers := v, mtm := c, muid := u }) ∧ ((a.op = 1 → p ≠ a.dir) → (a.op ≠ 1 → ∀ y, getL t.n a.path = some y → p ≠ y.up) → m = n)
  root : (∃ n, getL t.n 1 = some n ∧ n.gone = false) → ∃ n, getL T.n 1 = some n
  len : T.n.length ≤ t.n.length + 1
theorem Left.same {t : Tr} (h : SortL t.n) (a : ActV) : Left t t a := ⟨h, fun p n hn _ => ⟨n, hn, .inl rfl, fun _ _ => rfl⟩, fun ⟨n, h, _⟩ => ⟨n, h⟩, by omega⟩
theorem setL_len {l : List Nod} (h : SortL l) (x : Nod) : (setL l x).length ≤ l.length + 1 := by
  have := (set_perm h x).length_eq
  have := drop_len l x.path
  simp at *; omega
theorem Left.put {t : Tr} (h : SortL t.n) {a : ActV} (ha : a.op ≠ 1) {x y : Nod} (hx : getL t.n a.path = some y) (hp : x.path = a.path) : Left t ⟨t.next, setL t.n x⟩ a := by
  refine ⟨h.set x, fun p n hn hne => ⟨n, ?_, .inl rfl, fun _ _ => rfl⟩, fun ⟨n, hn, _⟩ => ?_, ?_⟩
  · show getL (setL t.n x) p = some n
    rw [getL_set h, hp, if_neg (by rcases hne with h1 | h1 <;> simp_all)]
    exact hn
  · show ∃ n, getL (setL t.n x) 1 = some n
    rw [getL_set h]
    split
    · exact ⟨_, rfl⟩
    · exact ⟨n, hn⟩
  · exact setL_len h x
end
end Go.Proofs.YtpmlhmficmillaaGreat
