/- Laws 14 and 17: valid, Few of a tree. Conditions: lengths of strings and slices.
Law 17: an act; Few of acts. Conditions: the acts read as a list.
An act of a play on a tree: what it makes, that a valid tree stays valid, that other nodes stay. Plain; conditions in the statements. -/
import Derived.Test.YtpmlhmficmillaaRNd4Z
import Derived.Test.YtpmlhmficmillaaBunRT
import Derived.Test.YtpmlhmficmillaaBunTG
namespace Go.Proofs.Ytpmlhmficmillaa
section
open Go.RowKit
set_option maxRecDepth 100000
set_option linter.unusedVariables false

def asciiB (s : ByteArray) : Bool := s.data.toList.all fun b => decide (32 < b.toNat) && decide (b.toNat ≤ 126)
set_option maxHeartbeats 1600000 in
theorem valid17_any (s : ByteArray) (w : World) (hs : s.size ≤ maxLen) :
    Calls Try.prog 13 #[.string s] w fun e w' => e = .returned (.bool (asciiB s)) ∧ w' = w := by
  unfold maxLen at hs
  obtain ⟨r, hr⟩ : ∃ r, r = asciiB s := ⟨_, rfl⟩
  rw [← hr]
  have hR0 := hid (show r = (s.data.toList.drop 0).all fun b => decide (32 < b.toNat) && decide (b.toNat ≤ 126) from hr)
  replace hr := hid hr
  go_enter Try.func13, Try.ntmps13
  go_wp2_with fail
  go_loopg [3] s.size (fun g1 kv wr => wr = w ∧ ∃ k : Nat, kv = .int .i64 (k : Int) ∧ k ≤ s.size ∧ s.size - k ≤ g1 ∧ Hid (r = (s.data.toList.drop k).all fun b => decide (32 < b.toNat) && decide (b.toNat ≤ 126)))
  case atStart => exact ⟨rfl, 0, by first | rfl | go_num, by omega, by omega, hR0⟩
  case round =>
    obtain ⟨hw, k, rfl, hk, hg, hR⟩ := hrel
    subst hw
    by_cases hkl : k < s.size
    · have hkz : (k : Int) < (s.size : Int) := by omega
      have hdl : k < s.data.toList.length := by simpa using hkl
      have hR1 := hR.out
      rw [List.drop_eq_getElem_cons hdl, List.all_cons] at hR1
      obtain ⟨b, hb⟩ : ∃ b : Nat, b = s[k].toNat := ⟨_, rfl⟩
      have hb2 : s.data.toList[k].toNat = b := by rw [hb]; rfl
      rw [hb2] at hR1
      have kb : ((s[k].toNat : Nat) : Int) = (b : Int) := by rw [hb]
      clear hR
      by_cases h1 : 32 < b
      · by_cases h2 : b ≤ 126
        · have hR2 := hid (show r = (s.data.toList.drop (k + 1)).all fun b => decide (32 < b.toNat) && decide (b.toNat ≤ 126) by rw [hR1, decide_eq_true h1, decide_eq_true h2]; rfl)
          have z1 : ¬ (b : Int) ≤ 32 := by omega
          have z2 : ¬ (126 : Int) < (b : Int) := by omega
          replace hb := hid hb
          replace hb2 := hid hb2
          replace hR1 := hid hR1
          clear h1 h2
          go_wp2_with fail
          go_roundg (s.size - (k + 1))
          case measure => omega
          case rel => exact ⟨by first | rfl | trivial, k + 1, by first | rfl | go_num, by omega, by omega, hR2⟩
        · have hR2 := hid (show r = false by rw [hR1, decide_eq_true h1, decide_eq_false h2]; rfl)
          have z1 : ¬ (b : Int) ≤ 32 := by omega
          have z2 : (126 : Int) < (b : Int) := by omega
          replace hb := hid hb
          replace hb2 := hid hb2
          replace hR1 := hid hR1
          clear h1 h2
          go_wp2_with fail
          go_ret
          exact ⟨by rw [hR2.out]; rfl, by first | rfl | trivial⟩
      · have hR2 := hid (show r = false by rw [hR1, decide_eq_false h1]; rfl)
        have z1 : (b : Int) ≤ 32 := by omega
        replace hb := hid hb
        replace hb2 := hid hb2
        replace hR1 := hid hR1
        clear h1
        go_wp2_with fail
        go_ret
        exact ⟨by rw [hR2.out]; rfl, by first | rfl | trivial⟩
    · have hkz : ¬ (k : Int) < (s.size : Int) := by omega
      have hR2 := hid (show r = true by rw [hR.out, List.drop_of_length_le (by have : s.data.toList.length = s.size := by simp
                                                                               omega)]; rfl)
      go_wp2_with fail
      go_ret
      exact ⟨by rw [hR2.out]; rfl, by first | rfl | trivial⟩
def fewN (n : Nod) : Bool := decide (n.name.size ≤ 100) && decide (n.uid.size ≤ 100) && decide (n.gid.size ≤ 100) && decide (n.muid.size ≤ 100) && decide (n.data.size ≤ 5000)
def fewL (l : List Nod) : Bool := decide (l.length ≤ 70) && l.all fewN
set_option maxHeartbeats 6400000 in
theorem few14t_any (v : Value) (x : Nat) (l : List Nod) (w : World) (hv : NodsAt w v l) :
    Calls Try.prog 34 #[.agg #[.int .u64 (x : Int), v]] w fun e w' => e = .returned (.bool (fewL l)) ∧ Below w.heap.size w w' := by
  obtain ⟨a, c, rfl, g1, g2⟩ := hv.form
  unfold maxLen at g2
  obtain ⟨W, hW⟩ : ∃ W, W = w.alloc (.cells #[.int .u64 (x : Int), .slice a l.length c] 25) := ⟨_, rfl⟩
  have hb0 : Below w.heap.size w W := by rw [hW]; exact (Below.refl w.heap.size w).alloc (Nat.le_refl _) _
  have hX0 := hid (show W.heap[w.heap.size]? = some (.cells #[.int .u64 (x : Int), .slice a l.length c] 25 (0, 0)) by rw [hW, heap_alloc_new])
  obtain ⟨r, hr⟩ : ∃ r, r = fewL l := ⟨_, rfl⟩
  rw [← hr]
  replace hv := hid hv
  have e1 := block_cell hX0.out 1
  go_enter Try.func34, Try.ntmps34
  by_cases hlen : l.length ≤ 70
  case neg =>
    have hR2 := hid (show r = false by rw [hr]; unfold fewL; rw [decide_eq_false hlen]; rfl)
    have hz : (70 : Int) < (l.length : Int) := by omega
    replace hb0 := hid hb0
    replace hr := hid hr
    go_wp2_with (rw [← hW]; replace hW := hid hW)
    go_ret
    exact ⟨by rw [hR2.out]; rfl, hb0.out⟩
  have hz : ¬ (70 : Int) < (l.length : Int) := by omega
  have hR0 := hid (show r = (l.drop 0).all fewN by rw [hr]; unfold fewL; rw [decide_eq_true hlen]; rfl)
  replace hb0 := hid hb0
  replace hr := hid hr
  go_wp2_with (rw [← hW]; replace hW := hid hW)
  clear e1
  go_loopg [3] l.length (fun g1 kv wr => ∃ k : Nat, kv = .int .i64 (k : Int) ∧ k ≤ l.length ∧ l.length - k ≤ g1 ∧ Hid (Below w.heap.size w wr) ∧ Hid (wr.heap[w.heap.size]? = some (.cells #[.int .u64 (x : Int), .slice a l.length c] 25 (0, 0))) ∧ Hid (r = (l.drop k).all fewN))
  case atStart => exact ⟨0, by first | rfl | go_num, by omega, by omega, hb0, hX0, hR0⟩
  case round =>
    clear hb0 hX0 hR0
    obtain ⟨k, rfl, hk, hg, hB, hX, hR⟩ := hrel
    have e1 := block_cell hX.out 1
    by_cases hkl : k < l.length
    · have hkz : (k : Int) < (l.length : Int) := by omega
      obtain ⟨b, o, ha, hrg⟩ := (hv.out.below hB.out).range k hkl
      subst ha
      have hR1 := hR.out
      rw [List.drop_eq_getElem_cons hkl, List.all_cons] at hR1
      generalize l[k] = n at *
      have hnew := hid (heap_alloc_new wr (.cells zeroNod.cells 56))
      obtain ⟨W3, hW3⟩ : ∃ W, W = boxN wr n := ⟨_, rfl⟩
      have hb3 : Below wr.heap.size wr W3 := by rw [hW3]; exact boxN_below _ _
      have hn3 : W3.heap[wr.heap.size]? = some (.cells n.cells 56 (0, 0)) := by rw [hW3]; exact boxN_heap _ _
      have hB3 := hid (sn hB.out hb3)
      have hX3 := hid ((hb3.block _ (lt_of_block hX.out)).trans hX.out)
      have q5 : W3.cell? ⟨wr.heap.size, 5, none⟩ = some (.string n.name) := block_cell hn3 5
      have q6 : W3.cell? ⟨wr.heap.size, 6, none⟩ = some (.string n.uid) := block_cell hn3 6
      have q7 : W3.cell? ⟨wr.heap.size, 7, none⟩ = some (.string n.gid) := block_cell hn3 7
      have q8 : W3.cell? ⟨wr.heap.size, 8, none⟩ = some (.string n.muid) := block_cell hn3 8
      have q11 : W3.cell? ⟨wr.heap.size, 11, none⟩ = some (.string n.data) := block_cell hn3 11
      unfold boxN at hW3
      rw [zeroNod_cells] at hW3 hnew
      replace hrg := hid hrg
      clear hb3 hn3 hB hX hR
      go_upto_region 7 with (first
        | (refine wpList_load_cells (by rfl) 56 (.tmp 19) (by rfl) b (o + k * 12) (by rfl) n.cells _ hrg.out Try.underlying56 (by rfl) (by kernel_rfl) ?_)
        | (refine wpList_store_row (by rfl) 56 (.tmp 4) (.tmp 20) (by rfl) wr.heap.size n.cells (by rfl) (by rfl) 56 _ hnew.out (by kernel_rfl) (by kernel_rfl) (nod_one n) ?_)
        | (rw [← hW3]; replace hW3 := hid hW3))
      try (rw [← hW3]; replace hW3 := hid hW3)
      clear hnew e1
      generalize wr.heap.size = z at *
      have hfn : fewN n = (decide (n.name.size ≤ 100) && decide (n.uid.size ≤ 100) && decide (n.gid.size ≤ 100) && decide (n.muid.size ≤ 100) && decide (n.data.size ≤ 5000)) := rfl
      by_cases h1 : n.name.size ≤ 100
      case neg =>
        have hR2 := hid (show r = false by rw [hR1, hfn, decide_eq_false h1]; rfl)
        have z1 : (100 : Int) < (n.name.size : Int) := by omega
        clear hR1 hfn h1
        go_wp2_with fail
        go_ret
        exact ⟨by rw [hR2.out]; rfl, hB3.out⟩
      have z1 : ¬ (100 : Int) < (n.name.size : Int) := by omega
      by_cases h2 : n.uid.size ≤ 100
      case neg =>
        have hR2 := hid (show r = false by rw [hR1, hfn, decide_eq_false h2]; simp)
        have z2 : (100 : Int) < (n.uid.size : Int) := by omega
        clear hR1 hfn h1 h2
        go_wp2_with fail
        go_ret
        exact ⟨by rw [hR2.out]; rfl, hB3.out⟩
      have z2 : ¬ (100 : Int) < (n.uid.size : Int) := by omega
      by_cases h3 : n.gid.size ≤ 100
      case neg =>
        have hR2 := hid (show r = false by rw [hR1, hfn, decide_eq_false h3]; simp)
        have z3 : (100 : Int) < (n.gid.size : Int) := by omega
        clear hR1 hfn h1 h2 h3
        go_wp2_with fail
        go_ret
        exact ⟨by rw [hR2.out]; rfl, hB3.out⟩
      have z3 : ¬ (100 : Int) < (n.gid.size : Int) := by omega
      by_cases h4 : n.muid.size ≤ 100
      case neg =>
        have hR2 := hid (show r = false by rw [hR1, hfn, decide_eq_false h4]; simp)
        have z4 : (100 : Int) < (n.muid.size : Int) := by omega
        clear hR1 hfn h1 h2 h3 h4
        go_wp2_with fail
        go_ret
        exact ⟨by rw [hR2.out]; rfl, hB3.out⟩
      have z4 : ¬ (100 : Int) < (n.muid.size : Int) := by omega
      by_cases h5 : n.data.size ≤ 5000
      case neg =>
        have hR2 := hid (show r = false by rw [hR1, hfn, decide_eq_false h5]; simp)
        have z5 : (5000 : Int) < (n.data.size : Int) := by omega
        clear hR1 hfn h1 h2 h3 h4 h5
        go_wp2_with fail
        go_ret
        exact ⟨by rw [hR2.out]; rfl, hB3.out⟩
      have z5 : ¬ (5000 : Int) < (n.data.size : Int) := by omega
      have hR2 := hid (show r = (l.drop (k + 1)).all fewN by rw [hR1, hfn, decide_eq_true h1, decide_eq_true h2, decide_eq_true h3, decide_eq_true h4, decide_eq_true h5]; rfl)
      clear hR1 hfn h1 h2 h3 h4 h5
      go_wp2_with fail
      go_roundg (l.length - (k + 1))
      case measure => omega
      case rel => exact ⟨k + 1, by first | rfl | go_num, by omega, by omega, hB3, hX3, hR2⟩
    · have hkz : ¬ (k : Int) < (l.length : Int) := by omega
      have hR2 := hid (show r = true by rw [hR.out, List.drop_of_length_le (by omega)]; rfl)
      go_wp2_with fail
      go_ret
      exact ⟨by rw [hR2.out]; rfl, hB.out⟩
end
end Go.Proofs.Ytpmlhmficmillaa

namespace Go.Proofs.Ytpmlhmficmillaa
section
open Go.RowKit
set_option maxRecDepth 100000
set_option linter.unusedVariables false

structure ActV where
  op : Int
  dir : Nat
  path : Nat
  off : Nat
  n : Nat
  mode : Nat
  name : ByteArray
  who : ByteArray
  gid : ByteArray
  data : ByteArray
  now : Nat
def ActV.cells (a : ActV) : Array Value := #[.int .i64 a.op, .int .u64 (a.dir : Int), .int .u64 (a.path : Int), .int .u64 (a.off : Int), .int .u32 (a.n : Int), .int .u32 (a.mode : Int), .string a.name, .string a.who, .string a.gid, .string a.data, .int .u32 (a.now : Int)]
structure ActOk (a : ActV) : Prop where
  dir : a.dir < 18446744073709551616
  path : a.path < 18446744073709551616
  off : a.off < 18446744073709551616
  n : a.n < 4294967296
  mode : a.mode < 4294967296
  name : a.name.size ≤ maxLen
  who : a.who.size ≤ maxLen
  gid : a.gid.size ≤ maxLen
  data : a.data.size ≤ maxLen
  now : a.now < 4294967296
theorem act_cells (a : ActV) : a.cells = #[.int .i64 a.op, .int .u64 (a.dir : Int), .int .u64 (a.path : Int), .int .u64 (a.off : Int), .int .u32 (a.n : Int), .int .u32 (a.mode : Int), .string a.name, .string a.who, .string a.gid, .string a.data, .int .u32 (a.now : Int)] := rfl
def actsL (l : List ActV) : List Value := l.flatMap fun a => a.cells.toList
theorem actsL_get (l : List ActV) (i j : Nat) (hi : i < l.length) (hj : j < 11) : (actsL l)[i * 11 + j]? = l[i].cells.toList[j]? := by
  induction l generalizing i with
  | nil => simp at hi
  | cons n l ih =>
    show (n.cells.toList ++ actsL l)[i * 11 + j]? = _
    have h12 : n.cells.toList.length = 11 := by rw [act_cells]; rfl
    cases i with
    | zero => rw [Nat.zero_mul, Nat.zero_add, List.getElem?_append_left (by omega)]; rfl
    | succ k =>
      rw [List.getElem?_append_right (by omega), h12, show (k + 1) * 11 + j - 11 = k * 11 + j by omega]
      exact ih k (by simpa using hi)
def ActsAt (w : World) (v : Value) (l : List ActV) : Prop := RowW w 11 v l.length (actsL l)
theorem ActsAt.form {w : World} {v : Value} {l : List ActV} (h : ActsAt w v l) : ∃ a c, v = .slice a l.length c ∧ l.length ≤ c ∧ c ≤ maxLen := by
  obtain ⟨_, a, c, hv, h1, h2, _⟩ := h
  exact ⟨a, c, hv, h1, h2⟩
theorem ActsAt.below {w w' : World} {v : Value} {l : List ActV} (h : ActsAt w v l) (hb : Below w.heap.size w w') : ActsAt w' v l := RowW.below h hb
theorem ActsAt.range {w : World} {a : Option Addr} {n c : Nat} {l : List ActV} (h : ActsAt w (.slice a n c) l) (i : Nat) (hi : i < l.length) : ∃ b o, a = some ⟨b, o, none⟩ ∧ w.rangeAt b (o + i * 11) l[i].cells.toList := by
  obtain ⟨_, a', c', hv, h1, h2, h3, h4⟩ := h
  cases hv
  obtain ⟨b, o, ha, _⟩ := h4 (i * 11) _ (by rw [show i * 11 = i * 11 + 0 from rfl, actsL_get l i 0 hi (by omega), act_cells]; rfl)
  refine ⟨b, o, ha, fun j u hu => ?_⟩
  have hj : j < 11 := by have := (List.getElem?_eq_some_iff.1 hu).1; rw [act_cells] at this; simpa using this
  obtain ⟨b', o', ha', hc⟩ := h4 (i * 11 + j) u (by rw [actsL_get l i j hi hj]; exact hu)
  rw [ha] at ha'; cases ha'
  rw [Nat.add_assoc]; exact hc
def fewA (a : ActV) : Bool := decide (a.name.size ≤ 100) && decide (a.data.size ≤ 300) && decide (a.who.size ≤ 28) && decide (a.gid.size ≤ 28)
def fewAs (l : List ActV) : Bool := decide (l.length ≤ 60) && l.all fewA
set_option maxHeartbeats 6400000 in
theorem few17_any (v : Value) (l : List ActV) (w : World) (hv : ActsAt w v l) :
    Calls Try.prog 10 #[v] w fun e w' => e = .returned (.bool (fewAs l)) ∧ w' = w := by
  obtain ⟨a, c, rfl, g1, g2⟩ := hv.form
  unfold maxLen at g2
  obtain ⟨r, hr⟩ : ∃ r, r = fewAs l := ⟨_, rfl⟩
  rw [← hr]
  replace hv := hid hv
  go_enter Try.func10, Try.ntmps10
  by_cases hlen : l.length ≤ 60
  case neg =>
    have hR2 := hid (show r = false by rw [hr]; unfold fewAs; rw [decide_eq_false hlen]; rfl)
    have hz : (60 : Int) < (l.length : Int) := by omega
    replace hr := hid hr
    go_wp2_with fail
    go_ret
    exact ⟨by rw [hR2.out]; rfl, rfl⟩
  have hz : ¬ (60 : Int) < (l.length : Int) := by omega
  have hR0 := hid (show r = (l.drop 0).all fewA by rw [hr]; unfold fewAs; rw [decide_eq_true hlen]; rfl)
  replace hr := hid hr
  go_wp2_with fail
  go_loopg [3] l.length (fun g1 kv wr => wr = w ∧ ∃ k : Nat, kv = .int .i64 (k : Int) ∧ k ≤ l.length ∧ l.length - k ≤ g1 ∧ Hid (r = (l.drop k).all fewA))
  case atStart => exact ⟨rfl, 0, by first | rfl | go_num, by omega, by omega, hR0⟩
  case round =>
    obtain ⟨hw, k, rfl, hk, hg, hR⟩ := hrel
    subst hw
    by_cases hkl : k < l.length
    · have hkz : (k : Int) < (l.length : Int) := by omega
      obtain ⟨b, o, ha, hrg⟩ := hv.out.range k hkl
      subst ha
      have hR1 := hR.out
      rw [List.drop_eq_getElem_cons hkl, List.all_cons] at hR1
      generalize l[k] = n at *
      have q6 : wr.cell? ⟨b, o + k * 11 + 6, none⟩ = some (.string n.name) := hrg 6 _ (by rw [act_cells]; rfl)
      have q9 : wr.cell? ⟨b, o + k * 11 + 9, none⟩ = some (.string n.data) := hrg 9 _ (by rw [act_cells]; rfl)
      have q7 : wr.cell? ⟨b, o + k * 11 + 7, none⟩ = some (.string n.who) := hrg 7 _ (by rw [act_cells]; rfl)
      have q8 : wr.cell? ⟨b, o + k * 11 + 8, none⟩ = some (.string n.gid) := hrg 8 _ (by rw [act_cells]; rfl)
      replace hrg := hid hrg
      have hfn : fewA n = (decide (n.name.size ≤ 100) && decide (n.data.size ≤ 300) && decide (n.who.size ≤ 28) && decide (n.gid.size ≤ 28)) := rfl
      clear hR
      by_cases h1 : n.name.size ≤ 100
      case neg =>
        have hR2 := hid (show r = false by rw [hR1, hfn, decide_eq_false h1]; rfl)
        have z1 : (100 : Int) < (n.name.size : Int) := by omega
        clear hR1 hfn h1
        go_wp2_with fail
        go_ret
        exact ⟨by rw [hR2.out]; rfl, by first | rfl | trivial⟩
      have z1 : ¬ (100 : Int) < (n.name.size : Int) := by omega
      by_cases h2 : n.data.size ≤ 300
      case neg =>
        have hR2 := hid (show r = false by rw [hR1, hfn, decide_eq_false h2]; simp)
        have z2 : (300 : Int) < (n.data.size : Int) := by omega
        clear hR1 hfn h1 h2
        go_wp2_with fail
        go_ret
        exact ⟨by rw [hR2.out]; rfl, by first | rfl | trivial⟩
      have z2 : ¬ (300 : Int) < (n.data.size : Int) := by omega
      by_cases h3 : n.who.size ≤ 28
      case neg =>
        have hR2 := hid (show r = false by rw [hR1, hfn, decide_eq_false h3]; simp)
        have z3 : (28 : Int) < (n.who.size : Int) := by omega
        clear hR1 hfn h1 h2 h3
        go_wp2_with fail
        go_ret
        exact ⟨by rw [hR2.out]; rfl, by first | rfl | trivial⟩
      have z3 : ¬ (28 : Int) < (n.who.size : Int) := by omega
      by_cases h4 : n.gid.size ≤ 28
      case neg =>
        have hR2 := hid (show r = false by rw [hR1, hfn, decide_eq_false h4]; simp)
        have z4 : (28 : Int) < (n.gid.size : Int) := by omega
        clear hR1 hfn h1 h2 h3 h4
        go_wp2_with fail
        go_ret
        exact ⟨by rw [hR2.out]; rfl, by first | rfl | trivial⟩
      have z4 : ¬ (28 : Int) < (n.gid.size : Int) := by omega
      have hR2 := hid (show r = (l.drop (k + 1)).all fewA by rw [hR1, hfn, decide_eq_true h1, decide_eq_true h2, decide_eq_true h3, decide_eq_true h4]; rfl)
      clear hR1 hfn h1 h2 h3 h4
      go_wp2_with fail
      go_roundg (l.length - (k + 1))
      case measure => omega
      case rel => exact ⟨by first | rfl | trivial, k + 1, by first | rfl | go_num, by omega, by omega, hR2⟩
    · have hkz : ¬ (k : Int) < (l.length : Int) := by omega
      have hR2 := hid (show r = true by rw [hR.out, List.drop_of_length_le (by omega)]; rfl)
      go_wp2_with fail
      go_ret
      exact ⟨by rw [hR2.out]; rfl, by first | rfl | trivial⟩
end
end Go.Proofs.Ytpmlhmficmillaa

namespace Go.Proofs.Ytpmlhmficmillaa
section
open Go.RowKit
set_option maxRecDepth 100000
set_option linter.unusedVariables false

def actT (t : Tr) (a : ActV) : Tr :=
  if a.op = 1 then (makeT t a.dir a.name a.mode a.who a.gid a.now).1 else if a.op = 2 then (putT t a.path a.off a.data a.who a.now).1 else if a.op = 3 then (cutT t a.path a.off a.who a.now).1
  else if a.op = 4 then (takeT t a.path a.off a.n a.now).1 else if a.op = 5 then (unlinkT t a.path a.who a.now).1 else if a.op = 6 then (reapT t a.path).1 else if a.op = 7 then (renameT t a.path a.name).1 else t
theorem runes_ascii : ∀ (l : List UInt8), (∀ b ∈ l, b.toNat < 128) → (S.runes l).isSome = true
  | [], _ => rfl
  | c :: t, h => by
    have h1 : S.one (c :: t) = some 1 := by
      unfold S.one S.head
      simp [h c (by simp), S.cont, S.good]
      have := h c (by simp)
      omega
    rw [S.runes_some h1]
    have := runes_ascii t (fun b hb => h b (by simp [hb]))
    simpa using this
theorem ascii_valid {s : ByteArray} (h : asciiB s = true) (hs : s.size ≤ 64) : validB s = true := by
  unfold asciiB at h
  unfold validB S.valid
  have h1 : ∀ b ∈ s.data.toList, 32 < b.toNat ∧ b.toNat ≤ 126 := fun b hb => by
    have := List.all_eq_true.1 h b hb
    simpa using this
  have h2 := runes_ascii s.data.toList (fun b hb => by have := (h1 b hb).2; omega)
  have h4 : s.data.toList.contains 0 = false := by
    rw [Bool.eq_false_iff]
    intro hc
    have := (h1 0 (by simpa using hc)).1
    simp at this
  rw [h2, h4]
  simpa using hs
theorem small_of {a : ActV} (h : fewA a = true) : a.name.size ≤ 100 ∧ a.data.size ≤ 300 ∧ a.who.size ≤ 28 ∧ a.gid.size ≤ 28 := by
  unfold fewA at h; simpa [and_assoc] using h
theorem actT_good {t : Tr} (h : Good t) (a : ActV) (ha : ActOk a) (hf : fewA a = true) (hw : asciiB a.who = true) (h1 : a.op = 1 → bitsB a.mode = true ∧ asciiB a.gid = true) (hx : t.next ≤ 1152921504606846976) : Good (actT t a) := by
  obtain ⟨s1, s2, s3, s4⟩ := small_of hf
  have hv := ascii_valid hw (by omega)
  unfold actT
  by_cases e1 : a.op = 1
  · rw [if_pos e1]
    exact makeT_good h _ _ _ _ _ _ (h1 e1).1 hv (ascii_valid (h1 e1).2 (by omega)) ha.mode ha.now ha.name ha.who ha.gid (by omega)
  rw [if_neg e1]
  by_cases e2 : a.op = 2
  · rw [if_pos e2]; exact putT_good h _ _ _ _ _ hv ha.now ha.who
  rw [if_neg e2]
  by_cases e3 : a.op = 3
  · rw [if_pos e3]; exact cutT_good h _ _ _ _ hv ha.now ha.who
  rw [if_neg e3]
  by_cases e4 : a.op = 4
  · rw [if_pos e4]; exact takeT_good h _ _ _ _ ha.now
  rw [if_neg e4]
  by_cases e5 : a.op = 5
  · rw [if_pos e5]; exact unlinkT_good h _ _ _ hv ha.now ha.who
  rw [if_neg e5]
  by_cases e6 : a.op = 6
  · rw [if_pos e6]; exact reapT_good h _
  rw [if_neg e6]
  by_cases e7 : a.op = 7
  · rw [if_pos e7]; exact renameT_good h _ _ ha.name
  rw [if_neg e7]
  exact h
structure Left (t T : Tr) (a : ActV) : Prop where
  sort : SortL T.n
  get : ∀ p n, getL t.n p = some n → (a.op = 1 ∨ p ≠ a.path) → ∃ m, getL T.n p = some m ∧ (m = n ∨ ∃ v c u, m = { n with vers := v, mtm := c, muid := u }) ∧ ((a.op = 1 → p ≠ a.dir) → (a.op ≠ 1 → ∀ y, getL t.n a.path = some y → p ≠ y.up) → m = n)
  root : (∃ n, getL t.n 1 = some n ∧ n.gone = false) → ∃ n, getL T.n 1 = some n
  len : T.n.length ≤ t.n.length + 1
theorem Left.same {t : Tr} (h : SortL t.n) (a : ActV) : Left t t a := ⟨h, fun p n hn _ => ⟨n, hn, .inl rfl, fun _ _ => rfl⟩, fun ⟨n, h, _⟩ => ⟨n, h⟩, by omega⟩
theorem setL_len {l : List Nod} (h : SortL l) (x : Nod) : (setL l x).length ≤ l.length + 1 := by
  have := (set_perm h x).length_eq
  have := drop_len l x.path
  simp at *; omega
theorem setL_len_in {l : List Nod} (h : SortL l) {x y : Nod} (hy : getL l x.path = some y) : (setL l x).length = l.length := by
  have h1 := (set_perm h x).length_eq
  obtain ⟨m1, m2⟩ := getL_some hy
  have h2 := (mem_perm h m1).length_eq
  rw [m2] at h2
  simp at *; omega
theorem Left.put {t : Tr} (h : SortL t.n) {a : ActV} (ha : a.op ≠ 1) {x y : Nod} (hx : getL t.n a.path = some y) (hp : x.path = a.path) : Left t ⟨t.next, setL t.n x⟩ a := by
  refine ⟨h.set x, fun p n hn hne => ⟨n, ?_, .inl rfl, fun _ _ => rfl⟩, fun ⟨n, hn, _⟩ => ?_, ?_⟩
  · show getL (setL t.n x) p = some n
    rw [getL_set h, hp, if_neg (by rcases hne with h1 | h1 <;> simp_all)]
    exact hn
  · show ∃ n, getL (setL t.n x) 1 = some n
    rw [getL_set h]
    split
    · exact ⟨_, rfl⟩
    · exact ⟨n, hn⟩
  · exact setL_len h x
theorem actT_left {t : Tr} (h : SortL t.n) (hlow : ∀ n ∈ t.n, n.path < t.next) (a : ActV) : Left t (actT t a) a := by
  unfold actT
  by_cases e1 : a.op = 1
  · rw [if_pos e1]
    unfold makeT
    cases hq : getL t.n a.dir with
    | none => exact Left.same h a
    | some x =>
      simp only
      split
      · exact Left.same h a
      split
      · exact Left.same h a
      split
      · exact Left.same h a
      split
      · exact Left.same h a
      split
      · exact Left.same h a
      have hxp := (getL_some hq).2
      have hs2 : SortL (setL t.n (touchN x a.who a.now)) := h.set _
      have hgl : ∀ p, p < t.next → getL (setL (setL t.n (touchN x a.who a.now)) (newN t.next a.mode a.now a.name a.who a.gid a.dir)) p = if p = a.dir then some (touchN x a.who a.now) else getL t.n p := fun p hp => by
        rw [getL_set hs2, show (newN t.next a.mode a.now a.name a.who a.gid a.dir).path = t.next from rfl, if_neg (show p ≠ t.next by omega), getL_set h]
        show (if p = x.path then _ else _) = _
        rw [hxp]
      refine ⟨hs2.set _, fun p n hn _ => ?_, fun ⟨n, hn, _⟩ => ?_, ?_⟩
      · have hlt := hlow n (getL_some hn).1
        rw [(getL_some hn).2] at hlt
        show ∃ m, getL (setL (setL t.n (touchN x a.who a.now)) (newN t.next a.mode a.now a.name a.who a.gid a.dir)) p = some m ∧ _
        rw [hgl p hlt]
        by_cases hpd : p = a.dir
        · subst hpd
          rw [hq] at hn; cases hn
          exact ⟨_, if_pos rfl, .inr ⟨_, _, _, rfl⟩, fun h1 => absurd rfl (h1 e1)⟩
        · exact ⟨n, by rw [if_neg hpd]; exact hn, .inl rfl, fun _ _ => rfl⟩
      · have hlt := hlow n (getL_some hn).1
        rw [(getL_some hn).2] at hlt
        show ∃ n, getL (setL (setL t.n (touchN x a.who a.now)) (newN t.next a.mode a.now a.name a.who a.gid a.dir)) 1 = some n
        rw [hgl 1 hlt]
        split
        · exact ⟨_, rfl⟩
        · exact ⟨n, hn⟩
      · show (setL (setL t.n (touchN x a.who a.now)) (newN t.next a.mode a.now a.name a.who a.gid a.dir)).length ≤ t.n.length + 1
        have e := setL_len_in h (x := touchN x a.who a.now) (y := x) (by show getL t.n x.path = some x; rw [hxp]; exact hq)
        have := setL_len hs2 (newN t.next a.mode a.now a.name a.who a.gid a.dir)
        omega
  rw [if_neg e1]
  have dataL : ∀ (x : Nod) (b who : ByteArray) (now : Nat), getL t.n a.path = some x → Left t (dataT t x b who now).1 a := fun x b who now hx => by
    unfold dataT
    split
    · exact Left.same h a
    · exact Left.put h e1 hx (getL_some hx).2
  by_cases e2 : a.op = 2
  · rw [if_pos e2]
    unfold putT
    cases hq : getL t.n a.path with
    | none => exact Left.same h a
    | some x =>
      simp only
      repeat' split
      all_goals first | exact Left.same h a | exact dataL x _ _ _ hq
  rw [if_neg e2]
  by_cases e3 : a.op = 3
  · rw [if_pos e3]
    unfold cutT
    cases hq : getL t.n a.path with
    | none => exact Left.same h a
    | some x =>
      simp only
      split
      · exact Left.same h a
      split
      · exact Left.same h a
      exact dataL x _ _ _ hq
  rw [if_neg e3]
  by_cases e4 : a.op = 4
  · rw [if_pos e4]
    unfold takeT
    cases hq : getL t.n a.path with
    | none => exact Left.same h a
    | some x =>
      simp only
      split
      · exact Left.same h a
      exact Left.put h e1 hq (getL_some hq).2
  rw [if_neg e4]
  by_cases e5 : a.op = 5
  · rw [if_pos e5]
    unfold unlinkT
    cases hq : getL t.n a.path with
    | none => exact Left.same h a
    | some x =>
      simp only
      split
      · exact Left.same h a
      split
      · exact Left.same h a
      split
      · exact Left.same h a
      have hxp := (getL_some hq).2
      cases hu : getL t.n x.up with
      | none => exact Left.put h e1 hq hxp
      | some y =>
        have hyp := (getL_some hu).2
        have hs2 : SortL (setL t.n (goneN x)) := h.set _
        have hgl : ∀ p, getL (setL (setL t.n (goneN x)) (touchN y a.who a.now)) p = if p = x.up then some (touchN y a.who a.now) else if p = a.path then some (goneN x) else getL t.n p := fun p => by
          rw [getL_set hs2, getL_set h]
          show (if p = y.path then _ else if p = x.path then _ else _) = _
          rw [hyp, hxp]
        refine ⟨hs2.set _, fun p n hn hne => ?_, fun ⟨n, hn, _⟩ => ?_, ?_⟩
        · show ∃ m, getL (setL (setL t.n (goneN x)) (touchN y a.who a.now)) p = some m ∧ _
          rw [hgl p]
          have hpp : p ≠ a.path := by rcases hne with h1 | h1 <;> simp_all
          by_cases hpd : p = x.up
          · subst hpd
            rw [hu] at hn; cases hn
            exact ⟨_, if_pos rfl, .inr ⟨_, _, _, rfl⟩, fun _ h2 => absurd rfl (h2 e1 x hq)⟩
          · exact ⟨n, by rw [if_neg hpd, if_neg hpp]; exact hn, .inl rfl, fun _ _ => rfl⟩
        · show ∃ n, getL (setL (setL t.n (goneN x)) (touchN y a.who a.now)) 1 = some n
          rw [hgl 1]
          split
          · exact ⟨_, rfl⟩
          · split
            · exact ⟨_, rfl⟩
            · exact ⟨n, hn⟩
        · show (setL (setL t.n (goneN x)) (touchN y a.who a.now)).length ≤ t.n.length + 1
          have e := setL_len_in h (x := goneN x) (y := x) (by show getL t.n x.path = some x; rw [hxp]; exact hq)
          have := setL_len hs2 (touchN y a.who a.now)
          omega
  rw [if_neg e5]
  by_cases e6 : a.op = 6
  · rw [if_pos e6]
    unfold reapT
    cases hq : getL t.n a.path with
    | none => exact Left.same h a
    | some x =>
      simp only
      cases hg : x.gone with
      | false => rw [if_neg (by simp)]; exact Left.same h a
      | true =>
        rw [if_pos rfl]
        refine ⟨h.drop _, fun p n hn hne => ⟨n, ?_, .inl rfl, fun _ _ => rfl⟩, fun ⟨n, hn, hng⟩ => ⟨n, ?_⟩, by show (dropL t.n a.path).length ≤ _; have := drop_len t.n a.path; omega⟩
        · show getL (dropL t.n a.path) p = some n
          rw [getL_drop h, if_neg (by rcases hne with h1 | h1 <;> simp_all)]; exact hn
        · show getL (dropL t.n a.path) 1 = some n
          rw [getL_drop h, if_neg (fun e => by rw [← e, hn] at hq; cases hq; rw [hng] at hg; cases hg)]; exact hn
  rw [if_neg e6]
  by_cases e7 : a.op = 7
  · rw [if_pos e7]
    unfold renameT
    cases hq : getL t.n a.path with
    | none => exact Left.same h a
    | some x =>
      simp only
      repeat' split
      all_goals first | exact Left.same h a | exact Left.put h e1 hq (getL_some hq).2
  rw [if_neg e7]
  exact Left.same h a
theorem OkC.root_get {t : Tr} (h : OkC t) : ∃ n, getL t.n 1 = some n ∧ n.gone = false := by
  obtain ⟨r, hr, h1, _, _, h2, _⟩ := h.root
  exact ⟨r, (getL_iff h.sort).2 ⟨hr, h1⟩, h2⟩
theorem actT_ne {t : Tr} (h : OkC t) (a : ActV) : (actT t a).n ≠ [] := by
  obtain ⟨n, hn⟩ := (actT_left h.sort (fun n hn => (h.low n hn).2) a).root h.root_get
  intro e
  rw [e] at hn
  cases hn
end
end Go.Proofs.Ytpmlhmficmillaa
