/- Two nodes of the reference compared; two trees: Same. Conditions: at most a thousand nodes.
The reference's Set. Conditions: at most a thousand nodes.
A tree as the reference's: Of. Conditions: at most a thousand nodes. -/
import Derived.Test.YtpmlhmficmillaaGreatBunRN
import Derived.Test.YtpmlhmficmillaaGreatBunSB
import Derived.Test.YtpmlhmficmillaaGreatBunN
namespace Go.Proofs.YtpmlhmficmillaaGreat
section
open Go.RowKit
set_option maxRecDepth 100000
set_option linter.unusedVariables false
attribute [local go_sem ↓] load12_eq

theorem toListInj {s t : ByteArray} (h : s.toList = t.toList) : s = t := by
  rw [ByteArray.toList_eq, ByteArray.toList_eq] at h
  cases s; cases t
  simpa using h
def eqN (x y : Nod) : Bool := decide (x.path = y.path ∧ x.vers = y.vers ∧ x.mode = y.mode ∧ x.atm = y.atm ∧ x.mtm = y.mtm ∧ x.name = y.name ∧ x.uid = y.uid ∧ x.gid = y.gid ∧ x.muid = y.muid ∧ x.up = y.up ∧ x.gone = y.gone ∧ x.data = y.data)
theorem eqN_iff {x y : Nod} : eqN x y = true ↔ x = y := by
  unfold eqN
  rw [decide_eq_true_eq]
  constructor
  · rintro ⟨a1, a2, a3, a4, a5, a6, a7, a8, a9, a10, a11, a12⟩
    cases x; cases y; simp only at *; subst a1 a2 a3 a4 a5 a6 a7 a8 a9 a10 a11 a12; rfl
  · rintro rfl; simp
theorem nod_ncmp (x y : Nod) (W : World) : (binOp .neq 38 (.agg x.cells) (.agg y.cells)).run Tryz.prog W = .ok (.bool (!eqN x y)) W := by
  have h1 : Tryz.prog.underlying 38 = some (.struct (Tryz.prog.fieldsOf 38)) := by kernel_rfl
  have h2 : Tryz.prog.stoodInHeld 38 = false := by kernel_rfl
  have h5 := Tryz.underlying4
  have h7 := Tryz.underlying26
  have h8 := Tryz.underlying22
  have h9 := Tryz.underlying9
  rw [run_neq_struct, run_equalIn_agg W _ _ _ _ h1 h2]
  have g2 := Tryz.underlying38
  clear h1
  by_cases h : eqN x y = true
  · obtain rfl := eqN_iff.1 h
    rw [h]
    simp [go_sem, h5, h7, h8, h9, g2, Nod.cells]
  · rw [Bool.eq_false_iff.2 h]
    simp [go_sem, h5, h7, h8, h9, g2, Nod.cells]
    have hx : x.path = y.path → x.vers = y.vers → x.mode = y.mode → x.atm = y.atm → x.mtm = y.mtm → x.name.toList = y.name.toList → x.uid.toList = y.uid.toList → x.gid.toList = y.gid.toList → x.muid.toList = y.muid.toList → x.up = y.up → x.gone = y.gone → x.data.toList = y.data.toList → False :=
      fun a1 a2 a3 a4 a5 a6 a7 a8 a9 a10 a11 a12 => h (decide_eq_true ⟨a1, a2, a3, a4, a5, toListInj a6, toListInj a7, toListInj a8, toListInj a9, a10, a11, toListInj a12⟩)
    clear h2 h5 h7 h8 h9 g2 h
    intro a1 a2 a3 a4 a5 a6 a7 a8 a9 a10 a11 a12
    exact hx (by omega) (by omega) (by omega) (by omega) (by omega) a6 a7 a8 a9 (by omega) a11 a12
def eqL : List Nod → List Nod → Bool
  | [], [] => true
  | x :: l, y :: m => eqN x y && eqL l m
  | _, _ => false
theorem eqL_iff : ∀ {l m : List Nod}, eqL l m = true ↔ l = m
  | [], [] => by simp [eqL]
  | x :: l, y :: m => by simp [eqL, eqN_iff, eqL_iff]
  | [], y :: m => by simp [eqL]
  | x :: l, [] => by simp [eqL]
theorem eqL_step {l m : List Nod} {k : Nat} (h1 : k < l.length) (h2 : k < m.length) : eqL (l.drop k) (m.drop k) = (eqN l[k] m[k] && eqL (l.drop (k + 1)) (m.drop (k + 1))) := by
  rw [List.drop_eq_getElem_cons h1, List.drop_eq_getElem_cons h2]; rfl
def ncmpN (a b : Value) : Sem Value := binOp .neq 38 a b
theorem ncmpN_eq (a b : Value) : binOp .neq 38 a b = ncmpN a b := rfl
attribute [local go_sem ↓] ncmpN_eq
theorem range_load {P : Program} {w : World} {b o : Nat} {n : Nod} (h : w.rangeAt b o n.cells.toList) : Sem.run P (load12 ⟨b, o, none⟩) w = .ok n.cells w := by
  have hl : n.cells.toList.length = 12 := by rw [nod_cells]; rfl
  have := run_loadCells_list (P := P) (w := w) ⟨b, o, none⟩ n.cells.toList (fun j v hv => by rw [Addr.add_mid]; exact h j v hv)
  rw [hl] at this
  simpa [loadCells, load12] using this
set_option maxHeartbeats 6400000 in
theorem rsame_any (v u : Value) (x y : Nat) (l m : List Nod) (w : World) (hv : NodsAt w v l) (hu : NodsAt w u m) (hl : l.length ≤ 1000) (hm : m.length ≤ 1000) :
    Calls Tryz.prog 16 #[.agg #[.int .u64 (x : Int), v], .agg #[.int .u64 (y : Int), u]] w fun e w' => e = .returned (.bool (decide (x = y) && eqL l m)) ∧ Below w.heap.size w w' := by
  obtain ⟨a, c, rfl, g1, g2⟩ := hv.form
  obtain ⟨a2, c2, rfl, g3, g4⟩ := hu.form
  unfold maxLen at g2 g4
  obtain ⟨W, hW⟩ : ∃ W, W = (w.alloc (.cells #[.int .u64 (x : Int), .slice a l.length c] 33)).alloc (.cells #[.int .u64 (y : Int), .slice a2 m.length c2] 33) := ⟨_, rfl⟩
  have hb0 : Below w.heap.size w W := by rw [hW]; exact ((Below.refl w.heap.size w).alloc (Nat.le_refl _) _).alloc (by simp) _
  have hx0 : W.heap[w.heap.size]? = some (.cells #[.int .u64 (x : Int), .slice a l.length c] 33 (0, 0)) := by rw [hW, heap_alloc_old _ _ (by simp), heap_alloc_new]
  have hy0 : W.heap[w.heap.size + 1]? = some (.cells #[.int .u64 (y : Int), .slice a2 m.length c2] 33 (0, 0)) := by rw [hW]; exact heap2 _ _ _
  have e0 := block_cell hx0 0
  have e1 := block_cell hx0 1
  have e2 := block_cell hy0 0
  have e3 := block_cell hy0 1
  replace hv := hid (hv.below hb0)
  replace hu := hid (hu.below hb0)
  replace hb0 := hid hb0
  clear hx0 hy0
  have mixed : Tryz.prog.follows Departure.mixedOrders = true := by first | kernel_rfl | decide
  have k1 : ((x : Int) != (y : Int)) = !decide (x = y) := by rw [Bool.eq_iff_iff]; simp; omega
  have k2 : ((l.length : Int) != (m.length : Int)) = !decide (l.length = m.length) := by rw [Bool.eq_iff_iff]; simp; omega
  go_enter Tryz.func16, Tryz.ntmps16
  by_cases hxy : x = y
  case neg =>
    rw [decide_eq_false hxy] at k1 ⊢
    go_wp2_with (rw [← hW]; replace hW := hid hW)
    go_ret
    exact ⟨rfl, hb0.out⟩
  subst hxy
  rw [decide_eq_true rfl] at k1 ⊢
  by_cases hlm : l.length = m.length
  case neg =>
    rw [decide_eq_false hlm] at k2
    have hE : eqL l m = false := by
      cases h : eqL l m with
      | false => rfl
      | true => rw [eqL_iff.1 h] at hlm; exact absurd rfl hlm
    rw [hE]
    replace hlm := hid hlm
    go_wp2_with (rw [← hW]; replace hW := hid hW)
    go_ret
    exact ⟨rfl, hb0.out⟩
  rw [decide_eq_true hlm] at k2
  replace hlm := hid hlm
  go_wp2_with (rw [← hW]; replace hW := hid hW)
  have HW := hid (Below.refl W.heap.size W)
  have E1 := hid e1
  have E3 := hid e3
  clear e0 e1 e2 e3
  go_loopw [5] (fun kv wr => Hid (Below W.heap.size W wr) ∧ ∃ k : Nat, k ≤ l.length ∧ kv = .int .i64 (k : Int) ∧ Hid (eqL l m = eqL (l.drop k) (m.drop k))) (fun kv _ => l.length - (intOf kv).toNat)
  case atStart => exact ⟨HW, 0, by omega, rfl, hid rfl⟩
  case round =>
    obtain ⟨hB, k, hk, rfl, hF⟩ := hrel
    have hBw := hid (sn hb0.out hB.out)
    have e1 : wr.cell? ⟨w.heap.size, 1, none⟩ = some (.slice a l.length c) := by rw [hB.out.cell (World.block_lt_of_cell? _ _ E1.out)]; exact E1.out
    have e3 : wr.cell? ⟨w.heap.size + 1, 1, none⟩ = some (.slice a2 m.length c2) := by rw [hB.out.cell (World.block_lt_of_cell? _ _ E3.out)]; exact E3.out
    by_cases hkl : k < l.length
    · have hkm : k < m.length := by have := hlm.out; omega
      obtain ⟨b, o, ha, hr⟩ := (hv.out.below hB.out).range k hkl
      obtain ⟨b2, o2, ha2, hr2⟩ := (hu.out.below hB.out).range k hkm
      subst ha ha2
      have hst := hid (hF.out.trans (eqL_step hkl hkm))
      generalize l[k] = n at *
      generalize m[k] = p at *
      have lx : Sem.run Tryz.prog (load12 ⟨b, o + k * 12, none⟩) wr.drew = .ok n.cells wr.drew := range_load hr
      have ly : Sem.run Tryz.prog (load12 ⟨b2, o2 + k * 12, none⟩) wr.drew = .ok p.cells wr.drew := range_load hr2
      have s1 : wr.drew.cell? ⟨w.heap.size, 1, none⟩ = some (.slice (some ⟨b, o, none⟩) l.length c) := e1
      have s3 : wr.drew.cell? ⟨w.heap.size + 1, 1, none⟩ = some (.slice (some ⟨b2, o2, none⟩) m.length c2) := e3
      have hc : Sem.run Tryz.prog (ncmpN (.agg n.cells) (.agg p.cells)) wr.drew = .ok (.bool (!eqN n p)) wr.drew := nod_ncmp n p wr.drew
      have hBd := hid (hB.out.drew)
      replace hr := hid hr
      replace hr2 := hid hr2
      have i1 : (k : Int) < (l.length : Int) := by omega
      have i2 : (k : Int) < (m.length : Int) := by omega
      cases hE : eqN n p with
      | true =>
        have hF2 := hid (show eqL l m = eqL (l.drop (k + 1)) (m.drop (k + 1)) by rw [hst.out, hE, Bool.true_and])
        rw [hE] at hc
        clear hE hst
        go_wp2_with fail
        go_big_region_o
        all_goals go_wp2_with fail
        go_roundw
        case rel => exact ⟨hBd, k + 1, by omega, by go_num, hF2⟩
        case measure => simp [intOf]; omega
      | false =>
        have hF2 := hid (show eqL l m = false by rw [hst.out, hE, Bool.false_and])
        rw [hE] at hc
        clear hE hst
        go_wp2_with fail
        go_big_region_o
        all_goals go_wp2_with fail
        go_ret
        exact ⟨by rw [hF2.out]; rfl, sn hb0.out hBd.out⟩
    · obtain rfl : k = l.length := by omega
      have hF2 : eqL l m = true := by rw [hF.out, List.drop_length, show m.drop l.length = [] by rw [hlm.out]; exact List.drop_length]; rfl
      replace hF2 := hid hF2
      go_wp2_with fail
      go_ret
      exact ⟨by rw [hF2.out]; rfl, hBw.out⟩
end
end Go.Proofs.YtpmlhmficmillaaGreat

namespace Go.Proofs.YtpmlhmficmillaaGreat
section
open Go.RowKit
set_option maxRecDepth 100000
set_option linter.unusedVariables false

def stepS (x : Nod) (s : Bool × List Nod) (n : Nod) : Bool × List Nod :=
  (s.1 || decide (x.path ≤ n.path), (if !s.1 && decide (x.path ≤ n.path) then s.2 ++ [x] else s.2) ++ (if n.path = x.path then [] else [n]))
theorem step_take {l : List Nod} {k : Nat} (hk : k < l.length) (x : Nod) (s : Bool × List Nod) : (l.take (k + 1)).foldl (stepS x) s = stepS x ((l.take k).foldl (stepS x) s) l[k] := by
  rw [List.take_succ_eq_append_getElem hk, List.foldl_append]; rfl
theorem step_len (x : Nod) (l : List Nod) : (l.foldl (stepS x) (false, [])).2.length ≤ l.length * 2 := by
  have : ∀ (l : List Nod) (s : Bool × List Nod), (l.foldl (stepS x) s).2.length ≤ s.2.length + l.length * 2 := by
    intro l
    induction l with
    | nil => intro s; simp
    | cons n l ih =>
      intro s
      have h := ih (stepS x s n)
      have h2 : (stepS x s n).2.length ≤ s.2.length + 2 := by
        unfold stepS
        simp only [List.length_append]
        split <;> split <;> simp
      simp only [List.foldl_cons, List.length_cons]
      omega
  simpa using this l (false, [])
theorem filter_all {l : List Nod} {p : Nod → Bool} (h : ∀ n ∈ l, p n = true) : l.filter p = l := List.filter_eq_self.2 h
theorem filter_none {l : List Nod} {p : Nod → Bool} (h : ∀ n ∈ l, p n = false) : l.filter p = [] := List.filter_eq_nil_iff.2 fun n hn => by rw [h n hn]; simp
theorem snoc_rec {P : List Nod → Prop} (h0 : P []) (h1 : ∀ l n, P l → P (l ++ [n])) (l : List Nod) : P l := by
  have : ∀ m : List Nod, P m.reverse := by
    intro m
    induction m with
    | nil => exact h0
    | cons n m ih => rw [List.reverse_cons]; exact h1 _ _ ih
  have := this l.reverse
  rwa [List.reverse_reverse] at this
theorem step_sorted (x : Nod) (l : List Nod) (h : SortL l) : l.foldl (stepS x) (false, []) = if (∀ n ∈ l, n.path < x.path) then (false, l) else (true, setL l x) := by
  revert h
  refine snoc_rec (P := fun l => SortL l → l.foldl (stepS x) (false, []) = if (∀ n ∈ l, n.path < x.path) then (false, l) else (true, setL l x)) ?_ ?_ l
  · intro _; simp
  · intro l n ih hs
    have hs1 : SortL l := (List.pairwise_append.1 hs).1
    have hs2 : ∀ m ∈ l, m.path < n.path := fun m hm => (List.pairwise_append.1 hs).2.2 m hm n (by simp)
    rw [List.foldl_append, ih hs1]
    simp only [List.foldl_cons, List.foldl_nil]
    by_cases hall : ∀ m ∈ l, m.path < x.path
    · rw [if_pos hall]
      have e1 : l.filter (fun n => decide (n.path < x.path)) = l := filter_all fun m hm => decide_eq_true (hall m hm)
      have e2 : l.filter (fun n => decide (x.path < n.path)) = [] := filter_none fun m hm => decide_eq_false (by have := hall m hm; omega)
      rcases Nat.lt_trichotomy n.path x.path with c | c | c
      · rw [if_pos (by intro m hm; rcases List.mem_append.1 hm with hm | hm; exact hall m hm; rw [List.mem_singleton.1 hm]; exact c)]
        unfold stepS
        have a1 : decide (x.path ≤ n.path) = false := decide_eq_false (by omega)
        simp [a1]
        omega
      · rw [if_neg (by intro hh; have := hh n (by simp); omega)]
        unfold stepS setL
        have a1 : decide (x.path ≤ n.path) = true := decide_eq_true (by omega)
        rw [List.filter_append, List.filter_append, e1, e2]
        simp [c]
      · rw [if_neg (by intro hh; have := hh n (by simp); omega)]
        unfold stepS setL
        have a1 : decide (x.path ≤ n.path) = true := decide_eq_true (by omega)
        have a2 : decide (n.path < x.path) = false := decide_eq_false (by omega)
        have a3 : decide (x.path < n.path) = true := decide_eq_true (by omega)
        have a4 : n.path ≠ x.path := by omega
        rw [List.filter_append, List.filter_append, e1, e2]
        simp [a1, a2, a3, a4]
    · rw [if_neg hall, if_neg (by intro hh; exact hall fun m hm => hh m (by simp [hm]))]
      have hex : ∃ m ∈ l, x.path ≤ m.path := by
        refine Classical.byContradiction fun hn => hall fun m hm => Classical.byContradiction fun hc => hn ⟨m, hm, by omega⟩
      obtain ⟨m, hm, hmx⟩ := hex
      have hlt := hs2 m hm
      have a2 : decide (n.path < x.path) = false := decide_eq_false (by omega)
      have a3 : decide (x.path < n.path) = true := decide_eq_true (by omega)
      have a4 : n.path ≠ x.path := by omega
      unfold stepS setL
      rw [List.filter_append, List.filter_append]
      simp [a2, a3, a4]
def setR (l : List Nod) (x : Nod) : List Nod := if !(l.foldl (stepS x) (false, [])).1 then (l.foldl (stepS x) (false, [])).2 ++ [x] else (l.foldl (stepS x) (false, [])).2
theorem setR_eq {l : List Nod} (h : SortL l) (x : Nod) : setR l x = setL l x := by
  unfold setR
  rw [step_sorted x l h]
  by_cases hall : ∀ m ∈ l, m.path < x.path
  · simp only [if_pos hall]
    unfold setL
    rw [filter_all (l := l) (p := fun n => decide (n.path < x.path)) fun m hm => decide_eq_true (hall m hm), filter_none (l := l) (p := fun n => decide (x.path < n.path)) fun m hm => decide_eq_false (by have := hall m hm; omega)]
    simp
  · simp only [if_neg hall]; simp
set_option maxHeartbeats 12800000 in
theorem rset_any (v : Value) (x : Nat) (l : List Nod) (nx : Nod) (w : World) (hv : NodsAt w v l) (hl : l.length ≤ 1000) :
    Calls Tryz.prog 13 #[.agg #[.int .u64 (x : Int), v], .agg nx.cells] w (SetPost w x (setR l nx)) := by
  obtain ⟨a, c, rfl, g1, g2⟩ := hv.form
  unfold maxLen at g2
  obtain ⟨W, hW⟩ : ∃ W, W = (((w.alloc (.cells #[.int .u64 (x : Int), .slice a l.length c] 33)).alloc (.cells nx.cells 38)).alloc (.cells #[.int .u64 0, .slice none 0 0] 33)).alloc (.cells #[.int .u64 (x : Int), .slice none 0 0] 33) := ⟨_, rfl⟩
  have hb0 : Below w.heap.size w W := by rw [hW]; exact ((((Below.refl w.heap.size w).alloc (Nat.le_refl _) _).alloc (by simp) _).alloc (by simp; omega) _).alloc (by simp; omega) _
  have hX0 := hid (show W.heap[w.heap.size]? = some (.cells #[.int .u64 (x : Int), .slice a l.length c] 33 (0, 0)) by rw [hW, heap_alloc_old _ _ (by simp; omega), heap_alloc_old _ _ (by simp; omega), heap_alloc_old _ _ (by simp), heap_alloc_new])
  have hXN := hid (show W.heap[w.heap.size + 1]? = some (.cells nx.cells 38 (0, 0)) by rw [hW, heap_alloc_old _ _ (by simp; try omega), heap_alloc_old _ _ (by simp; try omega)]; exact heap2 _ _ _)
  have hX1 := hid (show W.heap[w.heap.size + 2]? = some (.cells #[.int .u64 0, .slice none 0 0] 33 (0, 0)) by
    rw [hW, heap_alloc_old _ _ (by simp)]
    have := heap_alloc_new ((w.alloc (.cells #[.int .u64 (x : Int), .slice a l.length c] 33)).alloc (.cells nx.cells 38)) (.cells #[.int .u64 0, .slice none 0 0] 33)
    simpa using this)
  have hXU := hid (show W.heap[w.heap.size + 3]? = some (.cells #[.int .u64 (x : Int), .slice none 0 0] 33 (0, 0)) by
    rw [hW]
    have := heap_alloc_new (((w.alloc (.cells #[.int .u64 (x : Int), .slice a l.length c] 33)).alloc (.cells nx.cells 38)).alloc (.cells #[.int .u64 0, .slice none 0 0] 33)) (.cells #[.int .u64 (x : Int), .slice none 0 0] 33)
    simpa using this)
  replace hv := hid hv
  replace hb0 := hid hb0
  rw [nod_cells] at hW
  have mixed : Tryz.prog.follows Departure.mixedOrders = true := by first | kernel_rfl | decide
  have hdl := hid (fun k => Nat.le_trans (step_len nx (l.take k)) (Nat.mul_le_mul_right 2 (List.length_take_le k l)))
  rw [nod_cells]
  go_enter Tryz.func13, Tryz.ntmps13
  go_wp2_with (rw [← hW]; replace hW := hid hW)
  try (rw [← hW]; replace hW := hid hW)
  go_loopw [6, 7] (fun pv kv wr => ∃ (k m : Nat) (put : Bool) (ov : Value) (acc : List Nod), k ≤ l.length ∧ kv = .int .i64 (k : Int) ∧ pv = .bool put ∧ Hid ((put, acc) = (l.take k).foldl (stepS nx) (false, [])) ∧ Hid (wr.heap[w.heap.size + 3]? = some (.cells #[.int .u64 (x : Int), ov] 33 (0, 0))) ∧ Hid (wr.heap[w.heap.size]? = some (.cells #[.int .u64 (x : Int), .slice a l.length c] 33 (0, 0))) ∧ Hid (wr.heap[w.heap.size + 2]? = some (.cells #[.int .u64 0, .slice none 0 0] 33 (0, 0))) ∧ Hid (wr.heap[w.heap.size + 1]? = some (.cells nx.cells 38 (0, 0))) ∧ Hid (wr.ownsRow (w.heap.size + 4) 38 12 ov m (nodsL acc)) ∧ Hid (Below w.heap.size w wr) ∧ Hid (m = acc.length)) (fun _ kv _ => l.length - (intOf kv).toNat)
  case atStart => exact ⟨0, 0, false, .slice none 0 0, [], by omega, rfl, rfl, hid rfl, hXU, hX0, hX1, hXN, hid (World.ownsRow_nil _ _ _ _), hb0, hid rfl⟩
  case round =>
    clear hX0 hX1 hXU hXN hb0
    obtain ⟨k, m, put, ov, acc, hk, rfl, rfl, hacc, hXU, hX0, hX1, hXN, hown, hB, hm⟩ := hrel
    obtain ⟨oa, oc, rfl⟩ := own_form hown.out
    have hmk : m ≤ 2000 := by rw [hm.out, show acc = ((l.take k).foldl (stepS nx) (false, [])).2 by rw [← hacc.out]]; have := hdl.out k; omega
    have e1 := block_cell hX0.out 1
    have e2 := block_cell hXU.out 1
    have e3 : wr.cell? ⟨w.heap.size + 1, 0, none⟩ = some (.int .u64 (nx.path : Int)) := block_cell hXN.out 0
    by_cases hkl : k < l.length
    · obtain ⟨b, o, ha, hr⟩ := (hv.out.below hB.out).range k hkl
      subst ha
      have hst := hid (step_take hkl nx (false, []))
      have hrf := hid (fun (Z : World) (hZ : Below w.heap.size w Z) => show Z.rangeAt b (o + k * 12) l[k].cells.toList by
        obtain ⟨b', o', ha', hr'⟩ := (hv.out.below hZ).range k hkl
        cases ha'; exact hr')
      generalize l[k] = n at *
      have f0 : wr.cell? ⟨b, o + k * 12, none⟩ = some (.int .u64 (n.path : Int)) := by have := hr 0 (.int .u64 (n.path : Int)) (by rw [nod_cells]; rfl); rwa [Nat.add_zero] at this
      replace hr := hid hr
      cases put with
      | true =>
        replace hst := hid (show (l.take (k + 1)).foldl (stepS nx) (false, []) = (true, acc ++ (if n.path = nx.path then [] else [n])) by rw [hst.out, ← hacc.out]; rfl)
        clear hacc
        go_wp2_with fail
        have w1 : wr.drew.cell? ⟨w.heap.size, 1, none⟩ = some (.slice (some ⟨b, o, none⟩) l.length c) := e1
        have w3 : wr.drew.cell? ⟨w.heap.size + 1, 0, none⟩ = some (.int .u64 (nx.path : Int)) := e3
        have w0 : wr.drew.cell? ⟨b, o + k * 12, none⟩ = some (.int .u64 (n.path : Int)) := f0
        go_big_region_o
        replace hXU : Hid ((wr.drew).heap[w.heap.size + 3]? = _) := hXU
        replace hX0 : Hid ((wr.drew).heap[w.heap.size]? = _) := hX0
        replace hX1 : Hid ((wr.drew).heap[w.heap.size + 2]? = _) := hX1
        replace hXN : Hid ((wr.drew).heap[w.heap.size + 1]? = _) := hXN
        replace hr : Hid ((wr.drew).rangeAt b (o + k * 12) n.cells.toList) := hr
        replace hown : Hid ((wr.drew).ownsRow _ _ _ _ _ _) := hown
        replace hB : Hid (Below w.heap.size w (wr.drew)) := hid hB.out.drew
        clear e1 e2 e3 f0 w0 w1 w3
        generalize wr.drew = wr at *
        have e1 := block_cell hX0.out 1
        have e2 := block_cell hXU.out 1
        have e3 : wr.cell? ⟨w.heap.size + 1, 0, none⟩ = some (.int .u64 (nx.path : Int)) := block_cell hXN.out 0
        have f0 : wr.cell? ⟨b, o + k * 12, none⟩ = some (.int .u64 (n.path : Int)) := by have := hr.out 0 (.int .u64 (n.path : Int)) (by rw [nod_cells]; rfl); rwa [Nat.add_zero] at this
        by_cases hnp : n.path = nx.path
        · have r1 : ((n.path : Int) != (nx.path : Int)) = false := by rw [hnp]; simp
          have ha2 := hid (show (true, acc) = (l.take (k + 1)).foldl (stepS nx) (false, []) by rw [hst.out, if_pos hnp, List.append_nil])
          clear hnp hst
          go_wp2_with fail
          have w1 : wr.drew.cell? ⟨w.heap.size, 1, none⟩ = some (.slice (some ⟨b, o, none⟩) l.length c) := e1
          have w3 : wr.drew.cell? ⟨w.heap.size + 1, 0, none⟩ = some (.int .u64 (nx.path : Int)) := e3
          have w0 : wr.drew.cell? ⟨b, o + k * 12, none⟩ = some (.int .u64 (n.path : Int)) := f0
          go_big_region_o
          replace hXU : Hid ((wr.drew).heap[w.heap.size + 3]? = _) := hXU
          replace hX0 : Hid ((wr.drew).heap[w.heap.size]? = _) := hX0
          replace hX1 : Hid ((wr.drew).heap[w.heap.size + 2]? = _) := hX1
          replace hXN : Hid ((wr.drew).heap[w.heap.size + 1]? = _) := hXN
          replace hr : Hid ((wr.drew).rangeAt b (o + k * 12) n.cells.toList) := hr
          replace hown : Hid ((wr.drew).ownsRow _ _ _ _ _ _) := hown
          replace hB : Hid (Below w.heap.size w (wr.drew)) := hid hB.out.drew
          clear e1 e2 e3 f0 w0 w1 w3
          generalize wr.drew = wr at *
          have e1 := block_cell hX0.out 1
          have e2 := block_cell hXU.out 1
          have e3 : wr.cell? ⟨w.heap.size + 1, 0, none⟩ = some (.int .u64 (nx.path : Int)) := block_cell hXN.out 0
          have f0 : wr.cell? ⟨b, o + k * 12, none⟩ = some (.int .u64 (n.path : Int)) := by have := hr.out 0 (.int .u64 (n.path : Int)) (by rw [nod_cells]; rfl); rwa [Nat.add_zero] at this
          go_wp2_with fail
          go_roundw
          case rel => exact ⟨k + 1, m, true, _, acc, by omega, by go_num, rfl, ha2, hXU, hX0, hX1, hXN, hown, hB, hm⟩
          case measure => simp [intOf]; omega
        · have r1 : ((n.path : Int) != (nx.path : Int)) = true := by simp; omega
          have ha2 := hid (show (true, acc ++ [n]) = (l.take (k + 1)).foldl (stepS nx) (false, []) by rw [hst.out, if_neg hnp])
          clear hnp hst
          go_wp2_with fail
          have w1 : wr.drew.cell? ⟨w.heap.size, 1, none⟩ = some (.slice (some ⟨b, o, none⟩) l.length c) := e1
          have w3 : wr.drew.cell? ⟨w.heap.size + 1, 0, none⟩ = some (.int .u64 (nx.path : Int)) := e3
          have w0 : wr.drew.cell? ⟨b, o + k * 12, none⟩ = some (.int .u64 (n.path : Int)) := f0
          go_big_region_o
          replace hXU : Hid ((wr.drew).heap[w.heap.size + 3]? = _) := hXU
          replace hX0 : Hid ((wr.drew).heap[w.heap.size]? = _) := hX0
          replace hX1 : Hid ((wr.drew).heap[w.heap.size + 2]? = _) := hX1
          replace hXN : Hid ((wr.drew).heap[w.heap.size + 1]? = _) := hXN
          replace hr : Hid ((wr.drew).rangeAt b (o + k * 12) n.cells.toList) := hr
          replace hown : Hid ((wr.drew).ownsRow _ _ _ _ _ _) := hown
          replace hB : Hid (Below w.heap.size w (wr.drew)) := hid hB.out.drew
          clear e1 e2 e3 f0 w0 w1 w3
          generalize wr.drew = wr at *
          have e1 := block_cell hX0.out 1
          have e2 := block_cell hXU.out 1
          have e3 : wr.cell? ⟨w.heap.size + 1, 0, none⟩ = some (.int .u64 (nx.path : Int)) := block_cell hXN.out 0
          have f0 : wr.cell? ⟨b, o + k * 12, none⟩ = some (.int .u64 (n.path : Int)) := by have := hr.out 0 (.int .u64 (n.path : Int)) (by rw [nod_cells]; rfl); rwa [Nat.add_zero] at this
          have hD := (Below.refl wr.heap.size wr).drew
          have hA := (Below.refl wr.drew.heap.size wr.drew).alloc (Nat.le_refl _) (.cells #[.int .u64 (n.path : Int), .int .u32 (n.vers : Int), .int .u32 (n.mode : Int), .int .u32 (n.atm : Int), .int .u32 (n.mtm : Int), .string n.name, .string n.uid, .string n.gid, .string n.muid, .int .u64 (n.up : Int), .bool n.gone, .string n.data] 38)
          have hDA : Hid (Below wr.heap.size wr (wr.drew.alloc (.cells #[.int .u64 (n.path : Int), .int .u32 (n.vers : Int), .int .u32 (n.mode : Int), .int .u32 (n.atm : Int), .int .u32 (n.mtm : Int), .string n.name, .string n.uid, .string n.gid, .string n.muid, .int .u64 (n.up : Int), .bool n.gone, .string n.data] 38))) := hid (hD.trans hA)
          have hownA := hid (own_keep hown.out (fun j hj => hDA.out.block j (hown.out.lt j hj).2))
          have hsrc : Hid (RowAt (wr.drew.alloc (.cells #[.int .u64 (n.path : Int), .int .u32 (n.vers : Int), .int .u32 (n.mode : Int), .int .u32 (n.atm : Int), .int .u32 (n.mtm : Int), .string n.name, .string n.uid, .string n.gid, .string n.muid, .int .u64 (n.up : Int), .bool n.gone, .string n.data] 38)) 12 (.slice (some ⟨wr.drew.heap.size, 0, none⟩) 1 1) 1 n.cells.toList) := hid (RowAt.of_block (n := 1) (heap_alloc_new _ _) rfl (by unfold maxLen; omega))
          have hlt2 := lt_of_block hXU.out
          have hXUA := hid ((hDA.out.block _ hlt2).trans hXU.out)
          have hX0A := hid ((hDA.out.block _ (lt_of_block hX0.out)).trans hX0.out)
          have hX1A := hid ((hDA.out.block _ (lt_of_block hX1.out)).trans hX1.out)
          have hXNA := hid ((hDA.out.block _ (lt_of_block hXN.out)).trans hXN.out)
          have hBA := hid (hB.out.trans (hDA.out.mono hB.out.size))
          have hvl := hid hown.out.lt
          have k1 : (wr.drew.alloc (.cells #[.int .u64 (n.path : Int), .int .u32 (n.vers : Int), .int .u32 (n.mode : Int), .int .u32 (n.atm : Int), .int .u32 (n.mtm : Int), .string n.name, .string n.uid, .string n.gid, .string n.muid, .int .u64 (n.up : Int), .bool n.gone, .string n.data] 38)).cell? ⟨w.heap.size + 3, 1, none⟩ = some (.slice oa m oc) := block_cell hXUA.out 1
          have k2 : wr.drew.cell? ⟨w.heap.size + 3, 1, none⟩ = some (.slice oa m oc) := e2
          have k3 : wr.drew.cell? ⟨w.heap.size, 1, none⟩ = some (.slice (some ⟨b, o, none⟩) l.length c) := e1
          have s0 : wr.drew.cell? ⟨b, o + k * 12, none⟩ = some (.int .u64 (n.path : Int)) := f0
          have s1 : wr.drew.cell? ⟨b, o + k * 12 + 1, none⟩ = some (.int .u32 (n.vers : Int)) := hr.out 1 _ (by rw [nod_cells]; rfl)
          have s2 : wr.drew.cell? ⟨b, o + k * 12 + 2, none⟩ = some (.int .u32 (n.mode : Int)) := hr.out 2 _ (by rw [nod_cells]; rfl)
          have s3 : wr.drew.cell? ⟨b, o + k * 12 + 3, none⟩ = some (.int .u32 (n.atm : Int)) := hr.out 3 _ (by rw [nod_cells]; rfl)
          have s4 : wr.drew.cell? ⟨b, o + k * 12 + 4, none⟩ = some (.int .u32 (n.mtm : Int)) := hr.out 4 _ (by rw [nod_cells]; rfl)
          have s5 : wr.drew.cell? ⟨b, o + k * 12 + 5, none⟩ = some (.string n.name) := hr.out 5 _ (by rw [nod_cells]; rfl)
          have s6 : wr.drew.cell? ⟨b, o + k * 12 + 6, none⟩ = some (.string n.uid) := hr.out 6 _ (by rw [nod_cells]; rfl)
          have s7 : wr.drew.cell? ⟨b, o + k * 12 + 7, none⟩ = some (.string n.gid) := hr.out 7 _ (by rw [nod_cells]; rfl)
          have s8 : wr.drew.cell? ⟨b, o + k * 12 + 8, none⟩ = some (.string n.muid) := hr.out 8 _ (by rw [nod_cells]; rfl)
          have s9 : wr.drew.cell? ⟨b, o + k * 12 + 9, none⟩ = some (.int .u64 (n.up : Int)) := hr.out 9 _ (by rw [nod_cells]; rfl)
          have s10 : wr.drew.cell? ⟨b, o + k * 12 + 10, none⟩ = some (.bool n.gone) := hr.out 10 _ (by rw [nod_cells]; rfl)
          have s11 : wr.drew.cell? ⟨b, o + k * 12 + 11, none⟩ = some (.string n.data) := hr.out 11 _ (by rw [nod_cells]; rfl)
          have i1 : (0 : Int) ≤ (k : Int) := by omega
          have i2 : (k : Int) < (l.length : Int) := by omega
          replace hA := hid hA
          replace hD := hid hD
          go_wp2_with fail
          go_region_law (first | (refine step_append_row elemRN _ rfl (.tmp 47) (.tmp 53) rfl (w.heap.size + 4) (.slice oa m oc) m (nodsL acc) rfl hownA.out _ 1 n.cells.toList rfl hsrc.out (by intro u hu; exact (Array.all_eq_true_iff_forall_mem.1 (nod_one n)) u (by simpa using hu)) (by unfold maxLen; omega) (by omega) (by simp; omega) ?_; intro a' c' w' h2 h3; have hbU := (h3.block (w.heap.size + 3) (by simp; omega) (fun e => by have := (hvl.out _ e.symm).1; omega)).trans hXUA.out; have hb0 := (h3.block (w.heap.size) (by simp; omega) (fun e => by have := (hvl.out _ e.symm).1; omega)).trans hX0A.out; have hb1 := (h3.block (w.heap.size + 2) (by simp; omega) (fun e => by have := (hvl.out _ e.symm).1; omega)).trans hX1A.out; have hbN := (h3.block (w.heap.size + 1) (by simp; omega) (fun e => by have := (hvl.out _ e.symm).1; omega)).trans hXNA.out; have y1 : w'.frozen? ⟨w.heap.size + 3, 1, none⟩ = false := block_free hbU 1; have y2 : w'.cell? ⟨w.heap.size + 3, 1, none⟩ = some (.slice oa m oc) := block_cell hbU 1; have nU := hid (block_set hbU 1 (.slice a' (m + 1) c')); have n0 := hid ((block_set_other (p := ⟨w.heap.size + 3, 1, none⟩) (u := .slice a' (m + 1) c') (by show w.heap.size ≠ w.heap.size + 3; omega)).trans hb0); have n1 := hid ((block_set_other (p := ⟨w.heap.size + 3, 1, none⟩) (u := .slice a' (m + 1) c') (by show w.heap.size + 2 ≠ w.heap.size + 3; omega)).trans hb1); have nN := hid ((block_set_other (p := ⟨w.heap.size + 3, 1, none⟩) (u := .slice a' (m + 1) c') (by show w.heap.size + 1 ≠ w.heap.size + 3; omega)).trans hbN); have hown2 := hid (ownsRow_setCell_below h2 (a := ⟨w.heap.size + 3, 1, none⟩) (by show w.heap.size + 3 < w.heap.size + 4; omega) (.slice a' (m + 1) c')); have hB2 := hid ((hBA.out.grown h3 (by simp; omega) (fun j hj => by have := (hvl.out j hj).1; omega)).setCell (a := w) (p := ⟨w.heap.size + 3, 1, none⟩) (by show w.heap.size ≤ w.heap.size + 3; omega) (.slice a' (m + 1) c'))) )
          all_goals
            clear k1 k2 k3 s0 s1 s2 s3 s4 s5 s6 s7 s8 s9 s10 s11 hown hownA hvl hA hD hsrc hBA e1 e2 f0 i1 i2 y1 y2 hXUA hlt2 h2 h3 hbU hX0A hb0 hX1A hb1 hXNA hbN
            go_wp2_with fail
            go_roundw
            case rel => exact ⟨k + 1, m + 1, true, _, acc ++ [n], by omega, by go_num, rfl, ha2, nU, n0, n1, nN, by rw [nodsL_append, show nodsL [n] = n.cells.toList by simp [nodsL]]; exact hown2, hB2, hid (by rw [List.length_append, ← hm.out]; rfl)⟩
            case measure => simp [intOf]; omega
      | false =>
        by_cases hge : nx.path ≤ n.path
        · have hz : (nx.path : Int) ≤ (n.path : Int) := by omega
          replace hst := hid (show (l.take (k + 1)).foldl (stepS nx) (false, []) = (true, (acc ++ [nx]) ++ (if n.path = nx.path then [] else [n])) by
            rw [hst.out, ← hacc.out]; unfold stepS; rw [decide_eq_true hge]; rfl)
          clear hacc hge
          go_wp2_with fail
          have w1 : wr.drew.cell? ⟨w.heap.size, 1, none⟩ = some (.slice (some ⟨b, o, none⟩) l.length c) := e1
          have w3 : wr.drew.cell? ⟨w.heap.size + 1, 0, none⟩ = some (.int .u64 (nx.path : Int)) := e3
          have w0 : wr.drew.cell? ⟨b, o + k * 12, none⟩ = some (.int .u64 (n.path : Int)) := f0
          go_big_region_o
          replace hXU : Hid ((wr.drew).heap[w.heap.size + 3]? = _) := hXU
          replace hX0 : Hid ((wr.drew).heap[w.heap.size]? = _) := hX0
          replace hX1 : Hid ((wr.drew).heap[w.heap.size + 2]? = _) := hX1
          replace hXN : Hid ((wr.drew).heap[w.heap.size + 1]? = _) := hXN
          replace hr : Hid ((wr.drew).rangeAt b (o + k * 12) n.cells.toList) := hr
          replace hown : Hid ((wr.drew).ownsRow _ _ _ _ _ _) := hown
          replace hB : Hid (Below w.heap.size w (wr.drew)) := hid hB.out.drew
          clear e1 e2 e3 f0 w0 w1 w3
          generalize wr.drew = wr at *
          have e1 := block_cell hX0.out 1
          have e2 := block_cell hXU.out 1
          have e3 : wr.cell? ⟨w.heap.size + 1, 0, none⟩ = some (.int .u64 (nx.path : Int)) := block_cell hXN.out 0
          have f0 : wr.cell? ⟨b, o + k * 12, none⟩ = some (.int .u64 (n.path : Int)) := by have := hr.out 0 (.int .u64 (n.path : Int)) (by rw [nod_cells]; rfl); rwa [Nat.add_zero] at this
          have hXn' := hXN.out
          obtain ⟨W5, hW5⟩ : ∃ W, W = wr.alloc (.cells #[.int .u64 (nx.path : Int), .int .u32 (nx.vers : Int), .int .u32 (nx.mode : Int), .int .u32 (nx.atm : Int), .int .u32 (nx.mtm : Int), .string nx.name, .string nx.uid, .string nx.gid, .string nx.muid, .int .u64 (nx.up : Int), .bool nx.gone, .string nx.data] 38) := ⟨_, rfl⟩
          have hn5 := hid (show W5.heap[wr.heap.size]? = some (.cells nx.cells 38 (0, 0)) by rw [hW5, heap_alloc_new]; rfl)
          have hb5 : Below wr.heap.size wr W5 := by rw [hW5]; exact (Below.refl _ _).alloc (Nat.le_refl _) _
          have hown5 := hid (own_below hown.out hb5)
          have hB5 := hid (sn hB.out hb5)
          have hvl := hid hown.out.lt
          have hXU5 := hid ((hb5.block _ (lt_of_block hXU.out)).trans hXU.out)
          have hX05 := hid ((hb5.block _ (lt_of_block hX0.out)).trans hX0.out)
          have hX15 := hid ((hb5.block _ (lt_of_block hX1.out)).trans hX1.out)
          have hXN5 := hid ((hb5.block _ (lt_of_block hXN.out)).trans hXN.out)
          have hs5 := lt_of_block hXU.out
          rw [nod_cells] at hXn'
          go_wp2_with (first
            | (refine wpList_load_row (by rfl) 38 (.tmp 3) (by rfl) (w.heap.size + 1) (by rfl) 38 _ (0, 0) _ hXn' Tryz.underlying38 (by rfl) (by kernel_rfl) ?_)
            | (rw [← hW5]; replace hW5 := hid hW5)
            | (at_builtin; refine wpList_append_row elemRN _ rfl (.tmp 32) (.tmp 34) rfl (w.heap.size + 4) (.slice oa m oc) m (nodsL acc) rfl hown5.out (.slice (some ⟨wr.heap.size, 0, none⟩) 1 1) 1 nx.cells.toList rfl (RowAt.of_block hn5.out rfl (by unfold maxLen; omega)) (by intro u hu; exact (Array.all_eq_true_iff_forall_mem.1 (nod_one nx)) u (by simpa using hu)) (by unfold maxLen; omega) (by omega) (by have := lt_of_block hXU5.out; omega) ?_))
          intro a' c' w' h2 h3
          have kb := fun (n : Nat) (X : Obj) (hn : n < w.heap.size + 4) (h : W5.heap[n]? = some X) => (h3.block n (lt_of_block h) (fun e => by have := (hvl.out _ e.symm).1; omega)).trans h
          have hbU := kb _ _ (by omega) hXU5.out
          have y1 : w'.frozen? ⟨w.heap.size + 3, 1, none⟩ = false := block_free hbU 1
          have y2 : w'.cell? ⟨w.heap.size + 3, 1, none⟩ = some (.slice oa m oc) := block_cell hbU 1
          obtain ⟨Y, hY⟩ : ∃ Y, Y = w'.setCell ⟨w.heap.size + 3, 1, none⟩ (.slice a' (m + 1) c') := ⟨_, rfl⟩
          have nU := hid (show Y.heap[w.heap.size + 3]? = some (.cells #[.int .u64 (x : Int), .slice a' (m + 1) c'] 33 (0, 0)) by rw [hY]; exact block_set hbU 1 _)
          have n0 := hid (show Y.heap[w.heap.size]? = some (.cells #[.int .u64 (x : Int), .slice (some ⟨b, o, none⟩) l.length c] 33 (0, 0)) by rw [hY]; exact (block_set_other (by show w.heap.size ≠ w.heap.size + 3; omega)).trans (kb _ _ (by omega) hX05.out))
          have n1 := hid (show Y.heap[w.heap.size + 2]? = some (.cells #[.int .u64 0, .slice none 0 0] 33 (0, 0)) by rw [hY]; exact (block_set_other (by show w.heap.size + 2 ≠ w.heap.size + 3; omega)).trans (kb _ _ (by omega) hX15.out))
          have nN := hid (show Y.heap[w.heap.size + 1]? = some (.cells nx.cells 38 (0, 0)) by rw [hY]; exact (block_set_other (by show w.heap.size + 1 ≠ w.heap.size + 3; omega)).trans (kb _ _ (by omega) hXN5.out))
          have hown2 := hid (show Y.ownsRow (w.heap.size + 4) 38 12 (.slice a' (m + 1) c') (m + 1) (nodsL (acc ++ [nx])) by
            rw [hY, nodsL_append, show nodsL [nx] = nx.cells.toList by simp [nodsL]]
            exact ownsRow_setCell_below h2 (by show w.heap.size + 3 < w.heap.size + 4; omega) _)
          have hB2 := hid (show Below w.heap.size w Y by rw [hY]; exact (hB5.out.grown h3 hB5.out.size (fun j hj => by have := (hvl.out j hj).1; omega)).setCell (by show w.heap.size ≤ w.heap.size + 3; omega) _)
          have hm2 := hid (show m + 1 = (acc ++ [nx]).length by rw [List.length_append, ← hm.out]; rfl)
          clear h2 h3 hb5 kb hbU
          go_upto_region 8 with (rw [← hY]; replace hY := hid hY)
          try (rw [← hY])
          replace hXU := nU
          replace hX0 := n0
          replace hX1 := n1
          replace hXN := nN
          replace hr : Hid (Y.rangeAt b (o + k * 12) n.cells.toList) := hid (hrf.out Y hB2.out)
          replace hown := hown2
          replace hB := hB2
          replace hm := hm2
          clear e1 e2 e3 f0 y1 y2 n0 n1 nN nU hown2 hB2 hm2 hvl hown5 hB5 hXU5 hX05 hX15 hXN5 hn5 hXn'
          replace hY := hid hY
          generalize acc ++ [nx] = acc at *
          have e1 := block_cell hX0.out 1
          have e2 := block_cell hXU.out 1
          have e3 : Y.cell? ⟨w.heap.size + 1, 0, none⟩ = some (.int .u64 (nx.path : Int)) := block_cell hXN.out 0
          have f0 : Y.cell? ⟨b, o + k * 12, none⟩ = some (.int .u64 (n.path : Int)) := by have := hr.out 0 (.int .u64 (n.path : Int)) (by rw [nod_cells]; rfl); rwa [Nat.add_zero] at this
          have hmk : m + 1 ≤ 2001 := by omega
          generalize m + 1 = m at *
          generalize Y = wr at *
          generalize a' = oa at *
          generalize c' = oc at *
          by_cases hnp : n.path = nx.path
          · have r1 : ((n.path : Int) != (nx.path : Int)) = false := by rw [hnp]; simp
            have ha2 := hid (show (true, acc) = (l.take (k + 1)).foldl (stepS nx) (false, []) by rw [hst.out, if_pos hnp, List.append_nil])
            clear hnp hst
            go_wp2_with fail
            have w1 : wr.drew.cell? ⟨w.heap.size, 1, none⟩ = some (.slice (some ⟨b, o, none⟩) l.length c) := e1
            have w3 : wr.drew.cell? ⟨w.heap.size + 1, 0, none⟩ = some (.int .u64 (nx.path : Int)) := e3
            have w0 : wr.drew.cell? ⟨b, o + k * 12, none⟩ = some (.int .u64 (n.path : Int)) := f0
            go_big_region_o
            replace hXU : Hid ((wr.drew).heap[w.heap.size + 3]? = _) := hXU
            replace hX0 : Hid ((wr.drew).heap[w.heap.size]? = _) := hX0
            replace hX1 : Hid ((wr.drew).heap[w.heap.size + 2]? = _) := hX1
            replace hXN : Hid ((wr.drew).heap[w.heap.size + 1]? = _) := hXN
            replace hr : Hid ((wr.drew).rangeAt b (o + k * 12) n.cells.toList) := hr
            replace hown : Hid ((wr.drew).ownsRow _ _ _ _ _ _) := hown
            replace hB : Hid (Below w.heap.size w (wr.drew)) := hid hB.out.drew
            clear e1 e2 e3 f0 w0 w1 w3
            generalize wr.drew = wr at *
            have e1 := block_cell hX0.out 1
            have e2 := block_cell hXU.out 1
            have e3 : wr.cell? ⟨w.heap.size + 1, 0, none⟩ = some (.int .u64 (nx.path : Int)) := block_cell hXN.out 0
            have f0 : wr.cell? ⟨b, o + k * 12, none⟩ = some (.int .u64 (n.path : Int)) := by have := hr.out 0 (.int .u64 (n.path : Int)) (by rw [nod_cells]; rfl); rwa [Nat.add_zero] at this
            go_wp2_with fail
            go_roundw
            case rel => exact ⟨k + 1, m, true, _, acc, by omega, by go_num, rfl, ha2, hXU, hX0, hX1, hXN, hown, hB, hm⟩
            case measure => simp [intOf]; omega
          · have r1 : ((n.path : Int) != (nx.path : Int)) = true := by simp; omega
            have ha2 := hid (show (true, acc ++ [n]) = (l.take (k + 1)).foldl (stepS nx) (false, []) by rw [hst.out, if_neg hnp])
            clear hnp hst
            go_wp2_with fail
            have w1 : wr.drew.cell? ⟨w.heap.size, 1, none⟩ = some (.slice (some ⟨b, o, none⟩) l.length c) := e1
            have w3 : wr.drew.cell? ⟨w.heap.size + 1, 0, none⟩ = some (.int .u64 (nx.path : Int)) := e3
            have w0 : wr.drew.cell? ⟨b, o + k * 12, none⟩ = some (.int .u64 (n.path : Int)) := f0
            go_big_region_o
            replace hXU : Hid ((wr.drew).heap[w.heap.size + 3]? = _) := hXU
            replace hX0 : Hid ((wr.drew).heap[w.heap.size]? = _) := hX0
            replace hX1 : Hid ((wr.drew).heap[w.heap.size + 2]? = _) := hX1
            replace hXN : Hid ((wr.drew).heap[w.heap.size + 1]? = _) := hXN
            replace hr : Hid ((wr.drew).rangeAt b (o + k * 12) n.cells.toList) := hr
            replace hown : Hid ((wr.drew).ownsRow _ _ _ _ _ _) := hown
            replace hB : Hid (Below w.heap.size w (wr.drew)) := hid hB.out.drew
            clear e1 e2 e3 f0 w0 w1 w3
            generalize wr.drew = wr at *
            have e1 := block_cell hX0.out 1
            have e2 := block_cell hXU.out 1
            have e3 : wr.cell? ⟨w.heap.size + 1, 0, none⟩ = some (.int .u64 (nx.path : Int)) := block_cell hXN.out 0
            have f0 : wr.cell? ⟨b, o + k * 12, none⟩ = some (.int .u64 (n.path : Int)) := by have := hr.out 0 (.int .u64 (n.path : Int)) (by rw [nod_cells]; rfl); rwa [Nat.add_zero] at this
            have hD := (Below.refl wr.heap.size wr).drew
            have hA := (Below.refl wr.drew.heap.size wr.drew).alloc (Nat.le_refl _) (.cells #[.int .u64 (n.path : Int), .int .u32 (n.vers : Int), .int .u32 (n.mode : Int), .int .u32 (n.atm : Int), .int .u32 (n.mtm : Int), .string n.name, .string n.uid, .string n.gid, .string n.muid, .int .u64 (n.up : Int), .bool n.gone, .string n.data] 38)
            have hDA : Hid (Below wr.heap.size wr (wr.drew.alloc (.cells #[.int .u64 (n.path : Int), .int .u32 (n.vers : Int), .int .u32 (n.mode : Int), .int .u32 (n.atm : Int), .int .u32 (n.mtm : Int), .string n.name, .string n.uid, .string n.gid, .string n.muid, .int .u64 (n.up : Int), .bool n.gone, .string n.data] 38))) := hid (hD.trans hA)
            have hownA := hid (own_keep hown.out (fun j hj => hDA.out.block j (hown.out.lt j hj).2))
            have hsrc : Hid (RowAt (wr.drew.alloc (.cells #[.int .u64 (n.path : Int), .int .u32 (n.vers : Int), .int .u32 (n.mode : Int), .int .u32 (n.atm : Int), .int .u32 (n.mtm : Int), .string n.name, .string n.uid, .string n.gid, .string n.muid, .int .u64 (n.up : Int), .bool n.gone, .string n.data] 38)) 12 (.slice (some ⟨wr.drew.heap.size, 0, none⟩) 1 1) 1 n.cells.toList) := hid (RowAt.of_block (n := 1) (heap_alloc_new _ _) rfl (by unfold maxLen; omega))
            have hlt2 := lt_of_block hXU.out
            have hXUA := hid ((hDA.out.block _ hlt2).trans hXU.out)
            have hX0A := hid ((hDA.out.block _ (lt_of_block hX0.out)).trans hX0.out)
            have hX1A := hid ((hDA.out.block _ (lt_of_block hX1.out)).trans hX1.out)
            have hXNA := hid ((hDA.out.block _ (lt_of_block hXN.out)).trans hXN.out)
            have hBA := hid (hB.out.trans (hDA.out.mono hB.out.size))
            have hvl := hid hown.out.lt
            have k1 : (wr.drew.alloc (.cells #[.int .u64 (n.path : Int), .int .u32 (n.vers : Int), .int .u32 (n.mode : Int), .int .u32 (n.atm : Int), .int .u32 (n.mtm : Int), .string n.name, .string n.uid, .string n.gid, .string n.muid, .int .u64 (n.up : Int), .bool n.gone, .string n.data] 38)).cell? ⟨w.heap.size + 3, 1, none⟩ = some (.slice oa m oc) := block_cell hXUA.out 1
            have k2 : wr.drew.cell? ⟨w.heap.size + 3, 1, none⟩ = some (.slice oa m oc) := e2
            have k3 : wr.drew.cell? ⟨w.heap.size, 1, none⟩ = some (.slice (some ⟨b, o, none⟩) l.length c) := e1
            have s0 : wr.drew.cell? ⟨b, o + k * 12, none⟩ = some (.int .u64 (n.path : Int)) := f0
            have s1 : wr.drew.cell? ⟨b, o + k * 12 + 1, none⟩ = some (.int .u32 (n.vers : Int)) := hr.out 1 _ (by rw [nod_cells]; rfl)
            have s2 : wr.drew.cell? ⟨b, o + k * 12 + 2, none⟩ = some (.int .u32 (n.mode : Int)) := hr.out 2 _ (by rw [nod_cells]; rfl)
            have s3 : wr.drew.cell? ⟨b, o + k * 12 + 3, none⟩ = some (.int .u32 (n.atm : Int)) := hr.out 3 _ (by rw [nod_cells]; rfl)
            have s4 : wr.drew.cell? ⟨b, o + k * 12 + 4, none⟩ = some (.int .u32 (n.mtm : Int)) := hr.out 4 _ (by rw [nod_cells]; rfl)
            have s5 : wr.drew.cell? ⟨b, o + k * 12 + 5, none⟩ = some (.string n.name) := hr.out 5 _ (by rw [nod_cells]; rfl)
            have s6 : wr.drew.cell? ⟨b, o + k * 12 + 6, none⟩ = some (.string n.uid) := hr.out 6 _ (by rw [nod_cells]; rfl)
            have s7 : wr.drew.cell? ⟨b, o + k * 12 + 7, none⟩ = some (.string n.gid) := hr.out 7 _ (by rw [nod_cells]; rfl)
            have s8 : wr.drew.cell? ⟨b, o + k * 12 + 8, none⟩ = some (.string n.muid) := hr.out 8 _ (by rw [nod_cells]; rfl)
            have s9 : wr.drew.cell? ⟨b, o + k * 12 + 9, none⟩ = some (.int .u64 (n.up : Int)) := hr.out 9 _ (by rw [nod_cells]; rfl)
            have s10 : wr.drew.cell? ⟨b, o + k * 12 + 10, none⟩ = some (.bool n.gone) := hr.out 10 _ (by rw [nod_cells]; rfl)
            have s11 : wr.drew.cell? ⟨b, o + k * 12 + 11, none⟩ = some (.string n.data) := hr.out 11 _ (by rw [nod_cells]; rfl)
            have i1 : (0 : Int) ≤ (k : Int) := by omega
            have i2 : (k : Int) < (l.length : Int) := by omega
            replace hA := hid hA
            replace hD := hid hD
            go_wp2_with fail
            go_region_law (first | (refine step_append_row elemRN _ rfl (.tmp 47) (.tmp 53) rfl (w.heap.size + 4) (.slice oa m oc) m (nodsL acc) rfl hownA.out _ 1 n.cells.toList rfl hsrc.out (by intro u hu; exact (Array.all_eq_true_iff_forall_mem.1 (nod_one n)) u (by simpa using hu)) (by unfold maxLen; omega) (by omega) (by simp; omega) ?_; intro a' c' w' h2 h3; have hbU := (h3.block (w.heap.size + 3) (by simp; omega) (fun e => by have := (hvl.out _ e.symm).1; omega)).trans hXUA.out; have hb0 := (h3.block (w.heap.size) (by simp; omega) (fun e => by have := (hvl.out _ e.symm).1; omega)).trans hX0A.out; have hb1 := (h3.block (w.heap.size + 2) (by simp; omega) (fun e => by have := (hvl.out _ e.symm).1; omega)).trans hX1A.out; have hbN := (h3.block (w.heap.size + 1) (by simp; omega) (fun e => by have := (hvl.out _ e.symm).1; omega)).trans hXNA.out; have y1 : w'.frozen? ⟨w.heap.size + 3, 1, none⟩ = false := block_free hbU 1; have y2 : w'.cell? ⟨w.heap.size + 3, 1, none⟩ = some (.slice oa m oc) := block_cell hbU 1; have nU := hid (block_set hbU 1 (.slice a' (m + 1) c')); have n0 := hid ((block_set_other (p := ⟨w.heap.size + 3, 1, none⟩) (u := .slice a' (m + 1) c') (by show w.heap.size ≠ w.heap.size + 3; omega)).trans hb0); have n1 := hid ((block_set_other (p := ⟨w.heap.size + 3, 1, none⟩) (u := .slice a' (m + 1) c') (by show w.heap.size + 2 ≠ w.heap.size + 3; omega)).trans hb1); have nN := hid ((block_set_other (p := ⟨w.heap.size + 3, 1, none⟩) (u := .slice a' (m + 1) c') (by show w.heap.size + 1 ≠ w.heap.size + 3; omega)).trans hbN); have hown2 := hid (ownsRow_setCell_below h2 (a := ⟨w.heap.size + 3, 1, none⟩) (by show w.heap.size + 3 < w.heap.size + 4; omega) (.slice a' (m + 1) c')); have hB2 := hid ((hBA.out.grown h3 (by simp; omega) (fun j hj => by have := (hvl.out j hj).1; omega)).setCell (a := w) (p := ⟨w.heap.size + 3, 1, none⟩) (by show w.heap.size ≤ w.heap.size + 3; omega) (.slice a' (m + 1) c'))) )
            all_goals
              clear k1 k2 k3 s0 s1 s2 s3 s4 s5 s6 s7 s8 s9 s10 s11 hown hownA hvl hA hD hsrc hBA e1 e2 f0 i1 i2 y1 y2 hXUA hlt2 h2 h3 hbU hX0A hb0 hX1A hb1 hXNA hbN
              go_wp2_with fail
              go_roundw
              case rel => exact ⟨k + 1, m + 1, true, _, acc ++ [n], by omega, by go_num, rfl, ha2, nU, n0, n1, nN, by rw [nodsL_append, show nodsL [n] = n.cells.toList by simp [nodsL]]; exact hown2, hB2, hid (by rw [List.length_append, ← hm.out]; rfl)⟩
              case measure => simp [intOf]; omega
        · have hz : ¬ (nx.path : Int) ≤ (n.path : Int) := by omega
          replace hst := hid (show (l.take (k + 1)).foldl (stepS nx) (false, []) = (false, acc ++ (if n.path = nx.path then [] else [n])) by
            rw [hst.out, ← hacc.out]; unfold stepS; rw [decide_eq_false hge]; rfl)
          clear hacc hge
          go_wp2_with fail
          have w1 : wr.drew.cell? ⟨w.heap.size, 1, none⟩ = some (.slice (some ⟨b, o, none⟩) l.length c) := e1
          have w3 : wr.drew.cell? ⟨w.heap.size + 1, 0, none⟩ = some (.int .u64 (nx.path : Int)) := e3
          have w0 : wr.drew.cell? ⟨b, o + k * 12, none⟩ = some (.int .u64 (n.path : Int)) := f0
          go_big_region_o
          replace hXU : Hid ((wr.drew).heap[w.heap.size + 3]? = _) := hXU
          replace hX0 : Hid ((wr.drew).heap[w.heap.size]? = _) := hX0
          replace hX1 : Hid ((wr.drew).heap[w.heap.size + 2]? = _) := hX1
          replace hXN : Hid ((wr.drew).heap[w.heap.size + 1]? = _) := hXN
          replace hr : Hid ((wr.drew).rangeAt b (o + k * 12) n.cells.toList) := hr
          replace hown : Hid ((wr.drew).ownsRow _ _ _ _ _ _) := hown
          replace hB : Hid (Below w.heap.size w (wr.drew)) := hid hB.out.drew
          clear e1 e2 e3 f0 w0 w1 w3
          generalize wr.drew = wr at *
          have e1 := block_cell hX0.out 1
          have e2 := block_cell hXU.out 1
          have e3 : wr.cell? ⟨w.heap.size + 1, 0, none⟩ = some (.int .u64 (nx.path : Int)) := block_cell hXN.out 0
          have f0 : wr.cell? ⟨b, o + k * 12, none⟩ = some (.int .u64 (n.path : Int)) := by have := hr.out 0 (.int .u64 (n.path : Int)) (by rw [nod_cells]; rfl); rwa [Nat.add_zero] at this
          by_cases hnp : n.path = nx.path
          · have r1 : ((n.path : Int) != (nx.path : Int)) = false := by rw [hnp]; simp
            have ha2 := hid (show (false, acc) = (l.take (k + 1)).foldl (stepS nx) (false, []) by rw [hst.out, if_pos hnp, List.append_nil])
            clear hnp hst
            go_wp2_with fail
            have w1 : wr.drew.cell? ⟨w.heap.size, 1, none⟩ = some (.slice (some ⟨b, o, none⟩) l.length c) := e1
            have w3 : wr.drew.cell? ⟨w.heap.size + 1, 0, none⟩ = some (.int .u64 (nx.path : Int)) := e3
            have w0 : wr.drew.cell? ⟨b, o + k * 12, none⟩ = some (.int .u64 (n.path : Int)) := f0
            go_big_region_o
            replace hXU : Hid ((wr.drew).heap[w.heap.size + 3]? = _) := hXU
            replace hX0 : Hid ((wr.drew).heap[w.heap.size]? = _) := hX0
            replace hX1 : Hid ((wr.drew).heap[w.heap.size + 2]? = _) := hX1
            replace hXN : Hid ((wr.drew).heap[w.heap.size + 1]? = _) := hXN
            replace hr : Hid ((wr.drew).rangeAt b (o + k * 12) n.cells.toList) := hr
            replace hown : Hid ((wr.drew).ownsRow _ _ _ _ _ _) := hown
            replace hB : Hid (Below w.heap.size w (wr.drew)) := hid hB.out.drew
            clear e1 e2 e3 f0 w0 w1 w3
            generalize wr.drew = wr at *
            have e1 := block_cell hX0.out 1
            have e2 := block_cell hXU.out 1
            have e3 : wr.cell? ⟨w.heap.size + 1, 0, none⟩ = some (.int .u64 (nx.path : Int)) := block_cell hXN.out 0
            have f0 : wr.cell? ⟨b, o + k * 12, none⟩ = some (.int .u64 (n.path : Int)) := by have := hr.out 0 (.int .u64 (n.path : Int)) (by rw [nod_cells]; rfl); rwa [Nat.add_zero] at this
            go_wp2_with fail
            go_roundw
            case rel => exact ⟨k + 1, m, false, _, acc, by omega, by go_num, rfl, ha2, hXU, hX0, hX1, hXN, hown, hB, hm⟩
            case measure => simp [intOf]; omega
          · have r1 : ((n.path : Int) != (nx.path : Int)) = true := by simp; omega
            have ha2 := hid (show (false, acc ++ [n]) = (l.take (k + 1)).foldl (stepS nx) (false, []) by rw [hst.out, if_neg hnp])
            clear hnp hst
            go_wp2_with fail
            have w1 : wr.drew.cell? ⟨w.heap.size, 1, none⟩ = some (.slice (some ⟨b, o, none⟩) l.length c) := e1
            have w3 : wr.drew.cell? ⟨w.heap.size + 1, 0, none⟩ = some (.int .u64 (nx.path : Int)) := e3
            have w0 : wr.drew.cell? ⟨b, o + k * 12, none⟩ = some (.int .u64 (n.path : Int)) := f0
            go_big_region_o
            replace hXU : Hid ((wr.drew).heap[w.heap.size + 3]? = _) := hXU
            replace hX0 : Hid ((wr.drew).heap[w.heap.size]? = _) := hX0
            replace hX1 : Hid ((wr.drew).heap[w.heap.size + 2]? = _) := hX1
            replace hXN : Hid ((wr.drew).heap[w.heap.size + 1]? = _) := hXN
            replace hr : Hid ((wr.drew).rangeAt b (o + k * 12) n.cells.toList) := hr
            replace hown : Hid ((wr.drew).ownsRow _ _ _ _ _ _) := hown
            replace hB : Hid (Below w.heap.size w (wr.drew)) := hid hB.out.drew
            clear e1 e2 e3 f0 w0 w1 w3
            generalize wr.drew = wr at *
            have e1 := block_cell hX0.out 1
            have e2 := block_cell hXU.out 1
            have e3 : wr.cell? ⟨w.heap.size + 1, 0, none⟩ = some (.int .u64 (nx.path : Int)) := block_cell hXN.out 0
            have f0 : wr.cell? ⟨b, o + k * 12, none⟩ = some (.int .u64 (n.path : Int)) := by have := hr.out 0 (.int .u64 (n.path : Int)) (by rw [nod_cells]; rfl); rwa [Nat.add_zero] at this
            have hD := (Below.refl wr.heap.size wr).drew
            have hA := (Below.refl wr.drew.heap.size wr.drew).alloc (Nat.le_refl _) (.cells #[.int .u64 (n.path : Int), .int .u32 (n.vers : Int), .int .u32 (n.mode : Int), .int .u32 (n.atm : Int), .int .u32 (n.mtm : Int), .string n.name, .string n.uid, .string n.gid, .string n.muid, .int .u64 (n.up : Int), .bool n.gone, .string n.data] 38)
            have hDA : Hid (Below wr.heap.size wr (wr.drew.alloc (.cells #[.int .u64 (n.path : Int), .int .u32 (n.vers : Int), .int .u32 (n.mode : Int), .int .u32 (n.atm : Int), .int .u32 (n.mtm : Int), .string n.name, .string n.uid, .string n.gid, .string n.muid, .int .u64 (n.up : Int), .bool n.gone, .string n.data] 38))) := hid (hD.trans hA)
            have hownA := hid (own_keep hown.out (fun j hj => hDA.out.block j (hown.out.lt j hj).2))
            have hsrc : Hid (RowAt (wr.drew.alloc (.cells #[.int .u64 (n.path : Int), .int .u32 (n.vers : Int), .int .u32 (n.mode : Int), .int .u32 (n.atm : Int), .int .u32 (n.mtm : Int), .string n.name, .string n.uid, .string n.gid, .string n.muid, .int .u64 (n.up : Int), .bool n.gone, .string n.data] 38)) 12 (.slice (some ⟨wr.drew.heap.size, 0, none⟩) 1 1) 1 n.cells.toList) := hid (RowAt.of_block (n := 1) (heap_alloc_new _ _) rfl (by unfold maxLen; omega))
            have hlt2 := lt_of_block hXU.out
            have hXUA := hid ((hDA.out.block _ hlt2).trans hXU.out)
            have hX0A := hid ((hDA.out.block _ (lt_of_block hX0.out)).trans hX0.out)
            have hX1A := hid ((hDA.out.block _ (lt_of_block hX1.out)).trans hX1.out)
            have hXNA := hid ((hDA.out.block _ (lt_of_block hXN.out)).trans hXN.out)
            have hBA := hid (hB.out.trans (hDA.out.mono hB.out.size))
            have hvl := hid hown.out.lt
            have k1 : (wr.drew.alloc (.cells #[.int .u64 (n.path : Int), .int .u32 (n.vers : Int), .int .u32 (n.mode : Int), .int .u32 (n.atm : Int), .int .u32 (n.mtm : Int), .string n.name, .string n.uid, .string n.gid, .string n.muid, .int .u64 (n.up : Int), .bool n.gone, .string n.data] 38)).cell? ⟨w.heap.size + 3, 1, none⟩ = some (.slice oa m oc) := block_cell hXUA.out 1
            have k2 : wr.drew.cell? ⟨w.heap.size + 3, 1, none⟩ = some (.slice oa m oc) := e2
            have k3 : wr.drew.cell? ⟨w.heap.size, 1, none⟩ = some (.slice (some ⟨b, o, none⟩) l.length c) := e1
            have s0 : wr.drew.cell? ⟨b, o + k * 12, none⟩ = some (.int .u64 (n.path : Int)) := f0
            have s1 : wr.drew.cell? ⟨b, o + k * 12 + 1, none⟩ = some (.int .u32 (n.vers : Int)) := hr.out 1 _ (by rw [nod_cells]; rfl)
            have s2 : wr.drew.cell? ⟨b, o + k * 12 + 2, none⟩ = some (.int .u32 (n.mode : Int)) := hr.out 2 _ (by rw [nod_cells]; rfl)
            have s3 : wr.drew.cell? ⟨b, o + k * 12 + 3, none⟩ = some (.int .u32 (n.atm : Int)) := hr.out 3 _ (by rw [nod_cells]; rfl)
            have s4 : wr.drew.cell? ⟨b, o + k * 12 + 4, none⟩ = some (.int .u32 (n.mtm : Int)) := hr.out 4 _ (by rw [nod_cells]; rfl)
            have s5 : wr.drew.cell? ⟨b, o + k * 12 + 5, none⟩ = some (.string n.name) := hr.out 5 _ (by rw [nod_cells]; rfl)
            have s6 : wr.drew.cell? ⟨b, o + k * 12 + 6, none⟩ = some (.string n.uid) := hr.out 6 _ (by rw [nod_cells]; rfl)
            have s7 : wr.drew.cell? ⟨b, o + k * 12 + 7, none⟩ = some (.string n.gid) := hr.out 7 _ (by rw [nod_cells]; rfl)
            have s8 : wr.drew.cell? ⟨b, o + k * 12 + 8, none⟩ = some (.string n.muid) := hr.out 8 _ (by rw [nod_cells]; rfl)
            have s9 : wr.drew.cell? ⟨b, o + k * 12 + 9, none⟩ = some (.int .u64 (n.up : Int)) := hr.out 9 _ (by rw [nod_cells]; rfl)
            have s10 : wr.drew.cell? ⟨b, o + k * 12 + 10, none⟩ = some (.bool n.gone) := hr.out 10 _ (by rw [nod_cells]; rfl)
            have s11 : wr.drew.cell? ⟨b, o + k * 12 + 11, none⟩ = some (.string n.data) := hr.out 11 _ (by rw [nod_cells]; rfl)
            have i1 : (0 : Int) ≤ (k : Int) := by omega
            have i2 : (k : Int) < (l.length : Int) := by omega
            replace hA := hid hA
            replace hD := hid hD
            go_wp2_with fail
            go_region_law (first | (refine step_append_row elemRN _ rfl (.tmp 47) (.tmp 53) rfl (w.heap.size + 4) (.slice oa m oc) m (nodsL acc) rfl hownA.out _ 1 n.cells.toList rfl hsrc.out (by intro u hu; exact (Array.all_eq_true_iff_forall_mem.1 (nod_one n)) u (by simpa using hu)) (by unfold maxLen; omega) (by omega) (by simp; omega) ?_; intro a' c' w' h2 h3; have hbU := (h3.block (w.heap.size + 3) (by simp; omega) (fun e => by have := (hvl.out _ e.symm).1; omega)).trans hXUA.out; have hb0 := (h3.block (w.heap.size) (by simp; omega) (fun e => by have := (hvl.out _ e.symm).1; omega)).trans hX0A.out; have hb1 := (h3.block (w.heap.size + 2) (by simp; omega) (fun e => by have := (hvl.out _ e.symm).1; omega)).trans hX1A.out; have hbN := (h3.block (w.heap.size + 1) (by simp; omega) (fun e => by have := (hvl.out _ e.symm).1; omega)).trans hXNA.out; have y1 : w'.frozen? ⟨w.heap.size + 3, 1, none⟩ = false := block_free hbU 1; have y2 : w'.cell? ⟨w.heap.size + 3, 1, none⟩ = some (.slice oa m oc) := block_cell hbU 1; have nU := hid (block_set hbU 1 (.slice a' (m + 1) c')); have n0 := hid ((block_set_other (p := ⟨w.heap.size + 3, 1, none⟩) (u := .slice a' (m + 1) c') (by show w.heap.size ≠ w.heap.size + 3; omega)).trans hb0); have n1 := hid ((block_set_other (p := ⟨w.heap.size + 3, 1, none⟩) (u := .slice a' (m + 1) c') (by show w.heap.size + 2 ≠ w.heap.size + 3; omega)).trans hb1); have nN := hid ((block_set_other (p := ⟨w.heap.size + 3, 1, none⟩) (u := .slice a' (m + 1) c') (by show w.heap.size + 1 ≠ w.heap.size + 3; omega)).trans hbN); have hown2 := hid (ownsRow_setCell_below h2 (a := ⟨w.heap.size + 3, 1, none⟩) (by show w.heap.size + 3 < w.heap.size + 4; omega) (.slice a' (m + 1) c')); have hB2 := hid ((hBA.out.grown h3 (by simp; omega) (fun j hj => by have := (hvl.out j hj).1; omega)).setCell (a := w) (p := ⟨w.heap.size + 3, 1, none⟩) (by show w.heap.size ≤ w.heap.size + 3; omega) (.slice a' (m + 1) c'))) )
            all_goals
              clear k1 k2 k3 s0 s1 s2 s3 s4 s5 s6 s7 s8 s9 s10 s11 hown hownA hvl hA hD hsrc hBA e1 e2 f0 i1 i2 y1 y2 hXUA hlt2 h2 h3 hbU hX0A hb0 hX1A hb1 hXNA hbN
              go_wp2_with fail
              go_roundw
              case rel => exact ⟨k + 1, m + 1, false, _, acc ++ [n], by omega, by go_num, rfl, ha2, nU, n0, n1, nN, by rw [nodsL_append, show nodsL [n] = n.cells.toList by simp [nodsL]]; exact hown2, hB2, hid (by rw [List.length_append, ← hm.out]; rfl)⟩
              case measure => simp [intOf]; omega
    · obtain rfl : k = l.length := by omega
      have hacc2 := hacc.out
      rw [List.take_length] at hacc2
      cases put with
      | true =>
        replace hacc2 := hid (show acc = setR l nx by unfold setR; rw [← hacc2]; rfl)
        have y0 := block_cell hXU.out 0
        have y1 := block_cell hXU.out 1
        have hzz := hid (setRow_heap wr (w.heap.size + 2) #[.int .u64 0, .slice none 0 0] #[.int .u64 (x : Int), .slice oa m oc] _ _ hX1.out)
        have hBz := hid (below_setRow (g := w.heap.size + 2) hB.out (by omega) #[.int .u64 (x : Int), .slice oa m oc])
        have hF := hid (fun j hj => (hown.out.lt j hj).1)
        have hN := hid (NodsAt.other (w' := wr.setRow (w.heap.size + 2) #[.int .u64 (x : Int), .slice oa m oc]) (NodsAt.of_own hown.out) (w.heap.size + 2) (fun e => by have := hF.out _ e; omega) (by simp) (fun k hk => setRow_other _ _ _ _ hk))
        go_wp2_with (refine wpList_store_row (by rfl) 33 (.tmp 4) (.tmp 64) (by rfl) (w.heap.size + 2) #[.int .u64 (x : Int), .slice oa m oc] (by rfl) (by rfl) 33 _ hX1.out (by kernel_rfl) (by kernel_rfl) (by kernel_rfl) ?_)
        refine bodyPost_ret (results_cell_row rfl _ _ (w.heap.size + 2) _ _ _ _ rfl hzz.out Tryz.underlying33 (by rfl) (by kernel_rfl)) rfl ?_
        exact ⟨.slice oa m oc, rfl, by rw [← hacc2.out]; exact hN.out, fun k hk => by have := hF.out k hk; omega, hBz.out⟩
      | false =>
        replace hacc2 := hid (show acc ++ [nx] = setR l nx by unfold setR; rw [← hacc2]; rfl)
        have hXn' := hXN.out
        obtain ⟨W5, hW5⟩ : ∃ W, W = wr.alloc (.cells #[.int .u64 (nx.path : Int), .int .u32 (nx.vers : Int), .int .u32 (nx.mode : Int), .int .u32 (nx.atm : Int), .int .u32 (nx.mtm : Int), .string nx.name, .string nx.uid, .string nx.gid, .string nx.muid, .int .u64 (nx.up : Int), .bool nx.gone, .string nx.data] 38) := ⟨_, rfl⟩
        have hn5 := hid (show W5.heap[wr.heap.size]? = some (.cells nx.cells 38 (0, 0)) by rw [hW5, heap_alloc_new]; rfl)
        have hb5 : Below wr.heap.size wr W5 := by rw [hW5]; exact (Below.refl _ _).alloc (Nat.le_refl _) _
        have hown5 := hid (own_below hown.out hb5)
        have hB5 := hid (sn hB.out hb5)
        have hvl := hid hown.out.lt
        have hXU5 := hid ((hb5.block _ (lt_of_block hXU.out)).trans hXU.out)
        have hX05 := hid ((hb5.block _ (lt_of_block hX0.out)).trans hX0.out)
        have hX15 := hid ((hb5.block _ (lt_of_block hX1.out)).trans hX1.out)
        have hXN5 := hid ((hb5.block _ (lt_of_block hXN.out)).trans hXN.out)
        have hs5 := lt_of_block hXU.out
        rw [nod_cells] at hXn'
        go_wp2_with (first
          | (refine wpList_load_row (by rfl) 38 (.tmp 3) (by rfl) (w.heap.size + 1) (by rfl) 38 _ (0, 0) _ hXn' Tryz.underlying38 (by rfl) (by kernel_rfl) ?_)
          | (rw [← hW5]; replace hW5 := hid hW5)
          | (at_builtin; refine wpList_append_row elemRN _ rfl (.tmp 59) (.tmp 61) rfl (w.heap.size + 4) (.slice oa m oc) m (nodsL acc) rfl hown5.out (.slice (some ⟨wr.heap.size, 0, none⟩) 1 1) 1 nx.cells.toList rfl (RowAt.of_block hn5.out rfl (by unfold maxLen; omega)) (by intro u hu; exact (Array.all_eq_true_iff_forall_mem.1 (nod_one nx)) u (by simpa using hu)) (by unfold maxLen; omega) (by omega) (by have := lt_of_block hXU5.out; omega) ?_))
        intro a' c' w' h2 h3
        have kb := fun (n : Nat) (X : Obj) (hn : n < w.heap.size + 4) (h : W5.heap[n]? = some X) => (h3.block n (lt_of_block h) (fun e => by have := (hvl.out _ e.symm).1; omega)).trans h
        have hbU := kb _ _ (by omega) hXU5.out
        have y1 : w'.frozen? ⟨w.heap.size + 3, 1, none⟩ = false := block_free hbU 1
        have y2 : w'.cell? ⟨w.heap.size + 3, 1, none⟩ = some (.slice oa m oc) := block_cell hbU 1
        obtain ⟨Y, hY⟩ : ∃ Y, Y = w'.setCell ⟨w.heap.size + 3, 1, none⟩ (.slice a' (m + 1) c') := ⟨_, rfl⟩
        have nU := hid (show Y.heap[w.heap.size + 3]? = some (.cells #[.int .u64 (x : Int), .slice a' (m + 1) c'] 33 (0, 0)) by rw [hY]; exact block_set hbU 1 _)
        have n0 := hid (show Y.heap[w.heap.size]? = some (.cells #[.int .u64 (x : Int), .slice a l.length c] 33 (0, 0)) by rw [hY]; exact (block_set_other (by show w.heap.size ≠ w.heap.size + 3; omega)).trans (kb _ _ (by omega) hX05.out))
        have n1 := hid (show Y.heap[w.heap.size + 2]? = some (.cells #[.int .u64 0, .slice none 0 0] 33 (0, 0)) by rw [hY]; exact (block_set_other (by show w.heap.size + 2 ≠ w.heap.size + 3; omega)).trans (kb _ _ (by omega) hX15.out))
        have nN := hid (show Y.heap[w.heap.size + 1]? = some (.cells nx.cells 38 (0, 0)) by rw [hY]; exact (block_set_other (by show w.heap.size + 1 ≠ w.heap.size + 3; omega)).trans (kb _ _ (by omega) hXN5.out))
        have hown2 := hid (show Y.ownsRow (w.heap.size + 4) 38 12 (.slice a' (m + 1) c') (m + 1) (nodsL (acc ++ [nx])) by
          rw [hY, nodsL_append, show nodsL [nx] = nx.cells.toList by simp [nodsL]]
          exact ownsRow_setCell_below h2 (by show w.heap.size + 3 < w.heap.size + 4; omega) _)
        have hB2 := hid (show Below w.heap.size w Y by rw [hY]; exact (hB5.out.grown h3 hB5.out.size (fun j hj => by have := (hvl.out j hj).1; omega)).setCell (by show w.heap.size ≤ w.heap.size + 3; omega) _)
        have hm2 := hid (show m + 1 = (acc ++ [nx]).length by rw [List.length_append, ← hm.out]; rfl)
        clear h2 h3 hb5 kb hbU
        go_upto_region 13 with (rw [← hY]; replace hY := hid hY)
        try (rw [← hY])
        replace hXU := nU
        replace hX1 := n1
        replace hown := hown2
        replace hB := hB2
        clear y1 y2
        replace hY := hid hY
        have y0 := block_cell hXU.out 0
        have y1 := block_cell hXU.out 1
        have hzz := hid (setRow_heap Y (w.heap.size + 2) #[.int .u64 0, .slice none 0 0] #[.int .u64 (x : Int), .slice a' (m + 1) c'] _ _ hX1.out)
        have hBz := hid (below_setRow (g := w.heap.size + 2) hB.out (by omega) #[.int .u64 (x : Int), .slice a' (m + 1) c'])
        have hF := hid (fun j hj => (hown.out.lt j hj).1)
        have hN := hid (NodsAt.other (w' := Y.setRow (w.heap.size + 2) #[.int .u64 (x : Int), .slice a' (m + 1) c']) (NodsAt.of_own hown.out) (w.heap.size + 2) (fun e => by have := hF.out _ e; omega) (by simp) (fun k hk => setRow_other _ _ _ _ hk))
        go_wp2_with (refine wpList_store_row (by rfl) 33 (.tmp 4) (.tmp 64) (by rfl) (w.heap.size + 2) #[.int .u64 (x : Int), .slice a' (m + 1) c'] (by rfl) (by rfl) 33 _ hX1.out (by kernel_rfl) (by kernel_rfl) (by kernel_rfl) ?_)
        refine bodyPost_ret (results_cell_row rfl _ _ (w.heap.size + 2) _ _ _ _ rfl hzz.out Tryz.underlying33 (by rfl) (by kernel_rfl)) rfl ?_
        exact ⟨.slice a' (m + 1) c', rfl, by rw [← hacc2.out]; exact hN.out, fun k hk => by have := hF.out k hk; omega, hBz.out⟩
end
end Go.Proofs.YtpmlhmficmillaaGreat

namespace Go.Proofs.YtpmlhmficmillaaGreat
section
open Go.RowKit
set_option maxRecDepth 100000
set_option linter.unusedVariables false

set_option maxHeartbeats 6400000 in
theorem of14_any (v : Value) (x : Nat) (l : List Nod) (w : World) (hv : NodsAt w v l) (hl : l.length ≤ 1000) :
    Calls Tryz.prog 10 #[.agg #[.int .u64 (x : Int), v]] w (SetPost w x l) := by
  obtain ⟨a, c, rfl, g1, g2⟩ := hv.form
  unfold maxLen at g2
  obtain ⟨W, hW⟩ : ∃ W, W = ((w.alloc (.cells #[.int .u64 (x : Int), .slice a l.length c] 25)).alloc (.cells #[.int .u64 0, .slice none 0 0] 33)).alloc (.cells #[.int .u64 (x : Int), .slice none 0 0] 33) := ⟨_, rfl⟩
  have hb0 : Below w.heap.size w W := by rw [hW]; exact (((Below.refl w.heap.size w).alloc (Nat.le_refl _) _).alloc (by simp) _).alloc (by simp; omega) _
  have hX0 := hid (show W.heap[w.heap.size]? = some (.cells #[.int .u64 (x : Int), .slice a l.length c] 25 (0, 0)) by rw [hW, heap_alloc_old _ _ (by simp; omega), heap_alloc_old _ _ (by simp), heap_alloc_new])
  have hX1 := hid (show W.heap[w.heap.size + 1]? = some (.cells #[.int .u64 0, .slice none 0 0] 33 (0, 0)) by rw [hW, heap_alloc_old _ _ (by simp)]; exact heap2 _ _ _)
  have hXU := hid (show W.heap[w.heap.size + 2]? = some (.cells #[.int .u64 (x : Int), .slice none 0 0] 33 (0, 0)) by
    rw [hW]
    have := heap_alloc_new ((w.alloc (.cells #[.int .u64 (x : Int), .slice a l.length c] 25)).alloc (.cells #[.int .u64 0, .slice none 0 0] 33)) (.cells #[.int .u64 (x : Int), .slice none 0 0] 33)
    simpa using this)
  replace hv := hid hv
  replace hb0 := hid hb0
  go_enter Tryz.func10, Tryz.ntmps10
  go_wp2_with (rw [← hW]; replace hW := hid hW)
  try (rw [← hW]; replace hW := hid hW)
  go_loopw [4] (fun kv wr => ∃ (k m : Nat) (ov : Value) (acc : List Nod), k ≤ l.length ∧ kv = .int .i64 (k : Int) ∧ Hid (acc = l.take k) ∧ Hid (wr.heap[w.heap.size + 2]? = some (.cells #[.int .u64 (x : Int), ov] 33 (0, 0))) ∧ Hid (wr.heap[w.heap.size]? = some (.cells #[.int .u64 (x : Int), .slice a l.length c] 25 (0, 0))) ∧ Hid (wr.heap[w.heap.size + 1]? = some (.cells #[.int .u64 0, .slice none 0 0] 33 (0, 0))) ∧ Hid (wr.ownsRow (w.heap.size + 3) 38 12 ov m (nodsL acc)) ∧ Hid (Below w.heap.size w wr) ∧ Hid (m = acc.length)) (fun kv _ => l.length - (intOf kv).toNat)
  case atStart => exact ⟨0, 0, .slice none 0 0, [], by omega, rfl, hid rfl, hXU, hX0, hX1, hid (World.ownsRow_nil _ _ _ _), hb0, hid rfl⟩
  case round =>
    clear hX0 hX1 hXU hb0
    obtain ⟨k, m, ov, acc, hk, rfl, hacc, hXU, hX0, hX1, hown, hB, hm⟩ := hrel
    obtain ⟨oa, oc, rfl⟩ := own_form hown.out
    have hmk : m ≤ 1000 := by rw [hm.out, hacc.out]; simp; omega
    have e1 := block_cell hX0.out 1
    have e2 := block_cell hXU.out 1
    by_cases hkl : k < l.length
    · obtain ⟨b, o, ha, hr⟩ := (hv.out.below hB.out).range k hkl
      subst ha
      have hst := hid (show l.take (k + 1) = l.take k ++ [l[k]] from List.take_succ_eq_append_getElem hkl)
      generalize l[k] = n at *
      have ha2 := hid (show acc ++ [n] = l.take (k + 1) by rw [hst.out, hacc.out])
      have hoc : Hid (∀ Z, Calls Tryz.prog 14 #[.agg #[.int .u64 (n.path : Int), .int .u32 (n.vers : Int), .int .u32 (n.mode : Int), .int .u32 (n.atm : Int), .int .u32 (n.mtm : Int), .string n.name, .string n.uid, .string n.gid, .string n.muid, .int .u64 (n.up : Int), .bool n.gone, .string n.data]] Z fun e w' => e = .returned (.agg #[.int .u64 (n.path : Int), .int .u32 (n.vers : Int), .int .u32 (n.mode : Int), .int .u32 (n.atm : Int), .int .u32 (n.mtm : Int), .string n.name, .string n.uid, .string n.gid, .string n.muid, .int .u64 (n.up : Int), .bool n.gone, .string n.data]) ∧ Below Z.heap.size Z w') := hid (fun Z => by rw [← nod_cells]; exact ofnode_any n Z)
      replace hr := hid hr
      clear hst hacc
      have k2 : wr.drew.cell? ⟨w.heap.size + 2, 1, none⟩ = some (.slice oa m oc) := e2
      have k3 : wr.drew.cell? ⟨w.heap.size, 1, none⟩ = some (.slice (some ⟨b, o, none⟩) l.length c) := e1
      have s0 : wr.drew.cell? ⟨b, o + k * 12, none⟩ = some (.int .u64 (n.path : Int)) := by have := hr.out 0 (.int .u64 (n.path : Int)) (by rw [nod_cells]; rfl); rwa [Nat.add_zero] at this
      have s1 : wr.drew.cell? ⟨b, o + k * 12 + 1, none⟩ = some (.int .u32 (n.vers : Int)) := hr.out 1 _ (by rw [nod_cells]; rfl)
      have s2 : wr.drew.cell? ⟨b, o + k * 12 + 2, none⟩ = some (.int .u32 (n.mode : Int)) := hr.out 2 _ (by rw [nod_cells]; rfl)
      have s3 : wr.drew.cell? ⟨b, o + k * 12 + 3, none⟩ = some (.int .u32 (n.atm : Int)) := hr.out 3 _ (by rw [nod_cells]; rfl)
      have s4 : wr.drew.cell? ⟨b, o + k * 12 + 4, none⟩ = some (.int .u32 (n.mtm : Int)) := hr.out 4 _ (by rw [nod_cells]; rfl)
      have s5 : wr.drew.cell? ⟨b, o + k * 12 + 5, none⟩ = some (.string n.name) := hr.out 5 _ (by rw [nod_cells]; rfl)
      have s6 : wr.drew.cell? ⟨b, o + k * 12 + 6, none⟩ = some (.string n.uid) := hr.out 6 _ (by rw [nod_cells]; rfl)
      have s7 : wr.drew.cell? ⟨b, o + k * 12 + 7, none⟩ = some (.string n.gid) := hr.out 7 _ (by rw [nod_cells]; rfl)
      have s8 : wr.drew.cell? ⟨b, o + k * 12 + 8, none⟩ = some (.string n.muid) := hr.out 8 _ (by rw [nod_cells]; rfl)
      have s9 : wr.drew.cell? ⟨b, o + k * 12 + 9, none⟩ = some (.int .u64 (n.up : Int)) := hr.out 9 _ (by rw [nod_cells]; rfl)
      have s10 : wr.drew.cell? ⟨b, o + k * 12 + 10, none⟩ = some (.bool n.gone) := hr.out 10 _ (by rw [nod_cells]; rfl)
      have s11 : wr.drew.cell? ⟨b, o + k * 12 + 11, none⟩ = some (.string n.data) := hr.out 11 _ (by rw [nod_cells]; rfl)
      have i1 : (0 : Int) ≤ (k : Int) := by omega
      have i2 : (k : Int) < (l.length : Int) := by omega
      go_wp2_with fail
      have hbw := hid (show b < w.heap.size by
        obtain ⟨b', o', ha', hr'⟩ := hv.out.range k hkl
        cases ha'
        exact World.block_lt_of_cell? _ _ (hr' 0 _ (by rw [nod_cells]; rfl)))
      have hUs := hid (lt_of_block hXU.out)
      go_region_law (first
          | (refine step_append_row elemRN _ rfl (.tmp 16) (.tmp 23) rfl (w.heap.size + 3) (.slice oa m oc) m (nodsL acc) rfl hownA.out _ 1 n.cells.toList rfl hsrc.out (by intro u hu; exact (Array.all_eq_true_iff_forall_mem.1 (nod_one n)) u (by simpa using hu)) (by unfold maxLen; omega) (by omega) (by simp; omega) ?_; intro a' c' w' h2 h3; have hbU := (h3.block (w.heap.size + 2) (by simp; omega) (fun e => by have := (hvl.out _ e.symm).1; omega)).trans hXUA.out; have hb1 := (h3.block (w.heap.size + 1) (by simp; omega) (fun e => by have := (hvl.out _ e.symm).1; omega)).trans hX1A.out; have hb0 := (h3.block w.heap.size (by simp; omega) (fun e => by have := (hvl.out _ e.symm).1; omega)).trans hX0A.out; have y1 : w'.frozen? ⟨w.heap.size + 2, 1, none⟩ = false := block_free hbU 1; have y2 : w'.cell? ⟨w.heap.size + 2, 1, none⟩ = some (.slice oa m oc) := block_cell hbU 1; have nU := hid (block_set hbU 1 (.slice a' (m + 1) c')); have n1 := hid ((block_set_other (p := ⟨w.heap.size + 2, 1, none⟩) (u := .slice a' (m + 1) c') (by show w.heap.size + 1 ≠ w.heap.size + 2; omega)).trans hb1); have n0 := hid ((block_set_other (p := ⟨w.heap.size + 2, 1, none⟩) (u := .slice a' (m + 1) c') (by show w.heap.size ≠ w.heap.size + 2; omega)).trans hb0); have hown2 := hid (ownsRow_setCell_below h2 (a := ⟨w.heap.size + 2, 1, none⟩) (by show w.heap.size + 2 < w.heap.size + 3; omega) (.slice a' (m + 1) c')); have hB2 := hid ((hBA.out.grown h3 (by simp; omega) (fun j hj => by have := (hvl.out j hj).1; omega)).setCell (a := w) (p := ⟨w.heap.size + 2, 1, none⟩) (by show w.heap.size ≤ w.heap.size + 2; omega) (.slice a' (m + 1) c')))
          | (go_simp; go_at_call 14; (with_reducible refine (hoc.out _).mono ?_); rintro e w3 ⟨rfl, hb3⟩; have hD := (Below.refl wr.heap.size wr).drew.trans hb3; have hA := (Below.refl w3.heap.size w3).alloc (Nat.le_refl _) (.cells #[.int .u64 (n.path : Int), .int .u32 (n.vers : Int), .int .u32 (n.mode : Int), .int .u32 (n.atm : Int), .int .u32 (n.mtm : Int), .string n.name, .string n.uid, .string n.gid, .string n.muid, .int .u64 (n.up : Int), .bool n.gone, .string n.data] 38); have hownA := hid (own_keep (own_keep hown.out (fun j hj => hD.block j (hown.out.lt j hj).2)) (fun j hj => hA.block j (Nat.lt_of_lt_of_le (hown.out.lt j hj).2 hD.size))); have hXUA := hid ((hA.block _ (Nat.lt_of_lt_of_le (lt_of_block hXU.out) hD.size)).trans ((hD.block _ (lt_of_block hXU.out)).trans hXU.out)); have hX1A := hid ((hA.block _ (Nat.lt_of_lt_of_le (lt_of_block hX1.out) hD.size)).trans ((hD.block _ (lt_of_block hX1.out)).trans hX1.out)); have hX0A := hid ((hA.block _ (Nat.lt_of_lt_of_le (lt_of_block hX0.out) hD.size)).trans ((hD.block _ (lt_of_block hX0.out)).trans hX0.out)); have k4 : w3.cell? ⟨w.heap.size + 2, 1, none⟩ = some (.slice oa m oc) := block_cell ((hD.block _ (lt_of_block hXU.out)).trans hXU.out) 1; have k5 : (w3.alloc (.cells #[.int .u64 (n.path : Int), .int .u32 (n.vers : Int), .int .u32 (n.mode : Int), .int .u32 (n.atm : Int), .int .u32 (n.mtm : Int), .string n.name, .string n.uid, .string n.gid, .string n.muid, .int .u64 (n.up : Int), .bool n.gone, .string n.data] 38)).cell? ⟨w.heap.size + 2, 1, none⟩ = some (.slice oa m oc) := block_cell hXUA.out 1; have hBA := hid (hB.out.trans ((hD.mono hB.out.size).trans (hA.mono (Nat.le_trans hB.out.size hD.size)))); have hsrc : Hid (RowAt (w3.alloc (.cells #[.int .u64 (n.path : Int), .int .u32 (n.vers : Int), .int .u32 (n.mode : Int), .int .u32 (n.atm : Int), .int .u32 (n.mtm : Int), .string n.name, .string n.uid, .string n.gid, .string n.muid, .int .u64 (n.up : Int), .bool n.gone, .string n.data] 38)) 12 (.slice (some ⟨w3.heap.size, 0, none⟩) 1 1) 1 n.cells.toList) := hid (RowAt.of_block (n := 1) (heap_alloc_new _ _) rfl (by unfold maxLen; omega)); have hlt3 : w.heap.size + 2 < w3.heap.size := Nat.lt_of_lt_of_le (lt_of_block hXU.out) hD.size; have hvl := hid hown.out.lt; replace hD := hid hD; replace hA := hid hA))
      all_goals
        clear k2 s0 s1 s2 s3 s4 s5 s6 s7 s8 s9 s10 s11 k3 e1 e2 i1 i2 y1 y2 h2 h3 hbU hb1 hb0
        go_wp2_with fail
        go_roundw
        case rel => exact ⟨k + 1, m + 1, _, acc ++ [n], by omega, by go_num, ha2, nU, n0, n1, by rw [nodsL_append, show nodsL [n] = n.cells.toList by simp [nodsL]]; exact hown2, hB2, hid (by rw [List.length_append, ← hm.out]; rfl)⟩
        case measure => simp [intOf]; omega
    · obtain rfl : k = l.length := by omega
      have hacc2 : acc = l := by have := hacc.out; rwa [List.take_length] at this
      replace hacc2 := hid hacc2
      have y0 := block_cell hXU.out 0
      have y1 := block_cell hXU.out 1
      have hzz := hid (setRow_heap wr (w.heap.size + 1) #[.int .u64 0, .slice none 0 0] #[.int .u64 (x : Int), .slice oa m oc] _ _ hX1.out)
      have hBz := hid (below_setRow (g := w.heap.size + 1) hB.out (by omega) #[.int .u64 (x : Int), .slice oa m oc])
      have hF := hid (fun j hj => (hown.out.lt j hj).1)
      have hN := hid (NodsAt.other (w' := wr.setRow (w.heap.size + 1) #[.int .u64 (x : Int), .slice oa m oc]) (NodsAt.of_own hown.out) (w.heap.size + 1) (fun e => by have := hF.out _ e; omega) (by simp) (fun k hk => setRow_other _ _ _ _ hk))
      go_wp2_with (refine wpList_store_row (by rfl) 33 (.tmp 2) (.tmp 26) (by rfl) (w.heap.size + 1) #[.int .u64 (x : Int), .slice oa m oc] (by rfl) (by rfl) 33 _ hX1.out (by kernel_rfl) (by kernel_rfl) (by kernel_rfl) ?_)
      refine bodyPost_ret (results_cell_row rfl _ _ (w.heap.size + 1) _ _ _ _ rfl hzz.out Tryz.underlying33 (by rfl) (by kernel_rfl)) rfl ?_
      exact ⟨.slice oa m oc, rfl, by rw [← hacc2.out]; exact hN.out, fun k hk => by have := hF.out k hk; omega, hBz.out⟩
end
end Go.Proofs.YtpmlhmficmillaaGreat
