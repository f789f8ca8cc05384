/- find, Get, New, kid, Find and Bytes of a tree; a slice of nodes cloned, clipped. Conditions: numbers in their types, the list sorted where a path is looked up.
kid, dir, Find and Bytes of a tree; a slice of nodes cloned, clipped. Conditions: numbers in their types.
Bytes of a tree; a slice of nodes cloned, clipped; a new tree. Conditions: numbers in their types. -/
import Derived.Test.YtpmlhmficmillaaGreatBunUs
import Derived.Test.YtpmlhmficmillaaGreatBunTK
import Derived.Test.YtpmlhmficmillaaGreatBunU
namespace Go.Proofs.YtpmlhmficmillaaGreat
section
open Go.RowKit
set_option maxRecDepth 100000
set_option linter.unusedVariables false

def zeroNod : Nod := ⟨0, 0, 0, 0, 0, ⟨#[]⟩, ⟨#[]⟩, ⟨#[]⟩, ⟨#[]⟩, 0, false, ⟨#[]⟩⟩
theorem zeroNod_cells : zeroNod.cells = #[.int .u64 0, .int .u32 0, .int .u32 0, .int .u32 0, .int .u32 0, .string ⟨#[]⟩, .string ⟨#[]⟩, .string ⟨#[]⟩, .string ⟨#[]⟩, .int .u64 0, .bool false, .string ⟨#[]⟩] := rfl
def getN (l : List Nod) (p : Nat) : Nod := (getL l p).getD zeroNod
theorem results_cs {P : Program} {fn : Func} {p q : Tmp} {ty : TypeId} (h : fn.results = #[.cell p ty, .tmp q]) (tmps : Array Value) (w : World) (g : Nat) (t : TypeId) (cs : Array Value) (fr : Nat × Nat) (d : TypeDesc) (x : Value)
    (hp : tmps.getD p undef = .pointer (some ⟨g, 0, none⟩)) (hq : tmps.getD q undef = x) (hg : w.heap[g]? = some (.cells cs t fr))
    (hu : P.underlying ty = some d) (hd : (match d with | .struct _ | .array _ _ => true | _ => false) = true) (hi : (P.info? ty).map (·.size) = some cs.size) :
    (results fn tmps).run P w = .ok (.tuple #[.agg cs, x]) w := by
  have hp' : tmps[p]?.getD undef = .pointer (some ⟨g, 0, none⟩) := by simpa using hp
  have hq' : tmps[q]?.getD undef = x := by simpa using hq
  simp [results, h, hp', hq', asAddr, run_loadVar_row w g t ty cs fr d hg hu hd hi]
theorem tfind_any (v : Value) (x : Nat) (l : List Nod) (p : Nat) (w : World) (hv : NodsAt w v l) (hs : SortL l) (hl : l.length ≤ 1000) :
    Calls Tryz.prog 31 #[.agg #[.int .u64 (x : Int), v], .int .u64 (p : Int)] w fun e w' => e = .returned (.tuple #[.int .i64 (belowN l p : Int), .bool (getL l p).isSome]) ∧ Below w.heap.size w w' := by
  obtain ⟨a, c, rfl, g1, g2⟩ := hv.form
  have hb0 := (Below.refl w.heap.size w).alloc (Nat.le_refl _) (.cells #[.int .u64 (x : Int), .slice a l.length c] 25)
  have hc := hid (bsearch_any _ l p _ (hv.below hb0) hs hl)
  replace hb0 := hid hb0
  generalize (getL l p).isSome = r at *
  generalize belowN l p = q at *
  clear hv hs
  go_enter Tryz.func31, Tryz.ntmps31
  go_wp2_with fail
  refine hc.out.mono ?_
  rintro e w1 ⟨rfl, hb1⟩
  have hB := hid (hb0.out.trans (hb1.mono (by simp)))
  clear hb1
  go_wp2_with fail
  go_ret2
  exact ⟨rfl, hB.out⟩
def GetPost (w : World) (l : List Nod) (p : Nat) (e : Ending) (w' : World) : Prop := e = .returned (.tuple #[.agg (getN l p).cells, .bool (getL l p).isSome]) ∧ Below w.heap.size w w'

set_option maxHeartbeats 1600000 in
theorem get_any (v : Value) (x : Nat) (l : List Nod) (p : Nat) (w : World) (hv : NodsAt w v l) (hs : SortL l) (hl : l.length ≤ 1000) :
    Calls Tryz.prog 71 #[.agg #[.int .u64 (x : Int), v], .int .u64 (p : Int)] w (GetPost w l p) := by
  obtain ⟨a, c, rfl, g1, g2⟩ := hv.form
  unfold maxLen at g2
  obtain ⟨W, hW⟩ : ∃ W, W = (w.alloc (.cells #[.int .u64 (x : Int), .slice a l.length c] 25)).alloc (.cells zeroNod.cells 28) := ⟨_, rfl⟩
  have hb0 : Below w.heap.size w W := by rw [hW]; exact ((Below.refl w.heap.size w).alloc (Nat.le_refl _) _).alloc (by simp) _
  have hx0 : W.heap[w.heap.size]? = some (.cells #[.int .u64 (x : Int), .slice a l.length c] 25 (0, 0)) := by rw [hW, heap_alloc_old _ _ (by simp), heap_alloc_new]
  have hy0 : W.heap[w.heap.size + 1]? = some (.cells zeroNod.cells 28 (0, 0)) := by rw [hW]; exact heap2 _ _ _
  have hv0 := hid (hv.below hb0)
  have hc := hid (fun X (h : NodsAt X (.slice a l.length c) l) => tfind_any _ x l p X h hs hl)
  have hga := hid (get_at hs p)
  have hgs := hid (getL_isSome hs p)
  have e0 := block_cell hx0 0
  have e1 := block_cell hx0 1
  have hz0 := lt_of_block hy0
  replace hb0 := hid hb0
  replace hx0 := hid hx0
  replace hy0 := hid hy0
  rw [zeroNod_cells] at hW
  clear hv hs
  go_enter Tryz.func71, Tryz.ntmps71
  go_wp2_with (rw [← hW]; replace hW := hid hW)
  try (rw [← hW]; replace hW := hid hW)
  refine (hc.out _ hv0.out).mono ?_
  rintro e w1 ⟨rfl, hb1⟩
  have hB1 := hid (sn hb0.out hb1)
  have hx1 := hid ((hb1.block _ (lt_of_block hx0.out)).trans hx0.out)
  have hy1 := hid ((hb1.block _ (lt_of_block hy0.out)).trans hy0.out)
  have hv1 := hid (hv0.out.below hb1)
  have f0 := block_cell hx1.out 0
  have f1 := block_cell hx1.out 1
  clear hb1 e0 e1
  rcases hr : (getL l p).isSome with _ | _
  · have hn : Hid (getL l p = none) := hid (by simpa using hr)
    rw [hr] at hgs
    clear hr
    go_wp2_with (refine wpList_store_row (by rfl) 28 (.tmp 4) (.tmp 16) (by rfl) (w.heap.size + 1) zeroNod.cells (by rfl) (by rfl) 28 _ hy1.out (by kernel_rfl) (by kernel_rfl) (by kernel_rfl) ?_)
    refine bodyPost_ret (results_cs rfl _ _ (w.heap.size + 1) _ _ _ _ _ rfl rfl (setRow_heap _ _ _ zeroNod.cells _ _ hy1.out) Tryz.underlying28 rfl (by kernel_rfl)) rfl ?_
    refine ⟨?_, below_setRow hB1.out (by omega) _⟩
    unfold getN
    rw [hn.out]; rfl
  · obtain ⟨m, hm⟩ := Option.isSome_iff_exists.1 hr
    have hq : Hid (∃ h : belowN l p < l.length, l[belowN l p] = m) := hid (by
      have h := hga.out
      rw [hm] at h
      cases hh : l[belowN l p]? with
      | none => rw [hh] at h; cases h
      | some k =>
        rw [hh] at h
        simp only at h
        obtain ⟨h1, h2⟩ := List.getElem?_eq_some_iff.1 hh
        by_cases e : k.path = p
        · rw [if_pos e] at h; exact ⟨h1, h2.trans (Option.some.inj h).symm⟩
        · rw [if_neg e] at h; cases h)
    replace hm := hid hm
    clear hga hgs
    replace hr := hid hr
    generalize belowN l p = q at *
    obtain ⟨hql, hqm⟩ := hq.out
    obtain ⟨b, o, ha, hrg⟩ := hv1.out.range q hql
    rw [hqm] at hrg
    subst ha
    replace hqm := hid hqm
    replace hrg := hid hrg
    go_wp2_with (first
      | (refine wpList_load_cells (by rfl) 28 (.tmp 20) (by rfl) b (o + q * 12) (by rfl) m.cells _ hrg.out Tryz.underlying28 (by rfl) (by kernel_rfl) ?_)
      | (refine wpList_store_row (by rfl) 28 (.tmp 4) (.tmp 21) (by rfl) (w.heap.size + 1) m.cells (by rfl) (by rfl) 28 _ hy1.out (by kernel_rfl) (by kernel_rfl) (nod_one m) ?_))
    refine bodyPost_ret (results_cs rfl _ _ (w.heap.size + 1) _ _ _ _ _ rfl rfl (setRow_heap _ _ _ m.cells _ _ hy1.out) Tryz.underlying28 rfl (by kernel_rfl)) rfl ?_
    refine ⟨?_, below_setRow hB1.out (by omega) _⟩
    unfold getN
    rw [hm.out]; rfl
end
end Go.Proofs.YtpmlhmficmillaaGreat

namespace Go.Proofs.YtpmlhmficmillaaGreat
section
open Go.RowKit
set_option maxRecDepth 100000
set_option linter.unusedVariables false

theorem ndir_any (n : Nod) (w : World) (hn : NodOk n) : Calls Tryz.prog 52 #[.agg n.cells] w fun e w' => e = .returned (.bool (dirB n)) ∧ Below w.heap.size w w' := by
  have hb := (Below.refl w.heap.size w).alloc (Nat.le_refl _) (.cells n.cells 28)
  have hdm := dir_mode n.mode hn.mode
  have hm := hn.mode
  have hE : Hid (dirB n = !decide (n.mode &&& 2147483648 = 0)) := hid rfl
  rw [nod_cells] at hb ⊢
  replace hb := hid hb
  replace hn := hid hn
  replace hdm := hid hdm
  go_enter Tryz.func52, Tryz.ntmps52
  go_wp2_with fail
  go_ret
  exact ⟨ret_bool (by rw [hE.out, ← hdm.out]), hb.out⟩
theorem kid_any (n : Nod) (d : Nat) (w : World) : Calls Tryz.prog 48 #[.agg n.cells, .int .u64 (d : Int)] w fun e w' => e = .returned (.bool (kidB d n)) ∧ Below w.heap.size w w' := by
  have hb := hid ((Below.refl w.heap.size w).alloc (Nat.le_refl _) (.cells n.cells 28))
  have hE : Hid (kidB d n = (!n.gone && decide (n.path ≠ 1) && decide (n.up = d))) := hid rfl
  have k1 : ((n.path : Int) != 1) = decide (n.path ≠ 1) := by
    rw [show (1 : Int) = ((1 : Nat) : Int) from rfl, bne, dec_int]; simp
  have k2 : ((n.up : Int) == (d : Int)) = decide (n.up = d) := dec_int _ _
  rw [nod_cells] at hb ⊢
  generalize decide (n.path ≠ 1) = b1 at *
  generalize decide (n.up = d) = b2 at *
  cases hg : n.gone <;> cases b1 <;> cases b2
  all_goals
    rw [hg] at hb hE
    clear hg
    go_enter Tryz.func48, Tryz.ntmps48
    go_wp2_with fail
    go_ret
    exact ⟨ret_bool (by rw [hE.out]; rfl), hb.out⟩

def boxN (w : World) (n : Nod) : World := (w.alloc (.cells zeroNod.cells 28)).setRow w.heap.size n.cells
theorem boxN_heap (w : World) (n : Nod) : (boxN w n).heap[w.heap.size]? = some (.cells n.cells 28 (0, 0)) := setRow_heap _ _ _ _ _ _ (heap_alloc_new _ _)
theorem boxN_below (w : World) (n : Nod) : Below w.heap.size w (boxN w n) := below_setRow ((Below.refl _ _).alloc (Nat.le_refl _) _) (Nat.le_refl _) _
def FindPost (w : World) (l : List Nod) (d : Nat) (s : ByteArray) (e : Ending) (w' : World) : Prop := e = .returned (.tuple #[.agg ((findL l d s).getD zeroNod).cells, .bool (findL l d s).isSome]) ∧ Below w.heap.size w w'
theorem find_step {l : List Nod} {k : Nat} (hk : k < l.length) (d : Nat) (s : ByteArray) : findL (l.drop k) d s = if kidB d l[k] && decide (l[k].name = s) then some l[k] else findL (l.drop (k + 1)) d s := by
  unfold findL
  rw [List.drop_eq_getElem_cons hk, List.find?_cons]
  cases kidB d l[k] && decide (l[k].name = s) <;> rfl

set_option maxHeartbeats 3200000 in
theorem nfind_any (v : Value) (x : Nat) (l : List Nod) (d : Nat) (s : ByteArray) (w : World) (hv : NodsAt w v l) (hl : l.length ≤ 1000) :
    Calls Tryz.prog 22 #[.agg #[.int .u64 (x : Int), v], .int .u64 (d : Int), .string s] w (FindPost w l d s) := by
  obtain ⟨a, c, rfl, g1, g2⟩ := hv.form
  unfold maxLen at g2
  obtain ⟨W, hW⟩ : ∃ W, W = (w.alloc (.cells #[.int .u64 (x : Int), .slice a l.length c] 25)).alloc (.cells zeroNod.cells 28) := ⟨_, rfl⟩
  have hb0 : Below w.heap.size w W := by rw [hW]; exact ((Below.refl w.heap.size w).alloc (Nat.le_refl _) _).alloc (by simp) _
  have hx0 : W.heap[w.heap.size]? = some (.cells #[.int .u64 (x : Int), .slice a l.length c] 25 (0, 0)) := by rw [hW, heap_alloc_old _ _ (by simp), heap_alloc_new]
  have hy0 : W.heap[w.heap.size + 1]? = some (.cells zeroNod.cells 28 (0, 0)) := by rw [hW]; exact heap2 _ _ _
  have e0 := block_cell hx0 0
  have e1 := block_cell hx0 1
  replace hv := hid hv
  replace hb0 := hid hb0
  replace hy0 := hid hy0
  clear hx0
  rw [zeroNod_cells] at hW
  go_enter Tryz.func22, Tryz.ntmps22
  go_wp2_with (rw [← hW]; replace hW := hid hW)
  go_loopw [13] (fun kv wr => ∃ k : Nat, k ≤ l.length ∧ kv = .int .i64 (k : Int) ∧ Hid (Below w.heap.size w wr) ∧ Hid (wr.heap[w.heap.size + 1]? = some (.cells zeroNod.cells 28 (0, 0))) ∧ Hid (findL l d s = findL (l.drop k) d s)) (fun kv _ => l.length - (intOf kv).toNat)
  case atStart => exact ⟨0, by omega, rfl, hb0, hy0, hid rfl⟩
  case round =>
    obtain ⟨k, hk, rfl, hB, hY, hF⟩ := hrel
    by_cases hkl : k < l.length
    · obtain ⟨b, o, ha, hr⟩ := (hv.out.below hB.out).range k hkl
      subst ha
      have hst := hid (hF.out.trans (find_step hkl d s))
      generalize l[k] = n at *
      have hnew := hid (heap_alloc_new wr (.cells zeroNod.cells 28))
      obtain ⟨W3, hW3⟩ : ∃ W, W = boxN wr n := ⟨_, rfl⟩
      have hb3 : Below wr.heap.size wr W3 := by rw [hW3]; exact boxN_below _ _
      have hn3 := hid (show W3.heap[wr.heap.size]? = some (.cells n.cells 28 (0, 0)) by rw [hW3]; exact boxN_heap _ _)
      have hB3 := hid (sn hB.out hb3)
      have hY3 := hid ((hb3.block _ (lt_of_block hY.out)).trans hY.out)
      have hkc := hid (kid_any n d W3)
      unfold boxN at hW3
      rw [zeroNod_cells] at hW3 hnew
      replace hr := hid hr
      clear hb3 hB hY hF
      go_wp2_with (first
        | (refine wpList_load_cells (by rfl) 28 (.tmp 15) (by rfl) b (o + k * 12) (by rfl) n.cells _ hr.out Tryz.underlying28 (by rfl) (by kernel_rfl) ?_)
        | (refine wpList_store_row (by rfl) 28 (.tmp 9) (.tmp 16) (by rfl) wr.heap.size n.cells (by rfl) (by rfl) 28 _ hnew.out (by kernel_rfl) (by kernel_rfl) (nod_one n) ?_)
        | (rw [← hW3]; replace hW3 := hid hW3)
        | (refine wpList_load_row (by rfl) 28 (.tmp 9) (by rfl) wr.heap.size (by rfl) 28 n.cells (0, 0) _ hn3.out Tryz.underlying28 (by rfl) (by kernel_rfl) ?_))
      refine hkc.out.mono ?_
      rintro e w4 ⟨rfl, hb4⟩
      have hB4 := hid (sn hB3.out hb4)
      have hY4 := hid ((hb4.block _ (lt_of_block hY3.out)).trans hY3.out)
      have hn4 := hid ((hb4.block _ (lt_of_block hn3.out)).trans hn3.out)
      have q5 : w4.cell? ⟨wr.heap.size, 5, none⟩ = some (.string n.name) := block_cell hn4.out 5
      clear hb4 hkc hr hnew hn3 hB3 hY3
      generalize wr.heap.size = z at *
      rcases hkb : kidB d n with _ | _
      · have hF2 := hid (show findL l d s = findL (l.drop (k + 1)) d s by rw [hst.out, hkb]; rfl)
        clear hkb hst
        go_wp2_with fail
        go_roundw
        case rel => exact ⟨k + 1, by omega, by go_num, hB4, hY4, hF2⟩
        case measure => simp [intOf]; omega
      · have hq : (n.name.toList == s.toList) = decide (n.name = s) := str_beq _ _
        rcases hnb : decide (n.name = s) with _ | _
        · have hF2 := hid (show findL l d s = findL (l.drop (k + 1)) d s by rw [hst.out, hkb, hnb]; rfl)
          rw [hnb] at hq
          clear hkb hst hnb
          go_wp2_with fail
          go_roundw
          case rel => exact ⟨k + 1, by omega, by go_num, hB4, hY4, hF2⟩
          case measure => simp [intOf]; omega
        · have hF2 := hid (show findL l d s = some n by rw [hst.out, hkb, hnb]; rfl)
          rw [hnb] at hq
          clear hkb hst hnb
          go_wp2_with (first
            | (refine wpList_load_row (by rfl) 28 (.tmp 9) (by rfl) z (by rfl) 28 n.cells (0, 0) _ hn4.out Tryz.underlying28 (by rfl) (by kernel_rfl) ?_)
            | (refine wpList_store_row (by rfl) 28 (.tmp 6) (.tmp 26) (by rfl) (w.heap.size + 1) n.cells (by rfl) (by rfl) 28 _ hY4.out (by kernel_rfl) (by kernel_rfl) (nod_one n) ?_))
          refine bodyPost_ret (results_cs rfl _ _ (w.heap.size + 1) _ _ _ _ _ rfl rfl (setRow_heap _ _ _ n.cells _ _ hY4.out) Tryz.underlying28 rfl (by kernel_rfl)) rfl ?_
          refine ⟨?_, below_setRow hB4.out (by omega) _⟩
          rw [hF2.out]; rfl
    · obtain rfl : k = l.length := by omega
      have hF2 := hid (show findL l d s = none by rw [hF.out, List.drop_length]; rfl)
      go_wp2_with (refine wpList_store_row (by rfl) 28 (.tmp 6) (.tmp 28) (by rfl) (w.heap.size + 1) zeroNod.cells (by rfl) (by rfl) 28 _ hY.out (by kernel_rfl) (by kernel_rfl) (by kernel_rfl) ?_)
      refine bodyPost_ret (results_cs rfl _ _ (w.heap.size + 1) _ _ _ _ _ rfl rfl (setRow_heap _ _ _ zeroNod.cells _ _ hY.out) Tryz.underlying28 rfl (by kernel_rfl)) rfl ?_
      refine ⟨?_, below_setRow hB.out (by omega) _⟩
      rw [hF2.out]; rfl
end
end Go.Proofs.YtpmlhmficmillaaGreat

namespace Go.Proofs.YtpmlhmficmillaaGreat
section
open Go.RowKit
set_option maxRecDepth 100000
set_option linter.unusedVariables false

theorem bytesL_take {l : List Nod} {k : Nat} (hk : k < l.length) : bytesL (l.take (k + 1)) = bytesL (l.take k) + l[k].data.size := by
  unfold bytesL
  rw [List.take_succ_eq_append_getElem hk, List.map_append, List.sum_append_nat]
  rfl
theorem bytesL_le {l : List Nod} (h : ∀ n ∈ l, n.data.size ≤ 1000000) : bytesL l ≤ l.length * 1000000 := by
  induction l with
  | nil => simp [bytesL]
  | cons a l ih =>
    have h1 := ih fun n hn => h n (by simp [hn])
    have h2 := h a (by simp)
    rw [bytes_cons]
    simp only [List.length_cons]; omega

set_option maxHeartbeats 3200000 in
theorem nbytes_any (v : Value) (x : Nat) (l : List Nod) (w : World) (hv : NodsAt w v l) (hl : l.length ≤ 1000) (hd : ∀ n ∈ l, n.data.size ≤ 1000000) :
    Calls Tryz.prog 28 #[.agg #[.int .u64 (x : Int), v]] w fun e w' => e = .returned (.int .i64 (bytesL l : Int)) ∧ Below w.heap.size w w' := by
  obtain ⟨a, c, rfl, g1, g2⟩ := hv.form
  unfold maxLen at g2
  obtain ⟨W, hW⟩ : ∃ W, W = w.alloc (.cells #[.int .u64 (x : Int), .slice a l.length c] 25) := ⟨_, rfl⟩
  have hb0 : Below w.heap.size w W := by rw [hW]; exact (Below.refl w.heap.size w).alloc (Nat.le_refl _) _
  have hx0 : W.heap[w.heap.size]? = some (.cells #[.int .u64 (x : Int), .slice a l.length c] 25 (0, 0)) := by rw [hW, heap_alloc_new]
  have e1 := block_cell hx0 1
  replace hv := hid hv
  replace hb0 := hid hb0
  replace hd := hid hd
  clear hx0
  go_enter Tryz.func28, Tryz.ntmps28
  go_wp2_with (rw [← hW]; replace hW := hid hW)
  go_loopw [3, 9] (fun sv kv wr => ∃ k s : Nat, k ≤ l.length ∧ kv = .int .i64 (k : Int) ∧ sv = .int .i64 (s : Int) ∧ Hid (Below w.heap.size w wr) ∧ Hid (s = bytesL (l.take k))) (fun _ kv _ => l.length - (intOf kv).toNat)
  case atStart => exact ⟨0, 0, by omega, rfl, rfl, hb0, hid rfl⟩
  case round =>
    obtain ⟨k, s, hk, rfl, rfl, hB, hs⟩ := hrel
    by_cases hkl : k < l.length
    · obtain ⟨b, o, ha, hr⟩ := (hv.out.below hB.out).range k hkl
      subst ha
      have hst := hid (bytesL_take hkl)
      have hle := bytesL_le (l := l.take (k + 1)) fun n hn => hd.out n (List.mem_of_mem_take hn)
      have hlt : (l.take (k + 1)).length ≤ 1000 := by simp; omega
      have hsz := hd.out _ (List.getElem_mem hkl)
      have hs2 : s + l[k].data.size ≤ 1000000000 := by rw [hs.out, ← hst.out]; omega
      clear hle hlt
      generalize l[k] = n at *
      have hnew := hid (heap_alloc_new wr (.cells zeroNod.cells 28))
      obtain ⟨W3, hW3⟩ : ∃ W, W = boxN wr n := ⟨_, rfl⟩
      have hb3 : Below wr.heap.size wr W3 := by rw [hW3]; exact boxN_below _ _
      have hn3 : W3.heap[wr.heap.size]? = some (.cells n.cells 28 (0, 0)) := by rw [hW3]; exact boxN_heap _ _
      have q11 : W3.cell? ⟨wr.heap.size, 11, none⟩ = some (.string n.data) := block_cell hn3 11
      have hB3 := hid (sn hB.out hb3)
      unfold boxN at hW3
      rw [zeroNod_cells] at hW3 hnew
      replace hr := hid hr
      clear hb3 hB hn3
      go_wp2_with (first
        | (refine wpList_load_cells (by rfl) 28 (.tmp 11) (by rfl) b (o + k * 12) (by rfl) n.cells _ hr.out Tryz.underlying28 (by rfl) (by kernel_rfl) ?_)
        | (refine wpList_store_row (by rfl) 28 (.tmp 5) (.tmp 12) (by rfl) wr.heap.size n.cells (by rfl) (by rfl) 28 _ hnew.out (by kernel_rfl) (by kernel_rfl) (nod_one n) ?_)
        | (rw [← hW3]; replace hW3 := hid hW3))
      go_roundw
      case rel => exact ⟨k + 1, s + n.data.size, by omega, by go_num, by go_num, hB3, hid (by rw [hst.out, ← hs.out])⟩
      case measure => simp [intOf]; omega
    · obtain rfl : k = l.length := by omega
      have hs2 : s = bytesL l := by have := hs.out; rwa [List.take_length] at this
      subst hs2
      go_wp2_with fail
      go_ret
      exact ⟨rfl, hB.out⟩

theorem nclip_any (v : Value) (l : List Nod) (w : World) (hv : NodsAt w v l) :
    Calls Tryz.prog 34 #[v] w fun e w' => ∃ v', e = .returned v' ∧ NodsAt w v' l ∧ w' = w := by
  obtain ⟨a, c, rfl, g1, g2⟩ := hv.form
  unfold maxLen at g2
  have hc := hid hv.clip
  clear hv
  go_enter Tryz.func34, Tryz.ntmps34
  go_wp2_with fail
  go_ret
  exact ⟨_, rfl, hc.out, rfl⟩
theorem elemN : ElemOk Tryz.prog 23 28 12 120 := elemOk_of (z := .agg zeroNod.cells) Tryz.underlying23 (by kernel_rfl) rfl (by decide)
def NClone (w : World) (l : List Nod) (e : Ending) (w' : World) : Prop := ∃ v', e = .returned v' ∧ w'.ownsRow w.heap.size 28 12 v' l.length (nodsL l) ∧ Below w.heap.size w w'
theorem nclone_any (v : Value) (l : List Nod) (w : World) (hv : NodsAt w v l) (hl : l.length ≤ 1000) :
    Calls Tryz.prog 32 #[v] w (NClone w l) := by
  obtain ⟨a, c, rfl, g1, g2⟩ := hv.form
  unfold maxLen at g2
  have qT := fun (w : World) (a : Option Addr) (n c n' c' : Nat) => Lib.run_eql_slice_nil (P := Tryz.prog) w 23 28 a n c n' c' Tryz.underlying23
  cases a with
  | none =>
    have hc0 : c = 0 := by
      obtain ⟨_, a', c', he, _, _, h3, _⟩ := hv
      cases he
      exact h3 rfl
    subst hc0
    have hl0 : l = [] := List.eq_nil_of_length_eq_zero (by omega)
    subst hl0
    simp only [List.length_nil] at *
    go_enter Tryz.func32, Tryz.ntmps32
    go_wp2_with fail
    go_ret
    exact ⟨_, rfl, World.ownsRow_nil _ _ _ _, Below.refl _ _⟩
  | some ad =>
    have hbA := (Below.refl w.heap.size w).alloc (Nat.le_refl _) (.cells #[] 28)
    have hvA := hid (hv.below hbA)
    replace hv := hid hv
    replace hbA := hid hbA
    go_enter Tryz.func32, Tryz.ntmps32
    go_wp2_with (at_builtin; refine wpList_append_weak elemN _ rfl (.tmp 5) (.tmp 6) rfl w.heap.size _ 0 [] rfl (own_empty w _ _) _ l.length (nodsL l) rfl hvA.out (nodsL_one l) (by unfold maxLen; omega) (by omega) (by simp) ?_)
    intro a6 c6 w6 h6 g6
    have hB6 := hid (hbA.out.grown g6 (by simp) (fun j hj => by cases hj; exact Nat.le_refl _))
    go_wp2_with fail
    go_ret
    (try simp only [Nat.zero_add] at h6)
    exact ⟨_, rfl, h6, hB6.out⟩
end
end Go.Proofs.YtpmlhmficmillaaGreat
