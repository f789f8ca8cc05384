/- kid, dir, Find and Bytes of a tree; a slice of nodes cloned, clipped. Conditions: numbers in their types. And the texts behind it. -/
import Derived.Test.YtkefjeabckainaaGreatFaB08
import Derived.Test.YtkefjeabckainaaGreatFaB05
import Derived.Deep.RegionHeld3
import Derived.Test.YtkefjeabckainaaGreatFaB04
import Derived.Deep.DeepCutAuto
import Derived.Lib.SliceRun
namespace Go.Proofs.YtkefjeabckainaaGreat
section
open Go.RowKit
set_option maxRecDepth 100000
set_option linter.unusedVariables false

theorem ndir_any (n : Nod) (w : World) (hn : NodOk n) : Calls Tryz.prog 105 #[.agg n.cells] w fun e w' => e = .returned (.bool (dirB n)) ∧ Below w.heap.size w w' := by
  have hb := (Below.refl w.heap.size w).alloc (Nat.le_refl _) (.cells n.cells 89)
  have hdm := dir_mode n.mode hn.mode
  have hm := hn.mode
  have hE : Hid (dirB n = !decide (n.mode &&& 2147483648 = 0)) := hid rfl
  rw [nod_cells] at hb ⊢
  replace hb := hid hb
  replace hn := hid hn
  replace hdm := hid hdm
  go_enter Tryz.func105, Tryz.ntmps105
  go_wp2_with fail
  go_ret
  exact ⟨ret_bool (by rw [hE.out, ← hdm.out]), hb.out⟩
theorem tdir_any (n : Nod) (w : World) (hn : NodOk n) : Calls Tryz.prog 89 #[.agg n.cells] w fun e w' => e = .returned (.bool (dirB n)) ∧ Below w.heap.size w w' := by
  have hb := (Below.refl w.heap.size w).alloc (Nat.le_refl _) (.cells n.cells 89)
  have hdm := dir_mode n.mode hn.mode
  have hm := hn.mode
  have hE : Hid (dirB n = !decide (n.mode &&& 2147483648 = 0)) := hid rfl
  rw [nod_cells] at hb ⊢
  replace hb := hid hb
  replace hn := hid hn
  replace hdm := hid hdm
  go_enter Tryz.func89, Tryz.ntmps89
  go_wp2_with fail
  go_ret
  exact ⟨ret_bool (by rw [hE.out, ← hdm.out]), hb.out⟩
theorem kid_any (n : Nod) (d : Nat) (w : World) : Calls Tryz.prog 99 #[.agg n.cells, .int .u64 (d : Int)] w fun e w' => e = .returned (.bool (kidB d n)) ∧ Below w.heap.size w w' := by
  have hb := hid ((Below.refl w.heap.size w).alloc (Nat.le_refl _) (.cells n.cells 89))
  have hE : Hid (kidB d n = (!n.gone && decide (n.path ≠ 1) && decide (n.up = d))) := hid rfl
  have k1 : ((n.path : Int) != 1) = decide (n.path ≠ 1) := by
    rw [show (1 : Int) = ((1 : Nat) : Int) from rfl, bne, dec_int]; simp
  have k2 : ((n.up : Int) == (d : Int)) = decide (n.up = d) := dec_int _ _
  rw [nod_cells] at hb ⊢
  generalize decide (n.path ≠ 1) = b1 at *
  generalize decide (n.up = d) = b2 at *
  cases hg : n.gone <;> cases b1 <;> cases b2
  all_goals
    rw [hg] at hb hE
    clear hg
    go_enter Tryz.func99, Tryz.ntmps99
    go_wp2_with fail
    go_ret
    exact ⟨ret_bool (by rw [hE.out]; rfl), hb.out⟩

def boxN (w : World) (n : Nod) : World := (w.alloc (.cells zeroNod.cells 89)).setRow w.heap.size n.cells
theorem boxN_heap (w : World) (n : Nod) : (boxN w n).heap[w.heap.size]? = some (.cells n.cells 89 (0, 0)) := setRow_heap _ _ _ _ _ _ (heap_alloc_new _ _)
theorem boxN_below (w : World) (n : Nod) : Below w.heap.size w (boxN w n) := below_setRow ((Below.refl _ _).alloc (Nat.le_refl _) _) (Nat.le_refl _) _
def FindPost (w : World) (l : List Nod) (d : Nat) (s : ByteArray) (e : Ending) (w' : World) : Prop := e = .returned (.tuple #[.agg ((findL l d s).getD zeroNod).cells, .bool (findL l d s).isSome]) ∧ Below w.heap.size w w'
theorem find_step {l : List Nod} {k : Nat} (hk : k < l.length) (d : Nat) (s : ByteArray) : findL (l.drop k) d s = if kidB d l[k] && decide (l[k].name = s) then some l[k] else findL (l.drop (k + 1)) d s := by
  unfold findL
  rw [List.drop_eq_getElem_cons hk, List.find?_cons]
  cases kidB d l[k] && decide (l[k].name = s) <;> rfl

set_option maxHeartbeats 3200000 in
theorem nfind_any (v : Value) (x : Nat) (l : List Nod) (d : Nat) (s : ByteArray) (w : World) (hv : NodsAt w v l) (hl : l.length ≤ 1000) :
    Calls Tryz.prog 57 #[.agg #[.int .u64 (x : Int), v], .int .u64 (d : Int), .string s] w (FindPost w l d s) := by
  obtain ⟨a, c, rfl, g1, g2⟩ := hv.form
  unfold maxLen at g2
  obtain ⟨W, hW⟩ : ∃ W, W = (w.alloc (.cells #[.int .u64 (x : Int), .slice a l.length c] 30)).alloc (.cells zeroNod.cells 89) := ⟨_, rfl⟩
  have hb0 : Below w.heap.size w W := by rw [hW]; exact ((Below.refl w.heap.size w).alloc (Nat.le_refl _) _).alloc (by simp) _
  have hx0 : W.heap[w.heap.size]? = some (.cells #[.int .u64 (x : Int), .slice a l.length c] 30 (0, 0)) := by rw [hW, heap_alloc_old _ _ (by simp), heap_alloc_new]
  have hy0 : W.heap[w.heap.size + 1]? = some (.cells zeroNod.cells 89 (0, 0)) := by rw [hW]; exact heap2 _ _ _
  have e0 := block_cell hx0 0
  have e1 := block_cell hx0 1
  replace hv := hid hv
  replace hb0 := hid hb0
  replace hy0 := hid hy0
  clear hx0
  rw [zeroNod_cells] at hW
  go_enter Tryz.func57, Tryz.ntmps57
  go_wp2_with (rw [← hW]; replace hW := hid hW)
  go_loopw [13] (fun kv wr => ∃ k : Nat, k ≤ l.length ∧ kv = .int .i64 (k : Int) ∧ Hid (Below w.heap.size w wr) ∧ Hid (wr.heap[w.heap.size + 1]? = some (.cells zeroNod.cells 89 (0, 0))) ∧ Hid (findL l d s = findL (l.drop k) d s)) (fun kv _ => l.length - (intOf kv).toNat)
  case atStart => exact ⟨0, by omega, rfl, hb0, hy0, hid rfl⟩
  case round =>
    obtain ⟨k, hk, rfl, hB, hY, hF⟩ := hrel
    by_cases hkl : k < l.length
    · obtain ⟨b, o, ha, hr⟩ := (hv.out.below hB.out).range k hkl
      subst ha
      have hst := hid (hF.out.trans (find_step hkl d s))
      generalize l[k] = n at *
      have hnew := hid (heap_alloc_new wr (.cells zeroNod.cells 89))
      obtain ⟨W3, hW3⟩ : ∃ W, W = boxN wr n := ⟨_, rfl⟩
      have hb3 : Below wr.heap.size wr W3 := by rw [hW3]; exact boxN_below _ _
      have hn3 := hid (show W3.heap[wr.heap.size]? = some (.cells n.cells 89 (0, 0)) by rw [hW3]; exact boxN_heap _ _)
      have hB3 := hid (sn hB.out hb3)
      have hY3 := hid ((hb3.block _ (lt_of_block hY.out)).trans hY.out)
      have hkc := hid (kid_any n d W3)
      unfold boxN at hW3
      rw [zeroNod_cells] at hW3 hnew
      replace hr := hid hr
      clear hb3 hB hY hF
      go_wp2_with (first
        | (refine wpList_load_cells (by rfl) 89 (.tmp 15) (by rfl) b (o + k * 12) (by rfl) n.cells _ hr.out Tryz.underlying89 (by rfl) (by kernel_rfl) ?_)
        | (refine wpList_store_row (by rfl) 89 (.tmp 9) (.tmp 16) (by rfl) wr.heap.size n.cells (by rfl) (by rfl) 89 _ hnew.out (by kernel_rfl) (by kernel_rfl) (nod_one n) ?_)
        | (rw [← hW3]; replace hW3 := hid hW3)
        | (refine wpList_load_row (by rfl) 89 (.tmp 9) (by rfl) wr.heap.size (by rfl) 89 n.cells (0, 0) _ hn3.out Tryz.underlying89 (by rfl) (by kernel_rfl) ?_))
      refine hkc.out.mono ?_
      rintro e w4 ⟨rfl, hb4⟩
      have hB4 := hid (sn hB3.out hb4)
      have hY4 := hid ((hb4.block _ (lt_of_block hY3.out)).trans hY3.out)
      have hn4 := hid ((hb4.block _ (lt_of_block hn3.out)).trans hn3.out)
      have q5 : w4.cell? ⟨wr.heap.size, 5, none⟩ = some (.string n.name) := block_cell hn4.out 5
      clear hb4 hkc hr hnew hn3 hB3 hY3
      generalize wr.heap.size = z at *
      rcases hkb : kidB d n with _ | _
      · have hF2 := hid (show findL l d s = findL (l.drop (k + 1)) d s by rw [hst.out, hkb]; rfl)
        clear hkb hst
        go_wp2_with fail
        go_roundw
        case rel => exact ⟨k + 1, by omega, by go_num, hB4, hY4, hF2⟩
        case measure => simp [intOf]; omega
      · have hq : (n.name.toList == s.toList) = decide (n.name = s) := str_beq _ _
        rcases hnb : decide (n.name = s) with _ | _
        · have hF2 := hid (show findL l d s = findL (l.drop (k + 1)) d s by rw [hst.out, hkb, hnb]; rfl)
          rw [hnb] at hq
          clear hkb hst hnb
          go_wp2_with fail
          go_roundw
          case rel => exact ⟨k + 1, by omega, by go_num, hB4, hY4, hF2⟩
          case measure => simp [intOf]; omega
        · have hF2 := hid (show findL l d s = some n by rw [hst.out, hkb, hnb]; rfl)
          rw [hnb] at hq
          clear hkb hst hnb
          go_wp2_with (first
            | (refine wpList_load_row (by rfl) 89 (.tmp 9) (by rfl) z (by rfl) 89 n.cells (0, 0) _ hn4.out Tryz.underlying89 (by rfl) (by kernel_rfl) ?_)
            | (refine wpList_store_row (by rfl) 89 (.tmp 6) (.tmp 26) (by rfl) (w.heap.size + 1) n.cells (by rfl) (by rfl) 89 _ hY4.out (by kernel_rfl) (by kernel_rfl) (nod_one n) ?_))
          refine bodyPost_ret (results_cs rfl _ _ (w.heap.size + 1) _ _ _ _ _ rfl rfl (setRow_heap _ _ _ n.cells _ _ hY4.out) Tryz.underlying89 rfl (by kernel_rfl)) rfl ?_
          refine ⟨?_, below_setRow hB4.out (by omega) _⟩
          rw [hF2.out]; rfl
    · obtain rfl : k = l.length := by omega
      have hF2 := hid (show findL l d s = none by rw [hF.out, List.drop_length]; rfl)
      go_wp2_with (refine wpList_store_row (by rfl) 89 (.tmp 6) (.tmp 28) (by rfl) (w.heap.size + 1) zeroNod.cells (by rfl) (by rfl) 89 _ hY.out (by kernel_rfl) (by kernel_rfl) (by kernel_rfl) ?_)
      refine bodyPost_ret (results_cs rfl _ _ (w.heap.size + 1) _ _ _ _ _ rfl rfl (setRow_heap _ _ _ zeroNod.cells _ _ hY.out) Tryz.underlying89 rfl (by kernel_rfl)) rfl ?_
      refine ⟨?_, below_setRow hB.out (by omega) _⟩
      rw [hF2.out]; rfl
end
end Go.Proofs.YtkefjeabckainaaGreat

namespace Go.Proofs.YtkefjeabckainaaGreat
section
open Go.RowKit
set_option maxRecDepth 100000
set_option linter.unusedVariables false

theorem bytesL_take {l : List Nod} {k : Nat} (hk : k < l.length) : bytesL (l.take (k + 1)) = bytesL (l.take k) + l[k].data.size := by
  unfold bytesL
  rw [List.take_succ_eq_append_getElem hk, List.map_append, List.sum_append_nat]
  rfl
theorem bytesL_le {l : List Nod} (h : ∀ n ∈ l, n.data.size ≤ 1000000) : bytesL l ≤ l.length * 1000000 := by
  induction l with
  | nil => simp [bytesL]
  | cons a l ih =>
    have h1 := ih fun n hn => h n (by simp [hn])
    have h2 := h a (by simp)
    rw [bytes_cons]
    simp only [List.length_cons]; omega

set_option maxHeartbeats 3200000 in
theorem nbytes_any (v : Value) (x : Nat) (l : List Nod) (w : World) (hv : NodsAt w v l) (hl : l.length ≤ 1000) (hd : ∀ n ∈ l, n.data.size ≤ 1000000) :
    Calls Tryz.prog 136 #[.agg #[.int .u64 (x : Int), v]] w fun e w' => e = .returned (.int .i64 (bytesL l : Int)) ∧ Below w.heap.size w w' := by
  obtain ⟨a, c, rfl, g1, g2⟩ := hv.form
  unfold maxLen at g2
  obtain ⟨W, hW⟩ : ∃ W, W = w.alloc (.cells #[.int .u64 (x : Int), .slice a l.length c] 30) := ⟨_, rfl⟩
  have hb0 : Below w.heap.size w W := by rw [hW]; exact (Below.refl w.heap.size w).alloc (Nat.le_refl _) _
  have hx0 : W.heap[w.heap.size]? = some (.cells #[.int .u64 (x : Int), .slice a l.length c] 30 (0, 0)) := by rw [hW, heap_alloc_new]
  have e1 := block_cell hx0 1
  replace hv := hid hv
  replace hb0 := hid hb0
  replace hd := hid hd
  clear hx0
  go_enter Tryz.func136, Tryz.ntmps136
  go_wp2_with (rw [← hW]; replace hW := hid hW)
  go_loopw [3, 9] (fun sv kv wr => ∃ k s : Nat, k ≤ l.length ∧ kv = .int .i64 (k : Int) ∧ sv = .int .i64 (s : Int) ∧ Hid (Below w.heap.size w wr) ∧ Hid (s = bytesL (l.take k))) (fun _ kv _ => l.length - (intOf kv).toNat)
  case atStart => exact ⟨0, 0, by omega, rfl, rfl, hb0, hid rfl⟩
  case round =>
    obtain ⟨k, s, hk, rfl, rfl, hB, hs⟩ := hrel
    by_cases hkl : k < l.length
    · obtain ⟨b, o, ha, hr⟩ := (hv.out.below hB.out).range k hkl
      subst ha
      have hst := hid (bytesL_take hkl)
      have hle := bytesL_le (l := l.take (k + 1)) fun n hn => hd.out n (List.mem_of_mem_take hn)
      have hlt : (l.take (k + 1)).length ≤ 1000 := by simp; omega
      have hsz := hd.out _ (List.getElem_mem hkl)
      have hs2 : s + l[k].data.size ≤ 1000000000 := by rw [hs.out, ← hst.out]; omega
      clear hle hlt
      generalize l[k] = n at *
      have hnew := hid (heap_alloc_new wr (.cells zeroNod.cells 89))
      obtain ⟨W3, hW3⟩ : ∃ W, W = boxN wr n := ⟨_, rfl⟩
      have hb3 : Below wr.heap.size wr W3 := by rw [hW3]; exact boxN_below _ _
      have hn3 : W3.heap[wr.heap.size]? = some (.cells n.cells 89 (0, 0)) := by rw [hW3]; exact boxN_heap _ _
      have q11 : W3.cell? ⟨wr.heap.size, 11, none⟩ = some (.string n.data) := block_cell hn3 11
      have hB3 := hid (sn hB.out hb3)
      unfold boxN at hW3
      rw [zeroNod_cells] at hW3 hnew
      replace hr := hid hr
      clear hb3 hB hn3
      go_wp2_with (first
        | (refine wpList_load_cells (by rfl) 89 (.tmp 11) (by rfl) b (o + k * 12) (by rfl) n.cells _ hr.out Tryz.underlying89 (by rfl) (by kernel_rfl) ?_)
        | (refine wpList_store_row (by rfl) 89 (.tmp 5) (.tmp 12) (by rfl) wr.heap.size n.cells (by rfl) (by rfl) 89 _ hnew.out (by kernel_rfl) (by kernel_rfl) (nod_one n) ?_)
        | (rw [← hW3]; replace hW3 := hid hW3))
      go_roundw
      case rel => exact ⟨k + 1, s + n.data.size, by omega, by go_num, by go_num, hB3, hid (by rw [hst.out, ← hs.out])⟩
      case measure => simp [intOf]; omega
    · obtain rfl : k = l.length := by omega
      have hs2 : s = bytesL l := by have := hs.out; rwa [List.take_length] at this
      subst hs2
      go_wp2_with fail
      go_ret
      exact ⟨rfl, hB.out⟩

theorem nclip_any (v : Value) (l : List Nod) (w : World) (hv : NodsAt w v l) :
    Calls Tryz.prog 103 #[v] w fun e w' => ∃ v', e = .returned v' ∧ NodsAt w v' l ∧ w' = w := by
  obtain ⟨a, c, rfl, g1, g2⟩ := hv.form
  unfold maxLen at g2
  have hc := hid hv.clip
  clear hv
  go_enter Tryz.func103, Tryz.ntmps103
  go_wp2_with fail
  go_ret
  exact ⟨_, rfl, hc.out, rfl⟩
theorem elemN : ElemOk Tryz.prog 28 89 12 120 := elemOk_of (z := .agg zeroNod.cells) Tryz.underlying28 (by kernel_rfl) rfl (by decide)
def NClone (w : World) (l : List Nod) (e : Ending) (w' : World) : Prop := ∃ v', e = .returned v' ∧ w'.ownsRow w.heap.size 89 12 v' l.length (nodsL l) ∧ Below w.heap.size w w'
theorem nclone_any (v : Value) (l : List Nod) (w : World) (hv : NodsAt w v l) (hl : l.length ≤ 1000) :
    Calls Tryz.prog 146 #[v] w (NClone w l) := by
  obtain ⟨a, c, rfl, g1, g2⟩ := hv.form
  unfold maxLen at g2
  have qT := fun (w : World) (a : Option Addr) (n c n' c' : Nat) => Lib.run_eql_slice_nil (P := Tryz.prog) w 28 89 a n c n' c' Tryz.underlying28
  cases a with
  | none =>
    have hc0 : c = 0 := by
      obtain ⟨_, a', c', he, _, _, h3, _⟩ := hv
      cases he
      exact h3 rfl
    subst hc0
    have hl0 : l = [] := List.eq_nil_of_length_eq_zero (by omega)
    subst hl0
    simp only [List.length_nil] at *
    go_enter Tryz.func146, Tryz.ntmps146
    go_wp2_with fail
    go_ret
    exact ⟨_, rfl, World.ownsRow_nil _ _ _ _, Below.refl _ _⟩
  | some ad =>
    have hbA := (Below.refl w.heap.size w).alloc (Nat.le_refl _) (.cells #[] 89)
    have hvA := hid (hv.below hbA)
    replace hv := hid hv
    replace hbA := hid hbA
    go_enter Tryz.func146, Tryz.ntmps146
    go_wp2_with (at_builtin; refine wpList_append_weak elemN _ rfl (.tmp 5) (.tmp 6) rfl w.heap.size _ 0 [] rfl (own_empty w _ _) _ l.length (nodsL l) rfl hvA.out (nodsL_one l) (by unfold maxLen; omega) (by omega) (by simp) ?_)
    intro a6 c6 w6 h6 g6
    have hB6 := hid (hbA.out.grown g6 (by simp) (fun j hj => by cases hj; exact Nat.le_refl _))
    go_wp2_with fail
    go_ret
    (try simp only [Nat.zero_add] at h6)
    exact ⟨_, rfl, h6, hB6.out⟩
end
end Go.Proofs.YtkefjeabckainaaGreat

namespace Go.Proofs.YtkefjeabckainaaGreat
section
open Go.RowKit
set_option maxRecDepth 100000
set_option linter.unusedVariables false

def stA (cs : Array Value) : Nat → List Value → Array Value
  | _, [] => cs
  | i, u :: us => stA (cs.setIfInBounds i u) (i + 1) us
theorem stA_size : ∀ (us : List Value) (i : Nat) (cs : Array Value), (stA cs i us).size = cs.size
  | [], _, _ => rfl
  | u :: us, i, cs => by show (stA (cs.setIfInBounds i u) (i + 1) us).size = _; rw [stA_size us]; simp
theorem stA_get : ∀ (us : List Value) (i : Nat) (cs : Array Value) (k : Nat), k < cs.size → (stA cs i us)[k]? = if i ≤ k ∧ k < i + us.length then us[k - i]? else cs[k]?
  | [], i, cs, k, _ => by rw [if_neg (by simp only [List.length_nil]; omega)]; rfl
  | u :: us, i, cs, k, hk => by
    show (stA (cs.setIfInBounds i u) (i + 1) us)[k]? = _
    rw [stA_get us (i + 1) _ k (by simpa using hk)]
    by_cases h1 : i + 1 ≤ k ∧ k < i + 1 + us.length
    · rw [if_pos h1, if_pos (by simp only [List.length_cons]; omega)]
      obtain ⟨j, rfl⟩ : ∃ j, k = i + 1 + j := ⟨k - (i + 1), by omega⟩
      rw [show i + 1 + j - (i + 1) = j by omega, show i + 1 + j - i = j + 1 by omega, List.getElem?_cons_succ]
    · rw [if_neg h1]
      by_cases h2 : k = i
      · subst h2
        rw [if_pos (by simp only [List.length_cons]; omega), Nat.sub_self, List.getElem?_cons_zero, Array.getElem?_setIfInBounds_self_of_lt hk]
      · rw [if_neg (by simp only [List.length_cons]; omega), Array.getElem?_setIfInBounds_ne (by omega)]
theorem stA_heap {q : Nat} {T : TypeId} : ∀ (us : List Value) (i : Nat) (w : World) (cs : Array Value), w.heap[q]? = some (.cells cs T (0, 0)) → (w.setCells q i us).heap[q]? = some (.cells (stA cs i us) T (0, 0)) ∧ (∀ k, k ≠ q → (w.setCells q i us).heap[k]? = w.heap[k]?) ∧ Below q w (w.setCells q i us)
  | [], _, w, _, h => ⟨h, fun _ _ => rfl, Below.refl _ _⟩
  | u :: us, i, w, cs, h => by
    obtain ⟨h1, h2, h3⟩ := stA_heap us (i + 1) (w.setCell ⟨q, i, none⟩ u) (cs.setIfInBounds i u) (block_set h i u)
    refine ⟨h1, fun k hk => (h2 k hk).trans (block_set_other hk), ((Below.refl q w).setCell (by simp) _).trans h3⟩
theorem own_there {w : World} {base e k n c i : Nat} {g : Nat} {xs : List Value} (h : w.ownsRow base e k (.slice (some ⟨g, 0, none⟩) n c) n xs) (hi : i < n) : w.there g (i * k) k := by
  rcases h.2 with ⟨h1, _⟩ | ⟨g', cap, cur, hv, hb, hg, h1, h2, h3, h4⟩
  · cases h1
  · cases hv
    intro j hj
    have hlt : i * k + j < cur.size := by
      have := Nat.mul_le_mul_right k (show i + 1 ≤ n from hi)
      rw [Nat.add_mul, Nat.one_mul] at this
      have := Nat.mul_le_mul_right k h1
      omega
    refine ⟨?_, block_free hg _⟩
    rw [block_cell hg, Array.getElem?_eq_getElem hlt]; rfl
theorem nodsL_set (l : List Nod) (i : Nat) (x : Nod) (hi : i < l.length) (k : Nat) (hk : k < l.length * 12) : (nodsL (l.set i x))[k]? = if i * 12 ≤ k ∧ k < i * 12 + 12 then x.cells.toList[k - i * 12]? else (nodsL l)[k]? := by
  have hq : k = k / 12 * 12 + k % 12 := by omega
  have h1 : k / 12 < l.length := by omega
  have h2 : k % 12 < 12 := by omega
  by_cases h : i * 12 ≤ k ∧ k < i * 12 + 12
  · rw [if_pos h]
    have e : k / 12 = i := by omega
    conv => lhs; rw [hq, nodsL_get _ _ _ (by simpa using h1) h2]
    simp only [e, List.getElem_set_self]
    rw [show k - i * 12 = k % 12 by omega]
  · rw [if_neg h]
    have e : i ≠ k / 12 := by omega
    conv => lhs; rw [hq, nodsL_get _ _ _ (by simpa using h1) h2]
    conv => rhs; rw [hq, nodsL_get _ _ _ h1 h2]
    rw [List.getElem_set_ne e]
theorem own_set {w : World} {base e n c g i : Nat} {l : List Nod} {x : Nod} (h : w.ownsRow base e 12 (.slice (some ⟨g, 0, none⟩) n c) n (nodsL l)) (hi : i < n) :
    (w.setCells g (i * 12) x.cells.toList).ownsRow base e 12 (.slice (some ⟨g, 0, none⟩) n c) n (nodsL (l.set i x)) ∧ Below base w (w.setCells g (i * 12) x.cells.toList) ∧ ∀ k, k ≠ g → (w.setCells g (i * 12) x.cells.toList).heap[k]? = w.heap[k]? := by
  have hln : n = l.length := by have := h.1; rw [nodsL_length] at this; omega
  rcases h.2 with ⟨h1, _⟩ | ⟨g', cap, cur, hv, hb, hg, h1, h2, h3, h4⟩
  · cases h1
  · cases hv
    obtain ⟨a1, a2, a3⟩ := stA_heap x.cells.toList (i * 12) w cur hg
    refine ⟨⟨by rw [nodsL_length, List.length_set, ← hln], .inr ⟨g, c, _, rfl, hb, a1, h1, h2, by rw [stA_size]; exact h3, ?_⟩⟩, a3.mono hb, a2⟩
    have hl12 : x.cells.toList.length = 12 := by rw [nod_cells]; rfl
    apply List.ext_getElem?
    intro k
    by_cases hk : k < n * 12
    · rw [List.getElem?_take_of_lt hk, Array.getElem?_toList, stA_get _ _ _ _ (by have := Nat.mul_le_mul_right 12 h1; omega), nodsL_set l i x (by omega) k (by omega), hl12]
      by_cases hh : i * 12 ≤ k ∧ k < i * 12 + 12
      · rw [if_pos hh, if_pos hh]
      · rw [if_neg hh, if_neg hh, ← h4, List.getElem?_take_of_lt hk, Array.getElem?_toList]
    · rw [List.getElem?_eq_none (by simp; omega), List.getElem?_eq_none (by rw [nodsL_length]; simp; omega)]
theorem own_ptr {w : World} {base e k n : Nat} {v : Value} {xs : List Value} (h : w.ownsRow base e k v n xs) (h0 : 0 < n) : ∃ g c, v = .slice (some ⟨g, 0, none⟩) n c ∧ n ≤ c ∧ c ≤ maxLen ∧ base ≤ g := by
  rcases h.2 with ⟨_, h1⟩ | ⟨g', cap, cur, hv, hb, hg, h1, h2, h3, h4⟩
  · omega
  · exact ⟨g', cap, hv, h1, h2, hb⟩
end
end Go.Proofs.YtkefjeabckainaaGreat

namespace Go.Proofs.YtkefjeabckainaaGreat
section
open Go.RowKit
set_option maxRecDepth 100000
set_option linter.unusedVariables false

theorem nclip_eq (a : Option Addr) (n c : Nat) (w : World) (h1 : n ≤ c) (h2 : c ≤ maxLen) :
    Calls Tryz.prog 103 #[.slice a n c] w fun e w' => e = .returned (.slice a n n) ∧ w' = w := by
  unfold maxLen at h2
  go_enter Tryz.func103, Tryz.ntmps103
  go_wp2_with fail
  go_ret
  exact ⟨rfl, rfl⟩
def rootN (uid : ByteArray) (now : Nat) : Nod := ⟨1, 0, 2147484157, now, now, slashS, uid, uid, uid, 1, false, ⟨#[]⟩⟩
theorem NodsAt.block {w : World} {g : Nat} {l : List Nod} {t : TypeId} {fr : Nat × Nat} (h : w.heap[g]? = some (.cells (nodsL l).toArray t fr)) (hl : l.length ≤ maxLen) : NodsAt w (.slice (some ⟨g, 0, none⟩) l.length l.length) l := by
  have := (RowAt.of_block (k := 12) (n := l.length) h (by simp [nodsL_length]) hl).weak
  unfold NodsAt
  simpa using this
set_option maxHeartbeats 1600000 in
theorem new_any (uid : ByteArray) (now : Nat) (w : World) :
    Calls Tryz.prog 9 #[.string uid, .int .u32 (now : Int)] w fun e w' => ∃ v', e = .returned (.agg #[.int .u64 2, v']) ∧ NodsAt w' v' [rootN uid now] ∧ Below w.heap.size w w' := by
  go_enter Tryz.func9, Tryz.ntmps9
  go_wp2_with fail
  have hB : Below w.heap.size w ((w.alloc (.cells #[.int .u64 2, .slice (some ⟨w.heap.size + 1, 0, none⟩) 1 1] 30)).alloc (.cells (rootN uid now).cells 89)) := ((Below.refl w.heap.size w).alloc (Nat.le_refl _) _).alloc (by simp) _
  refine bodyPost_ret (results_cell_row rfl _ _ w.heap.size _ #[.int .u64 2, .slice (some ⟨w.heap.size + 1, 0, none⟩) 1 1] _ _ rfl (by rw [heap_alloc_old _ _ (by simp), heap_alloc_new]) Tryz.underlying30 rfl (by kernel_rfl)) rfl ?_
  exact ⟨_, rfl, NodsAt.block (l := [rootN uid now]) (heap2 _ _ (.cells (rootN uid now).cells 89)) (by unfold maxLen; simp), hB⟩

set_option maxHeartbeats 1600000 in
theorem insert_end (v : Value) (l : List Nod) (x : Nod) (g base : Nat) (w : World) (hv : w.ownsRow base 89 12 v l.length (nodsL l)) (hg : w.heap[g]? = some (.cells x.cells 89 (0, 0))) (hl : l.length ≤ 1000) (hb : base ≤ w.heap.size) :
    Calls Tryz.prog 147 #[v, .int .i64 (l.length : Int), .slice (some ⟨g, 0, none⟩) 1 1] w fun e w' => ∃ v', e = .returned v' ∧ w'.ownsRow base 89 12 v' (l ++ [x]).length (nodsL (l ++ [x])) ∧ w.grownBy w' v.ownBlock := by
  obtain ⟨a, c, rfl, g1, g2⟩ := (NodsAt.of_own hv).form
  unfold maxLen at g2
  have hx : Hid (NodsAt w (.slice (some ⟨g, 0, none⟩) 1 1) [x]) := hid (by
    have hg' : w.heap[g]? = some (.cells (nodsL [x]).toArray 89 (0, 0)) := hg
    exact NodsAt.block (l := [x]) hg' (by unfold maxLen; simp))
  have k1 : ((l.length : Int) == (l.length : Int)) = true := by simp
  replace hv := hid hv
  clear hg
  by_cases hc : c = l.length
  · subst hc
    go_enter Tryz.func147, Tryz.ntmps147
    go_wp2_with (at_builtin; refine wpList_append_weak elemN _ rfl (.tmp 23) (.tmp 24) rfl base _ l.length (nodsL l) rfl hv.out _ 1 (nodsL [x]) rfl hx.out (nodsL_one _) (by unfold maxLen; omega) (by omega) hb ?_)
    intro a6 c6 w6 h6 g6
    go_wp2_with fail
    go_ret
    exact ⟨_, rfl, by rw [nodsL_append, List.length_append]; exact h6, g6⟩
  · go_enter Tryz.func147, Tryz.ntmps147
    go_wp2_with (at_builtin; refine wpList_append_weak elemN _ rfl (.tmp 23) (.tmp 24) rfl base _ l.length (nodsL l) rfl hv.out _ 1 (nodsL [x]) rfl hx.out (nodsL_one _) (by unfold maxLen; omega) (by omega) hb ?_)
    intro a6 c6 w6 h6 g6
    go_wp2_with fail
    go_ret
    exact ⟨_, rfl, by rw [nodsL_append, List.length_append]; exact h6, g6⟩
end
end Go.Proofs.YtkefjeabckainaaGreat

namespace Go.Proofs.YtkefjeabckainaaGreat
section
open Go.RowKit
theorem own_below {w w' : World} {base e k n : Nat} {v : Value} {xs : List Value} (h2 : w.ownsRow base e k v n xs) (hb : Below w.heap.size w w') : w'.ownsRow base e k v n xs := by
  refine ⟨h2.1, ?_⟩
  rcases h2.2 with h3 | ⟨g, cap, cur, hv, hg, hh, r⟩
  · exact .inl h3
  · exact .inr ⟨g, cap, cur, hv, hg, (hb.block g (lt_of_block hh)).trans hh, r⟩
end
end Go.Proofs.YtkefjeabckainaaGreat

namespace Go.Proofs.YtkefjeabckainaaGreat
section
open Go.RowKit
set_option maxRecDepth 100000
set_option linter.unusedVariables false

theorem NodsAt.other {w w' : World} {v : Value} {l : List Nod} (h : NodsAt w v l) (z : Nat) (hz : v.ownBlock ≠ some z) (hs : w.heap.size ≤ w'.heap.size) (hk : ∀ k, k ≠ z → w'.heap[k]? = w.heap[k]?) : NodsAt w' v l := by
  obtain ⟨hl, a, c, hv, h1, h2, h3, h4⟩ := h
  refine ⟨hl, a, c, hv, h1, h2, h3, fun i u hu => ?_⟩
  obtain ⟨b, o, ha, hc⟩ := h4 i u hu
  refine ⟨b, o, ha, ?_⟩
  subst hv ha
  rw [World.cell?_of_block (w := w) (hk b (fun e => hz (by rw [← e]; rfl)))]
  exact hc
theorem ownBlock_cap (a : Option Addr) (n c n' c' : Nat) : (Value.slice a n c).ownBlock = (Value.slice a n' c').ownBlock := by cases a <;> rfl
def SetPost (w : World) (x : Nat) (L : List Nod) (e : Ending) (w' : World) : Prop := ∃ v', e = .returned (.agg #[.int .u64 (x : Int), v']) ∧ NodsAt w' v' L ∧ (∀ k, v'.ownBlock = some k → w.heap.size ≤ k) ∧ Below w.heap.size w w'

set_option maxHeartbeats 6400000 in
theorem nset_any (v : Value) (x : Nat) (l : List Nod) (n : Nod) (w : World) (hv : NodsAt w v l) (hs : SortL l) (hl : l.length ≤ 900) (hn : (getL l n.path).isSome = true ∨ belowN l n.path = l.length) :
    Calls Tryz.prog 92 #[.agg #[.int .u64 (x : Int), v], .agg n.cells] w (SetPost w x (setL l n)) := by
  obtain ⟨a, c, rfl, g1, g2⟩ := hv.form
  unfold maxLen at g2
  obtain ⟨W, hW⟩ : ∃ W, W = ((w.alloc (.cells #[.int .u64 (x : Int), .slice a l.length c] 30)).alloc (.cells n.cells 89)).alloc (.cells #[.int .u64 0, .slice none 0 0] 30) := ⟨_, rfl⟩
  have hb0 : Below w.heap.size w W := by rw [hW]; exact (((Below.refl w.heap.size w).alloc (Nat.le_refl _) _).alloc (by simp) _).alloc (by simp; omega) _
  have hx0 : W.heap[w.heap.size]? = some (.cells #[.int .u64 (x : Int), .slice a l.length c] 30 (0, 0)) := by rw [hW, heap_alloc_old _ _ (by simp; omega), heap_alloc_old _ _ (by simp), heap_alloc_new]
  have hy0 : W.heap[w.heap.size + 1]? = some (.cells n.cells 89 (0, 0)) := by rw [hW, heap_alloc_old _ _ (by simp)]; exact heap2 _ _ _
  have hz0 : W.heap[w.heap.size + 2]? = some (.cells #[.int .u64 0, .slice none 0 0] 30 (0, 0)) := by
    rw [hW]
    have := heap_alloc_new ((w.alloc (.cells #[.int .u64 (x : Int), .slice a l.length c] 30)).alloc (.cells n.cells 89)) (.cells #[.int .u64 0, .slice none 0 0] 30)
    simpa using this
  have hv0 := hid (hv.below hb0)
  have hf := hid (fun X (h : NodsAt X (.slice a l.length c) l) => tfind_any _ x l n.path X h hs (by omega))
  have hcl0 := hid (fun X (h : NodsAt X (.slice a l.length c) l) => nclone_any _ l X h (by omega))
  have hhit := hid (set_hit hs n)
  have hmiss := hid (set_miss hs n)
  have hga := hid (get_at hs n.path)
  have e0 := block_cell hx0 0
  have e1 := block_cell hx0 1
  have e2 : W.cell? ⟨w.heap.size + 1, 0, none⟩ = some (.int .u64 (n.path : Int)) := block_cell hy0 0
  have hzz := lt_of_block hz0
  replace hb0 := hid hb0
  replace hx0 := hid hx0
  replace hy0 := hid hy0
  replace hz0 := hid hz0
  clear hv hs
  go_enter Tryz.func92, Tryz.ntmps92
  go_wp2_with (rw [← hW]; replace hW := hid hW)
  try (rw [← hW]; replace hW := hid hW)
  refine (hf.out _ hv0.out).mono ?_
  rintro e w1 ⟨rfl, hb1⟩
  have hB1 := hid (sn hb0.out hb1)
  have hx1 := hid ((hb1.block _ (lt_of_block hx0.out)).trans hx0.out)
  have hy1 := hid ((hb1.block _ (lt_of_block hy0.out)).trans hy0.out)
  have hz1 := hid ((hb1.block _ (lt_of_block hz0.out)).trans hz0.out)
  have hv1 := hid (hv0.out.below hb1)
  have hlt1 := lt_of_block hz1.out
  clear e0 e1 e2 hb1
  have e1 := block_cell hx1.out 1
  go_wp2_with fail
  refine (hcl0.out _ hv1.out).mono ?_
  rintro e w2 ⟨v2, rfl, ho2, hb2⟩
  have hB2 := hid (sn hB1.out hb2)
  have hx2 := hid ((hb2.block _ (lt_of_block hx1.out)).trans hx1.out)
  have hy2 := hid ((hb2.block _ (lt_of_block hy1.out)).trans hy1.out)
  have hz2 := hid ((hb2.block _ (lt_of_block hz1.out)).trans hz1.out)
  have hsz2 := hb2.size
  replace ho2 := hid ho2
  clear e1 hb2
  rcases hr : (getL l n.path).isSome with _ | _
  · have hend : belowN l n.path = l.length := by
      rcases hn with h | h
      · rw [hr] at h; cases h
      · exact h
    have hgn : getL l n.path = none := by simpa using hr
    have hL := hid (show setL l n = l ++ [n] by rw [hmiss.out hgn, hend, List.take_length, List.drop_length])
    rw [hend]
    clear hn hr hend hgn hmiss hhit hga
    have hbx : Below w2.heap.size w2 (w2.alloc (.cells n.cells 89)) := (Below.refl _ _).alloc (Nat.le_refl _) _
    have ho3 := own_below ho2.out hbx
    have hins := hid (insert_end v2 l n w2.heap.size w1.heap.size (w2.alloc (.cells n.cells 89)) ho3 (heap_alloc_new _ _) (by omega) (by simp; omega))
    have hB3 := hid (sn hB2.out hbx)
    have hx3 := hid ((hbx.block _ (lt_of_block hx2.out)).trans hx2.out)
    have hz3 := hid ((hbx.block _ (lt_of_block hz2.out)).trans hz2.out)
    have hown : ∀ k, v2.ownBlock = some k → w1.heap.size ≤ k := fun k hk => (ho2.out.lt k hk).1
    have hown := hid hown
    rw [nod_cells] at hins hx3 hz3 hB3 hy2
    clear hbx ho3
    go_wp2_with (refine wpList_load_row (by rfl) 89 (.tmp 3) (by rfl) (w.heap.size + 1) (by rfl) 89 _ (0, 0) _ hy2.out Tryz.underlying89 (by rfl) (by kernel_rfl) ?_)
    refine hins.out.mono ?_
    rintro e X ⟨vX, rfl, hoX, hgX⟩
    obtain ⟨L, hLL⟩ : ∃ L, L = l ++ [n] := ⟨_, rfl⟩
    rw [← hLL] at hoX hL
    replace hLL := hid hLL
    have hXN := hid (NodsAt.of_own hoX)
    have hX0 := hid ((hgX.block _ (lt_of_block hx3.out) (fun e => by have := hown.out _ e.symm; omega)).trans hx3.out)
    have hX2 := hid ((hgX.block _ (lt_of_block hz3.out) (fun e => by have := hown.out _ e.symm; omega)).trans hz3.out)
    have hXB := hid (hB3.out.grown hgX (by have := hB3.out.size; exact this) (fun j hj => by have := hown.out _ hj; omega))
    have hXf := hid (show ∀ k, vX.ownBlock = some k → w.heap.size ≤ k from fun k hk => by have := (hoX.lt _ hk).1; omega)
    have hXn := hid (show vX.ownBlock ≠ some (w.heap.size + 2) from fun e => by have := (hoX.lt _ e).1; omega)
    clear hoX hgX hins
    have q0 : X.cell? ⟨w.heap.size, 0, none⟩ = some (.int .u64 (x : Int)) := block_cell hX0.out 0
    have q0d : X.drew.cell? ⟨w.heap.size, 0, none⟩ = some (.int .u64 (x : Int)) := block_cell hX0.out 0
    have g0 : X.cell? ⟨w.heap.size + 1 + 1, 0, none⟩ = some (.int .u64 0) := block_cell hX2.out 0
    have g1 : X.cell? ⟨w.heap.size + 1 + 1, 1, none⟩ = some (.slice none 0 0) := block_cell hX2.out 1
    have f0 : X.frozen? ⟨w.heap.size + 1 + 1, 0, none⟩ = false := block_free hX2.out 0
    have f1 : X.frozen? ⟨w.heap.size + 1 + 1, 1, none⟩ = false := block_free hX2.out 1
    have ff0 : X.drew.frozen? ⟨w.heap.size + 1 + 1, 0, none⟩ = false := f0
    have ff1 : X.drew.frozen? ⟨w.heap.size + 1 + 1, 1, none⟩ = false := f1
    have gg0 : X.drew.cell? ⟨w.heap.size + 1 + 1, 0, none⟩ = some (.int .u64 0) := g0
    have gg1 : X.drew.cell? ⟨w.heap.size + 1 + 1, 1, none⟩ = some (.slice none 0 0) := g1
    obtain ⟨ax, cx, rfl, x1, x2⟩ := hXN.out.form
    have hzz := hid (block_set (block_set hX2.out 0 (.int .u64 (x : Int))) 1 (.slice ax L.length L.length))
    have hzB := hid (((hXB.out.setCell (p := ⟨w.heap.size + 1 + 1, 0, none⟩) (by show w.heap.size ≤ w.heap.size + 1 + 1; omega) (.int .u64 (x : Int))).setCell (p := ⟨w.heap.size + 1 + 1, 1, none⟩) (by show w.heap.size ≤ w.heap.size + 1 + 1; omega) (.slice ax L.length L.length)).drew)
    have hx9 : Hid (((X.setCell ⟨w.heap.size + 1 + 1, 0, none⟩ (.int .u64 (x : Int))).setCell ⟨w.heap.size + 1 + 1, 1, none⟩ (.slice ax L.length L.length)).drew.heap[w.heap.size]? = _) := hid ((block_set_other (by show w.heap.size ≠ w.heap.size + 1 + 1; omega)).trans ((block_set_other (by show w.heap.size ≠ w.heap.size + 1 + 1; omega)).trans hX0.out))
    have hNz := hid (NodsAt.below hXN.out.clip (show Below X.heap.size X X from Below.refl _ _))
    have hN9 : Hid (NodsAt ((X.setCell ⟨w.heap.size + 1 + 1, 0, none⟩ (.int .u64 (x : Int))).setCell ⟨w.heap.size + 1 + 1, 1, none⟩ (.slice ax L.length L.length)).drew (.slice ax L.length L.length) L) := hid (NodsAt.other hXN.out.clip (w.heap.size + 1 + 1) (by rw [ownBlock_cap ax _ _ L.length cx]; exact hXn.out) (by simp) fun k hk => (block_set_other (by show k ≠ _; exact hk)).trans (block_set_other (by show k ≠ _; exact hk)))
    have hcl := hid (fun W => nclip_eq ax L.length cx W x1 x2)
    replace hX0 := hid hX0.out
    go_wp2_with fail
    go_region_held3 (fun w' => w'.cell? ⟨w.heap.size, 0, none⟩ = some (.int .u64 (x : Int)))
      (first | exact q0d | exact block_cell hx9.out 0 | go_keep)
      ((go_at_call 103; (with_reducible refine (hcl.out _).mono ?_); rintro e wc ⟨rfl, rfl⟩))
    clear q0 q0d g0 g1 f0 f1 ff0 ff1 gg0 gg1
    all_goals
      go_wp2_with fail
      refine bodyPost_ret (results_cell_row rfl _ _ (w.heap.size + 1 + 1) _ _ _ _ rfl hzz.out Tryz.underlying30 rfl (by kernel_rfl)) rfl ?_
      exact ⟨_, rfl, by rw [hL.out]; exact hN9.out, fun k hk => hXf.out k (by rw [ownBlock_cap ax _ _ L.length L.length]; exact hk), hzB.out⟩
  · obtain ⟨m, hm⟩ := Option.isSome_iff_exists.1 hr
    have hq : Hid (∃ h : belowN l n.path < l.length, l[belowN l n.path].path = n.path) := hid (by
      have h := hga.out
      rw [hm] at h
      cases hh : l[belowN l n.path]? with
      | none => rw [hh] at h; cases h
      | some k =>
        rw [hh] at h
        simp only at h
        obtain ⟨h1, h2⟩ := List.getElem?_eq_some_iff.1 hh
        by_cases e : k.path = n.path
        · exact ⟨h1, by rw [h2]; exact e⟩
        · rw [if_neg e] at h; cases h)
    obtain ⟨hql, hqp⟩ := hq.out
    have hL := hid (hhit.out hql hqp)
    clear hn hr hm hmiss hhit hga hqp hq
    generalize belowN l n.path = q at *
    obtain ⟨g, c2, rfl, c21, c22, hgb⟩ := own_ptr ho2.out (by omega)
    unfold maxLen at c22
    have hth := hid (own_there ho2.out hql)
    obtain ⟨s1, s2, s3⟩ := own_set (x := n) ho2.out hql
    obtain ⟨X, hX⟩ : ∃ X, X = w2.setCells g (q * 12) n.cells.toList := ⟨_, rfl⟩
    rw [← hX] at s1 s2 s3
    obtain ⟨L, hLL⟩ : ∃ L, L = l.set q n := ⟨_, rfl⟩
    rw [← hLL] at hL s1
    have hlen : L.length = l.length := by rw [hLL]; simp
    replace hLL := hid hLL
    have hXN : Hid (NodsAt X (.slice (some ⟨g, 0, none⟩) l.length c2) L) := hid (NodsAt.of_own s1)
    have hX0 := hid ((s3 w.heap.size (by omega)).trans hx2.out)
    have hX2 := hid ((s3 (w.heap.size + 2) (by omega)).trans hz2.out)
    have hXB := hid (hB2.out.trans (s2.mono (by omega)))
    have hXf := hid (show ∀ k, (Value.slice (some ⟨g, 0, none⟩) l.length c2).ownBlock = some k → w.heap.size ≤ k from fun k hk => by have h3 : g = k := Option.some.inj hk; omega)
    have hXn := hid (show (Value.slice (some ⟨g, 0, none⟩) l.length c2).ownBlock ≠ some (w.heap.size + 2) from fun e => by have h3 : g = w.heap.size + 2 := Option.some.inj e; omega)
    clear s1 s2 s3
    rw [← hlen] at hXN hXn hXf
    go_upto_region 6 with (first
      | (refine wpList_load_row (by rfl) 89 (.tmp 3) (by rfl) (w.heap.size + 1) (by rfl) 89 n.cells (0, 0) _ hy2.out Tryz.underlying89 (by rfl) (by kernel_rfl) ?_)
      | (refine wpList_store_mid (by rfl) 89 (.tmp 22) (.tmp 21) (by rfl) g (q * 12) n.cells (by rfl) (by rfl) hth.out (by kernel_rfl) (nod_one n) ?_)
      | (rw [← hX]; replace hX := hid hX))
    try (rw [← hX]; replace hX := hid hX)
    rw [← hlen]
    have q0 : X.cell? ⟨w.heap.size, 0, none⟩ = some (.int .u64 (x : Int)) := block_cell hX0.out 0
    have q0d : X.drew.cell? ⟨w.heap.size, 0, none⟩ = some (.int .u64 (x : Int)) := block_cell hX0.out 0
    have g0 : X.cell? ⟨w.heap.size + 1 + 1, 0, none⟩ = some (.int .u64 0) := block_cell hX2.out 0
    have g1 : X.cell? ⟨w.heap.size + 1 + 1, 1, none⟩ = some (.slice none 0 0) := block_cell hX2.out 1
    have f0 : X.frozen? ⟨w.heap.size + 1 + 1, 0, none⟩ = false := block_free hX2.out 0
    have f1 : X.frozen? ⟨w.heap.size + 1 + 1, 1, none⟩ = false := block_free hX2.out 1
    have ff0 : X.drew.frozen? ⟨w.heap.size + 1 + 1, 0, none⟩ = false := f0
    have ff1 : X.drew.frozen? ⟨w.heap.size + 1 + 1, 1, none⟩ = false := f1
    have gg0 : X.drew.cell? ⟨w.heap.size + 1 + 1, 0, none⟩ = some (.int .u64 0) := g0
    have gg1 : X.drew.cell? ⟨w.heap.size + 1 + 1, 1, none⟩ = some (.slice none 0 0) := g1
    have x1 : L.length ≤ c2 := by omega
    have x2 : c2 ≤ maxLen := by unfold maxLen; omega
    have hzz := hid (block_set (block_set hX2.out 0 (.int .u64 (x : Int))) 1 (.slice (some ⟨g, 0, none⟩) L.length L.length))
    have hzB := hid (((hXB.out.setCell (p := ⟨w.heap.size + 1 + 1, 0, none⟩) (by show w.heap.size ≤ w.heap.size + 1 + 1; omega) (.int .u64 (x : Int))).setCell (p := ⟨w.heap.size + 1 + 1, 1, none⟩) (by show w.heap.size ≤ w.heap.size + 1 + 1; omega) (.slice (some ⟨g, 0, none⟩) L.length L.length)).drew)
    have hx9 : Hid (((X.setCell ⟨w.heap.size + 1 + 1, 0, none⟩ (.int .u64 (x : Int))).setCell ⟨w.heap.size + 1 + 1, 1, none⟩ (.slice (some ⟨g, 0, none⟩) L.length L.length)).drew.heap[w.heap.size]? = _) := hid ((block_set_other (by show w.heap.size ≠ w.heap.size + 1 + 1; omega)).trans ((block_set_other (by show w.heap.size ≠ w.heap.size + 1 + 1; omega)).trans hX0.out))
    have hNz := hid (NodsAt.below hXN.out.clip (show Below X.heap.size X X from Below.refl _ _))
    have hN9 : Hid (NodsAt ((X.setCell ⟨w.heap.size + 1 + 1, 0, none⟩ (.int .u64 (x : Int))).setCell ⟨w.heap.size + 1 + 1, 1, none⟩ (.slice (some ⟨g, 0, none⟩) L.length L.length)).drew (.slice (some ⟨g, 0, none⟩) L.length L.length) L) := hid (NodsAt.other hXN.out.clip (w.heap.size + 1 + 1) (by rw [ownBlock_cap (some ⟨g, 0, none⟩) _ _ L.length c2]; exact hXn.out) (by simp) fun k hk => (block_set_other (by show k ≠ _; exact hk)).trans (block_set_other (by show k ≠ _; exact hk)))
    have hcl := hid (fun W => nclip_eq (some ⟨g, 0, none⟩) L.length c2 W x1 x2)
    replace hX0 := hid hX0.out
    replace hlen := hid hlen
    go_region_held3 (fun w' => w'.cell? ⟨w.heap.size, 0, none⟩ = some (.int .u64 (x : Int)))
      (first | exact q0d | exact block_cell hx9.out 0 | go_keep)
      ((go_at_call 103; (with_reducible refine (hcl.out _).mono ?_); rintro e wc ⟨rfl, rfl⟩))
    clear q0 q0d g0 g1 f0 f1 ff0 ff1 gg0 gg1
    all_goals
      go_wp2_with fail
      refine bodyPost_ret (results_cell_row rfl _ _ (w.heap.size + 1 + 1) _ _ _ _ rfl hzz.out Tryz.underlying30 rfl (by kernel_rfl)) rfl ?_
      exact ⟨_, rfl, by rw [hL.out]; exact hN9.out, fun k hk => hXf.out k (by rw [ownBlock_cap (some ⟨g, 0, none⟩) _ _ L.length L.length]; exact hk), hzB.out⟩
end
end Go.Proofs.YtkefjeabckainaaGreat

namespace Go.Proofs.YtkefjeabckainaaGreat
section
open Go.RowKit
set_option maxRecDepth 100000
set_option linter.unusedVariables false

def TestsN (f : FuncId) (cap : Array Value) (base : Nat) (w : World) (p : Nod → Bool) : Prop := ∀ n w', Below base w w' → Calls Tryz.prog f (#[.agg n.cells] ++ cap) w' fun e w2 => e = .returned (.bool (p n)) ∧ Below w'.heap.size w' w2
def Enters (f : FuncId) : Prop := ∀ args W, Sem.run Tryz.prog (callFunc f args) W = .ok (.enter f args) W
theorem sb {B : Nat} {w w1 w2 : World} (h : Below B w w1) (h2 : Below w1.heap.size w1 w2) (hB : B ≤ w.heap.size) : Below B w w2 := h.trans (h2.mono (Nat.le_trans hB h.size))
def IdxN (base : Nat) (w : World) (l : List Nod) (p : Nod → Bool) (e : Ending) (w' : World) : Prop :=
  ∃ i : Int, e = .returned (.int .i64 i) ∧ ((i = -1 ∧ ∀ n ∈ l, p n = false) ∨ ∃ (k : Nat) (h : k < l.length), i = (k : Int) ∧ p l[k] = true ∧ ∀ j (h : j < l.length), j < k → p l[j] = false) ∧ Below w.heap.size w w'

set_option maxHeartbeats 1600000 in
theorem nidx_any (v : Value) (l : List Nod) (f : FuncId) (cap : Array Value) (base : Nat) (p : Nod → Bool) (w : World) (hv : NodsAt w v l) (hl : l.length ≤ 1000) (hT : TestsN f cap base w p) (hE : Enters f) (hB : base ≤ w.heap.size) :
    Calls Tryz.prog 188 #[v, .func (.func f) #[] cap] w (IdxN base w l p) := by
  obtain ⟨a, c, rfl, g1, g2⟩ := hv.form
  unfold maxLen at g2
  replace hv := hid hv
  replace hT := hid hT
  replace hE := hid hE
  replace hB := hid hB
  go_enter Tryz.func188, Tryz.ntmps188
  go_wp2_with fail
  go_loopw [8] (fun kv wr => ∃ k : Nat, k ≤ l.length ∧ kv = .int .i64 (k : Int) ∧ Hid (Below w.heap.size w wr) ∧ Hid (∀ j (h : j < l.length), j < k → p l[j] = false)) (fun kv _ => l.length - (intOf kv).toNat)
  case atStart => exact ⟨0, by omega, rfl, hid (Below.refl _ _), hid (fun j _ h => by omega)⟩
  case round =>
    obtain ⟨k, hk, rfl, hBr, hall⟩ := hrel
    by_cases hkl : k < l.length
    · obtain ⟨b, o, ha, hr⟩ := (hv.out.below hBr.out).range k hkl
      subst ha
      have hpk : Hid (∀ q, p l[k] = q → q = p l[k]) := hid (fun q h => h.symm)
      obtain ⟨n, hn⟩ : ∃ n, n = l[k] := ⟨_, rfl⟩
      rw [← hn] at hr
      replace hn := hid hn
      have hcall := hid (hT.out n wr (hBr.out.mono hB.out))
      have hE' := hE.out (#[.agg n.cells] ++ cap) wr
      replace hr := hid hr
      go_wp2_with (refine wpList_load_cells (by rfl) 89 (.tmp 14) (by rfl) b (o + k * 12) (by rfl) n.cells _ hr.out Tryz.underlying89 (by rfl) (by kernel_rfl) ?_)
      refine hcall.out.mono ?_
      rintro e w2 ⟨rfl, hb2⟩
      have hB2 := hid (sn hBr.out hb2)
      clear hb2 hcall hE' hr
      cases hp : p n with
      | true =>
        replace hp := hid hp
        go_wp2_with fail
        go_ret
        exact ⟨(k : Int), rfl, .inr ⟨k, hkl, rfl, by rw [← hn.out]; exact hp.out, hall.out⟩, hB2.out⟩
      | false =>
        have hall2 := hid (show ∀ j (h : j < l.length), j < k + 1 → p l[j] = false from fun j h hj => by
          by_cases e : j < k
          · exact hall.out j h e
          · obtain rfl : j = k := by omega
            rw [← hn.out]; exact hp)
        clear hp
        go_wp2_with fail
        go_roundw
        case rel => exact ⟨k + 1, by omega, by go_num, hB2, hall2⟩
        case measure => simp [intOf]; omega
    · obtain rfl : k = l.length := by omega
      go_wp2_with fail
      go_ret
      exact ⟨-1, rfl, .inl ⟨rfl, fun n hn => by obtain ⟨i, hi, rfl⟩ := List.mem_iff_getElem.1 hn; exact hall.out i hi hi⟩, hBr.out⟩

theorem drop1_any (b : Nat) (q : Nat) (base : Nat) (w : World) (hb : w.heap[b]? = some (.cells #[.int .u64 (q : Int)] 27 (0, 0))) (hlt : b < base) :
    TestsN 155 #[.pointer (some ⟨b, 0, none⟩)] base w (fun n => decide (n.path = q)) := by
  intro n w' hB
  have hb0 := (Below.refl w'.heap.size w').alloc (Nat.le_refl _) (.cells n.cells 89)
  have c0 : (w'.alloc (.cells n.cells 89)).cell? ⟨b, 0, none⟩ = some (.int .u64 (q : Int)) := by
    have h1 := (hB.block b hlt).trans hb
    exact block_cell ((hb0.block b (lt_of_block h1)).trans h1) 0
  have k1 : ((n.path : Int) == (q : Int)) = decide (n.path = q) := dec_int _ _
  replace hb0 := hid hb0
  replace hb := hid hb
  replace hB := hid hB
  rw [nod_cells] at c0 hb0 ⊢
  show Calls _ _ #[_, _] _ _
  go_enter Tryz.func155, Tryz.ntmps155
  go_wp2_with fail
  go_ret
  exact ⟨rfl, hb0.out⟩
theorem enter_drop1 : Enters 155 := fun args W => rfl
end
end Go.Proofs.YtkefjeabckainaaGreat
