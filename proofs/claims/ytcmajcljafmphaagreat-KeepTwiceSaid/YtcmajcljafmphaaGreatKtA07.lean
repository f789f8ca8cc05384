/- The reference's trees: kid, Get, Find, Bytes. Conditions: at most a thousand nodes. And the texts behind it. -/
import Derived.Test.YtcmajcljafmphaaGreatKtA06
import Derived.Deep.RegionHeld3
import Derived.Test.YtcmajcljafmphaaGreatKtA03
import Derived.Deep.DeepCutAuto
namespace Go.Proofs.YtcmajcljafmphaaGreat
section
open Go.RowKit
set_option maxRecDepth 100000
set_option linter.unusedVariables false

theorem rkid_any (n : Nod) (d : Nat) (w : World) : Calls Tryz.prog 80 #[.agg n.cells, .int .u64 (d : Int)] w fun e w' => e = .returned (.bool (kidB d n)) ∧ Below w.heap.size w w' := by
  have hb := hid ((Below.refl w.heap.size w).alloc (Nat.le_refl _) (.cells n.cells 83))
  have hE : Hid (kidB d n = (!n.gone && decide (n.path ≠ 1) && decide (n.up = d))) := hid rfl
  have k1 : ((n.path : Int) != 1) = decide (n.path ≠ 1) := by
    rw [Bool.eq_iff_iff]; simp; omega
  have k2 : ((n.up : Int) == (d : Int)) = decide (n.up = d) := by
    rw [Bool.eq_iff_iff]; simp; omega
  rw [nod_cells] at hb ⊢
  generalize decide (n.path ≠ 1) = b1 at *
  generalize decide (n.up = d) = b2 at *
  generalize kidB d n = r at *
  generalize n.gone = g at *
  cases g <;> cases b1 <;> cases b2 <;>
  · go_enter Tryz.func80, Tryz.ntmps80
    go_wp2_with fail
    go_ret
    exact ⟨ret_bool (by rw [hE.out]; rfl), hb.out⟩
theorem get_step {l : List Nod} {k : Nat} (hk : k < l.length) (p : Nat) : getL (l.drop k) p = if l[k].path = p then some l[k] else getL (l.drop (k + 1)) p := by
  unfold getL
  rw [List.drop_eq_getElem_cons hk, List.find?_cons]
  by_cases h : l[k].path = p <;> simp [h]

set_option maxHeartbeats 3200000 in
theorem rget_any (v : Value) (x : Nat) (l : List Nod) (p : Nat) (w : World) (hv : NodsAt w v l) (hl : l.length ≤ 1000) :
    Calls Tryz.prog 79 #[.agg #[.int .u64 (x : Int), v], .int .u64 (p : Int)] w (GetPost w l p) := by
  obtain ⟨a, c, rfl, g1, g2⟩ := hv.form
  unfold maxLen at g2
  obtain ⟨W, hW⟩ : ∃ W, W = (w.alloc (.cells #[.int .u64 (x : Int), .slice a l.length c] 49)).alloc (.cells zeroNod.cells 83) := ⟨_, rfl⟩
  have hb0 : Below w.heap.size w W := by rw [hW]; exact ((Below.refl w.heap.size w).alloc (Nat.le_refl _) _).alloc (by simp) _
  have hx0 : W.heap[w.heap.size]? = some (.cells #[.int .u64 (x : Int), .slice a l.length c] 49 (0, 0)) := by rw [hW, heap_alloc_old _ _ (by simp), heap_alloc_new]
  have hy0 : W.heap[w.heap.size + 1]? = some (.cells zeroNod.cells 83 (0, 0)) := by rw [hW]; exact heap2 _ _ _
  have e1 := block_cell hx0 1
  replace hv := hid (hv.below hb0)
  replace hb0 := hid hb0
  replace hy0 := hid hy0
  clear hx0
  rw [zeroNod_cells] at hW
  go_enter Tryz.func79, Tryz.ntmps79
  go_wp2_with (rw [← hW]; replace hW := hid hW)
  try (rw [← hW]; replace hW := hid hW)
  go_loopw [6] (fun kv wr => wr = W ∧ ∃ k : Nat, k ≤ l.length ∧ kv = .int .i64 (k : Int) ∧ Hid (getL l p = getL (l.drop k) p)) (fun kv _ => l.length - (intOf kv).toNat)
  case atStart => exact ⟨rfl, 0, by omega, rfl, hid rfl⟩
  case round =>
    obtain ⟨rfl, k, hk, rfl, hF⟩ := hrel
    by_cases hkl : k < l.length
    · obtain ⟨b, o, ha, hr⟩ := hv.out.range k hkl
      subst ha
      have hst := hid (hF.out.trans (get_step hkl p))
      generalize l[k] = n at *
      have f0 : wr.cell? ⟨b, o + k * 12, none⟩ = some (.int .u64 (n.path : Int)) := by have := hr 0 (.int .u64 (n.path : Int)) (by rw [nod_cells]; rfl); rwa [Nat.add_zero] at this
      replace hr := hid hr
      by_cases hnp : n.path = p
      · have k1 : ((n.path : Int) == (p : Int)) = true := by rw [hnp]; simp
        have hF2 := hid (show getL l p = some n by rw [hst.out, if_pos hnp])
        clear hnp hst hF
        go_wp2_with (first
          | (refine wpList_load_cells (by rfl) 83 (.tmp 25) (by rfl) b (o + k * 12) (by rfl) n.cells _ hr.out Tryz.underlying83 (by rfl) (by kernel_rfl) ?_)
          | (refine wpList_store_row (by rfl) 83 (.tmp 4) (.tmp 26) (by rfl) (w.heap.size + 1) n.cells (by rfl) (by rfl) 83 _ hy0.out (by kernel_rfl) (by kernel_rfl) (nod_one n) ?_))
        refine bodyPost_ret (results_cs rfl _ _ (w.heap.size + 1) _ _ _ _ _ rfl rfl (setRow_heap _ _ _ n.cells _ _ hy0.out) Tryz.underlying83 rfl (by kernel_rfl)) rfl ?_
        refine ⟨?_, below_setRow hb0.out (by omega) _⟩
        unfold getN
        rw [hF2.out]; rfl
      · have k1 : ((n.path : Int) == (p : Int)) = false := by rw [beq_eq_false_iff_ne]; omega
        have hF2 := hid (show getL l p = getL (l.drop (k + 1)) p by rw [hst.out, if_neg hnp])
        clear hnp hst hF
        go_wp2_with fail
        go_roundw
        case rel => exact ⟨by first | rfl | trivial, k + 1, by omega, by go_num, hF2⟩
        case measure => simp [intOf]; omega
    · obtain rfl : k = l.length := by omega
      have hF2 := hid (show getL l p = none by rw [hF.out, List.drop_length]; rfl)
      go_wp2_with (refine wpList_store_row (by rfl) 83 (.tmp 4) (.tmp 27) (by rfl) (w.heap.size + 1) zeroNod.cells (by rfl) (by rfl) 83 _ hy0.out (by kernel_rfl) (by kernel_rfl) (by kernel_rfl) ?_)
      refine bodyPost_ret (results_cs rfl _ _ (w.heap.size + 1) _ _ _ _ _ rfl rfl (setRow_heap _ _ _ zeroNod.cells _ _ hy0.out) Tryz.underlying83 rfl (by kernel_rfl)) rfl ?_
      refine ⟨?_, below_setRow hb0.out (by omega) _⟩
      unfold getN
      rw [hF2.out]; rfl

set_option maxHeartbeats 3200000 in
theorem rbytes_any (v : Value) (x : Nat) (l : List Nod) (w : World) (hv : NodsAt w v l) (hl : l.length ≤ 1000) (hd : ∀ n ∈ l, n.data.size ≤ 1000000) :
    Calls Tryz.prog 48 #[.agg #[.int .u64 (x : Int), v]] w fun e w' => e = .returned (.int .i64 (bytesL l : Int)) ∧ Below w.heap.size w w' := by
  obtain ⟨a, c, rfl, g1, g2⟩ := hv.form
  unfold maxLen at g2
  obtain ⟨W, hW⟩ : ∃ W, W = w.alloc (.cells #[.int .u64 (x : Int), .slice a l.length c] 49) := ⟨_, rfl⟩
  have hb0 : Below w.heap.size w W := by rw [hW]; exact (Below.refl w.heap.size w).alloc (Nat.le_refl _) _
  have hx0 : W.heap[w.heap.size]? = some (.cells #[.int .u64 (x : Int), .slice a l.length c] 49 (0, 0)) := by rw [hW, heap_alloc_new]
  have e1 := block_cell hx0 1
  replace hv := hid (hv.below hb0)
  replace hb0 := hid hb0
  replace hd := hid hd
  clear hx0
  go_enter Tryz.func48, Tryz.ntmps48
  go_wp2_with (rw [← hW]; replace hW := hid hW)
  go_loopw [3, 4] (fun sv kv wr => wr = W ∧ ∃ k s : Nat, k ≤ l.length ∧ kv = .int .i64 (k : Int) ∧ sv = .int .i64 (s : Int) ∧ Hid (s = bytesL (l.take k))) (fun _ kv _ => l.length - (intOf kv).toNat)
  case atStart => exact ⟨rfl, 0, 0, by omega, rfl, rfl, hid rfl⟩
  case round =>
    obtain ⟨rfl, k, s, hk, rfl, rfl, hs⟩ := hrel
    by_cases hkl : k < l.length
    · obtain ⟨b, o, ha, hr⟩ := hv.out.range k hkl
      subst ha
      have hst := hid (bytesL_take hkl)
      have hle := bytesL_le (l := l.take (k + 1)) fun n hn => hd.out n (List.mem_of_mem_take hn)
      have hlt : (l.take (k + 1)).length ≤ 1000 := by simp; omega
      have hsz := hd.out _ (List.getElem_mem hkl)
      have hs2 : s + l[k].data.size ≤ 1000000000 := by rw [hs.out, ← hst.out]; omega
      clear hle hlt
      generalize l[k] = n at *
      have f11 : wr.cell? ⟨b, o + k * 12 + 11, none⟩ = some (.string n.data) := hr 11 _ (by rw [nod_cells]; rfl)
      replace hr := hid hr
      go_wp2_with fail
      go_roundw
      case rel => exact ⟨by first | rfl | trivial, k + 1, s + n.data.size, by omega, by go_num, by go_num, hid (by rw [hst.out, ← hs.out])⟩
      case measure => simp [intOf]; omega
    · obtain rfl : k = l.length := by omega
      have hs2 : s = bytesL l := by have := hs.out; rwa [List.take_length] at this
      subst hs2
      go_wp2_with fail
      go_ret
      exact ⟨rfl, hb0.out⟩
end
end Go.Proofs.YtcmajcljafmphaaGreat

namespace Go.Proofs.YtcmajcljafmphaaGreat
section
open Go.RowKit
set_option maxRecDepth 100000
set_option linter.unusedVariables false

def stA (cs : Array Value) : Nat → List Value → Array Value
  | _, [] => cs
  | i, u :: us => stA (cs.setIfInBounds i u) (i + 1) us
theorem stA_size : ∀ (us : List Value) (i : Nat) (cs : Array Value), (stA cs i us).size = cs.size
  | [], _, _ => rfl
  | u :: us, i, cs => by show (stA (cs.setIfInBounds i u) (i + 1) us).size = _; rw [stA_size us]; simp
theorem stA_get : ∀ (us : List Value) (i : Nat) (cs : Array Value) (k : Nat), k < cs.size → (stA cs i us)[k]? = if i ≤ k ∧ k < i + us.length then us[k - i]? else cs[k]?
  | [], i, cs, k, _ => by rw [if_neg (by simp only [List.length_nil]; omega)]; rfl
  | u :: us, i, cs, k, hk => by
    show (stA (cs.setIfInBounds i u) (i + 1) us)[k]? = _
    rw [stA_get us (i + 1) _ k (by simpa using hk)]
    by_cases h1 : i + 1 ≤ k ∧ k < i + 1 + us.length
    · rw [if_pos h1, if_pos (by simp only [List.length_cons]; omega)]
      obtain ⟨j, rfl⟩ : ∃ j, k = i + 1 + j := ⟨k - (i + 1), by omega⟩
      rw [show i + 1 + j - (i + 1) = j by omega, show i + 1 + j - i = j + 1 by omega, List.getElem?_cons_succ]
    · rw [if_neg h1]
      by_cases h2 : k = i
      · subst h2
        rw [if_pos (by simp only [List.length_cons]; omega), Nat.sub_self, List.getElem?_cons_zero, Array.getElem?_setIfInBounds_self_of_lt hk]
      · rw [if_neg (by simp only [List.length_cons]; omega), Array.getElem?_setIfInBounds_ne (by omega)]
theorem stA_heap {q : Nat} {T : TypeId} : ∀ (us : List Value) (i : Nat) (w : World) (cs : Array Value), w.heap[q]? = some (.cells cs T (0, 0)) → (w.setCells q i us).heap[q]? = some (.cells (stA cs i us) T (0, 0)) ∧ (∀ k, k ≠ q → (w.setCells q i us).heap[k]? = w.heap[k]?) ∧ Below q w (w.setCells q i us)
  | [], _, w, _, h => ⟨h, fun _ _ => rfl, Below.refl _ _⟩
  | u :: us, i, w, cs, h => by
    obtain ⟨h1, h2, h3⟩ := stA_heap us (i + 1) (w.setCell ⟨q, i, none⟩ u) (cs.setIfInBounds i u) (block_set h i u)
    refine ⟨h1, fun k hk => (h2 k hk).trans (block_set_other hk), ((Below.refl q w).setCell (by simp) _).trans h3⟩
theorem own_there {w : World} {base e k n c i : Nat} {g : Nat} {xs : List Value} (h : w.ownsRow base e k (.slice (some ⟨g, 0, none⟩) n c) n xs) (hi : i < n) : w.there g (i * k) k := by
  rcases h.2 with ⟨h1, _⟩ | ⟨g', cap, cur, hv, hb, hg, h1, h2, h3, h4⟩
  · cases h1
  · cases hv
    intro j hj
    have hlt : i * k + j < cur.size := by
      have := Nat.mul_le_mul_right k (show i + 1 ≤ n from hi)
      rw [Nat.add_mul, Nat.one_mul] at this
      have := Nat.mul_le_mul_right k h1
      omega
    refine ⟨?_, block_free hg _⟩
    rw [block_cell hg, Array.getElem?_eq_getElem hlt]; rfl
theorem nodsL_set (l : List Nod) (i : Nat) (x : Nod) (hi : i < l.length) (k : Nat) (hk : k < l.length * 12) : (nodsL (l.set i x))[k]? = if i * 12 ≤ k ∧ k < i * 12 + 12 then x.cells.toList[k - i * 12]? else (nodsL l)[k]? := by
  have hq : k = k / 12 * 12 + k % 12 := by omega
  have h1 : k / 12 < l.length := by omega
  have h2 : k % 12 < 12 := by omega
  by_cases h : i * 12 ≤ k ∧ k < i * 12 + 12
  · rw [if_pos h]
    have e : k / 12 = i := by omega
    conv => lhs; rw [hq, nodsL_get _ _ _ (by simpa using h1) h2]
    simp only [e, List.getElem_set_self]
    rw [show k - i * 12 = k % 12 by omega]
  · rw [if_neg h]
    have e : i ≠ k / 12 := by omega
    conv => lhs; rw [hq, nodsL_get _ _ _ (by simpa using h1) h2]
    conv => rhs; rw [hq, nodsL_get _ _ _ h1 h2]
    rw [List.getElem_set_ne e]
theorem own_set {w : World} {base e n c g i : Nat} {l : List Nod} {x : Nod} (h : w.ownsRow base e 12 (.slice (some ⟨g, 0, none⟩) n c) n (nodsL l)) (hi : i < n) :
    (w.setCells g (i * 12) x.cells.toList).ownsRow base e 12 (.slice (some ⟨g, 0, none⟩) n c) n (nodsL (l.set i x)) ∧ Below base w (w.setCells g (i * 12) x.cells.toList) ∧ ∀ k, k ≠ g → (w.setCells g (i * 12) x.cells.toList).heap[k]? = w.heap[k]? := by
  have hln : n = l.length := by have := h.1; rw [nodsL_length] at this; omega
  rcases h.2 with ⟨h1, _⟩ | ⟨g', cap, cur, hv, hb, hg, h1, h2, h3, h4⟩
  · cases h1
  · cases hv
    obtain ⟨a1, a2, a3⟩ := stA_heap x.cells.toList (i * 12) w cur hg
    refine ⟨⟨by rw [nodsL_length, List.length_set, ← hln], .inr ⟨g, c, _, rfl, hb, a1, h1, h2, by rw [stA_size]; exact h3, ?_⟩⟩, a3.mono hb, a2⟩
    have hl12 : x.cells.toList.length = 12 := by rw [nod_cells]; rfl
    apply List.ext_getElem?
    intro k
    by_cases hk : k < n * 12
    · rw [List.getElem?_take_of_lt hk, Array.getElem?_toList, stA_get _ _ _ _ (by have := Nat.mul_le_mul_right 12 h1; omega), nodsL_set l i x (by omega) k (by omega), hl12]
      by_cases hh : i * 12 ≤ k ∧ k < i * 12 + 12
      · rw [if_pos hh, if_pos hh]
      · rw [if_neg hh, if_neg hh, ← h4, List.getElem?_take_of_lt hk, Array.getElem?_toList]
    · rw [List.getElem?_eq_none (by simp; omega), List.getElem?_eq_none (by rw [nodsL_length]; simp; omega)]
theorem own_ptr {w : World} {base e k n : Nat} {v : Value} {xs : List Value} (h : w.ownsRow base e k v n xs) (h0 : 0 < n) : ∃ g c, v = .slice (some ⟨g, 0, none⟩) n c ∧ n ≤ c ∧ c ≤ maxLen ∧ base ≤ g := by
  rcases h.2 with ⟨_, h1⟩ | ⟨g', cap, cur, hv, hb, hg, h1, h2, h3, h4⟩
  · omega
  · exact ⟨g', cap, hv, h1, h2, hb⟩
end
end Go.Proofs.YtcmajcljafmphaaGreat

namespace Go.Proofs.YtcmajcljafmphaaGreat
section
open Go.RowKit
set_option maxRecDepth 100000
set_option linter.unusedVariables false

theorem nclip_eq (a : Option Addr) (n c : Nat) (w : World) (h1 : n ≤ c) (h2 : c ≤ maxLen) :
    Calls Tryz.prog 90 #[.slice a n c] w fun e w' => e = .returned (.slice a n n) ∧ w' = w := by
  unfold maxLen at h2
  go_enter Tryz.func90, Tryz.ntmps90
  go_wp2_with fail
  go_ret
  exact ⟨rfl, rfl⟩
def rootN (uid : ByteArray) (now : Nat) : Nod := ⟨1, 0, 2147484157, now, now, slashS, uid, uid, uid, 1, false, ⟨#[]⟩⟩
theorem NodsAt.block {w : World} {g : Nat} {l : List Nod} {t : TypeId} {fr : Nat × Nat} (h : w.heap[g]? = some (.cells (nodsL l).toArray t fr)) (hl : l.length ≤ maxLen) : NodsAt w (.slice (some ⟨g, 0, none⟩) l.length l.length) l := by
  have := (RowAt.of_block (k := 12) (n := l.length) h (by simp [nodsL_length]) hl).weak
  unfold NodsAt
  simpa using this
end
end Go.Proofs.YtcmajcljafmphaaGreat

namespace Go.Proofs.YtcmajcljafmphaaGreat
section
open Go.RowKit
theorem own_below {w w' : World} {base e k n : Nat} {v : Value} {xs : List Value} (h2 : w.ownsRow base e k v n xs) (hb : Below w.heap.size w w') : w'.ownsRow base e k v n xs := by
  refine ⟨h2.1, ?_⟩
  rcases h2.2 with h3 | ⟨g, cap, cur, hv, hg, hh, r⟩
  · exact .inl h3
  · exact .inr ⟨g, cap, cur, hv, hg, (hb.block g (lt_of_block hh)).trans hh, r⟩
end
end Go.Proofs.YtcmajcljafmphaaGreat

namespace Go.Proofs.YtcmajcljafmphaaGreat
section
open Go.RowKit
set_option maxRecDepth 100000
set_option linter.unusedVariables false

theorem NodsAt.other {w w' : World} {v : Value} {l : List Nod} (h : NodsAt w v l) (z : Nat) (hz : v.ownBlock ≠ some z) (hs : w.heap.size ≤ w'.heap.size) (hk : ∀ k, k ≠ z → w'.heap[k]? = w.heap[k]?) : NodsAt w' v l := by
  obtain ⟨hl, a, c, hv, h1, h2, h3, h4⟩ := h
  refine ⟨hl, a, c, hv, h1, h2, h3, fun i u hu => ?_⟩
  obtain ⟨b, o, ha, hc⟩ := h4 i u hu
  refine ⟨b, o, ha, ?_⟩
  subst hv ha
  rw [World.cell?_of_block (w := w) (hk b (fun e => hz (by rw [← e]; rfl)))]
  exact hc
theorem ownBlock_cap (a : Option Addr) (n c n' c' : Nat) : (Value.slice a n c).ownBlock = (Value.slice a n' c').ownBlock := by cases a <;> rfl
def SetPost (w : World) (x : Nat) (L : List Nod) (e : Ending) (w' : World) : Prop := ∃ v', e = .returned (.agg #[.int .u64 (x : Int), v']) ∧ NodsAt w' v' L ∧ (∀ k, v'.ownBlock = some k → w.heap.size ≤ k) ∧ Below w.heap.size w w'

end
end Go.Proofs.YtcmajcljafmphaaGreat

namespace Go.Proofs.YtcmajcljafmphaaGreat
section
open Go.RowKit
set_option maxRecDepth 100000
set_option linter.unusedVariables false

theorem elemRN : ElemOk Tryz.prog 47 83 12 120 := elemOk_of (z := .agg zeroNod.cells) Tryz.underlying47 (by kernel_rfl) rfl (by decide)
theorem drop_take {l : List Nod} {k : Nat} (hk : k < l.length) (p : Nat) : dropL (l.take (k + 1)) p = dropL (l.take k) p ++ (if l[k].path = p then [] else [l[k]]) := by
  unfold dropL
  rw [List.take_succ_eq_append_getElem hk, List.filter_append]
  by_cases h : l[k].path = p <;> simp [h]
end
end Go.Proofs.YtcmajcljafmphaaGreat
