/- DeleteFunc at nodes, for a test that reads. Conditions: numbers in their types. And the texts behind it. -/
import Derived.Test.YtkefjeabckainaaGreatFaB09
import Derived.Test.YtkefjeabckainaaGreatFaB03
import Derived.Deep.OwnRows
namespace Go.Proofs.YtkefjeabckainaaGreat
section
open Go.RowKit
set_option maxRecDepth 100000
set_option linter.unusedVariables false

theorem run_clear_nodes (w : World) (ty : TypeId) (b o n c : Nat) (hn : 0 < n) (ht : w.there b o (n * 12)) :
    ∃ vs : List Value, vs.length = n * 12 ∧ (Builtin.clear_ #[28] ty #[.slice (some ⟨b, o, none⟩) n c]).run Tryz.prog w = .ok (.tuple #[]) (w.setCells b o vs) := by
  have hz : ∀ w, (zeroValue 89).run Tryz.prog w = .ok (.agg zeroNod.cells) w := fun w => by kernel_rfl
  have h1 : ∀ v ∈ (Builtin.zeroCells zeroNod.cells n).toList, v.oneCell' = true := by
    intro v hv
    simp only [Builtin.zeroCells, Array.toList_map, List.mem_map] at hv
    obtain ⟨i, _, rfl⟩ := hv
    have hm : i % 12 < 12 := Nat.mod_lt _ (by omega)
    show (zeroNod.cells[i % 12]!).oneCell' = true
    generalize i % 12 = j at hm
    rw [zeroNod_cells]
    match j, hm with
    | 0, _ => rfl
    | 1, _ => rfl
    | 2, _ => rfl
    | 3, _ => rfl
    | 4, _ => rfl
    | 5, _ => rfl
    | 6, _ => rfl
    | 7, _ => rfl
    | 8, _ => rfl
    | 9, _ => rfl
    | 10, _ => rfl
    | 11, _ => rfl
  have hl : (Builtin.zeroCells zeroNod.cells n).toList.length = n * 12 := by simp [Builtin.zeroCells, zeroNod_cells]
  have hst := run_storeCells_cells (P := Tryz.prog) b o (Builtin.zeroCells zeroNod.cells n).toList 0 w (fun j hj => by simpa using (ht j (by rw [hl] at hj; exact hj)).1) (fun j hj => by simpa using (ht j (by rw [hl] at hj; exact hj)).2) h1
  simp only [Nat.add_zero] at hst
  obtain ⟨m, rfl⟩ : ∃ m, n = m + 1 := ⟨n - 1, by omega⟩
  have hzc : (Value.agg zeroNod.cells).cells = zeroNod.cells := rfl
  refine ⟨_, hl, ?_⟩
  simp [Builtin.clear_, run_underlying Tryz.underlying28, hz, hzc, hst]
theorem own_there2 {w : World} {base e k n c i m : Nat} {g : Nat} {xs : List Value} (h : w.ownsRow base e k (.slice (some ⟨g, 0, none⟩) n c) n xs) (hi : i + m ≤ n) : w.there g (i * k) (m * k) := by
  rcases h.2 with ⟨h1, _⟩ | ⟨g', cap, cur, hv, hb, hg, h1, h2, h3, h4⟩
  · cases h1
  · cases hv
    intro j hj
    have hlt : i * k + j < cur.size := by
      have := Nat.mul_le_mul_right k hi
      rw [Nat.add_mul] at this
      have := Nat.mul_le_mul_right k h1
      omega
    refine ⟨?_, block_free hg _⟩
    rw [block_cell hg, Array.getElem?_eq_getElem hlt]; rfl
theorem own_cut {w : World} {base e n c g i : Nat} {M : List Nod} {vs : List Value} (h : w.ownsRow base e 12 (.slice (some ⟨g, 0, none⟩) n c) n (nodsL M)) (hi : i ≤ n) :
    (w.setCells g (i * 12) vs).ownsRow base e 12 (.slice (some ⟨g, 0, none⟩) i c) i (nodsL (M.take i)) ∧ Below base w (w.setCells g (i * 12) vs) := by
  have hln : n = M.length := by have := h.1; rw [nodsL_length] at this; omega
  rcases h.2 with ⟨h1, _⟩ | ⟨g', cap, cur, hv, hb, hg, h1, h2, h3, h4⟩
  · cases h1
  · cases hv
    obtain ⟨a1, a2, a3⟩ := stA_heap vs (i * 12) w cur hg
    refine ⟨⟨by rw [nodsL_length, List.length_take]; congr 1; omega, .inr ⟨g, c, _, rfl, hb, a1, by omega, h2, by rw [stA_size]; exact h3, ?_⟩⟩, a3.mono hb⟩
    apply List.ext_getElem?
    intro k
    by_cases hk : k < i * 12
    · have hkn : k < n * 12 := by have := Nat.mul_le_mul_right 12 hi; omega
      rw [List.getElem?_take_of_lt hk, Array.getElem?_toList, stA_get _ _ _ _ (by have := Nat.mul_le_mul_right 12 h1; omega), if_neg (by omega)]
      have e1 : (nodsL M)[k]? = cur[k]? := by rw [← h4, List.getElem?_take_of_lt hkn, Array.getElem?_toList]
      rw [← e1]
      have hq : k = k / 12 * 12 + k % 12 := by omega
      rw [hq, nodsL_get _ _ _ (by omega) (by omega), nodsL_get _ _ _ (by rw [List.length_take]; omega) (by omega), List.getElem_take]
    · rw [List.getElem?_eq_none (by simp; omega), List.getElem?_eq_none (by rw [nodsL_length, List.length_take]; omega)]
def DelPost (base : Nat) (w : World) (l : List Nod) (p : Nod → Bool) (e : Ending) (w' : World) : Prop :=
  ∃ v', e = .returned v' ∧ w'.ownsRow base 89 12 v' (l.filter fun n => !p n).length (nodsL (l.filter fun n => !p n)) ∧ Below base w w'
structure DelAt (l M : List Nod) (p : Nod → Bool) (i j : Nat) : Prop where
  len : M.length = l.length
  lt : i < j ∧ j ≤ l.length
  front : M.take i = (l.take j).filter fun n => !p n
  back : M.drop j = l.drop j
theorem DelAt.start {l : List Nod} {p : Nod → Bool} {k : Nat} (hk : k < l.length) (hp : p l[k] = true) (ha : ∀ j (h : j < l.length), j < k → p l[j] = false) : DelAt l l p k (k + 1) := by
  refine ⟨rfl, ⟨by omega, by omega⟩, ?_, rfl⟩
  rw [List.take_succ_eq_append_getElem hk, List.filter_append, List.filter_cons_of_neg (by simp [hp]), List.filter_nil, List.append_nil]
  refine (List.filter_eq_self.2 fun n hn => ?_).symm
  obtain ⟨i, hi, rfl⟩ := List.mem_iff_getElem.1 hn
  rw [List.length_take] at hi
  rw [List.getElem_take]
  simp [ha i (by omega) (by omega)]
theorem DelAt.get {l M : List Nod} {p : Nod → Bool} {i j : Nat} (h : DelAt l M p i j) (hj : j < l.length) : ∃ hh : j < M.length, M[j] = l[j] := by
  have hM : j < M.length := by rw [h.len]; exact hj
  refine ⟨hM, ?_⟩
  have e := congrArg (fun z => z[0]?) h.back
  simp only [List.getElem?_drop, Nat.add_zero] at e
  rw [List.getElem?_eq_getElem hM, List.getElem?_eq_getElem hj] at e
  exact Option.some.inj e
theorem DelAt.keep {l M : List Nod} {p : Nod → Bool} {i j : Nat} (h : DelAt l M p i j) (hj : j < l.length) (hp : p l[j] = false) : DelAt l (M.set i l[j]) p (i + 1) (j + 1) := by
  have hi := h.lt
  refine ⟨by rw [List.length_set]; exact h.len, ⟨by omega, by omega⟩, ?_, ?_⟩
  · rw [List.take_succ_eq_append_getElem (by rw [List.length_set, h.len]; omega), List.getElem_set_self, List.take_set_of_le (Nat.le_refl _), h.front, List.take_succ_eq_append_getElem hj, List.filter_append, List.filter_cons_of_pos (by simp [hp]), List.filter_nil]
  · rw [List.drop_set_of_lt (by omega)]
    have e := congrArg (fun z => z.drop 1) h.back
    simpa using e
theorem DelAt.skip {l M : List Nod} {p : Nod → Bool} {i j : Nat} (h : DelAt l M p i j) (hj : j < l.length) (hp : p l[j] = true) : DelAt l M p i (j + 1) := by
  have hi := h.lt
  refine ⟨h.len, ⟨by omega, by omega⟩, ?_, ?_⟩
  · rw [h.front, List.take_succ_eq_append_getElem hj, List.filter_append, List.filter_cons_of_neg (by simp [hp]), List.filter_nil, List.append_nil]
  · have e := congrArg (fun z => z.drop 1) h.back
    simpa using e

set_option maxHeartbeats 3200000 in
theorem ndel_any (v : Value) (l : List Nod) (f : FuncId) (cap : Array Value) (base : Nat) (p : Nod → Bool) (w : World) (hv : w.ownsRow base 89 12 v l.length (nodsL l)) (hl : l.length ≤ 1000) (hT : TestsN f cap base w p) (hE : Enters f) (hB : base ≤ w.heap.size) :
    Calls Tryz.prog 154 #[v, .func (.func f) #[] cap] w (DelPost base w l p) := by
  obtain ⟨a, c, rfl, g1, g2⟩ := (NodsAt.of_own hv).form
  unfold maxLen at g2
  have hix := hid (nidx_any _ l f cap base p w (NodsAt.of_own hv) hl hT hE hB)
  replace hv := hid hv
  replace hT := hid hT
  replace hE := hid hE
  replace hB := hid hB
  go_enter Tryz.func154, Tryz.ntmps154
  go_wp2_with fail
  refine hix.out.mono ?_
  rintro e w1 ⟨i, rfl, hi, hb1⟩
  have hv1 := hid (own_below hv.out hb1)
  have hB1 := hid (hb1.mono hB.out)
  have hs1 := hid hb1.size
  clear hb1 hix
  rcases hi with ⟨rfl, hnone⟩ | ⟨k, hk, rfl, hpk, hbef⟩
  · have hfil := hid (show (l.filter fun n => !p n) = l from List.filter_eq_self.2 fun n hn => by simp [hnone n hn])
    clear hnone
    go_wp2_with fail
    go_ret
    exact ⟨_, rfl, by rw [hfil.out]; exact hv1.out, hB1.out⟩
  · have hst := hid (DelAt.start hk hpk hbef)
    have hne : ((k : Int) == -1) = false := by rw [beq_eq_false_iff_ne]; omega
    clear hpk hbef
    go_wp2_with fail
    obtain ⟨g, c2, hvv, _, _, hgb⟩ := own_ptr hv1.out (by omega)
    obtain ⟨rfl, -, rfl⟩ : a = some ⟨g, 0, none⟩ ∧ True ∧ c = c2 := by cases hvv; exact ⟨rfl, trivial, rfl⟩
    clear hvv
    go_loopw [5, 6] (fun iv jv wr => ∃ (i j : Nat) (M : List Nod), iv = .int .i64 (i : Int) ∧ jv = .int .i64 (j : Int) ∧ j ≤ l.length ∧ i < j ∧ Hid (DelAt l M p i j) ∧ Hid (wr.ownsRow base 89 12 (.slice (some ⟨g, 0, none⟩) l.length c) l.length (nodsL M)) ∧ Hid (Below base w wr)) (fun _ jv _ => l.length - (intOf jv).toNat)
    case atStart => exact ⟨k, k + 1, l, rfl, by go_num, by omega, by omega, hst, hv1, hB1⟩
    case round =>
      obtain ⟨i, j, M, rfl, rfl, hj, hij, hD, hO, hBr⟩ := hrel
      clear hst
      by_cases hjl : j < l.length
      · obtain ⟨hM, hMl⟩ := hD.out.get hjl
        obtain ⟨b, o, ha, hr⟩ := (NodsAt.of_own hO.out).range j hM
        have hkeep := hid (hD.out.keep hjl)
        have hskip := hid (hD.out.skip hjl)
        rw [hMl] at hr
        generalize l[j] = n at *
        cases ha
        rw [Nat.zero_add] at hr
        have hnew := hid (heap_alloc_new wr (.cells zeroNod.cells 89))
        obtain ⟨W3, hW3⟩ : ∃ W, W = boxN wr n := ⟨_, rfl⟩
        have hb3 : Below wr.heap.size wr W3 := by rw [hW3]; exact boxN_below _ _
        have hn3 := hid (show W3.heap[wr.heap.size]? = some (.cells n.cells 89 (0, 0)) by rw [hW3]; exact boxN_heap _ _)
        have hO3 := hid (own_below hO.out hb3)
        have hlt : base ≤ wr.heap.size := Nat.le_trans hB.out hBr.out.size
        have hB3 := hid (sb hBr.out hb3 hB.out)
        unfold boxN at hW3
        rw [zeroNod_cells] at hW3 hnew
        replace hr := hid hr
        replace hMl := hid hMl
        have hcall := hid (hT.out n W3 hB3.out)
        have hE' := hE.out (#[.agg n.cells] ++ cap) W3
        clear hb3 hO hBr hD
        go_wp2_with (first
          | (refine wpList_load_cells (by rfl) 89 (.tmp 24) (by rfl) g (j * 12) (by rfl) n.cells _ hr.out Tryz.underlying89 (by rfl) (by kernel_rfl) ?_)
          | (refine wpList_store_row (by rfl) 89 (.tmp 7) (.tmp 25) (by rfl) wr.heap.size n.cells (by rfl) (by rfl) 89 _ hnew.out (by kernel_rfl) (by kernel_rfl) (nod_one n) ?_)
          | (rw [← hW3]; replace hW3 := hid hW3)
          | (refine wpList_load_row (by rfl) 89 (.tmp 7) (by rfl) wr.heap.size (by rfl) 89 n.cells (0, 0) _ hn3.out Tryz.underlying89 (by rfl) (by kernel_rfl) ?_))
        refine hcall.out.mono ?_
        rintro e w4 ⟨rfl, hb4⟩
        have hO4 := hid (own_below hO3.out hb4)
        have hn4 := hid ((hb4.block _ (lt_of_block hn3.out)).trans hn3.out)
        have hB4 := hid (sb hB3.out hb4 hB.out)
        clear hb4 hcall hE' hr hn3 hO3 hB3 hnew hlt
        generalize wr.heap.size = z at *
        cases hp : p n with
        | true =>
          have hD2 := hid (hskip.out hp)
          clear hp hkeep hskip
          go_wp2_with fail
          go_roundw
          case rel => exact ⟨i, j + 1, M, rfl, by go_num, by omega, by omega, hD2, hO4, hB4⟩
          case measure => simp [intOf]; omega
        | false =>
          have hD2 := hid (hkeep.out hp)
          have hth := hid (own_there hO4.out (show i < l.length by omega))
          obtain ⟨s1, s2, s3⟩ := own_set (x := n) hO4.out (show i < l.length by omega)
          obtain ⟨X, hX⟩ : ∃ X, X = w4.setCells g (i * 12) n.cells.toList := ⟨_, rfl⟩
          rw [← hX] at s1 s2
          have hOX := hid s1
          have hBX := hid (hB4.out.trans s2)
          clear hp hkeep hskip s1 s2 s3
          go_wp2_with (first
            | (rw [← hX]; replace hX := hid hX)
            | (refine wpList_load_row (by rfl) 89 (.tmp 7) (by rfl) z (by rfl) 89 n.cells (0, 0) _ hn4.out Tryz.underlying89 (by rfl) (by kernel_rfl) ?_)
            | (refine wpList_store_mid (by rfl) 89 (.tmp 33) (.tmp 32) (by rfl) g (i * 12) n.cells (by rfl) (by rfl) hth.out (by kernel_rfl) (nod_one n) ?_))
          go_roundw
          case rel => exact ⟨i + 1, j + 1, _, by go_num, by go_num, by omega, by omega, hD2, hOX, hBX⟩
          case measure => simp [intOf]; omega
      · obtain rfl : j = l.length := by omega
        obtain ⟨vs, hvs, hcl⟩ := run_clear_nodes wr 0 g (i * 12) (l.length - i) (c - i) (by omega) (own_there2 hO.out (by omega))
        obtain ⟨s1, s2⟩ := own_cut (vs := vs) hO.out (show i ≤ l.length by omega)
        obtain ⟨X, hX⟩ : ∃ X, X = wr.setCells g (i * 12) vs := ⟨_, rfl⟩
        rw [← hX] at s1 s2 hcl
        have hfr := hid (show M.take i = l.filter fun n => !p n by rw [hD.out.front, List.take_length])
        rw [hfr.out] at s1
        have hil : Hid (i = (l.filter fun n => !p n).length) := hid (by have := s1.1; rw [nodsL_length] at this; omega)
        have hOX := hid s1
        have hBX := hid (hBr.out.trans s2)
        have hcl2 : ∀ ty, Sem.run Tryz.prog (Builtin.clear_ #[28] ty #[.slice (some ⟨g, i * 12, none⟩) (l.length - i) (c - i)]) wr = .ok (.tuple #[]) X := fun ty => hcl
        replace hX := hid hX
        clear s1 s2 hvs hcl hD
        go_wp2_with fail
        go_ret
        exact ⟨_, rfl, by rw [← hil.out]; exact hOX.out, hBX.out⟩
end
end Go.Proofs.YtkefjeabckainaaGreat

namespace Go.Proofs.YtkefjeabckainaaGreat
section
open Go.RowKit
set_option maxRecDepth 100000
set_option linter.unusedVariables false

theorem dropL_eq (l : List Nod) (p : Nat) : (l.filter fun n => !decide (n.path = p)) = dropL l p := by
  unfold dropL; congr 1; funext n; simp

set_option maxHeartbeats 6400000 in
theorem ndrop_any (v : Value) (x : Nat) (l : List Nod) (p : Nat) (w : World) (hv : NodsAt w v l) (hl : l.length ≤ 900) :
    Calls Tryz.prog 106 #[.agg #[.int .u64 (x : Int), v], .int .u64 (p : Int)] w (SetPost w x (dropL l p)) := by
  obtain ⟨a, c, rfl, g1, g2⟩ := hv.form
  unfold maxLen at g2
  obtain ⟨W, hW⟩ : ∃ W, W = ((w.alloc (.cells #[.int .u64 (x : Int), .slice a l.length c] 30)).alloc (.cells #[.int .u64 (p : Int)] 27)).alloc (.cells #[.int .u64 0, .slice none 0 0] 30) := ⟨_, rfl⟩
  have hb0 : Below w.heap.size w W := by rw [hW]; exact (((Below.refl w.heap.size w).alloc (Nat.le_refl _) _).alloc (by simp) _).alloc (by simp; omega) _
  have hx0 : W.heap[w.heap.size]? = some (.cells #[.int .u64 (x : Int), .slice a l.length c] 30 (0, 0)) := by rw [hW, heap_alloc_old _ _ (by simp; omega), heap_alloc_old _ _ (by simp), heap_alloc_new]
  have hy0 : W.heap[w.heap.size + 1]? = some (.cells #[.int .u64 (p : Int)] 27 (0, 0)) := by rw [hW, heap_alloc_old _ _ (by simp)]; exact heap2 _ _ _
  have hz0 : W.heap[w.heap.size + 2]? = some (.cells #[.int .u64 0, .slice none 0 0] 30 (0, 0)) := by
    rw [hW]
    have := heap_alloc_new ((w.alloc (.cells #[.int .u64 (x : Int), .slice a l.length c] 30)).alloc (.cells #[.int .u64 (p : Int)] 27)) (.cells #[.int .u64 0, .slice none 0 0] 30)
    simpa using this
  have hcl0 := hid (nclone_any _ l W (hv.below hb0) (by omega))
  have e1 := block_cell hx0 1
  have hlt0 := lt_of_block hz0
  replace hb0 := hid hb0
  replace hx0 := hid hx0
  replace hy0 := hid hy0
  replace hz0 := hid hz0
  clear hv
  go_enter Tryz.func106, Tryz.ntmps106
  go_wp2_with (rw [← hW]; replace hW := hid hW)
  try (rw [← hW]; replace hW := hid hW)
  refine hcl0.out.mono ?_
  rintro e w2 ⟨v2, rfl, ho2, hb2⟩
  have hB2 := hid (sn hb0.out hb2)
  have hx2 := hid ((hb2.block _ (lt_of_block hx0.out)).trans hx0.out)
  have hy2 := hid ((hb2.block _ (lt_of_block hy0.out)).trans hy0.out)
  have hz2 := hid ((hb2.block _ (lt_of_block hz0.out)).trans hz0.out)
  have hsz2 := hb2.size
  clear e1 hb2
  have hdel := hid (ndel_any v2 l 155 #[.pointer (some ⟨w.heap.size + 1, 0, none⟩)] W.heap.size (fun n => decide (n.path = p)) w2 ho2 (by omega) (drop1_any (w.heap.size + 1) p W.heap.size w2 hy2.out (by omega)) enter_drop1 (by omega))
  clear ho2 hcl0
  go_wp2_with fail
  refine hdel.out.mono ?_
  rintro e X ⟨vX, rfl, hoX, hbX⟩
  rw [dropL_eq] at hoX
  obtain ⟨L, hLL⟩ : ∃ L, L = dropL l p := ⟨_, rfl⟩
  rw [← hLL] at hoX
  have hL := hid hLL.symm
  replace hLL := hid hLL
  have hXN := hid (NodsAt.of_own hoX)
  have hX0 := hid ((hbX.block w.heap.size (by omega)).trans hx2.out)
  have hX2 := hid ((hbX.block (w.heap.size + 2) (by omega)).trans hz2.out)
  have hXB := hid (hB2.out.trans (hbX.mono (by omega)))
  have hXf := hid (show ∀ k, vX.ownBlock = some k → w.heap.size ≤ k from fun k hk => by have := (hoX.lt _ hk).1; omega)
  have hXn := hid (show vX.ownBlock ≠ some (w.heap.size + 2) from fun e => by have := (hoX.lt _ e).1; omega)
  clear hoX hbX hdel
  have q0 : X.cell? ⟨w.heap.size, 0, none⟩ = some (.int .u64 (x : Int)) := block_cell hX0.out 0
  have q0d : X.drew.cell? ⟨w.heap.size, 0, none⟩ = some (.int .u64 (x : Int)) := block_cell hX0.out 0
  have g0 : X.cell? ⟨w.heap.size + 1 + 1, 0, none⟩ = some (.int .u64 0) := block_cell hX2.out 0
  have g1 : X.cell? ⟨w.heap.size + 1 + 1, 1, none⟩ = some (.slice none 0 0) := block_cell hX2.out 1
  have f0 : X.frozen? ⟨w.heap.size + 1 + 1, 0, none⟩ = false := block_free hX2.out 0
  have f1 : X.frozen? ⟨w.heap.size + 1 + 1, 1, none⟩ = false := block_free hX2.out 1
  have ff0 : X.drew.frozen? ⟨w.heap.size + 1 + 1, 0, none⟩ = false := f0
  have ff1 : X.drew.frozen? ⟨w.heap.size + 1 + 1, 1, none⟩ = false := f1
  have gg0 : X.drew.cell? ⟨w.heap.size + 1 + 1, 0, none⟩ = some (.int .u64 0) := g0
  have gg1 : X.drew.cell? ⟨w.heap.size + 1 + 1, 1, none⟩ = some (.slice none 0 0) := g1
  obtain ⟨ax, cx, rfl, x1, x2⟩ := hXN.out.form
  have hzz := hid (block_set (block_set hX2.out 0 (.int .u64 (x : Int))) 1 (.slice ax L.length L.length))
  have hzB := hid (((hXB.out.setCell (p := ⟨w.heap.size + 1 + 1, 0, none⟩) (by show w.heap.size ≤ w.heap.size + 1 + 1; omega) (.int .u64 (x : Int))).setCell (p := ⟨w.heap.size + 1 + 1, 1, none⟩) (by show w.heap.size ≤ w.heap.size + 1 + 1; omega) (.slice ax L.length L.length)).drew)
  have hx9 : Hid (((X.setCell ⟨w.heap.size + 1 + 1, 0, none⟩ (.int .u64 (x : Int))).setCell ⟨w.heap.size + 1 + 1, 1, none⟩ (.slice ax L.length L.length)).drew.heap[w.heap.size]? = _) := hid ((block_set_other (by show w.heap.size ≠ w.heap.size + 1 + 1; omega)).trans ((block_set_other (by show w.heap.size ≠ w.heap.size + 1 + 1; omega)).trans hX0.out))
  have hNz := hid (NodsAt.below hXN.out.clip (show Below X.heap.size X X from Below.refl _ _))
  have hN9 : Hid (NodsAt ((X.setCell ⟨w.heap.size + 1 + 1, 0, none⟩ (.int .u64 (x : Int))).setCell ⟨w.heap.size + 1 + 1, 1, none⟩ (.slice ax L.length L.length)).drew (.slice ax L.length L.length) L) := hid (NodsAt.other hXN.out.clip (w.heap.size + 1 + 1) (by rw [ownBlock_cap ax _ _ L.length cx]; exact hXn.out) (by simp) fun k hk => (block_set_other (by show k ≠ _; exact hk)).trans (block_set_other (by show k ≠ _; exact hk)))
  have hcl := hid (fun W => nclip_eq ax L.length cx W x1 x2)
  replace hX0 := hid hX0.out
  go_wp2_with fail
  go_region_held3 (fun w' => w'.cell? ⟨w.heap.size, 0, none⟩ = some (.int .u64 (x : Int)))
    (first | exact q0d | exact block_cell hx9.out 0 | go_keep)
    ((go_at_call 103; (with_reducible refine (hcl.out _).mono ?_); rintro e wc ⟨rfl, rfl⟩))
  clear q0 q0d g0 g1 f0 f1 ff0 ff1 gg0 gg1
  all_goals
    go_wp2_with fail
    refine bodyPost_ret (results_cell_row rfl _ _ (w.heap.size + 1 + 1) _ _ _ _ rfl hzz.out Tryz.underlying30 rfl (by kernel_rfl)) rfl ?_
    exact ⟨_, rfl, by rw [hL.out]; exact hN9.out, fun k hk => hXf.out k (by rw [ownBlock_cap ax _ _ L.length L.length]; exact hk), hzB.out⟩
end
end Go.Proofs.YtkefjeabckainaaGreat

namespace Go.Proofs.YtkefjeabckainaaGreat
section
open Go.RowKit
set_option maxRecDepth 100000
set_option linter.unusedVariables false

set_option maxHeartbeats 1600000 in
theorem touched_any (n : Nod) (who : ByteArray) (now : Nat) (w : World) (hn : NodOk n) :
    Calls Tryz.prog 93 #[.agg n.cells, .string who, .int .u32 (now : Int)] w fun e w' => e = .returned (.agg (touchN n who now).cells) ∧ Below w.heap.size w w' := by
  obtain ⟨W, hW⟩ : ∃ W, W = (w.alloc (.cells n.cells 89)).alloc (.cells zeroNod.cells 89) := ⟨_, rfl⟩
  have hb0 : Below w.heap.size w W := by rw [hW]; exact ((Below.refl w.heap.size w).alloc (Nat.le_refl _) _).alloc (by simp) _
  have hx0 : W.heap[w.heap.size]? = some (.cells n.cells 89 (0, 0)) := by rw [hW, heap_alloc_old _ _ (by simp), heap_alloc_new]
  have hy0 : W.heap[w.heap.size + 1]? = some (.cells zeroNod.cells 89 (0, 0)) := by rw [hW]; exact heap2 _ _ _
  have c1 : W.cell? ⟨w.heap.size, 1, none⟩ = some (.int .u32 (n.vers : Int)) := block_cell hx0 1
  have c4 : W.cell? ⟨w.heap.size, 4, none⟩ = some (.int .u32 (n.mtm : Int)) := block_cell hx0 4
  have c8 : W.cell? ⟨w.heap.size, 8, none⟩ = some (.string n.muid) := block_cell hx0 8
  have f1 : W.frozen? ⟨w.heap.size, 1, none⟩ = false := block_free hx0 1
  have f4 : W.frozen? ⟨w.heap.size, 4, none⟩ = false := block_free hx0 4
  have f8 : W.frozen? ⟨w.heap.size, 8, none⟩ = false := block_free hx0 8
  obtain ⟨m, hm⟩ : ∃ m, m = (n.vers + 1) % 4294967296 := ⟨_, rfl⟩
  have kw : ((n.vers : Int) + 1) % 4294967296 = (m : Int) := by omega
  obtain ⟨X, hX⟩ : ∃ X, X = ((W.setCell ⟨w.heap.size, 1, none⟩ (.int .u32 (m : Int))).setCell ⟨w.heap.size, 4, none⟩ (.int .u32 (now : Int))).setCell ⟨w.heap.size, 8, none⟩ (.string who) := ⟨_, rfl⟩
  have hXx : Hid (X.heap[w.heap.size]? = some (.cells (touchN n who now).cells 89 (0, 0))) := hid (by rw [hX, hm]; exact block_set (block_set (block_set hx0 1 _) 4 _) 8 _)
  have hXy : Hid (X.heap[w.heap.size + 1]? = some (.cells zeroNod.cells 89 (0, 0))) := hid (by
    rw [hX]
    exact (block_set_other (by show w.heap.size + 1 ≠ w.heap.size; omega)).trans ((block_set_other (by show w.heap.size + 1 ≠ w.heap.size; omega)).trans ((block_set_other (by show w.heap.size + 1 ≠ w.heap.size; omega)).trans hy0)))
  have hXB : Hid (Below w.heap.size w X) := hid (by rw [hX]; exact ((hb0.setCell (p := ⟨w.heap.size, 1, none⟩) (Nat.le_refl _) _).setCell (p := ⟨w.heap.size, 4, none⟩) (Nat.le_refl _) _).setCell (p := ⟨w.heap.size, 8, none⟩) (Nat.le_refl _) _)
  replace hb0 := hid hb0
  rw [zeroNod_cells] at hW
  clear hx0 hy0 hn
  replace hm := hid hm
  go_enter Tryz.func93, Tryz.ntmps93
  go_upto_region 1 with (rw [← hW]; replace hW := hid hW)
  try (rw [← hW]; replace hW := hid hW)
  go_upto_region 3 with (rw [← hX]; replace hX := hid hX)
  try (rw [← hX]; replace hX := hid hX)
  clear c1 c4 c8 f1 f4 f8 kw
  go_wp2_with (first
    | (refine wpList_load_row (by rfl) 89 (.tmp 3) (by rfl) w.heap.size (by rfl) 89 (touchN n who now).cells (0, 0) _ hXx.out Tryz.underlying89 (by rfl) (by kernel_rfl) ?_)
    | (refine wpList_store_row (by rfl) 89 (.tmp 6) (.tmp 15) (by rfl) (w.heap.size + 1) (touchN n who now).cells (by rfl) (by rfl) 89 _ hXy.out (by kernel_rfl) (by kernel_rfl) (nod_one _) ?_))
  refine bodyPost_ret (results_cell_row rfl _ _ (w.heap.size + 1) _ _ _ _ rfl (setRow_heap _ _ _ (touchN n who now).cells _ _ hXy.out) Tryz.underlying89 rfl (by kernel_rfl)) rfl ?_
  exact ⟨rfl, below_setRow hXB.out (by omega) _⟩

set_option maxHeartbeats 1600000 in
theorem apart_any (v : Value) (x : Nat) (l : List Nod) (w : World) (hv : NodsAt w v l) (hl : l.length ≤ 900) (h1 : ∀ n ∈ l, 1 ≤ n.path) :
    Calls Tryz.prog 91 #[.agg #[.int .u64 (x : Int), v]] w (SetPost w x l) := by
  obtain ⟨a, c, rfl, g1, g2⟩ := hv.form
  unfold maxLen at g2
  have hd0 : dropL l 0 = l := List.filter_eq_self.2 fun n hn => by have := h1 n hn; simp; omega
  obtain ⟨W, hW⟩ : ∃ W, W = (w.alloc (.cells #[.int .u64 (x : Int), .slice a l.length c] 30)).alloc (.cells #[.int .u64 0, .slice none 0 0] 30) := ⟨_, rfl⟩
  have hb0 : Below w.heap.size w W := by rw [hW]; exact ((Below.refl w.heap.size w).alloc (Nat.le_refl _) _).alloc (by simp) _
  have hx0 : W.heap[w.heap.size]? = some (.cells #[.int .u64 (x : Int), .slice a l.length c] 30 (0, 0)) := by rw [hW, heap_alloc_old _ _ (by simp), heap_alloc_new]
  have hy0 : W.heap[w.heap.size + 1]? = some (.cells #[.int .u64 0, .slice none 0 0] 30 (0, 0)) := by rw [hW]; exact heap2 _ _ _
  have hdr := hid (ndrop_any _ x l 0 W (hv.below hb0) hl)
  rw [hd0] at hdr
  have e0 := block_cell hx0 0
  have e1 := block_cell hx0 1
  replace hb0 := hid hb0
  replace hx0 := hid hx0
  replace hy0 := hid hy0
  clear hv h1 hd0
  go_enter Tryz.func91, Tryz.ntmps91
  go_wp2_with (rw [← hW]; replace hW := hid hW)
  try (rw [← hW]; replace hW := hid hW)
  refine hdr.out.mono ?_
  rintro e w1 ⟨v1, rfl, hv1, hf1, hb1⟩
  obtain ⟨a1, c1, rfl, _, _⟩ := hv1.form
  have hB1 := hid (sn hb0.out hb1)
  have hx1 := hid ((hb1.block _ (lt_of_block hx0.out)).trans hx0.out)
  have hy1 := hid ((hb1.block _ (lt_of_block hy0.out)).trans hy0.out)
  obtain ⟨X, hX⟩ : ∃ X, X = w1.alloc (.cells #[.int .u64 (x : Int), .slice a1 l.length c1] 30) := ⟨_, rfl⟩
  have hbX : Below w1.heap.size w1 X := by rw [hX]; exact (Below.refl _ _).alloc (Nat.le_refl _) _
  have hzX : X.heap[w1.heap.size]? = some (.cells #[.int .u64 (x : Int), .slice a1 l.length c1] 30 (0, 0)) := by rw [hX, heap_alloc_new]
  have hs1 := lt_of_block hy1.out
  have q0 : X.cell? ⟨w.heap.size, 0, none⟩ = some (.int .u64 (x : Int)) := block_cell ((hbX.block _ (lt_of_block hx1.out)).trans hx1.out) 0
  have z0 : X.cell? ⟨w1.heap.size, 0, none⟩ = some (.int .u64 (x : Int)) := block_cell hzX 0
  have y0 : X.frozen? ⟨w1.heap.size, 0, none⟩ = false := block_free hzX 0
  obtain ⟨Y, hY⟩ : ∃ Y, Y = X.setCell ⟨w1.heap.size, 0, none⟩ (.int .u64 (x : Int)) := ⟨_, rfl⟩
  have hbY : Below w1.heap.size w1 Y := by rw [hY]; exact hbX.setCell (Nat.le_refl _) _
  have hzY := hid (show Y.heap[w1.heap.size]? = some (.cells #[.int .u64 (x : Int), .slice a1 l.length c1] 30 (0, 0)) by rw [hY]; exact block_set hzX 0 _)
  have hyY := hid ((hbY.block _ (lt_of_block hy1.out)).trans hy1.out)
  have hBY := hid (sn hB1.out hbY)
  have hvY := hid (hv1.below hbY)
  have hsz0 := hid hb0.out.size
  have hlt0 := hid (lt_of_block hy0.out)
  have hE := hid (NodsAt.other (w' := Y.setRow (w.heap.size + 1) #[.int .u64 (x : Int), .slice a1 l.length c1]) hvY.out (w.heap.size + 1) (fun e => by have := hf1 _ e; have := hlt0.out; omega) (by simp) (fun k hk => setRow_other _ _ _ _ hk))
  have hF := hid (show ∀ k, (Value.slice a1 l.length c1).ownBlock = some k → w.heap.size ≤ k from fun k hk => Nat.le_trans hsz0.out (hf1 k hk))
  clear e0 e1 hb1 hbX hv1 hzX hf1 hbY
  go_upto_region 2 with (rw [← hX]; replace hX := hid hX)
  try (rw [← hX]; replace hX := hid hX)
  go_upto_region 3 with (rw [← hY]; replace hY := hid hY)
  try (rw [← hY]; replace hY := hid hY)
  clear q0 z0 y0
  go_wp2_with (first
    | (refine wpList_load_row (by rfl) 30 (.tmp 3) (by rfl) w1.heap.size (by rfl) 30 #[.int .u64 (x : Int), .slice a1 l.length c1] (0, 0) _ hzY.out Tryz.underlying30 (by rfl) (by kernel_rfl) ?_)
    | (refine wpList_store_row (by rfl) 30 (.tmp 2) (.tmp 9) (by rfl) (w.heap.size + 1) #[.int .u64 (x : Int), .slice a1 l.length c1] (by rfl) (by rfl) 30 _ hyY.out (by kernel_rfl) (by kernel_rfl) (by kernel_rfl) ?_))
  refine bodyPost_ret (results_cell_row rfl _ _ (w.heap.size + 1) _ _ _ _ rfl (setRow_heap _ _ _ #[.int .u64 (x : Int), .slice a1 l.length c1] _ _ hyY.out) Tryz.underlying30 rfl (by kernel_rfl)) rfl ?_
  exact ⟨_, rfl, hE.out, hF.out, below_setRow hBY.out (by omega) _⟩
end
end Go.Proofs.YtkefjeabckainaaGreat

namespace Go.Proofs.YtkefjeabckainaaGreat
section
open Go.RowKit
set_option maxRecDepth 100000
set_option linter.unusedVariables false

def fileE (l : List Nod) (p : Nat) : Nat := match getL l p with | none => 6 | some n => if dirB n then 12 else 0
def mayE (l : List Nod) (d : Nat) (s : ByteArray) (p : Nat) : Nat := if nameN s ≠ 0 then nameN s else if (match findL l d s with | some y => decide (y.path ≠ p) | none => false) then 7 else 0

set_option maxHeartbeats 1600000 in
theorem may_tree (v : Value) (x : Nat) (l : List Nod) (d : Nat) (s : ByteArray) (p : Nat) (w : World) (hv : NodsAt w v l) (hl : l.length ≤ 900) (hsz : s.size ≤ maxLen) :
    Calls Tryz.prog 90 #[.agg #[.int .u64 (x : Int), v], .int .u64 (d : Int), .string s, .int .u64 (p : Int)] w fun e w' => e = .returned (.int .i64 (mayE l d s p : Int)) ∧ Below w.heap.size w w' := by
  obtain ⟨a, c, rfl, g1, g2⟩ := hv.form
  unfold maxLen at g2
  obtain ⟨W, hW⟩ : ∃ W, W = w.alloc (.cells #[.int .u64 (x : Int), .slice a l.length c] 30) := ⟨_, rfl⟩
  have hb0 : Below w.heap.size w W := by rw [hW]; exact (Below.refl w.heap.size w).alloc (Nat.le_refl _) _
  have hx0 : W.heap[w.heap.size]? = some (.cells #[.int .u64 (x : Int), .slice a l.length c] 30 (0, 0)) := by rw [hW, heap_alloc_new]
  have hv0 := hid (hv.below hb0)
  have hna := hid (name_any s W hsz)
  have hfi := hid (fun X (h : NodsAt X (.slice a l.length c) l) => nfind_any _ x l d s X h (by omega))
  replace hb0 := hid hb0
  replace hx0 := hid hx0
  replace hsz := hid hsz
  clear hv
  go_enter Tryz.func90, Tryz.ntmps90
  go_wp2_with (rw [← hW]; replace hW := hid hW)
  try (rw [← hW]; replace hW := hid hW)
  refine hna.out.mono ?_
  rintro e w1 ⟨rfl, hb1⟩
  have hB1 := hid (sn hb0.out hb1)
  have hx1 := hid ((hb1.block _ (lt_of_block hx0.out)).trans hx0.out)
  have hv1 := hid (hv0.out.below hb1)
  clear hb1 hna hv0
  by_cases h0 : nameN s = 0
  case neg =>
    have hM := hid (show mayE l d s p = nameN s by unfold mayE; rw [if_pos h0])
    have k0 : ((nameN s : Int) != 0) = true := by simpa using h0
    clear h0
    go_wp2_with fail
    go_ret
    exact ⟨by rw [hM.out]; rfl, hB1.out⟩
  have hM := hid (show mayE l d s p = if (match findL l d s with | some y => decide (y.path ≠ p) | none => false) = true then 7 else 0 by unfold mayE; rw [if_neg (by simpa using h0)])
  rw [h0]
  clear h0
  have e0 := block_cell hx1.out 0
  have e1 := block_cell hx1.out 1
  go_wp2_with fail
  refine (hfi.out _ hv1.out).mono ?_
  rintro e w2 ⟨rfl, hb2⟩
  have hB2 := hid (sn hB1.out hb2)
  obtain ⟨n, hn⟩ : ∃ n, n = (findL l d s).getD zeroNod := ⟨_, rfl⟩
  have hnew := hid (heap_alloc_new w2 (.cells zeroNod.cells 89))
  obtain ⟨W3, hW3⟩ : ∃ W, W = boxN w2 n := ⟨_, rfl⟩
  have hb3 : Below w2.heap.size w2 W3 := by rw [hW3]; exact boxN_below _ _
  have hn3 : W3.heap[w2.heap.size]? = some (.cells n.cells 89 (0, 0)) := by rw [hW3]; exact boxN_heap _ _
  have q0 : W3.cell? ⟨w2.heap.size, 0, none⟩ = some (.int .u64 (n.path : Int)) := block_cell hn3 0
  have hB3 := hid (sn hB2.out hb3)
  unfold boxN at hW3
  rw [zeroNod_cells] at hW3 hnew
  rw [← hn]
  clear hb2 hb3 hn3 e0 e1 hB1 hB2 hfi
  cases hf : findL l d s with
  | none =>
    simp only
    rw [hf] at hn hM
    have hM2 := hid (show mayE l d s p = 0 by rw [hM.out]; rfl)
    replace hn := hid hn
    clear hf hM
    go_wp2_with (first
      | (rw [← hW3]; replace hW3 := hid hW3)
      | (refine wpList_store_row (by rfl) 89 (.tmp 10) (.tmp 22) (by rfl) w2.heap.size n.cells (by rfl) (by rfl) 89 _ hnew.out (by kernel_rfl) (by kernel_rfl) (nod_one n) ?_))
    go_ret
    exact ⟨by rw [hM2.out]; rfl, hB3.out⟩
  | some y =>
    rw [hf] at hn hM
    obtain rfl : n = y := hn
    simp only
    have k1 : ((n.path : Int) != (p : Int)) = decide (n.path ≠ p) := by rw [bne, dec_int]; simp
    clear hf
    rcases hp : decide (n.path ≠ p) with _ | _
    · rw [hp] at k1
      have hM2 := hid (show mayE l d s p = 0 by rw [hM.out, if_neg (by show ¬ decide (n.path ≠ p) = true; rw [hp]; simp)])
      clear hp hM
      go_wp2_with (first
        | (rw [← hW3]; replace hW3 := hid hW3)
        | (refine wpList_store_row (by rfl) 89 (.tmp 10) (.tmp 22) (by rfl) w2.heap.size n.cells (by rfl) (by rfl) 89 _ hnew.out (by kernel_rfl) (by kernel_rfl) (nod_one n) ?_))
      go_ret
      exact ⟨by rw [hM2.out]; rfl, hB3.out⟩
    · rw [hp] at k1
      have hM2 := hid (show mayE l d s p = 7 by rw [hM.out, if_pos (by show decide (n.path ≠ p) = true; exact hp)])
      clear hp hM
      go_wp2_with (first
        | (rw [← hW3]; replace hW3 := hid hW3)
        | (refine wpList_store_row (by rfl) 89 (.tmp 10) (.tmp 22) (by rfl) w2.heap.size n.cells (by rfl) (by rfl) 89 _ hnew.out (by kernel_rfl) (by kernel_rfl) (nod_one n) ?_))
      go_ret
      exact ⟨by rw [hM2.out]; rfl, hB3.out⟩

def FilePost (w : World) (l : List Nod) (p : Nat) (e : Ending) (w' : World) : Prop := e = .returned (.tuple #[.agg (getN l p).cells, .int .i64 (fileE l p : Int)]) ∧ Below w.heap.size w w'
set_option maxHeartbeats 1600000 in
theorem file_any (v : Value) (x : Nat) (l : List Nod) (p : Nat) (w : World) (hv : NodsAt w v l) (hs : SortL l) (hl : l.length ≤ 900) (hok : ∀ n ∈ l, NodOk n) :
    Calls Tryz.prog 95 #[.agg #[.int .u64 (x : Int), v], .int .u64 (p : Int)] w (FilePost w l p) := by
  obtain ⟨a, c, rfl, g1, g2⟩ := hv.form
  unfold maxLen at g2
  obtain ⟨W, hW⟩ : ∃ W, W = (w.alloc (.cells #[.int .u64 (x : Int), .slice a l.length c] 30)).alloc (.cells zeroNod.cells 89) := ⟨_, rfl⟩
  have hb0 : Below w.heap.size w W := by rw [hW]; exact ((Below.refl w.heap.size w).alloc (Nat.le_refl _) _).alloc (by simp) _
  have hx0 : W.heap[w.heap.size]? = some (.cells #[.int .u64 (x : Int), .slice a l.length c] 30 (0, 0)) := by rw [hW, heap_alloc_old _ _ (by simp), heap_alloc_new]
  have hy0 : W.heap[w.heap.size + 1]? = some (.cells zeroNod.cells 89 (0, 0)) := by rw [hW]; exact heap2 _ _ _
  have hg := hid (get_any _ x l p W (hv.below hb0) hs (by omega))
  have e0 := block_cell hx0 0
  have e1 := block_cell hx0 1
  have hN : Hid (∀ y, getL l p = some y → NodOk y) := hid (fun y hy => hok y (getL_some hy).1)
  replace hb0 := hid hb0
  replace hx0 := hid hx0
  replace hy0 := hid hy0
  rw [zeroNod_cells] at hW
  clear hv hs hok
  go_enter Tryz.func95, Tryz.ntmps95
  go_upto_region 1 with (rw [← hW]; replace hW := hid hW)
  try (rw [← hW]; replace hW := hid hW)
  go_wp2_with fail
  refine hg.out.mono ?_
  rintro e w2 ⟨rfl, hb2⟩
  have hB2 := hid (sn hb0.out hb2)
  have hy2 := hid ((hb2.block _ (lt_of_block hy0.out)).trans hy0.out)
  obtain ⟨n, hn⟩ : ∃ n, n = getN l p := ⟨_, rfl⟩
  have hnew := hid (heap_alloc_new w2 (.cells zeroNod.cells 89))
  obtain ⟨W3, hW3⟩ : ∃ W, W = boxN w2 n := ⟨_, rfl⟩
  have hb3 : Below w2.heap.size w2 W3 := by rw [hW3]; exact boxN_below _ _
  have hn3 := hid (show W3.heap[w2.heap.size]? = some (.cells n.cells 89 (0, 0)) by rw [hW3]; exact boxN_heap _ _)
  have hy3 := hid ((hb3.block _ (lt_of_block hy2.out)).trans hy2.out)
  have hB3 := hid (sn hB2.out hb3)
  unfold boxN at hW3
  rw [zeroNod_cells] at hW3 hnew
  rw [← hn]
  clear hb2 hb3 e0 e1 hB2 hg hy2 hy0 hx0
  cases hf : getL l p with
  | none =>
    have hF := hid (show fileE l p = 6 by unfold fileE; rw [hf])
    simp only
    replace hn := hid hn
    clear hf
    go_wp2_with (first
      | (rw [← hW3]; replace hW3 := hid hW3)
      | (refine wpList_store_row (by rfl) 89 (.tmp 6) (.tmp 12) (by rfl) w2.heap.size n.cells (by rfl) (by rfl) 89 _ hnew.out (by kernel_rfl) (by kernel_rfl) (nod_one n) ?_)
      | (refine wpList_load_row (by rfl) 89 (.tmp 6) (by rfl) w2.heap.size (by rfl) 89 n.cells (0, 0) _ hn3.out Tryz.underlying89 (by rfl) (by kernel_rfl) ?_)
      | (refine wpList_store_row (by rfl) 89 (.tmp 4) (.tmp 17) (by rfl) (w.heap.size + 1) n.cells (by rfl) (by rfl) 89 _ hy3.out (by kernel_rfl) (by kernel_rfl) (nod_one n) ?_))
    refine bodyPost_ret (results_cs rfl _ _ (w.heap.size + 1) _ _ _ _ _ rfl rfl (setRow_heap _ _ _ n.cells _ _ hy3.out) Tryz.underlying89 rfl (by kernel_rfl)) rfl ?_
    exact ⟨by rw [hF.out, ← hn.out]; rfl, below_setRow hB3.out (by omega) _⟩
  | some y =>
    have hyo := hN.out y hf
    have hny : n = y := by rw [hn]; unfold getN; rw [hf]; rfl
    subst hny
    have hF := hid (show fileE l p = if dirB n then 12 else 0 by unfold fileE; rw [hf])
    simp only
    have hd := hid (tdir_any n W3 hyo)
    replace hn := hid hn
    clear hf hyo
    go_wp2_with (first
      | (rw [← hW3]; replace hW3 := hid hW3)
      | (refine wpList_store_row (by rfl) 89 (.tmp 6) (.tmp 12) (by rfl) w2.heap.size n.cells (by rfl) (by rfl) 89 _ hnew.out (by kernel_rfl) (by kernel_rfl) (nod_one n) ?_)
      | (refine wpList_load_row (by rfl) 89 (.tmp 6) (by rfl) w2.heap.size (by rfl) 89 n.cells (0, 0) _ hn3.out Tryz.underlying89 (by rfl) (by kernel_rfl) ?_))
    refine hd.out.mono ?_
    rintro e w4 ⟨rfl, hb4⟩
    have hB4 := hid (sn hB3.out hb4)
    have hy4 := hid ((hb4.block _ (lt_of_block hy3.out)).trans hy3.out)
    have hn4 := hid ((hb4.block _ (lt_of_block hn3.out)).trans hn3.out)
    clear hb4 hd hB3 hy3 hn3 hnew
    generalize w2.heap.size = z at *
    rcases hdb : dirB n with _ | _
    · rw [hdb] at hF
      clear hdb
      go_wp2_with (first
        | (refine wpList_load_row (by rfl) 89 (.tmp 6) (by rfl) z (by rfl) 89 n.cells (0, 0) _ hn4.out Tryz.underlying89 (by rfl) (by kernel_rfl) ?_)
        | (refine wpList_store_row (by rfl) 89 (.tmp 4) (.tmp 22) (by rfl) (w.heap.size + 1) n.cells (by rfl) (by rfl) 89 _ hy4.out (by kernel_rfl) (by kernel_rfl) (nod_one n) ?_))
      refine bodyPost_ret (results_cs rfl _ _ (w.heap.size + 1) _ _ _ _ _ rfl rfl (setRow_heap _ _ _ n.cells _ _ hy4.out) Tryz.underlying89 rfl (by kernel_rfl)) rfl ?_
      exact ⟨by rw [hF.out, ← hn.out]; rfl, below_setRow hB4.out (by omega) _⟩
    · rw [hdb] at hF
      clear hdb
      go_wp2_with (first
        | (refine wpList_load_row (by rfl) 89 (.tmp 6) (by rfl) z (by rfl) 89 n.cells (0, 0) _ hn4.out Tryz.underlying89 (by rfl) (by kernel_rfl) ?_)
        | (refine wpList_store_row (by rfl) 89 (.tmp 4) (.tmp 21) (by rfl) (w.heap.size + 1) n.cells (by rfl) (by rfl) 89 _ hy4.out (by kernel_rfl) (by kernel_rfl) (nod_one n) ?_))
      refine bodyPost_ret (results_cs rfl _ _ (w.heap.size + 1) _ _ _ _ _ rfl rfl (setRow_heap _ _ _ n.cells _ _ hy4.out) Tryz.underlying89 rfl (by kernel_rfl)) rfl ?_
      exact ⟨by rw [hF.out, ← hn.out]; rfl, below_setRow hB4.out (by omega) _⟩
end
end Go.Proofs.YtkefjeabckainaaGreat

namespace Go.Proofs.YtkefjeabckainaaGreat
section
open Go.RowKit
set_option maxRecDepth 100000
set_option linter.unusedVariables false

theorem strL_ext {s : ByteArray} {l : List UInt8} (h : s.data.toList = l) : s = strL l := by
  subst h; rfl
theorem extract_pad {s : ByteArray} {n : Nat} (h : n ≤ s.size) : s.extract 0 n = strL (padL s.data.toList n) := by
  refine strL_ext ?_
  have hl : s.data.toList.length = s.size := rfl
  unfold padL
  rw [show n - s.data.toList.length = 0 by omega, List.replicate_zero, List.append_nil]
  simp
theorem append_pad {s : ByteArray} {n : Nat} (h : s.size ≤ n) : s ++ strL (List.replicate (n - s.size) 0) = strL (padL s.data.toList n) := by
  refine strL_ext ?_
  have hl : s.data.toList.length = s.size := rfl
  unfold padL
  rw [List.take_of_length_le (by simp; omega)]
  simp [strL]
set_option maxHeartbeats 1600000 in
theorem filled_any (s : ByteArray) (n : Nat) (w : World) (hs : s.size ≤ 1000000) (hn : n ≤ 1000000) :
    Calls Tryz.prog 97 #[.string s, .int .i64 (n : Int)] w fun e w' => e = .returned (.string (strL (padL s.data.toList n))) ∧ Below w.heap.size w w' := by
  by_cases h : n ≤ s.size
  · have hE := hid (extract_pad h)
    have k1 : decide ((n : Int) ≤ (s.size : Int)) = true := by simp; omega
    go_enter Tryz.func97, Tryz.ntmps97
    go_wp2_with fail
    go_ret
    exact ⟨by rw [← hE.out]; rfl, Below.refl _ _⟩
  · have hE := hid (append_pad (s := s) (n := n) (by omega))
    have k1 : decide ((n : Int) ≤ (s.size : Int)) = false := by simp; omega
    obtain ⟨m, hm⟩ : ∃ m, m = n - s.size := ⟨_, rfl⟩
    have km : (n : Int) - (s.size : Int) = (m : Int) := by omega
    have hmk := run_make_row' (P := Tryz.prog) 226 5 (.int .u8 0) 1 Tryz.underlying226 (by kernel_rfl) rfl .i64 .i64 m (by omega) (by omega) w
    obtain ⟨X, hX⟩ : ∃ X, X = w.alloc (.cells (madeCells #[.int .u8 0] m) 5) := ⟨_, rfl⟩
    have hB := hid (show Below w.heap.size w X by rw [hX]; exact (Below.refl _ _).alloc (Nat.le_refl _) _)
    have hz : BytesAt X (.slice (some ⟨w.heap.size, 0, none⟩) m m) (List.replicate m 0) := by
      have h := RowAt.of_block (k := 1) (n := m) (show X.heap[w.heap.size]? = some (.cells (madeCells #[.int .u8 0] m) 5 (0, 0)) by rw [hX, heap_alloc_new]) (by simp [madeCells]) (by unfold maxLen; omega)
      rw [toList_madeCells_one] at h
      have e : List.replicate m (Value.int .u8 0) = (List.replicate m (0 : UInt8)).map byteV := by rw [List.map_replicate]; rfl
      rw [e] at h
      unfold BytesAt
      rw [List.length_replicate]; exact h
    have hc := conv_string _ _ _ hz
    obtain ⟨z, hzz⟩ : ∃ z, z = strL (List.replicate m 0) := ⟨_, rfl⟩
    rw [← hzz] at hc
    rw [← hm, ← hzz] at hE
    have hzs : z.size = m := by rw [hzz, strL_size, List.length_replicate]
    have ks : ¬ 9223372036854775807 < s.size + z.size := by omega
    clear hzs
    replace hm := hid hm
    replace hzz := hid hzz
    replace hX := hid hX
    rw [← hX.out] at hmk
    clear hz
    go_enter Tryz.func97, Tryz.ntmps97
    go_wp2_with fail
    go_ret
    exact ⟨by rw [← hE.out]; rfl, hB.out⟩
end
end Go.Proofs.YtkefjeabckainaaGreat
