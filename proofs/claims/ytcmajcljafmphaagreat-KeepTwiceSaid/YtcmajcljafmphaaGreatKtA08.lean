/- IndexFunc and DeleteFunc at nodes, for a test that reads; Drop of a tree. Conditions: numbers in their types. And the texts behind it. -/
import Derived.Test.YtcmajcljafmphaaGreatKtA07
import Derived.Lib.SliceRun
import Derived.Test.YtcmajcljafmphaaGreatKtA03
import Derived.Deep.OwnRows
namespace Go.Proofs.YtcmajcljafmphaaGreat
section
open Go.RowKit
set_option maxRecDepth 100000
set_option linter.unusedVariables false

def TestsN (f : FuncId) (cap : Array Value) (base : Nat) (w : World) (p : Nod → Bool) : Prop := ∀ n w', Below base w w' → Calls Tryz.prog f (#[.agg n.cells] ++ cap) w' fun e w2 => e = .returned (.bool (p n)) ∧ Below w'.heap.size w' w2
def Enters (f : FuncId) : Prop := ∀ args W, Sem.run Tryz.prog (callFunc f args) W = .ok (.enter f args) W
theorem sb {B : Nat} {w w1 w2 : World} (h : Below B w w1) (h2 : Below w1.heap.size w1 w2) (hB : B ≤ w.heap.size) : Below B w w2 := h.trans (h2.mono (Nat.le_trans hB h.size))
def IdxN (base : Nat) (w : World) (l : List Nod) (p : Nod → Bool) (e : Ending) (w' : World) : Prop :=
  ∃ i : Int, e = .returned (.int .i64 i) ∧ ((i = -1 ∧ ∀ n ∈ l, p n = false) ∨ ∃ (k : Nat) (h : k < l.length), i = (k : Int) ∧ p l[k] = true ∧ ∀ j (h : j < l.length), j < k → p l[j] = false) ∧ Below w.heap.size w w'

set_option maxHeartbeats 1600000 in
theorem nidx_any (v : Value) (l : List Nod) (f : FuncId) (cap : Array Value) (base : Nat) (p : Nod → Bool) (w : World) (hv : NodsAt w v l) (hl : l.length ≤ 1000) (hT : TestsN f cap base w p) (hE : Enters f) (hB : base ≤ w.heap.size) :
    Calls Tryz.prog 97 #[v, .func (.func f) #[] cap] w (IdxN base w l p) := by
  obtain ⟨a, c, rfl, g1, g2⟩ := hv.form
  unfold maxLen at g2
  replace hv := hid hv
  replace hT := hid hT
  replace hE := hid hE
  replace hB := hid hB
  go_enter Tryz.func97, Tryz.ntmps97
  go_wp2_with fail
  go_loopw [8] (fun kv wr => ∃ k : Nat, k ≤ l.length ∧ kv = .int .i64 (k : Int) ∧ Hid (Below w.heap.size w wr) ∧ Hid (∀ j (h : j < l.length), j < k → p l[j] = false)) (fun kv _ => l.length - (intOf kv).toNat)
  case atStart => exact ⟨0, by omega, rfl, hid (Below.refl _ _), hid (fun j _ h => by omega)⟩
  case round =>
    obtain ⟨k, hk, rfl, hBr, hall⟩ := hrel
    by_cases hkl : k < l.length
    · obtain ⟨b, o, ha, hr⟩ := (hv.out.below hBr.out).range k hkl
      subst ha
      have hpk : Hid (∀ q, p l[k] = q → q = p l[k]) := hid (fun q h => h.symm)
      obtain ⟨n, hn⟩ : ∃ n, n = l[k] := ⟨_, rfl⟩
      rw [← hn] at hr
      replace hn := hid hn
      have hcall := hid (hT.out n wr (hBr.out.mono hB.out))
      have hE' := hE.out (#[.agg n.cells] ++ cap) wr
      replace hr := hid hr
      go_wp2_with (refine wpList_load_cells (by rfl) 68 (.tmp 14) (by rfl) b (o + k * 12) (by rfl) n.cells _ hr.out Tryz.underlying68 (by rfl) (by kernel_rfl) ?_)
      refine hcall.out.mono ?_
      rintro e w2 ⟨rfl, hb2⟩
      have hB2 := hid (sn hBr.out hb2)
      clear hb2 hcall hE' hr
      cases hp : p n with
      | true =>
        replace hp := hid hp
        go_wp2_with fail
        go_ret
        exact ⟨(k : Int), rfl, .inr ⟨k, hkl, rfl, by rw [← hn.out]; exact hp.out, hall.out⟩, hB2.out⟩
      | false =>
        have hall2 := hid (show ∀ j (h : j < l.length), j < k + 1 → p l[j] = false from fun j h hj => by
          by_cases e : j < k
          · exact hall.out j h e
          · obtain rfl : j = k := by omega
            rw [← hn.out]; exact hp)
        clear hp
        go_wp2_with fail
        go_roundw
        case rel => exact ⟨k + 1, by omega, by go_num, hB2, hall2⟩
        case measure => simp [intOf]; omega
    · obtain rfl : k = l.length := by omega
      go_wp2_with fail
      go_ret
      exact ⟨-1, rfl, .inl ⟨rfl, fun n hn => by obtain ⟨i, hi, rfl⟩ := List.mem_iff_getElem.1 hn; exact hall.out i hi hi⟩, hBr.out⟩

theorem drop1_any (b : Nat) (q : Nat) (base : Nat) (w : World) (hb : w.heap[b]? = some (.cells #[.int .u64 (q : Int)] 30 (0, 0))) (hlt : b < base) :
    TestsN 94 #[.pointer (some ⟨b, 0, none⟩)] base w (fun n => decide (n.path = q)) := by
  intro n w' hB
  have hb0 := (Below.refl w'.heap.size w').alloc (Nat.le_refl _) (.cells n.cells 68)
  have c0 : (w'.alloc (.cells n.cells 68)).cell? ⟨b, 0, none⟩ = some (.int .u64 (q : Int)) := by
    have h1 := (hB.block b hlt).trans hb
    exact block_cell ((hb0.block b (lt_of_block h1)).trans h1) 0
  have k1 : ((n.path : Int) == (q : Int)) = decide (n.path = q) := dec_int _ _
  replace hb0 := hid hb0
  replace hb := hid hb
  replace hB := hid hB
  rw [nod_cells] at c0 hb0 ⊢
  show Calls _ _ #[_, _] _ _
  go_enter Tryz.func94, Tryz.ntmps94
  go_wp2_with fail
  go_ret
  exact ⟨rfl, hb0.out⟩
theorem enter_drop1 : Enters 94 := fun args W => rfl
end
end Go.Proofs.YtcmajcljafmphaaGreat

namespace Go.Proofs.YtcmajcljafmphaaGreat
section
open Go.RowKit
set_option maxRecDepth 100000
set_option linter.unusedVariables false

theorem run_clear_nodes (w : World) (ty : TypeId) (b o n c : Nat) (hn : 0 < n) (ht : w.there b o (n * 12)) :
    ∃ vs : List Value, vs.length = n * 12 ∧ (Builtin.clear_ #[31] ty #[.slice (some ⟨b, o, none⟩) n c]).run Tryz.prog w = .ok (.tuple #[]) (w.setCells b o vs) := by
  have hz : ∀ w, (zeroValue 68).run Tryz.prog w = .ok (.agg zeroNod.cells) w := fun w => by kernel_rfl
  have h1 : ∀ v ∈ (Builtin.zeroCells zeroNod.cells n).toList, v.oneCell' = true := by
    intro v hv
    simp only [Builtin.zeroCells, Array.toList_map, List.mem_map] at hv
    obtain ⟨i, _, rfl⟩ := hv
    have hm : i % 12 < 12 := Nat.mod_lt _ (by omega)
    show (zeroNod.cells[i % 12]!).oneCell' = true
    generalize i % 12 = j at hm
    rw [zeroNod_cells]
    match j, hm with
    | 0, _ => rfl
    | 1, _ => rfl
    | 2, _ => rfl
    | 3, _ => rfl
    | 4, _ => rfl
    | 5, _ => rfl
    | 6, _ => rfl
    | 7, _ => rfl
    | 8, _ => rfl
    | 9, _ => rfl
    | 10, _ => rfl
    | 11, _ => rfl
  have hl : (Builtin.zeroCells zeroNod.cells n).toList.length = n * 12 := by simp [Builtin.zeroCells, zeroNod_cells]
  have hst := run_storeCells_cells (P := Tryz.prog) b o (Builtin.zeroCells zeroNod.cells n).toList 0 w (fun j hj => by simpa using (ht j (by rw [hl] at hj; exact hj)).1) (fun j hj => by simpa using (ht j (by rw [hl] at hj; exact hj)).2) h1
  simp only [Nat.add_zero] at hst
  obtain ⟨m, rfl⟩ : ∃ m, n = m + 1 := ⟨n - 1, by omega⟩
  have hzc : (Value.agg zeroNod.cells).cells = zeroNod.cells := rfl
  refine ⟨_, hl, ?_⟩
  simp [Builtin.clear_, run_underlying Tryz.underlying31, hz, hzc, hst]
theorem own_there2 {w : World} {base e k n c i m : Nat} {g : Nat} {xs : List Value} (h : w.ownsRow base e k (.slice (some ⟨g, 0, none⟩) n c) n xs) (hi : i + m ≤ n) : w.there g (i * k) (m * k) := by
  rcases h.2 with ⟨h1, _⟩ | ⟨g', cap, cur, hv, hb, hg, h1, h2, h3, h4⟩
  · cases h1
  · cases hv
    intro j hj
    have hlt : i * k + j < cur.size := by
      have := Nat.mul_le_mul_right k hi
      rw [Nat.add_mul] at this
      have := Nat.mul_le_mul_right k h1
      omega
    refine ⟨?_, block_free hg _⟩
    rw [block_cell hg, Array.getElem?_eq_getElem hlt]; rfl
theorem own_cut {w : World} {base e n c g i : Nat} {M : List Nod} {vs : List Value} (h : w.ownsRow base e 12 (.slice (some ⟨g, 0, none⟩) n c) n (nodsL M)) (hi : i ≤ n) :
    (w.setCells g (i * 12) vs).ownsRow base e 12 (.slice (some ⟨g, 0, none⟩) i c) i (nodsL (M.take i)) ∧ Below base w (w.setCells g (i * 12) vs) := by
  have hln : n = M.length := by have := h.1; rw [nodsL_length] at this; omega
  rcases h.2 with ⟨h1, _⟩ | ⟨g', cap, cur, hv, hb, hg, h1, h2, h3, h4⟩
  · cases h1
  · cases hv
    obtain ⟨a1, a2, a3⟩ := stA_heap vs (i * 12) w cur hg
    refine ⟨⟨by rw [nodsL_length, List.length_take]; congr 1; omega, .inr ⟨g, c, _, rfl, hb, a1, by omega, h2, by rw [stA_size]; exact h3, ?_⟩⟩, a3.mono hb⟩
    apply List.ext_getElem?
    intro k
    by_cases hk : k < i * 12
    · have hkn : k < n * 12 := by have := Nat.mul_le_mul_right 12 hi; omega
      rw [List.getElem?_take_of_lt hk, Array.getElem?_toList, stA_get _ _ _ _ (by have := Nat.mul_le_mul_right 12 h1; omega), if_neg (by omega)]
      have e1 : (nodsL M)[k]? = cur[k]? := by rw [← h4, List.getElem?_take_of_lt hkn, Array.getElem?_toList]
      rw [← e1]
      have hq : k = k / 12 * 12 + k % 12 := by omega
      rw [hq, nodsL_get _ _ _ (by omega) (by omega), nodsL_get _ _ _ (by rw [List.length_take]; omega) (by omega), List.getElem_take]
    · rw [List.getElem?_eq_none (by simp; omega), List.getElem?_eq_none (by rw [nodsL_length, List.length_take]; omega)]
def DelPost (base : Nat) (w : World) (l : List Nod) (p : Nod → Bool) (e : Ending) (w' : World) : Prop :=
  ∃ v', e = .returned v' ∧ w'.ownsRow base 68 12 v' (l.filter fun n => !p n).length (nodsL (l.filter fun n => !p n)) ∧ Below base w w'
structure DelAt (l M : List Nod) (p : Nod → Bool) (i j : Nat) : Prop where
  len : M.length = l.length
  lt : i < j ∧ j ≤ l.length
  front : M.take i = (l.take j).filter fun n => !p n
  back : M.drop j = l.drop j
theorem DelAt.start {l : List Nod} {p : Nod → Bool} {k : Nat} (hk : k < l.length) (hp : p l[k] = true) (ha : ∀ j (h : j < l.length), j < k → p l[j] = false) : DelAt l l p k (k + 1) := by
  refine ⟨rfl, ⟨by omega, by omega⟩, ?_, rfl⟩
  rw [List.take_succ_eq_append_getElem hk, List.filter_append, List.filter_cons_of_neg (by simp [hp]), List.filter_nil, List.append_nil]
  refine (List.filter_eq_self.2 fun n hn => ?_).symm
  obtain ⟨i, hi, rfl⟩ := List.mem_iff_getElem.1 hn
  rw [List.length_take] at hi
  rw [List.getElem_take]
  simp [ha i (by omega) (by omega)]
theorem DelAt.get {l M : List Nod} {p : Nod → Bool} {i j : Nat} (h : DelAt l M p i j) (hj : j < l.length) : ∃ hh : j < M.length, M[j] = l[j] := by
  have hM : j < M.length := by rw [h.len]; exact hj
  refine ⟨hM, ?_⟩
  have e := congrArg (fun z => z[0]?) h.back
  simp only [List.getElem?_drop, Nat.add_zero] at e
  rw [List.getElem?_eq_getElem hM, List.getElem?_eq_getElem hj] at e
  exact Option.some.inj e
theorem DelAt.keep {l M : List Nod} {p : Nod → Bool} {i j : Nat} (h : DelAt l M p i j) (hj : j < l.length) (hp : p l[j] = false) : DelAt l (M.set i l[j]) p (i + 1) (j + 1) := by
  have hi := h.lt
  refine ⟨by rw [List.length_set]; exact h.len, ⟨by omega, by omega⟩, ?_, ?_⟩
  · rw [List.take_succ_eq_append_getElem (by rw [List.length_set, h.len]; omega), List.getElem_set_self, List.take_set_of_le (Nat.le_refl _), h.front, List.take_succ_eq_append_getElem hj, List.filter_append, List.filter_cons_of_pos (by simp [hp]), List.filter_nil]
  · rw [List.drop_set_of_lt (by omega)]
    have e := congrArg (fun z => z.drop 1) h.back
    simpa using e
theorem DelAt.skip {l M : List Nod} {p : Nod → Bool} {i j : Nat} (h : DelAt l M p i j) (hj : j < l.length) (hp : p l[j] = true) : DelAt l M p i (j + 1) := by
  have hi := h.lt
  refine ⟨h.len, ⟨by omega, by omega⟩, ?_, ?_⟩
  · rw [h.front, List.take_succ_eq_append_getElem hj, List.filter_append, List.filter_cons_of_neg (by simp [hp]), List.filter_nil, List.append_nil]
  · have e := congrArg (fun z => z.drop 1) h.back
    simpa using e

set_option maxHeartbeats 3200000 in
theorem ndel_any (v : Value) (l : List Nod) (f : FuncId) (cap : Array Value) (base : Nat) (p : Nod → Bool) (w : World) (hv : w.ownsRow base 68 12 v l.length (nodsL l)) (hl : l.length ≤ 1000) (hT : TestsN f cap base w p) (hE : Enters f) (hB : base ≤ w.heap.size) :
    Calls Tryz.prog 92 #[v, .func (.func f) #[] cap] w (DelPost base w l p) := by
  obtain ⟨a, c, rfl, g1, g2⟩ := (NodsAt.of_own hv).form
  unfold maxLen at g2
  have hix := hid (nidx_any _ l f cap base p w (NodsAt.of_own hv) hl hT hE hB)
  replace hv := hid hv
  replace hT := hid hT
  replace hE := hid hE
  replace hB := hid hB
  go_enter Tryz.func92, Tryz.ntmps92
  go_wp2_with fail
  refine hix.out.mono ?_
  rintro e w1 ⟨i, rfl, hi, hb1⟩
  have hv1 := hid (own_below hv.out hb1)
  have hB1 := hid (hb1.mono hB.out)
  have hs1 := hid hb1.size
  clear hb1 hix
  rcases hi with ⟨rfl, hnone⟩ | ⟨k, hk, rfl, hpk, hbef⟩
  · have hfil := hid (show (l.filter fun n => !p n) = l from List.filter_eq_self.2 fun n hn => by simp [hnone n hn])
    clear hnone
    go_wp2_with fail
    go_ret
    exact ⟨_, rfl, by rw [hfil.out]; exact hv1.out, hB1.out⟩
  · have hst := hid (DelAt.start hk hpk hbef)
    have hne : ((k : Int) == -1) = false := by rw [beq_eq_false_iff_ne]; omega
    clear hpk hbef
    go_wp2_with fail
    obtain ⟨g, c2, hvv, _, _, hgb⟩ := own_ptr hv1.out (by omega)
    obtain ⟨rfl, -, rfl⟩ : a = some ⟨g, 0, none⟩ ∧ True ∧ c = c2 := by cases hvv; exact ⟨rfl, trivial, rfl⟩
    clear hvv
    go_loopw [5, 6] (fun iv jv wr => ∃ (i j : Nat) (M : List Nod), iv = .int .i64 (i : Int) ∧ jv = .int .i64 (j : Int) ∧ j ≤ l.length ∧ i < j ∧ Hid (DelAt l M p i j) ∧ Hid (wr.ownsRow base 68 12 (.slice (some ⟨g, 0, none⟩) l.length c) l.length (nodsL M)) ∧ Hid (Below base w wr)) (fun _ jv _ => l.length - (intOf jv).toNat)
    case atStart => exact ⟨k, k + 1, l, rfl, by go_num, by omega, by omega, hst, hv1, hB1⟩
    case round =>
      obtain ⟨i, j, M, rfl, rfl, hj, hij, hD, hO, hBr⟩ := hrel
      clear hst
      by_cases hjl : j < l.length
      · obtain ⟨hM, hMl⟩ := hD.out.get hjl
        obtain ⟨b, o, ha, hr⟩ := (NodsAt.of_own hO.out).range j hM
        have hkeep := hid (hD.out.keep hjl)
        have hskip := hid (hD.out.skip hjl)
        rw [hMl] at hr
        generalize l[j] = n at *
        cases ha
        rw [Nat.zero_add] at hr
        have hnew := hid (heap_alloc_new wr (.cells zeroNod.cells 68))
        obtain ⟨W3, hW3⟩ : ∃ W, W = boxN wr n := ⟨_, rfl⟩
        have hb3 : Below wr.heap.size wr W3 := by rw [hW3]; exact boxN_below _ _
        have hn3 := hid (show W3.heap[wr.heap.size]? = some (.cells n.cells 68 (0, 0)) by rw [hW3]; exact boxN_heap _ _)
        have hO3 := hid (own_below hO.out hb3)
        have hlt : base ≤ wr.heap.size := Nat.le_trans hB.out hBr.out.size
        have hB3 := hid (sb hBr.out hb3 hB.out)
        unfold boxN at hW3
        rw [zeroNod_cells] at hW3 hnew
        replace hr := hid hr
        replace hMl := hid hMl
        have hcall := hid (hT.out n W3 hB3.out)
        have hE' := hE.out (#[.agg n.cells] ++ cap) W3
        clear hb3 hO hBr hD
        go_wp2_with (first
          | (refine wpList_load_cells (by rfl) 68 (.tmp 24) (by rfl) g (j * 12) (by rfl) n.cells _ hr.out Tryz.underlying68 (by rfl) (by kernel_rfl) ?_)
          | (refine wpList_store_row (by rfl) 68 (.tmp 7) (.tmp 25) (by rfl) wr.heap.size n.cells (by rfl) (by rfl) 68 _ hnew.out (by kernel_rfl) (by kernel_rfl) (nod_one n) ?_)
          | (rw [← hW3]; replace hW3 := hid hW3)
          | (refine wpList_load_row (by rfl) 68 (.tmp 7) (by rfl) wr.heap.size (by rfl) 68 n.cells (0, 0) _ hn3.out Tryz.underlying68 (by rfl) (by kernel_rfl) ?_))
        refine hcall.out.mono ?_
        rintro e w4 ⟨rfl, hb4⟩
        have hO4 := hid (own_below hO3.out hb4)
        have hn4 := hid ((hb4.block _ (lt_of_block hn3.out)).trans hn3.out)
        have hB4 := hid (sb hB3.out hb4 hB.out)
        clear hb4 hcall hE' hr hn3 hO3 hB3 hnew hlt
        generalize wr.heap.size = z at *
        cases hp : p n with
        | true =>
          have hD2 := hid (hskip.out hp)
          clear hp hkeep hskip
          go_wp2_with fail
          go_roundw
          case rel => exact ⟨i, j + 1, M, rfl, by go_num, by omega, by omega, hD2, hO4, hB4⟩
          case measure => simp [intOf]; omega
        | false =>
          have hD2 := hid (hkeep.out hp)
          have hth := hid (own_there hO4.out (show i < l.length by omega))
          obtain ⟨s1, s2, s3⟩ := own_set (x := n) hO4.out (show i < l.length by omega)
          obtain ⟨X, hX⟩ : ∃ X, X = w4.setCells g (i * 12) n.cells.toList := ⟨_, rfl⟩
          rw [← hX] at s1 s2
          have hOX := hid s1
          have hBX := hid (hB4.out.trans s2)
          clear hp hkeep hskip s1 s2 s3
          go_wp2_with (first
            | (rw [← hX]; replace hX := hid hX)
            | (refine wpList_load_row (by rfl) 68 (.tmp 7) (by rfl) z (by rfl) 68 n.cells (0, 0) _ hn4.out Tryz.underlying68 (by rfl) (by kernel_rfl) ?_)
            | (refine wpList_store_mid (by rfl) 68 (.tmp 33) (.tmp 32) (by rfl) g (i * 12) n.cells (by rfl) (by rfl) hth.out (by kernel_rfl) (nod_one n) ?_))
          go_roundw
          case rel => exact ⟨i + 1, j + 1, _, by go_num, by go_num, by omega, by omega, hD2, hOX, hBX⟩
          case measure => simp [intOf]; omega
      · obtain rfl : j = l.length := by omega
        obtain ⟨vs, hvs, hcl⟩ := run_clear_nodes wr 0 g (i * 12) (l.length - i) (c - i) (by omega) (own_there2 hO.out (by omega))
        obtain ⟨s1, s2⟩ := own_cut (vs := vs) hO.out (show i ≤ l.length by omega)
        obtain ⟨X, hX⟩ : ∃ X, X = wr.setCells g (i * 12) vs := ⟨_, rfl⟩
        rw [← hX] at s1 s2 hcl
        have hfr := hid (show M.take i = l.filter fun n => !p n by rw [hD.out.front, List.take_length])
        rw [hfr.out] at s1
        have hil : Hid (i = (l.filter fun n => !p n).length) := hid (by have := s1.1; rw [nodsL_length] at this; omega)
        have hOX := hid s1
        have hBX := hid (hBr.out.trans s2)
        have hcl2 : ∀ ty, Sem.run Tryz.prog (Builtin.clear_ #[31] ty #[.slice (some ⟨g, i * 12, none⟩) (l.length - i) (c - i)]) wr = .ok (.tuple #[]) X := fun ty => hcl
        replace hX := hid hX
        clear s1 s2 hvs hcl hD
        go_wp2_with fail
        go_ret
        exact ⟨_, rfl, by rw [← hil.out]; exact hOX.out, hBX.out⟩
end
end Go.Proofs.YtcmajcljafmphaaGreat

namespace Go.Proofs.YtcmajcljafmphaaGreat
section
open Go.RowKit
set_option maxRecDepth 100000
set_option linter.unusedVariables false

theorem dropL_eq (l : List Nod) (p : Nat) : (l.filter fun n => !decide (n.path = p)) = dropL l p := by
  unfold dropL; congr 1; funext n; simp

set_option maxHeartbeats 6400000 in
theorem ndrop_any (v : Value) (x : Nat) (l : List Nod) (p : Nat) (w : World) (hv : NodsAt w v l) (hl : l.length ≤ 900) :
    Calls Tryz.prog 68 #[.agg #[.int .u64 (x : Int), v], .int .u64 (p : Int)] w (SetPost w x (dropL l p)) := by
  obtain ⟨a, c, rfl, g1, g2⟩ := hv.form
  unfold maxLen at g2
  obtain ⟨W, hW⟩ : ∃ W, W = ((w.alloc (.cells #[.int .u64 (x : Int), .slice a l.length c] 33)).alloc (.cells #[.int .u64 (p : Int)] 30)).alloc (.cells #[.int .u64 0, .slice none 0 0] 33) := ⟨_, rfl⟩
  have hb0 : Below w.heap.size w W := by rw [hW]; exact (((Below.refl w.heap.size w).alloc (Nat.le_refl _) _).alloc (by simp) _).alloc (by simp; omega) _
  have hx0 : W.heap[w.heap.size]? = some (.cells #[.int .u64 (x : Int), .slice a l.length c] 33 (0, 0)) := by rw [hW, heap_alloc_old _ _ (by simp; omega), heap_alloc_old _ _ (by simp), heap_alloc_new]
  have hy0 : W.heap[w.heap.size + 1]? = some (.cells #[.int .u64 (p : Int)] 30 (0, 0)) := by rw [hW, heap_alloc_old _ _ (by simp)]; exact heap2 _ _ _
  have hz0 : W.heap[w.heap.size + 2]? = some (.cells #[.int .u64 0, .slice none 0 0] 33 (0, 0)) := by
    rw [hW]
    have := heap_alloc_new ((w.alloc (.cells #[.int .u64 (x : Int), .slice a l.length c] 33)).alloc (.cells #[.int .u64 (p : Int)] 30)) (.cells #[.int .u64 0, .slice none 0 0] 33)
    simpa using this
  have hcl0 := hid (nclone_any _ l W (hv.below hb0) (by omega))
  have e1 := block_cell hx0 1
  have hlt0 := lt_of_block hz0
  replace hb0 := hid hb0
  replace hx0 := hid hx0
  replace hy0 := hid hy0
  replace hz0 := hid hz0
  clear hv
  go_enter Tryz.func68, Tryz.ntmps68
  go_wp2_with (rw [← hW]; replace hW := hid hW)
  try (rw [← hW]; replace hW := hid hW)
  refine hcl0.out.mono ?_
  rintro e w2 ⟨v2, rfl, ho2, hb2⟩
  have hB2 := hid (sn hb0.out hb2)
  have hx2 := hid ((hb2.block _ (lt_of_block hx0.out)).trans hx0.out)
  have hy2 := hid ((hb2.block _ (lt_of_block hy0.out)).trans hy0.out)
  have hz2 := hid ((hb2.block _ (lt_of_block hz0.out)).trans hz0.out)
  have hsz2 := hb2.size
  clear e1 hb2
  have hdel := hid (ndel_any v2 l 94 #[.pointer (some ⟨w.heap.size + 1, 0, none⟩)] W.heap.size (fun n => decide (n.path = p)) w2 ho2 (by omega) (drop1_any (w.heap.size + 1) p W.heap.size w2 hy2.out (by omega)) enter_drop1 (by omega))
  clear ho2 hcl0
  go_wp2_with fail
  refine hdel.out.mono ?_
  rintro e X ⟨vX, rfl, hoX, hbX⟩
  rw [dropL_eq] at hoX
  obtain ⟨L, hLL⟩ : ∃ L, L = dropL l p := ⟨_, rfl⟩
  rw [← hLL] at hoX
  have hL := hid hLL.symm
  replace hLL := hid hLL
  have hXN := hid (NodsAt.of_own hoX)
  have hX0 := hid ((hbX.block w.heap.size (by omega)).trans hx2.out)
  have hX2 := hid ((hbX.block (w.heap.size + 2) (by omega)).trans hz2.out)
  have hXB := hid (hB2.out.trans (hbX.mono (by omega)))
  have hXf := hid (show ∀ k, vX.ownBlock = some k → w.heap.size ≤ k from fun k hk => by have := (hoX.lt _ hk).1; omega)
  have hXn := hid (show vX.ownBlock ≠ some (w.heap.size + 2) from fun e => by have := (hoX.lt _ e).1; omega)
  clear hoX hbX hdel
  have q0 : X.cell? ⟨w.heap.size, 0, none⟩ = some (.int .u64 (x : Int)) := block_cell hX0.out 0
  have q0d : X.drew.cell? ⟨w.heap.size, 0, none⟩ = some (.int .u64 (x : Int)) := block_cell hX0.out 0
  have g0 : X.cell? ⟨w.heap.size + 1 + 1, 0, none⟩ = some (.int .u64 0) := block_cell hX2.out 0
  have g1 : X.cell? ⟨w.heap.size + 1 + 1, 1, none⟩ = some (.slice none 0 0) := block_cell hX2.out 1
  have f0 : X.frozen? ⟨w.heap.size + 1 + 1, 0, none⟩ = false := block_free hX2.out 0
  have f1 : X.frozen? ⟨w.heap.size + 1 + 1, 1, none⟩ = false := block_free hX2.out 1
  have ff0 : X.drew.frozen? ⟨w.heap.size + 1 + 1, 0, none⟩ = false := f0
  have ff1 : X.drew.frozen? ⟨w.heap.size + 1 + 1, 1, none⟩ = false := f1
  have gg0 : X.drew.cell? ⟨w.heap.size + 1 + 1, 0, none⟩ = some (.int .u64 0) := g0
  have gg1 : X.drew.cell? ⟨w.heap.size + 1 + 1, 1, none⟩ = some (.slice none 0 0) := g1
  obtain ⟨ax, cx, rfl, x1, x2⟩ := hXN.out.form
  have hzz := hid (block_set (block_set hX2.out 0 (.int .u64 (x : Int))) 1 (.slice ax L.length L.length))
  have hzB := hid (((hXB.out.setCell (p := ⟨w.heap.size + 1 + 1, 0, none⟩) (by show w.heap.size ≤ w.heap.size + 1 + 1; omega) (.int .u64 (x : Int))).setCell (p := ⟨w.heap.size + 1 + 1, 1, none⟩) (by show w.heap.size ≤ w.heap.size + 1 + 1; omega) (.slice ax L.length L.length)).drew)
  have hx9 : Hid (((X.setCell ⟨w.heap.size + 1 + 1, 0, none⟩ (.int .u64 (x : Int))).setCell ⟨w.heap.size + 1 + 1, 1, none⟩ (.slice ax L.length L.length)).drew.heap[w.heap.size]? = _) := hid ((block_set_other (by show w.heap.size ≠ w.heap.size + 1 + 1; omega)).trans ((block_set_other (by show w.heap.size ≠ w.heap.size + 1 + 1; omega)).trans hX0.out))
  have hNz := hid (NodsAt.below hXN.out.clip (show Below X.heap.size X X from Below.refl _ _))
  have hN9 : Hid (NodsAt ((X.setCell ⟨w.heap.size + 1 + 1, 0, none⟩ (.int .u64 (x : Int))).setCell ⟨w.heap.size + 1 + 1, 1, none⟩ (.slice ax L.length L.length)).drew (.slice ax L.length L.length) L) := hid (NodsAt.other hXN.out.clip (w.heap.size + 1 + 1) (by rw [ownBlock_cap ax _ _ L.length cx]; exact hXn.out) (by simp) fun k hk => (block_set_other (by show k ≠ _; exact hk)).trans (block_set_other (by show k ≠ _; exact hk)))
  have hcl := hid (fun W => nclip_eq ax L.length cx W x1 x2)
  replace hX0 := hid hX0.out
  go_wp2_with fail
  go_region_held3 (fun w' => w'.cell? ⟨w.heap.size, 0, none⟩ = some (.int .u64 (x : Int)))
    (first | exact q0d | exact block_cell hx9.out 0 | go_keep)
    ((go_at_call 90; (with_reducible refine (hcl.out _).mono ?_); rintro e wc ⟨rfl, rfl⟩))
  clear q0 q0d g0 g1 f0 f1 ff0 ff1 gg0 gg1
  all_goals
    go_wp2_with fail
    refine bodyPost_ret (results_cell_row rfl _ _ (w.heap.size + 1 + 1) _ _ _ _ rfl hzz.out Tryz.underlying33 rfl (by kernel_rfl)) rfl ?_
    exact ⟨_, rfl, by rw [hL.out]; exact hN9.out, fun k hk => hXf.out k (by rw [ownBlock_cap ax _ _ L.length L.length]; exact hk), hzB.out⟩
end
end Go.Proofs.YtcmajcljafmphaaGreat

namespace Go.Proofs.YtcmajcljafmphaaGreat
section
open Go.RowKit
set_option maxRecDepth 100000
set_option linter.unusedVariables false
end
end Go.Proofs.YtcmajcljafmphaaGreat

namespace Go.Proofs.YtcmajcljafmphaaGreat
section
open Go.RowKit
set_option maxRecDepth 100000
set_option linter.unusedVariables false
end
end Go.Proofs.YtcmajcljafmphaaGreat

namespace Go.Proofs.YtcmajcljafmphaaGreat
section
open Go.RowKit
set_option maxRecDepth 100000
set_option linter.unusedVariables false
end
end Go.Proofs.YtcmajcljafmphaaGreat
