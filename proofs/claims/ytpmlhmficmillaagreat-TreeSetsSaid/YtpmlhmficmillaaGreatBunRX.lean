/- A region that draws its order and only reads or calls quietly, operation by operation, whatever the frame: of a frame a list of slots with their values is known (Reg); of the memory a predicate S that each call gives anew. No condition.
A part of a slice, its head or its tail, reads as that part of the list. No condition.
Operations of a drawn region that make memory, one by one: a slice that is built, an append, a part of a slice. No condition. -/
import Derived.Test.YtpmlhmficmillaaGreatBunOW
import Derived.Test.YtpmlhmficmillaaGreatBunRN5
import Derived.Deep.RegionHeld3
import Derived.Test.YtpmlhmficmillaaGreatBunUs
namespace Go.Proofs.YtpmlhmficmillaaGreat
section
open Go.RowKit
set_option maxRecDepth 100000
set_option linter.unusedVariables false

section
variable {P : Program} {ops : Array Oper} {Q : Exit → Act → World → Prop} {S : World → Prop} {o : Oper} {rest : List Oper} {a : Act} {w : World} {N : Nat} {fx : List (Nat × Value)} {listed : Array Bool} {fuel : Nat}
theorem hst {i : Nat} (hF : FrL N fx a) (d : Nat) (W : Bool) (v : Value) (hi : ops[i]? = some o) (hd : o.dst = some d) (hN : d < N) (hs : Region.noSelect ops = true) (hf : Region.free .any ops listed i = true) (hr : (Region.ready .any ops listed).contains i = true)
    (hQ : ∀ c a w, Q (.panic c) (a.put (some d) (cond W v undef)) w → Q (.panic c) a w) (hw : Region.wanted o (yielded ops a.tmps) = W) (hrun : W = true → ∀ w, S w → (execOp a.eval o).run P w = .ok (.value v) w) (hS : S w)
    (hk : ∀ b, FrL N ((d, cond W v undef) :: fx) b → wpAnyH P .any ops Q S fuel (listed.setIfInBounds i true) b w) : wpAnyH P .any ops Q S (fuel + 1) listed a w := by
  refine wpAnyH_take (i := i) (oi := o) (v := cond W v undef) hi hs hf hr (by rw [hd]; exact hQ) ?_ hS ?_
  · cases W with
    | true => exact .inl ⟨hw, hrun rfl⟩
    | false => exact .inr ⟨hw, rfl⟩
  · rw [hd]
    exact hk _ (hF.put d _ hN)
theorem hcall {i : Nat} (hF : FrL N fx a) (d : Nat) (W : Bool) (v : Value) (hi : ops[i]? = some o) (hd : o.dst = some d) (hN : d < N) (hr : Region.ready .any ops listed = [i])
    (hw : Region.wanted o (yielded ops a.tmps) = W) (hrun : W = true → ∃ f args, (execOp a.eval o).run P w = .ok (.enter f args) w ∧ Calls P f args w fun e w' => e = .returned v ∧ S w') (hS : S w)
    (hk : ∀ b w', FrL N ((d, cond W v undef) :: fx) b → S w' → wpAnyH P .any ops Q S fuel (listed.setIfInBounds i true) b w') : wpAnyH P .any ops Q S (fuel + 1) listed a w := by
  refine wpAnyH_all (rs := [i]) hr (by simp) fun j hj => ?_
  obtain rfl : j = i := by simpa using hj
  unfold wpOp
  simp only [hi]
  cases W with
  | true =>
    rw [if_pos hw]
    refine .inl ?_
    obtain ⟨f, args, h1, h2⟩ := hrun rfl
    unfold Oper.wp
    rw [h1]
    refine h2.mono ?_
    rintro e w' ⟨rfl, h3⟩
    show S w' ∧ _
    rw [hd]
    exact ⟨h3, hk _ _ (hF.put d v hN) h3⟩
  | false =>
    rw [if_neg (by rw [hw]; simp)]
    refine ⟨hS, ?_⟩
    rw [hd]
    exact hk _ _ (hF.put d undef hN) hS
theorem stcall (hF : FrL N fx a) (d : Nat) (W : Bool) (v : Value) (hd : o.dst = some d) (hN : d < N)
    (hw : Region.wanted o (yielded ops a.tmps) = W) (hrun : W = true → ∃ f args, (execOp a.eval o).run P w = .ok (.enter f args) w ∧ Calls P f args w fun e w' => e = .returned v ∧ S w') (hS : S w)
    (hk : ∀ b w', FrL N ((d, cond W v undef) :: fx) b → S w' → wpList P ops Q rest b w') : wpList P ops Q (o :: rest) a w := by
  unfold wpList
  cases W with
  | true =>
    rw [if_pos hw]
    refine .inl ?_
    obtain ⟨f, args, h1, h2⟩ := hrun rfl
    unfold Oper.wp
    rw [h1]
    refine h2.mono ?_
    rintro e w' ⟨rfl, h3⟩
    show wpList P ops Q rest (a.put o.dst v) w'
    rw [hd]
    exact hk _ _ (hF.put d v hN) h3
  | false =>
    rw [if_neg (by rw [hw]; simp), hd]
    exact hk _ _ (hF.put d undef hN) hS
end
section
variable {o : Oper} {ev : Operand → Value} {w : World} {x y z : Operand}
theorem rrun_bin {op : BinOp} {ty ty2 : TypeId} {u v r : Value} (ho : o.op = .binOp op ty x y ty2) (hx : ev x = u) (hy : ev y = v) (hg : (eqGuard op ty x y u v).run Tryz.prog w = .ok () w) (hb : (binOp op ty u v).run Tryz.prog w = .ok r w) : (execOp ev o).run Tryz.prog w = .ok (.value r) w := by
  simp only [execOp, ho, hx, hy, Sem.run_bind, hg, hb, Result.andThen_ok, Sem.run_pure]
theorem rrun_not {ty : TypeId} {b : Bool} (ho : o.op = .unOp .not ty x) (hx : ev x = .bool b) : (execOp ev o).run Tryz.prog w = .ok (.value (.bool (!b))) w := by
  simp [execOp, ho, hx, go_sem]
theorem rrun_idx {ty : TypeId} {b f n c : Nat} {j : Nat} (k : Nat) (ho : o.op = .indexAddr ty x y) (hx : ev x = .slice (some ⟨b, f, none⟩) n c) (hy : ev y = .int .i64 (j : Int)) (hj : j < n) (hk : (Instr.indexAt ty (.slice (some ⟨b, f, none⟩) n c) (.int .i64 (j : Int))).run Tryz.prog w = .ok (ptr b (f + j * k)) w) : (execOp ev o).run Tryz.prog w = .ok (.value (ptr b (f + j * k))) w := by
  simp only [execOp, ho, hx, hy, Sem.run_bind, hk, Result.andThen_ok, Sem.run_pure]
theorem rrun_call1 {t : TypeId} {fn : Nat} {v : Value} (hf : ev (.func fn) = .func (.func fn) #[] #[]) (hc : (callFunc fn #[v]).run Tryz.prog w = .ok (.enter fn #[v]) w) (ho : o.op = .call { callee := .value (.func fn), args := #[x], argTypes := #[t] }) (hx : ev x = v) : (execOp ev o).run Tryz.prog w = .ok (.enter fn #[v]) w := by
  simp [execOp, ho, hx, hf, hc, go_sem]
theorem rrun_call2 {t u : TypeId} {fn : Nat} {v v2 : Value} (hf : ev (.func fn) = .func (.func fn) #[] #[]) (hc : (callFunc fn #[v, v2]).run Tryz.prog w = .ok (.enter fn #[v, v2]) w) (ho : o.op = .call { callee := .value (.func fn), args := #[x, y], argTypes := #[t, u] }) (hx : ev x = v) (hy : ev y = v2) : (execOp ev o).run Tryz.prog w = .ok (.enter fn #[v, v2]) w := by
  simp [execOp, ho, hx, hy, hf, hc, go_sem]
theorem rrun_len {t : TypeId} {n c : Nat} {ad : Option Addr} (ho : o.op = .call { callee := .builtin .len, args := #[x], argTypes := #[t] }) (hx : ev x = .slice ad n c) (hl : (Builtin.len_ #[t] o.type #[.slice ad n c]).run Tryz.prog w = .ok (.int .i64 (n : Int)) w) : (execOp ev o).run Tryz.prog w = .ok (.value (.int .i64 (n : Int))) w := by
  simp [execOp, ho, hx, hl, go_sem]
theorem rrun_andc {W c b : Bool} (hW : W = true) (ho : o.op = .pick x y z) (hx : ev x = cond W (.bool c) undef) (hy : ev y = cond (W && (c == true)) (.bool b) undef) (hz : ev z = .bool false) : (execOp ev o).run Tryz.prog w = .ok (.value (.bool (c && b))) w := by
  subst hW
  exact rrun_and ho hx hy hz
theorem rgt_i64 (s t : Nat) (W : World) : (binOp .gtr 3 (.int .i64 (s : Int)) (.int .i64 (t : Int))).run Tryz.prog W = .ok (.bool (decide (t < s))) W := by
  simp [go_sem]
theorem rge_u64 (s t : Nat) (W : World) : (binOp .geq 22 (.int .u64 (s : Int)) (.int .u64 (t : Int))).run Tryz.prog W = .ok (.bool (decide (t ≤ s))) W := by
  simp [go_sem]
theorem rne_str (s t : ByteArray) (W : World) : (binOp .neq 9 (.string s) (.string t)).run Tryz.prog W = .ok (.bool (!decide (s = t))) W := by
  by_cases h : s = t
  · subst h; simp [go_sem]
  · have hq : (s.toList == t.toList) = false := by rw [rstr_beq]; exact decide_eq_false h
    simp [go_sem, hq, h]
theorem rne_u64 (s t : Nat) (W : World) : (binOp .neq 22 (.int .u64 (s : Int)) (.int .u64 (t : Int))).run Tryz.prog W = .ok (.bool (!decide (s = t))) W := by
  by_cases h : s = t
  · subst h; simp [go_sem]
  · have h2 : ¬ ((s : Int) = (t : Int)) := by omega
    simp [go_sem, h, h2]
theorem rne_i64 (s t : Nat) (W : World) : (binOp .neq 3 (.int .i64 (s : Int)) (.int .i64 (t : Int))).run Tryz.prog W = .ok (.bool (!decide (s = t))) W := by
  by_cases h : s = t
  · subst h; simp [go_sem]
  · have h2 : ¬ ((s : Int) = (t : Int)) := by omega
    simp [go_sem, h, h2]
theorem req_i64 (s t : Nat) (W : World) : (binOp .eql 3 (.int .i64 (s : Int)) (.int .i64 (t : Int))).run Tryz.prog W = .ok (.bool (decide (s = t))) W := by
  by_cases h : s = t
  · subst h; simp [go_sem]
  · have h2 : ¬ ((s : Int) = (t : Int)) := by omega
    simp [go_sem, h, h2]
theorem rsub_one (s : Nat) (hs : 0 < s) (h2 : s ≤ 9223372036854775807) (W : World) : (binOp .sub 3 (.int .i64 (s : Int)) (.int .i64 1)).run Tryz.prog W = .ok (.int .i64 ((s - 1 : Nat) : Int)) W := by
  have h1 : IntKind.i64.wrap ((s : Int) - 1) = ((s - 1 : Nat) : Int) := by rw [show ((s - 1 : Nat) : Int) = (s : Int) - 1 by omega]; exact IntWalk.i64_in _ (by omega)
  simp [go_sem, h1]
theorem rld_bool {p : Addr} {v : Value} {w : World} (h : w.cell? p = some v) : (loadVar 4 p).run Tryz.prog w = .ok v w := by simp [go_sem, h]
theorem rld_nods {p : Addr} {v : Value} {w : World} (h : w.cell? p = some v) : (loadVar 31 p).run Tryz.prog w = .ok v w := by simp [go_sem, h]
theorem rld_node {b f : Nat} {n : Nod} {w : World} (h : w.rangeAt b f n.cells.toList) : (loadVar 38 ⟨b, f, none⟩).run Tryz.prog w = .ok (.agg n.cells) w := by
  have hl : (loadCells ⟨b, f, none⟩ 12).run Tryz.prog w = .ok n.cells w := by
    have := run_loadCells_list (P := Tryz.prog) (w := w) ⟨b, f, none⟩ n.cells.toList (fun j v hv => by rw [Addr.add_mid]; exact h j v hv)
    rw [show n.cells.toList.length = 12 by rw [nod_cells]; rfl] at this
    simpa using this
  obtain ⟨i0, hi0, hz0⟩ : ∃ i0, Tryz.prog.info? 38 = some i0 ∧ i0.size = 12 := ⟨_, rfl, rfl⟩
  have hagg : (isAgg 38).run Tryz.prog w = .ok true w := by kernel_rfl
  simp [loadVar, Sem.run_bind, hagg, sizeOf, typeInfo, hi0, hz0, hl]
theorem ridx_nod (b f n c j : Nat) (hj : j < n) (hn : n ≤ 9223372036854775807) (w : World) : (Instr.indexAt 31 (.slice (some ⟨b, f, none⟩) n c) (.int .i64 (j : Int))).run Tryz.prog w = .ok (ptr b (f + j * 12)) w := by
  have h1 : (0 : Int) ≤ (j : Int) := by omega
  have h2 : (j : Int) < (n : Int) := by omega
  simp [go_sem, h1, h2, ptr]
end
end
end Go.Proofs.YtpmlhmficmillaaGreat

namespace Go.Proofs.YtpmlhmficmillaaGreat
section
open Go.RowKit
set_option maxRecDepth 100000
set_option linter.unusedVariables false

theorem RowW.take {w : World} {k n c m : Nat} {a : Option Addr} {xs : List Value} (h : RowW w k (.slice a n c) n xs) (hm : m ≤ n) : RowW w k (.slice a m c) m (xs.take (m * k)) := by
  obtain ⟨hl, a', c', hv, h1, h2, h3, h4⟩ := h
  cases hv
  have hk := Nat.mul_le_mul_right k hm
  refine ⟨by rw [List.length_take, hl]; omega, a, c, rfl, Nat.le_trans hm h1, h2, h3, fun i u hu => ?_⟩
  refine h4 i u ?_
  have hi : i < m * k := by
    have := (List.getElem?_eq_some_iff.1 hu).1
    rw [List.length_take] at this
    omega
  rw [List.getElem?_take_of_lt hi] at hu
  exact hu
theorem RowW.drop {w : World} {k n c m : Nat} {a : Option Addr} {xs : List Value} (h : RowW w k (.slice a n c) n xs) (hm : m ≤ n) :
    RowW w k (.slice (if c = m then a else a.map (fun ad => ad.add (m * k))) (n - m) (c - m)) (n - m) (xs.drop (m * k)) := by
  obtain ⟨hl, a', c', hv, h1, h2, h3, h4⟩ := h
  cases hv
  refine ⟨by rw [List.length_drop, hl, Nat.sub_mul], _, _, rfl, by omega, by omega, fun h0 => ?_, fun i u hu => ?_⟩
  · cases a with
    | none => have := h3 rfl; omega
    | some ad => revert h0; split <;> simp
  · rw [List.getElem?_drop] at hu
    obtain ⟨b, o, ha, hc⟩ := h4 _ u hu
    have hi := (List.getElem?_eq_some_iff.1 hu).1
    have hne : ¬ c = m := fun he => by
      have : n = m := by omega
      subst this
      omega
    subst ha
    refine ⟨b, o + m * k, by rw [if_neg hne]; simp [add_plain'], ?_⟩
    rw [Nat.add_assoc]; exact hc
theorem nodsL_take (l : List Nod) (m : Nat) : (nodsL l).take (m * 12) = nodsL (l.take m) := by
  induction l generalizing m with
  | nil => simp [nodsL]
  | cons n l ih =>
    have h12 : n.cells.toList.length = 12 := by rw [nod_cells]; rfl
    cases m with
    | zero => rw [Nat.zero_mul]; rfl
    | succ m =>
      show (n.cells.toList ++ nodsL l).take _ = n.cells.toList ++ nodsL (l.take m)
      rw [List.take_append, h12, show (m + 1) * 12 - 12 = m * 12 by omega, ih, List.take_of_length_le (by omega)]
theorem nodsL_drop (l : List Nod) (m : Nat) : (nodsL l).drop (m * 12) = nodsL (l.drop m) := by
  induction l generalizing m with
  | nil => simp [nodsL]
  | cons n l ih =>
    have h12 : n.cells.toList.length = 12 := by rw [nod_cells]; rfl
    cases m with
    | zero => rw [Nat.zero_mul]; rfl
    | succ m =>
      show (n.cells.toList ++ nodsL l).drop _ = nodsL (l.drop m)
      rw [List.drop_append, h12, show (m + 1) * 12 - 12 = m * 12 by omega, ih, List.drop_of_length_le (by omega)]
      rfl
theorem NodsAt.take {w : World} {c m : Nat} {a : Option Addr} {l : List Nod} (h : NodsAt w (.slice a l.length c) l) (hm : m ≤ l.length) : RowW w 12 (.slice a m c) m (nodsL (l.take m)) := by
  rw [← nodsL_take]; exact RowW.take h hm
theorem NodsAt.drop {w : World} {c m : Nat} {a : Option Addr} {l : List Nod} (h : NodsAt w (.slice a l.length c) l) (hm : m ≤ l.length) :
    RowW w 12 (.slice (if c = m then a else a.map (fun ad => ad.add (m * 12))) (l.length - m) (c - m)) (l.length - m) (nodsL (l.drop m)) := by
  rw [← nodsL_drop]; exact RowW.drop h hm
end
end Go.Proofs.YtpmlhmficmillaaGreat

namespace Go.Proofs.YtpmlhmficmillaaGreat
section
open Go.RowKit
set_option maxRecDepth 100000
set_option linter.unusedVariables false

section
variable {P : Program} {ops : Array Oper} {Q : Exit → Act → World → Prop} {o : Oper} {a : Act} {w : World} {N : Nat} {fx : List (Nat × Value)}
theorem hdo {i : Nat} {K : Act → World → Prop} (hF : FrL N fx a) (d : Nat) (v : Value) (w' : World) (hi : ops[i]? = some o) (hd : o.dst = some d) (hN : d < N) (hw : Region.wanted o (yielded ops a.tmps) = true)
    (hrun : (execOp a.eval o).run P w = .ok (.value v) w') (hk : ∀ b, FrL N ((d, v) :: fx) b → K b w') : wpOp P ops Q i K a w := by
  unfold wpOp
  simp only [hi]
  rw [if_pos hw]
  refine .inl ?_
  unfold Oper.wp
  rw [hrun]
  show K (a.put o.dst v) w'
  rw [hd]
  exact hk _ (hF.put d v hN)
theorem hdo0 {i : Nat} {K : Act → World → Prop} (w' : World) (hi : ops[i]? = some o) (hd : o.dst = none) (hw : Region.wanted o (yielded ops a.tmps) = true)
    (hrun : (execOp a.eval o).run P w = .ok .skip w') (hk : K a w') : wpOp P ops Q i K a w := by
  unfold wpOp
  simp only [hi]
  rw [if_pos hw]
  refine .inl ?_
  unfold Oper.wp
  rw [hrun]
  show K (a.put o.dst undef) w'
  rw [hd]
  exact hk
theorem hdoc {i : Nat} {K : Act → World → Prop} {R : Value → World → Prop} (hF : FrL N fx a) (d : Nat) (hi : ops[i]? = some o) (hd : o.dst = some d) (hN : d < N) (hw : Region.wanted o (yielded ops a.tmps) = true)
    (hrun : ∃ f args, (execOp a.eval o).run P w = .ok (.enter f args) w ∧ Calls P f args w fun e w' => ∃ v, e = .returned v ∧ R v w')
    (hk : ∀ v b w', R v w' → FrL N ((d, v) :: fx) b → K b w') : wpOp P ops Q i K a w := by
  unfold wpOp
  simp only [hi]
  rw [if_pos hw]
  refine .inl ?_
  obtain ⟨f, args, h1, h2⟩ := hrun
  unfold Oper.wp
  rw [h1]
  refine h2.mono ?_
  rintro e w' ⟨v, rfl, h3⟩
  show K (a.put o.dst v) w'
  rw [hd]
  exact hk v _ _ h3 (hF.put d v hN)
theorem hcallx {S : World → Prop} {listed : Array Bool} {fuel i : Nat} {R : Value → World → Prop} (hF : FrL N fx a) (d : Nat) (hi : ops[i]? = some o) (hd : o.dst = some d) (hN : d < N) (hr : Region.ready .any ops listed = [i])
    (hw : Region.wanted o (yielded ops a.tmps) = true) (hrun : ∃ f args, (execOp a.eval o).run P w = .ok (.enter f args) w ∧ Calls P f args w fun e w' => ∃ v, e = .returned v ∧ R v w' ∧ S w')
    (hk : ∀ v b w', R v w' → FrL N ((d, v) :: fx) b → S w' → wpAnyH P .any ops Q S fuel (listed.setIfInBounds i true) b w') : wpAnyH P .any ops Q S (fuel + 1) listed a w := by
  refine wpAnyH_all (rs := [i]) hr (by simp) fun j hj => ?_
  obtain rfl : j = i := by simpa using hj
  unfold wpOp
  simp only [hi]
  rw [if_pos hw]
  refine .inl ?_
  obtain ⟨f, args, h1, h2⟩ := hrun
  unfold Oper.wp
  rw [h1]
  refine h2.mono ?_
  rintro e w' ⟨v, rfl, h3, h4⟩
  show S w' ∧ _
  rw [hd]
  exact ⟨h4, hk v _ _ h3 (hF.put d v hN) h4⟩
end
section
variable {o : Oper} {ev : Operand → Value} {w w' : World} {x y : Operand}
theorem rrun_append {t : TypeId} {u v r : Value} (ho : o.op = .call { callee := .builtin .append, args := #[x, y], argTypes := #[t, t] }) (hx : ev x = u) (hy : ev y = v) (hr : (Builtin.append_ #[t, t] o.type #[u, v]).run Tryz.prog w = .ok r w') : (execOp ev o).run Tryz.prog w = .ok (.value r) w' := by
  unfold execOp
  simp only [ho, resolve, invoke, builtin, Sem.run_bind, Sem.run_pure, Result.andThen_ok, List.map_toArray, List.map_cons, List.map_nil, hx, hy, hr]
theorem rrun_alloc {t : TypeId} {z : Value} (ho : o.op = .alloc t) (hz : (zeroValue t).run Tryz.prog w = .ok z w) : (execOp ev o).run Tryz.prog w = .ok (.value (.pointer (some ⟨w.heap.size, 0, none⟩))) (w.alloc (.cells z.cells t)) := by
  simp [execOp, ho, hz, go_sem]
theorem rrun_store {t T : TypeId} {g : Nat} {old cells : Array Value} (ho : o.op = .store t x y) (hx : ev x = .pointer (some ⟨g, 0, none⟩)) (hy : ev y = .agg cells) (hg : w.heap[g]? = some (.cells old T (0, 0))) (hi : (Tryz.prog.info? t).map (·.size) = some cells.size)
    (hold : old.size = cells.size) (h1 : cells.all (·.oneCell') = true) : (execOp ev o).run Tryz.prog w = .ok .skip (w.setRow g cells) := by
  unfold execOp
  simp only [ho, hx, hy, Instr.storeAt, Instr.sureAddr, Sem.run_bind, Sem.run_pure, Result.andThen_ok, run_storeVar_row w g T t old cells hg hi hold h1]
theorem rrun_ext {n : Nat} {vs : Array Value} {v : Value} (ho : o.op = .extract x n) (hx : ev x = .tuple vs) (hv : vs[n]? = some v) : (execOp ev o).run Tryz.prog w = .ok (.value v) w := by
  simp [execOp, ho, hx, hv, go_sem]
end
end
end Go.Proofs.YtpmlhmficmillaaGreat
