/- The comparison of two nodes by name, walked. No condition. And the texts behind it. -/
import Derived.Test.YtcmajcljafmphaaGreatKtA12
import Derived.Sort.Walk0
import Derived.Shelf.RegionOpenPlain
import Derived.IntWalk
import Derived.Test.YtcmajcljafmphaaGreatKtA01
import Derived.Laws.StructEq
import Derived.Test.YtcmajcljafmphaaGreatKtA07
import Derived.Test.YtcmajcljafmphaaGreatKtA03
import Derived.Deep.RegionHeld3
namespace Go.Proofs.YtcmajcljafmphaaGreat
section
open Go.RowKit
set_option maxRecDepth 100000
set_option linter.unusedVariables false

def leS (a b : ByteArray) : Bool := !Op.bytesLess b.toList a.toList
def ordS (a b : ByteArray) : Int := if Op.bytesLess a.toList b.toList then -1 else if a.toList == b.toList then 0 else 1
theorem ordS_neg (a b : ByteArray) : decide (ordS a b < 0) = !leS b a := by
  unfold ordS leS
  cases h : Op.bytesLess a.toList b.toList <;> cases h2 : (a.toList == b.toList) <;> simp
theorem leS_ordr : Ordr leS where
  total a b h := by
    unfold leS at *
    rw [bytesLess_eq] at *
    simp at h ⊢
    exact List.le_of_lt h
  trans a b c h1 h2 := by
    unfold leS at *
    rw [bytesLess_eq] at *
    simp at h1 h2 ⊢
    exact List.le_trans h1 h2
end
end Go.Proofs.YtcmajcljafmphaaGreat

namespace Go.Proofs.YtcmajcljafmphaaGreat
section
open Go.RowKit
set_option maxRecDepth 100000
set_option linter.unusedVariables false

theorem own_load {P : Program} {w : World} {base e n c g i : Nat} {l : List Nod} (h : w.ownsRow base e 12 (.slice (some ⟨g, 0, none⟩) n c) n (nodsL l)) (hi : i < l.length) :
    Sem.run P (loadCellsFrom ⟨g, i * 12, none⟩ 0 12 #[]) w = .ok l[i].cells w := by
  obtain ⟨b, o, hb, hr⟩ := (NodsAt.of_own h).range i hi
  cases hb
  have hl : l[i].cells.toList.length = 12 := by rw [nod_cells]; rfl
  have := run_loadCells_list (P := P) (w := w) ⟨g, i * 12, none⟩ l[i].cells.toList (fun j v hv => by rw [Addr.add_mid]; have := hr j v hv; rwa [Nat.zero_add] at this)
  rw [hl] at this
  simpa [loadCells] using this
theorem own_store {P : Program} {w : World} {base e n c g i : Nat} {l : List Nod} (h : w.ownsRow base e 12 (.slice (some ⟨g, 0, none⟩) n c) n (nodsL l)) (hi : i < n) (x : Nod) :
    Sem.run P (storeCells ⟨g, i * 12, none⟩ x.cells.toList 0) w = .ok () (w.setCells g (i * 12) x.cells.toList) := by
  have ht := own_there h hi
  have hl : x.cells.toList.length = 12 := by rw [nod_cells]; rfl
  have := run_storeCells_cells (P := P) g (i * 12) x.cells.toList 0 w (fun j hj => by rw [Nat.add_zero]; exact (ht j (by omega)).1) (fun j hj => by rw [Nat.add_zero]; exact (ht j (by omega)).2) (fun v hv => (Array.all_eq_true_iff_forall_mem.1 (nod_one x)) v (by simpa using hv))
  rwa [Nat.add_zero] at this
theorem swp_len {α : Type} (l : List α) (i j : Nat) : (swp l i j).length = l.length := by unfold swp; repeat (first | split | simp)
def load12 (a : Addr) : Sem (Array Value) := loadCellsFrom a 0 12 #[]
theorem load12_eq (a : Addr) : loadCellsFrom a 0 12 #[] = load12 a := rfl
end
end Go.Proofs.YtcmajcljafmphaaGreat

namespace Go.Proofs.YtcmajcljafmphaaGreat
section
open Go.RowKit
set_option maxRecDepth 100000

structure Stat where
  kind : Nat
  dev : Nat
  qt : Nat
  qv : Nat
  qp : Nat
  mode : Nat
  atm : Nat
  mtm : Nat
  len : Nat
  name : ByteArray
  uid : ByteArray
  gid : ByteArray
  muid : ByteArray

def Stat.cells (s : Stat) : Array Value := #[.int .u16 (s.kind : Int), .int .u32 (s.dev : Int), .int .u8 (s.qt : Int), .int .u32 (s.qv : Int), .int .u64 (s.qp : Int), .int .u32 (s.mode : Int), .int .u32 (s.atm : Int), .int .u32 (s.mtm : Int), .int .u64 (s.len : Int), .string s.name, .string s.uid, .string s.gid, .string s.muid]

structure StatOk (s : Stat) : Prop where
  kind : s.kind < 65536
  dev : s.dev < 4294967296
  qt : s.qt < 256
  qv : s.qv < 4294967296
  qp : s.qp < 18446744073709551616
  mode : s.mode < 4294967296
  atm : s.atm < 4294967296
  mtm : s.mtm < 4294967296
  len : s.len < 18446744073709551616
  name : s.name.size ≤ maxLen
  uid : s.uid.size ≤ maxLen
  gid : s.gid.size ≤ maxLen
  muid : s.muid.size ≤ maxLen

structure Few (s : Stat) : Prop where
  name : s.name.size ≤ 200
  uid : s.uid.size ≤ 200
  gid : s.gid.size ≤ 200
  muid : s.muid.size ≤ 200
def Stat.size (s : Stat) : Nat := 49 + s.name.size + s.uid.size + s.gid.size + s.muid.size
end
end Go.Proofs.YtcmajcljafmphaaGreat

namespace Go.Proofs.YtcmajcljafmphaaGreat
section
open Go.RowKit
set_option maxRecDepth 100000
end
end Go.Proofs.YtcmajcljafmphaaGreat

namespace Go.Proofs.YtcmajcljafmphaaGreat
section
open Go.RowKit
set_option maxRecDepth 100000
set_option linter.unusedVariables false
attribute [local go_sem ↓] load12_eq

theorem toListInj {s t : ByteArray} (h : s.toList = t.toList) : s = t := by
  rw [ByteArray.toList_eq, ByteArray.toList_eq] at h
  cases s; cases t
  simpa using h
def eqN (x y : Nod) : Bool := decide (x.path = y.path ∧ x.vers = y.vers ∧ x.mode = y.mode ∧ x.atm = y.atm ∧ x.mtm = y.mtm ∧ x.name = y.name ∧ x.uid = y.uid ∧ x.gid = y.gid ∧ x.muid = y.muid ∧ x.up = y.up ∧ x.gone = y.gone ∧ x.data = y.data)
theorem eqN_iff {x y : Nod} : eqN x y = true ↔ x = y := by
  unfold eqN
  rw [decide_eq_true_eq]
  constructor
  · rintro ⟨a1, a2, a3, a4, a5, a6, a7, a8, a9, a10, a11, a12⟩
    cases x; cases y; simp only at *; subst a1 a2 a3 a4 a5 a6 a7 a8 a9 a10 a11 a12; rfl
  · rintro rfl; simp
def eqL : List Nod → List Nod → Bool
  | [], [] => true
  | x :: l, y :: m => eqN x y && eqL l m
  | _, _ => false
theorem eqL_iff : ∀ {l m : List Nod}, eqL l m = true ↔ l = m
  | [], [] => by simp [eqL]
  | x :: l, y :: m => by simp [eqL, eqN_iff, eqL_iff]
  | [], y :: m => by simp [eqL]
  | x :: l, [] => by simp [eqL]
theorem eqL_step {l m : List Nod} {k : Nat} (h1 : k < l.length) (h2 : k < m.length) : eqL (l.drop k) (m.drop k) = (eqN l[k] m[k] && eqL (l.drop (k + 1)) (m.drop (k + 1))) := by
  rw [List.drop_eq_getElem_cons h1, List.drop_eq_getElem_cons h2]; rfl
def ncmpN (a b : Value) : Sem Value := binOp .neq 83 a b
theorem ncmpN_eq (a b : Value) : binOp .neq 83 a b = ncmpN a b := rfl
attribute [local go_sem ↓] ncmpN_eq
theorem range_load {P : Program} {w : World} {b o : Nat} {n : Nod} (h : w.rangeAt b o n.cells.toList) : Sem.run P (load12 ⟨b, o, none⟩) w = .ok n.cells w := by
  have hl : n.cells.toList.length = 12 := by rw [nod_cells]; rfl
  have := run_loadCells_list (P := P) (w := w) ⟨b, o, none⟩ n.cells.toList (fun j v hv => by rw [Addr.add_mid]; exact h j v hv)
  rw [hl] at this
  simpa [loadCells, load12] using this
end
end Go.Proofs.YtcmajcljafmphaaGreat

namespace Go.Proofs.YtcmajcljafmphaaGreat
section
open Go.RowKit
set_option maxRecDepth 100000
set_option linter.unusedVariables false

section
variable {P : Program} {ops : Array Oper} {Q : Exit → Act → World → Prop} {S : World → Prop} {o : Oper} {rest : List Oper} {a : Act} {w : World} {N : Nat} {fx : List (Nat × Value)} {listed : Array Bool} {fuel : Nat}
theorem hst {i : Nat} (hF : FrL N fx a) (d : Nat) (W : Bool) (v : Value) (hi : ops[i]? = some o) (hd : o.dst = some d) (hN : d < N) (hs : Region.noSelect ops = true) (hf : Region.free .any ops listed i = true) (hr : (Region.ready .any ops listed).contains i = true)
    (hQ : ∀ c a w, Q (.panic c) (a.put (some d) (cond W v undef)) w → Q (.panic c) a w) (hw : Region.wanted o (yielded ops a.tmps) = W) (hrun : W = true → ∀ w, S w → (execOp a.eval o).run P w = .ok (.value v) w) (hS : S w)
    (hk : ∀ b, FrL N ((d, cond W v undef) :: fx) b → wpAnyH P .any ops Q S fuel (listed.setIfInBounds i true) b w) : wpAnyH P .any ops Q S (fuel + 1) listed a w := by
  refine wpAnyH_take (i := i) (oi := o) (v := cond W v undef) hi hs hf hr (by rw [hd]; exact hQ) ?_ hS ?_
  · cases W with
    | true => exact .inl ⟨hw, hrun rfl⟩
    | false => exact .inr ⟨hw, rfl⟩
  · rw [hd]
    exact hk _ (hF.put d _ hN)
theorem hcall {i : Nat} (hF : FrL N fx a) (d : Nat) (W : Bool) (v : Value) (hi : ops[i]? = some o) (hd : o.dst = some d) (hN : d < N) (hr : Region.ready .any ops listed = [i])
    (hw : Region.wanted o (yielded ops a.tmps) = W) (hrun : W = true → ∃ f args, (execOp a.eval o).run P w = .ok (.enter f args) w ∧ Calls P f args w fun e w' => e = .returned v ∧ S w') (hS : S w)
    (hk : ∀ b w', FrL N ((d, cond W v undef) :: fx) b → S w' → wpAnyH P .any ops Q S fuel (listed.setIfInBounds i true) b w') : wpAnyH P .any ops Q S (fuel + 1) listed a w := by
  refine wpAnyH_all (rs := [i]) hr (by simp) fun j hj => ?_
  obtain rfl : j = i := by simpa using hj
  unfold wpOp
  simp only [hi]
  cases W with
  | true =>
    rw [if_pos hw]
    refine .inl ?_
    obtain ⟨f, args, h1, h2⟩ := hrun rfl
    unfold Oper.wp
    rw [h1]
    refine h2.mono ?_
    rintro e w' ⟨rfl, h3⟩
    show S w' ∧ _
    rw [hd]
    exact ⟨h3, hk _ _ (hF.put d v hN) h3⟩
  | false =>
    rw [if_neg (by rw [hw]; simp)]
    refine ⟨hS, ?_⟩
    rw [hd]
    exact hk _ _ (hF.put d undef hN) hS
theorem stcall (hF : FrL N fx a) (d : Nat) (W : Bool) (v : Value) (hd : o.dst = some d) (hN : d < N)
    (hw : Region.wanted o (yielded ops a.tmps) = W) (hrun : W = true → ∃ f args, (execOp a.eval o).run P w = .ok (.enter f args) w ∧ Calls P f args w fun e w' => e = .returned v ∧ S w') (hS : S w)
    (hk : ∀ b w', FrL N ((d, cond W v undef) :: fx) b → S w' → wpList P ops Q rest b w') : wpList P ops Q (o :: rest) a w := by
  unfold wpList
  cases W with
  | true =>
    rw [if_pos hw]
    refine .inl ?_
    obtain ⟨f, args, h1, h2⟩ := hrun rfl
    unfold Oper.wp
    rw [h1]
    refine h2.mono ?_
    rintro e w' ⟨rfl, h3⟩
    show wpList P ops Q rest (a.put o.dst v) w'
    rw [hd]
    exact hk _ _ (hF.put d v hN) h3
  | false =>
    rw [if_neg (by rw [hw]; simp), hd]
    exact hk _ _ (hF.put d undef hN) hS
end
section
variable {o : Oper} {ev : Operand → Value} {w : World} {x y z : Operand}
theorem rrun_bin {op : BinOp} {ty ty2 : TypeId} {u v r : Value} (ho : o.op = .binOp op ty x y ty2) (hx : ev x = u) (hy : ev y = v) (hg : (eqGuard op ty x y u v).run Tryz.prog w = .ok () w) (hb : (binOp op ty u v).run Tryz.prog w = .ok r w) : (execOp ev o).run Tryz.prog w = .ok (.value r) w := by
  simp only [execOp, ho, hx, hy, Sem.run_bind, hg, hb, Result.andThen_ok, Sem.run_pure]
theorem rrun_not {ty : TypeId} {b : Bool} (ho : o.op = .unOp .not ty x) (hx : ev x = .bool b) : (execOp ev o).run Tryz.prog w = .ok (.value (.bool (!b))) w := by
  simp [execOp, ho, hx, go_sem]
theorem rrun_idx {ty : TypeId} {b f n c : Nat} {j : Nat} (k : Nat) (ho : o.op = .indexAddr ty x y) (hx : ev x = .slice (some ⟨b, f, none⟩) n c) (hy : ev y = .int .i64 (j : Int)) (hj : j < n) (hk : (Instr.indexAt ty (.slice (some ⟨b, f, none⟩) n c) (.int .i64 (j : Int))).run Tryz.prog w = .ok (ptr b (f + j * k)) w) : (execOp ev o).run Tryz.prog w = .ok (.value (ptr b (f + j * k))) w := by
  simp only [execOp, ho, hx, hy, Sem.run_bind, hk, Result.andThen_ok, Sem.run_pure]
theorem rrun_call1 {t : TypeId} {fn : Nat} {v : Value} (hf : ev (.func fn) = .func (.func fn) #[] #[]) (hc : (callFunc fn #[v]).run Tryz.prog w = .ok (.enter fn #[v]) w) (ho : o.op = .call { callee := .value (.func fn), args := #[x], argTypes := #[t] }) (hx : ev x = v) : (execOp ev o).run Tryz.prog w = .ok (.enter fn #[v]) w := by
  simp [execOp, ho, hx, hf, hc, go_sem]
theorem rrun_call2 {t u : TypeId} {fn : Nat} {v v2 : Value} (hf : ev (.func fn) = .func (.func fn) #[] #[]) (hc : (callFunc fn #[v, v2]).run Tryz.prog w = .ok (.enter fn #[v, v2]) w) (ho : o.op = .call { callee := .value (.func fn), args := #[x, y], argTypes := #[t, u] }) (hx : ev x = v) (hy : ev y = v2) : (execOp ev o).run Tryz.prog w = .ok (.enter fn #[v, v2]) w := by
  simp [execOp, ho, hx, hy, hf, hc, go_sem]
theorem rrun_len {t : TypeId} {n c : Nat} {ad : Option Addr} (ho : o.op = .call { callee := .builtin .len, args := #[x], argTypes := #[t] }) (hx : ev x = .slice ad n c) (hl : (Builtin.len_ #[t] o.type #[.slice ad n c]).run Tryz.prog w = .ok (.int .i64 (n : Int)) w) : (execOp ev o).run Tryz.prog w = .ok (.value (.int .i64 (n : Int))) w := by
  simp [execOp, ho, hx, hl, go_sem]
theorem rrun_andc {W c b : Bool} (hW : W = true) (ho : o.op = .pick x y z) (hx : ev x = cond W (.bool c) undef) (hy : ev y = cond (W && (c == true)) (.bool b) undef) (hz : ev z = .bool false) : (execOp ev o).run Tryz.prog w = .ok (.value (.bool (c && b))) w := by
  subst hW
  exact rrun_and ho hx hy hz
theorem rgt_i64 (s t : Nat) (W : World) : (binOp .gtr 3 (.int .i64 (s : Int)) (.int .i64 (t : Int))).run Tryz.prog W = .ok (.bool (decide (t < s))) W := by
  simp [go_sem]
theorem rge_u64 (s t : Nat) (W : World) : (binOp .geq 30 (.int .u64 (s : Int)) (.int .u64 (t : Int))).run Tryz.prog W = .ok (.bool (decide (t ≤ s))) W := by
  simp [go_sem]
theorem rne_str (s t : ByteArray) (W : World) : (binOp .neq 9 (.string s) (.string t)).run Tryz.prog W = .ok (.bool (!decide (s = t))) W := by
  by_cases h : s = t
  · subst h; simp [go_sem]
  · have hq : (s.toList == t.toList) = false := by rw [rstr_beq]; exact decide_eq_false h
    simp [go_sem, hq, h]
theorem rne_u64 (s t : Nat) (W : World) : (binOp .neq 30 (.int .u64 (s : Int)) (.int .u64 (t : Int))).run Tryz.prog W = .ok (.bool (!decide (s = t))) W := by
  by_cases h : s = t
  · subst h; simp [go_sem]
  · have h2 : ¬ ((s : Int) = (t : Int)) := by omega
    simp [go_sem, h, h2]
theorem rne_i64 (s t : Nat) (W : World) : (binOp .neq 3 (.int .i64 (s : Int)) (.int .i64 (t : Int))).run Tryz.prog W = .ok (.bool (!decide (s = t))) W := by
  by_cases h : s = t
  · subst h; simp [go_sem]
  · have h2 : ¬ ((s : Int) = (t : Int)) := by omega
    simp [go_sem, h, h2]
theorem req_i64 (s t : Nat) (W : World) : (binOp .eql 3 (.int .i64 (s : Int)) (.int .i64 (t : Int))).run Tryz.prog W = .ok (.bool (decide (s = t))) W := by
  by_cases h : s = t
  · subst h; simp [go_sem]
  · have h2 : ¬ ((s : Int) = (t : Int)) := by omega
    simp [go_sem, h, h2]
theorem rsub_one (s : Nat) (hs : 0 < s) (h2 : s ≤ 9223372036854775807) (W : World) : (binOp .sub 3 (.int .i64 (s : Int)) (.int .i64 1)).run Tryz.prog W = .ok (.int .i64 ((s - 1 : Nat) : Int)) W := by
  have h1 : IntKind.i64.wrap ((s : Int) - 1) = ((s - 1 : Nat) : Int) := by rw [show ((s - 1 : Nat) : Int) = (s : Int) - 1 by omega]; exact IntWalk.i64_in _ (by omega)
  simp [go_sem, h1]
theorem rld_bool {p : Addr} {v : Value} {w : World} (h : w.cell? p = some v) : (loadVar 4 p).run Tryz.prog w = .ok v w := by simp [go_sem, h]
theorem rld_nods {p : Addr} {v : Value} {w : World} (h : w.cell? p = some v) : (loadVar 47 p).run Tryz.prog w = .ok v w := by simp [go_sem, h]
theorem rld_node {b f : Nat} {n : Nod} {w : World} (h : w.rangeAt b f n.cells.toList) : (loadVar 83 ⟨b, f, none⟩).run Tryz.prog w = .ok (.agg n.cells) w := by
  have hl : (loadCells ⟨b, f, none⟩ 12).run Tryz.prog w = .ok n.cells w := by
    have := run_loadCells_list (P := Tryz.prog) (w := w) ⟨b, f, none⟩ n.cells.toList (fun j v hv => by rw [Addr.add_mid]; exact h j v hv)
    rw [show n.cells.toList.length = 12 by rw [nod_cells]; rfl] at this
    simpa using this
  obtain ⟨i0, hi0, hz0⟩ : ∃ i0, Tryz.prog.info? 83 = some i0 ∧ i0.size = 12 := ⟨_, rfl, rfl⟩
  have hagg : (isAgg 83).run Tryz.prog w = .ok true w := by kernel_rfl
  simp [loadVar, Sem.run_bind, hagg, sizeOf, typeInfo, hi0, hz0, hl]
theorem ridx_nod (b f n c j : Nat) (hj : j < n) (hn : n ≤ 9223372036854775807) (w : World) : (Instr.indexAt 47 (.slice (some ⟨b, f, none⟩) n c) (.int .i64 (j : Int))).run Tryz.prog w = .ok (ptr b (f + j * 12)) w := by
  have h1 : (0 : Int) ≤ (j : Int) := by omega
  have h2 : (j : Int) < (n : Int) := by omega
  simp [go_sem, h1, h2, ptr]
end
end
end Go.Proofs.YtcmajcljafmphaaGreat
