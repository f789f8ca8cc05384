/- The great drawn region of u32 and text of msg.twin: what it leaves behind. No condition.
The great drawn region of u32 and text of msg.twin, as one law. No condition. -/
import Derived.Test.YtlmojhlacfjmaaaGreatBunG
import Derived.Deep.RegionHeld3
namespace Go.Proofs.YtlmojhlacfjmaaaGreat
section
open Go.RowKit
set_option maxRecDepth 100000
set_option linter.unusedVariables false

def firstB (n k : Nat) : Array Bool := ((List.range n).map fun i => decide (i < k)).toArray

theorem wpAnyH_takes {P : Program} {md : Region.Mode} {ops : Array Oper} {Q : Exit → Act → World → Prop} {S : World → Prop} (hs : Region.noSelect ops = true) (lk : Nat → Array Bool) (A : Nat → Act)
  (hQ : ∀ c (a : Act) d v w, Q (.panic c) (a.put d v) w → Q (.panic c) a w) {w : World} (hS : S w) (f : Nat) : ∀ (n k : Nat),
  (∀ j, k ≤ j → j < k + n → Region.free md ops (lk j) j = true ∧ (Region.ready md ops (lk j)).contains j = true ∧ (lk j).setIfInBounds j true = lk (j + 1)) →
  (∀ j, k ≤ j → j < k + n → ∃ oi v, ops[j]? = some oi ∧ YieldsIf P ops S oi v (A j) ∧ (A j).put oi.dst v = A (j + 1)) →
  wpAnyH P md ops Q S f (lk (k + n)) (A (k + n)) w → wpAnyH P md ops Q S (n + f) (lk k) (A k) w
 | 0, k, _, _, h => by rw [Nat.zero_add]; exact h
 | n + 1, k, h1, h2, h => by
  obtain ⟨hf, hr, he⟩ := h1 k (Nat.le_refl _) (by omega)
  obtain ⟨oi, v, hi, hy, ha⟩ := h2 k (Nat.le_refl _) (by omega)
  rw [show n + 1 + f = (n + f) + 1 from by omega]
  refine wpAnyH_take hi hs hf hr (fun c a w => hQ c a _ _ w) hy hS ?_
  rw [he, ha]
  exact wpAnyH_takes hs lk A hQ hS f n (k + 1) (fun j a b => h1 j (by omega) (by omega)) (fun j a b => h2 j (by omega) (by omega)) (by rw [show k + 1 + n = k + (n + 1) from by omega]; exact h)

def headOps : Code → Array Oper
 | .seq c _ => headOps c
 | .region _ ops _ => ops
 | .block _ c => headOps c
 | _ => #[]

def pt (b i : Nat) : Value := .pointer (some ⟨b, i, none⟩)
noncomputable def ops_u32 : Array Oper := match Tryz.f124.body with | some c => headOps c | none => #[]
def vals_u32 (t qm qx : Nat) : List Value := [pt t 0, pt t 0, pt t 1, pt qx 0, pt qx 0, pt qx 2, pt t 0, pt t 0, pt t 0, pt qm 0, pt qm 0, pt qm 2, .agg #[pt qx 2, pt qm 2], pt t 0, pt t 0, pt t 1, pt qx 0, pt qx 0, pt qx 4, pt t 0, pt t 0, pt t 0, pt qm 0, pt qm 0, pt qm 4, .agg #[pt qx 4, pt qm 4], pt t 0, pt t 0, pt t 1, pt qx 0, pt qx 0, pt qx 5, pt t 0, pt t 0, pt t 0, pt qm 0, pt qm 0, pt qm 5, .agg #[pt qx 5, pt qm 5], pt t 0, pt t 0, pt t 1, pt qx 0, pt qx 0, pt qx 6, pt t 0, pt t 0, pt t 0, pt qm 0, pt qm 0, pt qm 6, .agg #[pt qx 6, pt qm 6], pt t 0, pt t 0, pt t 1, pt qx 0, pt qx 0, pt qx 16, pt t 0, pt t 0, pt t 0, pt qm 0, pt qm 0, pt qm 16, .agg #[pt qx 16, pt qm 16], pt t 0, pt t 0, pt t 1, pt qx 0, pt qx 0, pt qx 18, pt t 0, pt t 0, pt t 0, pt qm 0, pt qm 0, pt qm 18, .agg #[pt qx 18, pt qm 18], pt t 0, pt t 0, pt t 1, pt qx 0, pt qx 0, pt qx 21, pt t 0, pt t 0, pt t 0, pt qm 0, pt qm 0, pt qm 21, .agg #[pt qx 21, pt qm 21]]
def act_u32 (t qm qx i : Nat) (k : Nat) : Act := { tmps := ([pt t 0, pt qx i, undef, undef, undef, undef] ++ (vals_u32 t qm qx).take k ++ List.replicate (108 - k) undef).toArray, defers := [] }
def TwS (t qm qx : Nat) (w : World) : Prop := w.cell? ⟨t, 0, none⟩ = some (pt qm 0) ∧ w.cell? ⟨t, 1, none⟩ = some (pt qx 0)
noncomputable def OrdB (ops : Array Oper) (n j : Nat) : Bool := Region.free .any ops (firstB n j) j && (Region.ready .any ops (firstB n j)).contains j && ((firstB n j).setIfInBounds j true == firstB n (j + 1))
abbrev YAt (ops : Array Oper) (S : World → Prop) (act : Nat → Act) (j : Nat) : Prop := ∃ oi v, ops[j]? = some oi ∧ YieldsIf Tryz.prog ops S oi v (act j) ∧ (act j).put oi.dst v = act (j + 1)
theorem order_u32_0 : OrdB ops_u32 94 0 = true := by kernel_rfl
theorem order_u32_1 : OrdB ops_u32 94 1 = true := by kernel_rfl
theorem order_u32_2 : OrdB ops_u32 94 2 = true := by kernel_rfl
theorem order_u32_3 : OrdB ops_u32 94 3 = true := by kernel_rfl
theorem order_u32_4 : OrdB ops_u32 94 4 = true := by kernel_rfl
theorem order_u32_5 : OrdB ops_u32 94 5 = true := by kernel_rfl
theorem order_u32_6 : OrdB ops_u32 94 6 = true := by kernel_rfl
theorem order_u32_7 : OrdB ops_u32 94 7 = true := by kernel_rfl
theorem order_u32_8 : OrdB ops_u32 94 8 = true := by kernel_rfl
theorem order_u32_9 : OrdB ops_u32 94 9 = true := by kernel_rfl
theorem order_u32_10 : OrdB ops_u32 94 10 = true := by kernel_rfl
theorem order_u32_11 : OrdB ops_u32 94 11 = true := by kernel_rfl
theorem order_u32_12 : OrdB ops_u32 94 12 = true := by kernel_rfl
theorem order_u32_13 : OrdB ops_u32 94 13 = true := by kernel_rfl
theorem order_u32_14 : OrdB ops_u32 94 14 = true := by kernel_rfl
theorem order_u32_15 : OrdB ops_u32 94 15 = true := by kernel_rfl
theorem order_u32_16 : OrdB ops_u32 94 16 = true := by kernel_rfl
theorem order_u32_17 : OrdB ops_u32 94 17 = true := by kernel_rfl
theorem order_u32_18 : OrdB ops_u32 94 18 = true := by kernel_rfl
theorem order_u32_19 : OrdB ops_u32 94 19 = true := by kernel_rfl
theorem order_u32_20 : OrdB ops_u32 94 20 = true := by kernel_rfl
theorem order_u32_21 : OrdB ops_u32 94 21 = true := by kernel_rfl
theorem order_u32_22 : OrdB ops_u32 94 22 = true := by kernel_rfl
theorem order_u32_23 : OrdB ops_u32 94 23 = true := by kernel_rfl
theorem order_u32_24 : OrdB ops_u32 94 24 = true := by kernel_rfl
theorem order_u32_25 : OrdB ops_u32 94 25 = true := by kernel_rfl
theorem order_u32_26 : OrdB ops_u32 94 26 = true := by kernel_rfl
theorem order_u32_27 : OrdB ops_u32 94 27 = true := by kernel_rfl
theorem order_u32_28 : OrdB ops_u32 94 28 = true := by kernel_rfl
theorem order_u32_29 : OrdB ops_u32 94 29 = true := by kernel_rfl
theorem order_u32_30 : OrdB ops_u32 94 30 = true := by kernel_rfl
theorem order_u32_31 : OrdB ops_u32 94 31 = true := by kernel_rfl
theorem order_u32_32 : OrdB ops_u32 94 32 = true := by kernel_rfl
theorem order_u32_33 : OrdB ops_u32 94 33 = true := by kernel_rfl
theorem order_u32_34 : OrdB ops_u32 94 34 = true := by kernel_rfl
theorem order_u32_35 : OrdB ops_u32 94 35 = true := by kernel_rfl
theorem order_u32_36 : OrdB ops_u32 94 36 = true := by kernel_rfl
theorem order_u32_37 : OrdB ops_u32 94 37 = true := by kernel_rfl
theorem order_u32_38 : OrdB ops_u32 94 38 = true := by kernel_rfl
theorem order_u32_39 : OrdB ops_u32 94 39 = true := by kernel_rfl
theorem order_u32_40 : OrdB ops_u32 94 40 = true := by kernel_rfl
theorem order_u32_41 : OrdB ops_u32 94 41 = true := by kernel_rfl
theorem order_u32_42 : OrdB ops_u32 94 42 = true := by kernel_rfl
theorem order_u32_43 : OrdB ops_u32 94 43 = true := by kernel_rfl
theorem order_u32_44 : OrdB ops_u32 94 44 = true := by kernel_rfl
theorem order_u32_45 : OrdB ops_u32 94 45 = true := by kernel_rfl
theorem order_u32_46 : OrdB ops_u32 94 46 = true := by kernel_rfl
theorem order_u32_47 : OrdB ops_u32 94 47 = true := by kernel_rfl
theorem order_u32_48 : OrdB ops_u32 94 48 = true := by kernel_rfl
theorem order_u32_49 : OrdB ops_u32 94 49 = true := by kernel_rfl
theorem order_u32_50 : OrdB ops_u32 94 50 = true := by kernel_rfl
theorem order_u32_51 : OrdB ops_u32 94 51 = true := by kernel_rfl
theorem order_u32_52 : OrdB ops_u32 94 52 = true := by kernel_rfl
theorem order_u32_53 : OrdB ops_u32 94 53 = true := by kernel_rfl
theorem order_u32_54 : OrdB ops_u32 94 54 = true := by kernel_rfl
theorem order_u32_55 : OrdB ops_u32 94 55 = true := by kernel_rfl
theorem order_u32_56 : OrdB ops_u32 94 56 = true := by kernel_rfl
theorem order_u32_57 : OrdB ops_u32 94 57 = true := by kernel_rfl
theorem order_u32_58 : OrdB ops_u32 94 58 = true := by kernel_rfl
theorem order_u32_59 : OrdB ops_u32 94 59 = true := by kernel_rfl
theorem order_u32_60 : OrdB ops_u32 94 60 = true := by kernel_rfl
theorem order_u32_61 : OrdB ops_u32 94 61 = true := by kernel_rfl
theorem order_u32_62 : OrdB ops_u32 94 62 = true := by kernel_rfl
theorem order_u32_63 : OrdB ops_u32 94 63 = true := by kernel_rfl
theorem order_u32_64 : OrdB ops_u32 94 64 = true := by kernel_rfl
theorem order_u32_65 : OrdB ops_u32 94 65 = true := by kernel_rfl
theorem order_u32_66 : OrdB ops_u32 94 66 = true := by kernel_rfl
theorem order_u32_67 : OrdB ops_u32 94 67 = true := by kernel_rfl
theorem order_u32_68 : OrdB ops_u32 94 68 = true := by kernel_rfl
theorem order_u32_69 : OrdB ops_u32 94 69 = true := by kernel_rfl
theorem order_u32_70 : OrdB ops_u32 94 70 = true := by kernel_rfl
theorem order_u32_71 : OrdB ops_u32 94 71 = true := by kernel_rfl
theorem order_u32_72 : OrdB ops_u32 94 72 = true := by kernel_rfl
theorem order_u32_73 : OrdB ops_u32 94 73 = true := by kernel_rfl
theorem order_u32_74 : OrdB ops_u32 94 74 = true := by kernel_rfl
theorem order_u32_75 : OrdB ops_u32 94 75 = true := by kernel_rfl
theorem order_u32_76 : OrdB ops_u32 94 76 = true := by kernel_rfl
theorem order_u32_77 : OrdB ops_u32 94 77 = true := by kernel_rfl
theorem order_u32_78 : OrdB ops_u32 94 78 = true := by kernel_rfl
theorem order_u32_79 : OrdB ops_u32 94 79 = true := by kernel_rfl
theorem order_u32_80 : OrdB ops_u32 94 80 = true := by kernel_rfl
theorem order_u32_81 : OrdB ops_u32 94 81 = true := by kernel_rfl
theorem order_u32_82 : OrdB ops_u32 94 82 = true := by kernel_rfl
theorem order_u32_83 : OrdB ops_u32 94 83 = true := by kernel_rfl
theorem order_u32_84 : OrdB ops_u32 94 84 = true := by kernel_rfl
theorem order_u32_85 : OrdB ops_u32 94 85 = true := by kernel_rfl
theorem order_u32_86 : OrdB ops_u32 94 86 = true := by kernel_rfl
theorem order_u32_87 : OrdB ops_u32 94 87 = true := by kernel_rfl
theorem order_u32_88 : OrdB ops_u32 94 88 = true := by kernel_rfl
theorem order_u32_89 : OrdB ops_u32 94 89 = true := by kernel_rfl
theorem order_u32_90 : OrdB ops_u32 94 90 = true := by kernel_rfl
theorem run_twload (w : World) (a : Addr) (v : Value) (o : Oper) (ev : Operand → Value) (x : Operand) (ho : o.op = .load 70 x) (hx : ev x = .pointer (some a)) (h : w.cell? a = some v) : (execOp ev o).run Tryz.prog w = .ok (.value v) w := by
 simp [execOp, ho, hx, go_sem, h]
theorem y_u32_0 (t qm qx i : Nat) : YAt ops_u32 (TwS t qm qx) (act_u32 t qm qx i) 0 :=
 ⟨_, pt t 0, rfl, .inl ⟨by kernel_rfl, fun w _ => by kernel_rfl⟩, by kernel_rfl⟩
theorem y_u32_1 (t qm qx i : Nat) : YAt ops_u32 (TwS t qm qx) (act_u32 t qm qx i) 1 :=
 ⟨_, pt t 0, rfl, .inl ⟨by kernel_rfl, fun w _ => by kernel_rfl⟩, by kernel_rfl⟩
theorem y_u32_2 (t qm qx i : Nat) : YAt ops_u32 (TwS t qm qx) (act_u32 t qm qx i) 2 :=
 ⟨_, pt t 1, rfl, .inl ⟨by kernel_rfl, fun w _ => by kernel_rfl⟩, by kernel_rfl⟩
theorem y_u32_3 (t qm qx i : Nat) : YAt ops_u32 (TwS t qm qx) (act_u32 t qm qx i) 3 :=
 ⟨_, pt qx 0, rfl, .inl ⟨by kernel_rfl, fun w hS => run_twload w _ _ _ _ (.tmp 8) (by kernel_rfl) (by kernel_rfl) hS.2⟩, by kernel_rfl⟩
theorem y_u32_4 (t qm qx i : Nat) : YAt ops_u32 (TwS t qm qx) (act_u32 t qm qx i) 4 :=
 ⟨_, pt qx 0, rfl, .inl ⟨by kernel_rfl, fun w _ => by kernel_rfl⟩, by kernel_rfl⟩
theorem y_u32_5 (t qm qx i : Nat) : YAt ops_u32 (TwS t qm qx) (act_u32 t qm qx i) 5 :=
 ⟨_, pt qx 2, rfl, .inl ⟨by kernel_rfl, fun w _ => by kernel_rfl⟩, by kernel_rfl⟩
theorem y_u32_6 (t qm qx i : Nat) : YAt ops_u32 (TwS t qm qx) (act_u32 t qm qx i) 6 :=
 ⟨_, pt t 0, rfl, .inl ⟨by kernel_rfl, fun w _ => by kernel_rfl⟩, by kernel_rfl⟩
theorem y_u32_7 (t qm qx i : Nat) : YAt ops_u32 (TwS t qm qx) (act_u32 t qm qx i) 7 :=
 ⟨_, pt t 0, rfl, .inl ⟨by kernel_rfl, fun w _ => by kernel_rfl⟩, by kernel_rfl⟩
theorem y_u32_8 (t qm qx i : Nat) : YAt ops_u32 (TwS t qm qx) (act_u32 t qm qx i) 8 :=
 ⟨_, pt t 0, rfl, .inl ⟨by kernel_rfl, fun w _ => by kernel_rfl⟩, by kernel_rfl⟩
theorem y_u32_9 (t qm qx i : Nat) : YAt ops_u32 (TwS t qm qx) (act_u32 t qm qx i) 9 :=
 ⟨_, pt qm 0, rfl, .inl ⟨by kernel_rfl, fun w hS => run_twload w _ _ _ _ (.tmp 14) (by kernel_rfl) (by kernel_rfl) hS.1⟩, by kernel_rfl⟩
theorem y_u32_10 (t qm qx i : Nat) : YAt ops_u32 (TwS t qm qx) (act_u32 t qm qx i) 10 :=
 ⟨_, pt qm 0, rfl, .inl ⟨by kernel_rfl, fun w _ => by kernel_rfl⟩, by kernel_rfl⟩
theorem y_u32_11 (t qm qx i : Nat) : YAt ops_u32 (TwS t qm qx) (act_u32 t qm qx i) 11 :=
 ⟨_, pt qm 2, rfl, .inl ⟨by kernel_rfl, fun w _ => by kernel_rfl⟩, by kernel_rfl⟩
theorem y_u32_12 (t qm qx i : Nat) : YAt ops_u32 (TwS t qm qx) (act_u32 t qm qx i) 12 :=
 ⟨_, .agg #[pt qx 2, pt qm 2], rfl, .inl ⟨by kernel_rfl, fun w _ => by kernel_rfl⟩, by kernel_rfl⟩
theorem y_u32_13 (t qm qx i : Nat) : YAt ops_u32 (TwS t qm qx) (act_u32 t qm qx i) 13 :=
 ⟨_, pt t 0, rfl, .inl ⟨by kernel_rfl, fun w _ => by kernel_rfl⟩, by kernel_rfl⟩
theorem y_u32_14 (t qm qx i : Nat) : YAt ops_u32 (TwS t qm qx) (act_u32 t qm qx i) 14 :=
 ⟨_, pt t 0, rfl, .inl ⟨by kernel_rfl, fun w _ => by kernel_rfl⟩, by kernel_rfl⟩
theorem y_u32_15 (t qm qx i : Nat) : YAt ops_u32 (TwS t qm qx) (act_u32 t qm qx i) 15 :=
 ⟨_, pt t 1, rfl, .inl ⟨by kernel_rfl, fun w _ => by kernel_rfl⟩, by kernel_rfl⟩
theorem y_u32_16 (t qm qx i : Nat) : YAt ops_u32 (TwS t qm qx) (act_u32 t qm qx i) 16 :=
 ⟨_, pt qx 0, rfl, .inl ⟨by kernel_rfl, fun w hS => run_twload w _ _ _ _ (.tmp 21) (by kernel_rfl) (by kernel_rfl) hS.2⟩, by kernel_rfl⟩
theorem y_u32_17 (t qm qx i : Nat) : YAt ops_u32 (TwS t qm qx) (act_u32 t qm qx i) 17 :=
 ⟨_, pt qx 0, rfl, .inl ⟨by kernel_rfl, fun w _ => by kernel_rfl⟩, by kernel_rfl⟩
theorem y_u32_18 (t qm qx i : Nat) : YAt ops_u32 (TwS t qm qx) (act_u32 t qm qx i) 18 :=
 ⟨_, pt qx 4, rfl, .inl ⟨by kernel_rfl, fun w _ => by kernel_rfl⟩, by kernel_rfl⟩
theorem y_u32_19 (t qm qx i : Nat) : YAt ops_u32 (TwS t qm qx) (act_u32 t qm qx i) 19 :=
 ⟨_, pt t 0, rfl, .inl ⟨by kernel_rfl, fun w _ => by kernel_rfl⟩, by kernel_rfl⟩
theorem y_u32_20 (t qm qx i : Nat) : YAt ops_u32 (TwS t qm qx) (act_u32 t qm qx i) 20 :=
 ⟨_, pt t 0, rfl, .inl ⟨by kernel_rfl, fun w _ => by kernel_rfl⟩, by kernel_rfl⟩
theorem y_u32_21 (t qm qx i : Nat) : YAt ops_u32 (TwS t qm qx) (act_u32 t qm qx i) 21 :=
 ⟨_, pt t 0, rfl, .inl ⟨by kernel_rfl, fun w _ => by kernel_rfl⟩, by kernel_rfl⟩
theorem y_u32_22 (t qm qx i : Nat) : YAt ops_u32 (TwS t qm qx) (act_u32 t qm qx i) 22 :=
 ⟨_, pt qm 0, rfl, .inl ⟨by kernel_rfl, fun w hS => run_twload w _ _ _ _ (.tmp 27) (by kernel_rfl) (by kernel_rfl) hS.1⟩, by kernel_rfl⟩
theorem y_u32_23 (t qm qx i : Nat) : YAt ops_u32 (TwS t qm qx) (act_u32 t qm qx i) 23 :=
 ⟨_, pt qm 0, rfl, .inl ⟨by kernel_rfl, fun w _ => by kernel_rfl⟩, by kernel_rfl⟩
theorem y_u32_24 (t qm qx i : Nat) : YAt ops_u32 (TwS t qm qx) (act_u32 t qm qx i) 24 :=
 ⟨_, pt qm 4, rfl, .inl ⟨by kernel_rfl, fun w _ => by kernel_rfl⟩, by kernel_rfl⟩
theorem y_u32_25 (t qm qx i : Nat) : YAt ops_u32 (TwS t qm qx) (act_u32 t qm qx i) 25 :=
 ⟨_, .agg #[pt qx 4, pt qm 4], rfl, .inl ⟨by kernel_rfl, fun w _ => by kernel_rfl⟩, by kernel_rfl⟩
theorem y_u32_26 (t qm qx i : Nat) : YAt ops_u32 (TwS t qm qx) (act_u32 t qm qx i) 26 :=
 ⟨_, pt t 0, rfl, .inl ⟨by kernel_rfl, fun w _ => by kernel_rfl⟩, by kernel_rfl⟩
theorem y_u32_27 (t qm qx i : Nat) : YAt ops_u32 (TwS t qm qx) (act_u32 t qm qx i) 27 :=
 ⟨_, pt t 0, rfl, .inl ⟨by kernel_rfl, fun w _ => by kernel_rfl⟩, by kernel_rfl⟩
theorem y_u32_28 (t qm qx i : Nat) : YAt ops_u32 (TwS t qm qx) (act_u32 t qm qx i) 28 :=
 ⟨_, pt t 1, rfl, .inl ⟨by kernel_rfl, fun w _ => by kernel_rfl⟩, by kernel_rfl⟩
theorem y_u32_29 (t qm qx i : Nat) : YAt ops_u32 (TwS t qm qx) (act_u32 t qm qx i) 29 :=
 ⟨_, pt qx 0, rfl, .inl ⟨by kernel_rfl, fun w hS => run_twload w _ _ _ _ (.tmp 34) (by kernel_rfl) (by kernel_rfl) hS.2⟩, by kernel_rfl⟩
theorem y_u32_30 (t qm qx i : Nat) : YAt ops_u32 (TwS t qm qx) (act_u32 t qm qx i) 30 :=
 ⟨_, pt qx 0, rfl, .inl ⟨by kernel_rfl, fun w _ => by kernel_rfl⟩, by kernel_rfl⟩
theorem y_u32_31 (t qm qx i : Nat) : YAt ops_u32 (TwS t qm qx) (act_u32 t qm qx i) 31 :=
 ⟨_, pt qx 5, rfl, .inl ⟨by kernel_rfl, fun w _ => by kernel_rfl⟩, by kernel_rfl⟩
theorem y_u32_32 (t qm qx i : Nat) : YAt ops_u32 (TwS t qm qx) (act_u32 t qm qx i) 32 :=
 ⟨_, pt t 0, rfl, .inl ⟨by kernel_rfl, fun w _ => by kernel_rfl⟩, by kernel_rfl⟩
theorem y_u32_33 (t qm qx i : Nat) : YAt ops_u32 (TwS t qm qx) (act_u32 t qm qx i) 33 :=
 ⟨_, pt t 0, rfl, .inl ⟨by kernel_rfl, fun w _ => by kernel_rfl⟩, by kernel_rfl⟩
theorem y_u32_34 (t qm qx i : Nat) : YAt ops_u32 (TwS t qm qx) (act_u32 t qm qx i) 34 :=
 ⟨_, pt t 0, rfl, .inl ⟨by kernel_rfl, fun w _ => by kernel_rfl⟩, by kernel_rfl⟩
theorem y_u32_35 (t qm qx i : Nat) : YAt ops_u32 (TwS t qm qx) (act_u32 t qm qx i) 35 :=
 ⟨_, pt qm 0, rfl, .inl ⟨by kernel_rfl, fun w hS => run_twload w _ _ _ _ (.tmp 40) (by kernel_rfl) (by kernel_rfl) hS.1⟩, by kernel_rfl⟩
theorem y_u32_36 (t qm qx i : Nat) : YAt ops_u32 (TwS t qm qx) (act_u32 t qm qx i) 36 :=
 ⟨_, pt qm 0, rfl, .inl ⟨by kernel_rfl, fun w _ => by kernel_rfl⟩, by kernel_rfl⟩
theorem y_u32_37 (t qm qx i : Nat) : YAt ops_u32 (TwS t qm qx) (act_u32 t qm qx i) 37 :=
 ⟨_, pt qm 5, rfl, .inl ⟨by kernel_rfl, fun w _ => by kernel_rfl⟩, by kernel_rfl⟩
theorem y_u32_38 (t qm qx i : Nat) : YAt ops_u32 (TwS t qm qx) (act_u32 t qm qx i) 38 :=
 ⟨_, .agg #[pt qx 5, pt qm 5], rfl, .inl ⟨by kernel_rfl, fun w _ => by kernel_rfl⟩, by kernel_rfl⟩
theorem y_u32_39 (t qm qx i : Nat) : YAt ops_u32 (TwS t qm qx) (act_u32 t qm qx i) 39 :=
 ⟨_, pt t 0, rfl, .inl ⟨by kernel_rfl, fun w _ => by kernel_rfl⟩, by kernel_rfl⟩
theorem y_u32_40 (t qm qx i : Nat) : YAt ops_u32 (TwS t qm qx) (act_u32 t qm qx i) 40 :=
 ⟨_, pt t 0, rfl, .inl ⟨by kernel_rfl, fun w _ => by kernel_rfl⟩, by kernel_rfl⟩
theorem y_u32_41 (t qm qx i : Nat) : YAt ops_u32 (TwS t qm qx) (act_u32 t qm qx i) 41 :=
 ⟨_, pt t 1, rfl, .inl ⟨by kernel_rfl, fun w _ => by kernel_rfl⟩, by kernel_rfl⟩
theorem y_u32_42 (t qm qx i : Nat) : YAt ops_u32 (TwS t qm qx) (act_u32 t qm qx i) 42 :=
 ⟨_, pt qx 0, rfl, .inl ⟨by kernel_rfl, fun w hS => run_twload w _ _ _ _ (.tmp 47) (by kernel_rfl) (by kernel_rfl) hS.2⟩, by kernel_rfl⟩
theorem y_u32_43 (t qm qx i : Nat) : YAt ops_u32 (TwS t qm qx) (act_u32 t qm qx i) 43 :=
 ⟨_, pt qx 0, rfl, .inl ⟨by kernel_rfl, fun w _ => by kernel_rfl⟩, by kernel_rfl⟩
theorem y_u32_44 (t qm qx i : Nat) : YAt ops_u32 (TwS t qm qx) (act_u32 t qm qx i) 44 :=
 ⟨_, pt qx 6, rfl, .inl ⟨by kernel_rfl, fun w _ => by kernel_rfl⟩, by kernel_rfl⟩
theorem y_u32_45 (t qm qx i : Nat) : YAt ops_u32 (TwS t qm qx) (act_u32 t qm qx i) 45 :=
 ⟨_, pt t 0, rfl, .inl ⟨by kernel_rfl, fun w _ => by kernel_rfl⟩, by kernel_rfl⟩
theorem y_u32_46 (t qm qx i : Nat) : YAt ops_u32 (TwS t qm qx) (act_u32 t qm qx i) 46 :=
 ⟨_, pt t 0, rfl, .inl ⟨by kernel_rfl, fun w _ => by kernel_rfl⟩, by kernel_rfl⟩
theorem y_u32_47 (t qm qx i : Nat) : YAt ops_u32 (TwS t qm qx) (act_u32 t qm qx i) 47 :=
 ⟨_, pt t 0, rfl, .inl ⟨by kernel_rfl, fun w _ => by kernel_rfl⟩, by kernel_rfl⟩
theorem y_u32_48 (t qm qx i : Nat) : YAt ops_u32 (TwS t qm qx) (act_u32 t qm qx i) 48 :=
 ⟨_, pt qm 0, rfl, .inl ⟨by kernel_rfl, fun w hS => run_twload w _ _ _ _ (.tmp 53) (by kernel_rfl) (by kernel_rfl) hS.1⟩, by kernel_rfl⟩
theorem y_u32_49 (t qm qx i : Nat) : YAt ops_u32 (TwS t qm qx) (act_u32 t qm qx i) 49 :=
 ⟨_, pt qm 0, rfl, .inl ⟨by kernel_rfl, fun w _ => by kernel_rfl⟩, by kernel_rfl⟩
theorem y_u32_50 (t qm qx i : Nat) : YAt ops_u32 (TwS t qm qx) (act_u32 t qm qx i) 50 :=
 ⟨_, pt qm 6, rfl, .inl ⟨by kernel_rfl, fun w _ => by kernel_rfl⟩, by kernel_rfl⟩
theorem y_u32_51 (t qm qx i : Nat) : YAt ops_u32 (TwS t qm qx) (act_u32 t qm qx i) 51 :=
 ⟨_, .agg #[pt qx 6, pt qm 6], rfl, .inl ⟨by kernel_rfl, fun w _ => by kernel_rfl⟩, by kernel_rfl⟩
theorem y_u32_52 (t qm qx i : Nat) : YAt ops_u32 (TwS t qm qx) (act_u32 t qm qx i) 52 :=
 ⟨_, pt t 0, rfl, .inl ⟨by kernel_rfl, fun w _ => by kernel_rfl⟩, by kernel_rfl⟩
theorem y_u32_53 (t qm qx i : Nat) : YAt ops_u32 (TwS t qm qx) (act_u32 t qm qx i) 53 :=
 ⟨_, pt t 0, rfl, .inl ⟨by kernel_rfl, fun w _ => by kernel_rfl⟩, by kernel_rfl⟩
theorem y_u32_54 (t qm qx i : Nat) : YAt ops_u32 (TwS t qm qx) (act_u32 t qm qx i) 54 :=
 ⟨_, pt t 1, rfl, .inl ⟨by kernel_rfl, fun w _ => by kernel_rfl⟩, by kernel_rfl⟩
theorem y_u32_55 (t qm qx i : Nat) : YAt ops_u32 (TwS t qm qx) (act_u32 t qm qx i) 55 :=
 ⟨_, pt qx 0, rfl, .inl ⟨by kernel_rfl, fun w hS => run_twload w _ _ _ _ (.tmp 60) (by kernel_rfl) (by kernel_rfl) hS.2⟩, by kernel_rfl⟩
theorem y_u32_56 (t qm qx i : Nat) : YAt ops_u32 (TwS t qm qx) (act_u32 t qm qx i) 56 :=
 ⟨_, pt qx 0, rfl, .inl ⟨by kernel_rfl, fun w _ => by kernel_rfl⟩, by kernel_rfl⟩
theorem y_u32_57 (t qm qx i : Nat) : YAt ops_u32 (TwS t qm qx) (act_u32 t qm qx i) 57 :=
 ⟨_, pt qx 16, rfl, .inl ⟨by kernel_rfl, fun w _ => by kernel_rfl⟩, by kernel_rfl⟩
theorem y_u32_58 (t qm qx i : Nat) : YAt ops_u32 (TwS t qm qx) (act_u32 t qm qx i) 58 :=
 ⟨_, pt t 0, rfl, .inl ⟨by kernel_rfl, fun w _ => by kernel_rfl⟩, by kernel_rfl⟩
theorem y_u32_59 (t qm qx i : Nat) : YAt ops_u32 (TwS t qm qx) (act_u32 t qm qx i) 59 :=
 ⟨_, pt t 0, rfl, .inl ⟨by kernel_rfl, fun w _ => by kernel_rfl⟩, by kernel_rfl⟩
theorem y_u32_60 (t qm qx i : Nat) : YAt ops_u32 (TwS t qm qx) (act_u32 t qm qx i) 60 :=
 ⟨_, pt t 0, rfl, .inl ⟨by kernel_rfl, fun w _ => by kernel_rfl⟩, by kernel_rfl⟩
theorem y_u32_61 (t qm qx i : Nat) : YAt ops_u32 (TwS t qm qx) (act_u32 t qm qx i) 61 :=
 ⟨_, pt qm 0, rfl, .inl ⟨by kernel_rfl, fun w hS => run_twload w _ _ _ _ (.tmp 66) (by kernel_rfl) (by kernel_rfl) hS.1⟩, by kernel_rfl⟩
theorem y_u32_62 (t qm qx i : Nat) : YAt ops_u32 (TwS t qm qx) (act_u32 t qm qx i) 62 :=
 ⟨_, pt qm 0, rfl, .inl ⟨by kernel_rfl, fun w _ => by kernel_rfl⟩, by kernel_rfl⟩
theorem y_u32_63 (t qm qx i : Nat) : YAt ops_u32 (TwS t qm qx) (act_u32 t qm qx i) 63 :=
 ⟨_, pt qm 16, rfl, .inl ⟨by kernel_rfl, fun w _ => by kernel_rfl⟩, by kernel_rfl⟩
theorem y_u32_64 (t qm qx i : Nat) : YAt ops_u32 (TwS t qm qx) (act_u32 t qm qx i) 64 :=
 ⟨_, .agg #[pt qx 16, pt qm 16], rfl, .inl ⟨by kernel_rfl, fun w _ => by kernel_rfl⟩, by kernel_rfl⟩
theorem y_u32_65 (t qm qx i : Nat) : YAt ops_u32 (TwS t qm qx) (act_u32 t qm qx i) 65 :=
 ⟨_, pt t 0, rfl, .inl ⟨by kernel_rfl, fun w _ => by kernel_rfl⟩, by kernel_rfl⟩
theorem y_u32_66 (t qm qx i : Nat) : YAt ops_u32 (TwS t qm qx) (act_u32 t qm qx i) 66 :=
 ⟨_, pt t 0, rfl, .inl ⟨by kernel_rfl, fun w _ => by kernel_rfl⟩, by kernel_rfl⟩
theorem y_u32_67 (t qm qx i : Nat) : YAt ops_u32 (TwS t qm qx) (act_u32 t qm qx i) 67 :=
 ⟨_, pt t 1, rfl, .inl ⟨by kernel_rfl, fun w _ => by kernel_rfl⟩, by kernel_rfl⟩
theorem y_u32_68 (t qm qx i : Nat) : YAt ops_u32 (TwS t qm qx) (act_u32 t qm qx i) 68 :=
 ⟨_, pt qx 0, rfl, .inl ⟨by kernel_rfl, fun w hS => run_twload w _ _ _ _ (.tmp 73) (by kernel_rfl) (by kernel_rfl) hS.2⟩, by kernel_rfl⟩
theorem y_u32_69 (t qm qx i : Nat) : YAt ops_u32 (TwS t qm qx) (act_u32 t qm qx i) 69 :=
 ⟨_, pt qx 0, rfl, .inl ⟨by kernel_rfl, fun w _ => by kernel_rfl⟩, by kernel_rfl⟩
theorem y_u32_70 (t qm qx i : Nat) : YAt ops_u32 (TwS t qm qx) (act_u32 t qm qx i) 70 :=
 ⟨_, pt qx 18, rfl, .inl ⟨by kernel_rfl, fun w _ => by kernel_rfl⟩, by kernel_rfl⟩
theorem y_u32_71 (t qm qx i : Nat) : YAt ops_u32 (TwS t qm qx) (act_u32 t qm qx i) 71 :=
 ⟨_, pt t 0, rfl, .inl ⟨by kernel_rfl, fun w _ => by kernel_rfl⟩, by kernel_rfl⟩
theorem y_u32_72 (t qm qx i : Nat) : YAt ops_u32 (TwS t qm qx) (act_u32 t qm qx i) 72 :=
 ⟨_, pt t 0, rfl, .inl ⟨by kernel_rfl, fun w _ => by kernel_rfl⟩, by kernel_rfl⟩
theorem y_u32_73 (t qm qx i : Nat) : YAt ops_u32 (TwS t qm qx) (act_u32 t qm qx i) 73 :=
 ⟨_, pt t 0, rfl, .inl ⟨by kernel_rfl, fun w _ => by kernel_rfl⟩, by kernel_rfl⟩
theorem y_u32_74 (t qm qx i : Nat) : YAt ops_u32 (TwS t qm qx) (act_u32 t qm qx i) 74 :=
 ⟨_, pt qm 0, rfl, .inl ⟨by kernel_rfl, fun w hS => run_twload w _ _ _ _ (.tmp 79) (by kernel_rfl) (by kernel_rfl) hS.1⟩, by kernel_rfl⟩
theorem y_u32_75 (t qm qx i : Nat) : YAt ops_u32 (TwS t qm qx) (act_u32 t qm qx i) 75 :=
 ⟨_, pt qm 0, rfl, .inl ⟨by kernel_rfl, fun w _ => by kernel_rfl⟩, by kernel_rfl⟩
theorem y_u32_76 (t qm qx i : Nat) : YAt ops_u32 (TwS t qm qx) (act_u32 t qm qx i) 76 :=
 ⟨_, pt qm 18, rfl, .inl ⟨by kernel_rfl, fun w _ => by kernel_rfl⟩, by kernel_rfl⟩
theorem y_u32_77 (t qm qx i : Nat) : YAt ops_u32 (TwS t qm qx) (act_u32 t qm qx i) 77 :=
 ⟨_, .agg #[pt qx 18, pt qm 18], rfl, .inl ⟨by kernel_rfl, fun w _ => by kernel_rfl⟩, by kernel_rfl⟩
theorem y_u32_78 (t qm qx i : Nat) : YAt ops_u32 (TwS t qm qx) (act_u32 t qm qx i) 78 :=
 ⟨_, pt t 0, rfl, .inl ⟨by kernel_rfl, fun w _ => by kernel_rfl⟩, by kernel_rfl⟩
theorem y_u32_79 (t qm qx i : Nat) : YAt ops_u32 (TwS t qm qx) (act_u32 t qm qx i) 79 :=
 ⟨_, pt t 0, rfl, .inl ⟨by kernel_rfl, fun w _ => by kernel_rfl⟩, by kernel_rfl⟩
theorem y_u32_80 (t qm qx i : Nat) : YAt ops_u32 (TwS t qm qx) (act_u32 t qm qx i) 80 :=
 ⟨_, pt t 1, rfl, .inl ⟨by kernel_rfl, fun w _ => by kernel_rfl⟩, by kernel_rfl⟩
theorem y_u32_81 (t qm qx i : Nat) : YAt ops_u32 (TwS t qm qx) (act_u32 t qm qx i) 81 :=
 ⟨_, pt qx 0, rfl, .inl ⟨by kernel_rfl, fun w hS => run_twload w _ _ _ _ (.tmp 86) (by kernel_rfl) (by kernel_rfl) hS.2⟩, by kernel_rfl⟩
theorem y_u32_82 (t qm qx i : Nat) : YAt ops_u32 (TwS t qm qx) (act_u32 t qm qx i) 82 :=
 ⟨_, pt qx 0, rfl, .inl ⟨by kernel_rfl, fun w _ => by kernel_rfl⟩, by kernel_rfl⟩
theorem y_u32_83 (t qm qx i : Nat) : YAt ops_u32 (TwS t qm qx) (act_u32 t qm qx i) 83 :=
 ⟨_, pt qx 21, rfl, .inl ⟨by kernel_rfl, fun w _ => by kernel_rfl⟩, by kernel_rfl⟩
theorem y_u32_84 (t qm qx i : Nat) : YAt ops_u32 (TwS t qm qx) (act_u32 t qm qx i) 84 :=
 ⟨_, pt t 0, rfl, .inl ⟨by kernel_rfl, fun w _ => by kernel_rfl⟩, by kernel_rfl⟩
theorem y_u32_85 (t qm qx i : Nat) : YAt ops_u32 (TwS t qm qx) (act_u32 t qm qx i) 85 :=
 ⟨_, pt t 0, rfl, .inl ⟨by kernel_rfl, fun w _ => by kernel_rfl⟩, by kernel_rfl⟩
theorem y_u32_86 (t qm qx i : Nat) : YAt ops_u32 (TwS t qm qx) (act_u32 t qm qx i) 86 :=
 ⟨_, pt t 0, rfl, .inl ⟨by kernel_rfl, fun w _ => by kernel_rfl⟩, by kernel_rfl⟩
theorem y_u32_87 (t qm qx i : Nat) : YAt ops_u32 (TwS t qm qx) (act_u32 t qm qx i) 87 :=
 ⟨_, pt qm 0, rfl, .inl ⟨by kernel_rfl, fun w hS => run_twload w _ _ _ _ (.tmp 92) (by kernel_rfl) (by kernel_rfl) hS.1⟩, by kernel_rfl⟩
theorem y_u32_88 (t qm qx i : Nat) : YAt ops_u32 (TwS t qm qx) (act_u32 t qm qx i) 88 :=
 ⟨_, pt qm 0, rfl, .inl ⟨by kernel_rfl, fun w _ => by kernel_rfl⟩, by kernel_rfl⟩
theorem y_u32_89 (t qm qx i : Nat) : YAt ops_u32 (TwS t qm qx) (act_u32 t qm qx i) 89 :=
 ⟨_, pt qm 21, rfl, .inl ⟨by kernel_rfl, fun w _ => by kernel_rfl⟩, by kernel_rfl⟩
theorem y_u32_90 (t qm qx i : Nat) : YAt ops_u32 (TwS t qm qx) (act_u32 t qm qx i) 90 :=
 ⟨_, .agg #[pt qx 21, pt qm 21], rfl, .inl ⟨by kernel_rfl, fun w _ => by kernel_rfl⟩, by kernel_rfl⟩

noncomputable def ops_text : Array Oper := match Tryz.f121.body with | some c => headOps c | none => #[]
def vals_text (t qm qx : Nat) : List Value := [pt t 0, pt t 0, pt t 1, pt qx 0, pt qx 0, pt qx 3, pt t 0, pt t 0, pt t 0, pt qm 0, pt qm 0, pt qm 3, .agg #[pt qx 3, pt qm 3], pt t 0, pt t 0, pt t 1, pt qx 0, pt qx 0, pt qx 7, pt t 0, pt t 0, pt t 0, pt qm 0, pt qm 0, pt qm 7, .agg #[pt qx 7, pt qm 7], pt t 0, pt t 0, pt t 1, pt qx 0, pt qx 0, pt qx 8, pt t 0, pt t 0, pt t 0, pt qm 0, pt qm 0, pt qm 8, .agg #[pt qx 8, pt qm 8], pt t 0, pt t 0, pt t 1, pt qx 0, pt qx 0, pt qx 9, pt t 0, pt t 0, pt t 0, pt qm 0, pt qm 0, pt qm 9, .agg #[pt qx 9, pt qm 9], pt t 0, pt t 0, pt t 1, pt qx 0, pt qx 0, pt qx 19, pt t 0, pt t 0, pt t 0, pt qm 0, pt qm 0, pt qm 19, .agg #[pt qx 19, pt qm 19]]
def act_text (t qm qx i : Nat) (k : Nat) : Act := { tmps := ([pt t 0, pt qx i, undef, undef, undef, undef] ++ (vals_text t qm qx).take k ++ List.replicate (82 - k) undef).toArray, defers := [] }

theorem order_text_0 : OrdB ops_text 68 0 = true := by kernel_rfl
theorem order_text_1 : OrdB ops_text 68 1 = true := by kernel_rfl
theorem order_text_2 : OrdB ops_text 68 2 = true := by kernel_rfl
theorem order_text_3 : OrdB ops_text 68 3 = true := by kernel_rfl
theorem order_text_4 : OrdB ops_text 68 4 = true := by kernel_rfl
theorem order_text_5 : OrdB ops_text 68 5 = true := by kernel_rfl
theorem order_text_6 : OrdB ops_text 68 6 = true := by kernel_rfl
theorem order_text_7 : OrdB ops_text 68 7 = true := by kernel_rfl
theorem order_text_8 : OrdB ops_text 68 8 = true := by kernel_rfl
theorem order_text_9 : OrdB ops_text 68 9 = true := by kernel_rfl
theorem order_text_10 : OrdB ops_text 68 10 = true := by kernel_rfl
theorem order_text_11 : OrdB ops_text 68 11 = true := by kernel_rfl
theorem order_text_12 : OrdB ops_text 68 12 = true := by kernel_rfl
theorem order_text_13 : OrdB ops_text 68 13 = true := by kernel_rfl
theorem order_text_14 : OrdB ops_text 68 14 = true := by kernel_rfl
theorem order_text_15 : OrdB ops_text 68 15 = true := by kernel_rfl
theorem order_text_16 : OrdB ops_text 68 16 = true := by kernel_rfl
theorem order_text_17 : OrdB ops_text 68 17 = true := by kernel_rfl
theorem order_text_18 : OrdB ops_text 68 18 = true := by kernel_rfl
theorem order_text_19 : OrdB ops_text 68 19 = true := by kernel_rfl
theorem order_text_20 : OrdB ops_text 68 20 = true := by kernel_rfl
theorem order_text_21 : OrdB ops_text 68 21 = true := by kernel_rfl
theorem order_text_22 : OrdB ops_text 68 22 = true := by kernel_rfl
theorem order_text_23 : OrdB ops_text 68 23 = true := by kernel_rfl
theorem order_text_24 : OrdB ops_text 68 24 = true := by kernel_rfl
theorem order_text_25 : OrdB ops_text 68 25 = true := by kernel_rfl
theorem order_text_26 : OrdB ops_text 68 26 = true := by kernel_rfl
theorem order_text_27 : OrdB ops_text 68 27 = true := by kernel_rfl
theorem order_text_28 : OrdB ops_text 68 28 = true := by kernel_rfl
theorem order_text_29 : OrdB ops_text 68 29 = true := by kernel_rfl
theorem order_text_30 : OrdB ops_text 68 30 = true := by kernel_rfl
theorem order_text_31 : OrdB ops_text 68 31 = true := by kernel_rfl
theorem order_text_32 : OrdB ops_text 68 32 = true := by kernel_rfl
theorem order_text_33 : OrdB ops_text 68 33 = true := by kernel_rfl
theorem order_text_34 : OrdB ops_text 68 34 = true := by kernel_rfl
theorem order_text_35 : OrdB ops_text 68 35 = true := by kernel_rfl
theorem order_text_36 : OrdB ops_text 68 36 = true := by kernel_rfl
theorem order_text_37 : OrdB ops_text 68 37 = true := by kernel_rfl
theorem order_text_38 : OrdB ops_text 68 38 = true := by kernel_rfl
theorem order_text_39 : OrdB ops_text 68 39 = true := by kernel_rfl
theorem order_text_40 : OrdB ops_text 68 40 = true := by kernel_rfl
theorem order_text_41 : OrdB ops_text 68 41 = true := by kernel_rfl
theorem order_text_42 : OrdB ops_text 68 42 = true := by kernel_rfl
theorem order_text_43 : OrdB ops_text 68 43 = true := by kernel_rfl
theorem order_text_44 : OrdB ops_text 68 44 = true := by kernel_rfl
theorem order_text_45 : OrdB ops_text 68 45 = true := by kernel_rfl
theorem order_text_46 : OrdB ops_text 68 46 = true := by kernel_rfl
theorem order_text_47 : OrdB ops_text 68 47 = true := by kernel_rfl
theorem order_text_48 : OrdB ops_text 68 48 = true := by kernel_rfl
theorem order_text_49 : OrdB ops_text 68 49 = true := by kernel_rfl
theorem order_text_50 : OrdB ops_text 68 50 = true := by kernel_rfl
theorem order_text_51 : OrdB ops_text 68 51 = true := by kernel_rfl
theorem order_text_52 : OrdB ops_text 68 52 = true := by kernel_rfl
theorem order_text_53 : OrdB ops_text 68 53 = true := by kernel_rfl
theorem order_text_54 : OrdB ops_text 68 54 = true := by kernel_rfl
theorem order_text_55 : OrdB ops_text 68 55 = true := by kernel_rfl
theorem order_text_56 : OrdB ops_text 68 56 = true := by kernel_rfl
theorem order_text_57 : OrdB ops_text 68 57 = true := by kernel_rfl
theorem order_text_58 : OrdB ops_text 68 58 = true := by kernel_rfl
theorem order_text_59 : OrdB ops_text 68 59 = true := by kernel_rfl
theorem order_text_60 : OrdB ops_text 68 60 = true := by kernel_rfl
theorem order_text_61 : OrdB ops_text 68 61 = true := by kernel_rfl
theorem order_text_62 : OrdB ops_text 68 62 = true := by kernel_rfl
theorem order_text_63 : OrdB ops_text 68 63 = true := by kernel_rfl
theorem order_text_64 : OrdB ops_text 68 64 = true := by kernel_rfl
theorem y_text_0 (t qm qx i : Nat) : YAt ops_text (TwS t qm qx) (act_text t qm qx i) 0 :=
 ⟨_, pt t 0, rfl, .inl ⟨by kernel_rfl, fun w _ => by kernel_rfl⟩, by kernel_rfl⟩
theorem y_text_1 (t qm qx i : Nat) : YAt ops_text (TwS t qm qx) (act_text t qm qx i) 1 :=
 ⟨_, pt t 0, rfl, .inl ⟨by kernel_rfl, fun w _ => by kernel_rfl⟩, by kernel_rfl⟩
theorem y_text_2 (t qm qx i : Nat) : YAt ops_text (TwS t qm qx) (act_text t qm qx i) 2 :=
 ⟨_, pt t 1, rfl, .inl ⟨by kernel_rfl, fun w _ => by kernel_rfl⟩, by kernel_rfl⟩
theorem y_text_3 (t qm qx i : Nat) : YAt ops_text (TwS t qm qx) (act_text t qm qx i) 3 :=
 ⟨_, pt qx 0, rfl, .inl ⟨by kernel_rfl, fun w hS => run_twload w _ _ _ _ (.tmp 8) (by kernel_rfl) (by kernel_rfl) hS.2⟩, by kernel_rfl⟩
theorem y_text_4 (t qm qx i : Nat) : YAt ops_text (TwS t qm qx) (act_text t qm qx i) 4 :=
 ⟨_, pt qx 0, rfl, .inl ⟨by kernel_rfl, fun w _ => by kernel_rfl⟩, by kernel_rfl⟩
theorem y_text_5 (t qm qx i : Nat) : YAt ops_text (TwS t qm qx) (act_text t qm qx i) 5 :=
 ⟨_, pt qx 3, rfl, .inl ⟨by kernel_rfl, fun w _ => by kernel_rfl⟩, by kernel_rfl⟩
theorem y_text_6 (t qm qx i : Nat) : YAt ops_text (TwS t qm qx) (act_text t qm qx i) 6 :=
 ⟨_, pt t 0, rfl, .inl ⟨by kernel_rfl, fun w _ => by kernel_rfl⟩, by kernel_rfl⟩
theorem y_text_7 (t qm qx i : Nat) : YAt ops_text (TwS t qm qx) (act_text t qm qx i) 7 :=
 ⟨_, pt t 0, rfl, .inl ⟨by kernel_rfl, fun w _ => by kernel_rfl⟩, by kernel_rfl⟩
theorem y_text_8 (t qm qx i : Nat) : YAt ops_text (TwS t qm qx) (act_text t qm qx i) 8 :=
 ⟨_, pt t 0, rfl, .inl ⟨by kernel_rfl, fun w _ => by kernel_rfl⟩, by kernel_rfl⟩
theorem y_text_9 (t qm qx i : Nat) : YAt ops_text (TwS t qm qx) (act_text t qm qx i) 9 :=
 ⟨_, pt qm 0, rfl, .inl ⟨by kernel_rfl, fun w hS => run_twload w _ _ _ _ (.tmp 14) (by kernel_rfl) (by kernel_rfl) hS.1⟩, by kernel_rfl⟩
theorem y_text_10 (t qm qx i : Nat) : YAt ops_text (TwS t qm qx) (act_text t qm qx i) 10 :=
 ⟨_, pt qm 0, rfl, .inl ⟨by kernel_rfl, fun w _ => by kernel_rfl⟩, by kernel_rfl⟩
theorem y_text_11 (t qm qx i : Nat) : YAt ops_text (TwS t qm qx) (act_text t qm qx i) 11 :=
 ⟨_, pt qm 3, rfl, .inl ⟨by kernel_rfl, fun w _ => by kernel_rfl⟩, by kernel_rfl⟩
theorem y_text_12 (t qm qx i : Nat) : YAt ops_text (TwS t qm qx) (act_text t qm qx i) 12 :=
 ⟨_, .agg #[pt qx 3, pt qm 3], rfl, .inl ⟨by kernel_rfl, fun w _ => by kernel_rfl⟩, by kernel_rfl⟩
theorem y_text_13 (t qm qx i : Nat) : YAt ops_text (TwS t qm qx) (act_text t qm qx i) 13 :=
 ⟨_, pt t 0, rfl, .inl ⟨by kernel_rfl, fun w _ => by kernel_rfl⟩, by kernel_rfl⟩
theorem y_text_14 (t qm qx i : Nat) : YAt ops_text (TwS t qm qx) (act_text t qm qx i) 14 :=
 ⟨_, pt t 0, rfl, .inl ⟨by kernel_rfl, fun w _ => by kernel_rfl⟩, by kernel_rfl⟩
theorem y_text_15 (t qm qx i : Nat) : YAt ops_text (TwS t qm qx) (act_text t qm qx i) 15 :=
 ⟨_, pt t 1, rfl, .inl ⟨by kernel_rfl, fun w _ => by kernel_rfl⟩, by kernel_rfl⟩
theorem y_text_16 (t qm qx i : Nat) : YAt ops_text (TwS t qm qx) (act_text t qm qx i) 16 :=
 ⟨_, pt qx 0, rfl, .inl ⟨by kernel_rfl, fun w hS => run_twload w _ _ _ _ (.tmp 21) (by kernel_rfl) (by kernel_rfl) hS.2⟩, by kernel_rfl⟩
theorem y_text_17 (t qm qx i : Nat) : YAt ops_text (TwS t qm qx) (act_text t qm qx i) 17 :=
 ⟨_, pt qx 0, rfl, .inl ⟨by kernel_rfl, fun w _ => by kernel_rfl⟩, by kernel_rfl⟩
theorem y_text_18 (t qm qx i : Nat) : YAt ops_text (TwS t qm qx) (act_text t qm qx i) 18 :=
 ⟨_, pt qx 7, rfl, .inl ⟨by kernel_rfl, fun w _ => by kernel_rfl⟩, by kernel_rfl⟩
theorem y_text_19 (t qm qx i : Nat) : YAt ops_text (TwS t qm qx) (act_text t qm qx i) 19 :=
 ⟨_, pt t 0, rfl, .inl ⟨by kernel_rfl, fun w _ => by kernel_rfl⟩, by kernel_rfl⟩
theorem y_text_20 (t qm qx i : Nat) : YAt ops_text (TwS t qm qx) (act_text t qm qx i) 20 :=
 ⟨_, pt t 0, rfl, .inl ⟨by kernel_rfl, fun w _ => by kernel_rfl⟩, by kernel_rfl⟩
theorem y_text_21 (t qm qx i : Nat) : YAt ops_text (TwS t qm qx) (act_text t qm qx i) 21 :=
 ⟨_, pt t 0, rfl, .inl ⟨by kernel_rfl, fun w _ => by kernel_rfl⟩, by kernel_rfl⟩
theorem y_text_22 (t qm qx i : Nat) : YAt ops_text (TwS t qm qx) (act_text t qm qx i) 22 :=
 ⟨_, pt qm 0, rfl, .inl ⟨by kernel_rfl, fun w hS => run_twload w _ _ _ _ (.tmp 27) (by kernel_rfl) (by kernel_rfl) hS.1⟩, by kernel_rfl⟩
theorem y_text_23 (t qm qx i : Nat) : YAt ops_text (TwS t qm qx) (act_text t qm qx i) 23 :=
 ⟨_, pt qm 0, rfl, .inl ⟨by kernel_rfl, fun w _ => by kernel_rfl⟩, by kernel_rfl⟩
theorem y_text_24 (t qm qx i : Nat) : YAt ops_text (TwS t qm qx) (act_text t qm qx i) 24 :=
 ⟨_, pt qm 7, rfl, .inl ⟨by kernel_rfl, fun w _ => by kernel_rfl⟩, by kernel_rfl⟩
theorem y_text_25 (t qm qx i : Nat) : YAt ops_text (TwS t qm qx) (act_text t qm qx i) 25 :=
 ⟨_, .agg #[pt qx 7, pt qm 7], rfl, .inl ⟨by kernel_rfl, fun w _ => by kernel_rfl⟩, by kernel_rfl⟩
theorem y_text_26 (t qm qx i : Nat) : YAt ops_text (TwS t qm qx) (act_text t qm qx i) 26 :=
 ⟨_, pt t 0, rfl, .inl ⟨by kernel_rfl, fun w _ => by kernel_rfl⟩, by kernel_rfl⟩
theorem y_text_27 (t qm qx i : Nat) : YAt ops_text (TwS t qm qx) (act_text t qm qx i) 27 :=
 ⟨_, pt t 0, rfl, .inl ⟨by kernel_rfl, fun w _ => by kernel_rfl⟩, by kernel_rfl⟩
theorem y_text_28 (t qm qx i : Nat) : YAt ops_text (TwS t qm qx) (act_text t qm qx i) 28 :=
 ⟨_, pt t 1, rfl, .inl ⟨by kernel_rfl, fun w _ => by kernel_rfl⟩, by kernel_rfl⟩
theorem y_text_29 (t qm qx i : Nat) : YAt ops_text (TwS t qm qx) (act_text t qm qx i) 29 :=
 ⟨_, pt qx 0, rfl, .inl ⟨by kernel_rfl, fun w hS => run_twload w _ _ _ _ (.tmp 34) (by kernel_rfl) (by kernel_rfl) hS.2⟩, by kernel_rfl⟩
theorem y_text_30 (t qm qx i : Nat) : YAt ops_text (TwS t qm qx) (act_text t qm qx i) 30 :=
 ⟨_, pt qx 0, rfl, .inl ⟨by kernel_rfl, fun w _ => by kernel_rfl⟩, by kernel_rfl⟩
theorem y_text_31 (t qm qx i : Nat) : YAt ops_text (TwS t qm qx) (act_text t qm qx i) 31 :=
 ⟨_, pt qx 8, rfl, .inl ⟨by kernel_rfl, fun w _ => by kernel_rfl⟩, by kernel_rfl⟩
theorem y_text_32 (t qm qx i : Nat) : YAt ops_text (TwS t qm qx) (act_text t qm qx i) 32 :=
 ⟨_, pt t 0, rfl, .inl ⟨by kernel_rfl, fun w _ => by kernel_rfl⟩, by kernel_rfl⟩
theorem y_text_33 (t qm qx i : Nat) : YAt ops_text (TwS t qm qx) (act_text t qm qx i) 33 :=
 ⟨_, pt t 0, rfl, .inl ⟨by kernel_rfl, fun w _ => by kernel_rfl⟩, by kernel_rfl⟩
theorem y_text_34 (t qm qx i : Nat) : YAt ops_text (TwS t qm qx) (act_text t qm qx i) 34 :=
 ⟨_, pt t 0, rfl, .inl ⟨by kernel_rfl, fun w _ => by kernel_rfl⟩, by kernel_rfl⟩
theorem y_text_35 (t qm qx i : Nat) : YAt ops_text (TwS t qm qx) (act_text t qm qx i) 35 :=
 ⟨_, pt qm 0, rfl, .inl ⟨by kernel_rfl, fun w hS => run_twload w _ _ _ _ (.tmp 40) (by kernel_rfl) (by kernel_rfl) hS.1⟩, by kernel_rfl⟩
theorem y_text_36 (t qm qx i : Nat) : YAt ops_text (TwS t qm qx) (act_text t qm qx i) 36 :=
 ⟨_, pt qm 0, rfl, .inl ⟨by kernel_rfl, fun w _ => by kernel_rfl⟩, by kernel_rfl⟩
theorem y_text_37 (t qm qx i : Nat) : YAt ops_text (TwS t qm qx) (act_text t qm qx i) 37 :=
 ⟨_, pt qm 8, rfl, .inl ⟨by kernel_rfl, fun w _ => by kernel_rfl⟩, by kernel_rfl⟩
theorem y_text_38 (t qm qx i : Nat) : YAt ops_text (TwS t qm qx) (act_text t qm qx i) 38 :=
 ⟨_, .agg #[pt qx 8, pt qm 8], rfl, .inl ⟨by kernel_rfl, fun w _ => by kernel_rfl⟩, by kernel_rfl⟩
theorem y_text_39 (t qm qx i : Nat) : YAt ops_text (TwS t qm qx) (act_text t qm qx i) 39 :=
 ⟨_, pt t 0, rfl, .inl ⟨by kernel_rfl, fun w _ => by kernel_rfl⟩, by kernel_rfl⟩
theorem y_text_40 (t qm qx i : Nat) : YAt ops_text (TwS t qm qx) (act_text t qm qx i) 40 :=
 ⟨_, pt t 0, rfl, .inl ⟨by kernel_rfl, fun w _ => by kernel_rfl⟩, by kernel_rfl⟩
theorem y_text_41 (t qm qx i : Nat) : YAt ops_text (TwS t qm qx) (act_text t qm qx i) 41 :=
 ⟨_, pt t 1, rfl, .inl ⟨by kernel_rfl, fun w _ => by kernel_rfl⟩, by kernel_rfl⟩
theorem y_text_42 (t qm qx i : Nat) : YAt ops_text (TwS t qm qx) (act_text t qm qx i) 42 :=
 ⟨_, pt qx 0, rfl, .inl ⟨by kernel_rfl, fun w hS => run_twload w _ _ _ _ (.tmp 47) (by kernel_rfl) (by kernel_rfl) hS.2⟩, by kernel_rfl⟩
theorem y_text_43 (t qm qx i : Nat) : YAt ops_text (TwS t qm qx) (act_text t qm qx i) 43 :=
 ⟨_, pt qx 0, rfl, .inl ⟨by kernel_rfl, fun w _ => by kernel_rfl⟩, by kernel_rfl⟩
theorem y_text_44 (t qm qx i : Nat) : YAt ops_text (TwS t qm qx) (act_text t qm qx i) 44 :=
 ⟨_, pt qx 9, rfl, .inl ⟨by kernel_rfl, fun w _ => by kernel_rfl⟩, by kernel_rfl⟩
theorem y_text_45 (t qm qx i : Nat) : YAt ops_text (TwS t qm qx) (act_text t qm qx i) 45 :=
 ⟨_, pt t 0, rfl, .inl ⟨by kernel_rfl, fun w _ => by kernel_rfl⟩, by kernel_rfl⟩
theorem y_text_46 (t qm qx i : Nat) : YAt ops_text (TwS t qm qx) (act_text t qm qx i) 46 :=
 ⟨_, pt t 0, rfl, .inl ⟨by kernel_rfl, fun w _ => by kernel_rfl⟩, by kernel_rfl⟩
theorem y_text_47 (t qm qx i : Nat) : YAt ops_text (TwS t qm qx) (act_text t qm qx i) 47 :=
 ⟨_, pt t 0, rfl, .inl ⟨by kernel_rfl, fun w _ => by kernel_rfl⟩, by kernel_rfl⟩
theorem y_text_48 (t qm qx i : Nat) : YAt ops_text (TwS t qm qx) (act_text t qm qx i) 48 :=
 ⟨_, pt qm 0, rfl, .inl ⟨by kernel_rfl, fun w hS => run_twload w _ _ _ _ (.tmp 53) (by kernel_rfl) (by kernel_rfl) hS.1⟩, by kernel_rfl⟩
theorem y_text_49 (t qm qx i : Nat) : YAt ops_text (TwS t qm qx) (act_text t qm qx i) 49 :=
 ⟨_, pt qm 0, rfl, .inl ⟨by kernel_rfl, fun w _ => by kernel_rfl⟩, by kernel_rfl⟩
theorem y_text_50 (t qm qx i : Nat) : YAt ops_text (TwS t qm qx) (act_text t qm qx i) 50 :=
 ⟨_, pt qm 9, rfl, .inl ⟨by kernel_rfl, fun w _ => by kernel_rfl⟩, by kernel_rfl⟩
theorem y_text_51 (t qm qx i : Nat) : YAt ops_text (TwS t qm qx) (act_text t qm qx i) 51 :=
 ⟨_, .agg #[pt qx 9, pt qm 9], rfl, .inl ⟨by kernel_rfl, fun w _ => by kernel_rfl⟩, by kernel_rfl⟩
theorem y_text_52 (t qm qx i : Nat) : YAt ops_text (TwS t qm qx) (act_text t qm qx i) 52 :=
 ⟨_, pt t 0, rfl, .inl ⟨by kernel_rfl, fun w _ => by kernel_rfl⟩, by kernel_rfl⟩
theorem y_text_53 (t qm qx i : Nat) : YAt ops_text (TwS t qm qx) (act_text t qm qx i) 53 :=
 ⟨_, pt t 0, rfl, .inl ⟨by kernel_rfl, fun w _ => by kernel_rfl⟩, by kernel_rfl⟩
theorem y_text_54 (t qm qx i : Nat) : YAt ops_text (TwS t qm qx) (act_text t qm qx i) 54 :=
 ⟨_, pt t 1, rfl, .inl ⟨by kernel_rfl, fun w _ => by kernel_rfl⟩, by kernel_rfl⟩
theorem y_text_55 (t qm qx i : Nat) : YAt ops_text (TwS t qm qx) (act_text t qm qx i) 55 :=
 ⟨_, pt qx 0, rfl, .inl ⟨by kernel_rfl, fun w hS => run_twload w _ _ _ _ (.tmp 60) (by kernel_rfl) (by kernel_rfl) hS.2⟩, by kernel_rfl⟩
theorem y_text_56 (t qm qx i : Nat) : YAt ops_text (TwS t qm qx) (act_text t qm qx i) 56 :=
 ⟨_, pt qx 0, rfl, .inl ⟨by kernel_rfl, fun w _ => by kernel_rfl⟩, by kernel_rfl⟩
theorem y_text_57 (t qm qx i : Nat) : YAt ops_text (TwS t qm qx) (act_text t qm qx i) 57 :=
 ⟨_, pt qx 19, rfl, .inl ⟨by kernel_rfl, fun w _ => by kernel_rfl⟩, by kernel_rfl⟩
theorem y_text_58 (t qm qx i : Nat) : YAt ops_text (TwS t qm qx) (act_text t qm qx i) 58 :=
 ⟨_, pt t 0, rfl, .inl ⟨by kernel_rfl, fun w _ => by kernel_rfl⟩, by kernel_rfl⟩
theorem y_text_59 (t qm qx i : Nat) : YAt ops_text (TwS t qm qx) (act_text t qm qx i) 59 :=
 ⟨_, pt t 0, rfl, .inl ⟨by kernel_rfl, fun w _ => by kernel_rfl⟩, by kernel_rfl⟩
theorem y_text_60 (t qm qx i : Nat) : YAt ops_text (TwS t qm qx) (act_text t qm qx i) 60 :=
 ⟨_, pt t 0, rfl, .inl ⟨by kernel_rfl, fun w _ => by kernel_rfl⟩, by kernel_rfl⟩
theorem y_text_61 (t qm qx i : Nat) : YAt ops_text (TwS t qm qx) (act_text t qm qx i) 61 :=
 ⟨_, pt qm 0, rfl, .inl ⟨by kernel_rfl, fun w hS => run_twload w _ _ _ _ (.tmp 66) (by kernel_rfl) (by kernel_rfl) hS.1⟩, by kernel_rfl⟩
theorem y_text_62 (t qm qx i : Nat) : YAt ops_text (TwS t qm qx) (act_text t qm qx i) 62 :=
 ⟨_, pt qm 0, rfl, .inl ⟨by kernel_rfl, fun w _ => by kernel_rfl⟩, by kernel_rfl⟩
theorem y_text_63 (t qm qx i : Nat) : YAt ops_text (TwS t qm qx) (act_text t qm qx i) 63 :=
 ⟨_, pt qm 19, rfl, .inl ⟨by kernel_rfl, fun w _ => by kernel_rfl⟩, by kernel_rfl⟩
theorem y_text_64 (t qm qx i : Nat) : YAt ops_text (TwS t qm qx) (act_text t qm qx i) 64 :=
 ⟨_, .agg #[pt qx 19, pt qm 19], rfl, .inl ⟨by kernel_rfl, fun w _ => by kernel_rfl⟩, by kernel_rfl⟩

end
end Go.Proofs.YtlmojhlacfjmaaaGreat

namespace Go.Proofs.YtlmojhlacfjmaaaGreat
section
open Go.RowKit
set_option maxRecDepth 100000
set_option linter.unusedVariables false

def cells_u32 (qm qx : Nat) : Array Value := #[pt qx 2, pt qm 2, pt qx 4, pt qm 4, pt qx 5, pt qm 5, pt qx 6, pt qm 6, pt qx 16, pt qm 16, pt qx 18, pt qm 18, pt qx 21, pt qm 21]
theorem size_u32 : ops_u32.size = 94 := by kernel_rfl
theorem takes_u32 (t qm qx i : Nat) : ∀ j, 0 ≤ j → j < 0 + 91 → ∃ oi v, ops_u32[j]? = some oi ∧ YieldsIf Tryz.prog ops_u32 (TwS t qm qx) oi v (act_u32 t qm qx i j) ∧ (act_u32 t qm qx i j).put oi.dst v = act_u32 t qm qx i (j + 1)
 | 0, _, _ => y_u32_0 t qm qx i
 | 1, _, _ => y_u32_1 t qm qx i
 | 2, _, _ => y_u32_2 t qm qx i
 | 3, _, _ => y_u32_3 t qm qx i
 | 4, _, _ => y_u32_4 t qm qx i
 | 5, _, _ => y_u32_5 t qm qx i
 | 6, _, _ => y_u32_6 t qm qx i
 | 7, _, _ => y_u32_7 t qm qx i
 | 8, _, _ => y_u32_8 t qm qx i
 | 9, _, _ => y_u32_9 t qm qx i
 | 10, _, _ => y_u32_10 t qm qx i
 | 11, _, _ => y_u32_11 t qm qx i
 | 12, _, _ => y_u32_12 t qm qx i
 | 13, _, _ => y_u32_13 t qm qx i
 | 14, _, _ => y_u32_14 t qm qx i
 | 15, _, _ => y_u32_15 t qm qx i
 | 16, _, _ => y_u32_16 t qm qx i
 | 17, _, _ => y_u32_17 t qm qx i
 | 18, _, _ => y_u32_18 t qm qx i
 | 19, _, _ => y_u32_19 t qm qx i
 | 20, _, _ => y_u32_20 t qm qx i
 | 21, _, _ => y_u32_21 t qm qx i
 | 22, _, _ => y_u32_22 t qm qx i
 | 23, _, _ => y_u32_23 t qm qx i
 | 24, _, _ => y_u32_24 t qm qx i
 | 25, _, _ => y_u32_25 t qm qx i
 | 26, _, _ => y_u32_26 t qm qx i
 | 27, _, _ => y_u32_27 t qm qx i
 | 28, _, _ => y_u32_28 t qm qx i
 | 29, _, _ => y_u32_29 t qm qx i
 | 30, _, _ => y_u32_30 t qm qx i
 | 31, _, _ => y_u32_31 t qm qx i
 | 32, _, _ => y_u32_32 t qm qx i
 | 33, _, _ => y_u32_33 t qm qx i
 | 34, _, _ => y_u32_34 t qm qx i
 | 35, _, _ => y_u32_35 t qm qx i
 | 36, _, _ => y_u32_36 t qm qx i
 | 37, _, _ => y_u32_37 t qm qx i
 | 38, _, _ => y_u32_38 t qm qx i
 | 39, _, _ => y_u32_39 t qm qx i
 | 40, _, _ => y_u32_40 t qm qx i
 | 41, _, _ => y_u32_41 t qm qx i
 | 42, _, _ => y_u32_42 t qm qx i
 | 43, _, _ => y_u32_43 t qm qx i
 | 44, _, _ => y_u32_44 t qm qx i
 | 45, _, _ => y_u32_45 t qm qx i
 | 46, _, _ => y_u32_46 t qm qx i
 | 47, _, _ => y_u32_47 t qm qx i
 | 48, _, _ => y_u32_48 t qm qx i
 | 49, _, _ => y_u32_49 t qm qx i
 | 50, _, _ => y_u32_50 t qm qx i
 | 51, _, _ => y_u32_51 t qm qx i
 | 52, _, _ => y_u32_52 t qm qx i
 | 53, _, _ => y_u32_53 t qm qx i
 | 54, _, _ => y_u32_54 t qm qx i
 | 55, _, _ => y_u32_55 t qm qx i
 | 56, _, _ => y_u32_56 t qm qx i
 | 57, _, _ => y_u32_57 t qm qx i
 | 58, _, _ => y_u32_58 t qm qx i
 | 59, _, _ => y_u32_59 t qm qx i
 | 60, _, _ => y_u32_60 t qm qx i
 | 61, _, _ => y_u32_61 t qm qx i
 | 62, _, _ => y_u32_62 t qm qx i
 | 63, _, _ => y_u32_63 t qm qx i
 | 64, _, _ => y_u32_64 t qm qx i
 | 65, _, _ => y_u32_65 t qm qx i
 | 66, _, _ => y_u32_66 t qm qx i
 | 67, _, _ => y_u32_67 t qm qx i
 | 68, _, _ => y_u32_68 t qm qx i
 | 69, _, _ => y_u32_69 t qm qx i
 | 70, _, _ => y_u32_70 t qm qx i
 | 71, _, _ => y_u32_71 t qm qx i
 | 72, _, _ => y_u32_72 t qm qx i
 | 73, _, _ => y_u32_73 t qm qx i
 | 74, _, _ => y_u32_74 t qm qx i
 | 75, _, _ => y_u32_75 t qm qx i
 | 76, _, _ => y_u32_76 t qm qx i
 | 77, _, _ => y_u32_77 t qm qx i
 | 78, _, _ => y_u32_78 t qm qx i
 | 79, _, _ => y_u32_79 t qm qx i
 | 80, _, _ => y_u32_80 t qm qx i
 | 81, _, _ => y_u32_81 t qm qx i
 | 82, _, _ => y_u32_82 t qm qx i
 | 83, _, _ => y_u32_83 t qm qx i
 | 84, _, _ => y_u32_84 t qm qx i
 | 85, _, _ => y_u32_85 t qm qx i
 | 86, _, _ => y_u32_86 t qm qx i
 | 87, _, _ => y_u32_87 t qm qx i
 | 88, _, _ => y_u32_88 t qm qx i
 | 89, _, _ => y_u32_89 t qm qx i
 | 90, _, _ => y_u32_90 t qm qx i
 | k + 91, _, h => absurd h (by omega)
theorem orders_u32 : ∀ j, 0 ≤ j → j < 0 + 91 → Region.free .any ops_u32 (firstB 94 j) j = true ∧ (Region.ready .any ops_u32 (firstB 94 j)).contains j = true ∧ (firstB 94 j).setIfInBounds j true = firstB 94 (j + 1) := by
 intro j h1 h2
 have h : (Region.free .any ops_u32 (firstB 94 j) j && (Region.ready .any ops_u32 (firstB 94 j)).contains j && ((firstB 94 j).setIfInBounds j true == firstB 94 (j + 1))) = true := by
  match j, h2 with
  | 0, _ => exact order_u32_0
  | 1, _ => exact order_u32_1
  | 2, _ => exact order_u32_2
  | 3, _ => exact order_u32_3
  | 4, _ => exact order_u32_4
  | 5, _ => exact order_u32_5
  | 6, _ => exact order_u32_6
  | 7, _ => exact order_u32_7
  | 8, _ => exact order_u32_8
  | 9, _ => exact order_u32_9
  | 10, _ => exact order_u32_10
  | 11, _ => exact order_u32_11
  | 12, _ => exact order_u32_12
  | 13, _ => exact order_u32_13
  | 14, _ => exact order_u32_14
  | 15, _ => exact order_u32_15
  | 16, _ => exact order_u32_16
  | 17, _ => exact order_u32_17
  | 18, _ => exact order_u32_18
  | 19, _ => exact order_u32_19
  | 20, _ => exact order_u32_20
  | 21, _ => exact order_u32_21
  | 22, _ => exact order_u32_22
  | 23, _ => exact order_u32_23
  | 24, _ => exact order_u32_24
  | 25, _ => exact order_u32_25
  | 26, _ => exact order_u32_26
  | 27, _ => exact order_u32_27
  | 28, _ => exact order_u32_28
  | 29, _ => exact order_u32_29
  | 30, _ => exact order_u32_30
  | 31, _ => exact order_u32_31
  | 32, _ => exact order_u32_32
  | 33, _ => exact order_u32_33
  | 34, _ => exact order_u32_34
  | 35, _ => exact order_u32_35
  | 36, _ => exact order_u32_36
  | 37, _ => exact order_u32_37
  | 38, _ => exact order_u32_38
  | 39, _ => exact order_u32_39
  | 40, _ => exact order_u32_40
  | 41, _ => exact order_u32_41
  | 42, _ => exact order_u32_42
  | 43, _ => exact order_u32_43
  | 44, _ => exact order_u32_44
  | 45, _ => exact order_u32_45
  | 46, _ => exact order_u32_46
  | 47, _ => exact order_u32_47
  | 48, _ => exact order_u32_48
  | 49, _ => exact order_u32_49
  | 50, _ => exact order_u32_50
  | 51, _ => exact order_u32_51
  | 52, _ => exact order_u32_52
  | 53, _ => exact order_u32_53
  | 54, _ => exact order_u32_54
  | 55, _ => exact order_u32_55
  | 56, _ => exact order_u32_56
  | 57, _ => exact order_u32_57
  | 58, _ => exact order_u32_58
  | 59, _ => exact order_u32_59
  | 60, _ => exact order_u32_60
  | 61, _ => exact order_u32_61
  | 62, _ => exact order_u32_62
  | 63, _ => exact order_u32_63
  | 64, _ => exact order_u32_64
  | 65, _ => exact order_u32_65
  | 66, _ => exact order_u32_66
  | 67, _ => exact order_u32_67
  | 68, _ => exact order_u32_68
  | 69, _ => exact order_u32_69
  | 70, _ => exact order_u32_70
  | 71, _ => exact order_u32_71
  | 72, _ => exact order_u32_72
  | 73, _ => exact order_u32_73
  | 74, _ => exact order_u32_74
  | 75, _ => exact order_u32_75
  | 76, _ => exact order_u32_76
  | 77, _ => exact order_u32_77
  | 78, _ => exact order_u32_78
  | 79, _ => exact order_u32_79
  | 80, _ => exact order_u32_80
  | 81, _ => exact order_u32_81
  | 82, _ => exact order_u32_82
  | 83, _ => exact order_u32_83
  | 84, _ => exact order_u32_84
  | 85, _ => exact order_u32_85
  | 86, _ => exact order_u32_86
  | 87, _ => exact order_u32_87
  | 88, _ => exact order_u32_88
  | 89, _ => exact order_u32_89
  | 90, _ => exact order_u32_90
  | k + 91, h => exact absurd h (by omega)
 simp only [Bool.and_eq_true, beq_iff_eq] at h
 exact ⟨h.1.1, h.1.2, h.2⟩
set_option maxHeartbeats 1600000 in
theorem region_u32 (t qm qx i : Nat) (Q : Exit → Act → World → Prop) (hQ : ∀ c (a : Act) d v w, Q (.panic c) (a.put d v) w → Q (.panic c) a w) (w : World) (hS : TwS t qm qx w)
  (h : Q .normal { tmps := (.pointer (some ⟨t, 0, none⟩) :: .pointer (some ⟨qx, i, none⟩) :: undef :: undef :: undef :: undef :: .pointer (some ⟨t, 0, none⟩) :: .pointer (some ⟨t, 0, none⟩) :: .pointer (some ⟨t, 1, none⟩) :: .pointer (some ⟨qx, 0, none⟩) :: .pointer (some ⟨qx, 0, none⟩) :: .pointer (some ⟨qx, 2, none⟩) :: .pointer (some ⟨t, 0, none⟩) :: .pointer (some ⟨t, 0, none⟩) :: .pointer (some ⟨t, 0, none⟩) :: .pointer (some ⟨qm, 0, none⟩) :: .pointer (some ⟨qm, 0, none⟩) :: .pointer (some ⟨qm, 2, none⟩) :: .agg #[.pointer (some ⟨qx, 2, none⟩), .pointer (some ⟨qm, 2, none⟩)] :: .pointer (some ⟨t, 0, none⟩) :: .pointer (some ⟨t, 0, none⟩) :: .pointer (some ⟨t, 1, none⟩) :: .pointer (some ⟨qx, 0, none⟩) :: .pointer (some ⟨qx, 0, none⟩) :: .pointer (some ⟨qx, 4, none⟩) :: .pointer (some ⟨t, 0, none⟩) :: .pointer (some ⟨t, 0, none⟩) :: .pointer (some ⟨t, 0, none⟩) :: .pointer (some ⟨qm, 0, none⟩) :: .pointer (some ⟨qm, 0, none⟩) :: .pointer (some ⟨qm, 4, none⟩) :: .agg #[.pointer (some ⟨qx, 4, none⟩), .pointer (some ⟨qm, 4, none⟩)] :: .pointer (some ⟨t, 0, none⟩) :: .pointer (some ⟨t, 0, none⟩) :: .pointer (some ⟨t, 1, none⟩) :: .pointer (some ⟨qx, 0, none⟩) :: .pointer (some ⟨qx, 0, none⟩) :: .pointer (some ⟨qx, 5, none⟩) :: .pointer (some ⟨t, 0, none⟩) :: .pointer (some ⟨t, 0, none⟩) :: .pointer (some ⟨t, 0, none⟩) :: .pointer (some ⟨qm, 0, none⟩) :: .pointer (some ⟨qm, 0, none⟩) :: .pointer (some ⟨qm, 5, none⟩) :: .agg #[.pointer (some ⟨qx, 5, none⟩), .pointer (some ⟨qm, 5, none⟩)] :: .pointer (some ⟨t, 0, none⟩) :: .pointer (some ⟨t, 0, none⟩) :: .pointer (some ⟨t, 1, none⟩) :: .pointer (some ⟨qx, 0, none⟩) :: .pointer (some ⟨qx, 0, none⟩) :: .pointer (some ⟨qx, 6, none⟩) :: .pointer (some ⟨t, 0, none⟩) :: .pointer (some ⟨t, 0, none⟩) :: .pointer (some ⟨t, 0, none⟩) :: .pointer (some ⟨qm, 0, none⟩) :: .pointer (some ⟨qm, 0, none⟩) :: .pointer (some ⟨qm, 6, none⟩) :: .agg #[.pointer (some ⟨qx, 6, none⟩), .pointer (some ⟨qm, 6, none⟩)] :: .pointer (some ⟨t, 0, none⟩) :: .pointer (some ⟨t, 0, none⟩) :: .pointer (some ⟨t, 1, none⟩) :: .pointer (some ⟨qx, 0, none⟩) :: .pointer (some ⟨qx, 0, none⟩) :: .pointer (some ⟨qx, 16, none⟩) :: .pointer (some ⟨t, 0, none⟩) :: .pointer (some ⟨t, 0, none⟩) :: .pointer (some ⟨t, 0, none⟩) :: .pointer (some ⟨qm, 0, none⟩) :: .pointer (some ⟨qm, 0, none⟩) :: .pointer (some ⟨qm, 16, none⟩) :: .agg #[.pointer (some ⟨qx, 16, none⟩), .pointer (some ⟨qm, 16, none⟩)] :: .pointer (some ⟨t, 0, none⟩) :: .pointer (some ⟨t, 0, none⟩) :: .pointer (some ⟨t, 1, none⟩) :: .pointer (some ⟨qx, 0, none⟩) :: .pointer (some ⟨qx, 0, none⟩) :: .pointer (some ⟨qx, 18, none⟩) :: .pointer (some ⟨t, 0, none⟩) :: .pointer (some ⟨t, 0, none⟩) :: .pointer (some ⟨t, 0, none⟩) :: .pointer (some ⟨qm, 0, none⟩) :: .pointer (some ⟨qm, 0, none⟩) :: .pointer (some ⟨qm, 18, none⟩) :: .agg #[.pointer (some ⟨qx, 18, none⟩), .pointer (some ⟨qm, 18, none⟩)] :: .pointer (some ⟨t, 0, none⟩) :: .pointer (some ⟨t, 0, none⟩) :: .pointer (some ⟨t, 1, none⟩) :: .pointer (some ⟨qx, 0, none⟩) :: .pointer (some ⟨qx, 0, none⟩) :: .pointer (some ⟨qx, 21, none⟩) :: .pointer (some ⟨t, 0, none⟩) :: .pointer (some ⟨t, 0, none⟩) :: .pointer (some ⟨t, 0, none⟩) :: .pointer (some ⟨qm, 0, none⟩) :: .pointer (some ⟨qm, 0, none⟩) :: .pointer (some ⟨qm, 21, none⟩) :: .agg #[.pointer (some ⟨qx, 21, none⟩), .pointer (some ⟨qm, 21, none⟩)] :: .slice (some ⟨w.heap.size, 0, none⟩) 7 7 :: .int .i64 7 :: .int .i64 0 :: undef :: undef :: undef :: undef :: undef :: undef :: undef :: undef :: undef :: undef :: undef :: undef :: undef :: undef :: []).toArray, defers := [] } (w.drew.alloc (.cells (cells_u32 qm qx) 173))) : (Code.region 0 ops_u32 true).wp Tryz.prog Q (act_u32 t qm qx i 0) w := by
 refine wp_region_held_drew (S := TwS t qm qx) (by kernel_rfl) hS (fun hS => ?_)
 refine (show wpAnyH Tryz.prog .any ops_u32 Q (TwS t qm qx) (91 + 3) (firstB 94 0) (act_u32 t qm qx i 0) w.drew → _ from fun h => h) ?_
 refine wpAnyH_takes (by kernel_rfl) (firstB 94) (act_u32 t qm qx i) hQ hS 3 91 0 orders_u32 (takes_u32 t qm qx i) ?_
 rw [Nat.zero_add]
 refine wpAnyH_take (i := 93) (v := .int .i64 0) rfl (by kernel_rfl) (by kernel_rfl) (by kernel_rfl) (fun c a w => hQ c a _ _ w) (Or.inl ⟨by kernel_rfl, fun w _ => by kernel_rfl⟩) hS ?_
 refine wpAnyH_ready (rs := [91]) (by kernel_rfl) (by simp) ?_
 refine AllReadyH.cons rfl (fun K hK => ?_) AllReadyH.nil
 rw [if_pos (by kernel_rfl)]
 have hrun : (execOp ((act_u32 t qm qx i 91).put (some 99) (.int .i64 0)).eval (ops_u32[91]'(by rw [size_u32]; decide))).run Tryz.prog w.drew = .ok (.value (.slice (some ⟨w.heap.size, 0, none⟩) 7 7)) (w.drew.alloc (.cells (cells_u32 qm qx) 173)) := by kernel_rfl
 have hS2 : TwS t qm qx (w.drew.alloc (.cells (cells_u32 qm qx) 173)) := by
  obtain ⟨h1, h2⟩ := hS
  exact ⟨by rw [World.cell?_alloc_some _ _ _ (by rw [h1]; rfl)]; exact h1, by rw [World.cell?_alloc_some _ _ _ (by rw [h2]; rfl)]; exact h2⟩
 refine (show Oper.wp Tryz.prog (ops_u32[91]'(by rw [size_u32]; decide)) ((act_u32 t qm qx i 91).put (some 99) (.int .i64 0)) w.drew K Q → _ from fun h => h) ?_
 unfold Oper.wp
 rw [hrun]
 refine hK.out _ _ hS2 (fun hS3 => ?_)
 refine wpAnyH_take (i := 92) (v := .int .i64 7) rfl (by kernel_rfl) (by kernel_rfl) (by kernel_rfl) (fun c a w => hQ c a _ _ w) (Or.inl ⟨by kernel_rfl, fun w _ => by kernel_rfl⟩) hS3 ?_
 refine wpAnyH_done (by kernel_rfl) ?_ _
 exact h

def cells_text (qm qx : Nat) : Array Value := #[pt qx 3, pt qm 3, pt qx 7, pt qm 7, pt qx 8, pt qm 8, pt qx 9, pt qm 9, pt qx 19, pt qm 19]
theorem size_text : ops_text.size = 68 := by kernel_rfl
theorem takes_text (t qm qx i : Nat) : ∀ j, 0 ≤ j → j < 0 + 65 → ∃ oi v, ops_text[j]? = some oi ∧ YieldsIf Tryz.prog ops_text (TwS t qm qx) oi v (act_text t qm qx i j) ∧ (act_text t qm qx i j).put oi.dst v = act_text t qm qx i (j + 1)
 | 0, _, _ => y_text_0 t qm qx i
 | 1, _, _ => y_text_1 t qm qx i
 | 2, _, _ => y_text_2 t qm qx i
 | 3, _, _ => y_text_3 t qm qx i
 | 4, _, _ => y_text_4 t qm qx i
 | 5, _, _ => y_text_5 t qm qx i
 | 6, _, _ => y_text_6 t qm qx i
 | 7, _, _ => y_text_7 t qm qx i
 | 8, _, _ => y_text_8 t qm qx i
 | 9, _, _ => y_text_9 t qm qx i
 | 10, _, _ => y_text_10 t qm qx i
 | 11, _, _ => y_text_11 t qm qx i
 | 12, _, _ => y_text_12 t qm qx i
 | 13, _, _ => y_text_13 t qm qx i
 | 14, _, _ => y_text_14 t qm qx i
 | 15, _, _ => y_text_15 t qm qx i
 | 16, _, _ => y_text_16 t qm qx i
 | 17, _, _ => y_text_17 t qm qx i
 | 18, _, _ => y_text_18 t qm qx i
 | 19, _, _ => y_text_19 t qm qx i
 | 20, _, _ => y_text_20 t qm qx i
 | 21, _, _ => y_text_21 t qm qx i
 | 22, _, _ => y_text_22 t qm qx i
 | 23, _, _ => y_text_23 t qm qx i
 | 24, _, _ => y_text_24 t qm qx i
 | 25, _, _ => y_text_25 t qm qx i
 | 26, _, _ => y_text_26 t qm qx i
 | 27, _, _ => y_text_27 t qm qx i
 | 28, _, _ => y_text_28 t qm qx i
 | 29, _, _ => y_text_29 t qm qx i
 | 30, _, _ => y_text_30 t qm qx i
 | 31, _, _ => y_text_31 t qm qx i
 | 32, _, _ => y_text_32 t qm qx i
 | 33, _, _ => y_text_33 t qm qx i
 | 34, _, _ => y_text_34 t qm qx i
 | 35, _, _ => y_text_35 t qm qx i
 | 36, _, _ => y_text_36 t qm qx i
 | 37, _, _ => y_text_37 t qm qx i
 | 38, _, _ => y_text_38 t qm qx i
 | 39, _, _ => y_text_39 t qm qx i
 | 40, _, _ => y_text_40 t qm qx i
 | 41, _, _ => y_text_41 t qm qx i
 | 42, _, _ => y_text_42 t qm qx i
 | 43, _, _ => y_text_43 t qm qx i
 | 44, _, _ => y_text_44 t qm qx i
 | 45, _, _ => y_text_45 t qm qx i
 | 46, _, _ => y_text_46 t qm qx i
 | 47, _, _ => y_text_47 t qm qx i
 | 48, _, _ => y_text_48 t qm qx i
 | 49, _, _ => y_text_49 t qm qx i
 | 50, _, _ => y_text_50 t qm qx i
 | 51, _, _ => y_text_51 t qm qx i
 | 52, _, _ => y_text_52 t qm qx i
 | 53, _, _ => y_text_53 t qm qx i
 | 54, _, _ => y_text_54 t qm qx i
 | 55, _, _ => y_text_55 t qm qx i
 | 56, _, _ => y_text_56 t qm qx i
 | 57, _, _ => y_text_57 t qm qx i
 | 58, _, _ => y_text_58 t qm qx i
 | 59, _, _ => y_text_59 t qm qx i
 | 60, _, _ => y_text_60 t qm qx i
 | 61, _, _ => y_text_61 t qm qx i
 | 62, _, _ => y_text_62 t qm qx i
 | 63, _, _ => y_text_63 t qm qx i
 | 64, _, _ => y_text_64 t qm qx i
 | k + 65, _, h => absurd h (by omega)
theorem orders_text : ∀ j, 0 ≤ j → j < 0 + 65 → Region.free .any ops_text (firstB 68 j) j = true ∧ (Region.ready .any ops_text (firstB 68 j)).contains j = true ∧ (firstB 68 j).setIfInBounds j true = firstB 68 (j + 1) := by
 intro j h1 h2
 have h : (Region.free .any ops_text (firstB 68 j) j && (Region.ready .any ops_text (firstB 68 j)).contains j && ((firstB 68 j).setIfInBounds j true == firstB 68 (j + 1))) = true := by
  match j, h2 with
  | 0, _ => exact order_text_0
  | 1, _ => exact order_text_1
  | 2, _ => exact order_text_2
  | 3, _ => exact order_text_3
  | 4, _ => exact order_text_4
  | 5, _ => exact order_text_5
  | 6, _ => exact order_text_6
  | 7, _ => exact order_text_7
  | 8, _ => exact order_text_8
  | 9, _ => exact order_text_9
  | 10, _ => exact order_text_10
  | 11, _ => exact order_text_11
  | 12, _ => exact order_text_12
  | 13, _ => exact order_text_13
  | 14, _ => exact order_text_14
  | 15, _ => exact order_text_15
  | 16, _ => exact order_text_16
  | 17, _ => exact order_text_17
  | 18, _ => exact order_text_18
  | 19, _ => exact order_text_19
  | 20, _ => exact order_text_20
  | 21, _ => exact order_text_21
  | 22, _ => exact order_text_22
  | 23, _ => exact order_text_23
  | 24, _ => exact order_text_24
  | 25, _ => exact order_text_25
  | 26, _ => exact order_text_26
  | 27, _ => exact order_text_27
  | 28, _ => exact order_text_28
  | 29, _ => exact order_text_29
  | 30, _ => exact order_text_30
  | 31, _ => exact order_text_31
  | 32, _ => exact order_text_32
  | 33, _ => exact order_text_33
  | 34, _ => exact order_text_34
  | 35, _ => exact order_text_35
  | 36, _ => exact order_text_36
  | 37, _ => exact order_text_37
  | 38, _ => exact order_text_38
  | 39, _ => exact order_text_39
  | 40, _ => exact order_text_40
  | 41, _ => exact order_text_41
  | 42, _ => exact order_text_42
  | 43, _ => exact order_text_43
  | 44, _ => exact order_text_44
  | 45, _ => exact order_text_45
  | 46, _ => exact order_text_46
  | 47, _ => exact order_text_47
  | 48, _ => exact order_text_48
  | 49, _ => exact order_text_49
  | 50, _ => exact order_text_50
  | 51, _ => exact order_text_51
  | 52, _ => exact order_text_52
  | 53, _ => exact order_text_53
  | 54, _ => exact order_text_54
  | 55, _ => exact order_text_55
  | 56, _ => exact order_text_56
  | 57, _ => exact order_text_57
  | 58, _ => exact order_text_58
  | 59, _ => exact order_text_59
  | 60, _ => exact order_text_60
  | 61, _ => exact order_text_61
  | 62, _ => exact order_text_62
  | 63, _ => exact order_text_63
  | 64, _ => exact order_text_64
  | k + 65, h => exact absurd h (by omega)
 simp only [Bool.and_eq_true, beq_iff_eq] at h
 exact ⟨h.1.1, h.1.2, h.2⟩
set_option maxHeartbeats 1600000 in
theorem region_text (t qm qx i : Nat) (Q : Exit → Act → World → Prop) (hQ : ∀ c (a : Act) d v w, Q (.panic c) (a.put d v) w → Q (.panic c) a w) (w : World) (hS : TwS t qm qx w)
  (h : Q .normal { tmps := (.pointer (some ⟨t, 0, none⟩) :: .pointer (some ⟨qx, i, none⟩) :: undef :: undef :: undef :: undef :: .pointer (some ⟨t, 0, none⟩) :: .pointer (some ⟨t, 0, none⟩) :: .pointer (some ⟨t, 1, none⟩) :: .pointer (some ⟨qx, 0, none⟩) :: .pointer (some ⟨qx, 0, none⟩) :: .pointer (some ⟨qx, 3, none⟩) :: .pointer (some ⟨t, 0, none⟩) :: .pointer (some ⟨t, 0, none⟩) :: .pointer (some ⟨t, 0, none⟩) :: .pointer (some ⟨qm, 0, none⟩) :: .pointer (some ⟨qm, 0, none⟩) :: .pointer (some ⟨qm, 3, none⟩) :: .agg #[.pointer (some ⟨qx, 3, none⟩), .pointer (some ⟨qm, 3, none⟩)] :: .pointer (some ⟨t, 0, none⟩) :: .pointer (some ⟨t, 0, none⟩) :: .pointer (some ⟨t, 1, none⟩) :: .pointer (some ⟨qx, 0, none⟩) :: .pointer (some ⟨qx, 0, none⟩) :: .pointer (some ⟨qx, 7, none⟩) :: .pointer (some ⟨t, 0, none⟩) :: .pointer (some ⟨t, 0, none⟩) :: .pointer (some ⟨t, 0, none⟩) :: .pointer (some ⟨qm, 0, none⟩) :: .pointer (some ⟨qm, 0, none⟩) :: .pointer (some ⟨qm, 7, none⟩) :: .agg #[.pointer (some ⟨qx, 7, none⟩), .pointer (some ⟨qm, 7, none⟩)] :: .pointer (some ⟨t, 0, none⟩) :: .pointer (some ⟨t, 0, none⟩) :: .pointer (some ⟨t, 1, none⟩) :: .pointer (some ⟨qx, 0, none⟩) :: .pointer (some ⟨qx, 0, none⟩) :: .pointer (some ⟨qx, 8, none⟩) :: .pointer (some ⟨t, 0, none⟩) :: .pointer (some ⟨t, 0, none⟩) :: .pointer (some ⟨t, 0, none⟩) :: .pointer (some ⟨qm, 0, none⟩) :: .pointer (some ⟨qm, 0, none⟩) :: .pointer (some ⟨qm, 8, none⟩) :: .agg #[.pointer (some ⟨qx, 8, none⟩), .pointer (some ⟨qm, 8, none⟩)] :: .pointer (some ⟨t, 0, none⟩) :: .pointer (some ⟨t, 0, none⟩) :: .pointer (some ⟨t, 1, none⟩) :: .pointer (some ⟨qx, 0, none⟩) :: .pointer (some ⟨qx, 0, none⟩) :: .pointer (some ⟨qx, 9, none⟩) :: .pointer (some ⟨t, 0, none⟩) :: .pointer (some ⟨t, 0, none⟩) :: .pointer (some ⟨t, 0, none⟩) :: .pointer (some ⟨qm, 0, none⟩) :: .pointer (some ⟨qm, 0, none⟩) :: .pointer (some ⟨qm, 9, none⟩) :: .agg #[.pointer (some ⟨qx, 9, none⟩), .pointer (some ⟨qm, 9, none⟩)] :: .pointer (some ⟨t, 0, none⟩) :: .pointer (some ⟨t, 0, none⟩) :: .pointer (some ⟨t, 1, none⟩) :: .pointer (some ⟨qx, 0, none⟩) :: .pointer (some ⟨qx, 0, none⟩) :: .pointer (some ⟨qx, 19, none⟩) :: .pointer (some ⟨t, 0, none⟩) :: .pointer (some ⟨t, 0, none⟩) :: .pointer (some ⟨t, 0, none⟩) :: .pointer (some ⟨qm, 0, none⟩) :: .pointer (some ⟨qm, 0, none⟩) :: .pointer (some ⟨qm, 19, none⟩) :: .agg #[.pointer (some ⟨qx, 19, none⟩), .pointer (some ⟨qm, 19, none⟩)] :: .slice (some ⟨w.heap.size, 0, none⟩) 5 5 :: .int .i64 5 :: .int .i64 0 :: undef :: undef :: undef :: undef :: undef :: undef :: undef :: undef :: undef :: undef :: undef :: undef :: undef :: undef :: []).toArray, defers := [] } (w.drew.alloc (.cells (cells_text qm qx) 171))) : (Code.region 0 ops_text true).wp Tryz.prog Q (act_text t qm qx i 0) w := by
 refine wp_region_held_drew (S := TwS t qm qx) (by kernel_rfl) hS (fun hS => ?_)
 refine (show wpAnyH Tryz.prog .any ops_text Q (TwS t qm qx) (65 + 3) (firstB 68 0) (act_text t qm qx i 0) w.drew → _ from fun h => h) ?_
 refine wpAnyH_takes (by kernel_rfl) (firstB 68) (act_text t qm qx i) hQ hS 3 65 0 orders_text (takes_text t qm qx i) ?_
 rw [Nat.zero_add]
 refine wpAnyH_take (i := 67) (v := .int .i64 0) rfl (by kernel_rfl) (by kernel_rfl) (by kernel_rfl) (fun c a w => hQ c a _ _ w) (Or.inl ⟨by kernel_rfl, fun w _ => by kernel_rfl⟩) hS ?_
 refine wpAnyH_ready (rs := [65]) (by kernel_rfl) (by simp) ?_
 refine AllReadyH.cons rfl (fun K hK => ?_) AllReadyH.nil
 rw [if_pos (by kernel_rfl)]
 have hrun : (execOp ((act_text t qm qx i 65).put (some 73) (.int .i64 0)).eval (ops_text[65]'(by rw [size_text]; decide))).run Tryz.prog w.drew = .ok (.value (.slice (some ⟨w.heap.size, 0, none⟩) 5 5)) (w.drew.alloc (.cells (cells_text qm qx) 171)) := by kernel_rfl
 have hS2 : TwS t qm qx (w.drew.alloc (.cells (cells_text qm qx) 171)) := by
  obtain ⟨h1, h2⟩ := hS
  exact ⟨by rw [World.cell?_alloc_some _ _ _ (by rw [h1]; rfl)]; exact h1, by rw [World.cell?_alloc_some _ _ _ (by rw [h2]; rfl)]; exact h2⟩
 refine (show Oper.wp Tryz.prog (ops_text[65]'(by rw [size_text]; decide)) ((act_text t qm qx i 65).put (some 73) (.int .i64 0)) w.drew K Q → _ from fun h => h) ?_
 unfold Oper.wp
 rw [hrun]
 refine hK.out _ _ hS2 (fun hS3 => ?_)
 refine wpAnyH_take (i := 66) (v := .int .i64 5) rfl (by kernel_rfl) (by kernel_rfl) (by kernel_rfl) (fun c a w => hQ c a _ _ w) (Or.inl ⟨by kernel_rfl, fun w _ => by kernel_rfl⟩) hS3 ?_
 refine wpAnyH_done (by kernel_rfl) ?_ _
 exact h

end
end Go.Proofs.YtlmojhlacfjmaaaGreat
