/- The great drawn region of u32 and text of msg.twin, as one law. No condition.
What the methods of msg.twin copy. No condition.
What the other methods of msg.twin copy. No condition. -/
import Derived.Test.YtcbglcebdkpcfaaGreatCeA24
import Derived.LaidEqlPtr
import Derived.Test.YtcbglcebdkpcfaaGreatCeA11
namespace Go.Proofs.YtcbglcebdkpcfaaGreat
section
open Go.RowKit
set_option maxRecDepth 100000
set_option linter.unusedVariables false

def cells_u32 (qm qx : Nat) : Array Value := #[pt qx 2, pt qm 2, pt qx 4, pt qm 4, pt qx 5, pt qm 5, pt qx 6, pt qm 6, pt qx 16, pt qm 16, pt qx 18, pt qm 18, pt qx 21, pt qm 21]
theorem size_u32 : ops_u32.size = 94 := by kernel_rfl
theorem takes_u32 (t qm qx i : Nat) : ∀ j, 0 ≤ j → j < 0 + 91 → ∃ oi v, ops_u32[j]? = some oi ∧ YieldsIf Tryz.prog ops_u32 (TwS t qm qx) oi v (act_u32 t qm qx i j) ∧ (act_u32 t qm qx i j).put oi.dst v = act_u32 t qm qx i (j + 1)
  | 0, _, _ => y_u32_0 t qm qx i
  | 1, _, _ => y_u32_1 t qm qx i
  | 2, _, _ => y_u32_2 t qm qx i
  | 3, _, _ => y_u32_3 t qm qx i
  | 4, _, _ => y_u32_4 t qm qx i
  | 5, _, _ => y_u32_5 t qm qx i
  | 6, _, _ => y_u32_6 t qm qx i
  | 7, _, _ => y_u32_7 t qm qx i
  | 8, _, _ => y_u32_8 t qm qx i
  | 9, _, _ => y_u32_9 t qm qx i
  | 10, _, _ => y_u32_10 t qm qx i
  | 11, _, _ => y_u32_11 t qm qx i
  | 12, _, _ => y_u32_12 t qm qx i
  | 13, _, _ => y_u32_13 t qm qx i
  | 14, _, _ => y_u32_14 t qm qx i
  | 15, _, _ => y_u32_15 t qm qx i
  | 16, _, _ => y_u32_16 t qm qx i
  | 17, _, _ => y_u32_17 t qm qx i
  | 18, _, _ => y_u32_18 t qm qx i
  | 19, _, _ => y_u32_19 t qm qx i
  | 20, _, _ => y_u32_20 t qm qx i
  | 21, _, _ => y_u32_21 t qm qx i
  | 22, _, _ => y_u32_22 t qm qx i
  | 23, _, _ => y_u32_23 t qm qx i
  | 24, _, _ => y_u32_24 t qm qx i
  | 25, _, _ => y_u32_25 t qm qx i
  | 26, _, _ => y_u32_26 t qm qx i
  | 27, _, _ => y_u32_27 t qm qx i
  | 28, _, _ => y_u32_28 t qm qx i
  | 29, _, _ => y_u32_29 t qm qx i
  | 30, _, _ => y_u32_30 t qm qx i
  | 31, _, _ => y_u32_31 t qm qx i
  | 32, _, _ => y_u32_32 t qm qx i
  | 33, _, _ => y_u32_33 t qm qx i
  | 34, _, _ => y_u32_34 t qm qx i
  | 35, _, _ => y_u32_35 t qm qx i
  | 36, _, _ => y_u32_36 t qm qx i
  | 37, _, _ => y_u32_37 t qm qx i
  | 38, _, _ => y_u32_38 t qm qx i
  | 39, _, _ => y_u32_39 t qm qx i
  | 40, _, _ => y_u32_40 t qm qx i
  | 41, _, _ => y_u32_41 t qm qx i
  | 42, _, _ => y_u32_42 t qm qx i
  | 43, _, _ => y_u32_43 t qm qx i
  | 44, _, _ => y_u32_44 t qm qx i
  | 45, _, _ => y_u32_45 t qm qx i
  | 46, _, _ => y_u32_46 t qm qx i
  | 47, _, _ => y_u32_47 t qm qx i
  | 48, _, _ => y_u32_48 t qm qx i
  | 49, _, _ => y_u32_49 t qm qx i
  | 50, _, _ => y_u32_50 t qm qx i
  | 51, _, _ => y_u32_51 t qm qx i
  | 52, _, _ => y_u32_52 t qm qx i
  | 53, _, _ => y_u32_53 t qm qx i
  | 54, _, _ => y_u32_54 t qm qx i
  | 55, _, _ => y_u32_55 t qm qx i
  | 56, _, _ => y_u32_56 t qm qx i
  | 57, _, _ => y_u32_57 t qm qx i
  | 58, _, _ => y_u32_58 t qm qx i
  | 59, _, _ => y_u32_59 t qm qx i
  | 60, _, _ => y_u32_60 t qm qx i
  | 61, _, _ => y_u32_61 t qm qx i
  | 62, _, _ => y_u32_62 t qm qx i
  | 63, _, _ => y_u32_63 t qm qx i
  | 64, _, _ => y_u32_64 t qm qx i
  | 65, _, _ => y_u32_65 t qm qx i
  | 66, _, _ => y_u32_66 t qm qx i
  | 67, _, _ => y_u32_67 t qm qx i
  | 68, _, _ => y_u32_68 t qm qx i
  | 69, _, _ => y_u32_69 t qm qx i
  | 70, _, _ => y_u32_70 t qm qx i
  | 71, _, _ => y_u32_71 t qm qx i
  | 72, _, _ => y_u32_72 t qm qx i
  | 73, _, _ => y_u32_73 t qm qx i
  | 74, _, _ => y_u32_74 t qm qx i
  | 75, _, _ => y_u32_75 t qm qx i
  | 76, _, _ => y_u32_76 t qm qx i
  | 77, _, _ => y_u32_77 t qm qx i
  | 78, _, _ => y_u32_78 t qm qx i
  | 79, _, _ => y_u32_79 t qm qx i
  | 80, _, _ => y_u32_80 t qm qx i
  | 81, _, _ => y_u32_81 t qm qx i
  | 82, _, _ => y_u32_82 t qm qx i
  | 83, _, _ => y_u32_83 t qm qx i
  | 84, _, _ => y_u32_84 t qm qx i
  | 85, _, _ => y_u32_85 t qm qx i
  | 86, _, _ => y_u32_86 t qm qx i
  | 87, _, _ => y_u32_87 t qm qx i
  | 88, _, _ => y_u32_88 t qm qx i
  | 89, _, _ => y_u32_89 t qm qx i
  | 90, _, _ => y_u32_90 t qm qx i
  | k + 91, _, h => absurd h (by omega)
theorem orders_u32 : ∀ j, 0 ≤ j → j < 0 + 91 → Region.free .any ops_u32 (firstB 94 j) j = true ∧ (Region.ready .any ops_u32 (firstB 94 j)).contains j = true ∧ (firstB 94 j).setIfInBounds j true = firstB 94 (j + 1) := by
  intro j h1 h2
  have h : (Region.free .any ops_u32 (firstB 94 j) j && (Region.ready .any ops_u32 (firstB 94 j)).contains j && ((firstB 94 j).setIfInBounds j true == firstB 94 (j + 1))) = true := by
    match j, h2 with
    | 0, _ => exact order_u32_0
    | 1, _ => exact order_u32_1
    | 2, _ => exact order_u32_2
    | 3, _ => exact order_u32_3
    | 4, _ => exact order_u32_4
    | 5, _ => exact order_u32_5
    | 6, _ => exact order_u32_6
    | 7, _ => exact order_u32_7
    | 8, _ => exact order_u32_8
    | 9, _ => exact order_u32_9
    | 10, _ => exact order_u32_10
    | 11, _ => exact order_u32_11
    | 12, _ => exact order_u32_12
    | 13, _ => exact order_u32_13
    | 14, _ => exact order_u32_14
    | 15, _ => exact order_u32_15
    | 16, _ => exact order_u32_16
    | 17, _ => exact order_u32_17
    | 18, _ => exact order_u32_18
    | 19, _ => exact order_u32_19
    | 20, _ => exact order_u32_20
    | 21, _ => exact order_u32_21
    | 22, _ => exact order_u32_22
    | 23, _ => exact order_u32_23
    | 24, _ => exact order_u32_24
    | 25, _ => exact order_u32_25
    | 26, _ => exact order_u32_26
    | 27, _ => exact order_u32_27
    | 28, _ => exact order_u32_28
    | 29, _ => exact order_u32_29
    | 30, _ => exact order_u32_30
    | 31, _ => exact order_u32_31
    | 32, _ => exact order_u32_32
    | 33, _ => exact order_u32_33
    | 34, _ => exact order_u32_34
    | 35, _ => exact order_u32_35
    | 36, _ => exact order_u32_36
    | 37, _ => exact order_u32_37
    | 38, _ => exact order_u32_38
    | 39, _ => exact order_u32_39
    | 40, _ => exact order_u32_40
    | 41, _ => exact order_u32_41
    | 42, _ => exact order_u32_42
    | 43, _ => exact order_u32_43
    | 44, _ => exact order_u32_44
    | 45, _ => exact order_u32_45
    | 46, _ => exact order_u32_46
    | 47, _ => exact order_u32_47
    | 48, _ => exact order_u32_48
    | 49, _ => exact order_u32_49
    | 50, _ => exact order_u32_50
    | 51, _ => exact order_u32_51
    | 52, _ => exact order_u32_52
    | 53, _ => exact order_u32_53
    | 54, _ => exact order_u32_54
    | 55, _ => exact order_u32_55
    | 56, _ => exact order_u32_56
    | 57, _ => exact order_u32_57
    | 58, _ => exact order_u32_58
    | 59, _ => exact order_u32_59
    | 60, _ => exact order_u32_60
    | 61, _ => exact order_u32_61
    | 62, _ => exact order_u32_62
    | 63, _ => exact order_u32_63
    | 64, _ => exact order_u32_64
    | 65, _ => exact order_u32_65
    | 66, _ => exact order_u32_66
    | 67, _ => exact order_u32_67
    | 68, _ => exact order_u32_68
    | 69, _ => exact order_u32_69
    | 70, _ => exact order_u32_70
    | 71, _ => exact order_u32_71
    | 72, _ => exact order_u32_72
    | 73, _ => exact order_u32_73
    | 74, _ => exact order_u32_74
    | 75, _ => exact order_u32_75
    | 76, _ => exact order_u32_76
    | 77, _ => exact order_u32_77
    | 78, _ => exact order_u32_78
    | 79, _ => exact order_u32_79
    | 80, _ => exact order_u32_80
    | 81, _ => exact order_u32_81
    | 82, _ => exact order_u32_82
    | 83, _ => exact order_u32_83
    | 84, _ => exact order_u32_84
    | 85, _ => exact order_u32_85
    | 86, _ => exact order_u32_86
    | 87, _ => exact order_u32_87
    | 88, _ => exact order_u32_88
    | 89, _ => exact order_u32_89
    | 90, _ => exact order_u32_90
    | k + 91, h => exact absurd h (by omega)
  simp only [Bool.and_eq_true, beq_iff_eq] at h
  exact ⟨h.1.1, h.1.2, h.2⟩
set_option maxHeartbeats 1600000 in
theorem region_u32 (t qm qx i : Nat) (Q : Exit → Act → World → Prop) (hQ : ∀ c (a : Act) d v w, Q (.panic c) (a.put d v) w → Q (.panic c) a w) (w : World) (hS : TwS t qm qx w)
    (h : Q .normal { tmps := (.pointer (some ⟨t, 0, none⟩) :: .pointer (some ⟨qx, i, none⟩) :: undef :: undef :: undef :: undef :: .pointer (some ⟨t, 0, none⟩) :: .pointer (some ⟨t, 0, none⟩) :: .pointer (some ⟨t, 1, none⟩) :: .pointer (some ⟨qx, 0, none⟩) :: .pointer (some ⟨qx, 0, none⟩) :: .pointer (some ⟨qx, 2, none⟩) :: .pointer (some ⟨t, 0, none⟩) :: .pointer (some ⟨t, 0, none⟩) :: .pointer (some ⟨t, 0, none⟩) :: .pointer (some ⟨qm, 0, none⟩) :: .pointer (some ⟨qm, 0, none⟩) :: .pointer (some ⟨qm, 2, none⟩) :: .agg #[.pointer (some ⟨qx, 2, none⟩), .pointer (some ⟨qm, 2, none⟩)] :: .pointer (some ⟨t, 0, none⟩) :: .pointer (some ⟨t, 0, none⟩) :: .pointer (some ⟨t, 1, none⟩) :: .pointer (some ⟨qx, 0, none⟩) :: .pointer (some ⟨qx, 0, none⟩) :: .pointer (some ⟨qx, 4, none⟩) :: .pointer (some ⟨t, 0, none⟩) :: .pointer (some ⟨t, 0, none⟩) :: .pointer (some ⟨t, 0, none⟩) :: .pointer (some ⟨qm, 0, none⟩) :: .pointer (some ⟨qm, 0, none⟩) :: .pointer (some ⟨qm, 4, none⟩) :: .agg #[.pointer (some ⟨qx, 4, none⟩), .pointer (some ⟨qm, 4, none⟩)] :: .pointer (some ⟨t, 0, none⟩) :: .pointer (some ⟨t, 0, none⟩) :: .pointer (some ⟨t, 1, none⟩) :: .pointer (some ⟨qx, 0, none⟩) :: .pointer (some ⟨qx, 0, none⟩) :: .pointer (some ⟨qx, 5, none⟩) :: .pointer (some ⟨t, 0, none⟩) :: .pointer (some ⟨t, 0, none⟩) :: .pointer (some ⟨t, 0, none⟩) :: .pointer (some ⟨qm, 0, none⟩) :: .pointer (some ⟨qm, 0, none⟩) :: .pointer (some ⟨qm, 5, none⟩) :: .agg #[.pointer (some ⟨qx, 5, none⟩), .pointer (some ⟨qm, 5, none⟩)] :: .pointer (some ⟨t, 0, none⟩) :: .pointer (some ⟨t, 0, none⟩) :: .pointer (some ⟨t, 1, none⟩) :: .pointer (some ⟨qx, 0, none⟩) :: .pointer (some ⟨qx, 0, none⟩) :: .pointer (some ⟨qx, 6, none⟩) :: .pointer (some ⟨t, 0, none⟩) :: .pointer (some ⟨t, 0, none⟩) :: .pointer (some ⟨t, 0, none⟩) :: .pointer (some ⟨qm, 0, none⟩) :: .pointer (some ⟨qm, 0, none⟩) :: .pointer (some ⟨qm, 6, none⟩) :: .agg #[.pointer (some ⟨qx, 6, none⟩), .pointer (some ⟨qm, 6, none⟩)] :: .pointer (some ⟨t, 0, none⟩) :: .pointer (some ⟨t, 0, none⟩) :: .pointer (some ⟨t, 1, none⟩) :: .pointer (some ⟨qx, 0, none⟩) :: .pointer (some ⟨qx, 0, none⟩) :: .pointer (some ⟨qx, 16, none⟩) :: .pointer (some ⟨t, 0, none⟩) :: .pointer (some ⟨t, 0, none⟩) :: .pointer (some ⟨t, 0, none⟩) :: .pointer (some ⟨qm, 0, none⟩) :: .pointer (some ⟨qm, 0, none⟩) :: .pointer (some ⟨qm, 16, none⟩) :: .agg #[.pointer (some ⟨qx, 16, none⟩), .pointer (some ⟨qm, 16, none⟩)] :: .pointer (some ⟨t, 0, none⟩) :: .pointer (some ⟨t, 0, none⟩) :: .pointer (some ⟨t, 1, none⟩) :: .pointer (some ⟨qx, 0, none⟩) :: .pointer (some ⟨qx, 0, none⟩) :: .pointer (some ⟨qx, 18, none⟩) :: .pointer (some ⟨t, 0, none⟩) :: .pointer (some ⟨t, 0, none⟩) :: .pointer (some ⟨t, 0, none⟩) :: .pointer (some ⟨qm, 0, none⟩) :: .pointer (some ⟨qm, 0, none⟩) :: .pointer (some ⟨qm, 18, none⟩) :: .agg #[.pointer (some ⟨qx, 18, none⟩), .pointer (some ⟨qm, 18, none⟩)] :: .pointer (some ⟨t, 0, none⟩) :: .pointer (some ⟨t, 0, none⟩) :: .pointer (some ⟨t, 1, none⟩) :: .pointer (some ⟨qx, 0, none⟩) :: .pointer (some ⟨qx, 0, none⟩) :: .pointer (some ⟨qx, 21, none⟩) :: .pointer (some ⟨t, 0, none⟩) :: .pointer (some ⟨t, 0, none⟩) :: .pointer (some ⟨t, 0, none⟩) :: .pointer (some ⟨qm, 0, none⟩) :: .pointer (some ⟨qm, 0, none⟩) :: .pointer (some ⟨qm, 21, none⟩) :: .agg #[.pointer (some ⟨qx, 21, none⟩), .pointer (some ⟨qm, 21, none⟩)] :: .slice (some ⟨w.heap.size, 0, none⟩) 7 7 :: .int .i64 7 :: .int .i64 0 :: undef :: undef :: undef :: undef :: undef :: undef :: undef :: undef :: undef :: undef :: undef :: undef :: undef :: undef :: []).toArray, defers := [] } (w.drew.alloc (.cells (cells_u32 qm qx) 195))) : (Code.region 0 ops_u32 true).wp Tryz.prog Q (act_u32 t qm qx i 0) w := by
  refine wp_region_held_drew (S := TwS t qm qx) (by kernel_rfl) hS (fun hS => ?_)
  refine (show wpAnyH Tryz.prog .any ops_u32 Q (TwS t qm qx) (91 + 3) (firstB 94 0) (act_u32 t qm qx i 0) w.drew → _ from fun h => h) ?_
  refine wpAnyH_takes (by kernel_rfl) (firstB 94) (act_u32 t qm qx i) hQ hS 3 91 0 orders_u32 (takes_u32 t qm qx i) ?_
  rw [Nat.zero_add]
  refine wpAnyH_take (i := 93) (v := .int .i64 0) rfl (by kernel_rfl) (by kernel_rfl) (by kernel_rfl) (fun c a w => hQ c a _ _ w) (Or.inl ⟨by kernel_rfl, fun w _ => by kernel_rfl⟩) hS ?_
  refine wpAnyH_ready (rs := [91]) (by kernel_rfl) (by simp) ?_
  refine AllReadyH.cons rfl (fun K hK => ?_) AllReadyH.nil
  rw [if_pos (by kernel_rfl)]
  have hrun : (execOp ((act_u32 t qm qx i 91).put (some 99) (.int .i64 0)).eval (ops_u32[91]'(by rw [size_u32]; decide))).run Tryz.prog w.drew = .ok (.value (.slice (some ⟨w.heap.size, 0, none⟩) 7 7)) (w.drew.alloc (.cells (cells_u32 qm qx) 195)) := by kernel_rfl
  have hS2 : TwS t qm qx (w.drew.alloc (.cells (cells_u32 qm qx) 195)) := by
    obtain ⟨h1, h2⟩ := hS
    exact ⟨by rw [World.cell?_alloc_some _ _ _ (by rw [h1]; rfl)]; exact h1, by rw [World.cell?_alloc_some _ _ _ (by rw [h2]; rfl)]; exact h2⟩
  refine (show Oper.wp Tryz.prog (ops_u32[91]'(by rw [size_u32]; decide)) ((act_u32 t qm qx i 91).put (some 99) (.int .i64 0)) w.drew K Q → _ from fun h => h) ?_
  unfold Oper.wp
  rw [hrun]
  refine hK.out _ _ hS2 (fun hS3 => ?_)
  refine wpAnyH_take (i := 92) (v := .int .i64 7) rfl (by kernel_rfl) (by kernel_rfl) (by kernel_rfl) (fun c a w => hQ c a _ _ w) (Or.inl ⟨by kernel_rfl, fun w _ => by kernel_rfl⟩) hS3 ?_
  refine wpAnyH_done (by kernel_rfl) ?_ _
  exact h

def cells_text (qm qx : Nat) : Array Value := #[pt qx 3, pt qm 3, pt qx 7, pt qm 7, pt qx 8, pt qm 8, pt qx 9, pt qm 9, pt qx 19, pt qm 19]
theorem size_text : ops_text.size = 68 := by kernel_rfl
theorem takes_text (t qm qx i : Nat) : ∀ j, 0 ≤ j → j < 0 + 65 → ∃ oi v, ops_text[j]? = some oi ∧ YieldsIf Tryz.prog ops_text (TwS t qm qx) oi v (act_text t qm qx i j) ∧ (act_text t qm qx i j).put oi.dst v = act_text t qm qx i (j + 1)
  | 0, _, _ => y_text_0 t qm qx i
  | 1, _, _ => y_text_1 t qm qx i
  | 2, _, _ => y_text_2 t qm qx i
  | 3, _, _ => y_text_3 t qm qx i
  | 4, _, _ => y_text_4 t qm qx i
  | 5, _, _ => y_text_5 t qm qx i
  | 6, _, _ => y_text_6 t qm qx i
  | 7, _, _ => y_text_7 t qm qx i
  | 8, _, _ => y_text_8 t qm qx i
  | 9, _, _ => y_text_9 t qm qx i
  | 10, _, _ => y_text_10 t qm qx i
  | 11, _, _ => y_text_11 t qm qx i
  | 12, _, _ => y_text_12 t qm qx i
  | 13, _, _ => y_text_13 t qm qx i
  | 14, _, _ => y_text_14 t qm qx i
  | 15, _, _ => y_text_15 t qm qx i
  | 16, _, _ => y_text_16 t qm qx i
  | 17, _, _ => y_text_17 t qm qx i
  | 18, _, _ => y_text_18 t qm qx i
  | 19, _, _ => y_text_19 t qm qx i
  | 20, _, _ => y_text_20 t qm qx i
  | 21, _, _ => y_text_21 t qm qx i
  | 22, _, _ => y_text_22 t qm qx i
  | 23, _, _ => y_text_23 t qm qx i
  | 24, _, _ => y_text_24 t qm qx i
  | 25, _, _ => y_text_25 t qm qx i
  | 26, _, _ => y_text_26 t qm qx i
  | 27, _, _ => y_text_27 t qm qx i
  | 28, _, _ => y_text_28 t qm qx i
  | 29, _, _ => y_text_29 t qm qx i
  | 30, _, _ => y_text_30 t qm qx i
  | 31, _, _ => y_text_31 t qm qx i
  | 32, _, _ => y_text_32 t qm qx i
  | 33, _, _ => y_text_33 t qm qx i
  | 34, _, _ => y_text_34 t qm qx i
  | 35, _, _ => y_text_35 t qm qx i
  | 36, _, _ => y_text_36 t qm qx i
  | 37, _, _ => y_text_37 t qm qx i
  | 38, _, _ => y_text_38 t qm qx i
  | 39, _, _ => y_text_39 t qm qx i
  | 40, _, _ => y_text_40 t qm qx i
  | 41, _, _ => y_text_41 t qm qx i
  | 42, _, _ => y_text_42 t qm qx i
  | 43, _, _ => y_text_43 t qm qx i
  | 44, _, _ => y_text_44 t qm qx i
  | 45, _, _ => y_text_45 t qm qx i
  | 46, _, _ => y_text_46 t qm qx i
  | 47, _, _ => y_text_47 t qm qx i
  | 48, _, _ => y_text_48 t qm qx i
  | 49, _, _ => y_text_49 t qm qx i
  | 50, _, _ => y_text_50 t qm qx i
  | 51, _, _ => y_text_51 t qm qx i
  | 52, _, _ => y_text_52 t qm qx i
  | 53, _, _ => y_text_53 t qm qx i
  | 54, _, _ => y_text_54 t qm qx i
  | 55, _, _ => y_text_55 t qm qx i
  | 56, _, _ => y_text_56 t qm qx i
  | 57, _, _ => y_text_57 t qm qx i
  | 58, _, _ => y_text_58 t qm qx i
  | 59, _, _ => y_text_59 t qm qx i
  | 60, _, _ => y_text_60 t qm qx i
  | 61, _, _ => y_text_61 t qm qx i
  | 62, _, _ => y_text_62 t qm qx i
  | 63, _, _ => y_text_63 t qm qx i
  | 64, _, _ => y_text_64 t qm qx i
  | k + 65, _, h => absurd h (by omega)
theorem orders_text : ∀ j, 0 ≤ j → j < 0 + 65 → Region.free .any ops_text (firstB 68 j) j = true ∧ (Region.ready .any ops_text (firstB 68 j)).contains j = true ∧ (firstB 68 j).setIfInBounds j true = firstB 68 (j + 1) := by
  intro j h1 h2
  have h : (Region.free .any ops_text (firstB 68 j) j && (Region.ready .any ops_text (firstB 68 j)).contains j && ((firstB 68 j).setIfInBounds j true == firstB 68 (j + 1))) = true := by
    match j, h2 with
    | 0, _ => exact order_text_0
    | 1, _ => exact order_text_1
    | 2, _ => exact order_text_2
    | 3, _ => exact order_text_3
    | 4, _ => exact order_text_4
    | 5, _ => exact order_text_5
    | 6, _ => exact order_text_6
    | 7, _ => exact order_text_7
    | 8, _ => exact order_text_8
    | 9, _ => exact order_text_9
    | 10, _ => exact order_text_10
    | 11, _ => exact order_text_11
    | 12, _ => exact order_text_12
    | 13, _ => exact order_text_13
    | 14, _ => exact order_text_14
    | 15, _ => exact order_text_15
    | 16, _ => exact order_text_16
    | 17, _ => exact order_text_17
    | 18, _ => exact order_text_18
    | 19, _ => exact order_text_19
    | 20, _ => exact order_text_20
    | 21, _ => exact order_text_21
    | 22, _ => exact order_text_22
    | 23, _ => exact order_text_23
    | 24, _ => exact order_text_24
    | 25, _ => exact order_text_25
    | 26, _ => exact order_text_26
    | 27, _ => exact order_text_27
    | 28, _ => exact order_text_28
    | 29, _ => exact order_text_29
    | 30, _ => exact order_text_30
    | 31, _ => exact order_text_31
    | 32, _ => exact order_text_32
    | 33, _ => exact order_text_33
    | 34, _ => exact order_text_34
    | 35, _ => exact order_text_35
    | 36, _ => exact order_text_36
    | 37, _ => exact order_text_37
    | 38, _ => exact order_text_38
    | 39, _ => exact order_text_39
    | 40, _ => exact order_text_40
    | 41, _ => exact order_text_41
    | 42, _ => exact order_text_42
    | 43, _ => exact order_text_43
    | 44, _ => exact order_text_44
    | 45, _ => exact order_text_45
    | 46, _ => exact order_text_46
    | 47, _ => exact order_text_47
    | 48, _ => exact order_text_48
    | 49, _ => exact order_text_49
    | 50, _ => exact order_text_50
    | 51, _ => exact order_text_51
    | 52, _ => exact order_text_52
    | 53, _ => exact order_text_53
    | 54, _ => exact order_text_54
    | 55, _ => exact order_text_55
    | 56, _ => exact order_text_56
    | 57, _ => exact order_text_57
    | 58, _ => exact order_text_58
    | 59, _ => exact order_text_59
    | 60, _ => exact order_text_60
    | 61, _ => exact order_text_61
    | 62, _ => exact order_text_62
    | 63, _ => exact order_text_63
    | 64, _ => exact order_text_64
    | k + 65, h => exact absurd h (by omega)
  simp only [Bool.and_eq_true, beq_iff_eq] at h
  exact ⟨h.1.1, h.1.2, h.2⟩
set_option maxHeartbeats 1600000 in
theorem region_text (t qm qx i : Nat) (Q : Exit → Act → World → Prop) (hQ : ∀ c (a : Act) d v w, Q (.panic c) (a.put d v) w → Q (.panic c) a w) (w : World) (hS : TwS t qm qx w)
    (h : Q .normal { tmps := (.pointer (some ⟨t, 0, none⟩) :: .pointer (some ⟨qx, i, none⟩) :: undef :: undef :: undef :: undef :: .pointer (some ⟨t, 0, none⟩) :: .pointer (some ⟨t, 0, none⟩) :: .pointer (some ⟨t, 1, none⟩) :: .pointer (some ⟨qx, 0, none⟩) :: .pointer (some ⟨qx, 0, none⟩) :: .pointer (some ⟨qx, 3, none⟩) :: .pointer (some ⟨t, 0, none⟩) :: .pointer (some ⟨t, 0, none⟩) :: .pointer (some ⟨t, 0, none⟩) :: .pointer (some ⟨qm, 0, none⟩) :: .pointer (some ⟨qm, 0, none⟩) :: .pointer (some ⟨qm, 3, none⟩) :: .agg #[.pointer (some ⟨qx, 3, none⟩), .pointer (some ⟨qm, 3, none⟩)] :: .pointer (some ⟨t, 0, none⟩) :: .pointer (some ⟨t, 0, none⟩) :: .pointer (some ⟨t, 1, none⟩) :: .pointer (some ⟨qx, 0, none⟩) :: .pointer (some ⟨qx, 0, none⟩) :: .pointer (some ⟨qx, 7, none⟩) :: .pointer (some ⟨t, 0, none⟩) :: .pointer (some ⟨t, 0, none⟩) :: .pointer (some ⟨t, 0, none⟩) :: .pointer (some ⟨qm, 0, none⟩) :: .pointer (some ⟨qm, 0, none⟩) :: .pointer (some ⟨qm, 7, none⟩) :: .agg #[.pointer (some ⟨qx, 7, none⟩), .pointer (some ⟨qm, 7, none⟩)] :: .pointer (some ⟨t, 0, none⟩) :: .pointer (some ⟨t, 0, none⟩) :: .pointer (some ⟨t, 1, none⟩) :: .pointer (some ⟨qx, 0, none⟩) :: .pointer (some ⟨qx, 0, none⟩) :: .pointer (some ⟨qx, 8, none⟩) :: .pointer (some ⟨t, 0, none⟩) :: .pointer (some ⟨t, 0, none⟩) :: .pointer (some ⟨t, 0, none⟩) :: .pointer (some ⟨qm, 0, none⟩) :: .pointer (some ⟨qm, 0, none⟩) :: .pointer (some ⟨qm, 8, none⟩) :: .agg #[.pointer (some ⟨qx, 8, none⟩), .pointer (some ⟨qm, 8, none⟩)] :: .pointer (some ⟨t, 0, none⟩) :: .pointer (some ⟨t, 0, none⟩) :: .pointer (some ⟨t, 1, none⟩) :: .pointer (some ⟨qx, 0, none⟩) :: .pointer (some ⟨qx, 0, none⟩) :: .pointer (some ⟨qx, 9, none⟩) :: .pointer (some ⟨t, 0, none⟩) :: .pointer (some ⟨t, 0, none⟩) :: .pointer (some ⟨t, 0, none⟩) :: .pointer (some ⟨qm, 0, none⟩) :: .pointer (some ⟨qm, 0, none⟩) :: .pointer (some ⟨qm, 9, none⟩) :: .agg #[.pointer (some ⟨qx, 9, none⟩), .pointer (some ⟨qm, 9, none⟩)] :: .pointer (some ⟨t, 0, none⟩) :: .pointer (some ⟨t, 0, none⟩) :: .pointer (some ⟨t, 1, none⟩) :: .pointer (some ⟨qx, 0, none⟩) :: .pointer (some ⟨qx, 0, none⟩) :: .pointer (some ⟨qx, 19, none⟩) :: .pointer (some ⟨t, 0, none⟩) :: .pointer (some ⟨t, 0, none⟩) :: .pointer (some ⟨t, 0, none⟩) :: .pointer (some ⟨qm, 0, none⟩) :: .pointer (some ⟨qm, 0, none⟩) :: .pointer (some ⟨qm, 19, none⟩) :: .agg #[.pointer (some ⟨qx, 19, none⟩), .pointer (some ⟨qm, 19, none⟩)] :: .slice (some ⟨w.heap.size, 0, none⟩) 5 5 :: .int .i64 5 :: .int .i64 0 :: undef :: undef :: undef :: undef :: undef :: undef :: undef :: undef :: undef :: undef :: undef :: undef :: undef :: undef :: []).toArray, defers := [] } (w.drew.alloc (.cells (cells_text qm qx) 193))) : (Code.region 0 ops_text true).wp Tryz.prog Q (act_text t qm qx i 0) w := by
  refine wp_region_held_drew (S := TwS t qm qx) (by kernel_rfl) hS (fun hS => ?_)
  refine (show wpAnyH Tryz.prog .any ops_text Q (TwS t qm qx) (65 + 3) (firstB 68 0) (act_text t qm qx i 0) w.drew → _ from fun h => h) ?_
  refine wpAnyH_takes (by kernel_rfl) (firstB 68) (act_text t qm qx i) hQ hS 3 65 0 orders_text (takes_text t qm qx i) ?_
  rw [Nat.zero_add]
  refine wpAnyH_take (i := 67) (v := .int .i64 0) rfl (by kernel_rfl) (by kernel_rfl) (by kernel_rfl) (fun c a w => hQ c a _ _ w) (Or.inl ⟨by kernel_rfl, fun w _ => by kernel_rfl⟩) hS ?_
  refine wpAnyH_ready (rs := [65]) (by kernel_rfl) (by simp) ?_
  refine AllReadyH.cons rfl (fun K hK => ?_) AllReadyH.nil
  rw [if_pos (by kernel_rfl)]
  have hrun : (execOp ((act_text t qm qx i 65).put (some 73) (.int .i64 0)).eval (ops_text[65]'(by rw [size_text]; decide))).run Tryz.prog w.drew = .ok (.value (.slice (some ⟨w.heap.size, 0, none⟩) 5 5)) (w.drew.alloc (.cells (cells_text qm qx) 193)) := by kernel_rfl
  have hS2 : TwS t qm qx (w.drew.alloc (.cells (cells_text qm qx) 193)) := by
    obtain ⟨h1, h2⟩ := hS
    exact ⟨by rw [World.cell?_alloc_some _ _ _ (by rw [h1]; rfl)]; exact h1, by rw [World.cell?_alloc_some _ _ _ (by rw [h2]; rfl)]; exact h2⟩
  refine (show Oper.wp Tryz.prog (ops_text[65]'(by rw [size_text]; decide)) ((act_text t qm qx i 65).put (some 73) (.int .i64 0)) w.drew K Q → _ from fun h => h) ?_
  unfold Oper.wp
  rw [hrun]
  refine hK.out _ _ hS2 (fun hS3 => ?_)
  refine wpAnyH_take (i := 66) (v := .int .i64 5) rfl (by kernel_rfl) (by kernel_rfl) (by kernel_rfl) (fun c a w => hQ c a _ _ w) (Or.inl ⟨by kernel_rfl, fun w _ => by kernel_rfl⟩) hS3 ?_
  refine wpAnyH_done (by kernel_rfl) ?_ _
  exact h

end
end Go.Proofs.YtcbglcebdkpcfaaGreat

namespace Go.Proofs.YtcbglcebdkpcfaaGreat
section
open Go.RowKit
set_option maxRecDepth 100000
set_option linter.unusedVariables false

def twinCells (qm qx : Nat) : Array Value := #[.pointer (some ⟨qm, 0, none⟩), .pointer (some ⟨qx, 0, none⟩)]
structure TwAt (w0 w : World) (t qm qx : Nat) (cm cx : Array Value) : Prop where
  tw : w.heap[t]? = some (.cells (twinCells qm qx) 110 (0, 0))
  mb : w.heap[qm]? = some (.cells cm 41 (0, 0))
  xb : w.heap[qx]? = some (.cells cx 41 (0, 0))
  ne : qm ≠ qx ∧ t ≠ qx
  below : ∀ m, m ≤ qx → Below m w0 w
theorem TwAt.same {w0 w w' : World} {t qm qx : Nat} {cm cx : Array Value} (h : TwAt w0 w t qm qx cm cx) (hb : Below w.heap.size w w') : TwAt w0 w' t qm qx cm cx :=
  ⟨(hb.block t (lt_of_block h.tw)).trans h.tw, (hb.block qm (lt_of_block h.mb)).trans h.mb, (hb.block qx (lt_of_block h.xb)).trans h.xb, h.ne, fun m hm => (h.below m hm).trans (hb.mono (by have := lt_of_block h.xb; omega))⟩
theorem TwAt.set {w0 w : World} {t qm qx : Nat} {cm cx : Array Value} (h : TwAt w0 w t qm qx cm cx) (i : Nat) (u : Value) : TwAt w0 (w.setCell ⟨qx, i, none⟩ u) t qm qx cm (cx.setIfInBounds i u) :=
  ⟨(block_set_other h.ne.2).trans h.tw, (block_set_other h.ne.1).trans h.mb, block_set h.xb i u, h.ne, fun m hm => (h.below m hm).setCell hm _⟩
theorem TwAt.drew {w0 w : World} {t qm qx : Nat} {cm cx : Array Value} (h : TwAt w0 w t qm qx cm cx) : TwAt w0 w.drew t qm qx cm cx := h.same (Below.refl _ _).drew
def TwPost (w0 : World) (t qm qx : Nat) (cm cx : Array Value) (e : Ending) (w' : World) : Prop := e = .returned (.tuple #[]) ∧ TwAt w0 w' t qm qx cm cx

theorem twin_u8 (t qm qx i : Nat) (cm cx : Array Value) (n : Nat) (u : Value) (w0 w : World) (h : TwAt w0 w t qm qx cm cx) (hm : cm[17]? = some (.int .u8 (n : Int))) (hx : cx[i]? = some u) :
    Calls Tryz.prog 119 #[.pointer (some ⟨t, 0, none⟩), .pointer (some ⟨qx, i, none⟩)] w (TwPost w0 t qm qx cm (cx.setIfInBounds i (.int .u8 (n : Int)))) := by
  have c0 : w.cell? ⟨t, 0, none⟩ = some (.pointer (some ⟨qm, 0, none⟩)) := block_cell h.tw 0
  have c1 : w.cell? ⟨qm, 17, none⟩ = some (.int .u8 (n : Int)) := (block_cell h.mb 17).trans hm
  have c2 : w.cell? ⟨qx, i, none⟩ = some u := (block_cell h.xb i).trans hx
  have f2 : w.frozen? ⟨qx, i, none⟩ = false := block_free h.xb i
  replace h := hid h
  clear hm hx
  go_enter Tryz.func119, Tryz.ntmps119
  go_wp2_with fail
  go_end0
  exact ⟨rfl, h.out.set i _⟩

def offs32 : List Nat := [2, 4, 5, 6, 16, 18, 21]
theorem offs32_at (qm qx : Nat) : ∀ k, k < 7 → ∃ o, offs32[k]? = some o ∧ (cells_u32 qm qx)[k * 2]? = some (.pointer (some ⟨qx, o, none⟩)) ∧ (cells_u32 qm qx)[k * 2 + 1]? = some (.pointer (some ⟨qm, o, none⟩))
  | 0, _ => ⟨_, rfl, rfl, rfl⟩
  | 1, _ => ⟨_, rfl, rfl, rfl⟩
  | 2, _ => ⟨_, rfl, rfl, rfl⟩
  | 3, _ => ⟨_, rfl, rfl, rfl⟩
  | 4, _ => ⟨_, rfl, rfl, rfl⟩
  | 5, _ => ⟨_, rfl, rfl, rfl⟩
  | 6, _ => ⟨_, rfl, rfl, rfl⟩
theorem offs32_one : ∀ j k o, j < 7 → k < 7 → offs32[j]? = some o → offs32[k]? = some o → k = j := by
  intro j k o hj hk h1 h2
  have h : ∀ j < 7, ∀ k < 7, offs32[j]? = offs32[k]? → k = j := by decide
  exact h j hj k hk (h1.trans h2.symm)

theorem infoU32 : (Tryz.prog.info? 32).map (fun i => (i.zero, i.size, i.bytes)) = some (some (.int .u32 0), 1, 4) := by kernel_rfl
theorem eq_u32_same (w : World) (a : Addr) : (binOp .eql 145 (.pointer (some a)) (.pointer (some a))).run Tryz.prog w = .ok (.bool true) w := by
  obtain ⟨i0, hi0, hz0, hz1, hz2⟩ := info_parts infoU32
  exact run_eql_ptr_same w a Tryz.underlying145 hi0
theorem eq_u32_other (w : World) (b i j : Nat) (cs : Array Value) (t : TypeId) (hb : w.heap[b]? = some (.cells cs t (0, 0))) (h : i ≠ j) : (binOp .eql 145 (.pointer (some ⟨b, i, none⟩)) (.pointer (some ⟨b, j, none⟩))).run Tryz.prog w = .ok (.bool false) w := by
  obtain ⟨i0, hi0, hz0, hz1, hz2⟩ := info_parts infoU32
  exact run_eql_ptr_other w Tryz.underlying145 hi0 (by rw [hz1]; decide) (fun e => h (by cases e; rfl)) hb hb

set_option maxHeartbeats 4000000 in
theorem twin_u32 (t qm qx i j : Nat) (cm cx : Array Value) (ns : Nat → Nat) (w0 w : World) (h : TwAt w0 w t qm qx cm cx) (hj : j < 7) (hij : offs32[j]? = some i) (hm : ∀ (o k : Nat), offs32[k]? = some o → cm[o]? = some (Value.int .u32 (ns o : Int))) (u : Value) (hx : cx[i]? = some u) :
    Calls Tryz.prog 117 #[.pointer (some ⟨t, 0, none⟩), .pointer (some ⟨qx, i, none⟩)] w (TwPost w0 t qm qx cm (cx.setIfInBounds i (.int .u32 (ns i : Int)))) := by
  have c0 : w.cell? ⟨t, 0, none⟩ = some (.pointer (some ⟨qm, 0, none⟩)) := block_cell h.tw 0
  have c1 : w.cell? ⟨t, 1, none⟩ = some (.pointer (some ⟨qx, 0, none⟩)) := block_cell h.tw 1
  replace h := hid h
  replace hij := hid hij
  replace hm := hid hm
  replace hx := hid hx
  go_enter Tryz.func117, Tryz.ntmps117
  go_wp2_with fail
  have hSS := hid (show TwS t qm qx w from ⟨c0, c1⟩)
  refine region_u32 t qm qx i _ (fun _ _ d _ _ h => by cases d <;> exact h) w hSS.out ?_
  have hpb := heap_alloc_new w.drew (.cells (cells_u32 qm qx) 195)
  have hst := h.out.drew.same ((Below.refl w.drew.heap.size w.drew).alloc (Nat.le_refl _) (.cells (cells_u32 qm qx) 195))
  clear c0 c1
  go_wp2_with fail
  have hsz : w.drew.heap.size = w.heap.size := rfl
  have hqx : qx < w.heap.size := lt_of_block h.out.xb
  rw [hsz] at hpb
  have hj1 := hid hj
  replace hpb := hid hpb
  replace hst := hid hst
  clear hj
  go_loopw [99] (fun kv wr => ∃ k : Nat, k ≤ 7 ∧ kv = .int .i64 (k : Int) ∧ TwAt w0 wr t qm qx cm (if j < k then cx.setIfInBounds i (.int .u32 (ns i : Int)) else cx) ∧ wr.heap[w.heap.size]? = some (.cells (cells_u32 qm qx) 195 (0, 0))) (fun kv _ => 7 - (intOf kv).toNat)
  case atStart => exact ⟨0, by omega, rfl, by rw [if_neg (by omega)]; exact hst.out, hpb.out⟩
  case round =>
    obtain ⟨k, hk, rfl, hT, hb⟩ := hrel
    by_cases hk7 : k < 7
    · obtain ⟨o, ho, hc1, hc2⟩ := offs32_at qm qx k hk7
      have p1 : wr.cell? ⟨w.heap.size, k * 2, none⟩ = some (.pointer (some ⟨qx, o, none⟩)) := (block_cell hb _).trans hc1
      have p2 : wr.cell? ⟨w.heap.size, k * 2 + 1, none⟩ = some (.pointer (some ⟨qm, o, none⟩)) := (block_cell hb _).trans hc2
      have hbl := lt_of_block hb
      have hbb := (Below.refl wr.heap.size wr).alloc (Nat.le_refl _) (.cells #[.pointer (some ⟨qx, o, none⟩), .pointer (some ⟨qm, o, none⟩)] 195)
      have hT2 := hid (hT.same hbb)
      have hb2 := hid ((hbb.block w.heap.size hbl).trans hb)
      have m1 : wr.cell? ⟨qm, o, none⟩ = some (.int .u32 (ns o : Int)) := (block_cell hT.mb o).trans (hm.out o k ho)
      have hqm := lt_of_block hT.mb
      have hqx2 := lt_of_block hT.xb
      replace hb := hid hb
      by_cases hoi : o = i
      · subst hoi
        have hkj : k = j := offs32_one j k o hj1.out hk7 hij.out ho
        subst hkj
        have x1 : wr.cell? ⟨qx, o, none⟩ = some u := by rw [block_cell hT.xb o, if_neg (by omega)]; exact hx.out
        have f1 : wr.frozen? ⟨qx, o, none⟩ = false := block_free hT.xb o
        replace ho := hid ho
        replace hT := hid hT
        have heq := eq_u32_same (wr.alloc (.cells #[.pointer (some ⟨qx, o, none⟩), .pointer (some ⟨qm, o, none⟩)] 195)) ⟨qx, o, none⟩
        have hA : Hid (TwAt w0 ((wr.setCell ⟨qx, o, none⟩ (.int .u32 (ns o : Int))).alloc (.cells #[.pointer (some ⟨qx, o, none⟩), .pointer (some ⟨qm, o, none⟩)] 195)) t qm qx cm (cx.setIfInBounds o (.int .u32 (ns o : Int)))) := hid (by
          have hT0 := hT.out
          rw [if_neg (by omega)] at hT0
          exact (hT0.set o _).same ((Below.refl _ _).alloc (Nat.le_refl _) _))
        have hB : Hid (((wr.setCell ⟨qx, o, none⟩ (.int .u32 (ns o : Int))).alloc (.cells #[.pointer (some ⟨qx, o, none⟩), .pointer (some ⟨qm, o, none⟩)] 195)).heap[w.heap.size]? = some (.cells (cells_u32 qm qx) 195 (0, 0))) := hid (by
          rw [heap_alloc_old _ _ (by simpa using hbl)]
          exact (block_set_other (by show w.heap.size ≠ qx; omega)).trans hb.out)
        go_wp2_with fail
        go_roundw
        case rel => exact ⟨k + 1, by omega, by go_num, by rw [if_pos (by omega)]; exact hA.out, hB.out⟩
        case measure => simp [intOf]; omega
      · have heq := eq_u32_other _ qx o i _ _ hT2.out.xb hoi
        have hkj : Hid (k ≠ j) := hid (fun e => hoi (by subst e; rw [hij.out] at ho; exact (Option.some.inj ho).symm))
        have hif : Hid ((if j < k + 1 then cx.setIfInBounds i (.int .u32 (ns i : Int)) else cx) = (if j < k then cx.setIfInBounds i (.int .u32 (ns i : Int)) else cx)) := hid (by
          have := hkj.out
          by_cases hjk : j < k
          · rw [if_pos hjk, if_pos (by omega)]
          · rw [if_neg hjk, if_neg (by omega)])
        replace ho := hid ho
        replace hT := hid hT
        go_wp2_with fail
        go_roundw
        case rel => exact ⟨k + 1, by omega, by go_num, by rw [hif.out]; exact hT2.out, hb2.out⟩
        case measure => simp [intOf]; omega
    · obtain rfl : k = 7 := by omega
      rw [if_pos hj1.out] at hT
      replace hT := hid hT
      replace hb := hid hb
      go_wp2_with fail
      go_end0
      exact ⟨rfl, hT.out⟩
end
end Go.Proofs.YtcbglcebdkpcfaaGreat

namespace Go.Proofs.YtcbglcebdkpcfaaGreat
section
open Go.RowKit
set_option maxRecDepth 100000
set_option linter.unusedVariables false

theorem twin_u16 (t qm qx i : Nat) (cm cx : Array Value) (n : Nat) (u : Value) (w0 w : World) (h : TwAt w0 w t qm qx cm cx) (hm : cm[10]? = some (.int .u16 (n : Int))) (hx : cx[i]? = some u) :
    Calls Tryz.prog 116 #[.pointer (some ⟨t, 0, none⟩), .pointer (some ⟨qx, i, none⟩)] w (TwPost w0 t qm qx cm (cx.setIfInBounds i (.int .u16 (n : Int)))) := by
  have c0 : w.cell? ⟨t, 0, none⟩ = some (.pointer (some ⟨qm, 0, none⟩)) := block_cell h.tw 0
  have c1 : w.cell? ⟨qm, 10, none⟩ = some (.int .u16 (n : Int)) := (block_cell h.mb 10).trans hm
  have c2 : w.cell? ⟨qx, i, none⟩ = some u := (block_cell h.xb i).trans hx
  have f2 : w.frozen? ⟨qx, i, none⟩ = false := block_free h.xb i
  replace h := hid h
  clear hm hx
  go_enter Tryz.func116, Tryz.ntmps116
  go_wp2_with fail
  go_end0
  exact ⟨rfl, h.out.set i _⟩

theorem twin_u64 (t qm qx i : Nat) (cm cx : Array Value) (n : Nat) (u : Value) (w0 w : World) (h : TwAt w0 w t qm qx cm cx) (hm : cm[20]? = some (.int .u64 (n : Int))) (hx : cx[i]? = some u) :
    Calls Tryz.prog 118 #[.pointer (some ⟨t, 0, none⟩), .pointer (some ⟨qx, i, none⟩)] w (TwPost w0 t qm qx cm (cx.setIfInBounds i (.int .u64 (n : Int)))) := by
  have c0 : w.cell? ⟨t, 0, none⟩ = some (.pointer (some ⟨qm, 0, none⟩)) := block_cell h.tw 0
  have c1 : w.cell? ⟨qm, 20, none⟩ = some (.int .u64 (n : Int)) := (block_cell h.mb 20).trans hm
  have c2 : w.cell? ⟨qx, i, none⟩ = some u := (block_cell h.xb i).trans hx
  have f2 : w.frozen? ⟨qx, i, none⟩ = false := block_free h.xb i
  replace h := hid h
  clear hm hx
  go_enter Tryz.func118, Tryz.ntmps118
  go_wp2_with fail
  go_end0
  exact ⟨rfl, h.out.set i _⟩

theorem twin_texts (t qm qx i : Nat) (cm cx : Array Value) (a : Option Addr) (n k : Nat) (u : Value) (w0 w : World) (h : TwAt w0 w t qm qx cm cx) (hm : cm[11]? = some (.slice a n k)) (hx : cx[i]? = some u) :
    Calls Tryz.prog 115 #[.pointer (some ⟨t, 0, none⟩), .pointer (some ⟨qx, i, none⟩)] w (TwPost w0 t qm qx cm (cx.setIfInBounds i (.slice a n k))) := by
  have c0 : w.cell? ⟨t, 0, none⟩ = some (.pointer (some ⟨qm, 0, none⟩)) := block_cell h.tw 0
  have c1 : w.cell? ⟨qm, 11, none⟩ = some (.slice a n k) := (block_cell h.mb 11).trans hm
  have c2 : w.cell? ⟨qx, i, none⟩ = some u := (block_cell h.xb i).trans hx
  have f2 : w.frozen? ⟨qx, i, none⟩ = false := block_free h.xb i
  replace h := hid h
  clear hm hx
  go_enter Tryz.func115, Tryz.ntmps115
  go_wp2_with fail
  go_end0
  exact ⟨rfl, h.out.set i _⟩

theorem twin_qids (t qm qx i : Nat) (cm cx : Array Value) (a : Option Addr) (n k : Nat) (u : Value) (w0 w : World) (h : TwAt w0 w t qm qx cm cx) (hm : cm[12]? = some (.slice a n k)) (hx : cx[i]? = some u) :
    Calls Tryz.prog 112 #[.pointer (some ⟨t, 0, none⟩), .pointer (some ⟨qx, i, none⟩)] w (TwPost w0 t qm qx cm (cx.setIfInBounds i (.slice a n k))) := by
  have c0 : w.cell? ⟨t, 0, none⟩ = some (.pointer (some ⟨qm, 0, none⟩)) := block_cell h.tw 0
  have c1 : w.cell? ⟨qm, 12, none⟩ = some (.slice a n k) := (block_cell h.mb 12).trans hm
  have c2 : w.cell? ⟨qx, i, none⟩ = some u := (block_cell h.xb i).trans hx
  have f2 : w.frozen? ⟨qx, i, none⟩ = false := block_free h.xb i
  replace h := hid h
  clear hm hx
  go_enter Tryz.func112, Tryz.ntmps112
  go_wp2_with fail
  go_end0
  exact ⟨rfl, h.out.set i _⟩

theorem twin_data (t qm qx i : Nat) (cm cx : Array Value) (a : Option Addr) (n k : Nat) (u : Value) (w0 w : World) (h : TwAt w0 w t qm qx cm cx) (hm : cm[22]? = some (.slice a n k)) (hx : cx[i]? = some u) :
    Calls Tryz.prog 110 #[.pointer (some ⟨t, 0, none⟩), .pointer (some ⟨qx, i, none⟩)] w (TwPost w0 t qm qx cm (cx.setIfInBounds i (.slice a n k))) := by
  have c0 : w.cell? ⟨t, 0, none⟩ = some (.pointer (some ⟨qm, 0, none⟩)) := block_cell h.tw 0
  have c1 : w.cell? ⟨qm, 22, none⟩ = some (.slice a n k) := (block_cell h.mb 22).trans hm
  have c2 : w.cell? ⟨qx, i, none⟩ = some u := (block_cell h.xb i).trans hx
  have f2 : w.frozen? ⟨qx, i, none⟩ = false := block_free h.xb i
  replace h := hid h
  clear hm hx
  go_enter Tryz.func110, Tryz.ntmps110
  go_wp2_with fail
  go_end0
  exact ⟨rfl, h.out.set i _⟩

set_option maxHeartbeats 1600000 in
theorem twin_qid (t qm qx i : Nat) (cm cx : Array Value) (v0 : Nat) (v1 : Nat) (v2 : Nat) (u0 u1 u2 : Value) (w0 w : World) (h : TwAt w0 w t qm qx cm cx) (hm : cm[13]? = some (.int .u8 (v0 : Int)) ∧ cm[14]? = some (.int .u32 (v1 : Int)) ∧ cm[15]? = some (.int .u64 (v2 : Int))) (hx : cx[i]? = some u0 ∧ cx[i + 1]? = some u1 ∧ cx[i + 2]? = some u2) :
    Calls Tryz.prog 111 #[.pointer (some ⟨t, 0, none⟩), .pointer (some ⟨qx, i, none⟩)] w ((TwPost w0 t qm qx cm (((cx.setIfInBounds (i) (.int .u8 (v0 : Int))).setIfInBounds (i + 1) (.int .u32 (v1 : Int))).setIfInBounds (i + 2) (.int .u64 (v2 : Int))))) := by
  have c0 : w.cell? ⟨t, 0, none⟩ = some (.pointer (some ⟨qm, 0, none⟩)) := block_cell h.tw 0
  obtain ⟨a0, a1, a2⟩ := hm
  obtain ⟨b0, b1, b2⟩ := hx
  have c1 : w.cell? ⟨qm, 13, none⟩ = some (.int .u8 (v0 : Int)) := (block_cell h.mb 13).trans a0
  have d0 : w.cell? ⟨qx, i, none⟩ = some u0 := (block_cell h.xb _).trans b0
  have f0 : w.frozen? ⟨qx, i, none⟩ = false := block_free h.xb _
  have c2 : w.cell? ⟨qm, 13 + 1, none⟩ = some (.int .u32 (v1 : Int)) := (block_cell h.mb 14).trans a1
  have d1 : w.cell? ⟨qx, i + 1, none⟩ = some u1 := (block_cell h.xb _).trans b1
  have f1 : w.frozen? ⟨qx, i + 1, none⟩ = false := block_free h.xb _
  have c3 : w.cell? ⟨qm, 13 + 2, none⟩ = some (.int .u64 (v2 : Int)) := (block_cell h.mb 15).trans a2
  have d2 : w.cell? ⟨qx, i + 2, none⟩ = some u2 := (block_cell h.xb _).trans b2
  have f2 : w.frozen? ⟨qx, i + 2, none⟩ = false := block_free h.xb _
  replace h := hid h
  clear a0 a1 a2 b0 b1 b2
  go_enter Tryz.func111, Tryz.ntmps111
  go_wp2_with fail
  go_end0
  exact ⟨rfl, (((h.out.set (i) _).set (i + 1) _).set (i + 2) _)⟩

set_option maxHeartbeats 1600000 in
theorem twin_stat (t qm qx i : Nat) (cm cx : Array Value) (v0 : Nat) (v1 : Nat) (v2 : Nat) (v3 : Nat) (v4 : Nat) (v5 : Nat) (v6 : Nat) (v7 : Nat) (v8 : Nat) (v9 : ByteArray) (v10 : ByteArray) (v11 : ByteArray) (v12 : ByteArray) (u0 u1 u2 u3 u4 u5 u6 u7 u8 u9 u10 u11 u12 : Value) (w0 w : World) (h : TwAt w0 w t qm qx cm cx) (hm : cm[23]? = some (.int .u16 (v0 : Int)) ∧ cm[24]? = some (.int .u32 (v1 : Int)) ∧ cm[25]? = some (.int .u8 (v2 : Int)) ∧ cm[26]? = some (.int .u32 (v3 : Int)) ∧ cm[27]? = some (.int .u64 (v4 : Int)) ∧ cm[28]? = some (.int .u32 (v5 : Int)) ∧ cm[29]? = some (.int .u32 (v6 : Int)) ∧ cm[30]? = some (.int .u32 (v7 : Int)) ∧ cm[31]? = some (.int .u64 (v8 : Int)) ∧ cm[32]? = some (.string v9) ∧ cm[33]? = some (.string v10) ∧ cm[34]? = some (.string v11) ∧ cm[35]? = some (.string v12)) (hx : cx[i]? = some u0 ∧ cx[i + 1]? = some u1 ∧ cx[i + 2]? = some u2 ∧ cx[i + 3]? = some u3 ∧ cx[i + 4]? = some u4 ∧ cx[i + 5]? = some u5 ∧ cx[i + 6]? = some u6 ∧ cx[i + 7]? = some u7 ∧ cx[i + 8]? = some u8 ∧ cx[i + 9]? = some u9 ∧ cx[i + 10]? = some u10 ∧ cx[i + 11]? = some u11 ∧ cx[i + 12]? = some u12) :
    Calls Tryz.prog 113 #[.pointer (some ⟨t, 0, none⟩), .pointer (some ⟨qx, i, none⟩)] w (fun e w' => e = .returned (.tuple #[]) ∧ w' = put13 w qx i ⟨v0, v1, v2, v3, v4, v5, v6, v7, v8, v9, v10, v11, v12⟩) := by
  have c0 : w.cell? ⟨t, 0, none⟩ = some (.pointer (some ⟨qm, 0, none⟩)) := block_cell h.tw 0
  obtain ⟨a0, a1, a2, a3, a4, a5, a6, a7, a8, a9, a10, a11, a12⟩ := hm
  obtain ⟨b0, b1, b2, b3, b4, b5, b6, b7, b8, b9, b10, b11, b12⟩ := hx
  have c1 : w.cell? ⟨qm, 23, none⟩ = some (.int .u16 (v0 : Int)) := (block_cell h.mb 23).trans a0
  have d0 : w.cell? ⟨qx, i, none⟩ = some u0 := (block_cell h.xb _).trans b0
  have f0 : w.frozen? ⟨qx, i, none⟩ = false := block_free h.xb _
  have c2 : w.cell? ⟨qm, 23 + 1, none⟩ = some (.int .u32 (v1 : Int)) := (block_cell h.mb 24).trans a1
  have d1 : w.cell? ⟨qx, i + 1, none⟩ = some u1 := (block_cell h.xb _).trans b1
  have f1 : w.frozen? ⟨qx, i + 1, none⟩ = false := block_free h.xb _
  have c3 : w.cell? ⟨qm, 23 + 2, none⟩ = some (.int .u8 (v2 : Int)) := (block_cell h.mb 25).trans a2
  have d2 : w.cell? ⟨qx, i + 2, none⟩ = some u2 := (block_cell h.xb _).trans b2
  have f2 : w.frozen? ⟨qx, i + 2, none⟩ = false := block_free h.xb _
  have c4 : w.cell? ⟨qm, 23 + 3, none⟩ = some (.int .u32 (v3 : Int)) := (block_cell h.mb 26).trans a3
  have d3 : w.cell? ⟨qx, i + 3, none⟩ = some u3 := (block_cell h.xb _).trans b3
  have f3 : w.frozen? ⟨qx, i + 3, none⟩ = false := block_free h.xb _
  have c5 : w.cell? ⟨qm, 23 + 4, none⟩ = some (.int .u64 (v4 : Int)) := (block_cell h.mb 27).trans a4
  have d4 : w.cell? ⟨qx, i + 4, none⟩ = some u4 := (block_cell h.xb _).trans b4
  have f4 : w.frozen? ⟨qx, i + 4, none⟩ = false := block_free h.xb _
  have c6 : w.cell? ⟨qm, 23 + 5, none⟩ = some (.int .u32 (v5 : Int)) := (block_cell h.mb 28).trans a5
  have d5 : w.cell? ⟨qx, i + 5, none⟩ = some u5 := (block_cell h.xb _).trans b5
  have f5 : w.frozen? ⟨qx, i + 5, none⟩ = false := block_free h.xb _
  have c7 : w.cell? ⟨qm, 23 + 6, none⟩ = some (.int .u32 (v6 : Int)) := (block_cell h.mb 29).trans a6
  have d6 : w.cell? ⟨qx, i + 6, none⟩ = some u6 := (block_cell h.xb _).trans b6
  have f6 : w.frozen? ⟨qx, i + 6, none⟩ = false := block_free h.xb _
  have c8 : w.cell? ⟨qm, 23 + 7, none⟩ = some (.int .u32 (v7 : Int)) := (block_cell h.mb 30).trans a7
  have d7 : w.cell? ⟨qx, i + 7, none⟩ = some u7 := (block_cell h.xb _).trans b7
  have f7 : w.frozen? ⟨qx, i + 7, none⟩ = false := block_free h.xb _
  have c9 : w.cell? ⟨qm, 23 + 8, none⟩ = some (.int .u64 (v8 : Int)) := (block_cell h.mb 31).trans a8
  have d8 : w.cell? ⟨qx, i + 8, none⟩ = some u8 := (block_cell h.xb _).trans b8
  have f8 : w.frozen? ⟨qx, i + 8, none⟩ = false := block_free h.xb _
  have c10 : w.cell? ⟨qm, 23 + 9, none⟩ = some (.string v9) := (block_cell h.mb 32).trans a9
  have d9 : w.cell? ⟨qx, i + 9, none⟩ = some u9 := (block_cell h.xb _).trans b9
  have f9 : w.frozen? ⟨qx, i + 9, none⟩ = false := block_free h.xb _
  have c11 : w.cell? ⟨qm, 23 + 10, none⟩ = some (.string v10) := (block_cell h.mb 33).trans a10
  have d10 : w.cell? ⟨qx, i + 10, none⟩ = some u10 := (block_cell h.xb _).trans b10
  have f10 : w.frozen? ⟨qx, i + 10, none⟩ = false := block_free h.xb _
  have c12 : w.cell? ⟨qm, 23 + 11, none⟩ = some (.string v11) := (block_cell h.mb 34).trans a11
  have d11 : w.cell? ⟨qx, i + 11, none⟩ = some u11 := (block_cell h.xb _).trans b11
  have f11 : w.frozen? ⟨qx, i + 11, none⟩ = false := block_free h.xb _
  have c13 : w.cell? ⟨qm, 23 + 12, none⟩ = some (.string v12) := (block_cell h.mb 35).trans a12
  have d12 : w.cell? ⟨qx, i + 12, none⟩ = some u12 := (block_cell h.xb _).trans b12
  have f12 : w.frozen? ⟨qx, i + 12, none⟩ = false := block_free h.xb _
  replace h := hid h
  clear a0 a1 a2 a3 a4 a5 a6 a7 a8 a9 a10 a11 a12 b0 b1 b2 b3 b4 b5 b6 b7 b8 b9 b10 b11 b12
  go_enter Tryz.func113, Tryz.ntmps113
  go_wp2_with fail
  go_end0
  exact ⟨rfl, rfl⟩

def offsT : List Nat := [3, 7, 8, 9, 19]
theorem offsT_at (qm qx : Nat) : ∀ k, k < 5 → ∃ o, offsT[k]? = some o ∧ (cells_text qm qx)[k * 2]? = some (.pointer (some ⟨qx, o, none⟩)) ∧ (cells_text qm qx)[k * 2 + 1]? = some (.pointer (some ⟨qm, o, none⟩))
  | 0, _ => ⟨_, rfl, rfl, rfl⟩
  | 1, _ => ⟨_, rfl, rfl, rfl⟩
  | 2, _ => ⟨_, rfl, rfl, rfl⟩
  | 3, _ => ⟨_, rfl, rfl, rfl⟩
  | 4, _ => ⟨_, rfl, rfl, rfl⟩
theorem offsT_one : ∀ j k o, j < 5 → k < 5 → offsT[j]? = some o → offsT[k]? = some o → k = j := by
  intro j k o hj hk h1 h2
  have h : ∀ j < 5, ∀ k < 5, offsT[j]? = offsT[k]? → k = j := by decide
  exact h j hj k hk (h1.trans h2.symm)

theorem infoStr2 : (Tryz.prog.info? 9).map (fun i => (i.zero, i.size, i.bytes)) = some (some (.string ⟨#[]⟩), 1, 16) := by kernel_rfl
theorem eq_text_same (w : World) (a : Addr) : (binOp .eql 147 (.pointer (some a)) (.pointer (some a))).run Tryz.prog w = .ok (.bool true) w := by
  obtain ⟨i0, hi0, hz0, hz1, hz2⟩ := info_parts infoStr2
  exact run_eql_ptr_same w a Tryz.underlying147 hi0
theorem eq_text_other (w : World) (b i j : Nat) (cs : Array Value) (t : TypeId) (hb : w.heap[b]? = some (.cells cs t (0, 0))) (h : i ≠ j) : (binOp .eql 147 (.pointer (some ⟨b, i, none⟩)) (.pointer (some ⟨b, j, none⟩))).run Tryz.prog w = .ok (.bool false) w := by
  obtain ⟨i0, hi0, hz0, hz1, hz2⟩ := info_parts infoStr2
  exact run_eql_ptr_other w Tryz.underlying147 hi0 (by rw [hz1]; decide) (fun e => h (by cases e; rfl)) hb hb

set_option maxHeartbeats 4000000 in
theorem twin_text (t qm qx i j : Nat) (cm cx : Array Value) (ns : Nat → ByteArray) (w0 w : World) (h : TwAt w0 w t qm qx cm cx) (hj : j < 5) (hij : offsT[j]? = some i) (hm : ∀ (o k : Nat), offsT[k]? = some o → cm[o]? = some (Value.string (ns o))) (u : Value) (hx : cx[i]? = some u) :
    Calls Tryz.prog 114 #[.pointer (some ⟨t, 0, none⟩), .pointer (some ⟨qx, i, none⟩)] w (TwPost w0 t qm qx cm (cx.setIfInBounds i (.string (ns i)))) := by
  have c0 : w.cell? ⟨t, 0, none⟩ = some (.pointer (some ⟨qm, 0, none⟩)) := block_cell h.tw 0
  have c1 : w.cell? ⟨t, 1, none⟩ = some (.pointer (some ⟨qx, 0, none⟩)) := block_cell h.tw 1
  replace h := hid h
  replace hij := hid hij
  replace hm := hid hm
  replace hx := hid hx
  go_enter Tryz.func114, Tryz.ntmps114
  go_wp2_with fail
  have hSS := hid (show TwS t qm qx w from ⟨c0, c1⟩)
  refine region_text t qm qx i _ (fun _ _ d _ _ h => by cases d <;> exact h) w hSS.out ?_
  have hpb := heap_alloc_new w.drew (.cells (cells_text qm qx) 193)
  have hst := h.out.drew.same ((Below.refl w.drew.heap.size w.drew).alloc (Nat.le_refl _) (.cells (cells_text qm qx) 193))
  clear c0 c1
  go_wp2_with fail
  have hsz : w.drew.heap.size = w.heap.size := rfl
  have hqx : qx < w.heap.size := lt_of_block h.out.xb
  rw [hsz] at hpb
  have hj1 := hid hj
  replace hpb := hid hpb
  replace hst := hid hst
  clear hj
  go_loopw [73] (fun kv wr => ∃ k : Nat, k ≤ 5 ∧ kv = .int .i64 (k : Int) ∧ TwAt w0 wr t qm qx cm (if j < k then cx.setIfInBounds i (.string (ns i)) else cx) ∧ wr.heap[w.heap.size]? = some (.cells (cells_text qm qx) 193 (0, 0))) (fun kv _ => 5 - (intOf kv).toNat)
  case atStart => exact ⟨0, by omega, rfl, by rw [if_neg (by omega)]; exact hst.out, hpb.out⟩
  case round =>
    obtain ⟨k, hk, rfl, hT, hb⟩ := hrel
    by_cases hk5 : k < 5
    · obtain ⟨o, ho, hc1, hc2⟩ := offsT_at qm qx k hk5
      have p1 : wr.cell? ⟨w.heap.size, k * 2, none⟩ = some (.pointer (some ⟨qx, o, none⟩)) := (block_cell hb _).trans hc1
      have p2 : wr.cell? ⟨w.heap.size, k * 2 + 1, none⟩ = some (.pointer (some ⟨qm, o, none⟩)) := (block_cell hb _).trans hc2
      have hbl := lt_of_block hb
      have hbb := (Below.refl wr.heap.size wr).alloc (Nat.le_refl _) (.cells #[.pointer (some ⟨qx, o, none⟩), .pointer (some ⟨qm, o, none⟩)] 193)
      have hT2 := hid (hT.same hbb)
      have hb2 := hid ((hbb.block w.heap.size hbl).trans hb)
      have m1 : wr.cell? ⟨qm, o, none⟩ = some (.string (ns o)) := (block_cell hT.mb o).trans (hm.out o k ho)
      have hqm := lt_of_block hT.mb
      have hqx2 := lt_of_block hT.xb
      replace hb := hid hb
      by_cases hoi : o = i
      · subst hoi
        have hkj : k = j := offsT_one j k o hj1.out hk5 hij.out ho
        subst hkj
        have x1 : wr.cell? ⟨qx, o, none⟩ = some u := by rw [block_cell hT.xb o, if_neg (by omega)]; exact hx.out
        have f1 : wr.frozen? ⟨qx, o, none⟩ = false := block_free hT.xb o
        replace ho := hid ho
        replace hT := hid hT
        have heq := eq_text_same (wr.alloc (.cells #[.pointer (some ⟨qx, o, none⟩), .pointer (some ⟨qm, o, none⟩)] 193)) ⟨qx, o, none⟩
        have hA : Hid (TwAt w0 ((wr.setCell ⟨qx, o, none⟩ (.string (ns o))).alloc (.cells #[.pointer (some ⟨qx, o, none⟩), .pointer (some ⟨qm, o, none⟩)] 193)) t qm qx cm (cx.setIfInBounds o (.string (ns o)))) := hid (by
          have hT0 := hT.out
          rw [if_neg (by omega)] at hT0
          exact (hT0.set o _).same ((Below.refl _ _).alloc (Nat.le_refl _) _))
        have hB : Hid (((wr.setCell ⟨qx, o, none⟩ (.string (ns o))).alloc (.cells #[.pointer (some ⟨qx, o, none⟩), .pointer (some ⟨qm, o, none⟩)] 193)).heap[w.heap.size]? = some (.cells (cells_text qm qx) 193 (0, 0))) := hid (by
          rw [heap_alloc_old _ _ (by simpa using hbl)]
          exact (block_set_other (by show w.heap.size ≠ qx; omega)).trans hb.out)
        go_wp2_with fail
        go_roundw
        case rel => exact ⟨k + 1, by omega, by go_num, by rw [if_pos (by omega)]; exact hA.out, hB.out⟩
        case measure => simp [intOf]; omega
      · have heq := eq_text_other _ qx o i _ _ hT2.out.xb hoi
        have hkj : Hid (k ≠ j) := hid (fun e => hoi (by subst e; rw [hij.out] at ho; exact (Option.some.inj ho).symm))
        have hif : Hid ((if j < k + 1 then cx.setIfInBounds i (.string (ns i)) else cx) = (if j < k then cx.setIfInBounds i (.string (ns i)) else cx)) := hid (by
          have := hkj.out
          by_cases hjk : j < k
          · rw [if_pos hjk, if_pos (by omega)]
          · rw [if_neg hjk, if_neg (by omega)])
        replace ho := hid ho
        replace hT := hid hT
        go_wp2_with fail
        go_roundw
        case rel => exact ⟨k + 1, by omega, by go_num, by rw [hif.out]; exact hT2.out, hb2.out⟩
        case measure => simp [intOf]; omega
    · obtain rfl : k = 5 := by omega
      rw [if_pos hj1.out] at hT
      replace hT := hid hT
      replace hb := hid hb
      go_wp2_with fail
      go_end0
      exact ⟨rfl, hT.out⟩
end
end Go.Proofs.YtcbglcebdkpcfaaGreat
