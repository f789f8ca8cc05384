/- The great drawn region of u32 and text of msg.twin: what it leaves behind. No condition. -/
import Derived.Test.YtcbglcebdkpcfaaGreatCeA09
import Derived.Deep.RegionHeld3
namespace Go.Proofs.YtcbglcebdkpcfaaGreat
open Go.RowKit
set_option maxRecDepth 100000
set_option linter.unusedVariables false

def firstB (n k : Nat) : Array Bool := ((List.range n).map fun i => decide (i < k)).toArray

theorem wpAnyH_takes {P : Program} {md : Region.Mode} {ops : Array Oper} {Q : Exit → Act → World → Prop} {S : World → Prop} (hs : Region.noSelect ops = true) (lk : Nat → Array Bool) (A : Nat → Act)
    (hQ : ∀ c (a : Act) d v w, Q (.panic c) (a.put d v) w → Q (.panic c) a w) {w : World} (hS : S w) (f : Nat) : ∀ (n k : Nat),
    (∀ j, k ≤ j → j < k + n → Region.free md ops (lk j) j = true ∧ (Region.ready md ops (lk j)).contains j = true ∧ (lk j).setIfInBounds j true = lk (j + 1)) →
    (∀ j, k ≤ j → j < k + n → ∃ oi v, ops[j]? = some oi ∧ YieldsIf P ops S oi v (A j) ∧ (A j).put oi.dst v = A (j + 1)) →
    wpAnyH P md ops Q S f (lk (k + n)) (A (k + n)) w → wpAnyH P md ops Q S (n + f) (lk k) (A k) w
  | 0, k, _, _, h => by rw [Nat.zero_add]; exact h
  | n + 1, k, h1, h2, h => by
    obtain ⟨hf, hr, he⟩ := h1 k (Nat.le_refl _) (by omega)
    obtain ⟨oi, v, hi, hy, ha⟩ := h2 k (Nat.le_refl _) (by omega)
    rw [show n + 1 + f = (n + f) + 1 from by omega]
    refine wpAnyH_take hi hs hf hr (fun c a w => hQ c a _ _ w) hy hS ?_
    rw [he, ha]
    exact wpAnyH_takes hs lk A hQ hS f n (k + 1) (fun j a b => h1 j (by omega) (by omega)) (fun j a b => h2 j (by omega) (by omega)) (by rw [show k + 1 + n = k + (n + 1) from by omega]; exact h)

def headOps : Code → Array Oper
  | .seq c _ => headOps c
  | .region _ ops _ => ops
  | .block _ c => headOps c
  | _ => #[]

def pt (b i : Nat) : Value := .pointer (some ⟨b, i, none⟩)
noncomputable def ops_u32 : Array Oper := match Tryz.f117.body with | some c => headOps c | none => #[]
def vals_u32 (t qm qx : Nat) : List Value := [pt t 0, pt t 0, pt t 1, pt qx 0, pt qx 0, pt qx 2, pt t 0, pt t 0, pt t 0, pt qm 0, pt qm 0, pt qm 2, .agg #[pt qx 2, pt qm 2], pt t 0, pt t 0, pt t 1, pt qx 0, pt qx 0, pt qx 4, pt t 0, pt t 0, pt t 0, pt qm 0, pt qm 0, pt qm 4, .agg #[pt qx 4, pt qm 4], pt t 0, pt t 0, pt t 1, pt qx 0, pt qx 0, pt qx 5, pt t 0, pt t 0, pt t 0, pt qm 0, pt qm 0, pt qm 5, .agg #[pt qx 5, pt qm 5], pt t 0, pt t 0, pt t 1, pt qx 0, pt qx 0, pt qx 6, pt t 0, pt t 0, pt t 0, pt qm 0, pt qm 0, pt qm 6, .agg #[pt qx 6, pt qm 6], pt t 0, pt t 0, pt t 1, pt qx 0, pt qx 0, pt qx 16, pt t 0, pt t 0, pt t 0, pt qm 0, pt qm 0, pt qm 16, .agg #[pt qx 16, pt qm 16], pt t 0, pt t 0, pt t 1, pt qx 0, pt qx 0, pt qx 18, pt t 0, pt t 0, pt t 0, pt qm 0, pt qm 0, pt qm 18, .agg #[pt qx 18, pt qm 18], pt t 0, pt t 0, pt t 1, pt qx 0, pt qx 0, pt qx 21, pt t 0, pt t 0, pt t 0, pt qm 0, pt qm 0, pt qm 21, .agg #[pt qx 21, pt qm 21]]
def act_u32 (t qm qx i : Nat) (k : Nat) : Act := { tmps := ([pt t 0, pt qx i, undef, undef, undef, undef] ++ (vals_u32 t qm qx).take k ++ List.replicate (108 - k) undef).toArray, defers := [] }
def TwS (t qm qx : Nat) (w : World) : Prop := w.cell? ⟨t, 0, none⟩ = some (pt qm 0) ∧ w.cell? ⟨t, 1, none⟩ = some (pt qx 0)
theorem order_u32_0 : (Region.free .any ops_u32 (firstB 94 0) 0 && (Region.ready .any ops_u32 (firstB 94 0)).contains 0 && ((firstB 94 0).setIfInBounds 0 true == firstB 94 1)) = true := by kernel_rfl
theorem order_u32_1 : (Region.free .any ops_u32 (firstB 94 1) 1 && (Region.ready .any ops_u32 (firstB 94 1)).contains 1 && ((firstB 94 1).setIfInBounds 1 true == firstB 94 2)) = true := by kernel_rfl
theorem order_u32_2 : (Region.free .any ops_u32 (firstB 94 2) 2 && (Region.ready .any ops_u32 (firstB 94 2)).contains 2 && ((firstB 94 2).setIfInBounds 2 true == firstB 94 3)) = true := by kernel_rfl
theorem order_u32_3 : (Region.free .any ops_u32 (firstB 94 3) 3 && (Region.ready .any ops_u32 (firstB 94 3)).contains 3 && ((firstB 94 3).setIfInBounds 3 true == firstB 94 4)) = true := by kernel_rfl
theorem order_u32_4 : (Region.free .any ops_u32 (firstB 94 4) 4 && (Region.ready .any ops_u32 (firstB 94 4)).contains 4 && ((firstB 94 4).setIfInBounds 4 true == firstB 94 5)) = true := by kernel_rfl
theorem order_u32_5 : (Region.free .any ops_u32 (firstB 94 5) 5 && (Region.ready .any ops_u32 (firstB 94 5)).contains 5 && ((firstB 94 5).setIfInBounds 5 true == firstB 94 6)) = true := by kernel_rfl
theorem order_u32_6 : (Region.free .any ops_u32 (firstB 94 6) 6 && (Region.ready .any ops_u32 (firstB 94 6)).contains 6 && ((firstB 94 6).setIfInBounds 6 true == firstB 94 7)) = true := by kernel_rfl
theorem order_u32_7 : (Region.free .any ops_u32 (firstB 94 7) 7 && (Region.ready .any ops_u32 (firstB 94 7)).contains 7 && ((firstB 94 7).setIfInBounds 7 true == firstB 94 8)) = true := by kernel_rfl
theorem order_u32_8 : (Region.free .any ops_u32 (firstB 94 8) 8 && (Region.ready .any ops_u32 (firstB 94 8)).contains 8 && ((firstB 94 8).setIfInBounds 8 true == firstB 94 9)) = true := by kernel_rfl
theorem order_u32_9 : (Region.free .any ops_u32 (firstB 94 9) 9 && (Region.ready .any ops_u32 (firstB 94 9)).contains 9 && ((firstB 94 9).setIfInBounds 9 true == firstB 94 10)) = true := by kernel_rfl
theorem order_u32_10 : (Region.free .any ops_u32 (firstB 94 10) 10 && (Region.ready .any ops_u32 (firstB 94 10)).contains 10 && ((firstB 94 10).setIfInBounds 10 true == firstB 94 11)) = true := by kernel_rfl
theorem order_u32_11 : (Region.free .any ops_u32 (firstB 94 11) 11 && (Region.ready .any ops_u32 (firstB 94 11)).contains 11 && ((firstB 94 11).setIfInBounds 11 true == firstB 94 12)) = true := by kernel_rfl
theorem order_u32_12 : (Region.free .any ops_u32 (firstB 94 12) 12 && (Region.ready .any ops_u32 (firstB 94 12)).contains 12 && ((firstB 94 12).setIfInBounds 12 true == firstB 94 13)) = true := by kernel_rfl
theorem order_u32_13 : (Region.free .any ops_u32 (firstB 94 13) 13 && (Region.ready .any ops_u32 (firstB 94 13)).contains 13 && ((firstB 94 13).setIfInBounds 13 true == firstB 94 14)) = true := by kernel_rfl
theorem order_u32_14 : (Region.free .any ops_u32 (firstB 94 14) 14 && (Region.ready .any ops_u32 (firstB 94 14)).contains 14 && ((firstB 94 14).setIfInBounds 14 true == firstB 94 15)) = true := by kernel_rfl
theorem order_u32_15 : (Region.free .any ops_u32 (firstB 94 15) 15 && (Region.ready .any ops_u32 (firstB 94 15)).contains 15 && ((firstB 94 15).setIfInBounds 15 true == firstB 94 16)) = true := by kernel_rfl
theorem order_u32_16 : (Region.free .any ops_u32 (firstB 94 16) 16 && (Region.ready .any ops_u32 (firstB 94 16)).contains 16 && ((firstB 94 16).setIfInBounds 16 true == firstB 94 17)) = true := by kernel_rfl
theorem order_u32_17 : (Region.free .any ops_u32 (firstB 94 17) 17 && (Region.ready .any ops_u32 (firstB 94 17)).contains 17 && ((firstB 94 17).setIfInBounds 17 true == firstB 94 18)) = true := by kernel_rfl
theorem order_u32_18 : (Region.free .any ops_u32 (firstB 94 18) 18 && (Region.ready .any ops_u32 (firstB 94 18)).contains 18 && ((firstB 94 18).setIfInBounds 18 true == firstB 94 19)) = true := by kernel_rfl
theorem order_u32_19 : (Region.free .any ops_u32 (firstB 94 19) 19 && (Region.ready .any ops_u32 (firstB 94 19)).contains 19 && ((firstB 94 19).setIfInBounds 19 true == firstB 94 20)) = true := by kernel_rfl
theorem order_u32_20 : (Region.free .any ops_u32 (firstB 94 20) 20 && (Region.ready .any ops_u32 (firstB 94 20)).contains 20 && ((firstB 94 20).setIfInBounds 20 true == firstB 94 21)) = true := by kernel_rfl
theorem order_u32_21 : (Region.free .any ops_u32 (firstB 94 21) 21 && (Region.ready .any ops_u32 (firstB 94 21)).contains 21 && ((firstB 94 21).setIfInBounds 21 true == firstB 94 22)) = true := by kernel_rfl
theorem order_u32_22 : (Region.free .any ops_u32 (firstB 94 22) 22 && (Region.ready .any ops_u32 (firstB 94 22)).contains 22 && ((firstB 94 22).setIfInBounds 22 true == firstB 94 23)) = true := by kernel_rfl
theorem order_u32_23 : (Region.free .any ops_u32 (firstB 94 23) 23 && (Region.ready .any ops_u32 (firstB 94 23)).contains 23 && ((firstB 94 23).setIfInBounds 23 true == firstB 94 24)) = true := by kernel_rfl
theorem order_u32_24 : (Region.free .any ops_u32 (firstB 94 24) 24 && (Region.ready .any ops_u32 (firstB 94 24)).contains 24 && ((firstB 94 24).setIfInBounds 24 true == firstB 94 25)) = true := by kernel_rfl
theorem order_u32_25 : (Region.free .any ops_u32 (firstB 94 25) 25 && (Region.ready .any ops_u32 (firstB 94 25)).contains 25 && ((firstB 94 25).setIfInBounds 25 true == firstB 94 26)) = true := by kernel_rfl
theorem order_u32_26 : (Region.free .any ops_u32 (firstB 94 26) 26 && (Region.ready .any ops_u32 (firstB 94 26)).contains 26 && ((firstB 94 26).setIfInBounds 26 true == firstB 94 27)) = true := by kernel_rfl
theorem order_u32_27 : (Region.free .any ops_u32 (firstB 94 27) 27 && (Region.ready .any ops_u32 (firstB 94 27)).contains 27 && ((firstB 94 27).setIfInBounds 27 true == firstB 94 28)) = true := by kernel_rfl
theorem order_u32_28 : (Region.free .any ops_u32 (firstB 94 28) 28 && (Region.ready .any ops_u32 (firstB 94 28)).contains 28 && ((firstB 94 28).setIfInBounds 28 true == firstB 94 29)) = true := by kernel_rfl
theorem order_u32_29 : (Region.free .any ops_u32 (firstB 94 29) 29 && (Region.ready .any ops_u32 (firstB 94 29)).contains 29 && ((firstB 94 29).setIfInBounds 29 true == firstB 94 30)) = true := by kernel_rfl
theorem order_u32_30 : (Region.free .any ops_u32 (firstB 94 30) 30 && (Region.ready .any ops_u32 (firstB 94 30)).contains 30 && ((firstB 94 30).setIfInBounds 30 true == firstB 94 31)) = true := by kernel_rfl
theorem order_u32_31 : (Region.free .any ops_u32 (firstB 94 31) 31 && (Region.ready .any ops_u32 (firstB 94 31)).contains 31 && ((firstB 94 31).setIfInBounds 31 true == firstB 94 32)) = true := by kernel_rfl
theorem order_u32_32 : (Region.free .any ops_u32 (firstB 94 32) 32 && (Region.ready .any ops_u32 (firstB 94 32)).contains 32 && ((firstB 94 32).setIfInBounds 32 true == firstB 94 33)) = true := by kernel_rfl
theorem order_u32_33 : (Region.free .any ops_u32 (firstB 94 33) 33 && (Region.ready .any ops_u32 (firstB 94 33)).contains 33 && ((firstB 94 33).setIfInBounds 33 true == firstB 94 34)) = true := by kernel_rfl
theorem order_u32_34 : (Region.free .any ops_u32 (firstB 94 34) 34 && (Region.ready .any ops_u32 (firstB 94 34)).contains 34 && ((firstB 94 34).setIfInBounds 34 true == firstB 94 35)) = true := by kernel_rfl
theorem order_u32_35 : (Region.free .any ops_u32 (firstB 94 35) 35 && (Region.ready .any ops_u32 (firstB 94 35)).contains 35 && ((firstB 94 35).setIfInBounds 35 true == firstB 94 36)) = true := by kernel_rfl
theorem order_u32_36 : (Region.free .any ops_u32 (firstB 94 36) 36 && (Region.ready .any ops_u32 (firstB 94 36)).contains 36 && ((firstB 94 36).setIfInBounds 36 true == firstB 94 37)) = true := by kernel_rfl
theorem order_u32_37 : (Region.free .any ops_u32 (firstB 94 37) 37 && (Region.ready .any ops_u32 (firstB 94 37)).contains 37 && ((firstB 94 37).setIfInBounds 37 true == firstB 94 38)) = true := by kernel_rfl
theorem order_u32_38 : (Region.free .any ops_u32 (firstB 94 38) 38 && (Region.ready .any ops_u32 (firstB 94 38)).contains 38 && ((firstB 94 38).setIfInBounds 38 true == firstB 94 39)) = true := by kernel_rfl
theorem order_u32_39 : (Region.free .any ops_u32 (firstB 94 39) 39 && (Region.ready .any ops_u32 (firstB 94 39)).contains 39 && ((firstB 94 39).setIfInBounds 39 true == firstB 94 40)) = true := by kernel_rfl
theorem order_u32_40 : (Region.free .any ops_u32 (firstB 94 40) 40 && (Region.ready .any ops_u32 (firstB 94 40)).contains 40 && ((firstB 94 40).setIfInBounds 40 true == firstB 94 41)) = true := by kernel_rfl
theorem order_u32_41 : (Region.free .any ops_u32 (firstB 94 41) 41 && (Region.ready .any ops_u32 (firstB 94 41)).contains 41 && ((firstB 94 41).setIfInBounds 41 true == firstB 94 42)) = true := by kernel_rfl
theorem order_u32_42 : (Region.free .any ops_u32 (firstB 94 42) 42 && (Region.ready .any ops_u32 (firstB 94 42)).contains 42 && ((firstB 94 42).setIfInBounds 42 true == firstB 94 43)) = true := by kernel_rfl
theorem order_u32_43 : (Region.free .any ops_u32 (firstB 94 43) 43 && (Region.ready .any ops_u32 (firstB 94 43)).contains 43 && ((firstB 94 43).setIfInBounds 43 true == firstB 94 44)) = true := by kernel_rfl
theorem order_u32_44 : (Region.free .any ops_u32 (firstB 94 44) 44 && (Region.ready .any ops_u32 (firstB 94 44)).contains 44 && ((firstB 94 44).setIfInBounds 44 true == firstB 94 45)) = true := by kernel_rfl
theorem order_u32_45 : (Region.free .any ops_u32 (firstB 94 45) 45 && (Region.ready .any ops_u32 (firstB 94 45)).contains 45 && ((firstB 94 45).setIfInBounds 45 true == firstB 94 46)) = true := by kernel_rfl
theorem order_u32_46 : (Region.free .any ops_u32 (firstB 94 46) 46 && (Region.ready .any ops_u32 (firstB 94 46)).contains 46 && ((firstB 94 46).setIfInBounds 46 true == firstB 94 47)) = true := by kernel_rfl
theorem order_u32_47 : (Region.free .any ops_u32 (firstB 94 47) 47 && (Region.ready .any ops_u32 (firstB 94 47)).contains 47 && ((firstB 94 47).setIfInBounds 47 true == firstB 94 48)) = true := by kernel_rfl
theorem order_u32_48 : (Region.free .any ops_u32 (firstB 94 48) 48 && (Region.ready .any ops_u32 (firstB 94 48)).contains 48 && ((firstB 94 48).setIfInBounds 48 true == firstB 94 49)) = true := by kernel_rfl
theorem order_u32_49 : (Region.free .any ops_u32 (firstB 94 49) 49 && (Region.ready .any ops_u32 (firstB 94 49)).contains 49 && ((firstB 94 49).setIfInBounds 49 true == firstB 94 50)) = true := by kernel_rfl
theorem order_u32_50 : (Region.free .any ops_u32 (firstB 94 50) 50 && (Region.ready .any ops_u32 (firstB 94 50)).contains 50 && ((firstB 94 50).setIfInBounds 50 true == firstB 94 51)) = true := by kernel_rfl
theorem order_u32_51 : (Region.free .any ops_u32 (firstB 94 51) 51 && (Region.ready .any ops_u32 (firstB 94 51)).contains 51 && ((firstB 94 51).setIfInBounds 51 true == firstB 94 52)) = true := by kernel_rfl
theorem order_u32_52 : (Region.free .any ops_u32 (firstB 94 52) 52 && (Region.ready .any ops_u32 (firstB 94 52)).contains 52 && ((firstB 94 52).setIfInBounds 52 true == firstB 94 53)) = true := by kernel_rfl
theorem order_u32_53 : (Region.free .any ops_u32 (firstB 94 53) 53 && (Region.ready .any ops_u32 (firstB 94 53)).contains 53 && ((firstB 94 53).setIfInBounds 53 true == firstB 94 54)) = true := by kernel_rfl
theorem order_u32_54 : (Region.free .any ops_u32 (firstB 94 54) 54 && (Region.ready .any ops_u32 (firstB 94 54)).contains 54 && ((firstB 94 54).setIfInBounds 54 true == firstB 94 55)) = true := by kernel_rfl
theorem order_u32_55 : (Region.free .any ops_u32 (firstB 94 55) 55 && (Region.ready .any ops_u32 (firstB 94 55)).contains 55 && ((firstB 94 55).setIfInBounds 55 true == firstB 94 56)) = true := by kernel_rfl
theorem order_u32_56 : (Region.free .any ops_u32 (firstB 94 56) 56 && (Region.ready .any ops_u32 (firstB 94 56)).contains 56 && ((firstB 94 56).setIfInBounds 56 true == firstB 94 57)) = true := by kernel_rfl
theorem order_u32_57 : (Region.free .any ops_u32 (firstB 94 57) 57 && (Region.ready .any ops_u32 (firstB 94 57)).contains 57 && ((firstB 94 57).setIfInBounds 57 true == firstB 94 58)) = true := by kernel_rfl
theorem order_u32_58 : (Region.free .any ops_u32 (firstB 94 58) 58 && (Region.ready .any ops_u32 (firstB 94 58)).contains 58 && ((firstB 94 58).setIfInBounds 58 true == firstB 94 59)) = true := by kernel_rfl
theorem order_u32_59 : (Region.free .any ops_u32 (firstB 94 59) 59 && (Region.ready .any ops_u32 (firstB 94 59)).contains 59 && ((firstB 94 59).setIfInBounds 59 true == firstB 94 60)) = true := by kernel_rfl
theorem order_u32_60 : (Region.free .any ops_u32 (firstB 94 60) 60 && (Region.ready .any ops_u32 (firstB 94 60)).contains 60 && ((firstB 94 60).setIfInBounds 60 true == firstB 94 61)) = true := by kernel_rfl
theorem order_u32_61 : (Region.free .any ops_u32 (firstB 94 61) 61 && (Region.ready .any ops_u32 (firstB 94 61)).contains 61 && ((firstB 94 61).setIfInBounds 61 true == firstB 94 62)) = true := by kernel_rfl
theorem order_u32_62 : (Region.free .any ops_u32 (firstB 94 62) 62 && (Region.ready .any ops_u32 (firstB 94 62)).contains 62 && ((firstB 94 62).setIfInBounds 62 true == firstB 94 63)) = true := by kernel_rfl
theorem order_u32_63 : (Region.free .any ops_u32 (firstB 94 63) 63 && (Region.ready .any ops_u32 (firstB 94 63)).contains 63 && ((firstB 94 63).setIfInBounds 63 true == firstB 94 64)) = true := by kernel_rfl
theorem order_u32_64 : (Region.free .any ops_u32 (firstB 94 64) 64 && (Region.ready .any ops_u32 (firstB 94 64)).contains 64 && ((firstB 94 64).setIfInBounds 64 true == firstB 94 65)) = true := by kernel_rfl
theorem order_u32_65 : (Region.free .any ops_u32 (firstB 94 65) 65 && (Region.ready .any ops_u32 (firstB 94 65)).contains 65 && ((firstB 94 65).setIfInBounds 65 true == firstB 94 66)) = true := by kernel_rfl
theorem order_u32_66 : (Region.free .any ops_u32 (firstB 94 66) 66 && (Region.ready .any ops_u32 (firstB 94 66)).contains 66 && ((firstB 94 66).setIfInBounds 66 true == firstB 94 67)) = true := by kernel_rfl
theorem order_u32_67 : (Region.free .any ops_u32 (firstB 94 67) 67 && (Region.ready .any ops_u32 (firstB 94 67)).contains 67 && ((firstB 94 67).setIfInBounds 67 true == firstB 94 68)) = true := by kernel_rfl
theorem order_u32_68 : (Region.free .any ops_u32 (firstB 94 68) 68 && (Region.ready .any ops_u32 (firstB 94 68)).contains 68 && ((firstB 94 68).setIfInBounds 68 true == firstB 94 69)) = true := by kernel_rfl
theorem order_u32_69 : (Region.free .any ops_u32 (firstB 94 69) 69 && (Region.ready .any ops_u32 (firstB 94 69)).contains 69 && ((firstB 94 69).setIfInBounds 69 true == firstB 94 70)) = true := by kernel_rfl
theorem order_u32_70 : (Region.free .any ops_u32 (firstB 94 70) 70 && (Region.ready .any ops_u32 (firstB 94 70)).contains 70 && ((firstB 94 70).setIfInBounds 70 true == firstB 94 71)) = true := by kernel_rfl
theorem order_u32_71 : (Region.free .any ops_u32 (firstB 94 71) 71 && (Region.ready .any ops_u32 (firstB 94 71)).contains 71 && ((firstB 94 71).setIfInBounds 71 true == firstB 94 72)) = true := by kernel_rfl
theorem order_u32_72 : (Region.free .any ops_u32 (firstB 94 72) 72 && (Region.ready .any ops_u32 (firstB 94 72)).contains 72 && ((firstB 94 72).setIfInBounds 72 true == firstB 94 73)) = true := by kernel_rfl
theorem order_u32_73 : (Region.free .any ops_u32 (firstB 94 73) 73 && (Region.ready .any ops_u32 (firstB 94 73)).contains 73 && ((firstB 94 73).setIfInBounds 73 true == firstB 94 74)) = true := by kernel_rfl
theorem order_u32_74 : (Region.free .any ops_u32 (firstB 94 74) 74 && (Region.ready .any ops_u32 (firstB 94 74)).contains 74 && ((firstB 94 74).setIfInBounds 74 true == firstB 94 75)) = true := by kernel_rfl
theorem order_u32_75 : (Region.free .any ops_u32 (firstB 94 75) 75 && (Region.ready .any ops_u32 (firstB 94 75)).contains 75 && ((firstB 94 75).setIfInBounds 75 true == firstB 94 76)) = true := by kernel_rfl
theorem order_u32_76 : (Region.free .any ops_u32 (firstB 94 76) 76 && (Region.ready .any ops_u32 (firstB 94 76)).contains 76 && ((firstB 94 76).setIfInBounds 76 true == firstB 94 77)) = true := by kernel_rfl
theorem order_u32_77 : (Region.free .any ops_u32 (firstB 94 77) 77 && (Region.ready .any ops_u32 (firstB 94 77)).contains 77 && ((firstB 94 77).setIfInBounds 77 true == firstB 94 78)) = true := by kernel_rfl
theorem order_u32_78 : (Region.free .any ops_u32 (firstB 94 78) 78 && (Region.ready .any ops_u32 (firstB 94 78)).contains 78 && ((firstB 94 78).setIfInBounds 78 true == firstB 94 79)) = true := by kernel_rfl
theorem order_u32_79 : (Region.free .any ops_u32 (firstB 94 79) 79 && (Region.ready .any ops_u32 (firstB 94 79)).contains 79 && ((firstB 94 79).setIfInBounds 79 true == firstB 94 80)) = true := by kernel_rfl
theorem order_u32_80 : (Region.free .any ops_u32 (firstB 94 80) 80 && (Region.ready .any ops_u32 (firstB 94 80)).contains 80 && ((firstB 94 80).setIfInBounds 80 true == firstB 94 81)) = true := by kernel_rfl
theorem order_u32_81 : (Region.free .any ops_u32 (firstB 94 81) 81 && (Region.ready .any ops_u32 (firstB 94 81)).contains 81 && ((firstB 94 81).setIfInBounds 81 true == firstB 94 82)) = true := by kernel_rfl
theorem order_u32_82 : (Region.free .any ops_u32 (firstB 94 82) 82 && (Region.ready .any ops_u32 (firstB 94 82)).contains 82 && ((firstB 94 82).setIfInBounds 82 true == firstB 94 83)) = true := by kernel_rfl
theorem order_u32_83 : (Region.free .any ops_u32 (firstB 94 83) 83 && (Region.ready .any ops_u32 (firstB 94 83)).contains 83 && ((firstB 94 83).setIfInBounds 83 true == firstB 94 84)) = true := by kernel_rfl
theorem order_u32_84 : (Region.free .any ops_u32 (firstB 94 84) 84 && (Region.ready .any ops_u32 (firstB 94 84)).contains 84 && ((firstB 94 84).setIfInBounds 84 true == firstB 94 85)) = true := by kernel_rfl
theorem order_u32_85 : (Region.free .any ops_u32 (firstB 94 85) 85 && (Region.ready .any ops_u32 (firstB 94 85)).contains 85 && ((firstB 94 85).setIfInBounds 85 true == firstB 94 86)) = true := by kernel_rfl
theorem order_u32_86 : (Region.free .any ops_u32 (firstB 94 86) 86 && (Region.ready .any ops_u32 (firstB 94 86)).contains 86 && ((firstB 94 86).setIfInBounds 86 true == firstB 94 87)) = true := by kernel_rfl
theorem order_u32_87 : (Region.free .any ops_u32 (firstB 94 87) 87 && (Region.ready .any ops_u32 (firstB 94 87)).contains 87 && ((firstB 94 87).setIfInBounds 87 true == firstB 94 88)) = true := by kernel_rfl
theorem order_u32_88 : (Region.free .any ops_u32 (firstB 94 88) 88 && (Region.ready .any ops_u32 (firstB 94 88)).contains 88 && ((firstB 94 88).setIfInBounds 88 true == firstB 94 89)) = true := by kernel_rfl
theorem order_u32_89 : (Region.free .any ops_u32 (firstB 94 89) 89 && (Region.ready .any ops_u32 (firstB 94 89)).contains 89 && ((firstB 94 89).setIfInBounds 89 true == firstB 94 90)) = true := by kernel_rfl
theorem order_u32_90 : (Region.free .any ops_u32 (firstB 94 90) 90 && (Region.ready .any ops_u32 (firstB 94 90)).contains 90 && ((firstB 94 90).setIfInBounds 90 true == firstB 94 91)) = true := by kernel_rfl
theorem run_twload (w : World) (a : Addr) (v : Value) (o : Oper) (ev : Operand → Value) (x : Operand) (ho : o.op = .load 108 x) (hx : ev x = .pointer (some a)) (h : w.cell? a = some v) : (execOp ev o).run Tryz.prog w = .ok (.value v) w := by
  simp [execOp, ho, hx, go_sem, h]
theorem y_u32_0 (t qm qx i : Nat) : ∃ oi v, ops_u32[0]? = some oi ∧ YieldsIf Tryz.prog ops_u32 (TwS t qm qx) oi v (act_u32 t qm qx i 0) ∧ (act_u32 t qm qx i 0).put oi.dst v = act_u32 t qm qx i 1 :=
  ⟨_, pt t 0, rfl, .inl ⟨by kernel_rfl, fun w _ => by kernel_rfl⟩, by kernel_rfl⟩
theorem y_u32_1 (t qm qx i : Nat) : ∃ oi v, ops_u32[1]? = some oi ∧ YieldsIf Tryz.prog ops_u32 (TwS t qm qx) oi v (act_u32 t qm qx i 1) ∧ (act_u32 t qm qx i 1).put oi.dst v = act_u32 t qm qx i 2 :=
  ⟨_, pt t 0, rfl, .inl ⟨by kernel_rfl, fun w _ => by kernel_rfl⟩, by kernel_rfl⟩
theorem y_u32_2 (t qm qx i : Nat) : ∃ oi v, ops_u32[2]? = some oi ∧ YieldsIf Tryz.prog ops_u32 (TwS t qm qx) oi v (act_u32 t qm qx i 2) ∧ (act_u32 t qm qx i 2).put oi.dst v = act_u32 t qm qx i 3 :=
  ⟨_, pt t 1, rfl, .inl ⟨by kernel_rfl, fun w _ => by kernel_rfl⟩, by kernel_rfl⟩
theorem y_u32_3 (t qm qx i : Nat) : ∃ oi v, ops_u32[3]? = some oi ∧ YieldsIf Tryz.prog ops_u32 (TwS t qm qx) oi v (act_u32 t qm qx i 3) ∧ (act_u32 t qm qx i 3).put oi.dst v = act_u32 t qm qx i 4 :=
  ⟨_, pt qx 0, rfl, .inl ⟨by kernel_rfl, fun w hS => run_twload w _ _ _ _ (.tmp 8) (by kernel_rfl) (by kernel_rfl) hS.2⟩, by kernel_rfl⟩
theorem y_u32_4 (t qm qx i : Nat) : ∃ oi v, ops_u32[4]? = some oi ∧ YieldsIf Tryz.prog ops_u32 (TwS t qm qx) oi v (act_u32 t qm qx i 4) ∧ (act_u32 t qm qx i 4).put oi.dst v = act_u32 t qm qx i 5 :=
  ⟨_, pt qx 0, rfl, .inl ⟨by kernel_rfl, fun w _ => by kernel_rfl⟩, by kernel_rfl⟩
theorem y_u32_5 (t qm qx i : Nat) : ∃ oi v, ops_u32[5]? = some oi ∧ YieldsIf Tryz.prog ops_u32 (TwS t qm qx) oi v (act_u32 t qm qx i 5) ∧ (act_u32 t qm qx i 5).put oi.dst v = act_u32 t qm qx i 6 :=
  ⟨_, pt qx 2, rfl, .inl ⟨by kernel_rfl, fun w _ => by kernel_rfl⟩, by kernel_rfl⟩
theorem y_u32_6 (t qm qx i : Nat) : ∃ oi v, ops_u32[6]? = some oi ∧ YieldsIf Tryz.prog ops_u32 (TwS t qm qx) oi v (act_u32 t qm qx i 6) ∧ (act_u32 t qm qx i 6).put oi.dst v = act_u32 t qm qx i 7 :=
  ⟨_, pt t 0, rfl, .inl ⟨by kernel_rfl, fun w _ => by kernel_rfl⟩, by kernel_rfl⟩
theorem y_u32_7 (t qm qx i : Nat) : ∃ oi v, ops_u32[7]? = some oi ∧ YieldsIf Tryz.prog ops_u32 (TwS t qm qx) oi v (act_u32 t qm qx i 7) ∧ (act_u32 t qm qx i 7).put oi.dst v = act_u32 t qm qx i 8 :=
  ⟨_, pt t 0, rfl, .inl ⟨by kernel_rfl, fun w _ => by kernel_rfl⟩, by kernel_rfl⟩
theorem y_u32_8 (t qm qx i : Nat) : ∃ oi v, ops_u32[8]? = some oi ∧ YieldsIf Tryz.prog ops_u32 (TwS t qm qx) oi v (act_u32 t qm qx i 8) ∧ (act_u32 t qm qx i 8).put oi.dst v = act_u32 t qm qx i 9 :=
  ⟨_, pt t 0, rfl, .inl ⟨by kernel_rfl, fun w _ => by kernel_rfl⟩, by kernel_rfl⟩
theorem y_u32_9 (t qm qx i : Nat) : ∃ oi v, ops_u32[9]? = some oi ∧ YieldsIf Tryz.prog ops_u32 (TwS t qm qx) oi v (act_u32 t qm qx i 9) ∧ (act_u32 t qm qx i 9).put oi.dst v = act_u32 t qm qx i 10 :=
  ⟨_, pt qm 0, rfl, .inl ⟨by kernel_rfl, fun w hS => run_twload w _ _ _ _ (.tmp 14) (by kernel_rfl) (by kernel_rfl) hS.1⟩, by kernel_rfl⟩
theorem y_u32_10 (t qm qx i : Nat) : ∃ oi v, ops_u32[10]? = some oi ∧ YieldsIf Tryz.prog ops_u32 (TwS t qm qx) oi v (act_u32 t qm qx i 10) ∧ (act_u32 t qm qx i 10).put oi.dst v = act_u32 t qm qx i 11 :=
  ⟨_, pt qm 0, rfl, .inl ⟨by kernel_rfl, fun w _ => by kernel_rfl⟩, by kernel_rfl⟩
theorem y_u32_11 (t qm qx i : Nat) : ∃ oi v, ops_u32[11]? = some oi ∧ YieldsIf Tryz.prog ops_u32 (TwS t qm qx) oi v (act_u32 t qm qx i 11) ∧ (act_u32 t qm qx i 11).put oi.dst v = act_u32 t qm qx i 12 :=
  ⟨_, pt qm 2, rfl, .inl ⟨by kernel_rfl, fun w _ => by kernel_rfl⟩, by kernel_rfl⟩
theorem y_u32_12 (t qm qx i : Nat) : ∃ oi v, ops_u32[12]? = some oi ∧ YieldsIf Tryz.prog ops_u32 (TwS t qm qx) oi v (act_u32 t qm qx i 12) ∧ (act_u32 t qm qx i 12).put oi.dst v = act_u32 t qm qx i 13 :=
  ⟨_, .agg #[pt qx 2, pt qm 2], rfl, .inl ⟨by kernel_rfl, fun w _ => by kernel_rfl⟩, by kernel_rfl⟩
theorem y_u32_13 (t qm qx i : Nat) : ∃ oi v, ops_u32[13]? = some oi ∧ YieldsIf Tryz.prog ops_u32 (TwS t qm qx) oi v (act_u32 t qm qx i 13) ∧ (act_u32 t qm qx i 13).put oi.dst v = act_u32 t qm qx i 14 :=
  ⟨_, pt t 0, rfl, .inl ⟨by kernel_rfl, fun w _ => by kernel_rfl⟩, by kernel_rfl⟩
theorem y_u32_14 (t qm qx i : Nat) : ∃ oi v, ops_u32[14]? = some oi ∧ YieldsIf Tryz.prog ops_u32 (TwS t qm qx) oi v (act_u32 t qm qx i 14) ∧ (act_u32 t qm qx i 14).put oi.dst v = act_u32 t qm qx i 15 :=
  ⟨_, pt t 0, rfl, .inl ⟨by kernel_rfl, fun w _ => by kernel_rfl⟩, by kernel_rfl⟩
theorem y_u32_15 (t qm qx i : Nat) : ∃ oi v, ops_u32[15]? = some oi ∧ YieldsIf Tryz.prog ops_u32 (TwS t qm qx) oi v (act_u32 t qm qx i 15) ∧ (act_u32 t qm qx i 15).put oi.dst v = act_u32 t qm qx i 16 :=
  ⟨_, pt t 1, rfl, .inl ⟨by kernel_rfl, fun w _ => by kernel_rfl⟩, by kernel_rfl⟩
theorem y_u32_16 (t qm qx i : Nat) : ∃ oi v, ops_u32[16]? = some oi ∧ YieldsIf Tryz.prog ops_u32 (TwS t qm qx) oi v (act_u32 t qm qx i 16) ∧ (act_u32 t qm qx i 16).put oi.dst v = act_u32 t qm qx i 17 :=
  ⟨_, pt qx 0, rfl, .inl ⟨by kernel_rfl, fun w hS => run_twload w _ _ _ _ (.tmp 21) (by kernel_rfl) (by kernel_rfl) hS.2⟩, by kernel_rfl⟩
theorem y_u32_17 (t qm qx i : Nat) : ∃ oi v, ops_u32[17]? = some oi ∧ YieldsIf Tryz.prog ops_u32 (TwS t qm qx) oi v (act_u32 t qm qx i 17) ∧ (act_u32 t qm qx i 17).put oi.dst v = act_u32 t qm qx i 18 :=
  ⟨_, pt qx 0, rfl, .inl ⟨by kernel_rfl, fun w _ => by kernel_rfl⟩, by kernel_rfl⟩
theorem y_u32_18 (t qm qx i : Nat) : ∃ oi v, ops_u32[18]? = some oi ∧ YieldsIf Tryz.prog ops_u32 (TwS t qm qx) oi v (act_u32 t qm qx i 18) ∧ (act_u32 t qm qx i 18).put oi.dst v = act_u32 t qm qx i 19 :=
  ⟨_, pt qx 4, rfl, .inl ⟨by kernel_rfl, fun w _ => by kernel_rfl⟩, by kernel_rfl⟩
theorem y_u32_19 (t qm qx i : Nat) : ∃ oi v, ops_u32[19]? = some oi ∧ YieldsIf Tryz.prog ops_u32 (TwS t qm qx) oi v (act_u32 t qm qx i 19) ∧ (act_u32 t qm qx i 19).put oi.dst v = act_u32 t qm qx i 20 :=
  ⟨_, pt t 0, rfl, .inl ⟨by kernel_rfl, fun w _ => by kernel_rfl⟩, by kernel_rfl⟩
theorem y_u32_20 (t qm qx i : Nat) : ∃ oi v, ops_u32[20]? = some oi ∧ YieldsIf Tryz.prog ops_u32 (TwS t qm qx) oi v (act_u32 t qm qx i 20) ∧ (act_u32 t qm qx i 20).put oi.dst v = act_u32 t qm qx i 21 :=
  ⟨_, pt t 0, rfl, .inl ⟨by kernel_rfl, fun w _ => by kernel_rfl⟩, by kernel_rfl⟩
theorem y_u32_21 (t qm qx i : Nat) : ∃ oi v, ops_u32[21]? = some oi ∧ YieldsIf Tryz.prog ops_u32 (TwS t qm qx) oi v (act_u32 t qm qx i 21) ∧ (act_u32 t qm qx i 21).put oi.dst v = act_u32 t qm qx i 22 :=
  ⟨_, pt t 0, rfl, .inl ⟨by kernel_rfl, fun w _ => by kernel_rfl⟩, by kernel_rfl⟩
theorem y_u32_22 (t qm qx i : Nat) : ∃ oi v, ops_u32[22]? = some oi ∧ YieldsIf Tryz.prog ops_u32 (TwS t qm qx) oi v (act_u32 t qm qx i 22) ∧ (act_u32 t qm qx i 22).put oi.dst v = act_u32 t qm qx i 23 :=
  ⟨_, pt qm 0, rfl, .inl ⟨by kernel_rfl, fun w hS => run_twload w _ _ _ _ (.tmp 27) (by kernel_rfl) (by kernel_rfl) hS.1⟩, by kernel_rfl⟩
theorem y_u32_23 (t qm qx i : Nat) : ∃ oi v, ops_u32[23]? = some oi ∧ YieldsIf Tryz.prog ops_u32 (TwS t qm qx) oi v (act_u32 t qm qx i 23) ∧ (act_u32 t qm qx i 23).put oi.dst v = act_u32 t qm qx i 24 :=
  ⟨_, pt qm 0, rfl, .inl ⟨by kernel_rfl, fun w _ => by kernel_rfl⟩, by kernel_rfl⟩
theorem y_u32_24 (t qm qx i : Nat) : ∃ oi v, ops_u32[24]? = some oi ∧ YieldsIf Tryz.prog ops_u32 (TwS t qm qx) oi v (act_u32 t qm qx i 24) ∧ (act_u32 t qm qx i 24).put oi.dst v = act_u32 t qm qx i 25 :=
  ⟨_, pt qm 4, rfl, .inl ⟨by kernel_rfl, fun w _ => by kernel_rfl⟩, by kernel_rfl⟩
theorem y_u32_25 (t qm qx i : Nat) : ∃ oi v, ops_u32[25]? = some oi ∧ YieldsIf Tryz.prog ops_u32 (TwS t qm qx) oi v (act_u32 t qm qx i 25) ∧ (act_u32 t qm qx i 25).put oi.dst v = act_u32 t qm qx i 26 :=
  ⟨_, .agg #[pt qx 4, pt qm 4], rfl, .inl ⟨by kernel_rfl, fun w _ => by kernel_rfl⟩, by kernel_rfl⟩
theorem y_u32_26 (t qm qx i : Nat) : ∃ oi v, ops_u32[26]? = some oi ∧ YieldsIf Tryz.prog ops_u32 (TwS t qm qx) oi v (act_u32 t qm qx i 26) ∧ (act_u32 t qm qx i 26).put oi.dst v = act_u32 t qm qx i 27 :=
  ⟨_, pt t 0, rfl, .inl ⟨by kernel_rfl, fun w _ => by kernel_rfl⟩, by kernel_rfl⟩
theorem y_u32_27 (t qm qx i : Nat) : ∃ oi v, ops_u32[27]? = some oi ∧ YieldsIf Tryz.prog ops_u32 (TwS t qm qx) oi v (act_u32 t qm qx i 27) ∧ (act_u32 t qm qx i 27).put oi.dst v = act_u32 t qm qx i 28 :=
  ⟨_, pt t 0, rfl, .inl ⟨by kernel_rfl, fun w _ => by kernel_rfl⟩, by kernel_rfl⟩
theorem y_u32_28 (t qm qx i : Nat) : ∃ oi v, ops_u32[28]? = some oi ∧ YieldsIf Tryz.prog ops_u32 (TwS t qm qx) oi v (act_u32 t qm qx i 28) ∧ (act_u32 t qm qx i 28).put oi.dst v = act_u32 t qm qx i 29 :=
  ⟨_, pt t 1, rfl, .inl ⟨by kernel_rfl, fun w _ => by kernel_rfl⟩, by kernel_rfl⟩
theorem y_u32_29 (t qm qx i : Nat) : ∃ oi v, ops_u32[29]? = some oi ∧ YieldsIf Tryz.prog ops_u32 (TwS t qm qx) oi v (act_u32 t qm qx i 29) ∧ (act_u32 t qm qx i 29).put oi.dst v = act_u32 t qm qx i 30 :=
  ⟨_, pt qx 0, rfl, .inl ⟨by kernel_rfl, fun w hS => run_twload w _ _ _ _ (.tmp 34) (by kernel_rfl) (by kernel_rfl) hS.2⟩, by kernel_rfl⟩
theorem y_u32_30 (t qm qx i : Nat) : ∃ oi v, ops_u32[30]? = some oi ∧ YieldsIf Tryz.prog ops_u32 (TwS t qm qx) oi v (act_u32 t qm qx i 30) ∧ (act_u32 t qm qx i 30).put oi.dst v = act_u32 t qm qx i 31 :=
  ⟨_, pt qx 0, rfl, .inl ⟨by kernel_rfl, fun w _ => by kernel_rfl⟩, by kernel_rfl⟩
theorem y_u32_31 (t qm qx i : Nat) : ∃ oi v, ops_u32[31]? = some oi ∧ YieldsIf Tryz.prog ops_u32 (TwS t qm qx) oi v (act_u32 t qm qx i 31) ∧ (act_u32 t qm qx i 31).put oi.dst v = act_u32 t qm qx i 32 :=
  ⟨_, pt qx 5, rfl, .inl ⟨by kernel_rfl, fun w _ => by kernel_rfl⟩, by kernel_rfl⟩
theorem y_u32_32 (t qm qx i : Nat) : ∃ oi v, ops_u32[32]? = some oi ∧ YieldsIf Tryz.prog ops_u32 (TwS t qm qx) oi v (act_u32 t qm qx i 32) ∧ (act_u32 t qm qx i 32).put oi.dst v = act_u32 t qm qx i 33 :=
  ⟨_, pt t 0, rfl, .inl ⟨by kernel_rfl, fun w _ => by kernel_rfl⟩, by kernel_rfl⟩
theorem y_u32_33 (t qm qx i : Nat) : ∃ oi v, ops_u32[33]? = some oi ∧ YieldsIf Tryz.prog ops_u32 (TwS t qm qx) oi v (act_u32 t qm qx i 33) ∧ (act_u32 t qm qx i 33).put oi.dst v = act_u32 t qm qx i 34 :=
  ⟨_, pt t 0, rfl, .inl ⟨by kernel_rfl, fun w _ => by kernel_rfl⟩, by kernel_rfl⟩
theorem y_u32_34 (t qm qx i : Nat) : ∃ oi v, ops_u32[34]? = some oi ∧ YieldsIf Tryz.prog ops_u32 (TwS t qm qx) oi v (act_u32 t qm qx i 34) ∧ (act_u32 t qm qx i 34).put oi.dst v = act_u32 t qm qx i 35 :=
  ⟨_, pt t 0, rfl, .inl ⟨by kernel_rfl, fun w _ => by kernel_rfl⟩, by kernel_rfl⟩
theorem y_u32_35 (t qm qx i : Nat) : ∃ oi v, ops_u32[35]? = some oi ∧ YieldsIf Tryz.prog ops_u32 (TwS t qm qx) oi v (act_u32 t qm qx i 35) ∧ (act_u32 t qm qx i 35).put oi.dst v = act_u32 t qm qx i 36 :=
  ⟨_, pt qm 0, rfl, .inl ⟨by kernel_rfl, fun w hS => run_twload w _ _ _ _ (.tmp 40) (by kernel_rfl) (by kernel_rfl) hS.1⟩, by kernel_rfl⟩
theorem y_u32_36 (t qm qx i : Nat) : ∃ oi v, ops_u32[36]? = some oi ∧ YieldsIf Tryz.prog ops_u32 (TwS t qm qx) oi v (act_u32 t qm qx i 36) ∧ (act_u32 t qm qx i 36).put oi.dst v = act_u32 t qm qx i 37 :=
  ⟨_, pt qm 0, rfl, .inl ⟨by kernel_rfl, fun w _ => by kernel_rfl⟩, by kernel_rfl⟩
theorem y_u32_37 (t qm qx i : Nat) : ∃ oi v, ops_u32[37]? = some oi ∧ YieldsIf Tryz.prog ops_u32 (TwS t qm qx) oi v (act_u32 t qm qx i 37) ∧ (act_u32 t qm qx i 37).put oi.dst v = act_u32 t qm qx i 38 :=
  ⟨_, pt qm 5, rfl, .inl ⟨by kernel_rfl, fun w _ => by kernel_rfl⟩, by kernel_rfl⟩
theorem y_u32_38 (t qm qx i : Nat) : ∃ oi v, ops_u32[38]? = some oi ∧ YieldsIf Tryz.prog ops_u32 (TwS t qm qx) oi v (act_u32 t qm qx i 38) ∧ (act_u32 t qm qx i 38).put oi.dst v = act_u32 t qm qx i 39 :=
  ⟨_, .agg #[pt qx 5, pt qm 5], rfl, .inl ⟨by kernel_rfl, fun w _ => by kernel_rfl⟩, by kernel_rfl⟩
theorem y_u32_39 (t qm qx i : Nat) : ∃ oi v, ops_u32[39]? = some oi ∧ YieldsIf Tryz.prog ops_u32 (TwS t qm qx) oi v (act_u32 t qm qx i 39) ∧ (act_u32 t qm qx i 39).put oi.dst v = act_u32 t qm qx i 40 :=
  ⟨_, pt t 0, rfl, .inl ⟨by kernel_rfl, fun w _ => by kernel_rfl⟩, by kernel_rfl⟩
theorem y_u32_40 (t qm qx i : Nat) : ∃ oi v, ops_u32[40]? = some oi ∧ YieldsIf Tryz.prog ops_u32 (TwS t qm qx) oi v (act_u32 t qm qx i 40) ∧ (act_u32 t qm qx i 40).put oi.dst v = act_u32 t qm qx i 41 :=
  ⟨_, pt t 0, rfl, .inl ⟨by kernel_rfl, fun w _ => by kernel_rfl⟩, by kernel_rfl⟩
theorem y_u32_41 (t qm qx i : Nat) : ∃ oi v, ops_u32[41]? = some oi ∧ YieldsIf Tryz.prog ops_u32 (TwS t qm qx) oi v (act_u32 t qm qx i 41) ∧ (act_u32 t qm qx i 41).put oi.dst v = act_u32 t qm qx i 42 :=
  ⟨_, pt t 1, rfl, .inl ⟨by kernel_rfl, fun w _ => by kernel_rfl⟩, by kernel_rfl⟩
theorem y_u32_42 (t qm qx i : Nat) : ∃ oi v, ops_u32[42]? = some oi ∧ YieldsIf Tryz.prog ops_u32 (TwS t qm qx) oi v (act_u32 t qm qx i 42) ∧ (act_u32 t qm qx i 42).put oi.dst v = act_u32 t qm qx i 43 :=
  ⟨_, pt qx 0, rfl, .inl ⟨by kernel_rfl, fun w hS => run_twload w _ _ _ _ (.tmp 47) (by kernel_rfl) (by kernel_rfl) hS.2⟩, by kernel_rfl⟩
theorem y_u32_43 (t qm qx i : Nat) : ∃ oi v, ops_u32[43]? = some oi ∧ YieldsIf Tryz.prog ops_u32 (TwS t qm qx) oi v (act_u32 t qm qx i 43) ∧ (act_u32 t qm qx i 43).put oi.dst v = act_u32 t qm qx i 44 :=
  ⟨_, pt qx 0, rfl, .inl ⟨by kernel_rfl, fun w _ => by kernel_rfl⟩, by kernel_rfl⟩
theorem y_u32_44 (t qm qx i : Nat) : ∃ oi v, ops_u32[44]? = some oi ∧ YieldsIf Tryz.prog ops_u32 (TwS t qm qx) oi v (act_u32 t qm qx i 44) ∧ (act_u32 t qm qx i 44).put oi.dst v = act_u32 t qm qx i 45 :=
  ⟨_, pt qx 6, rfl, .inl ⟨by kernel_rfl, fun w _ => by kernel_rfl⟩, by kernel_rfl⟩
theorem y_u32_45 (t qm qx i : Nat) : ∃ oi v, ops_u32[45]? = some oi ∧ YieldsIf Tryz.prog ops_u32 (TwS t qm qx) oi v (act_u32 t qm qx i 45) ∧ (act_u32 t qm qx i 45).put oi.dst v = act_u32 t qm qx i 46 :=
  ⟨_, pt t 0, rfl, .inl ⟨by kernel_rfl, fun w _ => by kernel_rfl⟩, by kernel_rfl⟩
theorem y_u32_46 (t qm qx i : Nat) : ∃ oi v, ops_u32[46]? = some oi ∧ YieldsIf Tryz.prog ops_u32 (TwS t qm qx) oi v (act_u32 t qm qx i 46) ∧ (act_u32 t qm qx i 46).put oi.dst v = act_u32 t qm qx i 47 :=
  ⟨_, pt t 0, rfl, .inl ⟨by kernel_rfl, fun w _ => by kernel_rfl⟩, by kernel_rfl⟩
theorem y_u32_47 (t qm qx i : Nat) : ∃ oi v, ops_u32[47]? = some oi ∧ YieldsIf Tryz.prog ops_u32 (TwS t qm qx) oi v (act_u32 t qm qx i 47) ∧ (act_u32 t qm qx i 47).put oi.dst v = act_u32 t qm qx i 48 :=
  ⟨_, pt t 0, rfl, .inl ⟨by kernel_rfl, fun w _ => by kernel_rfl⟩, by kernel_rfl⟩
theorem y_u32_48 (t qm qx i : Nat) : ∃ oi v, ops_u32[48]? = some oi ∧ YieldsIf Tryz.prog ops_u32 (TwS t qm qx) oi v (act_u32 t qm qx i 48) ∧ (act_u32 t qm qx i 48).put oi.dst v = act_u32 t qm qx i 49 :=
  ⟨_, pt qm 0, rfl, .inl ⟨by kernel_rfl, fun w hS => run_twload w _ _ _ _ (.tmp 53) (by kernel_rfl) (by kernel_rfl) hS.1⟩, by kernel_rfl⟩
theorem y_u32_49 (t qm qx i : Nat) : ∃ oi v, ops_u32[49]? = some oi ∧ YieldsIf Tryz.prog ops_u32 (TwS t qm qx) oi v (act_u32 t qm qx i 49) ∧ (act_u32 t qm qx i 49).put oi.dst v = act_u32 t qm qx i 50 :=
  ⟨_, pt qm 0, rfl, .inl ⟨by kernel_rfl, fun w _ => by kernel_rfl⟩, by kernel_rfl⟩
theorem y_u32_50 (t qm qx i : Nat) : ∃ oi v, ops_u32[50]? = some oi ∧ YieldsIf Tryz.prog ops_u32 (TwS t qm qx) oi v (act_u32 t qm qx i 50) ∧ (act_u32 t qm qx i 50).put oi.dst v = act_u32 t qm qx i 51 :=
  ⟨_, pt qm 6, rfl, .inl ⟨by kernel_rfl, fun w _ => by kernel_rfl⟩, by kernel_rfl⟩
theorem y_u32_51 (t qm qx i : Nat) : ∃ oi v, ops_u32[51]? = some oi ∧ YieldsIf Tryz.prog ops_u32 (TwS t qm qx) oi v (act_u32 t qm qx i 51) ∧ (act_u32 t qm qx i 51).put oi.dst v = act_u32 t qm qx i 52 :=
  ⟨_, .agg #[pt qx 6, pt qm 6], rfl, .inl ⟨by kernel_rfl, fun w _ => by kernel_rfl⟩, by kernel_rfl⟩
theorem y_u32_52 (t qm qx i : Nat) : ∃ oi v, ops_u32[52]? = some oi ∧ YieldsIf Tryz.prog ops_u32 (TwS t qm qx) oi v (act_u32 t qm qx i 52) ∧ (act_u32 t qm qx i 52).put oi.dst v = act_u32 t qm qx i 53 :=
  ⟨_, pt t 0, rfl, .inl ⟨by kernel_rfl, fun w _ => by kernel_rfl⟩, by kernel_rfl⟩
theorem y_u32_53 (t qm qx i : Nat) : ∃ oi v, ops_u32[53]? = some oi ∧ YieldsIf Tryz.prog ops_u32 (TwS t qm qx) oi v (act_u32 t qm qx i 53) ∧ (act_u32 t qm qx i 53).put oi.dst v = act_u32 t qm qx i 54 :=
  ⟨_, pt t 0, rfl, .inl ⟨by kernel_rfl, fun w _ => by kernel_rfl⟩, by kernel_rfl⟩
theorem y_u32_54 (t qm qx i : Nat) : ∃ oi v, ops_u32[54]? = some oi ∧ YieldsIf Tryz.prog ops_u32 (TwS t qm qx) oi v (act_u32 t qm qx i 54) ∧ (act_u32 t qm qx i 54).put oi.dst v = act_u32 t qm qx i 55 :=
  ⟨_, pt t 1, rfl, .inl ⟨by kernel_rfl, fun w _ => by kernel_rfl⟩, by kernel_rfl⟩
theorem y_u32_55 (t qm qx i : Nat) : ∃ oi v, ops_u32[55]? = some oi ∧ YieldsIf Tryz.prog ops_u32 (TwS t qm qx) oi v (act_u32 t qm qx i 55) ∧ (act_u32 t qm qx i 55).put oi.dst v = act_u32 t qm qx i 56 :=
  ⟨_, pt qx 0, rfl, .inl ⟨by kernel_rfl, fun w hS => run_twload w _ _ _ _ (.tmp 60) (by kernel_rfl) (by kernel_rfl) hS.2⟩, by kernel_rfl⟩
theorem y_u32_56 (t qm qx i : Nat) : ∃ oi v, ops_u32[56]? = some oi ∧ YieldsIf Tryz.prog ops_u32 (TwS t qm qx) oi v (act_u32 t qm qx i 56) ∧ (act_u32 t qm qx i 56).put oi.dst v = act_u32 t qm qx i 57 :=
  ⟨_, pt qx 0, rfl, .inl ⟨by kernel_rfl, fun w _ => by kernel_rfl⟩, by kernel_rfl⟩
theorem y_u32_57 (t qm qx i : Nat) : ∃ oi v, ops_u32[57]? = some oi ∧ YieldsIf Tryz.prog ops_u32 (TwS t qm qx) oi v (act_u32 t qm qx i 57) ∧ (act_u32 t qm qx i 57).put oi.dst v = act_u32 t qm qx i 58 :=
  ⟨_, pt qx 16, rfl, .inl ⟨by kernel_rfl, fun w _ => by kernel_rfl⟩, by kernel_rfl⟩
theorem y_u32_58 (t qm qx i : Nat) : ∃ oi v, ops_u32[58]? = some oi ∧ YieldsIf Tryz.prog ops_u32 (TwS t qm qx) oi v (act_u32 t qm qx i 58) ∧ (act_u32 t qm qx i 58).put oi.dst v = act_u32 t qm qx i 59 :=
  ⟨_, pt t 0, rfl, .inl ⟨by kernel_rfl, fun w _ => by kernel_rfl⟩, by kernel_rfl⟩
theorem y_u32_59 (t qm qx i : Nat) : ∃ oi v, ops_u32[59]? = some oi ∧ YieldsIf Tryz.prog ops_u32 (TwS t qm qx) oi v (act_u32 t qm qx i 59) ∧ (act_u32 t qm qx i 59).put oi.dst v = act_u32 t qm qx i 60 :=
  ⟨_, pt t 0, rfl, .inl ⟨by kernel_rfl, fun w _ => by kernel_rfl⟩, by kernel_rfl⟩
theorem y_u32_60 (t qm qx i : Nat) : ∃ oi v, ops_u32[60]? = some oi ∧ YieldsIf Tryz.prog ops_u32 (TwS t qm qx) oi v (act_u32 t qm qx i 60) ∧ (act_u32 t qm qx i 60).put oi.dst v = act_u32 t qm qx i 61 :=
  ⟨_, pt t 0, rfl, .inl ⟨by kernel_rfl, fun w _ => by kernel_rfl⟩, by kernel_rfl⟩
theorem y_u32_61 (t qm qx i : Nat) : ∃ oi v, ops_u32[61]? = some oi ∧ YieldsIf Tryz.prog ops_u32 (TwS t qm qx) oi v (act_u32 t qm qx i 61) ∧ (act_u32 t qm qx i 61).put oi.dst v = act_u32 t qm qx i 62 :=
  ⟨_, pt qm 0, rfl, .inl ⟨by kernel_rfl, fun w hS => run_twload w _ _ _ _ (.tmp 66) (by kernel_rfl) (by kernel_rfl) hS.1⟩, by kernel_rfl⟩
theorem y_u32_62 (t qm qx i : Nat) : ∃ oi v, ops_u32[62]? = some oi ∧ YieldsIf Tryz.prog ops_u32 (TwS t qm qx) oi v (act_u32 t qm qx i 62) ∧ (act_u32 t qm qx i 62).put oi.dst v = act_u32 t qm qx i 63 :=
  ⟨_, pt qm 0, rfl, .inl ⟨by kernel_rfl, fun w _ => by kernel_rfl⟩, by kernel_rfl⟩
theorem y_u32_63 (t qm qx i : Nat) : ∃ oi v, ops_u32[63]? = some oi ∧ YieldsIf Tryz.prog ops_u32 (TwS t qm qx) oi v (act_u32 t qm qx i 63) ∧ (act_u32 t qm qx i 63).put oi.dst v = act_u32 t qm qx i 64 :=
  ⟨_, pt qm 16, rfl, .inl ⟨by kernel_rfl, fun w _ => by kernel_rfl⟩, by kernel_rfl⟩
theorem y_u32_64 (t qm qx i : Nat) : ∃ oi v, ops_u32[64]? = some oi ∧ YieldsIf Tryz.prog ops_u32 (TwS t qm qx) oi v (act_u32 t qm qx i 64) ∧ (act_u32 t qm qx i 64).put oi.dst v = act_u32 t qm qx i 65 :=
  ⟨_, .agg #[pt qx 16, pt qm 16], rfl, .inl ⟨by kernel_rfl, fun w _ => by kernel_rfl⟩, by kernel_rfl⟩
theorem y_u32_65 (t qm qx i : Nat) : ∃ oi v, ops_u32[65]? = some oi ∧ YieldsIf Tryz.prog ops_u32 (TwS t qm qx) oi v (act_u32 t qm qx i 65) ∧ (act_u32 t qm qx i 65).put oi.dst v = act_u32 t qm qx i 66 :=
  ⟨_, pt t 0, rfl, .inl ⟨by kernel_rfl, fun w _ => by kernel_rfl⟩, by kernel_rfl⟩
theorem y_u32_66 (t qm qx i : Nat) : ∃ oi v, ops_u32[66]? = some oi ∧ YieldsIf Tryz.prog ops_u32 (TwS t qm qx) oi v (act_u32 t qm qx i 66) ∧ (act_u32 t qm qx i 66).put oi.dst v = act_u32 t qm qx i 67 :=
  ⟨_, pt t 0, rfl, .inl ⟨by kernel_rfl, fun w _ => by kernel_rfl⟩, by kernel_rfl⟩
theorem y_u32_67 (t qm qx i : Nat) : ∃ oi v, ops_u32[67]? = some oi ∧ YieldsIf Tryz.prog ops_u32 (TwS t qm qx) oi v (act_u32 t qm qx i 67) ∧ (act_u32 t qm qx i 67).put oi.dst v = act_u32 t qm qx i 68 :=
  ⟨_, pt t 1, rfl, .inl ⟨by kernel_rfl, fun w _ => by kernel_rfl⟩, by kernel_rfl⟩
theorem y_u32_68 (t qm qx i : Nat) : ∃ oi v, ops_u32[68]? = some oi ∧ YieldsIf Tryz.prog ops_u32 (TwS t qm qx) oi v (act_u32 t qm qx i 68) ∧ (act_u32 t qm qx i 68).put oi.dst v = act_u32 t qm qx i 69 :=
  ⟨_, pt qx 0, rfl, .inl ⟨by kernel_rfl, fun w hS => run_twload w _ _ _ _ (.tmp 73) (by kernel_rfl) (by kernel_rfl) hS.2⟩, by kernel_rfl⟩
theorem y_u32_69 (t qm qx i : Nat) : ∃ oi v, ops_u32[69]? = some oi ∧ YieldsIf Tryz.prog ops_u32 (TwS t qm qx) oi v (act_u32 t qm qx i 69) ∧ (act_u32 t qm qx i 69).put oi.dst v = act_u32 t qm qx i 70 :=
  ⟨_, pt qx 0, rfl, .inl ⟨by kernel_rfl, fun w _ => by kernel_rfl⟩, by kernel_rfl⟩
theorem y_u32_70 (t qm qx i : Nat) : ∃ oi v, ops_u32[70]? = some oi ∧ YieldsIf Tryz.prog ops_u32 (TwS t qm qx) oi v (act_u32 t qm qx i 70) ∧ (act_u32 t qm qx i 70).put oi.dst v = act_u32 t qm qx i 71 :=
  ⟨_, pt qx 18, rfl, .inl ⟨by kernel_rfl, fun w _ => by kernel_rfl⟩, by kernel_rfl⟩
theorem y_u32_71 (t qm qx i : Nat) : ∃ oi v, ops_u32[71]? = some oi ∧ YieldsIf Tryz.prog ops_u32 (TwS t qm qx) oi v (act_u32 t qm qx i 71) ∧ (act_u32 t qm qx i 71).put oi.dst v = act_u32 t qm qx i 72 :=
  ⟨_, pt t 0, rfl, .inl ⟨by kernel_rfl, fun w _ => by kernel_rfl⟩, by kernel_rfl⟩
theorem y_u32_72 (t qm qx i : Nat) : ∃ oi v, ops_u32[72]? = some oi ∧ YieldsIf Tryz.prog ops_u32 (TwS t qm qx) oi v (act_u32 t qm qx i 72) ∧ (act_u32 t qm qx i 72).put oi.dst v = act_u32 t qm qx i 73 :=
  ⟨_, pt t 0, rfl, .inl ⟨by kernel_rfl, fun w _ => by kernel_rfl⟩, by kernel_rfl⟩
theorem y_u32_73 (t qm qx i : Nat) : ∃ oi v, ops_u32[73]? = some oi ∧ YieldsIf Tryz.prog ops_u32 (TwS t qm qx) oi v (act_u32 t qm qx i 73) ∧ (act_u32 t qm qx i 73).put oi.dst v = act_u32 t qm qx i 74 :=
  ⟨_, pt t 0, rfl, .inl ⟨by kernel_rfl, fun w _ => by kernel_rfl⟩, by kernel_rfl⟩
theorem y_u32_74 (t qm qx i : Nat) : ∃ oi v, ops_u32[74]? = some oi ∧ YieldsIf Tryz.prog ops_u32 (TwS t qm qx) oi v (act_u32 t qm qx i 74) ∧ (act_u32 t qm qx i 74).put oi.dst v = act_u32 t qm qx i 75 :=
  ⟨_, pt qm 0, rfl, .inl ⟨by kernel_rfl, fun w hS => run_twload w _ _ _ _ (.tmp 79) (by kernel_rfl) (by kernel_rfl) hS.1⟩, by kernel_rfl⟩
theorem y_u32_75 (t qm qx i : Nat) : ∃ oi v, ops_u32[75]? = some oi ∧ YieldsIf Tryz.prog ops_u32 (TwS t qm qx) oi v (act_u32 t qm qx i 75) ∧ (act_u32 t qm qx i 75).put oi.dst v = act_u32 t qm qx i 76 :=
  ⟨_, pt qm 0, rfl, .inl ⟨by kernel_rfl, fun w _ => by kernel_rfl⟩, by kernel_rfl⟩
theorem y_u32_76 (t qm qx i : Nat) : ∃ oi v, ops_u32[76]? = some oi ∧ YieldsIf Tryz.prog ops_u32 (TwS t qm qx) oi v (act_u32 t qm qx i 76) ∧ (act_u32 t qm qx i 76).put oi.dst v = act_u32 t qm qx i 77 :=
  ⟨_, pt qm 18, rfl, .inl ⟨by kernel_rfl, fun w _ => by kernel_rfl⟩, by kernel_rfl⟩
theorem y_u32_77 (t qm qx i : Nat) : ∃ oi v, ops_u32[77]? = some oi ∧ YieldsIf Tryz.prog ops_u32 (TwS t qm qx) oi v (act_u32 t qm qx i 77) ∧ (act_u32 t qm qx i 77).put oi.dst v = act_u32 t qm qx i 78 :=
  ⟨_, .agg #[pt qx 18, pt qm 18], rfl, .inl ⟨by kernel_rfl, fun w _ => by kernel_rfl⟩, by kernel_rfl⟩
theorem y_u32_78 (t qm qx i : Nat) : ∃ oi v, ops_u32[78]? = some oi ∧ YieldsIf Tryz.prog ops_u32 (TwS t qm qx) oi v (act_u32 t qm qx i 78) ∧ (act_u32 t qm qx i 78).put oi.dst v = act_u32 t qm qx i 79 :=
  ⟨_, pt t 0, rfl, .inl ⟨by kernel_rfl, fun w _ => by kernel_rfl⟩, by kernel_rfl⟩
theorem y_u32_79 (t qm qx i : Nat) : ∃ oi v, ops_u32[79]? = some oi ∧ YieldsIf Tryz.prog ops_u32 (TwS t qm qx) oi v (act_u32 t qm qx i 79) ∧ (act_u32 t qm qx i 79).put oi.dst v = act_u32 t qm qx i 80 :=
  ⟨_, pt t 0, rfl, .inl ⟨by kernel_rfl, fun w _ => by kernel_rfl⟩, by kernel_rfl⟩
theorem y_u32_80 (t qm qx i : Nat) : ∃ oi v, ops_u32[80]? = some oi ∧ YieldsIf Tryz.prog ops_u32 (TwS t qm qx) oi v (act_u32 t qm qx i 80) ∧ (act_u32 t qm qx i 80).put oi.dst v = act_u32 t qm qx i 81 :=
  ⟨_, pt t 1, rfl, .inl ⟨by kernel_rfl, fun w _ => by kernel_rfl⟩, by kernel_rfl⟩
theorem y_u32_81 (t qm qx i : Nat) : ∃ oi v, ops_u32[81]? = some oi ∧ YieldsIf Tryz.prog ops_u32 (TwS t qm qx) oi v (act_u32 t qm qx i 81) ∧ (act_u32 t qm qx i 81).put oi.dst v = act_u32 t qm qx i 82 :=
  ⟨_, pt qx 0, rfl, .inl ⟨by kernel_rfl, fun w hS => run_twload w _ _ _ _ (.tmp 86) (by kernel_rfl) (by kernel_rfl) hS.2⟩, by kernel_rfl⟩
theorem y_u32_82 (t qm qx i : Nat) : ∃ oi v, ops_u32[82]? = some oi ∧ YieldsIf Tryz.prog ops_u32 (TwS t qm qx) oi v (act_u32 t qm qx i 82) ∧ (act_u32 t qm qx i 82).put oi.dst v = act_u32 t qm qx i 83 :=
  ⟨_, pt qx 0, rfl, .inl ⟨by kernel_rfl, fun w _ => by kernel_rfl⟩, by kernel_rfl⟩
theorem y_u32_83 (t qm qx i : Nat) : ∃ oi v, ops_u32[83]? = some oi ∧ YieldsIf Tryz.prog ops_u32 (TwS t qm qx) oi v (act_u32 t qm qx i 83) ∧ (act_u32 t qm qx i 83).put oi.dst v = act_u32 t qm qx i 84 :=
  ⟨_, pt qx 21, rfl, .inl ⟨by kernel_rfl, fun w _ => by kernel_rfl⟩, by kernel_rfl⟩
theorem y_u32_84 (t qm qx i : Nat) : ∃ oi v, ops_u32[84]? = some oi ∧ YieldsIf Tryz.prog ops_u32 (TwS t qm qx) oi v (act_u32 t qm qx i 84) ∧ (act_u32 t qm qx i 84).put oi.dst v = act_u32 t qm qx i 85 :=
  ⟨_, pt t 0, rfl, .inl ⟨by kernel_rfl, fun w _ => by kernel_rfl⟩, by kernel_rfl⟩
theorem y_u32_85 (t qm qx i : Nat) : ∃ oi v, ops_u32[85]? = some oi ∧ YieldsIf Tryz.prog ops_u32 (TwS t qm qx) oi v (act_u32 t qm qx i 85) ∧ (act_u32 t qm qx i 85).put oi.dst v = act_u32 t qm qx i 86 :=
  ⟨_, pt t 0, rfl, .inl ⟨by kernel_rfl, fun w _ => by kernel_rfl⟩, by kernel_rfl⟩
theorem y_u32_86 (t qm qx i : Nat) : ∃ oi v, ops_u32[86]? = some oi ∧ YieldsIf Tryz.prog ops_u32 (TwS t qm qx) oi v (act_u32 t qm qx i 86) ∧ (act_u32 t qm qx i 86).put oi.dst v = act_u32 t qm qx i 87 :=
  ⟨_, pt t 0, rfl, .inl ⟨by kernel_rfl, fun w _ => by kernel_rfl⟩, by kernel_rfl⟩
theorem y_u32_87 (t qm qx i : Nat) : ∃ oi v, ops_u32[87]? = some oi ∧ YieldsIf Tryz.prog ops_u32 (TwS t qm qx) oi v (act_u32 t qm qx i 87) ∧ (act_u32 t qm qx i 87).put oi.dst v = act_u32 t qm qx i 88 :=
  ⟨_, pt qm 0, rfl, .inl ⟨by kernel_rfl, fun w hS => run_twload w _ _ _ _ (.tmp 92) (by kernel_rfl) (by kernel_rfl) hS.1⟩, by kernel_rfl⟩
theorem y_u32_88 (t qm qx i : Nat) : ∃ oi v, ops_u32[88]? = some oi ∧ YieldsIf Tryz.prog ops_u32 (TwS t qm qx) oi v (act_u32 t qm qx i 88) ∧ (act_u32 t qm qx i 88).put oi.dst v = act_u32 t qm qx i 89 :=
  ⟨_, pt qm 0, rfl, .inl ⟨by kernel_rfl, fun w _ => by kernel_rfl⟩, by kernel_rfl⟩
theorem y_u32_89 (t qm qx i : Nat) : ∃ oi v, ops_u32[89]? = some oi ∧ YieldsIf Tryz.prog ops_u32 (TwS t qm qx) oi v (act_u32 t qm qx i 89) ∧ (act_u32 t qm qx i 89).put oi.dst v = act_u32 t qm qx i 90 :=
  ⟨_, pt qm 21, rfl, .inl ⟨by kernel_rfl, fun w _ => by kernel_rfl⟩, by kernel_rfl⟩
theorem y_u32_90 (t qm qx i : Nat) : ∃ oi v, ops_u32[90]? = some oi ∧ YieldsIf Tryz.prog ops_u32 (TwS t qm qx) oi v (act_u32 t qm qx i 90) ∧ (act_u32 t qm qx i 90).put oi.dst v = act_u32 t qm qx i 91 :=
  ⟨_, .agg #[pt qx 21, pt qm 21], rfl, .inl ⟨by kernel_rfl, fun w _ => by kernel_rfl⟩, by kernel_rfl⟩

noncomputable def ops_text : Array Oper := match Tryz.f114.body with | some c => headOps c | none => #[]
def vals_text (t qm qx : Nat) : List Value := [pt t 0, pt t 0, pt t 1, pt qx 0, pt qx 0, pt qx 3, pt t 0, pt t 0, pt t 0, pt qm 0, pt qm 0, pt qm 3, .agg #[pt qx 3, pt qm 3], pt t 0, pt t 0, pt t 1, pt qx 0, pt qx 0, pt qx 7, pt t 0, pt t 0, pt t 0, pt qm 0, pt qm 0, pt qm 7, .agg #[pt qx 7, pt qm 7], pt t 0, pt t 0, pt t 1, pt qx 0, pt qx 0, pt qx 8, pt t 0, pt t 0, pt t 0, pt qm 0, pt qm 0, pt qm 8, .agg #[pt qx 8, pt qm 8], pt t 0, pt t 0, pt t 1, pt qx 0, pt qx 0, pt qx 9, pt t 0, pt t 0, pt t 0, pt qm 0, pt qm 0, pt qm 9, .agg #[pt qx 9, pt qm 9], pt t 0, pt t 0, pt t 1, pt qx 0, pt qx 0, pt qx 19, pt t 0, pt t 0, pt t 0, pt qm 0, pt qm 0, pt qm 19, .agg #[pt qx 19, pt qm 19]]
def act_text (t qm qx i : Nat) (k : Nat) : Act := { tmps := ([pt t 0, pt qx i, undef, undef, undef, undef] ++ (vals_text t qm qx).take k ++ List.replicate (82 - k) undef).toArray, defers := [] }

theorem order_text_0 : (Region.free .any ops_text (firstB 68 0) 0 && (Region.ready .any ops_text (firstB 68 0)).contains 0 && ((firstB 68 0).setIfInBounds 0 true == firstB 68 1)) = true := by kernel_rfl
theorem order_text_1 : (Region.free .any ops_text (firstB 68 1) 1 && (Region.ready .any ops_text (firstB 68 1)).contains 1 && ((firstB 68 1).setIfInBounds 1 true == firstB 68 2)) = true := by kernel_rfl
theorem order_text_2 : (Region.free .any ops_text (firstB 68 2) 2 && (Region.ready .any ops_text (firstB 68 2)).contains 2 && ((firstB 68 2).setIfInBounds 2 true == firstB 68 3)) = true := by kernel_rfl
theorem order_text_3 : (Region.free .any ops_text (firstB 68 3) 3 && (Region.ready .any ops_text (firstB 68 3)).contains 3 && ((firstB 68 3).setIfInBounds 3 true == firstB 68 4)) = true := by kernel_rfl
theorem order_text_4 : (Region.free .any ops_text (firstB 68 4) 4 && (Region.ready .any ops_text (firstB 68 4)).contains 4 && ((firstB 68 4).setIfInBounds 4 true == firstB 68 5)) = true := by kernel_rfl
theorem order_text_5 : (Region.free .any ops_text (firstB 68 5) 5 && (Region.ready .any ops_text (firstB 68 5)).contains 5 && ((firstB 68 5).setIfInBounds 5 true == firstB 68 6)) = true := by kernel_rfl
theorem order_text_6 : (Region.free .any ops_text (firstB 68 6) 6 && (Region.ready .any ops_text (firstB 68 6)).contains 6 && ((firstB 68 6).setIfInBounds 6 true == firstB 68 7)) = true := by kernel_rfl
theorem order_text_7 : (Region.free .any ops_text (firstB 68 7) 7 && (Region.ready .any ops_text (firstB 68 7)).contains 7 && ((firstB 68 7).setIfInBounds 7 true == firstB 68 8)) = true := by kernel_rfl
theorem order_text_8 : (Region.free .any ops_text (firstB 68 8) 8 && (Region.ready .any ops_text (firstB 68 8)).contains 8 && ((firstB 68 8).setIfInBounds 8 true == firstB 68 9)) = true := by kernel_rfl
theorem order_text_9 : (Region.free .any ops_text (firstB 68 9) 9 && (Region.ready .any ops_text (firstB 68 9)).contains 9 && ((firstB 68 9).setIfInBounds 9 true == firstB 68 10)) = true := by kernel_rfl
theorem order_text_10 : (Region.free .any ops_text (firstB 68 10) 10 && (Region.ready .any ops_text (firstB 68 10)).contains 10 && ((firstB 68 10).setIfInBounds 10 true == firstB 68 11)) = true := by kernel_rfl
theorem order_text_11 : (Region.free .any ops_text (firstB 68 11) 11 && (Region.ready .any ops_text (firstB 68 11)).contains 11 && ((firstB 68 11).setIfInBounds 11 true == firstB 68 12)) = true := by kernel_rfl
theorem order_text_12 : (Region.free .any ops_text (firstB 68 12) 12 && (Region.ready .any ops_text (firstB 68 12)).contains 12 && ((firstB 68 12).setIfInBounds 12 true == firstB 68 13)) = true := by kernel_rfl
theorem order_text_13 : (Region.free .any ops_text (firstB 68 13) 13 && (Region.ready .any ops_text (firstB 68 13)).contains 13 && ((firstB 68 13).setIfInBounds 13 true == firstB 68 14)) = true := by kernel_rfl
theorem order_text_14 : (Region.free .any ops_text (firstB 68 14) 14 && (Region.ready .any ops_text (firstB 68 14)).contains 14 && ((firstB 68 14).setIfInBounds 14 true == firstB 68 15)) = true := by kernel_rfl
theorem order_text_15 : (Region.free .any ops_text (firstB 68 15) 15 && (Region.ready .any ops_text (firstB 68 15)).contains 15 && ((firstB 68 15).setIfInBounds 15 true == firstB 68 16)) = true := by kernel_rfl
theorem order_text_16 : (Region.free .any ops_text (firstB 68 16) 16 && (Region.ready .any ops_text (firstB 68 16)).contains 16 && ((firstB 68 16).setIfInBounds 16 true == firstB 68 17)) = true := by kernel_rfl
theorem order_text_17 : (Region.free .any ops_text (firstB 68 17) 17 && (Region.ready .any ops_text (firstB 68 17)).contains 17 && ((firstB 68 17).setIfInBounds 17 true == firstB 68 18)) = true := by kernel_rfl
theorem order_text_18 : (Region.free .any ops_text (firstB 68 18) 18 && (Region.ready .any ops_text (firstB 68 18)).contains 18 && ((firstB 68 18).setIfInBounds 18 true == firstB 68 19)) = true := by kernel_rfl
theorem order_text_19 : (Region.free .any ops_text (firstB 68 19) 19 && (Region.ready .any ops_text (firstB 68 19)).contains 19 && ((firstB 68 19).setIfInBounds 19 true == firstB 68 20)) = true := by kernel_rfl
theorem order_text_20 : (Region.free .any ops_text (firstB 68 20) 20 && (Region.ready .any ops_text (firstB 68 20)).contains 20 && ((firstB 68 20).setIfInBounds 20 true == firstB 68 21)) = true := by kernel_rfl
theorem order_text_21 : (Region.free .any ops_text (firstB 68 21) 21 && (Region.ready .any ops_text (firstB 68 21)).contains 21 && ((firstB 68 21).setIfInBounds 21 true == firstB 68 22)) = true := by kernel_rfl
theorem order_text_22 : (Region.free .any ops_text (firstB 68 22) 22 && (Region.ready .any ops_text (firstB 68 22)).contains 22 && ((firstB 68 22).setIfInBounds 22 true == firstB 68 23)) = true := by kernel_rfl
theorem order_text_23 : (Region.free .any ops_text (firstB 68 23) 23 && (Region.ready .any ops_text (firstB 68 23)).contains 23 && ((firstB 68 23).setIfInBounds 23 true == firstB 68 24)) = true := by kernel_rfl
theorem order_text_24 : (Region.free .any ops_text (firstB 68 24) 24 && (Region.ready .any ops_text (firstB 68 24)).contains 24 && ((firstB 68 24).setIfInBounds 24 true == firstB 68 25)) = true := by kernel_rfl
theorem order_text_25 : (Region.free .any ops_text (firstB 68 25) 25 && (Region.ready .any ops_text (firstB 68 25)).contains 25 && ((firstB 68 25).setIfInBounds 25 true == firstB 68 26)) = true := by kernel_rfl
theorem order_text_26 : (Region.free .any ops_text (firstB 68 26) 26 && (Region.ready .any ops_text (firstB 68 26)).contains 26 && ((firstB 68 26).setIfInBounds 26 true == firstB 68 27)) = true := by kernel_rfl
theorem order_text_27 : (Region.free .any ops_text (firstB 68 27) 27 && (Region.ready .any ops_text (firstB 68 27)).contains 27 && ((firstB 68 27).setIfInBounds 27 true == firstB 68 28)) = true := by kernel_rfl
theorem order_text_28 : (Region.free .any ops_text (firstB 68 28) 28 && (Region.ready .any ops_text (firstB 68 28)).contains 28 && ((firstB 68 28).setIfInBounds 28 true == firstB 68 29)) = true := by kernel_rfl
theorem order_text_29 : (Region.free .any ops_text (firstB 68 29) 29 && (Region.ready .any ops_text (firstB 68 29)).contains 29 && ((firstB 68 29).setIfInBounds 29 true == firstB 68 30)) = true := by kernel_rfl
theorem order_text_30 : (Region.free .any ops_text (firstB 68 30) 30 && (Region.ready .any ops_text (firstB 68 30)).contains 30 && ((firstB 68 30).setIfInBounds 30 true == firstB 68 31)) = true := by kernel_rfl
theorem order_text_31 : (Region.free .any ops_text (firstB 68 31) 31 && (Region.ready .any ops_text (firstB 68 31)).contains 31 && ((firstB 68 31).setIfInBounds 31 true == firstB 68 32)) = true := by kernel_rfl
theorem order_text_32 : (Region.free .any ops_text (firstB 68 32) 32 && (Region.ready .any ops_text (firstB 68 32)).contains 32 && ((firstB 68 32).setIfInBounds 32 true == firstB 68 33)) = true := by kernel_rfl
theorem order_text_33 : (Region.free .any ops_text (firstB 68 33) 33 && (Region.ready .any ops_text (firstB 68 33)).contains 33 && ((firstB 68 33).setIfInBounds 33 true == firstB 68 34)) = true := by kernel_rfl
theorem order_text_34 : (Region.free .any ops_text (firstB 68 34) 34 && (Region.ready .any ops_text (firstB 68 34)).contains 34 && ((firstB 68 34).setIfInBounds 34 true == firstB 68 35)) = true := by kernel_rfl
theorem order_text_35 : (Region.free .any ops_text (firstB 68 35) 35 && (Region.ready .any ops_text (firstB 68 35)).contains 35 && ((firstB 68 35).setIfInBounds 35 true == firstB 68 36)) = true := by kernel_rfl
theorem order_text_36 : (Region.free .any ops_text (firstB 68 36) 36 && (Region.ready .any ops_text (firstB 68 36)).contains 36 && ((firstB 68 36).setIfInBounds 36 true == firstB 68 37)) = true := by kernel_rfl
theorem order_text_37 : (Region.free .any ops_text (firstB 68 37) 37 && (Region.ready .any ops_text (firstB 68 37)).contains 37 && ((firstB 68 37).setIfInBounds 37 true == firstB 68 38)) = true := by kernel_rfl
theorem order_text_38 : (Region.free .any ops_text (firstB 68 38) 38 && (Region.ready .any ops_text (firstB 68 38)).contains 38 && ((firstB 68 38).setIfInBounds 38 true == firstB 68 39)) = true := by kernel_rfl
theorem order_text_39 : (Region.free .any ops_text (firstB 68 39) 39 && (Region.ready .any ops_text (firstB 68 39)).contains 39 && ((firstB 68 39).setIfInBounds 39 true == firstB 68 40)) = true := by kernel_rfl
theorem order_text_40 : (Region.free .any ops_text (firstB 68 40) 40 && (Region.ready .any ops_text (firstB 68 40)).contains 40 && ((firstB 68 40).setIfInBounds 40 true == firstB 68 41)) = true := by kernel_rfl
theorem order_text_41 : (Region.free .any ops_text (firstB 68 41) 41 && (Region.ready .any ops_text (firstB 68 41)).contains 41 && ((firstB 68 41).setIfInBounds 41 true == firstB 68 42)) = true := by kernel_rfl
theorem order_text_42 : (Region.free .any ops_text (firstB 68 42) 42 && (Region.ready .any ops_text (firstB 68 42)).contains 42 && ((firstB 68 42).setIfInBounds 42 true == firstB 68 43)) = true := by kernel_rfl
theorem order_text_43 : (Region.free .any ops_text (firstB 68 43) 43 && (Region.ready .any ops_text (firstB 68 43)).contains 43 && ((firstB 68 43).setIfInBounds 43 true == firstB 68 44)) = true := by kernel_rfl
theorem order_text_44 : (Region.free .any ops_text (firstB 68 44) 44 && (Region.ready .any ops_text (firstB 68 44)).contains 44 && ((firstB 68 44).setIfInBounds 44 true == firstB 68 45)) = true := by kernel_rfl
theorem order_text_45 : (Region.free .any ops_text (firstB 68 45) 45 && (Region.ready .any ops_text (firstB 68 45)).contains 45 && ((firstB 68 45).setIfInBounds 45 true == firstB 68 46)) = true := by kernel_rfl
theorem order_text_46 : (Region.free .any ops_text (firstB 68 46) 46 && (Region.ready .any ops_text (firstB 68 46)).contains 46 && ((firstB 68 46).setIfInBounds 46 true == firstB 68 47)) = true := by kernel_rfl
theorem order_text_47 : (Region.free .any ops_text (firstB 68 47) 47 && (Region.ready .any ops_text (firstB 68 47)).contains 47 && ((firstB 68 47).setIfInBounds 47 true == firstB 68 48)) = true := by kernel_rfl
theorem order_text_48 : (Region.free .any ops_text (firstB 68 48) 48 && (Region.ready .any ops_text (firstB 68 48)).contains 48 && ((firstB 68 48).setIfInBounds 48 true == firstB 68 49)) = true := by kernel_rfl
theorem order_text_49 : (Region.free .any ops_text (firstB 68 49) 49 && (Region.ready .any ops_text (firstB 68 49)).contains 49 && ((firstB 68 49).setIfInBounds 49 true == firstB 68 50)) = true := by kernel_rfl
theorem order_text_50 : (Region.free .any ops_text (firstB 68 50) 50 && (Region.ready .any ops_text (firstB 68 50)).contains 50 && ((firstB 68 50).setIfInBounds 50 true == firstB 68 51)) = true := by kernel_rfl
theorem order_text_51 : (Region.free .any ops_text (firstB 68 51) 51 && (Region.ready .any ops_text (firstB 68 51)).contains 51 && ((firstB 68 51).setIfInBounds 51 true == firstB 68 52)) = true := by kernel_rfl
theorem order_text_52 : (Region.free .any ops_text (firstB 68 52) 52 && (Region.ready .any ops_text (firstB 68 52)).contains 52 && ((firstB 68 52).setIfInBounds 52 true == firstB 68 53)) = true := by kernel_rfl
theorem order_text_53 : (Region.free .any ops_text (firstB 68 53) 53 && (Region.ready .any ops_text (firstB 68 53)).contains 53 && ((firstB 68 53).setIfInBounds 53 true == firstB 68 54)) = true := by kernel_rfl
theorem order_text_54 : (Region.free .any ops_text (firstB 68 54) 54 && (Region.ready .any ops_text (firstB 68 54)).contains 54 && ((firstB 68 54).setIfInBounds 54 true == firstB 68 55)) = true := by kernel_rfl
theorem order_text_55 : (Region.free .any ops_text (firstB 68 55) 55 && (Region.ready .any ops_text (firstB 68 55)).contains 55 && ((firstB 68 55).setIfInBounds 55 true == firstB 68 56)) = true := by kernel_rfl
theorem order_text_56 : (Region.free .any ops_text (firstB 68 56) 56 && (Region.ready .any ops_text (firstB 68 56)).contains 56 && ((firstB 68 56).setIfInBounds 56 true == firstB 68 57)) = true := by kernel_rfl
theorem order_text_57 : (Region.free .any ops_text (firstB 68 57) 57 && (Region.ready .any ops_text (firstB 68 57)).contains 57 && ((firstB 68 57).setIfInBounds 57 true == firstB 68 58)) = true := by kernel_rfl
theorem order_text_58 : (Region.free .any ops_text (firstB 68 58) 58 && (Region.ready .any ops_text (firstB 68 58)).contains 58 && ((firstB 68 58).setIfInBounds 58 true == firstB 68 59)) = true := by kernel_rfl
theorem order_text_59 : (Region.free .any ops_text (firstB 68 59) 59 && (Region.ready .any ops_text (firstB 68 59)).contains 59 && ((firstB 68 59).setIfInBounds 59 true == firstB 68 60)) = true := by kernel_rfl
theorem order_text_60 : (Region.free .any ops_text (firstB 68 60) 60 && (Region.ready .any ops_text (firstB 68 60)).contains 60 && ((firstB 68 60).setIfInBounds 60 true == firstB 68 61)) = true := by kernel_rfl
theorem order_text_61 : (Region.free .any ops_text (firstB 68 61) 61 && (Region.ready .any ops_text (firstB 68 61)).contains 61 && ((firstB 68 61).setIfInBounds 61 true == firstB 68 62)) = true := by kernel_rfl
theorem order_text_62 : (Region.free .any ops_text (firstB 68 62) 62 && (Region.ready .any ops_text (firstB 68 62)).contains 62 && ((firstB 68 62).setIfInBounds 62 true == firstB 68 63)) = true := by kernel_rfl
theorem order_text_63 : (Region.free .any ops_text (firstB 68 63) 63 && (Region.ready .any ops_text (firstB 68 63)).contains 63 && ((firstB 68 63).setIfInBounds 63 true == firstB 68 64)) = true := by kernel_rfl
theorem order_text_64 : (Region.free .any ops_text (firstB 68 64) 64 && (Region.ready .any ops_text (firstB 68 64)).contains 64 && ((firstB 68 64).setIfInBounds 64 true == firstB 68 65)) = true := by kernel_rfl
theorem y_text_0 (t qm qx i : Nat) : ∃ oi v, ops_text[0]? = some oi ∧ YieldsIf Tryz.prog ops_text (TwS t qm qx) oi v (act_text t qm qx i 0) ∧ (act_text t qm qx i 0).put oi.dst v = act_text t qm qx i 1 :=
  ⟨_, pt t 0, rfl, .inl ⟨by kernel_rfl, fun w _ => by kernel_rfl⟩, by kernel_rfl⟩
theorem y_text_1 (t qm qx i : Nat) : ∃ oi v, ops_text[1]? = some oi ∧ YieldsIf Tryz.prog ops_text (TwS t qm qx) oi v (act_text t qm qx i 1) ∧ (act_text t qm qx i 1).put oi.dst v = act_text t qm qx i 2 :=
  ⟨_, pt t 0, rfl, .inl ⟨by kernel_rfl, fun w _ => by kernel_rfl⟩, by kernel_rfl⟩
theorem y_text_2 (t qm qx i : Nat) : ∃ oi v, ops_text[2]? = some oi ∧ YieldsIf Tryz.prog ops_text (TwS t qm qx) oi v (act_text t qm qx i 2) ∧ (act_text t qm qx i 2).put oi.dst v = act_text t qm qx i 3 :=
  ⟨_, pt t 1, rfl, .inl ⟨by kernel_rfl, fun w _ => by kernel_rfl⟩, by kernel_rfl⟩
theorem y_text_3 (t qm qx i : Nat) : ∃ oi v, ops_text[3]? = some oi ∧ YieldsIf Tryz.prog ops_text (TwS t qm qx) oi v (act_text t qm qx i 3) ∧ (act_text t qm qx i 3).put oi.dst v = act_text t qm qx i 4 :=
  ⟨_, pt qx 0, rfl, .inl ⟨by kernel_rfl, fun w hS => run_twload w _ _ _ _ (.tmp 8) (by kernel_rfl) (by kernel_rfl) hS.2⟩, by kernel_rfl⟩
theorem y_text_4 (t qm qx i : Nat) : ∃ oi v, ops_text[4]? = some oi ∧ YieldsIf Tryz.prog ops_text (TwS t qm qx) oi v (act_text t qm qx i 4) ∧ (act_text t qm qx i 4).put oi.dst v = act_text t qm qx i 5 :=
  ⟨_, pt qx 0, rfl, .inl ⟨by kernel_rfl, fun w _ => by kernel_rfl⟩, by kernel_rfl⟩
theorem y_text_5 (t qm qx i : Nat) : ∃ oi v, ops_text[5]? = some oi ∧ YieldsIf Tryz.prog ops_text (TwS t qm qx) oi v (act_text t qm qx i 5) ∧ (act_text t qm qx i 5).put oi.dst v = act_text t qm qx i 6 :=
  ⟨_, pt qx 3, rfl, .inl ⟨by kernel_rfl, fun w _ => by kernel_rfl⟩, by kernel_rfl⟩
theorem y_text_6 (t qm qx i : Nat) : ∃ oi v, ops_text[6]? = some oi ∧ YieldsIf Tryz.prog ops_text (TwS t qm qx) oi v (act_text t qm qx i 6) ∧ (act_text t qm qx i 6).put oi.dst v = act_text t qm qx i 7 :=
  ⟨_, pt t 0, rfl, .inl ⟨by kernel_rfl, fun w _ => by kernel_rfl⟩, by kernel_rfl⟩
theorem y_text_7 (t qm qx i : Nat) : ∃ oi v, ops_text[7]? = some oi ∧ YieldsIf Tryz.prog ops_text (TwS t qm qx) oi v (act_text t qm qx i 7) ∧ (act_text t qm qx i 7).put oi.dst v = act_text t qm qx i 8 :=
  ⟨_, pt t 0, rfl, .inl ⟨by kernel_rfl, fun w _ => by kernel_rfl⟩, by kernel_rfl⟩
theorem y_text_8 (t qm qx i : Nat) : ∃ oi v, ops_text[8]? = some oi ∧ YieldsIf Tryz.prog ops_text (TwS t qm qx) oi v (act_text t qm qx i 8) ∧ (act_text t qm qx i 8).put oi.dst v = act_text t qm qx i 9 :=
  ⟨_, pt t 0, rfl, .inl ⟨by kernel_rfl, fun w _ => by kernel_rfl⟩, by kernel_rfl⟩
theorem y_text_9 (t qm qx i : Nat) : ∃ oi v, ops_text[9]? = some oi ∧ YieldsIf Tryz.prog ops_text (TwS t qm qx) oi v (act_text t qm qx i 9) ∧ (act_text t qm qx i 9).put oi.dst v = act_text t qm qx i 10 :=
  ⟨_, pt qm 0, rfl, .inl ⟨by kernel_rfl, fun w hS => run_twload w _ _ _ _ (.tmp 14) (by kernel_rfl) (by kernel_rfl) hS.1⟩, by kernel_rfl⟩
theorem y_text_10 (t qm qx i : Nat) : ∃ oi v, ops_text[10]? = some oi ∧ YieldsIf Tryz.prog ops_text (TwS t qm qx) oi v (act_text t qm qx i 10) ∧ (act_text t qm qx i 10).put oi.dst v = act_text t qm qx i 11 :=
  ⟨_, pt qm 0, rfl, .inl ⟨by kernel_rfl, fun w _ => by kernel_rfl⟩, by kernel_rfl⟩
theorem y_text_11 (t qm qx i : Nat) : ∃ oi v, ops_text[11]? = some oi ∧ YieldsIf Tryz.prog ops_text (TwS t qm qx) oi v (act_text t qm qx i 11) ∧ (act_text t qm qx i 11).put oi.dst v = act_text t qm qx i 12 :=
  ⟨_, pt qm 3, rfl, .inl ⟨by kernel_rfl, fun w _ => by kernel_rfl⟩, by kernel_rfl⟩
theorem y_text_12 (t qm qx i : Nat) : ∃ oi v, ops_text[12]? = some oi ∧ YieldsIf Tryz.prog ops_text (TwS t qm qx) oi v (act_text t qm qx i 12) ∧ (act_text t qm qx i 12).put oi.dst v = act_text t qm qx i 13 :=
  ⟨_, .agg #[pt qx 3, pt qm 3], rfl, .inl ⟨by kernel_rfl, fun w _ => by kernel_rfl⟩, by kernel_rfl⟩
theorem y_text_13 (t qm qx i : Nat) : ∃ oi v, ops_text[13]? = some oi ∧ YieldsIf Tryz.prog ops_text (TwS t qm qx) oi v (act_text t qm qx i 13) ∧ (act_text t qm qx i 13).put oi.dst v = act_text t qm qx i 14 :=
  ⟨_, pt t 0, rfl, .inl ⟨by kernel_rfl, fun w _ => by kernel_rfl⟩, by kernel_rfl⟩
theorem y_text_14 (t qm qx i : Nat) : ∃ oi v, ops_text[14]? = some oi ∧ YieldsIf Tryz.prog ops_text (TwS t qm qx) oi v (act_text t qm qx i 14) ∧ (act_text t qm qx i 14).put oi.dst v = act_text t qm qx i 15 :=
  ⟨_, pt t 0, rfl, .inl ⟨by kernel_rfl, fun w _ => by kernel_rfl⟩, by kernel_rfl⟩
theorem y_text_15 (t qm qx i : Nat) : ∃ oi v, ops_text[15]? = some oi ∧ YieldsIf Tryz.prog ops_text (TwS t qm qx) oi v (act_text t qm qx i 15) ∧ (act_text t qm qx i 15).put oi.dst v = act_text t qm qx i 16 :=
  ⟨_, pt t 1, rfl, .inl ⟨by kernel_rfl, fun w _ => by kernel_rfl⟩, by kernel_rfl⟩
theorem y_text_16 (t qm qx i : Nat) : ∃ oi v, ops_text[16]? = some oi ∧ YieldsIf Tryz.prog ops_text (TwS t qm qx) oi v (act_text t qm qx i 16) ∧ (act_text t qm qx i 16).put oi.dst v = act_text t qm qx i 17 :=
  ⟨_, pt qx 0, rfl, .inl ⟨by kernel_rfl, fun w hS => run_twload w _ _ _ _ (.tmp 21) (by kernel_rfl) (by kernel_rfl) hS.2⟩, by kernel_rfl⟩
theorem y_text_17 (t qm qx i : Nat) : ∃ oi v, ops_text[17]? = some oi ∧ YieldsIf Tryz.prog ops_text (TwS t qm qx) oi v (act_text t qm qx i 17) ∧ (act_text t qm qx i 17).put oi.dst v = act_text t qm qx i 18 :=
  ⟨_, pt qx 0, rfl, .inl ⟨by kernel_rfl, fun w _ => by kernel_rfl⟩, by kernel_rfl⟩
theorem y_text_18 (t qm qx i : Nat) : ∃ oi v, ops_text[18]? = some oi ∧ YieldsIf Tryz.prog ops_text (TwS t qm qx) oi v (act_text t qm qx i 18) ∧ (act_text t qm qx i 18).put oi.dst v = act_text t qm qx i 19 :=
  ⟨_, pt qx 7, rfl, .inl ⟨by kernel_rfl, fun w _ => by kernel_rfl⟩, by kernel_rfl⟩
theorem y_text_19 (t qm qx i : Nat) : ∃ oi v, ops_text[19]? = some oi ∧ YieldsIf Tryz.prog ops_text (TwS t qm qx) oi v (act_text t qm qx i 19) ∧ (act_text t qm qx i 19).put oi.dst v = act_text t qm qx i 20 :=
  ⟨_, pt t 0, rfl, .inl ⟨by kernel_rfl, fun w _ => by kernel_rfl⟩, by kernel_rfl⟩
theorem y_text_20 (t qm qx i : Nat) : ∃ oi v, ops_text[20]? = some oi ∧ YieldsIf Tryz.prog ops_text (TwS t qm qx) oi v (act_text t qm qx i 20) ∧ (act_text t qm qx i 20).put oi.dst v = act_text t qm qx i 21 :=
  ⟨_, pt t 0, rfl, .inl ⟨by kernel_rfl, fun w _ => by kernel_rfl⟩, by kernel_rfl⟩
theorem y_text_21 (t qm qx i : Nat) : ∃ oi v, ops_text[21]? = some oi ∧ YieldsIf Tryz.prog ops_text (TwS t qm qx) oi v (act_text t qm qx i 21) ∧ (act_text t qm qx i 21).put oi.dst v = act_text t qm qx i 22 :=
  ⟨_, pt t 0, rfl, .inl ⟨by kernel_rfl, fun w _ => by kernel_rfl⟩, by kernel_rfl⟩
theorem y_text_22 (t qm qx i : Nat) : ∃ oi v, ops_text[22]? = some oi ∧ YieldsIf Tryz.prog ops_text (TwS t qm qx) oi v (act_text t qm qx i 22) ∧ (act_text t qm qx i 22).put oi.dst v = act_text t qm qx i 23 :=
  ⟨_, pt qm 0, rfl, .inl ⟨by kernel_rfl, fun w hS => run_twload w _ _ _ _ (.tmp 27) (by kernel_rfl) (by kernel_rfl) hS.1⟩, by kernel_rfl⟩
theorem y_text_23 (t qm qx i : Nat) : ∃ oi v, ops_text[23]? = some oi ∧ YieldsIf Tryz.prog ops_text (TwS t qm qx) oi v (act_text t qm qx i 23) ∧ (act_text t qm qx i 23).put oi.dst v = act_text t qm qx i 24 :=
  ⟨_, pt qm 0, rfl, .inl ⟨by kernel_rfl, fun w _ => by kernel_rfl⟩, by kernel_rfl⟩
theorem y_text_24 (t qm qx i : Nat) : ∃ oi v, ops_text[24]? = some oi ∧ YieldsIf Tryz.prog ops_text (TwS t qm qx) oi v (act_text t qm qx i 24) ∧ (act_text t qm qx i 24).put oi.dst v = act_text t qm qx i 25 :=
  ⟨_, pt qm 7, rfl, .inl ⟨by kernel_rfl, fun w _ => by kernel_rfl⟩, by kernel_rfl⟩
theorem y_text_25 (t qm qx i : Nat) : ∃ oi v, ops_text[25]? = some oi ∧ YieldsIf Tryz.prog ops_text (TwS t qm qx) oi v (act_text t qm qx i 25) ∧ (act_text t qm qx i 25).put oi.dst v = act_text t qm qx i 26 :=
  ⟨_, .agg #[pt qx 7, pt qm 7], rfl, .inl ⟨by kernel_rfl, fun w _ => by kernel_rfl⟩, by kernel_rfl⟩
theorem y_text_26 (t qm qx i : Nat) : ∃ oi v, ops_text[26]? = some oi ∧ YieldsIf Tryz.prog ops_text (TwS t qm qx) oi v (act_text t qm qx i 26) ∧ (act_text t qm qx i 26).put oi.dst v = act_text t qm qx i 27 :=
  ⟨_, pt t 0, rfl, .inl ⟨by kernel_rfl, fun w _ => by kernel_rfl⟩, by kernel_rfl⟩
theorem y_text_27 (t qm qx i : Nat) : ∃ oi v, ops_text[27]? = some oi ∧ YieldsIf Tryz.prog ops_text (TwS t qm qx) oi v (act_text t qm qx i 27) ∧ (act_text t qm qx i 27).put oi.dst v = act_text t qm qx i 28 :=
  ⟨_, pt t 0, rfl, .inl ⟨by kernel_rfl, fun w _ => by kernel_rfl⟩, by kernel_rfl⟩
theorem y_text_28 (t qm qx i : Nat) : ∃ oi v, ops_text[28]? = some oi ∧ YieldsIf Tryz.prog ops_text (TwS t qm qx) oi v (act_text t qm qx i 28) ∧ (act_text t qm qx i 28).put oi.dst v = act_text t qm qx i 29 :=
  ⟨_, pt t 1, rfl, .inl ⟨by kernel_rfl, fun w _ => by kernel_rfl⟩, by kernel_rfl⟩
theorem y_text_29 (t qm qx i : Nat) : ∃ oi v, ops_text[29]? = some oi ∧ YieldsIf Tryz.prog ops_text (TwS t qm qx) oi v (act_text t qm qx i 29) ∧ (act_text t qm qx i 29).put oi.dst v = act_text t qm qx i 30 :=
  ⟨_, pt qx 0, rfl, .inl ⟨by kernel_rfl, fun w hS => run_twload w _ _ _ _ (.tmp 34) (by kernel_rfl) (by kernel_rfl) hS.2⟩, by kernel_rfl⟩
theorem y_text_30 (t qm qx i : Nat) : ∃ oi v, ops_text[30]? = some oi ∧ YieldsIf Tryz.prog ops_text (TwS t qm qx) oi v (act_text t qm qx i 30) ∧ (act_text t qm qx i 30).put oi.dst v = act_text t qm qx i 31 :=
  ⟨_, pt qx 0, rfl, .inl ⟨by kernel_rfl, fun w _ => by kernel_rfl⟩, by kernel_rfl⟩
theorem y_text_31 (t qm qx i : Nat) : ∃ oi v, ops_text[31]? = some oi ∧ YieldsIf Tryz.prog ops_text (TwS t qm qx) oi v (act_text t qm qx i 31) ∧ (act_text t qm qx i 31).put oi.dst v = act_text t qm qx i 32 :=
  ⟨_, pt qx 8, rfl, .inl ⟨by kernel_rfl, fun w _ => by kernel_rfl⟩, by kernel_rfl⟩
theorem y_text_32 (t qm qx i : Nat) : ∃ oi v, ops_text[32]? = some oi ∧ YieldsIf Tryz.prog ops_text (TwS t qm qx) oi v (act_text t qm qx i 32) ∧ (act_text t qm qx i 32).put oi.dst v = act_text t qm qx i 33 :=
  ⟨_, pt t 0, rfl, .inl ⟨by kernel_rfl, fun w _ => by kernel_rfl⟩, by kernel_rfl⟩
theorem y_text_33 (t qm qx i : Nat) : ∃ oi v, ops_text[33]? = some oi ∧ YieldsIf Tryz.prog ops_text (TwS t qm qx) oi v (act_text t qm qx i 33) ∧ (act_text t qm qx i 33).put oi.dst v = act_text t qm qx i 34 :=
  ⟨_, pt t 0, rfl, .inl ⟨by kernel_rfl, fun w _ => by kernel_rfl⟩, by kernel_rfl⟩
theorem y_text_34 (t qm qx i : Nat) : ∃ oi v, ops_text[34]? = some oi ∧ YieldsIf Tryz.prog ops_text (TwS t qm qx) oi v (act_text t qm qx i 34) ∧ (act_text t qm qx i 34).put oi.dst v = act_text t qm qx i 35 :=
  ⟨_, pt t 0, rfl, .inl ⟨by kernel_rfl, fun w _ => by kernel_rfl⟩, by kernel_rfl⟩
theorem y_text_35 (t qm qx i : Nat) : ∃ oi v, ops_text[35]? = some oi ∧ YieldsIf Tryz.prog ops_text (TwS t qm qx) oi v (act_text t qm qx i 35) ∧ (act_text t qm qx i 35).put oi.dst v = act_text t qm qx i 36 :=
  ⟨_, pt qm 0, rfl, .inl ⟨by kernel_rfl, fun w hS => run_twload w _ _ _ _ (.tmp 40) (by kernel_rfl) (by kernel_rfl) hS.1⟩, by kernel_rfl⟩
theorem y_text_36 (t qm qx i : Nat) : ∃ oi v, ops_text[36]? = some oi ∧ YieldsIf Tryz.prog ops_text (TwS t qm qx) oi v (act_text t qm qx i 36) ∧ (act_text t qm qx i 36).put oi.dst v = act_text t qm qx i 37 :=
  ⟨_, pt qm 0, rfl, .inl ⟨by kernel_rfl, fun w _ => by kernel_rfl⟩, by kernel_rfl⟩
theorem y_text_37 (t qm qx i : Nat) : ∃ oi v, ops_text[37]? = some oi ∧ YieldsIf Tryz.prog ops_text (TwS t qm qx) oi v (act_text t qm qx i 37) ∧ (act_text t qm qx i 37).put oi.dst v = act_text t qm qx i 38 :=
  ⟨_, pt qm 8, rfl, .inl ⟨by kernel_rfl, fun w _ => by kernel_rfl⟩, by kernel_rfl⟩
theorem y_text_38 (t qm qx i : Nat) : ∃ oi v, ops_text[38]? = some oi ∧ YieldsIf Tryz.prog ops_text (TwS t qm qx) oi v (act_text t qm qx i 38) ∧ (act_text t qm qx i 38).put oi.dst v = act_text t qm qx i 39 :=
  ⟨_, .agg #[pt qx 8, pt qm 8], rfl, .inl ⟨by kernel_rfl, fun w _ => by kernel_rfl⟩, by kernel_rfl⟩
theorem y_text_39 (t qm qx i : Nat) : ∃ oi v, ops_text[39]? = some oi ∧ YieldsIf Tryz.prog ops_text (TwS t qm qx) oi v (act_text t qm qx i 39) ∧ (act_text t qm qx i 39).put oi.dst v = act_text t qm qx i 40 :=
  ⟨_, pt t 0, rfl, .inl ⟨by kernel_rfl, fun w _ => by kernel_rfl⟩, by kernel_rfl⟩
theorem y_text_40 (t qm qx i : Nat) : ∃ oi v, ops_text[40]? = some oi ∧ YieldsIf Tryz.prog ops_text (TwS t qm qx) oi v (act_text t qm qx i 40) ∧ (act_text t qm qx i 40).put oi.dst v = act_text t qm qx i 41 :=
  ⟨_, pt t 0, rfl, .inl ⟨by kernel_rfl, fun w _ => by kernel_rfl⟩, by kernel_rfl⟩
theorem y_text_41 (t qm qx i : Nat) : ∃ oi v, ops_text[41]? = some oi ∧ YieldsIf Tryz.prog ops_text (TwS t qm qx) oi v (act_text t qm qx i 41) ∧ (act_text t qm qx i 41).put oi.dst v = act_text t qm qx i 42 :=
  ⟨_, pt t 1, rfl, .inl ⟨by kernel_rfl, fun w _ => by kernel_rfl⟩, by kernel_rfl⟩
theorem y_text_42 (t qm qx i : Nat) : ∃ oi v, ops_text[42]? = some oi ∧ YieldsIf Tryz.prog ops_text (TwS t qm qx) oi v (act_text t qm qx i 42) ∧ (act_text t qm qx i 42).put oi.dst v = act_text t qm qx i 43 :=
  ⟨_, pt qx 0, rfl, .inl ⟨by kernel_rfl, fun w hS => run_twload w _ _ _ _ (.tmp 47) (by kernel_rfl) (by kernel_rfl) hS.2⟩, by kernel_rfl⟩
theorem y_text_43 (t qm qx i : Nat) : ∃ oi v, ops_text[43]? = some oi ∧ YieldsIf Tryz.prog ops_text (TwS t qm qx) oi v (act_text t qm qx i 43) ∧ (act_text t qm qx i 43).put oi.dst v = act_text t qm qx i 44 :=
  ⟨_, pt qx 0, rfl, .inl ⟨by kernel_rfl, fun w _ => by kernel_rfl⟩, by kernel_rfl⟩
theorem y_text_44 (t qm qx i : Nat) : ∃ oi v, ops_text[44]? = some oi ∧ YieldsIf Tryz.prog ops_text (TwS t qm qx) oi v (act_text t qm qx i 44) ∧ (act_text t qm qx i 44).put oi.dst v = act_text t qm qx i 45 :=
  ⟨_, pt qx 9, rfl, .inl ⟨by kernel_rfl, fun w _ => by kernel_rfl⟩, by kernel_rfl⟩
theorem y_text_45 (t qm qx i : Nat) : ∃ oi v, ops_text[45]? = some oi ∧ YieldsIf Tryz.prog ops_text (TwS t qm qx) oi v (act_text t qm qx i 45) ∧ (act_text t qm qx i 45).put oi.dst v = act_text t qm qx i 46 :=
  ⟨_, pt t 0, rfl, .inl ⟨by kernel_rfl, fun w _ => by kernel_rfl⟩, by kernel_rfl⟩
theorem y_text_46 (t qm qx i : Nat) : ∃ oi v, ops_text[46]? = some oi ∧ YieldsIf Tryz.prog ops_text (TwS t qm qx) oi v (act_text t qm qx i 46) ∧ (act_text t qm qx i 46).put oi.dst v = act_text t qm qx i 47 :=
  ⟨_, pt t 0, rfl, .inl ⟨by kernel_rfl, fun w _ => by kernel_rfl⟩, by kernel_rfl⟩
theorem y_text_47 (t qm qx i : Nat) : ∃ oi v, ops_text[47]? = some oi ∧ YieldsIf Tryz.prog ops_text (TwS t qm qx) oi v (act_text t qm qx i 47) ∧ (act_text t qm qx i 47).put oi.dst v = act_text t qm qx i 48 :=
  ⟨_, pt t 0, rfl, .inl ⟨by kernel_rfl, fun w _ => by kernel_rfl⟩, by kernel_rfl⟩
theorem y_text_48 (t qm qx i : Nat) : ∃ oi v, ops_text[48]? = some oi ∧ YieldsIf Tryz.prog ops_text (TwS t qm qx) oi v (act_text t qm qx i 48) ∧ (act_text t qm qx i 48).put oi.dst v = act_text t qm qx i 49 :=
  ⟨_, pt qm 0, rfl, .inl ⟨by kernel_rfl, fun w hS => run_twload w _ _ _ _ (.tmp 53) (by kernel_rfl) (by kernel_rfl) hS.1⟩, by kernel_rfl⟩
theorem y_text_49 (t qm qx i : Nat) : ∃ oi v, ops_text[49]? = some oi ∧ YieldsIf Tryz.prog ops_text (TwS t qm qx) oi v (act_text t qm qx i 49) ∧ (act_text t qm qx i 49).put oi.dst v = act_text t qm qx i 50 :=
  ⟨_, pt qm 0, rfl, .inl ⟨by kernel_rfl, fun w _ => by kernel_rfl⟩, by kernel_rfl⟩
theorem y_text_50 (t qm qx i : Nat) : ∃ oi v, ops_text[50]? = some oi ∧ YieldsIf Tryz.prog ops_text (TwS t qm qx) oi v (act_text t qm qx i 50) ∧ (act_text t qm qx i 50).put oi.dst v = act_text t qm qx i 51 :=
  ⟨_, pt qm 9, rfl, .inl ⟨by kernel_rfl, fun w _ => by kernel_rfl⟩, by kernel_rfl⟩
theorem y_text_51 (t qm qx i : Nat) : ∃ oi v, ops_text[51]? = some oi ∧ YieldsIf Tryz.prog ops_text (TwS t qm qx) oi v (act_text t qm qx i 51) ∧ (act_text t qm qx i 51).put oi.dst v = act_text t qm qx i 52 :=
  ⟨_, .agg #[pt qx 9, pt qm 9], rfl, .inl ⟨by kernel_rfl, fun w _ => by kernel_rfl⟩, by kernel_rfl⟩
theorem y_text_52 (t qm qx i : Nat) : ∃ oi v, ops_text[52]? = some oi ∧ YieldsIf Tryz.prog ops_text (TwS t qm qx) oi v (act_text t qm qx i 52) ∧ (act_text t qm qx i 52).put oi.dst v = act_text t qm qx i 53 :=
  ⟨_, pt t 0, rfl, .inl ⟨by kernel_rfl, fun w _ => by kernel_rfl⟩, by kernel_rfl⟩
theorem y_text_53 (t qm qx i : Nat) : ∃ oi v, ops_text[53]? = some oi ∧ YieldsIf Tryz.prog ops_text (TwS t qm qx) oi v (act_text t qm qx i 53) ∧ (act_text t qm qx i 53).put oi.dst v = act_text t qm qx i 54 :=
  ⟨_, pt t 0, rfl, .inl ⟨by kernel_rfl, fun w _ => by kernel_rfl⟩, by kernel_rfl⟩
theorem y_text_54 (t qm qx i : Nat) : ∃ oi v, ops_text[54]? = some oi ∧ YieldsIf Tryz.prog ops_text (TwS t qm qx) oi v (act_text t qm qx i 54) ∧ (act_text t qm qx i 54).put oi.dst v = act_text t qm qx i 55 :=
  ⟨_, pt t 1, rfl, .inl ⟨by kernel_rfl, fun w _ => by kernel_rfl⟩, by kernel_rfl⟩
theorem y_text_55 (t qm qx i : Nat) : ∃ oi v, ops_text[55]? = some oi ∧ YieldsIf Tryz.prog ops_text (TwS t qm qx) oi v (act_text t qm qx i 55) ∧ (act_text t qm qx i 55).put oi.dst v = act_text t qm qx i 56 :=
  ⟨_, pt qx 0, rfl, .inl ⟨by kernel_rfl, fun w hS => run_twload w _ _ _ _ (.tmp 60) (by kernel_rfl) (by kernel_rfl) hS.2⟩, by kernel_rfl⟩
theorem y_text_56 (t qm qx i : Nat) : ∃ oi v, ops_text[56]? = some oi ∧ YieldsIf Tryz.prog ops_text (TwS t qm qx) oi v (act_text t qm qx i 56) ∧ (act_text t qm qx i 56).put oi.dst v = act_text t qm qx i 57 :=
  ⟨_, pt qx 0, rfl, .inl ⟨by kernel_rfl, fun w _ => by kernel_rfl⟩, by kernel_rfl⟩
theorem y_text_57 (t qm qx i : Nat) : ∃ oi v, ops_text[57]? = some oi ∧ YieldsIf Tryz.prog ops_text (TwS t qm qx) oi v (act_text t qm qx i 57) ∧ (act_text t qm qx i 57).put oi.dst v = act_text t qm qx i 58 :=
  ⟨_, pt qx 19, rfl, .inl ⟨by kernel_rfl, fun w _ => by kernel_rfl⟩, by kernel_rfl⟩
theorem y_text_58 (t qm qx i : Nat) : ∃ oi v, ops_text[58]? = some oi ∧ YieldsIf Tryz.prog ops_text (TwS t qm qx) oi v (act_text t qm qx i 58) ∧ (act_text t qm qx i 58).put oi.dst v = act_text t qm qx i 59 :=
  ⟨_, pt t 0, rfl, .inl ⟨by kernel_rfl, fun w _ => by kernel_rfl⟩, by kernel_rfl⟩
theorem y_text_59 (t qm qx i : Nat) : ∃ oi v, ops_text[59]? = some oi ∧ YieldsIf Tryz.prog ops_text (TwS t qm qx) oi v (act_text t qm qx i 59) ∧ (act_text t qm qx i 59).put oi.dst v = act_text t qm qx i 60 :=
  ⟨_, pt t 0, rfl, .inl ⟨by kernel_rfl, fun w _ => by kernel_rfl⟩, by kernel_rfl⟩
theorem y_text_60 (t qm qx i : Nat) : ∃ oi v, ops_text[60]? = some oi ∧ YieldsIf Tryz.prog ops_text (TwS t qm qx) oi v (act_text t qm qx i 60) ∧ (act_text t qm qx i 60).put oi.dst v = act_text t qm qx i 61 :=
  ⟨_, pt t 0, rfl, .inl ⟨by kernel_rfl, fun w _ => by kernel_rfl⟩, by kernel_rfl⟩
theorem y_text_61 (t qm qx i : Nat) : ∃ oi v, ops_text[61]? = some oi ∧ YieldsIf Tryz.prog ops_text (TwS t qm qx) oi v (act_text t qm qx i 61) ∧ (act_text t qm qx i 61).put oi.dst v = act_text t qm qx i 62 :=
  ⟨_, pt qm 0, rfl, .inl ⟨by kernel_rfl, fun w hS => run_twload w _ _ _ _ (.tmp 66) (by kernel_rfl) (by kernel_rfl) hS.1⟩, by kernel_rfl⟩
theorem y_text_62 (t qm qx i : Nat) : ∃ oi v, ops_text[62]? = some oi ∧ YieldsIf Tryz.prog ops_text (TwS t qm qx) oi v (act_text t qm qx i 62) ∧ (act_text t qm qx i 62).put oi.dst v = act_text t qm qx i 63 :=
  ⟨_, pt qm 0, rfl, .inl ⟨by kernel_rfl, fun w _ => by kernel_rfl⟩, by kernel_rfl⟩
theorem y_text_63 (t qm qx i : Nat) : ∃ oi v, ops_text[63]? = some oi ∧ YieldsIf Tryz.prog ops_text (TwS t qm qx) oi v (act_text t qm qx i 63) ∧ (act_text t qm qx i 63).put oi.dst v = act_text t qm qx i 64 :=
  ⟨_, pt qm 19, rfl, .inl ⟨by kernel_rfl, fun w _ => by kernel_rfl⟩, by kernel_rfl⟩
theorem y_text_64 (t qm qx i : Nat) : ∃ oi v, ops_text[64]? = some oi ∧ YieldsIf Tryz.prog ops_text (TwS t qm qx) oi v (act_text t qm qx i 64) ∧ (act_text t qm qx i 64).put oi.dst v = act_text t qm qx i 65 :=
  ⟨_, .agg #[pt qx 19, pt qm 19], rfl, .inl ⟨by kernel_rfl, fun w _ => by kernel_rfl⟩, by kernel_rfl⟩

end Go.Proofs.YtcbglcebdkpcfaaGreat
