/- What one may of two things at once, plain; the three users of law PermMore. Numbers in their types. -/
import Derived.Test.YtonhliipbdniiaaPmL3
namespace Go.Proofs.Ytonhliipbdniiaa
open Go.RowKit
set_option maxRecDepth 100000
set_option linter.unusedVariables false

theorem may_or (g o : Bool) (m a b : Nat) : mayS g o m (a ||| b) = (mayS g o m a && mayS g o m b) := by
  unfold mayS
  rw [Nat.and_or_distrib_right, Bool.eq_iff_iff]
  simp [Nat.or_eq_zero_iff]
theorem may_zero (g o : Bool) (m : Nat) : mayS g o m 0 = true := by
  unfold mayS
  simp
theorem and_low (a k : Nat) (hk : k < 8) : a &&& k = a % 8 &&& k := by
  have h : 7 &&& k = k := by rw [Nat.and_comm, and7]; omega
  calc a &&& k = a &&& (7 &&& k) := by rw [h]
    _ = a % 8 &&& k := by rw [← Nat.and_assoc, and7]
theorem more_lets : ∀ x < 8, ∀ h < 8, ∀ d < 8, x &&& (7 - h) = 0 → x &&& (7 - (h ||| d)) = 0 := by decide
theorem or_lc (a b c : Nat) : a ||| (b ||| c) = b ||| (a ||| c) := by rw [← Nat.or_assoc, Nat.or_comm a b, Nat.or_assoc]
theorem hasB_or (g o : Bool) (m c : Nat) : hasB g o (m ||| c) = hasB g o m ||| hasB g o c := by
  unfold hasB
  have e8 : (m ||| c) / 8 = m / 8 ||| c / 8 := Nat.or_div_two_pow (n := 3)
  have e64 : (m ||| c) / 64 = m / 64 ||| c / 64 := Nat.or_div_two_pow (n := 6)
  rw [e8, e64, or_mod8, or_mod8, or_mod8]
  cases g <;> cases o <;> simp [Nat.or_assoc, Nat.or_comm, or_lc]
theorem may_more (g o : Bool) (m c a : Nat) (h : mayS g o m a = true) : mayS g o (m ||| c) a = true := by
  unfold mayS at h ⊢
  have h1 := hasB_lt g o m
  have h2 := hasB_lt g o c
  have h3 := hasB_lt g o (m ||| c)
  simp only [decide_eq_true_eq] at h ⊢
  rw [and_low _ _ (by omega)] at h ⊢
  rw [hasB_or]
  exact more_lets _ (by omega) _ h1 _ h2 h

def usM : List ByteArray := [⟨#[117, 49]⟩, ⟨#[117, 50]⟩, ⟨#[117, 51]⟩]
def gsM (v : Value) : List Grp := [⟨⟨#[103, 49]⟩, v, [⟨#[117, 49]⟩, ⟨#[117, 50]⟩]⟩]
theorem gok_m (v : Value) : GOk usM [] ⟨⟨#[103, 49]⟩, v, [⟨#[117, 49]⟩, ⟨#[117, 50]⟩]⟩ := by
  refine ⟨by kernel_rfl, rfl, fun k h _ => ?_⟩
  match k, h with
  | 0, _ => exact ⟨by kernel_rfl, rfl⟩
  | 1, _ => exact ⟨by kernel_rfl, by kernel_rfl⟩
theorem uok_m (v : Value) : UOk usM (gsM v) := by
  refine ⟨by decide, by simp [gsM], fun k h _ => ?_, fun k h _ => ?_⟩
  · match k, h with
    | 0, _ => exact ⟨by kernel_rfl, by kernel_rfl⟩
    | 1, _ => exact ⟨by kernel_rfl, by kernel_rfl⟩
    | 2, _ => exact ⟨by kernel_rfl, by kernel_rfl⟩
  · match k, h with
    | 0, _ => exact gok_m v
theorem ub_m (v : Value) : UB usM (gsM v) := ⟨by decide, by simp [gsM], fun g hg => by simp [gsM] at hg; subst hg; simp⟩
theorem txts_m3 (w : World) (b : Nat) (T : TypeId) (h : w.heap[b]? = some (.cells #[.string ⟨#[117, 49]⟩, .string ⟨#[117, 50]⟩, .string ⟨#[117, 51]⟩] T (0, 0))) : TxtsAt w (.slice (some ⟨b, 0, none⟩) 3 3) usM :=
  (RowAt.of_block (n := 3) (k := 1) h rfl (by decide)).weak
theorem txts_m2 (w : World) (b : Nat) (T : TypeId) (h : w.heap[b]? = some (.cells #[.string ⟨#[117, 49]⟩, .string ⟨#[117, 50]⟩] T (0, 0))) : TxtsAt w (.slice (some ⟨b, 0, none⟩) 2 2) [⟨#[117, 49]⟩, ⟨#[117, 50]⟩] :=
  (RowAt.of_block (n := 2) (k := 1) h rfl (by decide)).weak
theorem grps_m (w : World) (b b1 : Nat) (T T1 : TypeId) (h : w.heap[b]? = some (.cells #[.string ⟨#[103, 49]⟩, .slice (some ⟨b1, 0, none⟩) 2 2] T (0, 0))) (h1 : w.heap[b1]? = some (.cells #[.string ⟨#[117, 49]⟩, .string ⟨#[117, 50]⟩] T1 (0, 0))) :
    GrpsAt w (.slice (some ⟨b, 0, none⟩) 1 1) (gsM (.slice (some ⟨b1, 0, none⟩) 2 2)) :=
  ⟨(RowAt.of_block (n := 1) (k := 2) h rfl (by decide)).weak, fun g hg => by simp [gsM] at hg; subst hg; exact txts_m2 w b1 T1 h1⟩
theorem or32_nat (a b : Nat) (ha : a < 4294967296) (hb : b < 4294967296) : bits .or .u32 (a : Int) (b : Int) = ((a ||| b : Nat) : Int) := u32_or_nat _ _ ha hb
theorem and511 (a : Nat) (ha : a < 4294967296) : bits .and .u32 (a : Int) 511 = ((a &&& 511 : Nat) : Int) := by
  rw [show (511 : Int) = ((511 : Nat) : Int) from rfl, u32_and_nat _ _ ha (by omega)]
end Go.Proofs.Ytonhliipbdniiaa
