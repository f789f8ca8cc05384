/- Small helpers for the walks of this seat. No condition. -/
import Derived.WalkKit
import Derived.WalkSpells
import Derived.WalkLawsBesides
namespace Go.Proofs.Ytonhliipbdniiaa
open Go.RowKit

theorem hid {p : Prop} (h : p) : Hid p := h

/-- What a contract that ends in 'Below' says of the old cells, in the walk's form. -/
theorem bcell {W w1 : World} (hb : Below W.heap.size W w1) : (∀ b o, b < W.heap.size → w1.cell? ⟨b, o, none⟩ = W.cell? ⟨b, o, none⟩) ∧ (∀ b o, b < W.heap.size → w1.frozen? ⟨b, o, none⟩ = W.frozen? ⟨b, o, none⟩) :=
  ⟨fun b o h => hb.cell (p := ⟨b, o, none⟩) h, fun b o h => hb.frozen (p := ⟨b, o, none⟩) h⟩

theorem or64_i32 (v b : Nat) (hv : v < 2097152) (hb : b < 64) : bits .or .i32 ((v : Int) * 64) ((b : Int)) = ((v * 64 + b : Nat) : Int) := by
  have hx : v * 64 ||| b = v * 64 + b := by
    have := Nat.shiftLeft_add_eq_or_of_lt (i := 6) hb v
    rw [Nat.shiftLeft_eq] at this
    simpa using this.symm
  show IntKind.i32.wrap ((BitVec.ofInt 32 ((v : Int) * 64) ||| BitVec.ofInt 32 (b : Int)).toNat : Int) = _
  rw [show (v : Int) * 64 = ((v * 64 : Nat) : Int) from by omega, BitVec.ofInt_natCast, BitVec.ofInt_natCast, BitVec.toNat_or, BitVec.toNat_ofNat, BitVec.toNat_ofNat,
    Nat.mod_eq_of_lt (by omega), Nat.mod_eq_of_lt (by omega), hx]
  simp [IntKind.wrap, IntKind.bits, IntKind.signed]
  omega

theorem ret_int {k : IntKind} {a b : Int} (h : a = b) : Ending.returned (.int k a) = .returned (.int k b) := by rw [h]
theorem ret_bool {a b : Bool} (h : a = b) : Ending.returned (.bool a) = .returned (.bool b) := by rw [h]

/-- The rest of a deferred function, behind its recover, is walked as any other code. -/
theorem wpS_body {P : Program} {fn : Func} {c₀ : Frame} {cs : List Frame} {u' : FrameMode} {R : Ending → FrameMode → World → Prop} {c : Code} {a : Act} {w : World}
    (h : c.wp P (bodyPost P fn (fun e w' => R e u' w')) a w) : c.wpS P (bodyPostS P fn c₀ cs R) a ({ c₀ with mode := u' } :: cs) w :=
  wpS_of_wp (Code.wp_mono (fun e a w q => by
    cases e with
    | normal => obtain ⟨hd, v, hv, hr⟩ := q; exact ⟨hd, u', rfl, v, hv, hr⟩
    | ret => obtain ⟨hd, v, hv, hr⟩ := q; exact ⟨hd, u', rfl, v, hv, hr⟩
    | panic chain => obtain ⟨hd, hr⟩ := q; exact ⟨hd, u', rfl, hr⟩
    | outgrown => exact ⟨u', q⟩
    | exit id => exact q.elim
    | goto l => exact q.elim) h)

theorem isEmpty_size (t : ByteArray) : t.toList.isEmpty = decide (t.size = 0) := by
  rw [← decide_eq_emptyBytes]
  refine decide_eq_decide.2 ⟨fun h => by subst h; rfl, fun h => ?_⟩
  obtain ⟨⟨l⟩⟩ := t
  have : l = [] := List.eq_nil_of_length_eq_zero h
  subst this; rfl
theorem str_empty {t : ByteArray} (h : t.size = 0) : t.toList.isEmpty = true ∧ (!t.toList.isEmpty) = false := by rw [isEmpty_size]; simp [h]
theorem str_full {t : ByteArray} (h : 0 < t.size) : t.toList.isEmpty = false ∧ (!t.toList.isEmpty) = true := by 
  rw [isEmpty_size, show decide (t.size = 0) = false from decide_eq_false (by omega)]; exact ⟨rfl, rfl⟩

end Go.Proofs.Ytonhliipbdniiaa
