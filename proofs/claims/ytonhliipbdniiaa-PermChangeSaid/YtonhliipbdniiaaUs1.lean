/- slices.Contains of strings, and the reference's among: whether a text is one of some. No further condition. -/
import Derived.Test.YtonhliipbdniiaaUs0
namespace Go.Proofs.Ytonhliipbdniiaa
open Go.RowKit
set_option maxRecDepth 100000
set_option linter.unusedVariables false

theorem str_beq (s t : ByteArray) : (s.toList == t.toList) = decide (s = t) := by
  rw [ByteArray.toList_eq, ByteArray.toList_eq]
  by_cases h : s = t
  · subst h; simp
  · have h2 : ¬ s.data = t.data := fun e => h (ByteArray.ext e)
    simp [h, h2]
/-- Is a text one of some? -/
def hasS (l : List ByteArray) (s : ByteArray) : Bool := l.any fun x => decide (x = s)
theorem hasS_iff {l : List ByteArray} {s : ByteArray} : hasS l s = true ↔ s ∈ l := by
  unfold hasS
  rw [List.any_eq_true]
  exact ⟨fun ⟨x, h, e⟩ => of_decide_eq_true e ▸ h, fun h => ⟨s, h, decide_eq_true rfl⟩⟩
theorem hasS_true {l : List ByteArray} {s : ByteArray} {i : Nat} (hi : i < l.length) (h : l[i] = s) : hasS l s = true :=
  hasS_iff.2 (h ▸ List.getElem_mem hi)
theorem hasS_false {l : List ByteArray} {s : ByteArray} (h : ∀ j (h : j < l.length), j < l.length → l[j] ≠ s) : hasS l s = false := by
  rw [Bool.eq_false_iff]
  intro hm
  obtain ⟨j, hj, e⟩ := List.getElem_of_mem (hasS_iff.1 hm)
  exact h j hj hj e

def IdxPost (w : World) (r : Bool) (e : Ending) (w' : World) : Prop := ∃ i : Int, e = .returned (.int .i64 i) ∧ decide (0 ≤ i) = r ∧ w' = w

theorem sindex_any (v : Value) (l : List ByteArray) (s : ByteArray) (w : World) (hv : TxtsAt w v l) (hl : l.length < 4611686018427387904) :
    Calls Try.prog 93 #[v, .string s] w (IdxPost w (hasS l s)) := by
  obtain ⟨a, c, rfl, g1, g2⟩ := hv.form
  unfold maxLen at g2
  replace hv := hid hv
  go_enter Try.func93, Try.ntmps93
  go_wp2_with fail
  go_loopw [8] (fun kv wr => ∃ k : Nat, k ≤ l.length ∧ kv = .int .i64 (k : Int) ∧ wr = w ∧ Hid (∀ j (h : j < l.length), j < k → l[j] ≠ s)) (fun kv _ => l.length - (intOf kv).toNat)
  case atStart => exact ⟨0, by omega, rfl, rfl, hid (fun j _ h => by omega)⟩
  case round =>
    obtain ⟨k, hk, rfl, rfl, hall⟩ := hrel
    by_cases hkl : k < l.length
    · obtain ⟨b1, o1, ha1, hc1⟩ := TxtsAt.cell hv.out k hkl
      subst ha1
      by_cases hs : l[k] = s
      · have hT := hid (hasS_true hkl hs)
        rw [hs] at hc1
        clear hs
        go_wp2_with fail
        go_ret
        exact ⟨(k : Int), rfl, by rw [hT.out]; simp, rfl⟩
      · have hq : (s.toList == l[k].toList) = false := by rw [str_beq]; exact decide_eq_false fun e => hs e.symm
        replace hs := hid hs
        generalize hs1 : l[k] = s1 at *
        replace hs1 := hid hs1
        go_wp2_with fail
        go_roundw
        case rel => exact ⟨k + 1, by omega, by go_num, by first | rfl | trivial, hid (fun j h h2 => by
          by_cases hjk : j < k
          · exact hall.out j h hjk
          · obtain rfl : j = k := by omega
            rw [hs1.out]; exact hs.out)⟩
        case measure => simp [intOf]; omega
    · obtain rfl : k = l.length := by omega
      go_wp2_with fail
      go_ret
      exact ⟨-1, rfl, by rw [hasS_false hall.out]; rfl, rfl⟩

theorem scontains_any (v : Value) (l : List ByteArray) (s : ByteArray) (w : World) (hv : TxtsAt w v l) (hl : l.length < 4611686018427387904) :
    Calls Try.prog 69 #[v, .string s] w fun e w' => e = .returned (.bool (hasS l s)) ∧ w' = w := by
  have h := hid (sindex_any v l s w hv hl)
  obtain ⟨a, c, rfl, g1, g2⟩ := hv.form
  clear hv
  go_enter Try.func69, Try.ntmps69
  go_wp2_with fail
  refine h.out.mono ?_
  rintro e w1 ⟨i, rfl, hi, rfl⟩
  replace hi := hid hi
  go_wp2_with fail
  go_ret
  exact ⟨ret_bool (by rw [← hi.out]), rfl⟩

set_option maxHeartbeats 800000 in
theorem among_any (v : Value) (l : List ByteArray) (s : ByteArray) (w : World) (hv : TxtsAt w v l) (hl : l.length < 4611686018427387904) :
    Calls Try.prog 38 #[v, .string s] w fun e w' => e = .returned (.bool (hasS l s)) ∧ w' = w := by
  obtain ⟨a, c, rfl, g1, g2⟩ := hv.form
  unfold maxLen at g2
  replace hv := hid hv
  go_enter Try.func38, Try.ntmps38
  go_wp2_with fail
  go_loopw [5] (fun kv wr => ∃ k : Nat, k ≤ l.length ∧ kv = .int .i64 (k : Int) ∧ wr = w ∧ Hid (∀ j (h : j < l.length), j < k → l[j] ≠ s)) (fun kv _ => l.length - (intOf kv).toNat)
  case atStart => exact ⟨0, by omega, rfl, rfl, hid (fun j _ h => by omega)⟩
  case round =>
    obtain ⟨k, hk, rfl, rfl, hall⟩ := hrel
    by_cases hkl : k < l.length
    · obtain ⟨b1, o1, ha1, hc1⟩ := TxtsAt.cell hv.out k hkl
      subst ha1
      by_cases hs : l[k] = s
      · have hT := hid (hasS_true hkl hs)
        rw [hs] at hc1
        clear hs
        go_wp2_with fail
        go_ret
        exact ⟨ret_bool (by rw [hT.out]), rfl⟩
      · have hq : (l[k].toList == s.toList) = false := by rw [str_beq]; exact decide_eq_false hs
        replace hs := hid hs
        generalize hs1 : l[k] = s1 at *
        replace hs1 := hid hs1
        go_wp2_with fail
        go_roundw
        case rel => exact ⟨k + 1, by omega, by go_num, by first | rfl | trivial, hid (fun j h h2 => by
          by_cases hjk : j < k
          · exact hall.out j h hjk
          · obtain rfl : j = k := by omega
            rw [hs1.out]; exact hs.out)⟩
        case measure => simp [intOf]; omega
    · obtain rfl : k = l.length := by omega
      go_wp2_with fail
      go_ret
      exact ⟨ret_bool (by rw [hasS_false hall.out]), rfl⟩
end Go.Proofs.Ytonhliipbdniiaa
