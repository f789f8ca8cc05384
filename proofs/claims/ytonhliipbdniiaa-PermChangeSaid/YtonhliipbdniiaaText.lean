/- How text.head and text.one of the program end, for every text of at most maxLen bytes. No further condition. -/
import Derived.Test.YtonhliipbdniiaaProg
import Derived.Test.YtonhliipbdniiaaSpec
import Derived.WalkKit
import Derived.WalkSpells
import Derived.WalkLawsBesides
import Derived.Test.YtonhliipbdniiaaKit
namespace Go.Proofs.Ytonhliipbdniiaa
open Go.RowKit

/-- What 'text' panics with: a value of its type none. -/
def noneChain : List PanicEntry := [{ v := .iface 153 (.agg #[]), recovered := false }]

theorem head_cases {c n v l : Nat} (h : S.head c = some (n, v, l)) :
    (c < 128 ∧ n = 0 ∧ v = c ∧ l = 0) ∨ (128 ≤ c ∧ c / 32 = 6 ∧ n = 1 ∧ v = c % 32 ∧ l = 128) ∨ (128 ≤ c ∧ c / 32 ≠ 6 ∧ c / 16 = 14 ∧ n = 2 ∧ v = c % 16 ∧ l = 2048) ∨
    (128 ≤ c ∧ c / 32 ≠ 6 ∧ c / 16 ≠ 14 ∧ c / 8 = 30 ∧ n = 3 ∧ v = c % 8 ∧ l = 65536) := by
  unfold S.head at h
  split at h
  · simp at h; omega
  split at h
  · simp at h; omega
  split at h
  · simp at h; omega
  split at h
  · simp at h; omega
  · simp at h

theorem head_no {c : Nat} (h : S.head c = none) : 128 ≤ c ∧ c / 32 ≠ 6 ∧ c / 16 ≠ 14 ∧ c / 8 ≠ 30 := by
  unfold S.head at h
  split at h
  · simp at h
  split at h
  · simp at h
  split at h
  · simp at h
  split at h
  · simp at h
  · omega

set_option maxRecDepth 100000 in
set_option maxHeartbeats 400000 in
theorem head_some (c : UInt8) (n v l : Nat) (w : World) (h : S.head c.toNat = some (n, v, l)) :
    Calls Try.prog 104 #[.int .u8 (c.toNat : Int)] w fun e w' => e = .returned (.tuple #[.int .i64 (n : Int), .int .i32 (v : Int), .int .i32 (l : Int)]) ∧ w = w' := by
  have hc := c.toNat_lt
  generalize c.toNat = c at h hc
  rcases head_cases h with ⟨h1, rfl, rfl, rfl⟩ | ⟨h1, h2, rfl, rfl, rfl⟩ | ⟨h1, h2, h3, rfl, rfl, rfl⟩ | ⟨h1, h2, h3, h4, rfl, rfl, rfl⟩
  · clear h
    go_enter Try.func104, Try.ntmps104
    go_wp2
    go_ret3
    exact ⟨rfl, rfl⟩
  · have k2 : (((c : Nat) : Int) / 32 == 6) = true := by simp; omega
    clear h h2
    go_enter Try.func104, Try.ntmps104
    go_wp2
    go_ret3
    exact ⟨rfl, rfl⟩
  · have k2 : (((c : Nat) : Int) / 32 == 6) = false := by simp; omega
    have k3 : (((c : Nat) : Int) / 16 == 14) = true := by simp; omega
    clear h h2 h3
    go_enter Try.func104, Try.ntmps104
    go_wp2
    go_ret3
    exact ⟨rfl, rfl⟩
  · have k2 : (((c : Nat) : Int) / 32 == 6) = false := by simp; omega
    have k3 : (((c : Nat) : Int) / 16 == 14) = false := by simp; omega
    have k4 : (((c : Nat) : Int) / 8 == 30) = true := by simp; omega
    clear h h2 h3 h4
    go_enter Try.func104, Try.ntmps104
    go_wp2
    go_ret3
    exact ⟨rfl, rfl⟩

set_option maxRecDepth 100000 in
set_option maxHeartbeats 400000 in
theorem head_none (c : UInt8) (w : World) (h : S.head c.toNat = none) :
    Calls Try.prog 104 #[.int .u8 (c.toNat : Int)] w fun e w' => e = .panicked noneChain ∧ w = w' := by
  have hc := c.toNat_lt
  generalize c.toNat = c at h hc
  obtain ⟨h1, h2, h3, h4⟩ := head_no h
  have k2 : (((c : Nat) : Int) / 32 == 6) = false := by simp; omega
  have k3 : (((c : Nat) : Int) / 16 == 14) = false := by simp; omega
  have k4 : (((c : Nat) : Int) / 8 == 30) = false := by simp; omega
  clear h h2 h3 h4
  go_enter Try.func104, Try.ntmps104
  go_wp2
  exact ⟨rfl, rfl, rfl⟩

/-- How 'one' ends. -/
def oneEnd : Option Nat → Ending
  | some n => .returned (.int .i64 (n : Int))
  | none => .panicked noneChain

theorem one_eq (s : ByteArray) (h0 : 0 < s.size) : S.one s.data.toList = match S.head s[0].toNat with
    | none => none
    | some (n, v, least) => if s.size ≤ n then none else match S.cont n v (s.data.toList.drop 1) with
      | none => none
      | some v => if S.good v least then some (n + 1) else none := by
  have e : s.data.toList = s[0] :: s.data.toList.drop 1 := by
    have h : 0 < s.data.toList.length := by simpa using h0
    exact List.drop_eq_getElem_cons h
  conv => lhs; rw [e]
  unfold S.one
  have : (s[0] :: List.drop 1 s.data.toList).length = s.size := by rw [← e]; simp
  simp only [this]
  rfl

set_option maxRecDepth 100000 in
set_option maxHeartbeats 400000 in
theorem one_any (s : ByteArray) (w : World) (hs : s.size ≤ maxLen) (h0 : 0 < s.size) :
    Calls Try.prog 96 #[.string s] w fun e w' => e = oneEnd (S.one s.data.toList) ∧ w = w' := by
  unfold maxLen at hs
  have E := hid (one_eq s h0)
  cases hh : S.head s[0].toNat with
  | none =>
    have E2 : Hid (S.one s.data.toList = none) := by have := E.out; rw [hh] at this; exact this
    have H := hid hh
    clear hh E
    go_enter Try.func96, Try.ntmps96
    go_wp2_with (go_at_call 104; refine (head_none _ _ H.out).mono ?_; rintro e w' ⟨rfl, rfl⟩)
    exact ⟨rfl, by rw [E2.out]; rfl, rfl⟩
  | some t =>
    obtain ⟨n, v, l⟩ := t
    have hl := S.head_lt hh
    have hle : n < s.size → Hid (S.one s.data.toList = match S.cont n v (s.data.toList.drop 1) with
      | none => none
      | some v => if S.good v l then some (n + 1) else none) := by
      intro h; have := E.out; rw [hh] at this; simp only [if_neg (show ¬ s.size ≤ n by omega)] at this; exact this
    have hgt : s.size ≤ n → Hid (S.one s.data.toList = none) := by
      intro h; have := E.out; rw [hh] at this; simp only [if_pos h] at this; exact this
    have H := hid hh
    clear hh E
    obtain ⟨hn, hb⟩ := hl
    by_cases hsz : s.size ≤ n
    · have E2 := hgt hsz
      clear hgt hle hb
      go_enter Try.func96, Try.ntmps96
      go_wp2_with (go_at_call 104; refine (head_some _ _ _ _ _ H.out).mono ?_; rintro e w' ⟨rfl, rfl⟩)
      exact ⟨rfl, by rw [E2.out]; rfl, rfl⟩
    have E2 := hle (by omega)
    clear hgt hle
    have hb := hid hb
    go_enter Try.func96, Try.ntmps96
    go_wp2_with (go_at_call 104; refine (head_some _ _ _ _ _ H.out).mono ?_; rintro e w' ⟨rfl, rfl⟩)
    go_loop [4, 6] (fun x i => ∃ k vi : Nat, 1 ≤ k ∧ k ≤ n + 1 ∧ i = .int .i64 (k : Int) ∧ x = .int .i32 (vi : Int) ∧ Hid ((vi + 1) * 64 ^ (n + 1 - k) ≤ 2097152) ∧ Hid (S.cont n v (s.data.toList.drop 1) = S.cont (n + 1 - k) vi (s.data.toList.drop k))) (fun _ i => n + 1 - (intOf i).toNat)
    case atStart => exact ⟨1, v, by omega, by omega, rfl, rfl, hid (by simpa using hb.out), hid rfl⟩
    case round =>
      obtain ⟨k, vi, hk1, hk2, rfl, rfl, hbd, hcont⟩ := hrel
      by_cases hk : k = n + 1
      · obtain rfl : n = k - 1 := by omega
        have hfin := hcont.out
        rw [show k - 1 + 1 - k = 0 from by omega] at hfin
        simp only [S.cont] at hfin
        have hv := S.bound_v hbd.out
        have E3 : Hid (S.one s.data.toList = if S.good vi l then some k else none) := by
          have := E2.out; rw [hfin] at this; exact hid (by simpa [show k - 1 + 1 = k by omega] using this)
        clear hfin hcont E2 H hb hbd hk
        go_wp2
        all_goals first
          | (exact ⟨rfl, by rw [E3.out, show S.good vi l = false from by unfold S.good; simp; omega]; rfl, rfl⟩)
          | (go_ret; exact ⟨by rw [E3.out, show S.good vi l = true from by unfold S.good; simp; omega]; exact congrArg (fun x => Ending.returned (Value.int .i64 x)) (by omega), rfl⟩)
      · have hbd' := hbd.out
        rw [show n + 1 - k = (n - k) + 1 from by omega] at hbd'
        have hv := S.bound_v hbd'
        have hbd'' := hid hbd'
        clear hbd' hbd
        have hklt : k < s.size := by omega
        have hkd : k < s.data.toList.length := by simpa using hklt
        by_cases hc : s[k].toNat / 64 = 2
        · have hstep := hid (S.cont_step (k := n - k) (v := vi) (l := s.data.toList) k hkd hc)
          have k2 : (((s[k].toNat : Nat) : Int) / 64 != 2) = false := by simp; omega
          have hb1 : ((s[k].toNat : Nat) : Int) ≤ 255 := by have := s[k].toNat_lt; omega
          have hb2 := S.bound_step hbd''.out (show s[k].toNat % 64 < 64 by omega)
          have hb3 := hid hb2
          clear hc hb2
          go_wp2
          go_round
          case rel => exact ⟨k + 1, vi * 64 + s[k].toNat % 64, by omega, by omega, by go_num, by go_num, hid (by rw [show n + 1 - (k + 1) = n - k from by omega]; exact hb3.out), hid (by rw [hcont.out, show n + 1 - k = n - k + 1 from by omega, hstep.out, show n + 1 - (k + 1) = n - k from by omega]; rfl)⟩
          case measure => simp [intOf]; omega
        · have hstop := hid (S.cont_stop (k := n - k) (v := vi) (l := s.data.toList) k hkd hc)
          have k2 : (((s[k].toNat : Nat) : Int) / 64 != 2) = true := by simp; omega
          clear hc
          go_wp2
          exact ⟨rfl, by rw [E2.out, hcont.out, show n + 1 - k = (n - k) + 1 from by omega, hstop.out]; rfl, rfl⟩




theorem one_some {s : ByteArray} {n : Nat} (w : World) (hs : s.size ≤ maxLen) (h : S.one s.data.toList = some n) :
    Calls Try.prog 96 #[.string s] w fun e w' => e = .returned (.int .i64 (n : Int)) ∧ w = w' := by
  have := one_any s w hs (by have := S.one_le h; simp at this; omega)
  rw [h] at this; exact this
theorem one_none {s : ByteArray} (w : World) (hs : s.size ≤ maxLen) (h0 : 0 < s.size) (h : S.one s.data.toList = none) :
    Calls Try.prog 96 #[.string s] w fun e w' => e = .panicked noneChain ∧ w = w' := by
  have := one_any s w hs h0
  rw [h] at this; exact this
end Go.Proofs.Ytonhliipbdniiaa
