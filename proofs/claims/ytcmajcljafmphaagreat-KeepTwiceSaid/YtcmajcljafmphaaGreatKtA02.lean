/- What num.Of and the methods of num.In do, under bounds on lengths that each theorem names. No further condition. And the texts behind it. -/
import Derived.Test.YtcmajcljafmphaaGreatKtA01
import Derived.Recover
import Derived.Test.YtcmajcljafmphaaGreatProg
import Derived.WalkKit
import Derived.WalkSpells
import Derived.WalkLawsBesides
namespace Go.Proofs.YtcmajcljafmphaaGreat
section
open Go.RowKit
set_option maxRecDepth 100000

theorem block_cell {w : World} {b : Nat} {cs : Array Value} {t : TypeId} {fr : Nat × Nat} (h : w.heap[b]? = some (.cells cs t fr)) (i : Nat) : w.cell? ⟨b, i, none⟩ = cs[i]? := by simp [World.cell?, h]
theorem block_free {w : World} {b : Nat} {cs : Array Value} {t : TypeId} (h : w.heap[b]? = some (.cells cs t (0, 0))) (i : Nat) : w.frozen? ⟨b, i, none⟩ = false := by simp [World.frozen?, h]
theorem block_set {w : World} {b : Nat} {cs : Array Value} {t : TypeId} {fr : Nat × Nat} (h : w.heap[b]? = some (.cells cs t fr)) (i : Nat) (u : Value) : (w.setCell ⟨b, i, none⟩ u).heap[b]? = some (.cells (cs.setIfInBounds i u) t fr) := by
  have hlt := lt_of_block h
  have h' : w.heap[b] = .cells cs t fr := by simpa [Array.getElem?_eq_getElem hlt] using h
  show (w.heap.modify b _)[b]? = _
  rw [Array.getElem?_modify, if_pos rfl, h]
  rfl
theorem block_set_other {w : World} {b : Nat} {p : Addr} {u : Value} (hne : b ≠ p.block) : (w.setCell p u).heap[b]? = w.heap[b]? := Below.heap_setCell _ _ _ _ hne

theorem RowAt.other {w w' : World} {k n : Nat} {v : Value} {xs : List Value} (h : RowAt w k v n xs) (hsz : w.heap.size ≤ w'.heap.size) (hk : ∀ j, v.ownBlock = some j → w'.heap[j]? = w.heap[j]?) : RowAt w' k v n xs := by
  obtain ⟨hl, a, c, rfl, h1, h2, h3, h5, h4⟩ := h
  refine ⟨hl, a, c, rfl, h1, h2, h3, fun ad ha => ⟨(h5 ad ha).1, Nat.lt_of_lt_of_le (h5 ad ha).2 hsz⟩, fun i u hu => ?_⟩
  obtain ⟨b, o, rfl, hc⟩ := h4 i u hu
  refine ⟨b, o, rfl, ?_⟩
  rw [World.cell?_of_block (w := w) (hk b rfl)]; exact hc
theorem BytesAt.setCell {w : World} {v : Value} {l : List UInt8} (h : BytesAt w v l) {p : Addr} (u : Value) (hne : v.ownBlock ≠ some p.block) : BytesAt (w.setCell p u) v l :=
  RowAt.other h (by simp [World.setCell]) fun j hj => block_set_other fun e => hne (by rw [hj, e])

theorem BytesAt.drop1 {w : World} {a : Option Addr} {n c : Nat} {l : List UInt8} (h : BytesAt w (.slice a n c) l) (k : Nat) (hk : k ≤ l.length) : BytesAt w (.slice (Option.map (fun x => x.add k) a) (l.length - k) (c - k)) (l.drop k) := by
  obtain ⟨_, a', c', hv, h1, h2, h3, h5, h4⟩ := h
  cases hv
  refine ⟨by simp, Option.map (fun x => x.add k) a, c - k, by simp, by simp; omega, by omega, ?_, ?_, fun i u hu => ?_⟩
  · cases a with
    | none => intro _; have := h3 rfl; omega
    | some a => intro h; cases h
  · intro ad ha
    cases a with
    | none => cases ha
    | some a0 =>
      have := h5 a0 rfl
      simp only [Option.map_some, Option.some.injEq] at ha
      subst ha
      unfold Addr.add
      split
      · exact this
      · exact ⟨rfl, this.2⟩
  obtain ⟨b', o', he, hcell⟩ := h4 (k + i) u (by rw [← hu]; simp)
  cases he
  exact ⟨b', o' + k, by simp [add_plain'], by rw [Nat.add_assoc]; exact hcell⟩

theorem BytesAt.drop0 {w : World} {a : Option Addr} {n c k : Nat} {l : List UInt8} (h : BytesAt w (.slice a n c) l) (hk : c = k) : BytesAt w (.slice a (l.length - k) 0) (l.drop k) := by
  obtain ⟨_, a', c', hv, h1, h2, h3, h5, h4⟩ := h
  cases hv
  subst hk
  have : l.drop c = [] := List.drop_eq_nil_of_le h1
  rw [this]
  exact ⟨rfl, a, 0, by simp; omega, Nat.le_refl _, by unfold maxLen; omega, fun _ => rfl, h5, fun i u hu => by simp at hu⟩

theorem ownBlock_map {a : Option Addr} {n c n' c' k : Nat} : (Value.slice (Option.map (fun x => x.add k) a) n' c').ownBlock = (Value.slice a n c).ownBlock := by
  cases a with
  | none => rfl
  | some a => simp [Value.ownBlock, Addr.add]; split <;> rfl
theorem ownBlock_same {a : Option Addr} {n c n' c' : Nat} : (Value.slice a n' c').ownBlock = (Value.slice a n c).ownBlock := by
  cases a <;> rfl

theorem assert_errno (e : Int) (w : World) : (Instr.typeAssert (.iface 24 (.int .i64 e)) 20 24 true).run Tryz.prog w = .ok (.tuple #[.int .i64 e, .bool true]) w := by kernel_rfl

def InIs (w : World) (b : Nat) (l : List UInt8) (err : Nat) : Prop :=
  ∃ v, w.heap[b]? = some (.cells #[v, .int .i64 (err : Int)] 125 (0, 0)) ∧ BytesAt w v l ∧ v.ownBlock ≠ some b

def errChain (e : Nat) : List PanicEntry := [{ v := .iface 24 (.int .i64 (e : Int)), recovered := false }]
def errChainR (e : Nat) : List PanicEntry := [{ v := .iface 24 (.int .i64 (e : Int)), recovered := true }]

theorem caught_idle (b : Nat) (w : World) :
    CallsD Tryz.prog 81 #[.pointer (some ⟨b, 0, none⟩)] .returning w fun en u' w' => en = .returned (.tuple #[]) ∧ u' = .returning ∧ w = w' := by
  refine callsD_of_wpS Tryz.func81 rfl fun c₀ cs hu => ?_
  apply wpS_seq
  apply wpS_region
  simp [wpOpsS, go_sem, recoverD, hu, Tryz.ntmps81, Exit.thenS, Array.replicate_succ]
  rw [show c₀ = { c₀ with mode := .returning } from by cases c₀; simp_all]
  apply wpS_body
  go_wp2
  go_end0
  exact ⟨rfl, rfl⟩

set_option maxHeartbeats 800000 in
theorem cut_short (b n : Nat) (l : List UInt8) (e : Nat) (w : World) (hn : l.length < n) (h : InIs w b l e) :
    Calls Tryz.prog 82 #[.pointer (some ⟨b, 0, none⟩), .int .i64 (n : Int)] w fun en w' => en = .panicked (errChain 4) ∧ w = w' := by
  obtain ⟨v, hb, hv, hne⟩ := h
  obtain ⟨a, c, rfl, hc1, hc2, hc3⟩ := hv.form
  have hc0 := block_cell hb 0
  have hf0 := block_free hb 0
  simp at hc0
  unfold maxLen at hc2
  replace hb := hid hb
  go_enter Tryz.func82, Tryz.ntmps82
  go_wp2
  exact ⟨rfl, rfl, rfl⟩
def leN : List UInt8 → Nat
  | [] => 0
  | c :: t => c.toNat + 256 * leN t

def takeV (n : Nat) (l : List UInt8) (e : Nat) : Nat := if e ≠ 0 then 0 else if l.length < n then 0 else leN (l.take n)
def restL (n : Nat) (l : List UInt8) (e : Nat) : List UInt8 := if e ≠ 0 then l else if l.length < n then l else l.drop n
def restE (n : Nat) (l : List UInt8) (e : Nat) : Nat := if e ≠ 0 then e else if l.length < n then 4 else 0
def rawL (n : Nat) (l : List UInt8) (e : Nat) : List UInt8 := if e ≠ 0 then [] else if l.length < n then [] else l.take n

theorem leN_lt : ∀ l : List UInt8, leN l < 256 ^ l.length
  | [] => by simp [leN]
  | c :: t => by
    have h1 := c.toNat_lt
    have h2 := leN_lt t
    simp only [leN, List.length_cons, Nat.pow_succ]
    omega

theorem leN_snoc : ∀ (l : List UInt8) (c : UInt8), leN (l ++ [c]) = leN l + c.toNat * 256 ^ l.length
  | [], c => by simp [leN]
  | d :: t, c => by
    rw [List.cons_append]
    simp only [leN, leN_snoc t c, List.length_cons, Nat.pow_succ]
    have : c.toNat * (256 ^ t.length * 256) = 256 * (c.toNat * 256 ^ t.length) := by rw [← Nat.mul_assoc, Nat.mul_comm]
    omega

theorem InIs.parts {w : World} {b : Nat} {l : List UInt8} {e : Nat} (h : InIs w b l e) : ∃ v, w.cell? ⟨b, 0, none⟩ = some v ∧ w.cell? ⟨b, 0 + 1, none⟩ = some (.int .i64 (e : Int)) ∧ BytesAt w v l := by
  obtain ⟨v, hb, hv, _⟩ := h
  exact ⟨v, block_cell hb 0, block_cell hb 1, hv⟩

theorem in_err_any (b : Nat) (l : List UInt8) (e : Nat) (w : World) (h : InIs w b l e) :
    Calls Tryz.prog 118 #[.pointer (some ⟨b, 0, none⟩)] w fun en w' => en = .returned (.int .i64 (e : Int)) ∧ w = w' := by
  obtain ⟨v, h0, h1, _⟩ := h.parts
  go_enter Tryz.func118, Tryz.ntmps118
  go_wp2
  go_ret
  exact ⟨rfl, rfl⟩

def leftN (l : List UInt8) (e : Nat) : Nat := if e ≠ 0 then 0 else l.length

theorem in_left_any (b : Nat) (l : List UInt8) (e : Nat) (w : World) (h : InIs w b l e) :
    Calls Tryz.prog 91 #[.pointer (some ⟨b, 0, none⟩)] w fun en w' => en = .returned (.int .i64 (leftN l e : Int)) ∧ w = w' := by
  obtain ⟨v, h0, h1, hv⟩ := h.parts
  obtain ⟨a, c, rfl, hc1, hc2, hc3⟩ := hv.form
  unfold maxLen at hc2
  by_cases he : e = 0
  · subst he
    go_enter Tryz.func91, Tryz.ntmps91
    go_wp2
    go_ret
    exact ⟨by simp [leftN], rfl⟩
  · have k0 : ((e : Int) != 0) = true := by simpa using he
    have E := hid (show leftN l e = 0 by unfold leftN; rw [if_pos he])
    clear he
    go_enter Tryz.func91, Tryz.ntmps91
    go_wp2
    go_ret
    exact ⟨by rw [E.out]; rfl, rfl⟩

theorem or_take {k v c : Nat} (hv : v < 256 ^ k) (hc : c < 256) (hk : k < 8) : bits .or .u64 (v : Int) (((c * 256 ^ k : Nat) : Int)) = ((v + c * 256 ^ k : Nat) : Int) := by
  have h8 : (256 : Nat) ^ k = 2 ^ (8 * k) := by rw [Nat.pow_mul]
  have hx : v ||| c * 256 ^ k = v + c * 256 ^ k := by
    have := Nat.shiftLeft_add_eq_or_of_lt (i := 8 * k) (b := v) (by rw [← h8]; exact hv) c
    rw [Nat.shiftLeft_eq, ← h8] at this
    rw [Nat.or_comm, ← this, Nat.add_comm]
  have hle : 256 ^ (k + 1) ≤ 256 ^ 8 := Nat.pow_le_pow_right (by omega) (by omega)
  have hlt : v + c * 256 ^ k < 256 ^ (k + 1) := by
    have : (c + 1) * 256 ^ k ≤ 256 * 256 ^ k := Nat.mul_le_mul_right _ (by omega)
    rw [Nat.add_mul, Nat.one_mul] at this
    have h2 : (256 : Nat) ^ (k + 1) = 256 * 256 ^ k := by rw [Nat.pow_succ, Nat.mul_comm]
    omega
  have h9 : (256 : Nat) ^ 8 = 18446744073709551616 := by decide
  have hm : c * 256 ^ k < 18446744073709551616 := by omega
  rw [u64_or_nat v _ (by omega) hm, hx]

theorem or_take' {k v c : Nat} (hv : v < 256 ^ k) (hc : c < 256) (hk : k < 8) : bits .or .u64 (v : Int) (IntKind.u64.wrap (IntKind.u64.wrap (c : Int) * 2 ^ (8 * k))) = ((v + c * 256 ^ k : Nat) : Int) := by
  rw [← or_take hv hc hk]
  congr 1
  have hw : ∀ n : Int, IntKind.u64.wrap n = n % 18446744073709551616 := fun n => by simp [IntKind.wrap, IntKind.bits, IntKind.signed]
  have h8 : (256 : Nat) ^ k = 2 ^ (8 * k) := by rw [Nat.pow_mul]
  have hle : 256 ^ (k + 1) ≤ 256 ^ 8 := Nat.pow_le_pow_right (by omega) (by omega)
  have h9 : (256 : Nat) ^ 8 = 18446744073709551616 := by decide
  have h10 : c * 256 ^ k < 256 ^ (k + 1) := by
    rw [Nat.pow_succ, Nat.mul_comm]
    exact Nat.mul_lt_mul_of_pos_left hc (Nat.pow_pos (by omega))
  rw [hw (c : Int), Int.emod_eq_of_lt (by omega) (by omega), hw]
  rw [show (2 : Int) ^ (8 * k) = ((256 ^ k : Nat) : Int) from by rw [h8]; push_cast; rfl]
  rw [← Int.natCast_mul]
  exact Int.emod_eq_of_lt (by omega) (by omega)

theorem InIs.below {w w' : World} {b : Nat} {l : List UInt8} {e : Nat} (h : InIs w b l e) (hb : Below w.heap.size w w') : InIs w' b l e := by
  obtain ⟨v, h1, h2, h3⟩ := h
  exact ⟨v, (hb.block b (lt_of_block h1)).trans h1, h2.below hb, h3⟩
theorem InIs.lt {w : World} {b : Nat} {l : List UInt8} {e : Nat} (h : InIs w b l e) : b < w.heap.size := by
  obtain ⟨v, h1, _⟩ := h
  exact lt_of_block h1

end
end Go.Proofs.YtcmajcljafmphaaGreat

namespace Go.Proofs.YtcmajcljafmphaaGreat
section
open Go.RowKit

def noneChain : List PanicEntry := [{ v := .iface 159 (.agg #[]), recovered := false }]

theorem head_cases {c n v l : Nat} (h : S.head c = some (n, v, l)) :
    (c < 128 ∧ n = 0 ∧ v = c ∧ l = 0) ∨ (128 ≤ c ∧ c / 32 = 6 ∧ n = 1 ∧ v = c % 32 ∧ l = 128) ∨ (128 ≤ c ∧ c / 32 ≠ 6 ∧ c / 16 = 14 ∧ n = 2 ∧ v = c % 16 ∧ l = 2048) ∨
    (128 ≤ c ∧ c / 32 ≠ 6 ∧ c / 16 ≠ 14 ∧ c / 8 = 30 ∧ n = 3 ∧ v = c % 8 ∧ l = 65536) := by
  unfold S.head at h
  split at h
  · simp at h; omega
  split at h
  · simp at h; omega
  split at h
  · simp at h; omega
  split at h
  · simp at h; omega
  · simp at h

theorem head_no {c : Nat} (h : S.head c = none) : 128 ≤ c ∧ c / 32 ≠ 6 ∧ c / 16 ≠ 14 ∧ c / 8 ≠ 30 := by
  unfold S.head at h
  split at h
  · simp at h
  split at h
  · simp at h
  split at h
  · simp at h
  split at h
  · simp at h
  · omega

set_option maxRecDepth 100000 in
set_option maxHeartbeats 400000 in
theorem head_some (c : UInt8) (n v l : Nat) (w : World) (h : S.head c.toNat = some (n, v, l)) :
    Calls Tryz.prog 134 #[.int .u8 (c.toNat : Int)] w fun e w' => e = .returned (.tuple #[.int .i64 (n : Int), .int .i32 (v : Int), .int .i32 (l : Int)]) ∧ w = w' := by
  have hc := c.toNat_lt
  generalize c.toNat = c at h hc
  rcases head_cases h with ⟨h1, rfl, rfl, rfl⟩ | ⟨h1, h2, rfl, rfl, rfl⟩ | ⟨h1, h2, h3, rfl, rfl, rfl⟩ | ⟨h1, h2, h3, h4, rfl, rfl, rfl⟩
  · clear h
    go_enter Tryz.func134, Tryz.ntmps134
    go_wp2
    go_ret3
    exact ⟨rfl, rfl⟩
  · have k2 : (((c : Nat) : Int) / 32 == 6) = true := by simp; omega
    clear h h2
    go_enter Tryz.func134, Tryz.ntmps134
    go_wp2
    go_ret3
    exact ⟨rfl, rfl⟩
  · have k2 : (((c : Nat) : Int) / 32 == 6) = false := by simp; omega
    have k3 : (((c : Nat) : Int) / 16 == 14) = true := by simp; omega
    clear h h2 h3
    go_enter Tryz.func134, Tryz.ntmps134
    go_wp2
    go_ret3
    exact ⟨rfl, rfl⟩
  · have k2 : (((c : Nat) : Int) / 32 == 6) = false := by simp; omega
    have k3 : (((c : Nat) : Int) / 16 == 14) = false := by simp; omega
    have k4 : (((c : Nat) : Int) / 8 == 30) = true := by simp; omega
    clear h h2 h3 h4
    go_enter Tryz.func134, Tryz.ntmps134
    go_wp2
    go_ret3
    exact ⟨rfl, rfl⟩

set_option maxRecDepth 100000 in
set_option maxHeartbeats 400000 in
theorem head_none (c : UInt8) (w : World) (h : S.head c.toNat = none) :
    Calls Tryz.prog 134 #[.int .u8 (c.toNat : Int)] w fun e w' => e = .panicked noneChain ∧ w = w' := by
  have hc := c.toNat_lt
  generalize c.toNat = c at h hc
  obtain ⟨h1, h2, h3, h4⟩ := head_no h
  have k2 : (((c : Nat) : Int) / 32 == 6) = false := by simp; omega
  have k3 : (((c : Nat) : Int) / 16 == 14) = false := by simp; omega
  have k4 : (((c : Nat) : Int) / 8 == 30) = false := by simp; omega
  clear h h2 h3 h4
  go_enter Tryz.func134, Tryz.ntmps134
  go_wp2
  exact ⟨rfl, rfl, rfl⟩

def oneEnd : Option Nat → Ending
  | some n => .returned (.int .i64 (n : Int))
  | none => .panicked noneChain

theorem one_eq (s : ByteArray) (h0 : 0 < s.size) : S.one s.data.toList = match S.head s[0].toNat with
    | none => none
    | some (n, v, least) => if s.size ≤ n then none else match S.cont n v (s.data.toList.drop 1) with
      | none => none
      | some v => if S.good v least then some (n + 1) else none := by
  have e : s.data.toList = s[0] :: s.data.toList.drop 1 := by
    have h : 0 < s.data.toList.length := by simpa using h0
    exact List.drop_eq_getElem_cons h
  conv => lhs; rw [e]
  unfold S.one
  have : (s[0] :: List.drop 1 s.data.toList).length = s.size := by rw [← e]; simp
  simp only [this]
  rfl

set_option maxRecDepth 100000 in
set_option maxHeartbeats 400000 in
theorem one_any (s : ByteArray) (w : World) (hs : s.size ≤ maxLen) (h0 : 0 < s.size) :
    Calls Tryz.prog 121 #[.string s] w fun e w' => e = oneEnd (S.one s.data.toList) ∧ w = w' := by
  unfold maxLen at hs
  have E := hid (one_eq s h0)
  cases hh : S.head s[0].toNat with
  | none =>
    have E2 : Hid (S.one s.data.toList = none) := by have := E.out; rw [hh] at this; exact this
    have H := hid hh
    clear hh E
    go_enter Tryz.func121, Tryz.ntmps121
    go_wp2_with (go_at_call 134; refine (head_none _ _ H.out).mono ?_; rintro e w' ⟨rfl, rfl⟩)
    exact ⟨rfl, by rw [E2.out]; rfl, rfl⟩
  | some t =>
    obtain ⟨n, v, l⟩ := t
    have hl := S.head_lt hh
    have hle : n < s.size → Hid (S.one s.data.toList = match S.cont n v (s.data.toList.drop 1) with
      | none => none
      | some v => if S.good v l then some (n + 1) else none) := by
      intro h; have := E.out; rw [hh] at this; simp only [if_neg (show ¬ s.size ≤ n by omega)] at this; exact this
    have hgt : s.size ≤ n → Hid (S.one s.data.toList = none) := by
      intro h; have := E.out; rw [hh] at this; simp only [if_pos h] at this; exact this
    have H := hid hh
    clear hh E
    obtain ⟨hn, hb⟩ := hl
    by_cases hsz : s.size ≤ n
    · have E2 := hgt hsz
      clear hgt hle hb
      go_enter Tryz.func121, Tryz.ntmps121
      go_wp2_with (go_at_call 134; refine (head_some _ _ _ _ _ H.out).mono ?_; rintro e w' ⟨rfl, rfl⟩)
      exact ⟨rfl, by rw [E2.out]; rfl, rfl⟩
    have E2 := hle (by omega)
    clear hgt hle
    have hb := hid hb
    go_enter Tryz.func121, Tryz.ntmps121
    go_wp2_with (go_at_call 134; refine (head_some _ _ _ _ _ H.out).mono ?_; rintro e w' ⟨rfl, rfl⟩)
    go_loop [4, 6] (fun x i => ∃ k vi : Nat, 1 ≤ k ∧ k ≤ n + 1 ∧ i = .int .i64 (k : Int) ∧ x = .int .i32 (vi : Int) ∧ Hid ((vi + 1) * 64 ^ (n + 1 - k) ≤ 2097152) ∧ Hid (S.cont n v (s.data.toList.drop 1) = S.cont (n + 1 - k) vi (s.data.toList.drop k))) (fun _ i => n + 1 - (intOf i).toNat)
    case atStart => exact ⟨1, v, by omega, by omega, rfl, rfl, hid (by simpa using hb.out), hid rfl⟩
    case round =>
      obtain ⟨k, vi, hk1, hk2, rfl, rfl, hbd, hcont⟩ := hrel
      by_cases hk : k = n + 1
      · obtain rfl : n = k - 1 := by omega
        have hfin := hcont.out
        rw [show k - 1 + 1 - k = 0 from by omega] at hfin
        simp only [S.cont] at hfin
        have hv := S.bound_v hbd.out
        have E3 : Hid (S.one s.data.toList = if S.good vi l then some k else none) := by
          have := E2.out; rw [hfin] at this; exact hid (by simpa [show k - 1 + 1 = k by omega] using this)
        clear hfin hcont E2 H hb hbd hk
        go_wp2
        all_goals first
          | (exact ⟨rfl, by rw [E3.out, show S.good vi l = false from by unfold S.good; simp; omega]; rfl, rfl⟩)
          | (go_ret; exact ⟨by rw [E3.out, show S.good vi l = true from by unfold S.good; simp; omega]; exact congrArg (fun x => Ending.returned (Value.int .i64 x)) (by omega), rfl⟩)
      · have hbd' := hbd.out
        rw [show n + 1 - k = (n - k) + 1 from by omega] at hbd'
        have hv := S.bound_v hbd'
        have hbd'' := hid hbd'
        clear hbd' hbd
        have hklt : k < s.size := by omega
        have hkd : k < s.data.toList.length := by simpa using hklt
        by_cases hc : s[k].toNat / 64 = 2
        · have hstep := hid (S.cont_step (k := n - k) (v := vi) (l := s.data.toList) k hkd hc)
          have k2 : (((s[k].toNat : Nat) : Int) / 64 != 2) = false := by simp; omega
          have hb1 : ((s[k].toNat : Nat) : Int) ≤ 255 := by have := s[k].toNat_lt; omega
          have hb2 := S.bound_step hbd''.out (show s[k].toNat % 64 < 64 by omega)
          have hb3 := hid hb2
          clear hc hb2
          go_wp2
          go_round
          case rel => exact ⟨k + 1, vi * 64 + s[k].toNat % 64, by omega, by omega, by go_num, by go_num, hid (by rw [show n + 1 - (k + 1) = n - k from by omega]; exact hb3.out), hid (by rw [hcont.out, show n + 1 - k = n - k + 1 from by omega, hstep.out, show n + 1 - (k + 1) = n - k from by omega]; rfl)⟩
          case measure => simp [intOf]; omega
        · have hstop := hid (S.cont_stop (k := n - k) (v := vi) (l := s.data.toList) k hkd hc)
          have k2 : (((s[k].toNat : Nat) : Int) / 64 != 2) = true := by simp; omega
          clear hc
          go_wp2
          exact ⟨rfl, by rw [E2.out, hcont.out, show n + 1 - k = (n - k) + 1 from by omega, hstop.out]; rfl, rfl⟩




theorem one_some {s : ByteArray} {n : Nat} (w : World) (hs : s.size ≤ maxLen) (h : S.one s.data.toList = some n) :
    Calls Tryz.prog 121 #[.string s] w fun e w' => e = .returned (.int .i64 (n : Int)) ∧ w = w' := by
  have := one_any s w hs (by have := S.one_le h; simp at this; omega)
  rw [h] at this; exact this
theorem one_none {s : ByteArray} (w : World) (hs : s.size ≤ maxLen) (h0 : 0 < s.size) (h : S.one s.data.toList = none) :
    Calls Tryz.prog 121 #[.string s] w fun e w' => e = .panicked noneChain ∧ w = w' := by
  have := one_any s w hs h0
  rw [h] at this; exact this
end
end Go.Proofs.YtcmajcljafmphaaGreat

namespace Go.Proofs.YtcmajcljafmphaaGreat
section
open Go.RowKit
set_option maxRecDepth 100000

theorem neq_none (w : World) : (binOp .neq 20 (.iface 159 (.agg #[])) (.iface 159 (.agg #[]))).run Tryz.prog w = .ok (.bool false) w := by kernel_rfl


theorem runes1_panicking (p q : Addr) (x : Int) (y : Bool) (w : World) (hc : w.cell? p = some (.int .i64 x)) (hz : w.frozen? p = false) (hq : (w.setCell p (.int .i64 0)).cell? q = some (.bool y)) (hqz : w.frozen? q = false) :
    CallsD Tryz.prog 120 #[.pointer (some p), .pointer (some q)] (.panicking noneChain) w fun e u' w' =>
      e = .returned (.tuple #[]) ∧ u' = .panicking [{ v := .iface 159 (.agg #[]), recovered := true }] ∧ w' = (w.setCell p (.int .i64 0)).setCell q (.bool false) := by
  have hne := neq_none
  refine callsD_of_wpS Tryz.func120 rfl fun c₀ cs hu => ?_
  apply wpS_seq
  apply wpS_region
  simp [wpOpsS, go_sem, recoverD, hu, noneChain, Tryz.ntmps120, Exit.thenS, Array.replicate_succ]
  apply wpS_body
  go_wp2
  go_end0
  exact ⟨rfl, rfl⟩

theorem runes1_idle (p q : Addr) (w : World) :
    CallsD Tryz.prog 120 #[.pointer (some p), .pointer (some q)] .returning w fun e u' w' => e = .returned (.tuple #[]) ∧ u' = .returning ∧ w' = w := by
  refine callsD_of_wpS Tryz.func120 rfl fun c₀ cs hu => ?_
  apply wpS_seq
  apply wpS_region
  simp [wpOpsS, go_sem, recoverD, hu, Tryz.ntmps120, Exit.thenS, Array.replicate_succ]
  rw [show c₀ = { c₀ with mode := .returning } from by cases c₀; simp_all]
  apply wpS_body
  go_wp2
  go_end0
  exact ⟨rfl, rfl⟩

def strOf : Value → ByteArray | .string s => s | _ => ByteArray.empty

def runesN (s : ByteArray) : Nat := (S.runes s.data.toList).getD 0
def runesOk (s : ByteArray) : Bool := (S.runes s.data.toList).isSome

set_option maxHeartbeats 400000 in
theorem runes_any (s : ByteArray) (w : World) (hs : s.size ≤ maxLen) :
    Calls Tryz.prog 109 #[.string s] w fun e w' => e = .returned (.tuple #[.int .i64 (runesN s : Int), .bool (runesOk s)]) ∧ Below w.heap.size w w' := by
  unfold maxLen at hs
  have hmf : ∀ (fn : Fn) (first cap : Array Value) (w : World), (Instr.makeFunc fn first cap).run Tryz.prog w = .ok (.func fn first cap) w := fun _ _ _ _ => rfl
  go_enter_defers Tryz.func109, Tryz.ntmps109
  go_wp2
  go_loopw [0] (fun sv wr => ∃ (k : Nat) (t : ByteArray), sv = .string t ∧ wr = (w.alloc (.cells #[.int .i64 (k : Int)] 3)).alloc (.cells #[.bool false] 4) ∧ k + t.size ≤ s.size ∧ Hid (S.runes s.data.toList = (S.runes t.data.toList).map (· + k))) (fun sv _ => (strOf sv).size)
  case atStart => exact ⟨0, s, rfl, rfl, by omega, by exact hid (by simp)⟩
  case round =>
    obtain ⟨k, t, rfl, rfl, hkt, hr⟩ := hrel
    by_cases ht : t.size = 0
    · obtain ⟨e1, e2⟩ := str_empty ht
      have hn : t.data.toList = [] := List.eq_nil_of_length_eq_zero (by simpa using ht)
      have E : S.runes s.data.toList = some k := (by rw [hr.out, hn]; simp [S.runes_nil])
      have E1 := hid (show runesN s = k by unfold runesN; rw [E]; rfl)
      have E2 := hid (show runesOk s = true by unfold runesOk; rw [E]; rfl)
      clear hn ht E hr
      go_wp2_with fail
      refine leaves_cons (f := 120) (args := #[.pointer (some ⟨w.heap.size, 0, none⟩), .pointer (some ⟨w.heap.size + 1, 0, none⟩)]) (by simp) (by simp [go_sem]) ?_
      refine (runes1_idle ⟨w.heap.size, 0, none⟩ ⟨w.heap.size + 1, 0, none⟩ _).mono ?_
      rintro e u' w'' ⟨rfl, rfl, rfl⟩
      simp [Leaves, settle, results, Tryz.results109, go_sem]
      exact ⟨⟨by rw [E1.out], E2.out⟩, ((Below.refl _ _).alloc (Nat.le_refl _) _).alloc (by simp) _⟩
    · obtain ⟨e1, e2⟩ := str_full (t := t) (by omega)
      have ht0 : t.data.toList ≠ [] := fun h => ht (by simpa using congrArg List.length h)
      cases h1 : S.one t.data.toList with
      | none =>
        have E : S.runes s.data.toList = none := (by rw [hr.out, S.runes_none ht0 h1]; rfl)
        have E1 := hid (show runesN s = 0 by unfold runesN; rw [E]; rfl)
        have E2 := hid (show runesOk s = false by unfold runesOk; rw [E]; rfl)
        have h1 := hid h1
        have ht1 : 0 < t.size := by omega
        clear ht0 ht E hr
        go_wp2_with (go_at_call 121; refine (one_none _ (by unfold maxLen; omega) ht1 h1.out).mono ?_; rintro e w' ⟨rfl, rfl⟩)
        refine leaves_cons (f := 120) (args := #[.pointer (some ⟨w.heap.size, 0, none⟩), .pointer (some ⟨w.heap.size + 1, 0, none⟩)]) (by simp) (by simp [go_sem]) ?_
        refine (runes1_panicking ⟨w.heap.size, 0, none⟩ ⟨w.heap.size + 1, 0, none⟩ k false _ ?_ ?_ ?_ ?_).mono ?_
        · simp [go_sem]
        · simp [go_sem]
        · simp [go_sem]
        · simp [go_sem]
        rintro e u' w'' ⟨rfl, rfl, rfl⟩
        simp [Leaves, settle, results, Tryz.results109, go_sem]
        exact ⟨⟨by rw [E1.out]; rfl, E2.out⟩, ((Below.refl _ _).alloc (Nat.le_refl _) _).alloc (by simp) _⟩
      | some n =>
        have hle := S.one_le h1
        have E : Hid (S.runes s.data.toList = (S.runes (t.data.toList.drop n)).map (· + (k + 1))) := hid (by rw [hr.out, S.runes_some h1]; cases S.runes (t.data.toList.drop n) <;> simp; omega)
        have hle1 := hle.1
        have hle2 : n ≤ t.size := by simpa using hle.2
        have h1 := hid h1
        clear ht0 hle hr
        go_wp2_with (go_at_call 121; refine (one_some _ (by unfold maxLen; omega) h1.out).mono ?_; rintro e w' ⟨rfl, rfl⟩)
        go_roundw
        case rel => exact ⟨k + 1, t.extract n t.size, rfl, by simp, by simp; omega, hid (by rw [E.out, S.data_extract])⟩
        case measure => simp [strOf]; omega
end
end Go.Proofs.YtcmajcljafmphaaGreat

namespace Go.Proofs.YtcmajcljafmphaaGreat
section
open Go.RowKit
set_option maxRecDepth 100000

theorem and192 (n : Nat) (h : n < 256) : bits .and .u8 (n : Int) 192 = ((n / 64 * 64 : Nat) : Int) := by
  have h1 := u8_and_nat n 192 h (by omega)
  have h2 : n &&& 192 = n / 64 * 64 := by
    have : ∀ m : Fin 256, m.val &&& 192 = m.val / 64 * 64 := by decide
    exact this ⟨n, h⟩
  rw [h2] at h1; exact h1

theorem or64_i64 (v b : Nat) (hv : v < 2097152) : bits .or .i64 ((v : Int) * 64) ((b : Int) % 64) = ((v * 64 + b % 64 : Nat) : Int) := by
  have hb : b % 64 < 64 := Nat.mod_lt _ (by omega)
  have hx : v * 64 ||| b % 64 = v * 64 + b % 64 := by
    have := Nat.shiftLeft_add_eq_or_of_lt (i := 6) hb v
    rw [Nat.shiftLeft_eq] at this
    simpa using this.symm
  show IntKind.i64.wrap ((BitVec.ofInt 64 ((v : Int) * 64) ||| BitVec.ofInt 64 ((b : Int) % 64)).toNat : Int) = _
  rw [show (v : Int) * 64 = ((v * 64 : Nat) : Int) from by omega, show (b : Int) % 64 = ((b % 64 : Nat) : Int) from by omega, BitVec.ofInt_natCast, BitVec.ofInt_natCast, BitVec.toNat_or, BitVec.toNat_ofNat, BitVec.toNat_ofNat,
    Nat.mod_eq_of_lt (by omega), Nat.mod_eq_of_lt (by omega), hx]
  simp [IntKind.wrap, IntKind.bits, IntKind.signed]
  omega

def oneN (s : ByteArray) : Nat := (S.one s.data.toList).getD 0

set_option maxHeartbeats 1200000 in
theorem ref_one_any (s : ByteArray) (w : World) (hs : s.size ≤ maxLen) :
    Calls Tryz.prog 114 #[.string s] w fun e w' => e = .returned (.int .i64 (oneN s : Int)) ∧ w = w' := by
  unfold maxLen at hs
  by_cases hz : s.size = 0
  · have E := hid (show oneN s = 0 by
      have hn : s.data.toList = [] := List.eq_nil_of_length_eq_zero (by simpa using hz)
      unfold oneN; rw [hn]; rfl)
    have k0 : ((s.size : Int) == 0) = true := by simpa using hz
    have hz := hid hz
    go_enter Tryz.func114, Tryz.ntmps114
    go_wp2
    go_ret
    exact ⟨by rw [E.out]; rfl, rfl⟩
  have h0 : 0 < s.size := by omega
  have k0 : ((s.size : Int) == 0) = false := by simpa using hz
  have E := one_eq s h0
  have hb1 : ((s[0].toNat : Nat) : Int) ≤ 255 := by have := s[0].toNat_lt; omega
  cases hh : S.head s[0].toNat with
  | none =>
    have E2 := hid (show oneN s = 0 by unfold oneN; rw [E, hh]; rfl)
    obtain ⟨h1, h2, h3, h4⟩ := head_no hh
    clear E hh
    go_enter Tryz.func114, Tryz.ntmps114
    go_wp2_with fail
    all_goals (go_ret; exact ⟨by rw [E2.out]; rfl, rfl⟩)
  | some t =>
    obtain ⟨n, v, l⟩ := t
    have hl := S.head_lt hh
    have hle : n < s.size → Hid (S.one s.data.toList = match S.cont n v (s.data.toList.drop 1) with
      | none => none
      | some v => if S.good v l then some (n + 1) else none) := by
      intro h; have := E; rw [hh] at this; simp only [if_neg (show ¬ s.size ≤ n by omega)] at this; exact this
    have hgt : s.size ≤ n → Hid (oneN s = 0) := by
      intro h; have := E; rw [hh] at this; simp only [if_pos h] at this; unfold oneN; rw [this]; exact hid rfl
    clear E
    have hcs := head_cases hh
    clear hh
    obtain ⟨hn, hb⟩ := hl
    by_cases hn0 : n = 0
    · have hc : s[0].toNat < 128 := by omega
      have E1 := hid (show oneN s = 1 by
        have := (hle (by omega)).out
        subst hn0
        simp only [S.cont] at this
        have hg : S.good v l = true := by unfold S.good; simp; omega
        rw [hg] at this
        unfold oneN; rw [this]; rfl)
      clear hcs hle hgt hn0 hb
      go_enter Tryz.func114, Tryz.ntmps114
      go_wp2_with fail
      all_goals (go_ret; exact ⟨by rw [E1.out]; rfl, rfl⟩)
    by_cases hsz : s.size ≤ n
    · have E1 := hgt hsz
      clear hgt hle hb
      rcases hcs with ⟨c1, c2, c3, c4⟩ | ⟨c1, c2, c3, c4, c5⟩ | ⟨c1, c2, c3, c4, c5, c6⟩ | ⟨c1, c2, c3, c4, c5, c6, c7⟩
      · exact absurd c2 hn0
      all_goals
        subst n
        go_enter Tryz.func114, Tryz.ntmps114
        go_wp2_with fail
        all_goals (go_ret; exact ⟨by rw [E1.out]; rfl, rfl⟩)
    have E2 := hle (by omega)
    clear hgt hle
    have hb := hid hb
    rcases hcs with ⟨c1, c2, c3, c4⟩ | ⟨c1, c2, c3, c4, c5⟩ | ⟨c1, c2, c3, c4, c5, c6⟩ | ⟨c1, c2, c3, c4, c5, c6, c7⟩
    · exact absurd c2 hn0
    · subst n v l
      go_enter Tryz.func114, Tryz.ntmps114
      go_wp2_with fail
      go_loop [5, 7] (fun x i => ∃ k vi : Nat, 1 ≤ k ∧ k ≤ 1 + 1 ∧ i = .int .i64 (k : Int) ∧ x = .int .i64 (vi : Int) ∧ Hid ((vi + 1) * 64 ^ (1 + 1 - k) ≤ 2097152) ∧ Hid (S.cont 1 (s[0].toNat % 32) (s.data.toList.drop 1) = S.cont (1 + 1 - k) vi (s.data.toList.drop k))) (fun _ i => 1 + 1 - (intOf i).toNat)
      case atStart => exact ⟨1, s[0].toNat % 32, by omega, by omega, rfl, by go_num, hid (by simpa using hb.out), hid rfl⟩
      case round =>
        obtain ⟨k, vi, hk1, hk2, rfl, rfl, hbd, hcont⟩ := hrel
        by_cases hk : k = 1 + 1
        · have hfin := hcont.out
          subst hk
          simp only [Nat.reduceAdd, Nat.reduceSub, S.cont] at hfin
          have hv := S.bound_v hbd.out
          have E3 : Hid (oneN s = if S.good vi 128 then 1 + 1 else 0) := by
            have := E2.out; rw [hfin] at this; unfold oneN; rw [this]; exact hid (by dsimp only; split <;> rfl)
          clear hfin hcont E2 hb hbd
          go_wp2
          all_goals first
            | (go_ret; exact ⟨by rw [E3.out, show S.good vi 128 = false from by unfold S.good; simp; omega]; rfl, rfl⟩)
            | (go_ret; exact ⟨by rw [E3.out, show S.good vi 128 = true from by unfold S.good; simp; omega]; rfl, rfl⟩)
        · have hbd' := hbd.out
          rw [show 1 + 1 - k = (1 - k) + 1 from by omega] at hbd'
          have hv := S.bound_v hbd'
          have hbd'' := hid hbd'
          clear hbd' hbd
          have hklt : k < s.size := by omega
          have hkd : k < s.data.toList.length := by simpa using hklt
          have hb1 : ((s[k].toNat : Nat) : Int) ≤ 255 := by have := s[k].toNat_lt; omega
          by_cases hc : s[k].toNat / 64 = 2
          · have hstep := hid (S.cont_step (k := 1 - k) (v := vi) (l := s.data.toList) k hkd hc)
            have hb2 := S.bound_step hbd''.out (show s[k].toNat % 64 < 64 by omega)
            have hb3 := hid hb2
            have k2 : (bits BinOp.and IntKind.u8 (s[k].toNat : Int) 192 != 128) = false := by rw [and192 _ s[k].toNat_lt]; simp; omega
            clear hc hb2
            go_wp2
            go_round
            case rel => exact ⟨k + 1, vi * 64 + s[k].toNat % 64, by omega, by omega, by go_num, by rw [or64_i64 _ _ hv], hid (by rw [show 1 + 1 - (k + 1) = 1 - k from by omega]; exact hb3.out), hid (by rw [hcont.out, show 1 + 1 - k = 1 - k + 1 from by omega, hstep.out, show 1 + 1 - (k + 1) = 1 - k from by omega]; rfl)⟩
            case measure => simp [intOf]; omega
          · have hstop := S.cont_stop (k := 1 - k) (v := vi) (l := s.data.toList) k hkd hc
            have E3 := hid (show oneN s = 0 by
              have := E2.out; rw [hcont.out, show 1 + 1 - k = (1 - k) + 1 from by omega, hstop] at this; unfold oneN; rw [this]; rfl)
            have k2 : (bits BinOp.and IntKind.u8 (s[k].toNat : Int) 192 != 128) = true := by rw [and192 _ s[k].toNat_lt]; simp; omega
            clear hc hstop
            go_wp2
            go_ret
            exact ⟨by rw [E3.out]; rfl, rfl⟩
    · subst n v l
      go_enter Tryz.func114, Tryz.ntmps114
      go_wp2_with fail
      go_loop [5, 7] (fun x i => ∃ k vi : Nat, 1 ≤ k ∧ k ≤ 2 + 1 ∧ i = .int .i64 (k : Int) ∧ x = .int .i64 (vi : Int) ∧ Hid ((vi + 1) * 64 ^ (2 + 1 - k) ≤ 2097152) ∧ Hid (S.cont 2 (s[0].toNat % 16) (s.data.toList.drop 1) = S.cont (2 + 1 - k) vi (s.data.toList.drop k))) (fun _ i => 2 + 1 - (intOf i).toNat)
      case atStart => exact ⟨1, s[0].toNat % 16, by omega, by omega, rfl, by go_num, hid (by simpa using hb.out), hid rfl⟩
      case round =>
        obtain ⟨k, vi, hk1, hk2, rfl, rfl, hbd, hcont⟩ := hrel
        by_cases hk : k = 2 + 1
        · have hfin := hcont.out
          subst hk
          simp only [Nat.reduceAdd, Nat.reduceSub, S.cont] at hfin
          have hv := S.bound_v hbd.out
          have E3 : Hid (oneN s = if S.good vi 2048 then 2 + 1 else 0) := by
            have := E2.out; rw [hfin] at this; unfold oneN; rw [this]; exact hid (by dsimp only; split <;> rfl)
          clear hfin hcont E2 hb hbd
          go_wp2
          all_goals first
            | (go_ret; exact ⟨by rw [E3.out, show S.good vi 2048 = false from by unfold S.good; simp; omega]; rfl, rfl⟩)
            | (go_ret; exact ⟨by rw [E3.out, show S.good vi 2048 = true from by unfold S.good; simp; omega]; rfl, rfl⟩)
        · have hbd' := hbd.out
          rw [show 2 + 1 - k = (2 - k) + 1 from by omega] at hbd'
          have hv := S.bound_v hbd'
          have hbd'' := hid hbd'
          clear hbd' hbd
          have hklt : k < s.size := by omega
          have hkd : k < s.data.toList.length := by simpa using hklt
          have hb1 : ((s[k].toNat : Nat) : Int) ≤ 255 := by have := s[k].toNat_lt; omega
          by_cases hc : s[k].toNat / 64 = 2
          · have hstep := hid (S.cont_step (k := 2 - k) (v := vi) (l := s.data.toList) k hkd hc)
            have hb2 := S.bound_step hbd''.out (show s[k].toNat % 64 < 64 by omega)
            have hb3 := hid hb2
            have k2 : (bits BinOp.and IntKind.u8 (s[k].toNat : Int) 192 != 128) = false := by rw [and192 _ s[k].toNat_lt]; simp; omega
            clear hc hb2
            go_wp2
            go_round
            case rel => exact ⟨k + 1, vi * 64 + s[k].toNat % 64, by omega, by omega, by go_num, by rw [or64_i64 _ _ hv], hid (by rw [show 2 + 1 - (k + 1) = 2 - k from by omega]; exact hb3.out), hid (by rw [hcont.out, show 2 + 1 - k = 2 - k + 1 from by omega, hstep.out, show 2 + 1 - (k + 1) = 2 - k from by omega]; rfl)⟩
            case measure => simp [intOf]; omega
          · have hstop := S.cont_stop (k := 2 - k) (v := vi) (l := s.data.toList) k hkd hc
            have E3 := hid (show oneN s = 0 by
              have := E2.out; rw [hcont.out, show 2 + 1 - k = (2 - k) + 1 from by omega, hstop] at this; unfold oneN; rw [this]; rfl)
            have k2 : (bits BinOp.and IntKind.u8 (s[k].toNat : Int) 192 != 128) = true := by rw [and192 _ s[k].toNat_lt]; simp; omega
            clear hc hstop
            go_wp2
            go_ret
            exact ⟨by rw [E3.out]; rfl, rfl⟩
    · subst n v l
      go_enter Tryz.func114, Tryz.ntmps114
      go_wp2_with fail
      go_loop [5, 7] (fun x i => ∃ k vi : Nat, 1 ≤ k ∧ k ≤ 3 + 1 ∧ i = .int .i64 (k : Int) ∧ x = .int .i64 (vi : Int) ∧ Hid ((vi + 1) * 64 ^ (3 + 1 - k) ≤ 2097152) ∧ Hid (S.cont 3 (s[0].toNat % 8) (s.data.toList.drop 1) = S.cont (3 + 1 - k) vi (s.data.toList.drop k))) (fun _ i => 3 + 1 - (intOf i).toNat)
      case atStart => exact ⟨1, s[0].toNat % 8, by omega, by omega, rfl, by go_num, hid (by simpa using hb.out), hid rfl⟩
      case round =>
        obtain ⟨k, vi, hk1, hk2, rfl, rfl, hbd, hcont⟩ := hrel
        by_cases hk : k = 3 + 1
        · have hfin := hcont.out
          subst hk
          simp only [Nat.reduceAdd, Nat.reduceSub, S.cont] at hfin
          have hv := S.bound_v hbd.out
          have E3 : Hid (oneN s = if S.good vi 65536 then 3 + 1 else 0) := by
            have := E2.out; rw [hfin] at this; unfold oneN; rw [this]; exact hid (by dsimp only; split <;> rfl)
          clear hfin hcont E2 hb hbd
          go_wp2
          all_goals first
            | (go_ret; exact ⟨by rw [E3.out, show S.good vi 65536 = false from by unfold S.good; simp; omega]; rfl, rfl⟩)
            | (go_ret; exact ⟨by rw [E3.out, show S.good vi 65536 = true from by unfold S.good; simp; omega]; rfl, rfl⟩)
        · have hbd' := hbd.out
          rw [show 3 + 1 - k = (3 - k) + 1 from by omega] at hbd'
          have hv := S.bound_v hbd'
          have hbd'' := hid hbd'
          clear hbd' hbd
          have hklt : k < s.size := by omega
          have hkd : k < s.data.toList.length := by simpa using hklt
          have hb1 : ((s[k].toNat : Nat) : Int) ≤ 255 := by have := s[k].toNat_lt; omega
          by_cases hc : s[k].toNat / 64 = 2
          · have hstep := hid (S.cont_step (k := 3 - k) (v := vi) (l := s.data.toList) k hkd hc)
            have hb2 := S.bound_step hbd''.out (show s[k].toNat % 64 < 64 by omega)
            have hb3 := hid hb2
            have k2 : (bits BinOp.and IntKind.u8 (s[k].toNat : Int) 192 != 128) = false := by rw [and192 _ s[k].toNat_lt]; simp; omega
            clear hc hb2
            go_wp2
            go_round
            case rel => exact ⟨k + 1, vi * 64 + s[k].toNat % 64, by omega, by omega, by go_num, by rw [or64_i64 _ _ hv], hid (by rw [show 3 + 1 - (k + 1) = 3 - k from by omega]; exact hb3.out), hid (by rw [hcont.out, show 3 + 1 - k = 3 - k + 1 from by omega, hstep.out, show 3 + 1 - (k + 1) = 3 - k from by omega]; rfl)⟩
            case measure => simp [intOf]; omega
          · have hstop := S.cont_stop (k := 3 - k) (v := vi) (l := s.data.toList) k hkd hc
            have E3 := hid (show oneN s = 0 by
              have := E2.out; rw [hcont.out, show 3 + 1 - k = (3 - k) + 1 from by omega, hstop] at this; unfold oneN; rw [this]; rfl)
            have k2 : (bits BinOp.and IntKind.u8 (s[k].toNat : Int) 192 != 128) = true := by rw [and192 _ s[k].toNat_lt]; simp; omega
            clear hc hstop
            go_wp2
            go_ret
            exact ⟨by rw [E3.out]; rfl, rfl⟩

set_option maxHeartbeats 400000 in
theorem ref_runes_any (s : ByteArray) (w : World) (hs : s.size ≤ maxLen) :
    Calls Tryz.prog 102 #[.string s] w fun e w' => e = .returned (.tuple #[.int .i64 (runesN s : Int), .bool (runesOk s)]) ∧ w = w' := by
  unfold maxLen at hs
  go_enter Tryz.func102, Tryz.ntmps102
  go_wp2_with fail
  go_loop [0, 4] (fun sv n => ∃ (k : Nat) (t : ByteArray), sv = .string t ∧ n = .int .i64 (k : Int) ∧ k + t.size ≤ s.size ∧ Hid (S.runes s.data.toList = (S.runes t.data.toList).map (· + k))) (fun sv _ => (strOf sv).size)
  case atStart => exact ⟨0, s, rfl, rfl, by omega, by exact hid (by simp)⟩
  case round =>
    obtain ⟨k, t, rfl, rfl, hkt, hr⟩ := hrel
    by_cases ht : t.size = 0
    · have hn : t.data.toList = [] := List.eq_nil_of_length_eq_zero (by simpa using ht)
      have E : S.runes s.data.toList = some k := (by rw [hr.out, hn]; simp [S.runes_nil])
      have E1 := hid (show runesN s = k by unfold runesN; rw [E]; rfl)
      have E2 := hid (show runesOk s = true by unfold runesOk; rw [E]; rfl)
      clear hn E hr
      go_wp2_with fail
      go_ret2
      exact ⟨by rw [E1.out, E2.out]; rfl, rfl⟩
    · have ht0 : t.data.toList ≠ [] := fun h => ht (by simpa using congrArg List.length h)
      cases h1 : S.one t.data.toList with
      | none =>
        have E : S.runes s.data.toList = none := (by rw [hr.out, S.runes_none ht0 h1]; rfl)
        have E1 := hid (show runesN s = 0 by unfold runesN; rw [E]; rfl)
        have E2 := hid (show runesOk s = false by unfold runesOk; rw [E]; rfl)
        have E3 : oneN t = 0 := by unfold oneN; rw [h1]; rfl
        have hc := ref_one_any t w (by unfold maxLen; omega)
        rw [E3] at hc
        have hc := hid hc
        have ht1 : 0 < t.size := by omega
        clear ht0 ht E hr h1 E3
        go_wp2_with (go_at_call 114; refine hc.out.mono ?_; rintro e w' ⟨rfl, rfl⟩)
        go_ret2
        exact ⟨by rw [E1.out, E2.out]; rfl, rfl⟩
      | some n =>
        have hle := S.one_le h1
        have E : Hid (S.runes s.data.toList = (S.runes (t.data.toList.drop n)).map (· + (k + 1))) := hid (by rw [hr.out, S.runes_some h1]; cases S.runes (t.data.toList.drop n) <;> simp; omega)
        have hle1 := hle.1
        have hle2 : n ≤ t.size := by simpa using hle.2
        have E3 : oneN t = n := by unfold oneN; rw [h1]; rfl
        have hc := ref_one_any t w (by unfold maxLen; omega)
        rw [E3] at hc
        have hc := hid hc
        have k0 : ((n : Int) == 0) = false := by simp; omega
        have ht1 : 0 < t.size := by omega
        clear ht0 hle hr h1 E3
        go_wp2_with (go_at_call 114; refine hc.out.mono ?_; rintro e w' ⟨rfl, rfl⟩)
        go_round
        case rel => exact ⟨k + 1, t.extract n t.size, rfl, by simp, by simp; omega, hid (by rw [E.out, S.data_extract])⟩
        case measure => simp [strOf]; omega

end
end Go.Proofs.YtcmajcljafmphaaGreat
