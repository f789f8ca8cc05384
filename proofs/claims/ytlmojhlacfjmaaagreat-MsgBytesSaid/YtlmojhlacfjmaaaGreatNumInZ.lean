/- What num.Of and the methods of num.In do, under bounds on lengths that each theorem names. No further condition. -/
import Derived.Test.YtlmojhlacfjmaaaGreatNumZ
import Derived.Recover
namespace Go.Proofs.YtlmojhlacfjmaaaGreat
open Go.RowKit
set_option maxRecDepth 100000

theorem block_cell {w : World} {b : Nat} {cs : Array Value} {t : TypeId} {fr : Nat × Nat} (h : w.heap[b]? = some (.cells cs t fr)) (i : Nat) : w.cell? ⟨b, i, none⟩ = cs[i]? := by simp [World.cell?, h]
theorem block_free {w : World} {b : Nat} {cs : Array Value} {t : TypeId} (h : w.heap[b]? = some (.cells cs t (0, 0))) (i : Nat) : w.frozen? ⟨b, i, none⟩ = false := by simp [World.frozen?, h]
theorem block_set {w : World} {b : Nat} {cs : Array Value} {t : TypeId} {fr : Nat × Nat} (h : w.heap[b]? = some (.cells cs t fr)) (i : Nat) (u : Value) : (w.setCell ⟨b, i, none⟩ u).heap[b]? = some (.cells (cs.setIfInBounds i u) t fr) := by
 have hlt := lt_of_block h
 have h' : w.heap[b] = .cells cs t fr := by simpa [Array.getElem?_eq_getElem hlt] using h
 show (w.heap.modify b _)[b]? = _
 rw [Array.getElem?_modify, if_pos rfl, h]
 rfl
theorem block_set_other {w : World} {b : Nat} {p : Addr} {u : Value} (hne : b ≠ p.block) : (w.setCell p u).heap[b]? = w.heap[b]? := Below.heap_setCell _ _ _ _ hne

theorem RowAt.other {w w' : World} {k n : Nat} {v : Value} {xs : List Value} (h : RowAt w k v n xs) (hsz : w.heap.size ≤ w'.heap.size) (hk : ∀ j, v.ownBlock = some j → w'.heap[j]? = w.heap[j]?) : RowAt w' k v n xs := by
 obtain ⟨hl, a, c, rfl, h1, h2, h3, h5, h4⟩ := h
 refine ⟨hl, a, c, rfl, h1, h2, h3, fun ad ha => ⟨(h5 ad ha).1, Nat.lt_of_lt_of_le (h5 ad ha).2 hsz⟩, fun i u hu => ?_⟩
 obtain ⟨b, o, rfl, hc⟩ := h4 i u hu
 refine ⟨b, o, rfl, ?_⟩
 rw [World.cell?_of_block (w := w) (hk b rfl)]; exact hc
theorem BytesAt.setCell {w : World} {v : Value} {l : List UInt8} (h : BytesAt w v l) {p : Addr} (u : Value) (hne : v.ownBlock ≠ some p.block) : BytesAt (w.setCell p u) v l :=
 RowAt.other h (by simp [World.setCell]) fun j hj => block_set_other fun e => hne (by rw [hj, e])

theorem BytesAt.drop1 {w : World} {a : Option Addr} {n c : Nat} {l : List UInt8} (h : BytesAt w (.slice a n c) l) (k : Nat) (hk : k ≤ l.length) : BytesAt w (.slice (Option.map (fun x => x.add k) a) (l.length - k) (c - k)) (l.drop k) := by
 obtain ⟨_, a', c', hv, h1, h2, h3, h5, h4⟩ := h
 cases hv
 refine ⟨by simp, Option.map (fun x => x.add k) a, c - k, by simp, by simp; omega, by omega, ?_, ?_, fun i u hu => ?_⟩
 ·cases a with
  | none => intro _; have := h3 rfl; omega
  | some a => intro h; cases h
 ·intro ad ha
  cases a with
  | none => cases ha
  | some a0 =>
   have := h5 a0 rfl
   simp only [Option.map_some, Option.some.injEq] at ha
   subst ha
   unfold Addr.add
   split
   ·exact this
   ·exact ⟨rfl, this.2⟩
 obtain ⟨b', o', he, hcell⟩ := h4 (k + i) u (by rw [← hu]; simp)
 cases he
 exact ⟨b', o' + k, by simp [add_plain'], by rw [Nat.add_assoc]; exact hcell⟩

theorem BytesAt.drop0 {w : World} {a : Option Addr} {n c k : Nat} {l : List UInt8} (h : BytesAt w (.slice a n c) l) (hk : c = k) : BytesAt w (.slice a (l.length - k) 0) (l.drop k) := by
 obtain ⟨_, a', c', hv, h1, h2, h3, h5, h4⟩ := h
 cases hv
 subst hk
 have : l.drop c = [] := List.drop_eq_nil_of_le h1
 rw [this]
 exact ⟨rfl, a, 0, by simp; omega, Nat.le_refl _, by unfold maxLen; omega, fun _ => rfl, h5, fun i u hu => by simp at hu⟩

theorem ownBlock_map {a : Option Addr} {n c n' c' k : Nat} : (Value.slice (Option.map (fun x => x.add k) a) n' c').ownBlock = (Value.slice a n c).ownBlock := by
 cases a with
 | none => rfl
 | some a => simp [Value.ownBlock, Addr.add]; split <;> rfl
theorem ownBlock_same {a : Option Addr} {n c n' c' : Nat} : (Value.slice a n' c').ownBlock = (Value.slice a n c).ownBlock := by
 cases a <;> rfl

theorem assert_errno (e : Int) (w : World) : (Instr.typeAssert (.iface 36 (.int .i64 e)) 20 36 true).run Tryz.prog w = .ok (.tuple #[.int .i64 e, .bool true]) w := by kernel_rfl

def InIs (w : World) (b : Nat) (l : List UInt8) (err : Nat) : Prop :=
 ∃ v, w.heap[b]? = some (.cells #[v, .int .i64 (err : Int)] 135 (0, 0)) ∧ BytesAt w v l ∧ v.ownBlock ≠ some b

def errChain (e : Nat) : List PanicEntry := [{ v := .iface 36 (.int .i64 (e : Int)), recovered := false }]
def errChainR (e : Nat) : List PanicEntry := [{ v := .iface 36 (.int .i64 (e : Int)), recovered := true }]

theorem caught_idle (b : Nat) (w : World) :
  CallsD Tryz.prog 71 #[.pointer (some ⟨b, 0, none⟩)] .returning w fun en u' w' => en = .returned (.tuple #[]) ∧ u' = .returning ∧ w = w' := by
 refine callsD_of_wpS Tryz.func71 rfl fun c₀ cs hu => ?_
 apply wpS_seq
 apply wpS_region
 simp [wpOpsS, go_sem, recoverD, hu, Tryz.ntmps71, Exit.thenS, Array.replicate_succ]
 rw [show c₀ = { c₀ with mode := .returning } from by cases c₀; simp_all]
 apply wpS_body
 go_wp2
 go_end0
 exact ⟨rfl, rfl⟩

set_option maxHeartbeats 800000 in
theorem cut_short (b n : Nat) (l : List UInt8) (e : Nat) (w : World) (hn : l.length < n) (h : InIs w b l e) :
  Calls Tryz.prog 72 #[.pointer (some ⟨b, 0, none⟩), .int .i64 (n : Int)] w fun en w' => en = .panicked (errChain 4) ∧ w = w' := by
 obtain ⟨v, hb, hv, hne⟩ := h
 obtain ⟨a, c, rfl, hc1, hc2, hc3⟩ := hv.form
 have hc0 := block_cell hb 0
 have hf0 := block_free hb 0
 simp at hc0
 unfold maxLen at hc2
 replace hb := hid hb
 go_enter Tryz.func72, Tryz.ntmps72
 go_wp2
 exact ⟨rfl, rfl, rfl⟩
def leN : List UInt8 → Nat
 | [] => 0
 | c :: t => c.toNat + 256 * leN t

def takeV (n : Nat) (l : List UInt8) (e : Nat) : Nat := if e ≠ 0 then 0 else if l.length < n then 0 else leN (l.take n)
def restL (n : Nat) (l : List UInt8) (e : Nat) : List UInt8 := if e ≠ 0 then l else if l.length < n then l else l.drop n
def restE (n : Nat) (l : List UInt8) (e : Nat) : Nat := if e ≠ 0 then e else if l.length < n then 4 else 0
def rawL (n : Nat) (l : List UInt8) (e : Nat) : List UInt8 := if e ≠ 0 then [] else if l.length < n then [] else l.take n

theorem leN_lt : ∀ l : List UInt8, leN l < 256 ^ l.length
 | [] => by simp [leN]
 | c :: t => by
  have h1 := c.toNat_lt
  have h2 := leN_lt t
  simp only [leN, List.length_cons, Nat.pow_succ]
  omega

theorem leN_snoc : ∀ (l : List UInt8) (c : UInt8), leN (l ++ [c]) = leN l + c.toNat * 256 ^ l.length
 | [], c => by simp [leN]
 | d :: t, c => by
  rw [List.cons_append]
  simp only [leN, leN_snoc t c, List.length_cons, Nat.pow_succ]
  have : c.toNat * (256 ^ t.length * 256) = 256 * (c.toNat * 256 ^ t.length) := by rw [← Nat.mul_assoc, Nat.mul_comm]
  omega

theorem InIs.parts {w : World} {b : Nat} {l : List UInt8} {e : Nat} (h : InIs w b l e) : ∃ v, w.cell? ⟨b, 0, none⟩ = some v ∧ w.cell? ⟨b, 0 + 1, none⟩ = some (.int .i64 (e : Int)) ∧ BytesAt w v l := by
 obtain ⟨v, hb, hv, _⟩ := h
 exact ⟨v, block_cell hb 0, block_cell hb 1, hv⟩

theorem in_err_any (b : Nat) (l : List UInt8) (e : Nat) (w : World) (h : InIs w b l e) :
  Calls Tryz.prog 69 #[.pointer (some ⟨b, 0, none⟩)] w fun en w' => en = .returned (.int .i64 (e : Int)) ∧ w = w' := by
 obtain ⟨v, h0, h1, _⟩ := h.parts
 go_enter Tryz.func69, Tryz.ntmps69
 go_wp2
 go_ret
 exact ⟨rfl, rfl⟩

def leftN (l : List UInt8) (e : Nat) : Nat := if e ≠ 0 then 0 else l.length

theorem in_left_any (b : Nat) (l : List UInt8) (e : Nat) (w : World) (h : InIs w b l e) :
  Calls Tryz.prog 60 #[.pointer (some ⟨b, 0, none⟩)] w fun en w' => en = .returned (.int .i64 (leftN l e : Int)) ∧ w = w' := by
 obtain ⟨v, h0, h1, hv⟩ := h.parts
 obtain ⟨a, c, rfl, hc1, hc2, hc3⟩ := hv.form
 unfold maxLen at hc2
 by_cases he : e = 0
 ·subst he
  go_enter Tryz.func60, Tryz.ntmps60
  go_wp2
  go_ret
  exact ⟨by simp [leftN], rfl⟩
 ·have k0 : ((e : Int) != 0) = true := by simpa using he
  have E := hid (show leftN l e = 0 by unfold leftN; rw [if_pos he])
  clear he
  go_enter Tryz.func60, Tryz.ntmps60
  go_wp2
  go_ret
  exact ⟨by rw [E.out]; rfl, rfl⟩

def OfPost (w : World) (l : List UInt8) (en : Ending) (w' : World) : Prop := ∃ b, en = .returned (.pointer (some ⟨b, 0, none⟩)) ∧ w.heap.size ≤ b ∧ InIs w' b l 0 ∧ Below w.heap.size w w'

theorem in_of_any (v : Value) (l : List UInt8) (w : World) (h : BytesAt w v l) (hl : l.length ≤ 1000000008) :
  Calls Tryz.prog 57 #[v] w (OfPost w l) := by
 go_enter Tryz.func57, Tryz.ntmps57
 go_wp2_with fail
 refine (clone_any v l w h hl).mono ?_
 rintro e w1 ⟨v1, rfl, h1, hb1⟩
 obtain ⟨a, c, rfl, hc1, hc2, hc3⟩ := h1.form
 go_wp2
 go_ret
 have h1' := h1.below ((Below.refl w1.heap.size w1).alloc (Nat.le_refl _) (.cells #[.slice a l.length c, .int .i64 0] 135))
 refine ⟨w1.heap.size, rfl, hb1.size, ⟨_, heap_alloc_new _ _, h1', ?_⟩, hb1.alloc hb1.size _⟩
 intro he
 exact absurd (h1.lt he) (Nat.lt_irrefl _)

theorem or_take {k v c : Nat} (hv : v < 256 ^ k) (hc : c < 256) (hk : k < 8) : bits .or .u64 (v : Int) (((c * 256 ^ k : Nat) : Int)) = ((v + c * 256 ^ k : Nat) : Int) := by
 have h8 : (256 : Nat) ^ k = 2 ^ (8 * k) := by rw [Nat.pow_mul]
 have hx : v ||| c * 256 ^ k = v + c * 256 ^ k := by
  have := Nat.shiftLeft_add_eq_or_of_lt (i := 8 * k) (b := v) (by rw [← h8]; exact hv) c
  rw [Nat.shiftLeft_eq, ← h8] at this
  rw [Nat.or_comm, ← this, Nat.add_comm]
 have hle : 256 ^ (k + 1) ≤ 256 ^ 8 := Nat.pow_le_pow_right (by omega) (by omega)
 have hlt : v + c * 256 ^ k < 256 ^ (k + 1) := by
  have : (c + 1) * 256 ^ k ≤ 256 * 256 ^ k := Nat.mul_le_mul_right _ (by omega)
  rw [Nat.add_mul, Nat.one_mul] at this
  have h2 : (256 : Nat) ^ (k + 1) = 256 * 256 ^ k := by rw [Nat.pow_succ, Nat.mul_comm]
  omega
 have h9 : (256 : Nat) ^ 8 = 18446744073709551616 := by decide
 have hm : c * 256 ^ k < 18446744073709551616 := by omega
 rw [u64_or_nat v _ (by omega) hm, hx]

theorem or_take' {k v c : Nat} (hv : v < 256 ^ k) (hc : c < 256) (hk : k < 8) : bits .or .u64 (v : Int) (IntKind.u64.wrap (IntKind.u64.wrap (c : Int) * 2 ^ (8 * k))) = ((v + c * 256 ^ k : Nat) : Int) := by
 rw [← or_take hv hc hk]
 congr 1
 have hw : ∀ n : Int, IntKind.u64.wrap n = n % 18446744073709551616 := fun n => by simp [IntKind.wrap, IntKind.bits, IntKind.signed]
 have h8 : (256 : Nat) ^ k = 2 ^ (8 * k) := by rw [Nat.pow_mul]
 have hle : 256 ^ (k + 1) ≤ 256 ^ 8 := Nat.pow_le_pow_right (by omega) (by omega)
 have h9 : (256 : Nat) ^ 8 = 18446744073709551616 := by decide
 have h10 : c * 256 ^ k < 256 ^ (k + 1) := by
  rw [Nat.pow_succ, Nat.mul_comm]
  exact Nat.mul_lt_mul_of_pos_left hc (Nat.pow_pos (by omega))
 rw [hw (c : Int), Int.emod_eq_of_lt (by omega) (by omega), hw]
 rw [show (2 : Int) ^ (8 * k) = ((256 ^ k : Nat) : Int) from by rw [h8]; push_cast; rfl]
 rw [← Int.natCast_mul]
 exact Int.emod_eq_of_lt (by omega) (by omega)

theorem InIs.below {w w' : World} {b : Nat} {l : List UInt8} {e : Nat} (h : InIs w b l e) (hb : Below w.heap.size w w') : InIs w' b l e := by
 obtain ⟨v, h1, h2, h3⟩ := h
 exact ⟨v, (hb.block b (lt_of_block h1)).trans h1, h2.below hb, h3⟩
theorem InIs.lt {w : World} {b : Nat} {l : List UInt8} {e : Nat} (h : InIs w b l e) : b < w.heap.size := by
 obtain ⟨v, h1, _⟩ := h
 exact lt_of_block h1

end Go.Proofs.YtlmojhlacfjmaaaGreat
