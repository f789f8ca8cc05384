/- What the methods of num.Out, slices.Clone and slices.Clip do, under bounds on lengths that each theorem names. No further condition.
What num.Of and the methods of num.In do, under bounds on lengths that each theorem names. No further condition. -/
import Derived.Test.YtpmlhmficmillaaGreatBunA
import Derived.Test.YtpmlhmficmillaaGreatProg
import Derived.Recover
namespace Go.Proofs.YtpmlhmficmillaaGreat
section
open Go.RowKit
set_option maxRecDepth 100000

theorem infoU8 : (Tryz.prog.info? 5).map (fun i => (i.zero, i.size, i.bytes)) = some (some (.int .u8 0), 1, 1) := by kernel_rfl


theorem own_ne {w : World} {b e size n : Nat} {v : Value} {xs : List Value} (h : w.ownsRow (b + 1) e size v n xs) : some b ≠ v.ownBlock := fun he => by
  have := (h.lt b he.symm).1; omega

theorem kept_da {w w' : World} {b : Nat} {o X : Obj} {row : Option Nat} (hb : w.heap[b]? = some X) (hg : (w.drew.alloc o).grownBy w' row) (hne : some b ≠ row) : w'.heap[b]? = some X := by
  have hlt := lt_of_block hb
  rw [hg.block b (by show b < (w.drew.heap.push o).size; simp; exact Nat.lt_succ_of_lt hlt) hne]
  rw [heap_alloc_old w.drew o (by exact hlt)]; exact hb

def numAt (v k : Nat) : UInt8 := UInt8.ofNat (v / 2 ^ (8 * k))
def numBytes (v : Nat) : Nat → List UInt8
  | 0 => []
  | n + 1 => numBytes v n ++ [numAt v n]

theorem numBytes_length (v : Nat) : ∀ n, (numBytes v n).length = n
  | 0 => rfl
  | n + 1 => by simp [numBytes, numBytes_length v n]

theorem byteV_numAt (v k : Nat) : byteV (numAt v k) = .int .u8 (IntKind.u8.wrap ((v : Int) / 2 ^ (8 * k))) := by
  unfold byteV numAt
  rw [IntKind.wrap_u8]
  congr 1

def OutIs (w : World) (b : Nat) (xs : List UInt8) : Prop :=
  ∃ v, ∃ ot : TypeId, w.heap[b]? = some (.cells #[v] ot (0, 0)) ∧ w.ownsRow (b + 1) 5 1 v xs.length (xs.map byteV)

theorem out_store {w' : World} {b n : Nat} {ot : TypeId} {va v2 : Value} {xs : List UInt8} {vs : List Value} (hb : w'.heap[b]? = some (.cells #[va] ot (0, 0)))
    (h2 : w'.ownsRow (b + 1) 5 1 v2 n vs) (hvs : vs = xs.map byteV) : OutIs (w'.setCell ⟨b, 0, none⟩ v2) b xs := by
  subst hvs
  have hn : n = xs.length := by have := h2.1; simp at this; exact this.symm
  subst hn
  exact ⟨v2, ot, one_setCell hb, ownsRow_setCell_below h2 (by show b < b + 1; omega) _⟩

theorem elemU8 : ElemOk Tryz.prog 46 5 1 1 := elemOk_of Tryz.underlying46 infoU8 rfl (by decide)

def RetBytes (w : World) (l : List UInt8) (e : Ending) (w' : World) : Prop := ∃ v', e = .returned v' ∧ BytesAt w' v' l ∧ Below w.heap.size w w'

theorem own_empty (w : World) (e k : Nat) : (w.alloc (.cells #[] e)).ownsRow w.heap.size e k (.slice (some ⟨w.heap.size, 0, none⟩) 0 0) 0 [] :=
  World.ownsRow_made w #[] 0 (Nat.le_refl _) (by unfold maxLen; omega) (by simp)

theorem BytesAt.of_own {w : World} {base e n : Nat} {v : Value} {xs : List Value} {l : List UInt8} (h : w.ownsRow base e 1 v n xs) (hx : xs = l.map byteV) : BytesAt w v l := by
  subst hx
  have := RowAt.of_own h
  obtain rfl : n = l.length := by have := h.1; simp at this; omega
  exact this

theorem bytes_len0 {w : World} {v : Value} {l : List UInt8} {c : Nat} (h : BytesAt w (.slice none l.length c) l) (hv : v = .slice none 0 0) : BytesAt w v l := by
  obtain ⟨hl, a, c', he, h1, h2, h3, _, h4⟩ := h
  cases he
  have hc := h3 rfl
  obtain rfl : l = [] := List.eq_nil_of_length_eq_zero (by omega)
  subst hv
  exact RowAt.nil

def RetNew (w : World) (l : List UInt8) (e : Ending) (w' : World) : Prop := ∃ v', e = .returned v' ∧ (BytesAt w' v' l ∧ ∀ k, v'.ownBlock = some k → w.heap.size ≤ k) ∧ Below w.heap.size w w'

set_option maxHeartbeats 400000 in
theorem clip_at (a : Option Addr) (n c : Nat) (w : World) (_hn : n ≤ c) (_hc : c ≤ maxLen) :
    Calls Tryz.prog 65 #[.slice a n c] w fun e w' => e = .returned (.slice a n n) ∧ w = w' := by
  unfold maxLen at _hc
  go_enter Tryz.func65, Tryz.ntmps65
  go_wp2
  go_ret
  exact ⟨rfl, rfl⟩

set_option maxHeartbeats 400000 in
theorem clone_new (v : Value) (l : List UInt8) (w : World) (h : BytesAt w v l) (hl : l.length ≤ 1000000008) :
    Calls Tryz.prog 61 #[v] w (RetNew w l) := by
  obtain ⟨a, c, rfl, hc1, hc2, hc3⟩ := h.form
  have qT := fun (w : World) (a : Option Addr) (n c n' c' : Nat) => Lib.run_eql_slice_nil (P := Tryz.prog) w 46 5 a n c n' c' Tryz.underlying46
  cases a with
  | none =>
    clear hc3
    go_enter Tryz.func61, Tryz.ntmps61
    go_wp2
    go_ret
    exact ⟨_, rfl, ⟨bytes_len0 h rfl, fun k hk => by cases hk⟩, Below.refl _ _⟩
  | some a =>
    have h0 := h.below ((Below.refl w.heap.size w).alloc (Nat.le_refl _) (.cells #[] 5))
    go_enter Tryz.func61, Tryz.ntmps61
    go_wp2_with (at_builtin; refine wpList_append_row elemU8 _ rfl (.tmp 5) (.tmp 6) rfl w.heap.size _ 0 [] rfl (own_empty w 5 1) _ l.length (l.map byteV) rfl h0 (bytes_oneCell l) (by unfold maxLen; omega) (by omega) (by simp) (fun a' c' w' h2 h3 => ?_))
    go_ret
    simp only [Nat.zero_add] at h2
    have h4 := BytesAt.of_own (l := l) h2 (by simp)
    exact ⟨_, rfl, ⟨h4, fun k hk => (h2.lt k hk).1⟩, (((Below.refl w.heap.size w).alloc (Nat.le_refl _) _).grown h3 (by simp) (fun k hk => by cases hk; exact Nat.le_refl _))⟩
theorem OutIs.bytes {w : World} {b : Nat} {xs : List UInt8} (h : OutIs w b xs) : ∃ v, ∃ ot : TypeId, w.heap[b]? = some (.cells #[v] ot (0, 0)) ∧ BytesAt w v xs := by
  obtain ⟨v, ot, h1, h2⟩ := h
  exact ⟨v, ot, h1, BytesAt.of_own h2 rfl⟩

set_option maxHeartbeats 400000 in
theorem out_bytes_new (b : Nat) (xs : List UInt8) (w : World) (hx : xs.length ≤ 1000000008) (ho : OutIs w b xs) :
    Calls Tryz.prog 43 #[.pointer (some ⟨b, 0, none⟩)] w (RetNew w xs) := by
  obtain ⟨v, ot, hb, hv⟩ := ho.bytes
  have hc := cell_of_one hb
  have hf := free_of_one hb
  clear hb
  go_enter Tryz.func43, Tryz.ntmps43
  go_wp2_with fail
  refine (clone_new v xs w hv hx).mono ?_
  rintro e w1 ⟨v1, rfl, h1, hb1⟩
  obtain ⟨h1, hnew⟩ := h1
  obtain ⟨a1, c1, rfl, g1, g2, _⟩ := h1.form
  replace hnew := hid hnew
  go_wp2_with fail
  refine (clip_at a1 xs.length c1 w1 g1 g2).mono ?_
  rintro e w2 ⟨rfl, rfl⟩
  go_wp2_with fail
  go_ret
  exact ⟨_, rfl, ⟨by have := h1.take xs.length xs.length (Nat.le_refl _) (Nat.le_refl _) g1; rwa [List.take_length] at this, fun k hk => hnew.out k (by cases a1 <;> exact hk)⟩, hb1⟩
theorem out_bytes_any (b : Nat) (xs : List UInt8) (w : World) (hx : xs.length ≤ 1000000008) (ho : OutIs w b xs) :
    Calls Tryz.prog 43 #[.pointer (some ⟨b, 0, none⟩)] w (RetBytes w xs) := (out_bytes_new b xs w hx ho).mono fun _ _ ⟨v', h1, h2, h3⟩ => ⟨v', h1, h2.1, h3⟩

end
end Go.Proofs.YtpmlhmficmillaaGreat

namespace Go.Proofs.YtpmlhmficmillaaGreat
section
open Go.RowKit
set_option maxRecDepth 100000

theorem block_cell {w : World} {b : Nat} {cs : Array Value} {t : TypeId} {fr : Nat × Nat} (h : w.heap[b]? = some (.cells cs t fr)) (i : Nat) : w.cell? ⟨b, i, none⟩ = cs[i]? := by simp [World.cell?, h]
theorem block_free {w : World} {b : Nat} {cs : Array Value} {t : TypeId} (h : w.heap[b]? = some (.cells cs t (0, 0))) (i : Nat) : w.frozen? ⟨b, i, none⟩ = false := by simp [World.frozen?, h]
theorem block_set {w : World} {b : Nat} {cs : Array Value} {t : TypeId} {fr : Nat × Nat} (h : w.heap[b]? = some (.cells cs t fr)) (i : Nat) (u : Value) : (w.setCell ⟨b, i, none⟩ u).heap[b]? = some (.cells (cs.setIfInBounds i u) t fr) := by
  have hlt := lt_of_block h
  have h' : w.heap[b] = .cells cs t fr := by simpa [Array.getElem?_eq_getElem hlt] using h
  show (w.heap.modify b _)[b]? = _
  rw [Array.getElem?_modify, if_pos rfl, h]
  rfl
theorem block_set_other {w : World} {b : Nat} {p : Addr} {u : Value} (hne : b ≠ p.block) : (w.setCell p u).heap[b]? = w.heap[b]? := Below.heap_setCell _ _ _ _ hne

theorem RowAt.other {w w' : World} {k n : Nat} {v : Value} {xs : List Value} (h : RowAt w k v n xs) (hsz : w.heap.size ≤ w'.heap.size) (hk : ∀ j, v.ownBlock = some j → w'.heap[j]? = w.heap[j]?) : RowAt w' k v n xs := by
  obtain ⟨hl, a, c, rfl, h1, h2, h3, h5, h4⟩ := h
  refine ⟨hl, a, c, rfl, h1, h2, h3, fun ad ha => ⟨(h5 ad ha).1, Nat.lt_of_lt_of_le (h5 ad ha).2 hsz⟩, fun i u hu => ?_⟩
  obtain ⟨b, o, rfl, hc⟩ := h4 i u hu
  refine ⟨b, o, rfl, ?_⟩
  rw [World.cell?_of_block (w := w) (hk b rfl)]; exact hc
theorem BytesAt.setCell {w : World} {v : Value} {l : List UInt8} (h : BytesAt w v l) {p : Addr} (u : Value) (hne : v.ownBlock ≠ some p.block) : BytesAt (w.setCell p u) v l :=
  RowAt.other h (by simp [World.setCell]) fun j hj => block_set_other fun e => hne (by rw [hj, e])

theorem BytesAt.drop1 {w : World} {a : Option Addr} {n c : Nat} {l : List UInt8} (h : BytesAt w (.slice a n c) l) (k : Nat) (hk : k ≤ l.length) : BytesAt w (.slice (Option.map (fun x => x.add k) a) (l.length - k) (c - k)) (l.drop k) := by
  obtain ⟨_, a', c', hv, h1, h2, h3, h5, h4⟩ := h
  cases hv
  refine ⟨by simp, Option.map (fun x => x.add k) a, c - k, by simp, by simp; omega, by omega, ?_, ?_, fun i u hu => ?_⟩
  · cases a with
    | none => intro _; have := h3 rfl; omega
    | some a => intro h; cases h
  · intro ad ha
    cases a with
    | none => cases ha
    | some a0 =>
      have := h5 a0 rfl
      simp only [Option.map_some, Option.some.injEq] at ha
      subst ha
      unfold Addr.add
      split
      · exact this
      · exact ⟨rfl, this.2⟩
  obtain ⟨b', o', he, hcell⟩ := h4 (k + i) u (by rw [← hu]; simp)
  cases he
  exact ⟨b', o' + k, by simp [add_plain'], by rw [Nat.add_assoc]; exact hcell⟩

theorem BytesAt.drop0 {w : World} {a : Option Addr} {n c k : Nat} {l : List UInt8} (h : BytesAt w (.slice a n c) l) (hk : c = k) : BytesAt w (.slice a (l.length - k) 0) (l.drop k) := by
  obtain ⟨_, a', c', hv, h1, h2, h3, h5, h4⟩ := h
  cases hv
  subst hk
  have : l.drop c = [] := List.drop_eq_nil_of_le h1
  rw [this]
  exact ⟨rfl, a, 0, by simp; omega, Nat.le_refl _, by unfold maxLen; omega, fun _ => rfl, h5, fun i u hu => by simp at hu⟩

theorem ownBlock_map {a : Option Addr} {n c n' c' k : Nat} : (Value.slice (Option.map (fun x => x.add k) a) n' c').ownBlock = (Value.slice a n c).ownBlock := by
  cases a with
  | none => rfl
  | some a => simp [Value.ownBlock, Addr.add]; split <;> rfl
theorem ownBlock_same {a : Option Addr} {n c n' c' : Nat} : (Value.slice a n' c').ownBlock = (Value.slice a n c).ownBlock := by
  cases a <;> rfl

theorem assert_errno (e : Int) (w : World) : (Instr.typeAssert (.iface 43 (.int .i64 e)) 20 43 true).run Tryz.prog w = .ok (.tuple #[.int .i64 e, .bool true]) w := by kernel_rfl

def InIs (w : World) (b : Nat) (l : List UInt8) (err : Nat) : Prop :=
  ∃ v, w.heap[b]? = some (.cells #[v, .int .i64 (err : Int)] 99 (0, 0)) ∧ BytesAt w v l ∧ v.ownBlock ≠ some b

def errChain (e : Nat) : List PanicEntry := [{ v := .iface 43 (.int .i64 (e : Int)), recovered := false }]
def errChainR (e : Nat) : List PanicEntry := [{ v := .iface 43 (.int .i64 (e : Int)), recovered := true }]

theorem caught_idle (b : Nat) (w : World) :
    CallsD Tryz.prog 93 #[.pointer (some ⟨b, 0, none⟩)] .returning w fun en u' w' => en = .returned (.tuple #[]) ∧ u' = .returning ∧ w = w' := by
  refine callsD_of_wpS Tryz.func93 rfl fun c₀ cs hu => ?_
  apply wpS_seq
  apply wpS_region
  simp [wpOpsS, go_sem, recoverD, hu, Tryz.ntmps93, Exit.thenS, Array.replicate_succ]
  rw [show c₀ = { c₀ with mode := .returning } from by cases c₀; simp_all]
  apply wpS_body
  go_wp2
  go_end0
  exact ⟨rfl, rfl⟩

set_option maxHeartbeats 800000 in
theorem cut_short (b n : Nat) (l : List UInt8) (e : Nat) (w : World) (hn : l.length < n) (h : InIs w b l e) :
    Calls Tryz.prog 94 #[.pointer (some ⟨b, 0, none⟩), .int .i64 (n : Int)] w fun en w' => en = .panicked (errChain 4) ∧ w = w' := by
  obtain ⟨v, hb, hv, hne⟩ := h
  obtain ⟨a, c, rfl, hc1, hc2, hc3⟩ := hv.form
  have hc0 := block_cell hb 0
  have hf0 := block_free hb 0
  simp at hc0
  unfold maxLen at hc2
  replace hb := hid hb
  go_enter Tryz.func94, Tryz.ntmps94
  go_wp2
  exact ⟨rfl, rfl, rfl⟩
def leN : List UInt8 → Nat
  | [] => 0
  | c :: t => c.toNat + 256 * leN t

def takeV (n : Nat) (l : List UInt8) (e : Nat) : Nat := if e ≠ 0 then 0 else if l.length < n then 0 else leN (l.take n)
def restL (n : Nat) (l : List UInt8) (e : Nat) : List UInt8 := if e ≠ 0 then l else if l.length < n then l else l.drop n
def restE (n : Nat) (l : List UInt8) (e : Nat) : Nat := if e ≠ 0 then e else if l.length < n then 4 else 0
def rawL (n : Nat) (l : List UInt8) (e : Nat) : List UInt8 := if e ≠ 0 then [] else if l.length < n then [] else l.take n

theorem leN_lt : ∀ l : List UInt8, leN l < 256 ^ l.length
  | [] => by simp [leN]
  | c :: t => by
    have h1 := c.toNat_lt
    have h2 := leN_lt t
    simp only [leN, List.length_cons, Nat.pow_succ]
    omega

theorem leN_snoc : ∀ (l : List UInt8) (c : UInt8), leN (l ++ [c]) = leN l + c.toNat * 256 ^ l.length
  | [], c => by simp [leN]
  | d :: t, c => by
    rw [List.cons_append]
    simp only [leN, leN_snoc t c, List.length_cons, Nat.pow_succ]
    have : c.toNat * (256 ^ t.length * 256) = 256 * (c.toNat * 256 ^ t.length) := by rw [← Nat.mul_assoc, Nat.mul_comm]
    omega

theorem InIs.parts {w : World} {b : Nat} {l : List UInt8} {e : Nat} (h : InIs w b l e) : ∃ v, w.cell? ⟨b, 0, none⟩ = some v ∧ w.cell? ⟨b, 0 + 1, none⟩ = some (.int .i64 (e : Int)) ∧ BytesAt w v l := by
  obtain ⟨v, hb, hv, _⟩ := h
  exact ⟨v, block_cell hb 0, block_cell hb 1, hv⟩

theorem in_err_any (b : Nat) (l : List UInt8) (e : Nat) (w : World) (h : InIs w b l e) :
    Calls Tryz.prog 95 #[.pointer (some ⟨b, 0, none⟩)] w fun en w' => en = .returned (.int .i64 (e : Int)) ∧ w = w' := by
  obtain ⟨v, h0, h1, _⟩ := h.parts
  go_enter Tryz.func95, Tryz.ntmps95
  go_wp2
  go_ret
  exact ⟨rfl, rfl⟩

def leftN (l : List UInt8) (e : Nat) : Nat := if e ≠ 0 then 0 else l.length

theorem in_left_any (b : Nat) (l : List UInt8) (e : Nat) (w : World) (h : InIs w b l e) :
    Calls Tryz.prog 64 #[.pointer (some ⟨b, 0, none⟩)] w fun en w' => en = .returned (.int .i64 (leftN l e : Int)) ∧ w = w' := by
  obtain ⟨v, h0, h1, hv⟩ := h.parts
  obtain ⟨a, c, rfl, hc1, hc2, hc3⟩ := hv.form
  unfold maxLen at hc2
  by_cases he : e = 0
  · subst he
    go_enter Tryz.func64, Tryz.ntmps64
    go_wp2
    go_ret
    exact ⟨by simp [leftN], rfl⟩
  · have k0 : ((e : Int) != 0) = true := by simpa using he
    have E := hid (show leftN l e = 0 by unfold leftN; rw [if_pos he])
    clear he
    go_enter Tryz.func64, Tryz.ntmps64
    go_wp2
    go_ret
    exact ⟨by rw [E.out]; rfl, rfl⟩

theorem or_take {k v c : Nat} (hv : v < 256 ^ k) (hc : c < 256) (hk : k < 8) : bits .or .u64 (v : Int) (((c * 256 ^ k : Nat) : Int)) = ((v + c * 256 ^ k : Nat) : Int) := by
  have h8 : (256 : Nat) ^ k = 2 ^ (8 * k) := by rw [Nat.pow_mul]
  have hx : v ||| c * 256 ^ k = v + c * 256 ^ k := by
    have := Nat.shiftLeft_add_eq_or_of_lt (i := 8 * k) (b := v) (by rw [← h8]; exact hv) c
    rw [Nat.shiftLeft_eq, ← h8] at this
    rw [Nat.or_comm, ← this, Nat.add_comm]
  have hle : 256 ^ (k + 1) ≤ 256 ^ 8 := Nat.pow_le_pow_right (by omega) (by omega)
  have hlt : v + c * 256 ^ k < 256 ^ (k + 1) := by
    have : (c + 1) * 256 ^ k ≤ 256 * 256 ^ k := Nat.mul_le_mul_right _ (by omega)
    rw [Nat.add_mul, Nat.one_mul] at this
    have h2 : (256 : Nat) ^ (k + 1) = 256 * 256 ^ k := by rw [Nat.pow_succ, Nat.mul_comm]
    omega
  have h9 : (256 : Nat) ^ 8 = 18446744073709551616 := by decide
  have hm : c * 256 ^ k < 18446744073709551616 := by omega
  rw [u64_or_nat v _ (by omega) hm, hx]

theorem or_take' {k v c : Nat} (hv : v < 256 ^ k) (hc : c < 256) (hk : k < 8) : bits .or .u64 (v : Int) (IntKind.u64.wrap (IntKind.u64.wrap (c : Int) * 2 ^ (8 * k))) = ((v + c * 256 ^ k : Nat) : Int) := by
  rw [← or_take hv hc hk]
  congr 1
  have hw : ∀ n : Int, IntKind.u64.wrap n = n % 18446744073709551616 := fun n => by simp [IntKind.wrap, IntKind.bits, IntKind.signed]
  have h8 : (256 : Nat) ^ k = 2 ^ (8 * k) := by rw [Nat.pow_mul]
  have hle : 256 ^ (k + 1) ≤ 256 ^ 8 := Nat.pow_le_pow_right (by omega) (by omega)
  have h9 : (256 : Nat) ^ 8 = 18446744073709551616 := by decide
  have h10 : c * 256 ^ k < 256 ^ (k + 1) := by
    rw [Nat.pow_succ, Nat.mul_comm]
    exact Nat.mul_lt_mul_of_pos_left hc (Nat.pow_pos (by omega))
  rw [hw (c : Int), Int.emod_eq_of_lt (by omega) (by omega), hw]
  rw [show (2 : Int) ^ (8 * k) = ((256 ^ k : Nat) : Int) from by rw [h8]; push_cast; rfl]
  rw [← Int.natCast_mul]
  exact Int.emod_eq_of_lt (by omega) (by omega)

theorem InIs.below {w w' : World} {b : Nat} {l : List UInt8} {e : Nat} (h : InIs w b l e) (hb : Below w.heap.size w w') : InIs w' b l e := by
  obtain ⟨v, h1, h2, h3⟩ := h
  exact ⟨v, (hb.block b (lt_of_block h1)).trans h1, h2.below hb, h3⟩
theorem InIs.lt {w : World} {b : Nat} {l : List UInt8} {e : Nat} (h : InIs w b l e) : b < w.heap.size := by
  obtain ⟨v, h1, _⟩ := h
  exact lt_of_block h1

end
end Go.Proofs.YtpmlhmficmillaaGreat
