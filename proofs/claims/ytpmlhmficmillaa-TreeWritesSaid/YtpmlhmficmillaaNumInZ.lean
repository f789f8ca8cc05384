/- What num.Of and the methods of num.In do, under bounds on lengths that each theorem names. No further condition. -/
import Derived.Test.YtpmlhmficmillaaNumZ
import Derived.Recover
namespace Go.Proofs.Ytpmlhmficmillaa
open Go.RowKit
set_option maxRecDepth 100000

theorem block_cell {w : World} {b : Nat} {cs : Array Value} {t : TypeId} {fr : Nat × Nat} (h : w.heap[b]? = some (.cells cs t fr)) (i : Nat) : w.cell? ⟨b, i, none⟩ = cs[i]? := by simp [World.cell?, h]
theorem block_free {w : World} {b : Nat} {cs : Array Value} {t : TypeId} (h : w.heap[b]? = some (.cells cs t (0, 0))) (i : Nat) : w.frozen? ⟨b, i, none⟩ = false := by simp [World.frozen?, h]
theorem block_set {w : World} {b : Nat} {cs : Array Value} {t : TypeId} {fr : Nat × Nat} (h : w.heap[b]? = some (.cells cs t fr)) (i : Nat) (u : Value) : (w.setCell ⟨b, i, none⟩ u).heap[b]? = some (.cells (cs.setIfInBounds i u) t fr) := by
  have hlt := lt_of_block h
  have h' : w.heap[b] = .cells cs t fr := by simpa [Array.getElem?_eq_getElem hlt] using h
  show (w.heap.modify b _)[b]? = _
  rw [Array.getElem?_modify, if_pos rfl, h]
  rfl
theorem block_set_other {w : World} {b : Nat} {p : Addr} {u : Value} (hne : b ≠ p.block) : (w.setCell p u).heap[b]? = w.heap[b]? := Below.heap_setCell _ _ _ _ hne

theorem RowAt.other {w w' : World} {k n : Nat} {v : Value} {xs : List Value} (h : RowAt w k v n xs) (hsz : w.heap.size ≤ w'.heap.size) (hk : ∀ j, v.ownBlock = some j → w'.heap[j]? = w.heap[j]?) : RowAt w' k v n xs := by
  obtain ⟨hl, a, c, rfl, h1, h2, h3, h5, h4⟩ := h
  refine ⟨hl, a, c, rfl, h1, h2, h3, fun ad ha => ⟨(h5 ad ha).1, Nat.lt_of_lt_of_le (h5 ad ha).2 hsz⟩, fun i u hu => ?_⟩
  obtain ⟨b, o, rfl, hc⟩ := h4 i u hu
  refine ⟨b, o, rfl, ?_⟩
  rw [World.cell?_of_block (w := w) (hk b rfl)]; exact hc
theorem BytesAt.setCell {w : World} {v : Value} {l : List UInt8} (h : BytesAt w v l) {p : Addr} (u : Value) (hne : v.ownBlock ≠ some p.block) : BytesAt (w.setCell p u) v l :=
  RowAt.other h (by simp [World.setCell]) fun j hj => block_set_other fun e => hne (by rw [hj, e])

theorem BytesAt.drop1 {w : World} {a : Option Addr} {n c : Nat} {l : List UInt8} (h : BytesAt w (.slice a n c) l) (k : Nat) (hk : k ≤ l.length) : BytesAt w (.slice (Option.map (fun x => x.add k) a) (l.length - k) (c - k)) (l.drop k) := by
  obtain ⟨_, a', c', hv, h1, h2, h3, h5, h4⟩ := h
  cases hv
  refine ⟨by simp, Option.map (fun x => x.add k) a, c - k, by simp, by simp; omega, by omega, ?_, ?_, fun i u hu => ?_⟩
  · cases a with
    | none => intro _; have := h3 rfl; omega
    | some a => intro h; cases h
  · intro ad ha
    cases a with
    | none => cases ha
    | some a0 =>
      have := h5 a0 rfl
      simp only [Option.map_some, Option.some.injEq] at ha
      subst ha
      unfold Addr.add
      split
      · exact this
      · exact ⟨rfl, this.2⟩
  obtain ⟨b', o', he, hcell⟩ := h4 (k + i) u (by rw [← hu]; simp)
  cases he
  exact ⟨b', o' + k, by simp [add_plain'], by rw [Nat.add_assoc]; exact hcell⟩

theorem BytesAt.drop0 {w : World} {a : Option Addr} {n c k : Nat} {l : List UInt8} (h : BytesAt w (.slice a n c) l) (hk : c = k) : BytesAt w (.slice a (l.length - k) 0) (l.drop k) := by
  obtain ⟨_, a', c', hv, h1, h2, h3, h5, h4⟩ := h
  cases hv
  subst hk
  have : l.drop c = [] := List.drop_eq_nil_of_le h1
  rw [this]
  exact ⟨rfl, a, 0, by simp; omega, Nat.le_refl _, by unfold maxLen; omega, fun _ => rfl, h5, fun i u hu => by simp at hu⟩

theorem ownBlock_map {a : Option Addr} {n c n' c' k : Nat} : (Value.slice (Option.map (fun x => x.add k) a) n' c').ownBlock = (Value.slice a n c).ownBlock := by
  cases a with
  | none => rfl
  | some a => simp [Value.ownBlock, Addr.add]; split <;> rfl
theorem ownBlock_same {a : Option Addr} {n c n' c' : Nat} : (Value.slice a n' c').ownBlock = (Value.slice a n c).ownBlock := by
  cases a <;> rfl

theorem assert_errno (e : Int) (w : World) : (Instr.typeAssert (.iface 45 (.int .i64 e)) 20 45 true).run Try.prog w = .ok (.tuple #[.int .i64 e, .bool true]) w := by kernel_rfl

/-- Block b is an In that has still to read the bytes l; err: what went wrong. -/
def InIs (w : World) (b : Nat) (l : List UInt8) (err : Nat) : Prop :=
  ∃ v, w.heap[b]? = some (.cells #[v, .int .i64 (err : Int)] 160 (0, 0)) ∧ BytesAt w v l ∧ v.ownBlock ≠ some b

/-- What an error is raised with. -/
def errChain (e : Nat) : List PanicEntry := [{ v := .iface 45 (.int .i64 (e : Int)), recovered := false }]
def errChainR (e : Nat) : List PanicEntry := [{ v := .iface 45 (.int .i64 (e : Int)), recovered := true }]

theorem caught_panicking (b : Nat) (l : List UInt8) (e0 e : Nat) (w : World) (h : InIs w b l e0) :
    CallsD Try.prog 135 #[.pointer (some ⟨b, 0, none⟩)] (.panicking (errChain e)) w fun en u' w' =>
      en = .returned (.tuple #[]) ∧ u' = .panicking (errChainR e) ∧ InIs w' b l e ∧ Below b w w' := by
  obtain ⟨v, hb, hl, hne⟩ := h
  have hc1 : w.cell? ⟨b, 0 + 1, none⟩ = some (.int .i64 (e0 : Int)) := block_cell hb 1
  have hf1 : w.frozen? ⟨b, 0 + 1, none⟩ = false := block_free hb 1
  have hst : InIs (w.setCell ⟨b, 0 + 1, none⟩ (.int .i64 (e : Int))) b l e := ⟨v, block_set hb 1 _, hl.setCell _ hne, hne⟩
  have hbs := (Below.refl b w).setCell (p := ⟨b, 0 + 1, none⟩) (Nat.le_refl _) (.int .i64 (e : Int))
  clear hb
  have hta := assert_errno
  refine callsD_of_wpS Try.func135 rfl fun c₀ cs hu => ?_
  apply wpS_seq
  apply wpS_region
  simp [wpOpsS, go_sem, recoverD, hu, errChain, Try.ntmps135, Exit.thenS, Array.replicate_succ]
  apply wpS_body
  go_wp2
  go_end0
  exact ⟨rfl, rfl, hst, hbs⟩

theorem caught_idle (b : Nat) (w : World) :
    CallsD Try.prog 135 #[.pointer (some ⟨b, 0, none⟩)] .returning w fun en u' w' => en = .returned (.tuple #[]) ∧ u' = .returning ∧ w = w' := by
  refine callsD_of_wpS Try.func135 rfl fun c₀ cs hu => ?_
  apply wpS_seq
  apply wpS_region
  simp [wpOpsS, go_sem, recoverD, hu, Try.ntmps135, Exit.thenS, Array.replicate_succ]
  rw [show c₀ = { c₀ with mode := .returning } from by cases c₀; simp_all]
  apply wpS_body
  go_wp2
  go_end0
  exact ⟨rfl, rfl⟩

/-- What cutting hands back. -/
def CutPost (w : World) (b : Nat) (l : List UInt8) (n e : Nat) (en : Ending) (w' : World) : Prop :=
  ∃ v', en = .returned v' ∧ BytesAt w' v' (l.take n) ∧ InIs w' b (l.drop n) e ∧ Below b w w'

set_option maxHeartbeats 800000 in
theorem cut_ok (b n : Nat) (l : List UInt8) (e : Nat) (w : World) (hn : n ≤ l.length) (_hl : l.length ≤ 1000000008) (h : InIs w b l e) :
    Calls Try.prog 136 #[.pointer (some ⟨b, 0, none⟩), .int .i64 (n : Int)] w (CutPost w b l n e) := by
  obtain ⟨v, hb, hv, hne⟩ := h
  obtain ⟨a, c, rfl, hc1, hc2, hc3⟩ := hv.form
  have hc0 := block_cell hb 0
  have hf0 := block_free hb 0
  simp at hc0
  unfold maxLen at hc2
  replace hb := hid hb
  by_cases hcn : c = n
  · have hst : InIs (w.setCell ⟨b, 0, none⟩ (.slice a (l.length - n) 0)) b (l.drop n) e :=
      ⟨_, block_set hb.out 0 _, (hv.drop0 hcn).setCell _ (by rw [ownBlock_same]; exact hne), by rw [ownBlock_same]; exact hne⟩
    have htk := (hv.take n n hn (Nat.le_refl _) (by omega)).setCell (p := ⟨b, 0, none⟩) (.slice a (l.length - n) 0) (by rw [ownBlock_same]; exact hne)
    have hbs := (Below.refl b w).setCell (p := ⟨b, 0, none⟩) (Nat.le_refl _) (.slice a (l.length - n) 0)
    go_enter Try.func136, Try.ntmps136
    go_wp2
    go_ret
    exact ⟨_, rfl, htk, hst, hbs⟩
  · have hst : InIs (w.setCell ⟨b, 0, none⟩ (.slice (Option.map (fun x => x.add n) a) (l.length - n) (c - n))) b (l.drop n) e :=
      ⟨_, block_set hb.out 0 _, (hv.drop1 n hn).setCell _ (by rw [ownBlock_map]; exact hne), by rw [ownBlock_map]; exact hne⟩
    have htk := (hv.take n c hn (by omega) (Nat.le_refl _)).setCell (p := ⟨b, 0, none⟩) (.slice (Option.map (fun x => x.add n) a) (l.length - n) (c - n)) (by rw [ownBlock_same]; exact hne)
    have hbs := (Below.refl b w).setCell (p := ⟨b, 0, none⟩) (Nat.le_refl _) (.slice (Option.map (fun x => x.add n) a) (l.length - n) (c - n))
    go_enter Try.func136, Try.ntmps136
    go_wp2
    go_ret
    exact ⟨_, rfl, htk, hst, hbs⟩

set_option maxHeartbeats 800000 in
theorem cut_short (b n : Nat) (l : List UInt8) (e : Nat) (w : World) (hn : l.length < n) (h : InIs w b l e) :
    Calls Try.prog 136 #[.pointer (some ⟨b, 0, none⟩), .int .i64 (n : Int)] w fun en w' => en = .panicked (errChain 4) ∧ w = w' := by
  obtain ⟨v, hb, hv, hne⟩ := h
  obtain ⟨a, c, rfl, hc1, hc2, hc3⟩ := hv.form
  have hc0 := block_cell hb 0
  have hf0 := block_free hb 0
  simp at hc0
  unfold maxLen at hc2
  replace hb := hid hb
  go_enter Try.func136, Try.ntmps136
  go_wp2
  exact ⟨rfl, rfl, rfl⟩
/-- A little-endian number. -/
def leN : List UInt8 → Nat
  | [] => 0
  | c :: t => c.toNat + 256 * leN t

def takeV (n : Nat) (l : List UInt8) (e : Nat) : Nat := if e ≠ 0 then 0 else if l.length < n then 0 else leN (l.take n)
def restL (n : Nat) (l : List UInt8) (e : Nat) : List UInt8 := if e ≠ 0 then l else if l.length < n then l else l.drop n
def restE (n : Nat) (l : List UInt8) (e : Nat) : Nat := if e ≠ 0 then e else if l.length < n then 4 else 0
def rawL (n : Nat) (l : List UInt8) (e : Nat) : List UInt8 := if e ≠ 0 then [] else if l.length < n then [] else l.take n

theorem leN_lt : ∀ l : List UInt8, leN l < 256 ^ l.length
  | [] => by simp [leN]
  | c :: t => by
    have h1 := c.toNat_lt
    have h2 := leN_lt t
    simp only [leN, List.length_cons, Nat.pow_succ]
    omega

theorem leN_snoc : ∀ (l : List UInt8) (c : UInt8), leN (l ++ [c]) = leN l + c.toNat * 256 ^ l.length
  | [], c => by simp [leN]
  | d :: t, c => by
    rw [List.cons_append]
    simp only [leN, leN_snoc t c, List.length_cons, Nat.pow_succ]
    have : c.toNat * (256 ^ t.length * 256) = 256 * (c.toNat * 256 ^ t.length) := by rw [← Nat.mul_assoc, Nat.mul_comm]
    omega

theorem InIs.parts {w : World} {b : Nat} {l : List UInt8} {e : Nat} (h : InIs w b l e) : ∃ v, w.cell? ⟨b, 0, none⟩ = some v ∧ w.cell? ⟨b, 0 + 1, none⟩ = some (.int .i64 (e : Int)) ∧ BytesAt w v l := by
  obtain ⟨v, hb, hv, _⟩ := h
  exact ⟨v, block_cell hb 0, block_cell hb 1, hv⟩

theorem in_err_any (b : Nat) (l : List UInt8) (e : Nat) (w : World) (h : InIs w b l e) :
    Calls Try.prog 137 #[.pointer (some ⟨b, 0, none⟩)] w fun en w' => en = .returned (.int .i64 (e : Int)) ∧ w = w' := by
  obtain ⟨v, h0, h1, _⟩ := h.parts
  go_enter Try.func137, Try.ntmps137
  go_wp2
  go_ret
  exact ⟨rfl, rfl⟩

def leftN (l : List UInt8) (e : Nat) : Nat := if e ≠ 0 then 0 else l.length

theorem in_left_any (b : Nat) (l : List UInt8) (e : Nat) (w : World) (h : InIs w b l e) :
    Calls Try.prog 113 #[.pointer (some ⟨b, 0, none⟩)] w fun en w' => en = .returned (.int .i64 (leftN l e : Int)) ∧ w = w' := by
  obtain ⟨v, h0, h1, hv⟩ := h.parts
  obtain ⟨a, c, rfl, hc1, hc2, hc3⟩ := hv.form
  unfold maxLen at hc2
  by_cases he : e = 0
  · subst he
    go_enter Try.func113, Try.ntmps113
    go_wp2
    go_ret
    exact ⟨by simp [leftN], rfl⟩
  · have k0 : ((e : Int) != 0) = true := by simpa using he
    have E := hid (show leftN l e = 0 by unfold leftN; rw [if_pos he])
    clear he
    go_enter Try.func113, Try.ntmps113
    go_wp2
    go_ret
    exact ⟨by rw [E.out]; rfl, rfl⟩

def OfPost (w : World) (l : List UInt8) (en : Ending) (w' : World) : Prop := ∃ b, en = .returned (.pointer (some ⟨b, 0, none⟩)) ∧ w.heap.size ≤ b ∧ InIs w' b l 0 ∧ Below w.heap.size w w'

theorem in_of_any (v : Value) (l : List UInt8) (w : World) (h : BytesAt w v l) (hl : l.length ≤ 1000000008) :
    Calls Try.prog 92 #[v] w (OfPost w l) := by
  go_enter Try.func92, Try.ntmps92
  go_wp2_with fail
  refine (clone_any v l w h hl).mono ?_
  rintro e w1 ⟨v1, rfl, h1, hb1⟩
  obtain ⟨a, c, rfl, hc1, hc2, hc3⟩ := h1.form
  go_wp2
  go_ret
  have h1' := h1.below ((Below.refl w1.heap.size w1).alloc (Nat.le_refl _) (.cells #[.slice a l.length c, .int .i64 0] 160))
  refine ⟨w1.heap.size, rfl, hb1.size, ⟨_, heap_alloc_new _ _, h1', ?_⟩, hb1.alloc hb1.size _⟩
  intro he
  exact absurd (h1.lt he) (Nat.lt_irrefl _)

theorem or_take {k v c : Nat} (hv : v < 256 ^ k) (hc : c < 256) (hk : k < 8) : bits .or .u64 (v : Int) (((c * 256 ^ k : Nat) : Int)) = ((v + c * 256 ^ k : Nat) : Int) := by
  have h8 : (256 : Nat) ^ k = 2 ^ (8 * k) := by rw [Nat.pow_mul]
  have hx : v ||| c * 256 ^ k = v + c * 256 ^ k := by
    have := Nat.shiftLeft_add_eq_or_of_lt (i := 8 * k) (b := v) (by rw [← h8]; exact hv) c
    rw [Nat.shiftLeft_eq, ← h8] at this
    rw [Nat.or_comm, ← this, Nat.add_comm]
  have hle : 256 ^ (k + 1) ≤ 256 ^ 8 := Nat.pow_le_pow_right (by omega) (by omega)
  have hlt : v + c * 256 ^ k < 256 ^ (k + 1) := by
    have : (c + 1) * 256 ^ k ≤ 256 * 256 ^ k := Nat.mul_le_mul_right _ (by omega)
    rw [Nat.add_mul, Nat.one_mul] at this
    have h2 : (256 : Nat) ^ (k + 1) = 256 * 256 ^ k := by rw [Nat.pow_succ, Nat.mul_comm]
    omega
  have h9 : (256 : Nat) ^ 8 = 18446744073709551616 := by decide
  have hm : c * 256 ^ k < 18446744073709551616 := by omega
  rw [u64_or_nat v _ (by omega) hm, hx]

theorem or_take' {k v c : Nat} (hv : v < 256 ^ k) (hc : c < 256) (hk : k < 8) : bits .or .u64 (v : Int) (IntKind.u64.wrap (IntKind.u64.wrap (c : Int) * 2 ^ (8 * k))) = ((v + c * 256 ^ k : Nat) : Int) := by
  rw [← or_take hv hc hk]
  congr 1
  have hw : ∀ n : Int, IntKind.u64.wrap n = n % 18446744073709551616 := fun n => by simp [IntKind.wrap, IntKind.bits, IntKind.signed]
  have h8 : (256 : Nat) ^ k = 2 ^ (8 * k) := by rw [Nat.pow_mul]
  have hle : 256 ^ (k + 1) ≤ 256 ^ 8 := Nat.pow_le_pow_right (by omega) (by omega)
  have h9 : (256 : Nat) ^ 8 = 18446744073709551616 := by decide
  have h10 : c * 256 ^ k < 256 ^ (k + 1) := by
    rw [Nat.pow_succ, Nat.mul_comm]
    exact Nat.mul_lt_mul_of_pos_left hc (Nat.pow_pos (by omega))
  rw [hw (c : Int), Int.emod_eq_of_lt (by omega) (by omega), hw]
  rw [show (2 : Int) ^ (8 * k) = ((256 ^ k : Nat) : Int) from by rw [h8]; push_cast; rfl]
  rw [← Int.natCast_mul]
  exact Int.emod_eq_of_lt (by omega) (by omega)

set_option maxHeartbeats 1200000 in
theorem in_take_any (b n : Nat) (l : List UInt8) (e : Nat) (w : World) (hn1 : 1 ≤ n) (hn8 : n ≤ 8) (hl : l.length ≤ 1000000008) (h : InIs w b l e) :
    Calls Try.prog 124 #[.pointer (some ⟨b, 0, none⟩), .int .i64 (n : Int)] w fun en w' => en = .returned (.int .u64 (takeV n l e : Int)) ∧ InIs w' b (restL n l e) (restE n l e) ∧ Below b w w' := by
  obtain ⟨v, h0, h1, hv⟩ := h.parts
  by_cases he : e = 0
  · subst he
    by_cases hs : l.length < n
    · have E1 := hid (show takeV n l 0 = 0 by simp [takeV, hs])
      have E2 := hid (show restL n l 0 = l by simp [restL, hs])
      have E3 := hid (show restE n l 0 = 4 by simp [restE, hs])
      go_enter_defers Try.func124, Try.ntmps124
      go_wp2_with fail
      refine (cut_short b n l 0 w hs h).mono ?_
      rintro en w' ⟨rfl, rfl⟩
      go_wp2_with fail
      refine leaves_cons (f := 135) (args := #[.pointer (some ⟨b, 0, none⟩)]) (by simp) (by simp [go_sem]) ?_
      refine (caught_panicking b l 0 4 _ h).mono ?_
      rintro en u' w'' ⟨rfl, rfl, hi, hbb⟩
      simp only [settle, errChainR]
      exact ⟨_, results_tmp rfl _ _ _, by rw [E1.out]; rfl, by rw [E2.out, E3.out]; exact hi, hbb⟩
    · have E1 := hid (show takeV n l 0 = leN (l.take n) by simp [takeV, hs])
      have E2 := hid (show restL n l 0 = l.drop n by simp [restL, hs])
      have E3 := hid (show restE n l 0 = 0 by simp [restE, hs])
      have hle : n ≤ l.length := by omega
      go_enter_defers Try.func124, Try.ntmps124
      go_wp2_with fail
      refine (cut_ok b n l 0 w hle hl h).mono ?_
      rintro en w1 ⟨v1, rfl, hv1, hi1, hb1⟩
      have hlen : (l.take n).length = n := by simp; omega
      obtain ⟨a1, c1, rfl, hc1, hc2, hc3⟩ := hv1.form
      have HL := hid hlen
      clear hlen
      go_wp2_with fail
      generalize hLL : l.take n = L at *
      replace hLL := hid hLL
      obtain rfl : n = L.length := HL.out.symm
      go_loop [4, 24] (fun x i => ∃ k : Nat, k ≤ L.length ∧ i = .int .i64 (k : Int) ∧ x = .int .u64 (leN (L.take k) : Int)) (fun _ i => L.length - (intOf i).toNat)
      case atStart => exact ⟨0, by omega, rfl, rfl⟩
      case round =>
        obtain ⟨k, hk, rfl, rfl⟩ := hrel
        by_cases hlt : k < L.length
        · obtain ⟨bb, o, rfl, hcell⟩ := hv1.cell k hlt
          have hsn : L.take (k + 1) = L.take k ++ [L[k]] := List.take_succ_eq_append_getElem hlt
          have hkl : (L.take k).length = k := by simp; omega
          have hb0 := leN_lt (L.take k)
          rw [hkl] at hb0
          have hor := hid (or_take' hb0 L[k].toNat_lt (show k < 8 by omega))
          have hfin : Hid (leN (L.take (k + 1)) = leN (L.take k) + L[k].toNat * 256 ^ k) := hid (by rw [hsn, leN_snoc, hkl])
          clear hsn hkl hb0
          go_wp2
          go_round
          case rel => exact ⟨k + 1, by omega, by go_num, by rw [hor.out, hfin.out]⟩
          case measure => simp [intOf]; omega
        · obtain rfl : k = L.length := by omega
          rw [List.take_length]
          go_wp2
          refine leaves_cons (f := 135) (args := #[.pointer (some ⟨b, 0, none⟩)]) (by simp) (by simp [go_sem]) ?_
          refine (caught_idle b _).mono ?_
          rintro en u' w'' ⟨rfl, rfl, rfl⟩
          simp only [settle]
          exact ⟨_, results_tmp rfl _ _ _, by rw [E1.out]; rfl, by rw [E2.out, E3.out]; exact hi1, hb1⟩

  · have E1 := hid (show takeV n l e = 0 by simp [takeV, he])
    have E2 := hid (show restL n l e = l by simp [restL, he])
    have E3 := hid (show restE n l e = e by simp [restE, he])
    have k0 : ((e : Int) != 0) = true := by simpa using he
    clear he
    go_enter_defers Try.func124, Try.ntmps124
    go_wp2_with fail
    simp only [bodyPostD, Leaves]
    exact ⟨_, results_tmp rfl _ _ _, by rw [E1.out]; rfl, by rw [E2.out, E3.out]; exact h, Below.refl _ _⟩
def RawPost (w : World) (b : Nat) (l : List UInt8) (n e : Nat) (en : Ending) (w' : World) : Prop :=
  ∃ v', en = .returned v' ∧ BytesAt w' v' (rawL n l e) ∧ InIs w' b (restL n l e) (restE n l e) ∧ Below b w w'

theorem InIs.below {w w' : World} {b : Nat} {l : List UInt8} {e : Nat} (h : InIs w b l e) (hb : Below w.heap.size w w') : InIs w' b l e := by
  obtain ⟨v, h1, h2, h3⟩ := h
  exact ⟨v, (hb.block b (lt_of_block h1)).trans h1, h2.below hb, h3⟩
theorem InIs.lt {w : World} {b : Nat} {l : List UInt8} {e : Nat} (h : InIs w b l e) : b < w.heap.size := by
  obtain ⟨v, h1, _⟩ := h
  exact lt_of_block h1

set_option maxHeartbeats 1200000 in
theorem in_raw_any (b n : Nat) (l : List UInt8) (e : Nat) (w : World) (hn : n < 9223372036854775808) (hl : l.length ≤ 1000000008) (h : InIs w b l e) :
    Calls Try.prog 138 #[.pointer (some ⟨b, 0, none⟩), .int .i64 (n : Int)] w (RawPost w b l n e) := by
  obtain ⟨v, h0, h1, hv⟩ := h.parts
  by_cases he : e = 0
  · subst he
    by_cases hs : l.length < n
    · have E1 := hid (show rawL n l 0 = [] by simp [rawL, hs])
      have E2 := hid (show restL n l 0 = l by simp [restL, hs])
      have E3 := hid (show restE n l 0 = 4 by simp [restE, hs])
      go_enter_defers Try.func138, Try.ntmps138
      go_wp2_with fail
      refine (cut_short b n l 0 w hs h).mono ?_
      rintro en w' ⟨rfl, rfl⟩
      go_wp2_with fail
      refine leaves_cons (f := 135) (args := #[.pointer (some ⟨b, 0, none⟩)]) (by simp) (by simp [go_sem]) ?_
      refine (caught_panicking b l 0 4 _ h).mono ?_
      rintro en u' w'' ⟨rfl, rfl, hi, hbb⟩
      simp only [settle, errChainR]
      exact ⟨_, results_tmp rfl _ _ _, _, rfl, by rw [E1.out]; exact RowAt.nil, by rw [E2.out, E3.out]; exact hi, hbb⟩
    · have E1 := hid (show rawL n l 0 = l.take n by simp [rawL, hs])
      have E2 := hid (show restL n l 0 = l.drop n by simp [restL, hs])
      have E3 := hid (show restE n l 0 = 0 by simp [restE, hs])
      have hle : n ≤ l.length := by omega
      go_enter_defers Try.func138, Try.ntmps138
      go_wp2_with fail
      refine (cut_ok b n l 0 w hle hl h).mono ?_
      rintro en w1 ⟨v1, rfl, hv1, hi1, hb1⟩
      go_wp2_with fail
      refine (clone_any v1 (l.take n) w1 hv1 (by simp; omega)).mono ?_
      rintro en w2 ⟨v2, rfl, hv2, hb2⟩
      go_wp2_with fail
      refine (clip_any v2 (l.take n) w2 hv2).mono ?_
      rintro en w3 ⟨v3, rfl, hv3, rfl⟩
      go_wp2_with fail
      refine leaves_cons (f := 135) (args := #[.pointer (some ⟨b, 0, none⟩)]) (by simp) (by simp [go_sem]) ?_
      refine (caught_idle b _).mono ?_
      rintro en u' w'' ⟨rfl, rfl, rfl⟩
      simp only [settle]
      exact ⟨_, results_tmp rfl _ _ _, _, rfl, by rw [E1.out]; exact hv3, by rw [E2.out, E3.out]; exact hi1.below hb2, hb1.trans (hb2.mono (Nat.le_of_lt hi1.lt))⟩
  · have E1 := hid (show rawL n l e = [] by simp [rawL, he])
    have E2 := hid (show restL n l e = l by simp [restL, he])
    have E3 := hid (show restE n l e = e by simp [restE, he])
    have k0 : ((e : Int) != 0) = true := by simpa using he
    clear he
    go_enter_defers Try.func138, Try.ntmps138
    go_wp2_with fail
    simp only [bodyPostD, Leaves]
    exact ⟨_, results_tmp rfl _ _ _, _, rfl, by rw [E1.out]; exact RowAt.nil, by rw [E2.out, E3.out]; exact h, Below.refl _ _⟩
end Go.Proofs.Ytpmlhmficmillaa
