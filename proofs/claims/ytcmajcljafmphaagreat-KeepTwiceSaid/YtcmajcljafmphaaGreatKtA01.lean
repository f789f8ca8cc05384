/- Small helpers for the walks of this seat. No condition. And the texts behind it. -/
import Derived.WalkKit
import Derived.WalkSpells
import Derived.WalkLawsBesides
import Derived.Deep.AppendLies
import Derived.Deep.RegionLaw
import Derived.BigRegion
import Derived.Test.YtcmajcljafmphaaGreatProg
namespace Go.Proofs.YtcmajcljafmphaaGreat
section
open Go.RowKit

theorem hid {p : Prop} (h : p) : Hid p := h

theorem ret_bool {a b : Bool} (h : a = b) : Ending.returned (.bool a) = .returned (.bool b) := by rw [h]

theorem wpS_body {P : Program} {fn : Func} {c₀ : Frame} {cs : List Frame} {u' : FrameMode} {R : Ending → FrameMode → World → Prop} {c : Code} {a : Act} {w : World}
    (h : c.wp P (bodyPost P fn (fun e w' => R e u' w')) a w) : c.wpS P (bodyPostS P fn c₀ cs R) a ({ c₀ with mode := u' } :: cs) w :=
  wpS_of_wp (Code.wp_mono (fun e a w q => by
    cases e with
    | normal => obtain ⟨hd, v, hv, hr⟩ := q; exact ⟨hd, u', rfl, v, hv, hr⟩
    | ret => obtain ⟨hd, v, hv, hr⟩ := q; exact ⟨hd, u', rfl, v, hv, hr⟩
    | panic chain => obtain ⟨hd, hr⟩ := q; exact ⟨hd, u', rfl, hr⟩
    | outgrown => exact ⟨u', q⟩
    | exit id => exact q.elim
    | goto l => exact q.elim) h)

theorem isEmpty_size (t : ByteArray) : t.toList.isEmpty = decide (t.size = 0) := by
  rw [← decide_eq_emptyBytes]
  refine decide_eq_decide.2 ⟨fun h => by subst h; rfl, fun h => ?_⟩
  obtain ⟨⟨l⟩⟩ := t
  have : l = [] := List.eq_nil_of_length_eq_zero h
  subst this; rfl
theorem str_empty {t : ByteArray} (h : t.size = 0) : t.toList.isEmpty = true ∧ (!t.toList.isEmpty) = false := by rw [isEmpty_size]; simp [h]
theorem str_full {t : ByteArray} (h : 0 < t.size) : t.toList.isEmpty = false ∧ (!t.toList.isEmpty) = true := by 
  rw [isEmpty_size, show decide (t.size = 0) = false from decide_eq_false (by omega)]; exact ⟨rfl, rfl⟩

end
end Go.Proofs.YtcmajcljafmphaaGreat

namespace Go.Proofs.YtcmajcljafmphaaGreat
section
open Go.RowKit

structure Keeps (w w' : World) : Prop where
  size : w.heap.size ≤ w'.heap.size
  cells : ∀ a u, w.cell? a = some u → w'.cell? a = some u

theorem Keeps.of_below {w w' : World} (h : Below w.heap.size w w') : Keeps w w' := ⟨h.size, fun a u hu => by
  rw [h.cell (World.block_lt_of_cell? w a hu)]; exact hu⟩
theorem Keeps.trans {a b c : World} (h : Keeps a b) (k : Keeps b c) : Keeps a c := ⟨Nat.le_trans h.size k.size, fun x u hu => k.cells x u (h.cells x u hu)⟩
theorem Keeps.refl (w : World) : Keeps w w := ⟨Nat.le_refl _, fun _ _ h => h⟩

theorem add_plain' {b o i : Nat} : (⟨b, o, none⟩ : Addr).add i = ⟨b, o + i, none⟩ := by unfold Addr.add; split <;> simp_all

def RowAt (w : World) (k : Nat) (v : Value) (n : Nat) (xs : List Value) : Prop :=
  xs.length = n * k ∧ ∃ a c, v = .slice a n c ∧ n ≤ c ∧ c ≤ maxLen ∧ (a = none → c = 0) ∧ (∀ ad, a = some ad → ad.spot = none ∧ ad.block < w.heap.size) ∧ ∀ i u, xs[i]? = some u → ∃ b o, a = some ⟨b, o, none⟩ ∧ w.cell? ⟨b, o + i, none⟩ = some u

theorem RowAt.keeps {w w' : World} {k n : Nat} {v : Value} {xs : List Value} (h : RowAt w k v n xs) (hk : Keeps w w') : RowAt w' k v n xs := by
  obtain ⟨hl, a, c, hv, h1, h2, h3, h5, h4⟩ := h
  refine ⟨hl, a, c, hv, h1, h2, h3, fun ad ha => ⟨(h5 ad ha).1, Nat.lt_of_lt_of_le (h5 ad ha).2 hk.size⟩, fun i u hu => ?_⟩
  obtain ⟨b, o, ha, hc⟩ := h4 i u hu
  exact ⟨b, o, ha, hk.cells _ _ hc⟩

theorem RowAt.below {w w' : World} {k n : Nat} {v : Value} {xs : List Value} (h : RowAt w k v n xs) (hb : Below w.heap.size w w') : RowAt w' k v n xs := h.keeps (.of_below hb)

theorem RowAt.of_own {w : World} {base e k n : Nat} {v : Value} {xs : List Value} (h : w.ownsRow base e k v n xs) : RowAt w k v n xs := by
  refine ⟨h.1, ?_⟩
  have hc := @World.ownsRow.cells w base e k v n xs h
  rcases h.2 with ⟨rfl, rfl⟩ | ⟨g, cap, cur, rfl, hb, hg, h1, h2, _, _⟩
  · refine ⟨none, 0, rfl, Nat.le_refl _, by unfold maxLen; omega, fun _ => rfl, fun _ h => (by cases h), fun i u hu => ?_⟩
    have : xs = [] := List.eq_nil_of_length_eq_zero (by simpa using h.1)
    subst this; simp at hu
  · refine ⟨_, cap, rfl, h1, h2, fun h => (by cases h), fun ad ha => (by cases ha; exact ⟨rfl, lt_of_block hg⟩), fun i u hu => ⟨g, 0, rfl, ?_⟩⟩
    have := hc (g := g) rfl i u hu
    rw [add_plain'] at this; exact this

theorem RowAt.nil {w : World} {k : Nat} : RowAt w k (.slice none 0 0) 0 [] := .of_own (base := 0) (e := 0) (World.ownsRow_nil w 0 0 k)


theorem RowAt.of_block {w : World} {b : Nat} {cs : Array Value} {e : TypeId} {fr : Nat × Nat} {k n : Nat} (h : w.heap[b]? = some (.cells cs e fr)) (hn : cs.size = n * k) (hm : n ≤ maxLen) :
    RowAt w k (.slice (some ⟨b, 0, none⟩) n n) n cs.toList :=
  ⟨by simpa using hn, _, n, rfl, Nat.le_refl _, hm, fun h => (by cases h), fun ad ha => (by cases ha; exact ⟨rfl, lt_of_block h⟩), fun i u hu => ⟨b, 0, rfl, by simp [World.cell?, h]; simpa using hu⟩⟩

theorem own_form {w : World} {base e k n : Nat} {v : Value} {xs : List Value} (h : w.ownsRow base e k v n xs) : ∃ a c, v = .slice a n c := by
  rcases h.2 with ⟨rfl, rfl⟩ | ⟨g, cap, cur, rfl, _⟩
  · exact ⟨_, _, rfl⟩
  · exact ⟨_, _, rfl⟩

theorem run_append_row {P : Program} (w : World) (base : Nat) (t ty e : TypeId) (i : TypeInfo) (z : Value) (size bytes : Nat) (ht : P.underlying t = some (.slice e)) (hi : P.info? e = some i) (hz : i.zero = some z)
    (hsize : i.size = size) (hby : i.bytes = bytes) (hzs : z.cells.size = size) (hsz : 0 < size)
    (v : Value) (n : Nat) (xs : List Value) (hown : w.ownsRow base e size v n xs)
    (sv : Value) (m : Nat) (news : List Value) (hsrc : RowAt w size sv m news) (h1 : ∀ u ∈ news, u.oneCell' = true)
    (h63 : n + m ≤ maxLen) (hbytes : (n + m) * bytes ≤ 140737488355328) (hbase : base ≤ w.heap.size) :
    ∃ a' c' w', (Builtin.append_ #[t, t] ty #[v, sv]).run P w = .ok (.slice a' (n + m) c') w' ∧ w'.ownsRow base e size (.slice a' (n + m) c') (n + m) (xs ++ news) ∧ w.grownBy w' v.ownBlock := by
  obtain ⟨hl, a, c, rfl, hc1, hc2, hc3, _, hcell⟩ := hsrc
  cases a with
  | some ad =>
    have hnews : ∀ j u, news[j]? = some u → w.cell? (ad.add j) = some u := fun j u hu => by
      obtain ⟨b, o, hb, hcc⟩ := hcell j u hu
      cases hb
      rw [add_plain']; exact hcc
    obtain ⟨v', w', hr, ho, hg, _⟩ := run_append_own (P := P) w base t ty e i z size bytes ht hi hz hsize hby hzs hsz v n xs hown ad m c news hl hnews h1 h63 hbytes hbase
    obtain ⟨a', c', rfl⟩ := own_form ho
    exact ⟨a', c', w', hr, ho, hg⟩
  | none =>
    have hc0 := hc3 rfl
    obtain rfl : c = 0 := hc0
    obtain rfl : m = 0 := by omega
    have : news = [] := List.eq_nil_of_length_eq_zero (by simpa using hl)
    subst this
    obtain ⟨a', c', rfl⟩ := own_form hown
    refine ⟨a', c', w, ?_, by simpa using hown, ⟨rfl, rfl, rfl, Nat.le_refl _, fun _ _ _ => rfl⟩⟩
    subst hsize
    rcases hown.2 with ⟨he, _⟩ | ⟨g, cap, cur, he, _, _, hnc, _⟩
    · cases he
      simp [Builtin.append_, run_underlying ht, sizeOf, typeInfo, hi, Builtin.lenOf, Builtin.firstCells]
    · cases he
      simp [Builtin.append_, run_underlying ht, sizeOf, typeInfo, hi, Builtin.lenOf, Builtin.firstCells, loadCells, storeCells, hnc]

section
variable {P : Program} {ops : Array Oper} {rest : List Oper} {o : Oper} {a : Act} {Q : Exit → Act → World → Prop} {w : World}

theorem wp_append_run {K : Act → World → Prop} (s x : Operand) (t : TypeId) (ho : o.op = .call { callee := .builtin .append, args := #[s, x], argTypes := #[t, t] })
    {v u : Value} (hs : a.eval s = v) (hx : a.eval x = u) {R : Value → World → Prop} (hrun : ∃ v' w', (Builtin.append_ #[t, t] o.type #[v, u]).run P w = .ok v' w' ∧ R v' w')
    (h : ∀ v' w', R v' w' → K (a.put o.dst v') w') : o.wp P a w K Q := by
  obtain ⟨v', w', hr, hR⟩ := hrun
  unfold Oper.wp execOp
  simp only [ho, resolve, invoke, builtin, Sem.run_bind, Sem.run_pure, Result.andThen_ok, List.map_toArray, List.map_cons, List.map_nil, hs, hx, hr]
  exact h v' w' hR
end

structure ElemOk (P : Program) (t e : TypeId) (size bytes : Nat) : Prop where
  ht : P.underlying t = some (.slice e)
  hi : ∃ i z, P.info? e = some i ∧ i.zero = some z ∧ i.size = size ∧ i.bytes = bytes ∧ z.cells.size = size
  hsz : 0 < size

theorem wpList_append_row {P : Program} {t e size bytes : Nat} (E : ElemOk P t e size bytes) {ops : Array Oper} {rest : List Oper} {o : Oper} {a : Act} {Q : Exit → Act → World → Prop} (w : World) (hgd : o.guard = none) (s x : Operand)
    (ho : o.op = .call { callee := .builtin .append, args := #[s, x], argTypes := #[t, t] })
    (base : Nat) (v : Value) (n : Nat) (xs : List Value) (hs : a.eval s = v) (hown : w.ownsRow base e size v n xs)
    (sv : Value) (m : Nat) (news : List Value) (hx : a.eval x = sv) (hsrc : RowAt w size sv m news) (h1 : ∀ u ∈ news, u.oneCell' = true)
    (h63 : n + m ≤ maxLen) (hbytes : (n + m) * bytes ≤ 140737488355328) (hbase : base ≤ w.heap.size)
    (h : ∀ a' c' w', w'.ownsRow base e size (.slice a' (n + m) c') (n + m) (xs ++ news) → w.grownBy w' v.ownBlock → wpList P ops Q rest (a.put o.dst (.slice a' (n + m) c')) w') : wpList P ops Q (o :: rest) a w :=
  wpList_plain hgd fun K hK => by
    obtain ⟨i, z, hi, hz, hsize, hby, hzs⟩ := E.hi
    refine wp_append_run s x t ho hs hx (R := fun v' w' => ∃ a' c', v' = .slice a' (n + m) c' ∧ w'.ownsRow base e size (.slice a' (n + m) c') (n + m) (xs ++ news) ∧ w.grownBy w' v.ownBlock) ?_ ?_
    · obtain ⟨a', c', w', hr, h2, h3⟩ := run_append_row (P := P) w base t o.type e i z size bytes E.ht hi hz hsize hby hzs E.hsz v n xs hown sv m news hsrc h1 h63 hbytes hbase
      exact ⟨_, w', hr, a', c', rfl, h2, h3⟩
    · rintro _ w' ⟨a', c', rfl, h2, h3⟩
      exact hK _ _ (h a' c' w' h2 h3)

theorem step_append_row {P : Program} {t e size bytes : Nat} (E : ElemOk P t e size bytes) {ops : Array Oper} {o : Oper} {a : Act} {K : Act → World → Prop} {Q : Exit → Act → World → Prop} {F : Prop} (w : World) (hgd : o.guard = none) (s x : Operand)
    (ho : o.op = .call { callee := .builtin .append, args := #[s, x], argTypes := #[t, t] })
    (base : Nat) (v : Value) (n : Nat) (xs : List Value) (hs : a.eval s = v) (hown : w.ownsRow base e size v n xs)
    (sv : Value) (m : Nat) (news : List Value) (hx : a.eval x = sv) (hsrc : RowAt w size sv m news) (h1 : ∀ u ∈ news, u.oneCell' = true)
    (h63 : n + m ≤ maxLen) (hbytes : (n + m) * bytes ≤ 140737488355328) (hbase : base ≤ w.heap.size)
    (h : ∀ a' c' w', w'.ownsRow base e size (.slice a' (n + m) c') (n + m) (xs ++ news) → w.grownBy w' v.ownBlock → K (a.put o.dst (.slice a' (n + m) c')) w') :
    if Region.wanted o (yielded ops a.tmps) = true then Oper.wp P o a w K Q else F := by
  have hw : Region.wanted o (yielded ops a.tmps) = true := by simp [Region.wanted, hgd]
  rw [if_pos hw]
  obtain ⟨i, z, hi, hz, hsize, hby, hzs⟩ := E.hi
  refine wp_append_run s x t ho hs hx (R := fun v' w' => ∃ a' c', v' = .slice a' (n + m) c' ∧ w'.ownsRow base e size (.slice a' (n + m) c') (n + m) (xs ++ news) ∧ w.grownBy w' v.ownBlock) ?_ ?_
  · obtain ⟨a', c', w', hr, h2, h3⟩ := run_append_row (P := P) w base t o.type e i z size bytes E.ht hi hz hsize hby hzs E.hsz v n xs hown sv m news hsrc h1 h63 hbytes hbase
    exact ⟨_, w', hr, a', c', rfl, h2, h3⟩
  · rintro _ w' ⟨a', c', rfl, h2, h3⟩
    exact h a' c' w' h2 h3

theorem elemOk_of {P : Program} {t e size bytes : Nat} {z : Value} (ht : P.underlying t = some (.slice e)) (hi : (P.info? e).map (fun i => (i.zero, i.size, i.bytes)) = some (some z, size, bytes)) (hz : z.cells.size = size) (hsz : 0 < size) : ElemOk P t e size bytes := by
  obtain ⟨i, h1, h2, h3, h4⟩ := info_parts hi
  exact ⟨ht, ⟨i, z, h1, h2, h3, h4, hz⟩, hsz⟩

/-! Bytes. -/
def byteV (c : UInt8) : Value := .int .u8 (c.toNat : Int)

def BytesAt (w : World) (v : Value) (l : List UInt8) : Prop := RowAt w 1 v l.length (l.map byteV)

theorem bytes_oneCell (l : List UInt8) : ∀ u ∈ l.map byteV, u.oneCell' = true := by
  intro u hu
  obtain ⟨c, _, rfl⟩ := List.mem_map.1 hu
  rfl

theorem BytesAt.form {w : World} {v : Value} {l : List UInt8} (h : BytesAt w v l) : ∃ a c, v = .slice a l.length c ∧ l.length ≤ c ∧ c ≤ maxLen ∧ (a = none → c = 0) := by
  obtain ⟨_, a, c, hv, h1, h2, h3, _, _⟩ := h
  exact ⟨a, c, hv, h1, h2, h3⟩

theorem BytesAt.lt {w : World} {v : Value} {l : List UInt8} {j : Nat} (h : BytesAt w v l) (hj : v.ownBlock = some j) : j < w.heap.size := by
  obtain ⟨_, a, c, rfl, _, _, _, h5, _⟩ := h
  cases a with
  | none => cases hj
  | some ad => cases hj; exact (h5 ad rfl).2

theorem BytesAt.below {w w' : World} {v : Value} {l : List UInt8} (h : BytesAt w v l) (hb : Below w.heap.size w w') : BytesAt w' v l := RowAt.below h hb
theorem BytesAt.keeps {w w' : World} {v : Value} {l : List UInt8} (h : BytesAt w v l) (hb : Keeps w w') : BytesAt w' v l := RowAt.keeps h hb

theorem BytesAt.cell {w : World} {a : Option Addr} {n c : Nat} {l : List UInt8} (h : BytesAt w (.slice a n c) l) (i : Nat) (hi : i < l.length) : ∃ b o, a = some ⟨b, o, none⟩ ∧ w.cell? ⟨b, o + i, none⟩ = some (.int .u8 (l[i].toNat : Int)) := by
  obtain ⟨_, a', c', hv, h1, h2, h3, h5, h4⟩ := h
  cases hv
  exact h4 i _ (by simp [hi, byteV])

theorem BytesAt.take {w : World} {a : Option Addr} {n c : Nat} {l : List UInt8} (h : BytesAt w (.slice a n c) l) (k c2 : Nat) (hk : k ≤ l.length) (hc2 : k ≤ c2) (hc3 : c2 ≤ c) : BytesAt w (.slice a k c2) (l.take k) := by
  obtain ⟨_, a', c', hv, h1, h2, h3, h5, h4⟩ := h
  cases hv
  refine ⟨by simp, a, c2, by simp; omega, by simp; omega, by omega, fun h => (by have := h3 h; omega), h5, fun i u hu => ?_⟩
  have hi : i < (l.take k).length := by have := (List.getElem?_eq_some_iff.1 hu).1; simpa using this
  simp only [List.length_take] at hi
  refine h4 i u ?_
  rw [← hu]; simp [List.getElem?_take]; omega

end
end Go.Proofs.YtcmajcljafmphaaGreat

namespace Go.Proofs.YtcmajcljafmphaaGreat.S
section

def head (c : Nat) : Option (Nat × Nat × Nat) :=
  if c < 128 then some (0, c, 0) else if c / 32 = 6 then some (1, c % 32, 128) else if c / 16 = 14 then some (2, c % 16, 2048)
  else if c / 8 = 30 then some (3, c % 8, 65536) else none

def cont : Nat → Nat → List UInt8 → Option Nat
  | 0, v, _ => some v
  | _ + 1, _, [] => none
  | k + 1, v, b :: l => if b.toNat / 64 = 2 then cont k (v * 64 + b.toNat % 64) l else none

def good (v least : Nat) : Bool := !(v < least || 1114111 < v || (55296 ≤ v && v ≤ 57343))

def one (l : List UInt8) : Option Nat :=
  match l with
  | [] => none
  | c :: t => match head c.toNat with
    | none => none
    | some (n, v, least) => if l.length ≤ n then none else match cont n v t with
      | none => none
      | some v => if good v least then some (n + 1) else none

theorem head_lt {c n v least : Nat} (h : head c = some (n, v, least)) : n ≤ 3 ∧ (v + 1) * 64 ^ n ≤ 2097152 := by
  unfold head at h
  split at h
  · simp at h; obtain ⟨rfl, rfl, rfl⟩ := h; simp; omega
  split at h
  · simp at h; obtain ⟨rfl, rfl, rfl⟩ := h; simp; omega
  split at h
  · simp at h; obtain ⟨rfl, rfl, rfl⟩ := h; simp; omega
  split at h
  · simp at h; obtain ⟨rfl, rfl, rfl⟩ := h; simp; omega
  · simp at h

theorem cont_step {k v : Nat} {l : List UInt8} (j : Nat) (hj : j < l.length) (hb : l[j].toNat / 64 = 2) :
    cont (k + 1) v (l.drop j) = cont k (v * 64 + l[j].toNat % 64) (l.drop (j + 1)) := by
  rw [List.drop_eq_getElem_cons hj]
  simp [cont, hb]

theorem cont_stop {k v : Nat} {l : List UInt8} (j : Nat) (hj : j < l.length) (hb : ¬ l[j].toNat / 64 = 2) :
    cont (k + 1) v (l.drop j) = none := by
  rw [List.drop_eq_getElem_cons hj]
  simp [cont, hb]

theorem bound_step {v b k : Nat} (h : (v + 1) * 64 ^ (k + 1) ≤ 2097152) (hb : b < 64) : (v * 64 + b + 1) * 64 ^ k ≤ 2097152 := by
  refine Nat.le_trans ?_ h
  rw [Nat.pow_succ, Nat.mul_comm (64 ^ k) 64, ← Nat.mul_assoc]
  exact Nat.mul_le_mul_right _ (by omega)

theorem bound_v {v k : Nat} (h : (v + 1) * 64 ^ k ≤ 2097152) : v < 2097152 := by
  have := Nat.le_mul_of_pos_right (v + 1) (Nat.pow_pos (n := k) (show 0 < 64 by omega))
  omega

theorem one_le {l : List UInt8} {n : Nat} (h : one l = some n) : 1 ≤ n ∧ n ≤ l.length := by
  unfold one at h
  split at h
  · cases h
  · split at h
    · cases h
    · split at h
      · cases h
      · split at h
        · cases h
        · split at h
          · simp at h; omega
          · cases h

def runesF : Nat → List UInt8 → Option Nat
  | 0, l => if l = [] then some 0 else none
  | f + 1, l => if l = [] then some 0 else match one l with
    | none => none
    | some n => (runesF f (l.drop n)).map (· + 1)

def runes (l : List UInt8) : Option Nat := runesF l.length l

theorem runesF_eq : ∀ (f : Nat) (l : List UInt8), l.length ≤ f → runesF f l = runes l := by
  intro f
  induction f using Nat.strongRecOn with
  | ind f ih =>
    intro l hl
    cases f with
    | zero => obtain rfl : l = [] := List.eq_nil_of_length_eq_zero (by omega); rfl
    | succ f =>
      unfold runes
      cases hll : l.length with
      | zero => obtain rfl : l = [] := List.eq_nil_of_length_eq_zero hll; rfl
      | succ m =>
        simp only [runesF]
        split
        · rfl
        · cases h : one l with
          | none => rfl
          | some n =>
            have := one_le h
            simp only
            rw [ih f (by omega) (l.drop n) (by simp; omega), ih m (by omega) (l.drop n) (by simp; omega)]

theorem runes_nil : runes [] = some 0 := rfl
theorem runes_none {l : List UInt8} (hl : l ≠ []) (h : one l = none) : runes l = none := by
  rw [← runesF_eq (l.length + 1) l (by omega)]; simp [runesF, hl, h]
theorem runes_some {l : List UInt8} {n : Nat} (h : one l = some n) : runes l = (runes (l.drop n)).map (· + 1) := by
  have hl : l ≠ [] := by intro e; subst e; simp [one] at h
  rw [← runesF_eq (l.length + 1) l (by omega)]; simp only [runesF, hl, h, if_false]
  rw [runesF_eq _ _ (by simp)]

def valid (l : List UInt8) : Bool := (runes l).isSome && decide (l.length ≤ 64) && !(l.contains 0)
def badByte (c : UInt8) : Bool := c.toNat < 32 || c.toNat == 47
def name (l : List UInt8) : Nat := if !valid l || l.isEmpty || l == [46] || l == [46, 46] then 6 else if l.any badByte then 6 else if 28 < l.length then 3 else 0
def may (l : List UInt8) : Nat := if 64 < l.length then 3 else if !valid l then 2 else 0

theorem take_any (s : ByteArray) (p : UInt8 → Bool) (k : Nat) (h : k < s.size) : (s.data.toList.take (k + 1)).any p = ((s.data.toList.take k).any p || p s[k]) := by
  rw [List.take_succ_eq_append_getElem (by simpa using h), List.any_append]
  show (_ || ([s[k]].any p)) = _
  simp

theorem any_of_take {l : List UInt8} {p : UInt8 → Bool} (k : Nat) (h : (l.take k).any p = true) : l.any p = true := by
  rw [List.any_eq_true] at h ⊢
  obtain ⟨x, hx, hp⟩ := h
  exact ⟨x, List.mem_of_mem_take hx, hp⟩

theorem data_extract (s : ByteArray) (a : Nat) : (s.extract a s.size).data.toList = s.data.toList.drop a := by
  rw [ByteArray.data_extract, Array.toList_extract, List.extract_eq_take_drop]
  refine List.take_of_length_le ?_
  rw [List.length_drop]
  exact Nat.le_refl _

end
end Go.Proofs.YtcmajcljafmphaaGreat.S

namespace Go.Proofs.YtcmajcljafmphaaGreat
section
open Go.RowKit
set_option maxRecDepth 100000

theorem infoU8 : (Tryz.prog.info? 5).map (fun i => (i.zero, i.size, i.bytes)) = some (some (.int .u8 0), 1, 1) := by kernel_rfl


theorem own_ne {w : World} {b e size n : Nat} {v : Value} {xs : List Value} (h : w.ownsRow (b + 1) e size v n xs) : some b ≠ v.ownBlock := fun he => by
  have := (h.lt b he.symm).1; omega

theorem kept_da {w w' : World} {b : Nat} {o X : Obj} {row : Option Nat} (hb : w.heap[b]? = some X) (hg : (w.drew.alloc o).grownBy w' row) (hne : some b ≠ row) : w'.heap[b]? = some X := by
  have hlt := lt_of_block hb
  rw [hg.block b (by show b < (w.drew.heap.push o).size; simp; exact Nat.lt_succ_of_lt hlt) hne]
  rw [heap_alloc_old w.drew o (by exact hlt)]; exact hb

def numAt (v k : Nat) : UInt8 := UInt8.ofNat (v / 2 ^ (8 * k))
def numBytes (v : Nat) : Nat → List UInt8
  | 0 => []
  | n + 1 => numBytes v n ++ [numAt v n]

theorem numBytes_length (v : Nat) : ∀ n, (numBytes v n).length = n
  | 0 => rfl
  | n + 1 => by simp [numBytes, numBytes_length v n]

theorem byteV_numAt (v k : Nat) : byteV (numAt v k) = .int .u8 (IntKind.u8.wrap ((v : Int) / 2 ^ (8 * k))) := by
  unfold byteV numAt
  rw [IntKind.wrap_u8]
  congr 1

def OutIs (w : World) (b : Nat) (xs : List UInt8) : Prop :=
  ∃ v, ∃ ot : TypeId, w.heap[b]? = some (.cells #[v] ot (0, 0)) ∧ w.ownsRow (b + 1) 5 1 v xs.length (xs.map byteV)

theorem out_store {w' : World} {b n : Nat} {ot : TypeId} {va v2 : Value} {xs : List UInt8} {vs : List Value} (hb : w'.heap[b]? = some (.cells #[va] ot (0, 0)))
    (h2 : w'.ownsRow (b + 1) 5 1 v2 n vs) (hvs : vs = xs.map byteV) : OutIs (w'.setCell ⟨b, 0, none⟩ v2) b xs := by
  subst hvs
  have hn : n = xs.length := by have := h2.1; simp at this; exact this.symm
  subst hn
  exact ⟨v2, ot, one_setCell hb, ownsRow_setCell_below h2 (by show b < b + 1; omega) _⟩

theorem elemU8 : ElemOk Tryz.prog 53 5 1 1 := elemOk_of Tryz.underlying53 infoU8 rfl (by decide)

theorem own_empty (w : World) (e k : Nat) : (w.alloc (.cells #[] e)).ownsRow w.heap.size e k (.slice (some ⟨w.heap.size, 0, none⟩) 0 0) 0 [] :=
  World.ownsRow_made w #[] 0 (Nat.le_refl _) (by unfold maxLen; omega) (by simp)

theorem BytesAt.of_own {w : World} {base e n : Nat} {v : Value} {xs : List Value} {l : List UInt8} (h : w.ownsRow base e 1 v n xs) (hx : xs = l.map byteV) : BytesAt w v l := by
  subst hx
  have := RowAt.of_own h
  obtain rfl : n = l.length := by have := h.1; simp at this; omega
  exact this

theorem bytes_len0 {w : World} {v : Value} {l : List UInt8} {c : Nat} (h : BytesAt w (.slice none l.length c) l) (hv : v = .slice none 0 0) : BytesAt w v l := by
  obtain ⟨hl, a, c', he, h1, h2, h3, _, h4⟩ := h
  cases he
  have hc := h3 rfl
  obtain rfl : l = [] := List.eq_nil_of_length_eq_zero (by omega)
  subst hv
  exact RowAt.nil

def RetNew (w : World) (l : List UInt8) (e : Ending) (w' : World) : Prop := ∃ v', e = .returned v' ∧ (BytesAt w' v' l ∧ ∀ k, v'.ownBlock = some k → w.heap.size ≤ k) ∧ Below w.heap.size w w'

set_option maxHeartbeats 400000 in
theorem clip_at (a : Option Addr) (n c : Nat) (w : World) (_hn : n ≤ c) (_hc : c ≤ maxLen) :
    Calls Tryz.prog 65 #[.slice a n c] w fun e w' => e = .returned (.slice a n n) ∧ w = w' := by
  unfold maxLen at _hc
  go_enter Tryz.func65, Tryz.ntmps65
  go_wp2
  go_ret
  exact ⟨rfl, rfl⟩

set_option maxHeartbeats 400000 in
theorem clone_new (v : Value) (l : List UInt8) (w : World) (h : BytesAt w v l) (hl : l.length ≤ 1000000008) :
    Calls Tryz.prog 45 #[v] w (RetNew w l) := by
  obtain ⟨a, c, rfl, hc1, hc2, hc3⟩ := h.form
  have qT := fun (w : World) (a : Option Addr) (n c n' c' : Nat) => Lib.run_eql_slice_nil (P := Tryz.prog) w 53 5 a n c n' c' Tryz.underlying53
  cases a with
  | none =>
    clear hc3
    go_enter Tryz.func45, Tryz.ntmps45
    go_wp2
    go_ret
    exact ⟨_, rfl, ⟨bytes_len0 h rfl, fun k hk => by cases hk⟩, Below.refl _ _⟩
  | some a =>
    have h0 := h.below ((Below.refl w.heap.size w).alloc (Nat.le_refl _) (.cells #[] 5))
    go_enter Tryz.func45, Tryz.ntmps45
    go_wp2_with (at_builtin; refine wpList_append_row elemU8 _ rfl (.tmp 5) (.tmp 6) rfl w.heap.size _ 0 [] rfl (own_empty w 5 1) _ l.length (l.map byteV) rfl h0 (bytes_oneCell l) (by unfold maxLen; omega) (by omega) (by simp) (fun a' c' w' h2 h3 => ?_))
    go_ret
    simp only [Nat.zero_add] at h2
    have h4 := BytesAt.of_own (l := l) h2 (by simp)
    exact ⟨_, rfl, ⟨h4, fun k hk => (h2.lt k hk).1⟩, (((Below.refl w.heap.size w).alloc (Nat.le_refl _) _).grown h3 (by simp) (fun k hk => by cases hk; exact Nat.le_refl _))⟩
theorem OutIs.bytes {w : World} {b : Nat} {xs : List UInt8} (h : OutIs w b xs) : ∃ v, ∃ ot : TypeId, w.heap[b]? = some (.cells #[v] ot (0, 0)) ∧ BytesAt w v xs := by
  obtain ⟨v, ot, h1, h2⟩ := h
  exact ⟨v, ot, h1, BytesAt.of_own h2 rfl⟩

set_option maxHeartbeats 400000 in
theorem out_bytes_new (b : Nat) (xs : List UInt8) (w : World) (hx : xs.length ≤ 1000000008) (ho : OutIs w b xs) :
    Calls Tryz.prog 60 #[.pointer (some ⟨b, 0, none⟩)] w (RetNew w xs) := by
  obtain ⟨v, ot, hb, hv⟩ := ho.bytes
  have hc := cell_of_one hb
  have hf := free_of_one hb
  clear hb
  go_enter Tryz.func60, Tryz.ntmps60
  go_wp2_with fail
  refine (clone_new v xs w hv hx).mono ?_
  rintro e w1 ⟨v1, rfl, h1, hb1⟩
  obtain ⟨h1, hnew⟩ := h1
  obtain ⟨a1, c1, rfl, g1, g2, _⟩ := h1.form
  replace hnew := hid hnew
  go_wp2_with fail
  refine (clip_at a1 xs.length c1 w1 g1 g2).mono ?_
  rintro e w2 ⟨rfl, rfl⟩
  go_wp2_with fail
  go_ret
  exact ⟨_, rfl, ⟨by have := h1.take xs.length xs.length (Nat.le_refl _) (Nat.le_refl _) g1; rwa [List.take_length] at this, fun k hk => hnew.out k (by cases a1 <;> exact hk)⟩, hb1⟩
end
end Go.Proofs.YtcmajcljafmphaaGreat
