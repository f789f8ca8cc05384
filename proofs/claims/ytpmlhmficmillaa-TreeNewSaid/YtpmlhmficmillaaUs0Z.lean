/- A slice that reads as a list, wherever an empty one lies: of texts; append from it. No condition. -/
import Derived.Test.YtpmlhmficmillaaOwnZ
namespace Go.Proofs.Ytpmlhmficmillaa
open Go.RowKit
set_option maxRecDepth 100000

/-- The slice v of n elements of k cells each reads as xs; of an empty one nothing more is said. -/
def RowW (w : World) (k : Nat) (v : Value) (n : Nat) (xs : List Value) : Prop :=
  xs.length = n * k ∧ ∃ a c, v = .slice a n c ∧ n ≤ c ∧ c ≤ maxLen ∧ (a = none → c = 0) ∧ ∀ i u, xs[i]? = some u → ∃ b o, a = some ⟨b, o, none⟩ ∧ w.cell? ⟨b, o + i, none⟩ = some u
theorem RowAt.weak {w : World} {k n : Nat} {v : Value} {xs : List Value} (h : RowAt w k v n xs) : RowW w k v n xs := by
  obtain ⟨hl, a, c, hv, h1, h2, h3, _, h4⟩ := h
  exact ⟨hl, a, c, hv, h1, h2, h3, h4⟩
theorem RowW.keeps {w w' : World} {k n : Nat} {v : Value} {xs : List Value} (h : RowW w k v n xs) (hk : Keeps w w') : RowW w' k v n xs := by
  obtain ⟨hl, a, c, hv, h1, h2, h3, h4⟩ := h
  refine ⟨hl, a, c, hv, h1, h2, h3, fun i u hu => ?_⟩
  obtain ⟨b, o, ha, hc⟩ := h4 i u hu
  exact ⟨b, o, ha, hk.cells _ _ hc⟩
theorem RowW.below {w w' : World} {k n : Nat} {v : Value} {xs : List Value} (h : RowW w k v n xs) (hb : Below w.heap.size w w') : RowW w' k v n xs := h.keeps (.of_below hb)

/-- append to a slice of the call's own, from whatever source. -/
theorem run_append_weak {P : Program} (w : World) (base : Nat) (t ty e : TypeId) (i : TypeInfo) (z : Value) (size bytes : Nat) (ht : P.underlying t = some (.slice e)) (hi : P.info? e = some i) (hz : i.zero = some z)
    (hsize : i.size = size) (hby : i.bytes = bytes) (hzs : z.cells.size = size) (hsz : 0 < size)
    (v : Value) (n : Nat) (xs : List Value) (hown : w.ownsRow base e size v n xs)
    (sv : Value) (m : Nat) (news : List Value) (hsrc : RowW w size sv m news) (h1 : ∀ u ∈ news, u.oneCell' = true)
    (h63 : n + m ≤ maxLen) (hbytes : (n + m) * bytes ≤ 140737488355328) (hbase : base ≤ w.heap.size) :
    ∃ a' c' w', (Builtin.append_ #[t, t] ty #[v, sv]).run P w = .ok (.slice a' (n + m) c') w' ∧ w'.ownsRow base e size (.slice a' (n + m) c') (n + m) (xs ++ news) ∧ w.grownBy w' v.ownBlock := by
  obtain ⟨hl, a, c, rfl, hc1, hc2, hc3, hcell⟩ := hsrc
  cases a with
  | some ad =>
    have hnews : ∀ j u, news[j]? = some u → w.cell? (ad.add j) = some u := fun j u hu => by
      obtain ⟨b, o, hb, hcc⟩ := hcell j u hu
      cases hb
      rw [add_plain']; exact hcc
    obtain ⟨v', w', hr, ho, hg, _⟩ := run_append_own (P := P) w base t ty e i z size bytes ht hi hz hsize hby hzs hsz v n xs hown ad m c news hl hnews h1 h63 hbytes hbase
    obtain ⟨a', c', rfl⟩ := own_form ho
    exact ⟨a', c', w', hr, ho, hg⟩
  | none =>
    have hc0 := hc3 rfl
    obtain rfl : c = 0 := hc0
    obtain rfl : m = 0 := by omega
    have : news = [] := List.eq_nil_of_length_eq_zero (by simpa using hl)
    subst this
    exact run_append_row w base t ty e i z size bytes ht hi hz hsize hby hzs hsz v n xs hown _ 0 [] RowAt.nil h1 h63 hbytes hbase

/-- At the list of a plain region. -/
theorem wpList_append_weak {P : Program} {t e size bytes : Nat} (E : ElemOk P t e size bytes) {ops : Array Oper} {rest : List Oper} {o : Oper} {a : Act} {Q : Exit → Act → World → Prop} (w : World) (hgd : o.guard = none) (s x : Operand)
    (ho : o.op = .call { callee := .builtin .append, args := #[s, x], argTypes := #[t, t] })
    (base : Nat) (v : Value) (n : Nat) (xs : List Value) (hs : a.eval s = v) (hown : w.ownsRow base e size v n xs)
    (sv : Value) (m : Nat) (news : List Value) (hx : a.eval x = sv) (hsrc : RowW w size sv m news) (h1 : ∀ u ∈ news, u.oneCell' = true)
    (h63 : n + m ≤ maxLen) (hbytes : (n + m) * bytes ≤ 140737488355328) (hbase : base ≤ w.heap.size)
    (h : ∀ a' c' w', w'.ownsRow base e size (.slice a' (n + m) c') (n + m) (xs ++ news) → w.grownBy w' v.ownBlock → wpList P ops Q rest (a.put o.dst (.slice a' (n + m) c')) w') : wpList P ops Q (o :: rest) a w :=
  wpList_plain hgd fun K hK => by
    obtain ⟨i, z, hi, hz, hsize, hby, hzs⟩ := E.hi
    refine wp_append_run s x t ho hs hx (R := fun v' w' => ∃ a' c', v' = .slice a' (n + m) c' ∧ w'.ownsRow base e size (.slice a' (n + m) c') (n + m) (xs ++ news) ∧ w.grownBy w' v.ownBlock) ?_ ?_
    · obtain ⟨a', c', w', hr, h2, h3⟩ := run_append_weak (P := P) w base t o.type e i z size bytes E.ht hi hz hsize hby hzs E.hsz v n xs hown sv m news hsrc h1 h63 hbytes hbase
      exact ⟨_, w', hr, a', c', rfl, h2, h3⟩
    · rintro _ w' ⟨a', c', rfl, h2, h3⟩
      exact hK _ _ (h a' c' w' h2 h3)

/-- A slice of texts. -/
def TxtsAt (w : World) (v : Value) (L : List ByteArray) : Prop := RowW w 1 v L.length (L.map fun s => Value.string s)
theorem TxtsAt.cell {w : World} {a : Option Addr} {n c : Nat} {L : List ByteArray} (h : TxtsAt w (.slice a n c) L) (i : Nat) (hi : i < L.length) : ∃ b o, a = some ⟨b, o, none⟩ ∧ w.cell? ⟨b, o + i, none⟩ = some (.string L[i]) := by
  obtain ⟨_, a', c', hv, h1, h2, h3, h4⟩ := h
  cases hv
  exact h4 i _ (by simp [hi])
theorem TxtsAt.form {w : World} {v : Value} {L : List ByteArray} (h : TxtsAt w v L) : ∃ a c, v = .slice a L.length c ∧ L.length ≤ c ∧ c ≤ maxLen := by
  obtain ⟨_, a, c, hv, h1, h2, _⟩ := h
  exact ⟨a, c, hv, h1, h2⟩
theorem TxtsAt.below {w w' : World} {v : Value} {l : List ByteArray} (h : TxtsAt w v l) (hb : Below w.heap.size w w') : TxtsAt w' v l := RowW.below h hb
theorem TxtsAt.take {w : World} {a : Option Addr} {n c : Nat} {l : List ByteArray} (h : TxtsAt w (.slice a n c) l) (k c2 : Nat) (hk : k ≤ l.length) (hc2 : k ≤ c2) (hc3 : c2 ≤ c) : TxtsAt w (.slice a k c2) (l.take k) := by
  obtain ⟨_, a', c', hv, h1, h2, h3, h4⟩ := h
  cases hv
  refine ⟨by simp, a, c2, by simp; omega, by simp; omega, by omega, fun h => (by have := h3 h; omega), fun i u hu => ?_⟩
  have hi : i < (l.take k).length := by have := (List.getElem?_eq_some_iff.1 hu).1; simpa using this
  simp only [List.length_take] at hi
  refine h4 i u ?_
  rw [← hu]; simp [List.getElem?_take]; omega
theorem TxtsAt.of_own {w : World} {base e : Nat} {v : Value} {L : List ByteArray} (h : w.ownsRow base e 1 v L.length (L.map fun s => Value.string s)) : TxtsAt w v L := (RowAt.of_own h).weak
theorem TxtsAt.nil {w : World} : TxtsAt w (.slice none 0 0) [] := RowAt.nil.weak
end Go.Proofs.Ytpmlhmficmillaa
