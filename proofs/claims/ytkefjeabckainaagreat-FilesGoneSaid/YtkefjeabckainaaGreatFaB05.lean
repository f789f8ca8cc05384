/- What is done to a tree, and that a valid tree stays valid. Plain. And the texts behind it. -/
import Derived.Test.YtkefjeabckainaaGreatFaB04
import Derived.Test.YtkefjeabckainaaGreatFaB03
import Derived.Test.YtkefjeabckainaaGreatFaB01
import Derived.Laws.BitsAllLaws
namespace Go.Proofs.YtkefjeabckainaaGreat
section
set_option maxRecDepth 100000
set_option linter.unusedVariables false

structure Tr where
  next : Nat
  n : List Nod
def slashS : ByteArray := ⟨#[47]⟩
def appB (n : Nod) : Bool := !decide (n.mode &&& 1073741824 = 0)
def touchN (x : Nod) (who : ByteArray) (now : Nat) : Nod := { x with vers := (x.vers + 1) % 4294967296, mtm := now, muid := who }
def newN (p mode now : Nat) (name uid gid : ByteArray) (d : Nat) : Nod := ⟨p, 0, mode, now, now, name, uid, gid, uid, d, false, ⟨#[]⟩⟩
def padL (l : List UInt8) (n : Nat) : List UInt8 := (l ++ List.replicate (n - l.length) 0).take n
theorem padL_length (l : List UInt8) (n : Nat) : (padL l n).length = n := by unfold padL; simp; omega
def putD (d : ByteArray) (off : Nat) (b : ByteArray) : ByteArray := strL (padL d.data.toList off ++ b.data.toList ++ d.data.toList.drop (off + b.size))
def dataT (t : Tr) (x : Nod) (b : ByteArray) (who : ByteArray) (now : Nat) : Tr × Nat :=
  if 16384 < bytesL t.n - x.data.size + b.size then (t, 14) else (⟨t.next, setL t.n { touchN x who now with data := b }⟩, 0)
def makeT (t : Tr) (d : Nat) (name : ByteArray) (mode : Nat) (uid gid : ByteArray) (now : Nat) : Tr × Nat × Nat :=
  match getL t.n d with
  | none => (t, 0, 6)
  | some x => if dirB x = false then (t, 0, 13) else if x.gone then (t, 0, 6) else if nameN name ≠ 0 then (t, 0, nameN name) else if (findL t.n d name).isSome then (t, 0, 7) else if 64 ≤ t.n.length then (t, 0, 14)
    else (⟨t.next + 1, setL (setL t.n (touchN x uid now)) (newN t.next mode now name uid gid d)⟩, t.next, 0)
def putT (t : Tr) (p off : Nat) (b who : ByteArray) (now : Nat) : Tr × Nat :=
  match getL t.n p with
  | none => (t, 6)
  | some x => if dirB x then (t, 12) else
    let o := if appB x then x.data.size else off
    if 4096 < o ∨ 4096 - o < b.size then (t, 3) else if b.size = 0 then (t, 0) else dataT t x (putD x.data o b) who now
def cutT (t : Tr) (p size : Nat) (who : ByteArray) (now : Nat) : Tr × Nat :=
  match getL t.n p with
  | none => (t, 6)
  | some x => if dirB x then (t, 12) else if 4096 < size then (t, 3) else dataT t x (strL (padL x.data.data.toList size)) who now
def takeT (t : Tr) (p off k now : Nat) : Tr × ByteArray × Nat :=
  match getL t.n p with
  | none => (t, ⟨#[]⟩, 6)
  | some x => if dirB x then (t, ⟨#[]⟩, 12) else (⟨t.next, setL t.n { x with atm := now }⟩, strL ((x.data.data.toList.drop off).take k), 0)
def goneN (x : Nod) : Nod := { x with gone := true, up := 0 }
def unlinkT (t : Tr) (p : Nat) (who : ByteArray) (now : Nat) : Tr × Nat :=
  match getL t.n p with
  | none => (t, 6)
  | some x => if p = 1 then (t, 5) else if x.gone then (t, 6) else if kidsOf t.n p ≠ [] then (t, 15) else
    match getL t.n x.up with
    | none => (⟨t.next, setL t.n (goneN x)⟩, 0)
    | some d => (⟨t.next, setL (setL t.n (goneN x)) (touchN d who now)⟩, 0)
def reapT (t : Tr) (p : Nat) : Tr × Bool :=
  match getL t.n p with
  | none => (t, false)
  | some x => if x.gone then (⟨t.next, dropL t.n p⟩, true) else (t, false)
inductive Leads (l : List Nod) : Nat → Prop
  | root : Leads l 1
  | up {p : Nat} {n : Nod} (h : getL l p = some n) (hg : n.gone = false) (hu : Leads l n.up) : Leads l p
theorem way_leads {l : List Nod} : ∀ (k p : Nat), (wayL l k p).isSome = true → Leads l p
  | 0, _, h => by cases h
  | k + 1, p, h => by
    unfold wayL at h
    by_cases e : p = 1
    · rw [e]; exact .root
    · rw [if_neg e] at h
      cases hg : getL l p with
      | none => rw [hg] at h; cases h
      | some n =>
        rw [hg] at h
        simp only at h
        cases hq : n.gone with
        | true => rw [hq, if_pos rfl] at h; cases h
        | false =>
          rw [hq, if_neg (by simp), Option.isSome_map] at h
          exact .up hg hq (way_leads k _ h)
theorem leads_way {l : List Nod} {p : Nat} (h : Leads l p) : ∃ k, (wayL l k p).isSome = true := by
  induction h with
  | root => exact ⟨1, rfl⟩
  | @up p n hg hq _ ih =>
    obtain ⟨k, hk⟩ := ih
    refine ⟨k + 1, ?_⟩
    unfold wayL
    by_cases e : p = 1
    · rw [if_pos e]; rfl
    · rw [if_neg e, hg]
      simp only
      rw [hq, if_neg (by simp), Option.isSome_map]; exact hk
theorem way_more {l : List Nod} : ∀ (k k' p : Nat) {o : List ByteArray}, wayL l k p = some o → k ≤ k' → wayL l k' p = some o
  | 0, _, _, _, h, _ => by cases h
  | k + 1, 0, _, _, _, hk => by omega
  | k + 1, k' + 1, p, o, h, hk => by
    unfold wayL at h ⊢
    by_cases e : p = 1
    · rw [if_pos e] at h ⊢; exact h
    · rw [if_neg e] at h ⊢
      cases hg : getL l p with
      | none => rw [hg] at h; cases h
      | some n =>
        rw [hg] at h
        simp only at h ⊢
        cases hq : n.gone with
        | true => rw [hq, if_pos rfl] at h; cases h
        | false =>
          rw [hq, if_neg (by simp)] at h
          rw [if_neg (by simp)]
          obtain ⟨o', ho, rfl⟩ := Option.map_eq_some_iff.1 h
          rw [way_more k k' _ ho (by omega)]; rfl
theorem way_same {l : List Nod} {k k' p : Nat} {o o' : List ByteArray} (h : wayL l k p = some o) (h' : wayL l k' p = some o') : o = o' := by
  have a := way_more k (max k k') p h (Nat.le_max_left _ _)
  have b := way_more k' (max k k') p h' (Nat.le_max_right _ _)
  rw [a] at b; exact Option.some.inj b
theorem nodup_len : ∀ (ps qs : List Nat), ps.Nodup → (∀ x ∈ ps, x ∈ qs) → ps.length ≤ qs.length
  | [], _, _, _ => Nat.zero_le _
  | p :: ps, qs, hn, hs => by
    obtain ⟨h1, h2⟩ := List.nodup_cons.1 hn
    have hm := hs p (by simp)
    have := nodup_len ps (qs.erase p) h2 fun x hx => (List.mem_erase_of_ne (fun e => h1 (by rw [← e]; exact hx))).2 (hs x (by simp [hx]))
    rw [List.length_erase_of_mem hm] at this
    have : 0 < qs.length := List.length_pos_of_mem hm
    simp only [List.length_cons]; omega
theorem way_paths {l : List Nod} : ∀ (k p : Nat) {o : List ByteArray}, wayL l k p = some o →
    ∃ ps : List Nat, ps.length = o.length ∧ ps.Nodup ∧ ∀ q ∈ ps, (∃ n, getL l q = some n ∧ n.gone = false) ∧ ∃ k' o', wayL l k' q = some o' ∧ o'.length ≤ o.length
  | 0, _, _, h => by cases h
  | k + 1, p, o, h => by
    have h0 := h
    unfold wayL at h
    by_cases e : p = 1
    · rw [if_pos e] at h; cases h
      exact ⟨[], rfl, List.nodup_nil, fun q hq => by cases hq⟩
    · rw [if_neg e] at h
      cases hg : getL l p with
      | none => rw [hg] at h; cases h
      | some n =>
        rw [hg] at h
        simp only at h
        cases hq : n.gone with
        | true => rw [hq, if_pos rfl] at h; cases h
        | false =>
          rw [hq, if_neg (by simp)] at h
          obtain ⟨o', ho, rfl⟩ := Option.map_eq_some_iff.1 h
          obtain ⟨ps, i1, i2, i3⟩ := way_paths k n.up ho
          refine ⟨p :: ps, by simp [i1], List.nodup_cons.2 ⟨fun hp => ?_, i2⟩, fun q hq2 => ?_⟩
          · obtain ⟨_, k', o2, hk', hl⟩ := i3 p hp
            have := way_same hk' h0
            rw [this] at hl; simp at hl; omega
          · rcases List.mem_cons.1 hq2 with hh | hh
            · rw [hh]; exact ⟨⟨n, hg, hq⟩, k + 1, _, h0, Nat.le_refl _⟩
            · obtain ⟨a, k', o2, hk', hl⟩ := i3 q hh
              exact ⟨a, k', o2, hk', by simp; omega⟩
theorem way_short {l : List Nod} : ∀ (k p : Nat) {o : List ByteArray}, wayL l k p = some o → wayL l (o.length + 1) p = some o
  | 0, _, _, h => by cases h
  | k + 1, p, o, h => by
    unfold wayL at h ⊢
    by_cases e : p = 1
    · rw [if_pos e] at h ⊢; exact h
    · rw [if_neg e] at h ⊢
      cases hg : getL l p with
      | none => rw [hg] at h; cases h
      | some n =>
        rw [hg] at h
        simp only at h ⊢
        cases hq : n.gone with
        | true => rw [hq, if_pos rfl] at h; cases h
        | false =>
          rw [hq, if_neg (by simp)] at h
          rw [if_neg (by simp)]
          obtain ⟨o', ho, rfl⟩ := Option.map_eq_some_iff.1 h
          have := way_short k n.up ho
          rw [show (n.name :: o').length = o'.length + 1 from rfl, this]; rfl
theorem leads_iff {l : List Nod} {p : Nat} : Leads l p ↔ (wayL l (l.length + 1) p).isSome = true := by
  refine ⟨fun h => ?_, way_leads _ _⟩
  obtain ⟨k, hk⟩ := leads_way h
  obtain ⟨o, ho⟩ := Option.isSome_iff_exists.1 hk
  obtain ⟨ps, h1, h2, h3⟩ := way_paths k p ho
  have hs := way_short k p ho
  have hle := nodup_len ps (l.map (·.path)) h2 fun q hq => by
    obtain ⟨⟨n, hn, _⟩, _⟩ := h3 q hq
    obtain ⟨a, b⟩ := getL_some hn
    exact List.mem_map.2 ⟨n, a, b⟩
  rw [way_more _ (l.length + 1) p hs (by simp at hle; omega)]; rfl
theorem Leads.imp {l m : List Nod} (h : ∀ p n, getL l p = some n → n.gone = false → ∃ n', getL m p = some n' ∧ n'.gone = false ∧ n'.up = n.up) {p : Nat} (hp : Leads l p) : Leads m p := by
  induction hp with
  | root => exact .root
  | up hg hq _ ih =>
    obtain ⟨n', h1, h2, h3⟩ := h _ _ hg hq
    exact .up h1 h2 (by rw [h3]; exact ih)

structure OkV (V : ByteArray → Bool) (t : Tr) : Prop where
  sort : SortL t.n
  root : ∃ r ∈ t.n, r.path = 1 ∧ dirB r = true ∧ r.up = 1 ∧ r.gone = false ∧ r.name = slashS
  low : ∀ n ∈ t.n, 1 ≤ n.path ∧ n.path < t.next
  bits : ∀ n ∈ t.n, bitsB n.mode = true
  empt : ∀ n ∈ t.n, dirB n = true → n.data.size = 0
  nam : ∀ n ∈ t.n, n.path ≠ 1 → nameN n.name = 0
  ids : ∀ n ∈ t.n, V n.uid = true ∧ V n.gid = true ∧ V n.muid = true
  len : ∀ n ∈ t.n, n.data.size ≤ 4096
  gon : ∀ n ∈ t.n, n.gone = true → n.up = 0
  par : ∀ n ∈ t.n, n.gone = false → ∃ u ∈ t.n, u.path = n.up ∧ dirB u = true ∧ u.gone = false
  uniq : ∀ a ∈ t.n, ∀ b ∈ t.n, ∀ d, kidB d a = true → kidB d b = true → a.name = b.name → a = b
  few : t.n.length ≤ 64
  byt : bytesL t.n ≤ 16384
  way : ∀ n ∈ t.n, n.gone = false → Leads t.n n.path
abbrev OkC := OkV validB
end
end Go.Proofs.YtkefjeabckainaaGreat

namespace Go.Proofs.YtkefjeabckainaaGreat
section
theorem str_beq (s t : ByteArray) : (s.toList == t.toList) = decide (s = t) := by
  rw [ByteArray.toList_eq, ByteArray.toList_eq]
  by_cases h : s = t
  · subst h; simp
  · have h2 : ¬ s.data = t.data := fun e => h (ByteArray.ext e)
    simp [h, h2]
end
end Go.Proofs.YtkefjeabckainaaGreat

namespace Go.Proofs.YtkefjeabckainaaGreat
section
open Go.RowKit
set_option maxRecDepth 100000

def RowW (w : World) (k : Nat) (v : Value) (n : Nat) (xs : List Value) : Prop :=
  xs.length = n * k ∧ ∃ a c, v = .slice a n c ∧ n ≤ c ∧ c ≤ maxLen ∧ (a = none → c = 0) ∧ ∀ i u, xs[i]? = some u → ∃ b o, a = some ⟨b, o, none⟩ ∧ w.cell? ⟨b, o + i, none⟩ = some u
theorem RowAt.weak {w : World} {k n : Nat} {v : Value} {xs : List Value} (h : RowAt w k v n xs) : RowW w k v n xs := by
  obtain ⟨hl, a, c, hv, h1, h2, h3, _, h4⟩ := h
  exact ⟨hl, a, c, hv, h1, h2, h3, h4⟩
theorem RowW.keeps {w w' : World} {k n : Nat} {v : Value} {xs : List Value} (h : RowW w k v n xs) (hk : Keeps w w') : RowW w' k v n xs := by
  obtain ⟨hl, a, c, hv, h1, h2, h3, h4⟩ := h
  refine ⟨hl, a, c, hv, h1, h2, h3, fun i u hu => ?_⟩
  obtain ⟨b, o, ha, hc⟩ := h4 i u hu
  exact ⟨b, o, ha, hk.cells _ _ hc⟩
theorem RowW.below {w w' : World} {k n : Nat} {v : Value} {xs : List Value} (h : RowW w k v n xs) (hb : Below w.heap.size w w') : RowW w' k v n xs := h.keeps (.of_below hb)

theorem run_append_weak {P : Program} (w : World) (base : Nat) (t ty e : TypeId) (i : TypeInfo) (z : Value) (size bytes : Nat) (ht : P.underlying t = some (.slice e)) (hi : P.info? e = some i) (hz : i.zero = some z)
    (hsize : i.size = size) (hby : i.bytes = bytes) (hzs : z.cells.size = size) (hsz : 0 < size)
    (v : Value) (n : Nat) (xs : List Value) (hown : w.ownsRow base e size v n xs)
    (sv : Value) (m : Nat) (news : List Value) (hsrc : RowW w size sv m news) (h1 : ∀ u ∈ news, u.oneCell' = true)
    (h63 : n + m ≤ maxLen) (hbytes : (n + m) * bytes ≤ 140737488355328) (hbase : base ≤ w.heap.size) :
    ∃ a' c' w', (Builtin.append_ #[t, t] ty #[v, sv]).run P w = .ok (.slice a' (n + m) c') w' ∧ w'.ownsRow base e size (.slice a' (n + m) c') (n + m) (xs ++ news) ∧ w.grownBy w' v.ownBlock := by
  obtain ⟨hl, a, c, rfl, hc1, hc2, hc3, hcell⟩ := hsrc
  cases a with
  | some ad =>
    have hnews : ∀ j u, news[j]? = some u → w.cell? (ad.add j) = some u := fun j u hu => by
      obtain ⟨b, o, hb, hcc⟩ := hcell j u hu
      cases hb
      rw [add_plain']; exact hcc
    obtain ⟨v', w', hr, ho, hg, _⟩ := run_append_own (P := P) w base t ty e i z size bytes ht hi hz hsize hby hzs hsz v n xs hown ad m c news hl hnews h1 h63 hbytes hbase
    obtain ⟨a', c', rfl⟩ := own_form ho
    exact ⟨a', c', w', hr, ho, hg⟩
  | none =>
    have hc0 := hc3 rfl
    obtain rfl : c = 0 := hc0
    obtain rfl : m = 0 := by omega
    have : news = [] := List.eq_nil_of_length_eq_zero (by simpa using hl)
    subst this
    exact run_append_row w base t ty e i z size bytes ht hi hz hsize hby hzs hsz v n xs hown _ 0 [] RowAt.nil h1 h63 hbytes hbase

theorem wpList_append_weak {P : Program} {t e size bytes : Nat} (E : ElemOk P t e size bytes) {ops : Array Oper} {rest : List Oper} {o : Oper} {a : Act} {Q : Exit → Act → World → Prop} (w : World) (hgd : o.guard = none) (s x : Operand)
    (ho : o.op = .call { callee := .builtin .append, args := #[s, x], argTypes := #[t, t] })
    (base : Nat) (v : Value) (n : Nat) (xs : List Value) (hs : a.eval s = v) (hown : w.ownsRow base e size v n xs)
    (sv : Value) (m : Nat) (news : List Value) (hx : a.eval x = sv) (hsrc : RowW w size sv m news) (h1 : ∀ u ∈ news, u.oneCell' = true)
    (h63 : n + m ≤ maxLen) (hbytes : (n + m) * bytes ≤ 140737488355328) (hbase : base ≤ w.heap.size)
    (h : ∀ a' c' w', w'.ownsRow base e size (.slice a' (n + m) c') (n + m) (xs ++ news) → w.grownBy w' v.ownBlock → wpList P ops Q rest (a.put o.dst (.slice a' (n + m) c')) w') : wpList P ops Q (o :: rest) a w :=
  wpList_plain hgd fun K hK => by
    obtain ⟨i, z, hi, hz, hsize, hby, hzs⟩ := E.hi
    refine wp_append_run s x t ho hs hx (R := fun v' w' => ∃ a' c', v' = .slice a' (n + m) c' ∧ w'.ownsRow base e size (.slice a' (n + m) c') (n + m) (xs ++ news) ∧ w.grownBy w' v.ownBlock) ?_ ?_
    · obtain ⟨a', c', w', hr, h2, h3⟩ := run_append_weak (P := P) w base t o.type e i z size bytes E.ht hi hz hsize hby hzs E.hsz v n xs hown sv m news hsrc h1 h63 hbytes hbase
      exact ⟨_, w', hr, a', c', rfl, h2, h3⟩
    · rintro _ w' ⟨a', c', rfl, h2, h3⟩
      exact hK _ _ (h a' c' w' h2 h3)

def TxtsAt (w : World) (v : Value) (L : List ByteArray) : Prop := RowW w 1 v L.length (L.map fun s => Value.string s)
theorem TxtsAt.cell {w : World} {a : Option Addr} {n c : Nat} {L : List ByteArray} (h : TxtsAt w (.slice a n c) L) (i : Nat) (hi : i < L.length) : ∃ b o, a = some ⟨b, o, none⟩ ∧ w.cell? ⟨b, o + i, none⟩ = some (.string L[i]) := by
  obtain ⟨_, a', c', hv, h1, h2, h3, h4⟩ := h
  cases hv
  exact h4 i _ (by simp [hi])
theorem TxtsAt.form {w : World} {v : Value} {L : List ByteArray} (h : TxtsAt w v L) : ∃ a c, v = .slice a L.length c ∧ L.length ≤ c ∧ c ≤ maxLen := by
  obtain ⟨_, a, c, hv, h1, h2, _⟩ := h
  exact ⟨a, c, hv, h1, h2⟩
theorem TxtsAt.below {w w' : World} {v : Value} {l : List ByteArray} (h : TxtsAt w v l) (hb : Below w.heap.size w w') : TxtsAt w' v l := RowW.below h hb
theorem TxtsAt.take {w : World} {a : Option Addr} {n c : Nat} {l : List ByteArray} (h : TxtsAt w (.slice a n c) l) (k c2 : Nat) (hk : k ≤ l.length) (hc2 : k ≤ c2) (hc3 : c2 ≤ c) : TxtsAt w (.slice a k c2) (l.take k) := by
  obtain ⟨_, a', c', hv, h1, h2, h3, h4⟩ := h
  cases hv
  refine ⟨by simp, a, c2, by simp; omega, by simp; omega, by omega, fun h => (by have := h3 h; omega), fun i u hu => ?_⟩
  have hi : i < (l.take k).length := by have := (List.getElem?_eq_some_iff.1 hu).1; simpa using this
  simp only [List.length_take] at hi
  refine h4 i u ?_
  rw [← hu]; simp [List.getElem?_take]; omega
theorem TxtsAt.of_own {w : World} {base e : Nat} {v : Value} {L : List ByteArray} (h : w.ownsRow base e 1 v L.length (L.map fun s => Value.string s)) : TxtsAt w v L := (RowAt.of_own h).weak
theorem TxtsAt.nil {w : World} : TxtsAt w (.slice none 0 0) [] := RowAt.nil.weak
end
end Go.Proofs.YtkefjeabckainaaGreat

namespace Go.Proofs.YtkefjeabckainaaGreat
section
open Go.RowKit
set_option maxRecDepth 100000
set_option linter.unusedVariables false

def hasS (l : List ByteArray) (s : ByteArray) : Bool := l.any fun x => decide (x = s)
theorem hasS_iff {l : List ByteArray} {s : ByteArray} : hasS l s = true ↔ s ∈ l := by
  unfold hasS
  rw [List.any_eq_true]
  exact ⟨fun ⟨x, h, e⟩ => of_decide_eq_true e ▸ h, fun h => ⟨s, h, decide_eq_true rfl⟩⟩
theorem hasS_true {l : List ByteArray} {s : ByteArray} {i : Nat} (hi : i < l.length) (h : l[i] = s) : hasS l s = true :=
  hasS_iff.2 (h ▸ List.getElem_mem hi)
theorem hasS_false {l : List ByteArray} {s : ByteArray} (h : ∀ j (h : j < l.length), j < l.length → l[j] ≠ s) : hasS l s = false := by
  rw [Bool.eq_false_iff]
  intro hm
  obtain ⟨j, hj, e⟩ := List.getElem_of_mem (hasS_iff.1 hm)
  exact h j hj hj e

def IdxPost (w : World) (r : Bool) (e : Ending) (w' : World) : Prop := ∃ i : Int, e = .returned (.int .i64 i) ∧ decide (0 ≤ i) = r ∧ w' = w

theorem sindex_any (v : Value) (l : List ByteArray) (s : ByteArray) (w : World) (hv : TxtsAt w v l) (hl : l.length < 4611686018427387904) :
    Calls Tryz.prog 172 #[v, .string s] w (IdxPost w (hasS l s)) := by
  obtain ⟨a, c, rfl, g1, g2⟩ := hv.form
  unfold maxLen at g2
  replace hv := hid hv
  go_enter Tryz.func172, Tryz.ntmps172
  go_wp2_with fail
  go_loopw [8] (fun kv wr => ∃ k : Nat, k ≤ l.length ∧ kv = .int .i64 (k : Int) ∧ wr = w ∧ Hid (∀ j (h : j < l.length), j < k → l[j] ≠ s)) (fun kv _ => l.length - (intOf kv).toNat)
  case atStart => exact ⟨0, by omega, rfl, rfl, hid (fun j _ h => by omega)⟩
  case round =>
    obtain ⟨k, hk, rfl, rfl, hall⟩ := hrel
    by_cases hkl : k < l.length
    · obtain ⟨b1, o1, ha1, hc1⟩ := TxtsAt.cell hv.out k hkl
      subst ha1
      by_cases hs : l[k] = s
      · have hT := hid (hasS_true hkl hs)
        rw [hs] at hc1
        clear hs
        go_wp2_with fail
        go_ret
        exact ⟨(k : Int), rfl, by rw [hT.out]; simp, rfl⟩
      · have hq : (s.toList == l[k].toList) = false := by rw [str_beq]; exact decide_eq_false fun e => hs e.symm
        replace hs := hid hs
        generalize hs1 : l[k] = s1 at *
        replace hs1 := hid hs1
        go_wp2_with fail
        go_roundw
        case rel => exact ⟨k + 1, by omega, by go_num, by first | rfl | trivial, hid (fun j h h2 => by
          by_cases hjk : j < k
          · exact hall.out j h hjk
          · obtain rfl : j = k := by omega
            rw [hs1.out]; exact hs.out)⟩
        case measure => simp [intOf]; omega
    · obtain rfl : k = l.length := by omega
      go_wp2_with fail
      go_ret
      exact ⟨-1, rfl, by rw [hasS_false hall.out]; rfl, rfl⟩

theorem scontains_any (v : Value) (l : List ByteArray) (s : ByteArray) (w : World) (hv : TxtsAt w v l) (hl : l.length < 4611686018427387904) :
    Calls Tryz.prog 134 #[v, .string s] w fun e w' => e = .returned (.bool (hasS l s)) ∧ w' = w := by
  have h := hid (sindex_any v l s w hv hl)
  obtain ⟨a, c, rfl, g1, g2⟩ := hv.form
  clear hv
  go_enter Tryz.func134, Tryz.ntmps134
  go_wp2_with fail
  refine h.out.mono ?_
  rintro e w1 ⟨i, rfl, hi, rfl⟩
  replace hi := hid hi
  go_wp2_with fail
  go_ret
  exact ⟨ret_bool (by rw [← hi.out]), rfl⟩

end
end Go.Proofs.YtkefjeabckainaaGreat

namespace Go.Proofs.YtkefjeabckainaaGreat
section
open Go.RowKit
set_option maxRecDepth 100000
set_option linter.unusedVariables false

structure Grp where
  name : ByteArray
  mv : Value
  mem : List ByteArray
def Grp.cells (g : Grp) : List Value := [.string g.name, g.mv]
def GrpsAt (w : World) (v : Value) (gs : List Grp) : Prop := RowW w 2 v gs.length (gs.flatMap Grp.cells) ∧ ∀ g ∈ gs, TxtsAt w g.mv g.mem
theorem gflat_get (gs : List Grp) (i : Nat) (hi : i < gs.length) : (gs.flatMap Grp.cells)[i * 2]? = some (.string gs[i].name) ∧ (gs.flatMap Grp.cells)[i * 2 + 1]? = some gs[i].mv := by
  induction gs generalizing i with
  | nil => simp at hi
  | cons g r ih =>
    cases i with
    | zero => simp [List.flatMap_cons, Grp.cells]
    | succ k =>
      have := ih k (by simpa using hi)
      simp only [List.flatMap_cons]
      rw [List.getElem?_append_right (by simp [Grp.cells]; omega), List.getElem?_append_right (by simp [Grp.cells]; omega)]
      simp only [Grp.cells, List.length_cons, List.length_nil, List.getElem_cons_succ]
      rw [show (k + 1) * 2 - (0 + 1 + 1) = k * 2 by omega, show (k + 1) * 2 + 1 - (0 + 1 + 1) = k * 2 + 1 by omega]
      exact this
theorem GrpsAt.form {w : World} {v : Value} {gs : List Grp} (h : GrpsAt w v gs) : ∃ a c, v = .slice a gs.length c ∧ gs.length ≤ c ∧ c ≤ maxLen := by
  obtain ⟨⟨_, a', c', hv, h1, h2, _⟩, _⟩ := h
  exact ⟨a', c', hv, h1, h2⟩
theorem GrpsAt.cell {w : World} {a : Option Addr} {n c : Nat} {gs : List Grp} (h : GrpsAt w (.slice a n c) gs) (i : Nat) (hi : i < gs.length) :
    ∃ b o, a = some ⟨b, o, none⟩ ∧ w.cell? ⟨b, o + i * 2, none⟩ = some (.string gs[i].name) ∧ w.cell? ⟨b, o + i * 2 + 1, none⟩ = some gs[i].mv ∧ TxtsAt w gs[i].mv gs[i].mem := by
  obtain ⟨⟨_, a', c', hv, h1, h2, h3, h4⟩, hm⟩ := h
  cases hv
  obtain ⟨e1, e2⟩ := gflat_get gs i hi
  obtain ⟨b, o, ha, hc⟩ := h4 (i * 2) _ e1
  obtain ⟨b', o', ha', hc'⟩ := h4 (i * 2 + 1) _ e2
  rw [ha] at ha'
  cases ha'
  exact ⟨b, o, ha, hc, hc', hm _ (List.getElem_mem hi)⟩
theorem GrpsAt.below {w w' : World} {v : Value} {gs : List Grp} (h : GrpsAt w v gs) (hb : Below w.heap.size w w') : GrpsAt w' v gs :=
  ⟨RowW.below h.1 hb, fun g hg => RowW.below (h.2 g hg) hb⟩

def memB (grp usr : ByteArray) (g : Grp) : Bool := decide (g.name = grp) && hasS g.mem usr
def BoxS (w : World) (b : Nat) (s : ByteArray) : Prop := w.heap[b]? = some (.cells #[.string s] 9 (0, 0))

theorem in1_any (g : Grp) (bg bu : Nat) (grp usr : ByteArray) (w : World) (hm : TxtsAt w g.mv g.mem) (hl : g.mem.length < 4611686018427387904) (h1 : BoxS w bg grp) (h2 : BoxS w bu usr) :
    Calls Tryz.prog 144 #[.agg #[.string g.name, g.mv], .pointer (some ⟨bg, 0, none⟩), .pointer (some ⟨bu, 0, none⟩)] w fun e w' => e = .returned (.bool (memB grp usr g)) ∧ Below w.heap.size w w' := by
  have hb0 := (Below.refl w.heap.size w).alloc (Nat.le_refl _) (.cells #[.string g.name, g.mv] 154)
  have c1 : (w.alloc (.cells #[.string g.name, g.mv] 154)).cell? ⟨bg, 0, none⟩ = some (.string grp) := block_cell ((hb0.block bg (lt_of_block h1)).trans h1) 0
  have c2 : (w.alloc (.cells #[.string g.name, g.mv] 154)).cell? ⟨bu, 0, none⟩ = some (.string usr) := block_cell ((hb0.block bu (lt_of_block h2)).trans h2) 0
  have hc := hid (scontains_any g.mv g.mem usr _ (hm.below hb0) hl)
  replace hb0 := hid hb0
  replace h1 := hid h1
  replace h2 := hid h2
  unfold memB
  by_cases hn : g.name = grp
  · have hq : (g.name.toList == grp.toList) = true := by rw [hn]; simp
    rw [show decide (g.name = grp) = true from decide_eq_true hn, Bool.true_and]
    clear hn
    go_enter Tryz.func144, Tryz.ntmps144
    go_wp2_with fail
    refine hc.out.mono ?_
    rintro e w1 ⟨rfl, rfl⟩
    go_wp2_with fail
    go_ret
    exact ⟨rfl, hb0.out⟩
  · have hq : (g.name.toList == grp.toList) = false := by rw [str_beq]; exact decide_eq_false hn
    rw [show decide (g.name = grp) = false from decide_eq_false hn, Bool.false_and]
    clear hn
    go_enter Tryz.func144, Tryz.ntmps144
    go_wp2_with fail
    go_ret
    exact ⟨rfl, hb0.out⟩

def Tests (f : FuncId) (cap : Array Value) (w : World) (p : Grp → Bool) (gs : List Grp) : Prop := ∀ g ∈ gs, ∀ w', Below w.heap.size w w' → Calls Tryz.prog f (#[.agg #[.string g.name, g.mv]] ++ cap) w' fun e w2 => e = .returned (.bool (p g)) ∧ Below w'.heap.size w' w2

set_option maxHeartbeats 1600000 in
theorem ifunc_any (v : Value) (gs : List Grp) (f : FuncId) (cap : Array Value) (p : Grp → Bool) (w : World) (hv : GrpsAt w v gs) (hl : gs.length < 4611686018427387904) (hT : Tests f cap w p gs)
    (hE : ∀ args W, Sem.run Tryz.prog (callFunc f args) W = .ok (.enter f args) W) :
    Calls Tryz.prog 181 #[v, .func (.func f) #[] cap] w fun e w' => ∃ i : Int, e = .returned (.int .i64 i) ∧ decide (0 ≤ i) = gs.any p ∧ Below w.heap.size w w' := by
  obtain ⟨a, c, rfl, g1, g2⟩ := hv.form
  unfold maxLen at g2
  replace hv := hid hv
  replace hT := hid hT
  replace hE := hid hE
  go_enter Tryz.func181, Tryz.ntmps181
  go_wp2_with fail
  go_loopw [8] (fun kv wr => ∃ k : Nat, k ≤ gs.length ∧ kv = .int .i64 (k : Int) ∧ Hid (Below w.heap.size w wr) ∧ Hid ((gs.take k).any p = false)) (fun kv _ => gs.length - (intOf kv).toNat)
  case atStart => exact ⟨0, by omega, rfl, hid (Below.refl _ _), hid (by simp)⟩
  case round =>
    obtain ⟨k, hk, rfl, hB, hall⟩ := hrel
    by_cases hkl : k < gs.length
    · have hv1 := hv.out.below hB.out
      obtain ⟨b1, o1, ha1, hc1, hc2, _⟩ := GrpsAt.cell hv1 k hkl
      subst ha1
      have hcall := hid (hT.out _ (List.getElem_mem hkl) wr hB.out)
      clear hv1
      generalize hg : gs[k] = g at *
      replace hg := hid hg
      have hE' := hE.out (#[.agg #[.string g.name, g.mv]] ++ cap) wr
      go_wp2_with fail
      refine hcall.out.mono ?_
      rintro e w2 ⟨rfl, hb2⟩
      have hB2 := hid (sn hB.out hb2)
      clear hb2 hcall hE' hc1 hc2
      cases hp : p g with
      | true =>
        go_wp2_with fail
        go_ret
        exact ⟨(k : Int), rfl, by
          rw [List.any_eq_true.2 ⟨g, by rw [← hg.out]; exact List.getElem_mem hkl, hp⟩]; simp, hB2.out⟩
      | false =>
        have hall2 := hid (show (gs.take (k + 1)).any p = false by
          rw [List.take_succ_eq_append_getElem hkl, List.any_append, hall.out, hg.out]
          simp [hp])
        replace hp := hid hp
        go_wp2_with fail
        go_roundw
        case rel => exact ⟨k + 1, by omega, by go_num, hB2, hall2⟩
        case measure => simp [intOf]; omega
    · obtain rfl : k = gs.length := by omega
      go_wp2_with fail
      go_ret
      exact ⟨-1, rfl, by have := hall.out; rw [List.take_length] at this; rw [this]; rfl, hB.out⟩

theorem cfunc_any (v : Value) (gs : List Grp) (f : FuncId) (cap : Array Value) (p : Grp → Bool) (w : World) (hv : GrpsAt w v gs) (hl : gs.length < 4611686018427387904) (hT : Tests f cap w p gs)
    (hE : ∀ args W, Sem.run Tryz.prog (callFunc f args) W = .ok (.enter f args) W) :
    Calls Tryz.prog 143 #[v, .func (.func f) #[] cap] w fun e w' => e = .returned (.bool (gs.any p)) ∧ Below w.heap.size w w' := by
  have h := hid (ifunc_any v gs f cap p w hv hl hT hE)
  obtain ⟨a, c, rfl, g1, g2⟩ := hv.form
  clear hv hT hE
  go_enter Tryz.func143, Tryz.ntmps143
  go_wp2_with fail
  refine h.out.mono ?_
  rintro e w1 ⟨i, rfl, hi, hb⟩
  replace hi := hid hi
  replace hb := hid hb
  go_wp2_with fail
  go_ret
  exact ⟨ret_bool (by rw [← hi.out]), hb.out⟩

theorem enter_in1 (args : Array Value) (W : World) : Sem.run Tryz.prog (callFunc 144 args) W = .ok (.enter 144 args) W := by
  rfl
theorem enter_group1 (args : Array Value) (W : World) : Sem.run Tryz.prog (callFunc 178 args) W = .ok (.enter 178 args) W := by
  rfl
end
end Go.Proofs.YtkefjeabckainaaGreat

namespace Go.Proofs.YtkefjeabckainaaGreat
section
open Go.RowKit
set_option maxRecDepth 100000
set_option linter.unusedVariables false

structure UB (us : List ByteArray) (gs : List Grp) : Prop where
  users : us.length < 4611686018427387904
  groups : gs.length < 4611686018427387904
  mems : ∀ g ∈ gs, g.mem.length < 4611686018427387904
def TabAt (w : World) (p : Nat) (us : List ByteArray) (gs : List Grp) : Prop :=
  ∃ uv gv, w.heap[p]? = some (.cells #[uv, gv] 211 (0, 0)) ∧ TxtsAt w uv us ∧ GrpsAt w gv gs
theorem TabAt.lt {w : World} {p : Nat} {us : List ByteArray} {gs : List Grp} (h : TabAt w p us gs) : p < w.heap.size := by
  obtain ⟨_, _, h, _⟩ := h
  exact lt_of_block h
theorem TabAt.below {w w' : World} {p : Nat} {us : List ByteArray} {gs : List Grp} (h : TabAt w p us gs) (hb : Below w.heap.size w w') : TabAt w' p us gs := by
  obtain ⟨uv, gv, h1, h2, h3⟩ := h
  exact ⟨uv, gv, (hb.block p (lt_of_block h1)).trans h1, h2.below hb, h3.below hb⟩

theorem has_any (p : Nat) (us : List ByteArray) (gs : List Grp) (s : ByteArray) (w : World) (h : TabAt w p us gs) (hl : us.length < 4611686018427387904) :
    Calls Tryz.prog 83 #[.pointer (some ⟨p, 0, none⟩), .string s] w fun e w' => e = .returned (.bool (hasS us s)) ∧ w' = w := by
  obtain ⟨uv, gv, h1, h2, h3⟩ := h
  have hc := hid (scontains_any uv us s w h2 hl)
  have c1 := block_cell h1 0
  replace h1 := hid h1
  clear h2 h3
  go_enter Tryz.func83, Tryz.ntmps83
  go_wp2_with fail
  refine hc.out.mono ?_
  rintro e w1 ⟨rfl, rfl⟩
  go_wp2_with fail
  go_ret
  exact ⟨rfl, rfl⟩

def inB (us : List ByteArray) (gs : List Grp) (who grp : ByteArray) : Bool := hasS us who && (decide (who = grp) || gs.any (memB grp who))

set_option maxHeartbeats 800000 in
theorem in_any (p : Nat) (us : List ByteArray) (gs : List Grp) (who grp : ByteArray) (w : World) (h : TabAt w p us gs) (hl : UB us gs) :
    Calls Tryz.prog 88 #[.pointer (some ⟨p, 0, none⟩), .string who, .string grp] w fun e w' => e = .returned (.bool (inB us gs who grp)) ∧ Below w.heap.size w w' := by
  obtain ⟨W, hW⟩ : ∃ W, W = (w.alloc (.cells #[.string who] 9)).alloc (.cells #[.string grp] 9) := ⟨_, rfl⟩
  have hb0 : Below w.heap.size w W := by rw [hW]; exact ((Below.refl w.heap.size w).alloc (Nat.le_refl _) _).alloc (by simp) _
  have hz : W.heap.size = w.heap.size + 2 := by rw [hW]; simp
  have hw1 : BoxS W w.heap.size who := by
    rw [hW]
    have := heap_alloc_new w (.cells #[.string who] 9)
    exact (((Below.refl _ _).alloc (Nat.le_refl _) _).block _ (by simp)).trans this
  have hw2 : BoxS W (w.heap.size + 1) grp := by
    rw [hW]
    have := heap_alloc_new (w.alloc (.cells #[.string who] 9)) (.cells #[.string grp] 9)
    simpa [BoxS] using this
  have hT := h.below hb0
  have hhas := hid (has_any p us gs who W hT hl.users)
  have hmf : ∀ (fn : Fn) (first cap : Array Value) (w : World), (Instr.makeFunc fn first cap).run Tryz.prog w = .ok (.func fn first cap) w := fun _ _ _ _ => rfl
  obtain ⟨uv, gv, h1, h2, h3⟩ := hT
  have hcf := hid (cfunc_any gv gs 144 #[.pointer (some ⟨w.heap.size + 1, 0, none⟩), .pointer (some ⟨w.heap.size, 0, none⟩)] (memB grp who) W h3 hl.groups
    (fun g hg w' hw => in1_any g (w.heap.size + 1) w.heap.size grp who w' (RowW.below (h3.2 g hg) hw) (hl.mems g hg) ((hw.block _ (by omega)).trans hw2) ((hw.block _ (by omega)).trans hw1)) enter_in1)
  have d1 : W.cell? ⟨w.heap.size, 0, none⟩ = some (.string who) := block_cell hw1 0
  have d2 : W.cell? ⟨w.heap.size + 1, 0, none⟩ = some (.string grp) := block_cell hw2 0
  have d3 : W.cell? ⟨p, 1, none⟩ = some gv := block_cell h1 1
  replace h1 := hid h1
  replace hb0 := hid hb0
  replace hw1 := hid hw1
  replace hw2 := hid hw2
  replace hz := hid hz
  unfold inB
  clear h h2 h3 hl
  cases hu : hasS us who with
  | false =>
    rw [hu] at hhas
    go_enter Tryz.func88, Tryz.ntmps88
    go_wp2_with (rw [← hW]; replace hW := hid hW)
    refine hhas.out.mono ?_
    rintro e w1 ⟨rfl, rfl⟩
    go_wp2_with fail
    go_ret
    exact ⟨rfl, hb0.out⟩
  | true =>
  rw [hu] at hhas
  replace hu := hid hu
  by_cases hg : who = grp
  · have hq : (who.toList == grp.toList) = true := by rw [hg]; simp
    have hr : Hid (decide (who = grp) = true) := hid (decide_eq_true hg)
    clear hg
    go_enter Tryz.func88, Tryz.ntmps88
    go_wp2_with (rw [← hW]; replace hW := hid hW)
    refine hhas.out.mono ?_
    rintro e w1 ⟨rfl, rfl⟩
    go_wp2_with fail
    go_ret
    exact ⟨ret_bool (by rw [hr.out]; rfl), hb0.out⟩
  · have hq : (who.toList == grp.toList) = false := by rw [str_beq]; exact decide_eq_false hg
    have hr : Hid (decide (who = grp) = false) := hid (decide_eq_false hg)
    clear hg
    go_enter Tryz.func88, Tryz.ntmps88
    go_wp2_with (rw [← hW]; replace hW := hid hW)
    refine hhas.out.mono ?_
    rintro e w1 ⟨rfl, rfl⟩
    go_wp2_with fail
    refine hcf.out.mono ?_
    rintro e w1 ⟨rfl, hb1⟩
    have hB := hid (sn hb0.out hb1)
    clear hb1
    go_wp2_with fail
    go_ret
    exact ⟨ret_bool (by rw [hr.out]; rfl), hB.out⟩

end
end Go.Proofs.YtkefjeabckainaaGreat

namespace Go.Proofs.YtkefjeabckainaaGreat
section
set_option linter.unusedVariables false

def hasB (g o : Bool) (m : Nat) : Nat := (m % 8 ||| (if g then m / 8 % 8 else 0)) ||| (if o then m / 64 % 8 else 0)
def mayS (g o : Bool) (m want : Nat) : Bool := decide (want &&& (7 - hasB g o m) = 0)

theorem and7 (a : Nat) : a &&& 7 = a % 8 := Nat.and_two_pow_sub_one_eq_mod a 3
theorem and_mask7 (want h : Nat) (hh : h < 4294967296) : want &&& 7 &&& (4294967295 - h) = want &&& (7 - h % 8) := by
  rw [Nat.and_assoc, Nat.and_comm 7, and7]
  congr 1
  omega
theorem may_bits (want h : Nat) (hw : want < 4294967296) (hh : h < 4294967296) : (bits .andNot .u32 (bits .and .u32 (want : Int) 7) (h : Int) == 0) = decide (want &&& (7 - h % 8) = 0) := by
  have h7 : want &&& 7 < 4294967296 := Nat.lt_of_le_of_lt Nat.and_le_left hw
  rw [show (7 : Int) = ((7 : Nat) : Int) from rfl, u32_and_nat _ _ hw (by omega), u32_andNot_nat _ _ h7 hh, and_mask7 want h hh]
  by_cases h0 : want &&& (7 - h % 8) = 0
  · simp [h0]
  · simp only [h0, decide_false]
    simpa using h0
theorem or_lt32 {a b : Nat} (ha : a < 4294967296) (hb : b < 4294967296) : a ||| b < 4294967296 := Nat.or_lt_two_pow (n := 32) ha hb
theorem or_mod8 (a b : Nat) : (a ||| b) % 8 = a % 8 ||| b % 8 := Nat.or_mod_two_pow (n := 3)
def hasP (g o : Bool) (m : Nat) : Nat := if o then (if g then m ||| m / 8 else m) ||| m / 64 else (if g then m ||| m / 8 else m)
theorem hasP_lt (g o : Bool) (m : Nat) (hm : m < 4294967296) : hasP g o m < 4294967296 := by
  unfold hasP
  have h8 : m / 8 < 4294967296 := by omega
  have h64 : m / 64 < 4294967296 := by omega
  cases g <;> cases o <;> simp [or_lt32, hm, h8, h64]
theorem hasP_mod (g o : Bool) (m : Nat) : hasP g o m % 8 = hasB g o m := by
  unfold hasP hasB
  cases g <;> cases o <;> simp [or_mod8]
theorem hasP_tt (m : Nat) (hm : m < 4294967296) : bits .or .u32 (bits .or .u32 (m : Int) ((m : Int) / 8)) ((m : Int) / 64) = ((hasP true true m : Nat) : Int) := by
  rw [show (m : Int) / 8 = ((m / 8 : Nat) : Int) from rfl, show (m : Int) / 64 = ((m / 64 : Nat) : Int) from rfl, u32_or_nat _ _ hm (by omega), u32_or_nat _ _ (or_lt32 hm (by omega)) (by omega)]
  rfl
theorem hasP_tf (m : Nat) (hm : m < 4294967296) : bits .or .u32 (m : Int) ((m : Int) / 8) = ((hasP true false m : Nat) : Int) := by
  rw [show (m : Int) / 8 = ((m / 8 : Nat) : Int) from rfl, u32_or_nat _ _ hm (by omega)]
  rfl
theorem hasP_ft (m : Nat) (hm : m < 4294967296) : bits .or .u32 (m : Int) ((m : Int) / 64) = ((hasP false true m : Nat) : Int) := by
  rw [show (m : Int) / 64 = ((m / 64 : Nat) : Int) from rfl, u32_or_nat _ _ hm (by omega)]
  rfl
theorem may_prog (g o : Bool) (m want : Nat) (hm : m < 4294967296) (hw : want < 4294967296) : (bits .andNot .u32 (bits .and .u32 (want : Int) 7) ((hasP g o m : Nat) : Int) == 0) = mayS g o m want := by
  rw [may_bits want _ hw (hasP_lt g o m hm), hasP_mod]
  rfl
end
end Go.Proofs.YtkefjeabckainaaGreat

namespace Go.Proofs.YtkefjeabckainaaGreat
section
open Go.RowKit
set_option maxRecDepth 100000
set_option linter.unusedVariables false

def calledB (s : ByteArray) : Bool := !s.data.toList.any (· == 32) && decide (nameN s = 0)
theorem index32 (s : ByteArray) : decide (0 ≤ Lib.indexByte s.data.toList 32) = s.data.toList.any (· == 32) := by
  rw [indexByte_mem]
  have h : ∀ l : List UInt8, l.contains 32 = l.any (· == 32) := by
    intro l
    induction l with
    | nil => rfl
    | cons b l ih => rw [List.contains_cons, List.any_cons, ih, Bool.beq_comm]
  exact h _

set_option maxHeartbeats 800000 in
theorem uname_any (s : ByteArray) (w : World) (hs : s.size ≤ maxLen) :
    Calls Tryz.prog 177 #[.string s] w fun e w' => e = .returned (.bool (calledB s)) ∧ Below w.heap.size w w' := by
  have hn := hid (name_any s w hs)
  have hc := hid (fun W => Tryz.strings_Contains_one s 32 W)
  have hE : Hid (calledB s = (decide (nameN s = 0) && !decide (0 ≤ Lib.indexByte s.data.toList 32))) := hid (by rw [index32]; unfold calledB; rw [Bool.and_comm])
  by_cases h0 : nameN s = 0
  · rw [h0] at hn hE
    go_enter Tryz.func177, Tryz.ntmps177
    go_wp2_with fail
    refine hn.out.mono ?_
    rintro e w1 ⟨rfl, hb⟩
    replace hb := hid hb
    go_wp2_with fail
    refine (hc.out _).mono ?_
    rintro e w2 ⟨rfl, rfl⟩
    go_wp2_with fail
    go_ret
    exact ⟨ret_bool (by rw [hE.out]; simp), hb.out⟩
  · have hk : (((nameN s : Nat) : Int) == 0) = false := by simpa using h0
    have hE2 : Hid (calledB s = false) := hid (by rw [hE.out, decide_eq_false h0]; rfl)
    clear h0 hE
    go_enter Tryz.func177, Tryz.ntmps177
    go_wp2_with fail
    refine hn.out.mono ?_
    rintro e w1 ⟨rfl, hb⟩
    replace hb := hid hb
    go_wp2_with fail
    go_ret
    exact ⟨ret_bool (by rw [hE2.out]), hb.out⟩

theorem umust_ok (e : Nat) (w : World) : Calls Tryz.prog 139 #[.bool false, .int .i64 (e : Int)] w fun en w' => en = .returned (.tuple #[]) ∧ w' = w := by
  go_enter Tryz.func139, Tryz.ntmps139
  go_wp2_with fail
  go_end0
  exact ⟨rfl, rfl⟩

def MemAt (w : World) (v : Value) (l : List ByteArray) : Prop := TxtsAt w v l ∧ ∀ a n c, v = .slice (some a) n c → ∃ cs, w.heap[a.block]? = some (.cells cs 9 (0, 0))
theorem MemAt.of_own {w : World} {base : Nat} {v : Value} {l : List ByteArray} (h : w.ownsRow base 9 1 v l.length (l.map fun s => Value.string s)) : MemAt w v l := by
  refine ⟨TxtsAt.of_own h, ?_⟩
  rintro a n c rfl
  rcases h.2 with ⟨h1, h2⟩ | ⟨g, cap, cur, hv, hb, hg, r⟩
  · cases h1
  · cases hv
    exact ⟨cur, hg⟩

theorem uelemS : ElemOk Tryz.prog 78 9 1 16 := elemOk_of Tryz.underlying78 infoS rfl (by decide)
theorem sclone_any (v : Value) (l : List ByteArray) (w : World) (hv : TxtsAt w v l) (hl : l.length ≤ 1000) :
    Calls Tryz.prog 179 #[v] w fun e w' => ∃ v', e = .returned v' ∧ MemAt w' v' l ∧ Below w.heap.size w w' := by
  obtain ⟨a, c, rfl, g1, g2⟩ := hv.form
  unfold maxLen at g2
  have qT := fun (w : World) (a : Option Addr) (n c n' c' : Nat) => Lib.run_eql_slice_nil (P := Tryz.prog) w 78 9 a n c n' c' Tryz.underlying78
  cases a with
  | none =>
    have hc0 : c = 0 := by
      obtain ⟨_, a', c', he, _, _, h3, _⟩ := hv
      cases he
      exact h3 rfl
    subst hc0
    have hl0 : l = [] := List.eq_nil_of_length_eq_zero (by omega)
    subst hl0
    simp only [List.length_nil] at *
    go_enter Tryz.func179, Tryz.ntmps179
    go_wp2_with fail
    go_ret
    exact ⟨_, rfl, ⟨TxtsAt.nil, fun _ _ _ h => by cases h⟩, Below.refl _ _⟩
  | some ad =>
    have hbA := (Below.refl w.heap.size w).alloc (Nat.le_refl _) (.cells #[] 9)
    have hvA := hid (hv.below hbA)
    replace hv := hid hv
    replace hbA := hid hbA
    go_enter Tryz.func179, Tryz.ntmps179
    go_wp2_with (at_builtin; refine wpList_append_weak uelemS _ rfl (.tmp 5) (.tmp 6) rfl w.heap.size _ 0 [] rfl (own_empty w _ _) _ l.length (l.map fun s => Value.string s) rfl hvA.out (by intro u hu; simp at hu; obtain ⟨s, _, rfl⟩ := hu; rfl) (by unfold maxLen; omega) (by omega) (by simp) ?_)
    intro a6 c6 w6 h6 g6
    have hB6 := hid (hbA.out.grown g6 (by simp) (fun j hj => by cases hj; exact Nat.le_refl _))
    go_wp2_with fail
    go_ret
    (try simp only [Nat.zero_add] at h6)
    exact ⟨_, rfl, MemAt.of_own h6, hB6.out⟩
end
end Go.Proofs.YtkefjeabckainaaGreat
