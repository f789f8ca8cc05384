/- A slice that reads as a list, wherever an empty one lies: of texts; append from it. No condition.
A slice of nodes; the binary search for a path, and what Get returns, for a sorted tree. Conditions: numbers in their types, the list sorted. -/
import Derived.Test.YtpmlhmficmillaaGreatBunOW
import Derived.Test.YtpmlhmficmillaaGreatBunTP
import Derived.Deep.MidRow
namespace Go.Proofs.YtpmlhmficmillaaGreat
section
open Go.RowKit
set_option maxRecDepth 100000

def RowW (w : World) (k : Nat) (v : Value) (n : Nat) (xs : List Value) : Prop :=
  xs.length = n * k ∧ ∃ a c, v = .slice a n c ∧ n ≤ c ∧ c ≤ maxLen ∧ (a = none → c = 0) ∧ ∀ i u, xs[i]? = some u → ∃ b o, a = some ⟨b, o, none⟩ ∧ w.cell? ⟨b, o + i, none⟩ = some u
theorem RowAt.weak {w : World} {k n : Nat} {v : Value} {xs : List Value} (h : RowAt w k v n xs) : RowW w k v n xs := by
  obtain ⟨hl, a, c, hv, h1, h2, h3, _, h4⟩ := h
  exact ⟨hl, a, c, hv, h1, h2, h3, h4⟩
theorem RowW.keeps {w w' : World} {k n : Nat} {v : Value} {xs : List Value} (h : RowW w k v n xs) (hk : Keeps w w') : RowW w' k v n xs := by
  obtain ⟨hl, a, c, hv, h1, h2, h3, h4⟩ := h
  refine ⟨hl, a, c, hv, h1, h2, h3, fun i u hu => ?_⟩
  obtain ⟨b, o, ha, hc⟩ := h4 i u hu
  exact ⟨b, o, ha, hk.cells _ _ hc⟩
theorem RowW.below {w w' : World} {k n : Nat} {v : Value} {xs : List Value} (h : RowW w k v n xs) (hb : Below w.heap.size w w') : RowW w' k v n xs := h.keeps (.of_below hb)

theorem run_append_weak {P : Program} (w : World) (base : Nat) (t ty e : TypeId) (i : TypeInfo) (z : Value) (size bytes : Nat) (ht : P.underlying t = some (.slice e)) (hi : P.info? e = some i) (hz : i.zero = some z)
    (hsize : i.size = size) (hby : i.bytes = bytes) (hzs : z.cells.size = size) (hsz : 0 < size)
    (v : Value) (n : Nat) (xs : List Value) (hown : w.ownsRow base e size v n xs)
    (sv : Value) (m : Nat) (news : List Value) (hsrc : RowW w size sv m news) (h1 : ∀ u ∈ news, u.oneCell' = true)
    (h63 : n + m ≤ maxLen) (hbytes : (n + m) * bytes ≤ 140737488355328) (hbase : base ≤ w.heap.size) :
    ∃ a' c' w', (Builtin.append_ #[t, t] ty #[v, sv]).run P w = .ok (.slice a' (n + m) c') w' ∧ w'.ownsRow base e size (.slice a' (n + m) c') (n + m) (xs ++ news) ∧ w.grownBy w' v.ownBlock := by
  obtain ⟨hl, a, c, rfl, hc1, hc2, hc3, hcell⟩ := hsrc
  cases a with
  | some ad =>
    have hnews : ∀ j u, news[j]? = some u → w.cell? (ad.add j) = some u := fun j u hu => by
      obtain ⟨b, o, hb, hcc⟩ := hcell j u hu
      cases hb
      rw [add_plain']; exact hcc
    obtain ⟨v', w', hr, ho, hg, _⟩ := run_append_own (P := P) w base t ty e i z size bytes ht hi hz hsize hby hzs hsz v n xs hown ad m c news hl hnews h1 h63 hbytes hbase
    obtain ⟨a', c', rfl⟩ := own_form ho
    exact ⟨a', c', w', hr, ho, hg⟩
  | none =>
    have hc0 := hc3 rfl
    obtain rfl : c = 0 := hc0
    obtain rfl : m = 0 := by omega
    have : news = [] := List.eq_nil_of_length_eq_zero (by simpa using hl)
    subst this
    exact run_append_row w base t ty e i z size bytes ht hi hz hsize hby hzs hsz v n xs hown _ 0 [] RowAt.nil h1 h63 hbytes hbase

theorem wpList_append_weak {P : Program} {t e size bytes : Nat} (E : ElemOk P t e size bytes) {ops : Array Oper} {rest : List Oper} {o : Oper} {a : Act} {Q : Exit → Act → World → Prop} (w : World) (hgd : o.guard = none) (s x : Operand)
    (ho : o.op = .call { callee := .builtin .append, args := #[s, x], argTypes := #[t, t] })
    (base : Nat) (v : Value) (n : Nat) (xs : List Value) (hs : a.eval s = v) (hown : w.ownsRow base e size v n xs)
    (sv : Value) (m : Nat) (news : List Value) (hx : a.eval x = sv) (hsrc : RowW w size sv m news) (h1 : ∀ u ∈ news, u.oneCell' = true)
    (h63 : n + m ≤ maxLen) (hbytes : (n + m) * bytes ≤ 140737488355328) (hbase : base ≤ w.heap.size)
    (h : ∀ a' c' w', w'.ownsRow base e size (.slice a' (n + m) c') (n + m) (xs ++ news) → w.grownBy w' v.ownBlock → wpList P ops Q rest (a.put o.dst (.slice a' (n + m) c')) w') : wpList P ops Q (o :: rest) a w :=
  wpList_plain hgd fun K hK => by
    obtain ⟨i, z, hi, hz, hsize, hby, hzs⟩ := E.hi
    refine wp_append_run s x t ho hs hx (R := fun v' w' => ∃ a' c', v' = .slice a' (n + m) c' ∧ w'.ownsRow base e size (.slice a' (n + m) c') (n + m) (xs ++ news) ∧ w.grownBy w' v.ownBlock) ?_ ?_
    · obtain ⟨a', c', w', hr, h2, h3⟩ := run_append_weak (P := P) w base t o.type e i z size bytes E.ht hi hz hsize hby hzs E.hsz v n xs hown sv m news hsrc h1 h63 hbytes hbase
      exact ⟨_, w', hr, a', c', rfl, h2, h3⟩
    · rintro _ w' ⟨a', c', rfl, h2, h3⟩
      exact hK _ _ (h a' c' w' h2 h3)

def TxtsAt (w : World) (v : Value) (L : List ByteArray) : Prop := RowW w 1 v L.length (L.map fun s => Value.string s)
theorem TxtsAt.cell {w : World} {a : Option Addr} {n c : Nat} {L : List ByteArray} (h : TxtsAt w (.slice a n c) L) (i : Nat) (hi : i < L.length) : ∃ b o, a = some ⟨b, o, none⟩ ∧ w.cell? ⟨b, o + i, none⟩ = some (.string L[i]) := by
  obtain ⟨_, a', c', hv, h1, h2, h3, h4⟩ := h
  cases hv
  exact h4 i _ (by simp [hi])
theorem TxtsAt.form {w : World} {v : Value} {L : List ByteArray} (h : TxtsAt w v L) : ∃ a c, v = .slice a L.length c ∧ L.length ≤ c ∧ c ≤ maxLen := by
  obtain ⟨_, a, c, hv, h1, h2, _⟩ := h
  exact ⟨a, c, hv, h1, h2⟩
theorem TxtsAt.below {w w' : World} {v : Value} {l : List ByteArray} (h : TxtsAt w v l) (hb : Below w.heap.size w w') : TxtsAt w' v l := RowW.below h hb
theorem TxtsAt.take {w : World} {a : Option Addr} {n c : Nat} {l : List ByteArray} (h : TxtsAt w (.slice a n c) l) (k c2 : Nat) (hk : k ≤ l.length) (hc2 : k ≤ c2) (hc3 : c2 ≤ c) : TxtsAt w (.slice a k c2) (l.take k) := by
  obtain ⟨_, a', c', hv, h1, h2, h3, h4⟩ := h
  cases hv
  refine ⟨by simp, a, c2, by simp; omega, by simp; omega, by omega, fun h => (by have := h3 h; omega), fun i u hu => ?_⟩
  have hi : i < (l.take k).length := by have := (List.getElem?_eq_some_iff.1 hu).1; simpa using this
  simp only [List.length_take] at hi
  refine h4 i u ?_
  rw [← hu]; simp [List.getElem?_take]; omega
theorem TxtsAt.of_own {w : World} {base e : Nat} {v : Value} {L : List ByteArray} (h : w.ownsRow base e 1 v L.length (L.map fun s => Value.string s)) : TxtsAt w v L := (RowAt.of_own h).weak
theorem TxtsAt.nil {w : World} : TxtsAt w (.slice none 0 0) [] := RowAt.nil.weak
end
end Go.Proofs.YtpmlhmficmillaaGreat

namespace Go.Proofs.YtpmlhmficmillaaGreat
section
open Go.RowKit
set_option maxRecDepth 100000
set_option linter.unusedVariables false

def nodsL (l : List Nod) : List Value := l.flatMap fun n => n.cells.toList
theorem nodsL_length (l : List Nod) : (nodsL l).length = l.length * 12 := by
  induction l with
  | nil => rfl
  | cons n l ih =>
    show (n.cells.toList ++ nodsL l).length = _
    rw [List.length_append, ih, nod_cells, List.length_cons]
    simp; omega
theorem nodsL_append (l m : List Nod) : nodsL (l ++ m) = nodsL l ++ nodsL m := List.flatMap_append
theorem nodsL_get (l : List Nod) (i j : Nat) (hi : i < l.length) (hj : j < 12) : (nodsL l)[i * 12 + j]? = l[i].cells.toList[j]? := by
  induction l generalizing i with
  | nil => simp at hi
  | cons n l ih =>
    show (n.cells.toList ++ nodsL l)[i * 12 + j]? = _
    have h12 : n.cells.toList.length = 12 := by rw [nod_cells]; rfl
    cases i with
    | zero => rw [Nat.zero_mul, Nat.zero_add, List.getElem?_append_left (by omega)]; rfl
    | succ k =>
      rw [List.getElem?_append_right (by omega), h12, show (k + 1) * 12 + j - 12 = k * 12 + j by omega]
      exact ih k (by simpa using hi)
theorem nodsL_one (l : List Nod) : ∀ u ∈ nodsL l, u.oneCell' = true := by
  intro u hu
  obtain ⟨n, _, hn⟩ := List.mem_flatMap.1 hu
  have := nod_one n
  exact (Array.all_eq_true_iff_forall_mem.1 this) u (by simpa using hn)
def NodsAt (w : World) (v : Value) (l : List Nod) : Prop := RowW w 12 v l.length (nodsL l)
theorem NodsAt.form {w : World} {v : Value} {l : List Nod} (h : NodsAt w v l) : ∃ a c, v = .slice a l.length c ∧ l.length ≤ c ∧ c ≤ maxLen := by
  obtain ⟨_, a, c, hv, h1, h2, _⟩ := h
  exact ⟨a, c, hv, h1, h2⟩
theorem NodsAt.below {w w' : World} {v : Value} {l : List Nod} (h : NodsAt w v l) (hb : Below w.heap.size w w') : NodsAt w' v l := RowW.below h hb
theorem NodsAt.range {w : World} {a : Option Addr} {n c : Nat} {l : List Nod} (h : NodsAt w (.slice a n c) l) (i : Nat) (hi : i < l.length) : ∃ b o, a = some ⟨b, o, none⟩ ∧ w.rangeAt b (o + i * 12) l[i].cells.toList := by
  obtain ⟨_, a', c', hv, h1, h2, h3, h4⟩ := h
  cases hv
  obtain ⟨b, o, ha, _⟩ := h4 (i * 12) _ (by rw [show i * 12 = i * 12 + 0 from rfl, nodsL_get l i 0 hi (by omega), nod_cells]; rfl)
  refine ⟨b, o, ha, fun j u hu => ?_⟩
  have hj : j < 12 := by have := (List.getElem?_eq_some_iff.1 hu).1; rw [nod_cells] at this; simpa using this
  obtain ⟨b', o', ha', hc⟩ := h4 (i * 12 + j) u (by rw [nodsL_get l i j hi hj]; exact hu)
  rw [ha] at ha'; cases ha'
  rw [Nat.add_assoc]; exact hc
theorem NodsAt.of_own {w : World} {base e n : Nat} {v : Value} {l : List Nod} (h : w.ownsRow base e 12 v n (nodsL l)) : NodsAt w v l := by
  have hn : n = l.length := by have := h.1; rw [nodsL_length] at this; omega
  subst hn
  exact (RowAt.of_own h).weak
theorem NodsAt.nil {w : World} : NodsAt w (.slice none 0 0) [] := RowAt.nil.weak
theorem NodsAt.clip {w : World} {a : Option Addr} {c : Nat} {l : List Nod} (h : NodsAt w (.slice a l.length c) l) : NodsAt w (.slice a l.length l.length) l := by
  obtain ⟨hl, a', c', hv, h1, h2, h3, h4⟩ := h
  cases hv
  exact ⟨hl, a, l.length, rfl, Nat.le_refl _, by omega, fun h => by have := h3 h; omega, h4⟩

def ordI (a b : Nat) : Int := if a < b then -1 else if b < a then 1 else 0
theorem ordI_neg (a b : Nat) : decide (ordI a b < 0) = decide (a < b) := by
  unfold ordI; by_cases h : a < b <;> by_cases h2 : b < a <;> simp [h, h2]
theorem ordI_zero (a b : Nat) : (ordI a b == 0) = decide (a = b) := by
  unfold ordI
  by_cases h : a < b
  · rw [if_pos h, decide_eq_false (by omega)]; rfl
  · by_cases h2 : b < a
    · rw [if_neg h, if_pos h2, decide_eq_false (by omega)]; rfl
    · rw [if_neg h, if_neg h2, decide_eq_true (by omega)]; rfl
theorem isnan64_any (a : Nat) (w : World) : Calls Tryz.prog 79 #[.int .u64 (a : Int)] w fun e w' => e = .returned (.bool false) ∧ w' = w := by
  go_enter Tryz.func79, Tryz.ntmps79
  go_wp2
  go_ret
  exact ⟨ret_bool (by simp), rfl⟩
theorem cmp64_any (a b : Nat) (w : World) : Calls Tryz.prog 57 #[.int .u64 (a : Int), .int .u64 (b : Int)] w fun e w' => e = .returned (.int .i64 (ordI a b)) ∧ w' = w := by
  have n1 := hid (fun W => isnan64_any a W)
  have n2 := hid (fun W => isnan64_any b W)
  unfold ordI
  by_cases h : a < b
  · rw [if_pos h]
    have k1 : decide ((a : Int) < (b : Int)) = true := by simpa using h
    have k2 : decide (a < b) = true := by simpa using h
    go_enter Tryz.func57, Tryz.ntmps57
    go_wp2_with fail
    refine (n1.out _).mono ?_
    rintro e w1 ⟨rfl, rfl⟩
    go_wp2_with fail
    refine (n2.out _).mono ?_
    rintro e w1 ⟨rfl, rfl⟩
    go_wp2_with fail
    go_ret
    exact ⟨rfl, rfl⟩
  · rw [if_neg h]
    have k1 : decide ((a : Int) < (b : Int)) = false := by simpa using h
    have k2 : decide (a < b) = false := by simpa using h
    by_cases h2 : b < a
    · rw [if_pos h2]
      have k3 : decide ((b : Int) < (a : Int)) = true := by simpa using h2
      have k4 : decide (b < a) = true := by simpa using h2
      go_enter Tryz.func57, Tryz.ntmps57
      go_wp2_with fail
      refine (n1.out _).mono ?_
      rintro e w1 ⟨rfl, rfl⟩
      go_wp2_with fail
      refine (n2.out _).mono ?_
      rintro e w1 ⟨rfl, rfl⟩
      go_wp2_with fail
      go_ret
      exact ⟨rfl, rfl⟩
    · rw [if_neg h2]
      have k3 : decide ((b : Int) < (a : Int)) = false := by simpa using h2
      have k4 : decide (b < a) = false := by simpa using h2
      go_enter Tryz.func57, Tryz.ntmps57
      go_wp2_with fail
      refine (n1.out _).mono ?_
      rintro e w1 ⟨rfl, rfl⟩
      go_wp2_with fail
      refine (n2.out _).mono ?_
      rintro e w1 ⟨rfl, rfl⟩
      go_wp2_with fail
      go_ret
      exact ⟨rfl, rfl⟩
theorem find1_any (n : Nod) (p : Nat) (w : World) : Calls Tryz.prog 56 #[.agg n.cells, .int .u64 (p : Int)] w fun e w' => e = .returned (.int .i64 (ordI n.path p)) ∧ Below w.heap.size w w' := by
  have hb := hid ((Below.refl w.heap.size w).alloc (Nat.le_refl _) (.cells n.cells 28))
  have hc := hid (fun W => cmp64_any n.path p W)
  rw [nod_cells] at hb ⊢
  go_enter Tryz.func56, Tryz.ntmps56
  go_wp2_with fail
  refine (hc.out _).mono ?_
  rintro e w1 ⟨rfl, rfl⟩
  go_wp2_with fail
  go_ret
  exact ⟨rfl, hb.out⟩
theorem enter_find1 (args : Array Value) (W : World) : Sem.run Tryz.prog (callFunc 56 args) W = .ok (.enter 56 args) W := by
  rfl

theorem wpList_load_cells {P : Program} {ops : Array Oper} {rest : List Oper} {op : Oper} {a : Act} {w : World} {Q : Exit → Act → World → Prop} (hgd : op.guard = none) (ty : TypeId) (x : Operand) (ho : op.op = .load ty x)
    (b o : Nat) (hx : a.eval x = .pointer (some ⟨b, o, none⟩)) (cs : Array Value) (d : TypeDesc) (hc : w.rangeAt b o cs.toList)
    (hu : P.underlying ty = some d) (hd : d.isRow = true) (hi : (P.info? ty).map (·.size) = some cs.size)
    (h : wpList P ops Q rest (a.put op.dst (.agg cs)) w) : wpList P ops Q (op :: rest) a w :=
  wpList_load_mid hgd ty x ho b o hx cs.toList d hc hu hd (by rw [hi]; simp) (by simpa using h)
theorem range12 {w : World} {b o : Nat} {n : Nod} (h : w.rangeAt b o n.cells.toList) : w.cell? ⟨b, o, none⟩ = some (.int .u64 (n.path : Int)) ∧ w.cell? ⟨b, o + 1, none⟩ = some (.int .u32 (n.vers : Int)) ∧ w.cell? ⟨b, o + 2, none⟩ = some (.int .u32 (n.mode : Int)) ∧ w.cell? ⟨b, o + 3, none⟩ = some (.int .u32 (n.atm : Int)) ∧ w.cell? ⟨b, o + 4, none⟩ = some (.int .u32 (n.mtm : Int)) ∧ w.cell? ⟨b, o + 5, none⟩ = some (.string n.name) ∧ w.cell? ⟨b, o + 6, none⟩ = some (.string n.uid) ∧ w.cell? ⟨b, o + 7, none⟩ = some (.string n.gid) ∧ w.cell? ⟨b, o + 8, none⟩ = some (.string n.muid) ∧ w.cell? ⟨b, o + 9, none⟩ = some (.int .u64 (n.up : Int)) ∧ w.cell? ⟨b, o + 10, none⟩ = some (.bool n.gone) ∧ w.cell? ⟨b, o + 11, none⟩ = some (.string n.data) :=
  ⟨h 0 _ rfl, h 1 _ rfl, h 2 _ rfl, h 3 _ rfl, h 4 _ rfl, h 5 _ rfl, h 6 _ rfl, h 7 _ rfl, h 8 _ rfl, h 9 _ rfl, h 10 _ rfl, h 11 _ rfl⟩
theorem getL_isSome {l : List Nod} (h : SortL l) (p : Nat) : (getL l p).isSome = (match l[belowN l p]? with | some n => decide (n.path = p) | none => false) := by
  rw [get_at h p]
  cases l[belowN l p]? with
  | none => rfl
  | some n => by_cases e : n.path = p <;> simp [e]

set_option maxHeartbeats 3200000 in
theorem bsearch_any (v : Value) (l : List Nod) (p : Nat) (w : World) (hv : NodsAt w v l) (hs : SortL l) (hl : l.length ≤ 1000) :
    Calls Tryz.prog 55 #[v, .int .u64 (p : Int), .func (.func 56) #[] #[]] w fun e w' => e = .returned (.tuple #[.int .i64 (belowN l p : Int), .bool (getL l p).isSome]) ∧ Below w.heap.size w w' := by
  obtain ⟨a, c, rfl, g1, g2⟩ := hv.form
  unfold maxLen at g2
  have hbl := belowN_le l p
  have hbg := hid (fun i hi => below_get hs p i hi)
  have hga := hid (getL_isSome hs p)
  have hE := hid enter_find1
  generalize (getL l p).isSome = r at *
  generalize belowN l p = q at *
  replace hv := hid hv
  replace hs := hid hs
  go_enter Tryz.func55, Tryz.ntmps55
  go_wp2_with fail
  go_loopw [9, 10] (fun iv jv wr => ∃ i j : Nat, i ≤ q ∧ q ≤ j ∧ j ≤ l.length ∧ iv = .int .i64 (i : Int) ∧ jv = .int .i64 (j : Int) ∧ Hid (Below w.heap.size w wr)) (fun iv jv _ => (intOf jv - intOf iv).toNat)
  case atStart => exact ⟨0, l.length, by omega, hbl, by omega, rfl, rfl, hid (Below.refl _ _)⟩
  case round =>
    obtain ⟨i, j, h1, h2, h3, rfl, rfl, hB⟩ := hrel
    by_cases hij : i < j
    · obtain ⟨m, hm⟩ : ∃ m, m = (i + j) / 2 := ⟨_, rfl⟩
      have em : ((i : Int) + (j : Int)) / 2 = (m : Int) := by omega
      have hmi : i ≤ m := by omega
      have hmj : m < j := by omega
      have hml : m < l.length := by omega
      replace hm := hid hm
      obtain ⟨b, o, ha, hr⟩ := (hv.out.below hB.out).range m hml
      subst ha
      have hiff := hid (hbg.out m hml)
      generalize l[m] = n at *
      have hcall := hid (find1_any n p wr)
      have hE' := hE.out #[.agg n.cells, .int .u64 (p : Int)] wr
      replace hr := hid hr
      go_wp2_with (refine wpList_load_cells (by rfl) 28 (.tmp 27) (by rfl) b (o + m * 12) (by rfl) n.cells _ hr.out Tryz.underlying28 (by rfl) (by kernel_rfl) ?_)
      refine hcall.out.mono ?_
      rintro e w2 ⟨rfl, hb2⟩
      have hB2 := hid (sn hB.out hb2)
      clear hb2 hcall hE' hr em
      have hneg := ordI_neg n.path p
      by_cases hlt : n.path < p
      · have hq := hiff.out.1 hlt
        rw [decide_eq_true hlt] at hneg
        clear hlt hiff
        go_wp2_with fail
        go_roundw
        case rel => exact ⟨m + 1, j, by omega, h2, h3, by go_num, rfl, hB2⟩
        case measure => simp [intOf]; omega
      · have hq : ¬ m < q := fun hh => hlt (hiff.out.2 hh)
        rw [decide_eq_false hlt] at hneg
        clear hlt hiff
        go_wp2_with fail
        go_roundw
        case rel => exact ⟨i, m, h1, by omega, by omega, rfl, rfl, hB2⟩
        case measure => simp [intOf]; omega
    · obtain rfl : i = q := by omega
      by_cases hil : i < l.length
      · obtain ⟨b, o, ha, hr⟩ := (hv.out.below hB.out).range i hil
        subst ha
        have hr2 : Hid (r = decide (l[i].path = p)) := hid (by rw [hga.out, List.getElem?_eq_getElem hil])
        generalize l[i] = n at *
        have hcall := hid (find1_any n p wr)
        have hE' := hE.out #[.agg n.cells, .int .u64 (p : Int)] wr
        have hz := ordI_zero n.path p
        rw [← hr2.out] at hz
        obtain ⟨d0, d1, d2, d3, d4, d5, d6, d7, d8, d9, d10, d11⟩ := range12 hr
        rw [nod_cells] at hE'
        replace hr := hid hr
        go_wp2_with fail
        refine hcall.out.mono ?_
        rintro e w2 ⟨rfl, hb2⟩
        have hB2 := hid (sn hB.out hb2)
        clear hb2 hcall hE' hr d0 d1 d2 d3 d4 d5 d6 d7 d8 d9 d10 d11
        go_wp2_with fail
        go_ret2
        exact ⟨rfl, hB2.out⟩
      · have hr2 : r = false := by rw [hga.out, List.getElem?_eq_none (by omega)]
        subst hr2
        have k1 : decide ((i : Int) < (l.length : Int)) = false := by simp; omega
        have k2 : decide (i < l.length) = false := by simp; omega
        go_wp2_with fail
        go_ret2
        exact ⟨rfl, hB.out⟩
end
end Go.Proofs.YtpmlhmficmillaaGreat
