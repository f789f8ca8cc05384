/- What the functions of dread do, for every records whose texts are at most 200 bytes each. No further condition. -/
import Derived.Test.YtoblafeiidjaaaaStatE
import Derived.Deep.QuietTactic
import Derived.BigQuiet
namespace Go.Proofs.Ytoblafeiidjaaaa
open Go.RowKit
set_option maxRecDepth 100000

/-- The value v reads as the records L. -/
def StatsAt (w : World) (v : Value) (L : List Stat) : Prop := RowAt w 13 v L.length (L.flatMap fun s => s.cells.toList)
theorem StatsAt.below {w w' : World} {v : Value} {l : List Stat} (h : StatsAt w v l) (hb : Below w.heap.size w w') : StatsAt w' v l := RowAt.below h hb
theorem StatsAt.form {w : World} {v : Value} {l : List Stat} (h : StatsAt w v l) : ∃ a c, v = .slice a l.length c ∧ l.length ≤ c ∧ c ≤ maxLen := by
  obtain ⟨_, a, c, hv, h1, h2, _⟩ := h
  exact ⟨a, c, hv, h1, h2⟩

theorem flat_at {α β : Type} (f : α → List β) (n : Nat) : ∀ (L : List α) (_ : ∀ a ∈ L, (f a).length = n) (k j : Nat) (hk : k < L.length) (_ : j < n), (L.flatMap f)[k * n + j]? = (f L[k])[j]?
  | [], _, k, _, hk, _ => by simp at hk
  | a :: L, hf, 0, j, _, hj => by
    rw [List.flatMap_cons, List.getElem?_append_left (by rw [hf a (by simp)]; omega)]
    simp
  | a :: L, hf, k + 1, j, hk, hj => by
    have hl := hf a (by simp)
    rw [List.flatMap_cons, List.getElem?_append_right (by rw [hl, Nat.add_mul]; omega), hl, show (k + 1) * n + j - n = k * n + j by rw [Nat.add_mul]; omega]
    exact flat_at f n L (fun b hb => hf b (by simp [hb])) k j (by simpa using hk) hj

theorem StatsAt.cell {w : World} {a : Option Addr} {n c : Nat} {l : List Stat} (h : StatsAt w (.slice a n c) l) (k : Nat) (hk : k < l.length) : ∃ b o, a = some ⟨b, o, none⟩ ∧ ∀ j, j < 13 → w.cell? ⟨b, o + (k * 13 + j), none⟩ = l[k].cells[j]? := by
  obtain ⟨_, a', c', hv, h1, h2, h3, h5, h4⟩ := h
  cases hv
  have hat := flat_at (fun s : Stat => s.cells.toList) 13 l (fun _ _ => rfl) k
  have hcj : ∀ j, j < 13 → ∃ u, l[k].cells[j]? = some u := fun j hj => ⟨_, Array.getElem?_eq_getElem (show j < l[k].cells.size from hj)⟩
  obtain ⟨u0, hu0⟩ := hcj 0 (by omega)
  obtain ⟨b, o, ha, _⟩ := h4 (k * 13 + 0) u0 (by rw [hat 0 hk (by omega)]; simpa using hu0)
  refine ⟨b, o, ha, fun j hj => ?_⟩
  obtain ⟨u, hu⟩ := hcj j hj
  obtain ⟨b', o', ha', hc'⟩ := h4 (k * 13 + j) u (by rw [hat j hk hj]; simpa using hu)
  rw [ha] at ha'
  cases ha'
  rw [hc', hu]

/-- The cells of a record from place o of block b on. -/
def StatCells (w : World) (b o : Nat) (s : Stat) : Prop :=
  w.cell? ⟨b, o, none⟩ = some (.int .u16 (s.kind : Int)) ∧ w.cell? ⟨b, o + 1, none⟩ = some (.int .u32 (s.dev : Int)) ∧ w.cell? ⟨b, o + 2, none⟩ = some (.int .u8 (s.qt : Int)) ∧ w.cell? ⟨b, o + 3, none⟩ = some (.int .u32 (s.qv : Int)) ∧
  w.cell? ⟨b, o + 4, none⟩ = some (.int .u64 (s.qp : Int)) ∧ w.cell? ⟨b, o + 5, none⟩ = some (.int .u32 (s.mode : Int)) ∧ w.cell? ⟨b, o + 6, none⟩ = some (.int .u32 (s.atm : Int)) ∧ w.cell? ⟨b, o + 7, none⟩ = some (.int .u32 (s.mtm : Int)) ∧
  w.cell? ⟨b, o + 8, none⟩ = some (.int .u64 (s.len : Int)) ∧ w.cell? ⟨b, o + 9, none⟩ = some (.string s.name) ∧ w.cell? ⟨b, o + 10, none⟩ = some (.string s.uid) ∧ w.cell? ⟨b, o + 11, none⟩ = some (.string s.gid) ∧ w.cell? ⟨b, o + 12, none⟩ = some (.string s.muid)

theorem StatsAt.cells {w : World} {a : Option Addr} {n c : Nat} {l : List Stat} (h : StatsAt w (.slice a n c) l) (k : Nat) (hk : k < l.length) : ∃ b o, a = some ⟨b, o, none⟩ ∧ StatCells w b (o + k * 13) l[k] := by
  obtain ⟨b, o, ha, hc⟩ := h.cell k hk
  have hc' : ∀ j, j < 13 → w.cell? ⟨b, o + k * 13 + j, none⟩ = l[k].cells[j]? := fun j hj => by rw [Nat.add_assoc]; exact hc j hj
  exact ⟨b, o, ha, hc' 0 (by omega), hc' 1 (by omega), hc' 2 (by omega), hc' 3 (by omega), hc' 4 (by omega), hc' 5 (by omega), hc' 6 (by omega), hc' 7 (by omega), hc' 8 (by omega), hc' 9 (by omega), hc' 10 (by omega), hc' 11 (by omega), hc' 12 (by omega)⟩

/-- The object of dread at block r. -/
def RowIs (w : World) (r : Nat) (xs : List UInt8) (n most err : Nat) : Prop :=
  ∃ v, w.heap[r]? = some (.cells #[v, .int .i64 (n : Int), .int .u64 (most : Int), .int .i64 (err : Int)] 95 (0, 0)) ∧ w.ownsRow (r + 1) 5 1 v xs.length (xs.map byteV)

def fillS (most : Nat) : List Stat → List UInt8 → Nat → List UInt8 × Nat × Nat
  | [], b, n => (b, n, 0)
  | s :: l, b, n => if s.err ≠ 0 then (b, n, s.err) else if most < b.length + s.bytes.length then (b, n, 0) else fillS most l (b ++ s.bytes) (n + 1)

theorem own_below {w w' : World} {base e k n : Nat} {v : Value} {xs : List Value} (h2 : w.ownsRow base e k v n xs) (hb : Below w.heap.size w w') : w'.ownsRow base e k v n xs := by
  refine ⟨h2.1, ?_⟩
  rcases h2.2 with h3 | ⟨g, cap, cur, hv, hg, hh, r⟩
  · exact .inl h3
  · exact .inr ⟨g, cap, cur, hv, hg, (hb.block g (lt_of_block hh)).trans hh, r⟩
theorem RowIs.below {w w' : World} {r n most err : Nat} {xs : List UInt8} (h : RowIs w r xs n most err) (hb : Below w.heap.size w w') : RowIs w' r xs n most err := by
  obtain ⟨v, h1, h2⟩ := h
  exact ⟨v, (hb.block r (lt_of_block h1)).trans h1, own_below h2 hb⟩

theorem row_set_err {w : World} {r n most err e : Nat} {xs : List UInt8} (h : RowIs w r xs n most err) : RowIs (w.setCell ⟨r, 0 + 3, none⟩ (.int .i64 (e : Int))) r xs n most e := by
  obtain ⟨v, h1, h2⟩ := h
  exact ⟨v, block_set h1 3 _, ownsRow_setCell_below h2 (by show r < r + 1; omega) _⟩
theorem row_set_n {w : World} {r n most err k : Nat} {xs : List UInt8} (h : RowIs w r xs n most err) : RowIs (w.setCell ⟨r, 0 + 1, none⟩ (.int .i64 (k : Int))) r xs k most err := by
  obtain ⟨v, h1, h2⟩ := h
  exact ⟨v, block_set h1 1 _, ownsRow_setCell_below h2 (by show r < r + 1; omega) _⟩

theorem assert_full_no (e : Int) (w : World) : (Instr.typeAssert (.iface 24 (.int .i64 e)) 20 118 true).run Try.prog w = .ok (.tuple #[.agg #[], .bool false]) w := by kernel_rfl
theorem assert_full (w : World) : (Instr.typeAssert (.iface 118 (.agg #[])) 20 118 true).run Try.prog w = .ok (.tuple #[.agg #[], .bool true]) w := by kernel_rfl

theorem row_caught_err (r : Nat) (xs : List UInt8) (n most e0 e : Nat) (w : World) (h : RowIs w r xs n most e0) :
    CallsD Try.prog 74 #[.pointer (some ⟨r, 0, none⟩)] (.panicking (errChain e)) w fun en u' w' =>
      en = .returned (.tuple #[]) ∧ u' = .panicking (errChainR e) ∧ RowIs w' r xs n most e ∧ Below r w w' := by
  have hst := row_set_err (e := e) h
  obtain ⟨v, hb, hl⟩ := h
  have hc1 : w.cell? ⟨r, 0 + 3, none⟩ = some (.int .i64 (e0 : Int)) := block_cell hb 3
  have hf1 : w.frozen? ⟨r, 0 + 3, none⟩ = false := block_free hb 3
  have hbs := (Below.refl r w).setCell (p := ⟨r, 0 + 3, none⟩) (Nat.le_refl _) (.int .i64 (e : Int))
  clear hb
  have hta := assert_errno
  have htb := assert_full_no
  refine callsD_of_wpS Try.func74 rfl fun c₀ cs hu => ?_
  apply wpS_seq
  apply wpS_region
  simp [wpOpsS, go_sem, recoverD, hu, errChain, Try.ntmps74, Exit.thenS, Array.replicate_succ]
  apply wpS_body
  go_wp2
  go_end0
  exact ⟨rfl, rfl, hst, hbs⟩

def fullChain : List PanicEntry := [{ v := .iface 118 (.agg #[]), recovered := false }]
def fullChainR : List PanicEntry := [{ v := .iface 118 (.agg #[]), recovered := true }]

theorem row_caught_full (r : Nat) (w : World) :
    CallsD Try.prog 74 #[.pointer (some ⟨r, 0, none⟩)] (.panicking fullChain) w fun en u' w' =>
      en = .returned (.tuple #[]) ∧ u' = .panicking fullChainR ∧ w = w' := by
  have htb := assert_full
  refine callsD_of_wpS Try.func74 rfl fun c₀ cs hu => ?_
  apply wpS_seq
  apply wpS_region
  simp [wpOpsS, go_sem, recoverD, hu, fullChain, Try.ntmps74, Exit.thenS, Array.replicate_succ]
  apply wpS_body
  go_wp2
  go_end0
  exact ⟨rfl, rfl, rfl⟩

theorem row_caught_idle (r : Nat) (w : World) :
    CallsD Try.prog 74 #[.pointer (some ⟨r, 0, none⟩)] .returning w fun en u' w' => en = .returned (.tuple #[]) ∧ u' = .returning ∧ w = w' := by
  have htn : ∀ W : World, (Instr.typeAssert .nilIface 20 118 true).run Try.prog W = .ok (.tuple #[.agg #[], .bool false]) W := fun W => by kernel_rfl
  refine callsD_of_wpS Try.func74 rfl fun c₀ cs hu => ?_
  apply wpS_seq
  apply wpS_region
  simp [wpOpsS, go_sem, recoverD, hu, Try.ntmps74, Exit.thenS, Array.replicate_succ]
  rw [show c₀ = { c₀ with mode := .returning } from by cases c₀; simp_all]
  apply wpS_body
  go_wp2
  go_end0
  exact ⟨rfl, rfl⟩
end Go.Proofs.Ytoblafeiidjaaaa
