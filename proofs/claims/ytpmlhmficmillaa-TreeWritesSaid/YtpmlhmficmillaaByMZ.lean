/- A slice of bytes of a call's own that began as a string's bytes: made, read, grown by a byte, stored into. Conditions: lengths of slices. -/
import Derived.Test.YtpmlhmficmillaaBunSB
import Derived.Laws.IdiomStrings
import Derived.Test.YtpmlhmficmillaaTextIOZ
namespace Go.Proofs.Ytpmlhmficmillaa
open Go.RowKit
set_option maxRecDepth 100000
set_option linter.unusedVariables false

/-- A row of bytes of the call's own; no byte of it is frozen. -/
def ByM (w : World) (base : Nat) (v : Value) (l : List UInt8) : Prop :=
  ∃ g cur fz, v = .slice (some ⟨g, 0, none⟩) l.length cur.size ∧ base ≤ g ∧ w.heap[g]? = some (.cells cur 5 fz) ∧ (∀ j, j < cur.size → (decide (fz.1 ≤ j) && decide (j < fz.2)) = false) ∧ l.length ≤ cur.size ∧ cur.size ≤ maxLen ∧ cur.toList.take l.length = l.map byteV
theorem ByM.below {w w' : World} {base : Nat} {v : Value} {l : List UInt8} (h : ByM w base v l) (hb : Below w.heap.size w w') : ByM w' base v l := by
  obtain ⟨g, cur, fz, h1, h2, h3, h4⟩ := h
  exact ⟨g, cur, fz, h1, h2, (hb.block _ (lt_of_block h3)).trans h3, h4⟩
theorem block_cellM {w : World} {g j : Nat} {cur : Array Value} {e : TypeId} {fz : Nat × Nat} (h : w.heap[g]? = some (.cells cur e fz)) : w.cell? ⟨g, j, none⟩ = cur[j]? := by simp [World.cell?, h]
theorem block_frozenM {w : World} {g j : Nat} {cur : Array Value} {e : TypeId} {fz : Nat × Nat} (h : w.heap[g]? = some (.cells cur e fz)) : w.frozen? ⟨g, j, none⟩ = (decide (fz.1 ≤ j) && decide (j < fz.2)) := by simp [World.frozen?, h]
theorem ByM.cells {w : World} {base g n c : Nat} {l : List UInt8} (h : ByM w base (.slice (some ⟨g, 0, none⟩) n c) l) : n = l.length ∧ l.length ≤ c ∧ c ≤ maxLen ∧ base ≤ g ∧ g < w.heap.size ∧ (∀ j (hj : j < l.length), w.cell? ⟨g, j, none⟩ = some (.int .u8 (l[j].toNat : Int))) ∧ ∀ j, j < c → w.frozen? ⟨g, j, none⟩ = false ∧ (w.cell? ⟨g, j, none⟩).isSome = true := by
  obtain ⟨g', cur, fz, h1, h2, h3, h4, h5, h6, h7⟩ := h
  cases h1
  refine ⟨rfl, h5, h6, h2, lt_of_block h3, fun j hj => ?_, fun j hj => ⟨?_, ?_⟩⟩
  · rw [block_cellM h3]
    have : (cur.toList.take l.length)[j]? = (l.map byteV)[j]? := by rw [h7]
    rw [List.getElem?_take_of_lt hj, Array.getElem?_toList] at this
    rw [this]
    simp [hj, byteV]
  · rw [block_frozenM h3]; exact h4 j hj
  · rw [block_cellM h3]; simp [hj]
theorem ByM.at {w : World} {base : Nat} {v : Value} {l : List UInt8} (h : ByM w base v l) : BytesAt w v l := by
  obtain ⟨g, cur, fz, rfl, h2, h3, h4, h5, h6, h7⟩ := h
  refine ⟨by simp, _, _, rfl, h5, h6, (fun h => (by cases h)), (fun ad ha => (by cases ha; exact ⟨rfl, lt_of_block h3⟩)), fun i u hu => ⟨g, 0, rfl, ?_⟩⟩
  rw [Nat.zero_add, block_cellM h3, ← Array.getElem?_toList]
  rw [← h7, List.getElem?_take] at hu
  split at hu
  · exact hu
  · cases hu
theorem ByM.form {w : World} {base : Nat} {v : Value} {l : List UInt8} (h : ByM w base v l) : ∃ g c, v = .slice (some ⟨g, 0, none⟩) l.length c ∧ l.length ≤ c ∧ c ≤ maxLen ∧ base ≤ g := by
  obtain ⟨g, cur, fz, rfl, h2, h3, h4, h5, h6, h7⟩ := h
  exact ⟨g, _, rfl, h5, h6, h2⟩
/-- '[]byte(s)'. -/
theorem run_bytes (w : World) (s : ByteArray) (hs : s.size ≤ maxLen) (base : Nat) (hb : base ≤ w.heap.size) : ∃ c w', (convert 9 53 (.string s)).run Try.prog w = .ok (.slice (some ⟨w.heap.size, 0, none⟩) s.size c) w' ∧ ByM w' base (.slice (some ⟨w.heap.size, 0, none⟩) s.size c) s.data.toList ∧ Below w.heap.size w w' := by
  refine ⟨_, _, run_bytes_of_string w _ _ 5 s Try.underlying9 Try.underlying53 Try.underlying5, ?_, ((Below.refl w.heap.size w).drew).alloc (Nat.le_refl _) _⟩
  have hge := grownCap_ge w s.size 0 5
  have hle := grownCap_le_maxLen w s.size 0 5 hs
  have hsz : (bytesRow s (grownCap w s.size 0 5)).size = grownCap w s.size 0 5 := by
    unfold bytesRow
    have : s.data.size = s.size := rfl
    simp
    omega
  refine ⟨w.heap.size, bytesRow s (grownCap w s.size 0 5), _, by rw [hsz]; rfl, hb, heap_alloc_new w.drew _, fun j hj => ?_, ?_, ?_, ?_⟩
  · have : decide ((bytesRow s (grownCap w s.size 0 5)).size ≤ j) = false := decide_eq_false (by omega)
    simp only [this, Bool.false_and]
  · rw [hsz]; exact hge
  · rw [hsz]; exact hle
  · apply List.ext_getElem?
    intro j
    have hlen : s.data.toList.length = s.size := by simp
    by_cases hj : j < s.data.toList.length
    · rw [List.getElem?_take_of_lt hj, Array.getElem?_toList, bytesRow_at s _ j (by simpa using hj), List.getElem?_map, List.getElem?_eq_getElem hj, Option.map_some, Array.getElem_toList]
      rfl
    · rw [List.getElem?_eq_none (by rw [List.length_take]; omega), List.getElem?_eq_none (by rw [List.length_map]; omega)]
/-- A byte of it is stored. -/
theorem ByM.set {w : World} {base g c i : Nat} {l : List UInt8} {b : UInt8} (h : ByM w base (.slice (some ⟨g, 0, none⟩) l.length c) l) (hi : i < l.length) : ByM (w.setCell ⟨g, i, none⟩ (byteV b)) base (.slice (some ⟨g, 0, none⟩) l.length c) (l.set i b) := by
  obtain ⟨g', cur, fz, h1, h2, h3, h4, h5, h6, h7⟩ := h
  cases h1
  have hb : (w.setCell ⟨g, i, none⟩ (byteV b)).heap[g]? = some (.cells (cur.setIfInBounds i (byteV b)) 5 fz) := block_set h3 i _
  refine ⟨g, cur.setIfInBounds i (byteV b), fz, by simp, h2, hb, by simpa using h4, by simpa using h5, by simpa using h6, ?_⟩
  rw [List.length_set, Array.toList_setIfInBounds, List.take_set, h7, List.map_set]
theorem run_append_byte (w : World) (ty : TypeId) (base : Nat) (g n c : Nat) (l : List UInt8) (h : ByM w base (.slice (some ⟨g, 0, none⟩) n c) l) (b : UInt8) (ad : Addr) (cc : Nat) (hsrc : w.cell? (ad.add 0) = some (byteV b)) (hl : l.length + 1 ≤ 1000000) (hbase : base ≤ w.heap.size) :
    ∃ a' c' w', (Builtin.append_ #[53, 53] ty #[.slice (some ⟨g, 0, none⟩) n c, .slice (some ad) 1 cc]).run Try.prog w = .ok (.slice (some ⟨a', 0, none⟩) (n + 1) c') w' ∧ ByM w' base (.slice (some ⟨a', 0, none⟩) (n + 1) c') (l ++ [b]) ∧ Below base w w' := by
  obtain ⟨i, z, hi, hz, hsize, hby, hzs⟩ := (elemU8 : ElemOk Try.prog 53 5 1 1).hi
  obtain ⟨g', cur, fz, h1, h2, h3, h4, h5, h6, h7⟩ := h
  cases h1
  have hnews : ∀ j u, [byteV b][j]? = some u → w.cell? (ad.add j) = some u := fun j u hu => by
    cases j with
    | zero => rw [hsrc]; simpa using hu
    | succ k => simp at hu
  by_cases hroom : l.length + 1 ≤ cur.size
  · refine ⟨g, cur.size, w.setCells g l.length [byteV b], ?_, ?_, ?_⟩
    · have hf := run_firstCells_some (P := Try.prog) w i.size 1 ad 1 cc [byteV b] (by simp [hsize]) hnews
      have hst := run_storeCells_cells (P := Try.prog) g (l.length * i.size) [byteV b] 0 w (fun j hj => by rw [hsize]; simp at hj; subst hj; rw [block_cellM h3]; simp; omega) (fun j hj => by rw [hsize]; simp at hj; subst hj; rw [block_frozenM h3]; exact h4 _ (by omega)) (by simp [byteV, Value.oneCell'])
      simp only [Nat.add_zero] at hst
      rw [hsize] at hst hf
      simp only [Nat.mul_one] at hst
      simp [Builtin.append_, run_underlying Try.underlying53, sizeOf, typeInfo, hi, Builtin.lenOf, hroom, hsize, hf, Addr.add_lit, hst]
    · have hb : (w.setCells g l.length [byteV b]).heap[g]? = some (.cells (cur.setIfInBounds l.length (byteV b)) 5 fz) := block_set h3 l.length _
      refine ⟨g, cur.setIfInBounds l.length (byteV b), fz, by simp, h2, hb, by simpa using h4, by simp; omega, by simpa using h6, ?_⟩
      rw [List.length_append, Array.toList_setIfInBounds, List.map_append, ← h7]
      show (cur.toList.set l.length (byteV b)).take (l.length + 1) = _
      rw [List.take_add_one, List.take_set_of_le (Nat.le_refl _), List.getElem?_set_self (by simp; omega)]
      rfl
    · exact (Below.refl base w).setCell h2 _
  · have holds : ∀ j u, (l.map byteV)[j]? = some u → w.cell? ((⟨g, 0, none⟩ : Addr).add j) = some u := fun j u hu => by
      rw [add_plain', Nat.zero_add, block_cellM h3, ← Array.getElem?_toList]
      rw [← h7, List.getElem?_take] at hu
      split at hu
      · exact hu
      · cases hu
    have hr := run_append_grow (P := Try.prog) w 53 ty 5 i z Try.underlying53 hi hz ⟨g, 0, none⟩ l.length cur.size (l.map byteV) (by simp [hsize]) holds ad 1 cc [byteV b] (by simp [hsize]) hnews (by omega) (by omega) (growslice_fits (by omega) (by rw [hby]; omega))
    have hge := grownCap_ge w (l.length + 1) cur.size 5
    have hle := grownCap_le_maxLen w (l.length + 1) cur.size 5 (by unfold maxLen; omega)
    refine ⟨_, _, _, hr, ?_, ?_⟩
    · have hsz : ((l.map byteV).toArray ++ [byteV b].toArray ++ Builtin.zeroCells z.cells (grownCap w (l.length + 1) cur.size 5 - (l.length + 1))).size = grownCap w (l.length + 1) cur.size 5 := by
        simp only [Array.size_append, List.size_toArray, size_zeroCells, hzs, List.length_map, List.length_singleton]
        omega
      refine ⟨w.heap.size, _, (0, 0), by rw [hsz]; simp, hbase, heap_alloc_new w.drew _, fun j hj => by simp, ?_, ?_, ?_⟩
      · rw [hsz]; simpa using hge
      · rw [hsz]; exact hle
      · simp only [Array.toList_append, List.append_assoc, List.map_append, List.length_append, List.length_singleton]
        rw [← List.append_assoc]
        have : l.length + 1 = ((l.map byteV) ++ [byteV b]).length := by simp
        rw [this]
        exact List.take_left
    · exact ((Below.refl base w).drew).alloc hbase _
theorem wpList_append_byte {ops : Array Oper} {rest : List Oper} {o : Oper} {a : Act} {Q : Exit → Act → World → Prop} (w : World) (hgd : o.guard = none) (s x : Operand)
    (ho : o.op = .call { callee := .builtin .append, args := #[s, x], argTypes := #[53, 53] })
    (base g n c : Nat) (l : List UInt8) (hs : a.eval s = .slice (some ⟨g, 0, none⟩) n c) (hown : ByM w base (.slice (some ⟨g, 0, none⟩) n c) l)
    (b : UInt8) (ad : Addr) (cc : Nat) (hx : a.eval x = .slice (some ad) 1 cc) (hsrc : w.cell? (ad.add 0) = some (byteV b)) (hl : l.length + 1 ≤ 1000000) (hbase : base ≤ w.heap.size)
    (h : ∀ a' c' w', ByM w' base (.slice (some ⟨a', 0, none⟩) (n + 1) c') (l ++ [b]) → Below base w w' → wpList Try.prog ops Q rest (a.put o.dst (.slice (some ⟨a', 0, none⟩) (n + 1) c')) w') : wpList Try.prog ops Q (o :: rest) a w :=
  wpList_plain hgd fun K hK => by
    refine wp_append_run s x _ ho hs hx (R := fun v' w' => ∃ a' c', v' = .slice (some ⟨a', 0, none⟩) (n + 1) c' ∧ ByM w' base (.slice (some ⟨a', 0, none⟩) (n + 1) c') (l ++ [b]) ∧ Below base w w') ?_ ?_
    · obtain ⟨a', c', w', hr, h2, h3⟩ := run_append_byte w o.type base g n c l hown b ad cc hsrc hl hbase
      exact ⟨_, w', hr, a', c', rfl, h2, h3⟩
    · rintro _ w' ⟨a', c', rfl, h2, h3⟩
      exact hK _ _ (h a' c' w' h2 h3)
end Go.Proofs.Ytpmlhmficmillaa
