/- data of package tree: other bytes of a file. Conditions: numbers in their types, the list sorted, the file in it.
Cut of package tree. Conditions: what TrOk asks. -/
import Derived.Test.YtkefjeabckainaaGreatFaB10
namespace Go.Proofs.YtkefjeabckainaaGreat
section
open Go.RowKit
set_option maxRecDepth 100000
set_option linter.unusedVariables false

structure TrSt (p q r x : Nat) (v : Value) (l : List Nod) (n : Nod) (w : World) : Prop where
  tr : w.heap[p]? = some (.cells #[.int .u64 (x : Int), v] 30 (0, 0))
  nd : w.heap[q]? = some (.cells n.cells 89 (0, 0))
  res : w.heap[r]? = some (.cells #[.int .u64 0, .slice none 0 0] 30 (0, 0))
  row : NodsAt w v l
theorem TrSt.below {p q r x : Nat} {v : Value} {l : List Nod} {n : Nod} {w w' : World} (h : TrSt p q r x v l n w) (hb : Below w.heap.size w w') : TrSt p q r x v l n w' :=
  ⟨(hb.block _ (lt_of_block h.tr)).trans h.tr, (hb.block _ (lt_of_block h.nd)).trans h.nd, (hb.block _ (lt_of_block h.res)).trans h.res, h.row.below hb⟩
theorem TrSt.t0 {p q r x : Nat} {v : Value} {l : List Nod} {n : Nod} {w : World} (h : TrSt p q r x v l n w) : w.cell? ⟨p, 0, none⟩ = some (.int .u64 (x : Int)) := block_cell h.tr 0
theorem TrSt.t1 {p q r x : Nat} {v : Value} {l : List Nod} {n : Nod} {w : World} (h : TrSt p q r x v l n w) : w.cell? ⟨p, 1, none⟩ = some v := block_cell h.tr 1
theorem TrSt.put {p q r x : Nat} {v : Value} {l : List Nod} {n n2 : Nod} {w : World} (h : TrSt p q r x v l n w) (hpq : p ≠ q) (hrq : r ≠ q) (i : Nat) (u : Value) (hc : n.cells.setIfInBounds i u = n2.cells) (hrow : NodsAt (w.setCell ⟨q, i, none⟩ u) v l) : TrSt p q r x v l n2 (w.setCell ⟨q, i, none⟩ u) :=
  ⟨(block_set_other (by show p ≠ q; exact hpq)).trans h.tr, by rw [← hc]; exact block_set h.nd i u, (block_set_other (by show r ≠ q; exact hrq)).trans h.res, hrow⟩
theorem nodS' {n : Nod} {X : World} {k : Nat} {T : TypeId} {fr : Nat × Nat} (h : X.heap[k]? = some (.cells n.cells T fr)) : X.cell? ⟨k, 11, none⟩ = some (.string n.data) := block_cell h 11
theorem TrSt.two {p q r x : Nat} {v : Value} {l : List Nod} {n : Nod} {w : World} (h : TrSt p q r x v l n w) (hp : p ≠ r) (hq : q ≠ r) (i j : Nat) (u1 u2 : Value) :
    ((w.setCell ⟨r, i, none⟩ u1).setCell ⟨r, j, none⟩ u2).heap[p]? = some (.cells #[.int .u64 (x : Int), v] 30 (0, 0)) ∧ ((w.setCell ⟨r, i, none⟩ u1).setCell ⟨r, j, none⟩ u2).heap[q]? = some (.cells n.cells 89 (0, 0)) :=
  ⟨(block_set_other (by show p ≠ r; exact hp)).trans ((block_set_other (by show p ≠ r; exact hp)).trans h.tr), (block_set_other (by show q ≠ r; exact hq)).trans ((block_set_other (by show q ≠ r; exact hq)).trans h.nd)⟩
theorem b0b1 {X : World} {k : Nat} {T : TypeId} {u0 u1 : Value} {fr : Nat × Nat} (h : X.heap[k]? = some (.cells #[u0, u1] T fr)) : X.cell? ⟨k, 0, none⟩ = some u0 ∧ X.cell? ⟨k, 1, none⟩ = some u1 := ⟨block_cell h 0, block_cell h 1⟩
def TreeErr (w : World) (r : Tr × Nat) (e : Ending) (w' : World) : Prop := ∃ v', e = .returned (.tuple #[.agg #[.int .u64 (r.1.next : Int), v'], .int .i64 (r.2 : Int)]) ∧ NodsAt w' v' r.1.n ∧ (∀ k, v'.ownBlock = some k → w.heap.size ≤ k) ∧ Below w.heap.size w w'

set_option maxHeartbeats 6400000 in
theorem data_any (v : Value) (x : Nat) (l : List Nod) (n : Nod) (b who : ByteArray) (now : Nat) (w : World) (hv : NodsAt w v l) (hs : SortL l) (hl : l.length ≤ 900) (hok : ∀ n ∈ l, NodOk n) (hn : NodOk n) (h1 : ∀ n ∈ l, 1 ≤ n.path) (hd : ∀ n ∈ l, n.data.size ≤ 1000000) (hin : (getL l n.path).isSome = true) (hnd : n.data.size ≤ bytesL l) (hb : b.size ≤ 1000000) :
    Calls Tryz.prog 96 #[.agg #[.int .u64 (x : Int), v], .agg n.cells, .string b, .string who, .int .u32 (now : Int)] w (TreeErr w (dataT ⟨x, l⟩ n b who now)) := by
  obtain ⟨a, c, rfl, g1, g2⟩ := hv.form
  unfold maxLen at g2
  obtain ⟨W, hW⟩ : ∃ W, W = ((w.alloc (.cells #[.int .u64 (x : Int), .slice a l.length c] 30)).alloc (.cells n.cells 89)).alloc (.cells #[.int .u64 0, .slice none 0 0] 30) := ⟨_, rfl⟩
  have hb0 : Below w.heap.size w W := by rw [hW]; exact (((Below.refl w.heap.size w).alloc (Nat.le_refl _) _).alloc (by simp) _).alloc (by simp; omega) _
  have hS0 : TrSt w.heap.size (w.heap.size + 1) (w.heap.size + 1 + 1) x (.slice a l.length c) l n W := by
    refine ⟨?_, ?_, ?_, hv.below hb0⟩
    · rw [hW, heap_alloc_old _ _ (by simp; omega), heap_alloc_old _ _ (by simp), heap_alloc_new]
    · rw [hW, heap_alloc_old _ _ (by simp)]; exact heap2 _ _ _
    · rw [hW]
      have := heap_alloc_new ((w.alloc (.cells #[.int .u64 (x : Int), .slice a l.length c] 30)).alloc (.cells n.cells 89)) (.cells #[.int .u64 0, .slice none 0 0] 30)
      simpa using this
  have hby := hid (fun X (h : NodsAt X (.slice a l.length c) l) => nbytes_any _ x l X h (by omega) hd)
  have hap := hid (fun X (h : NodsAt X (.slice a l.length c) l) => apart_any _ x l X h hl h1)
  have hbl := bytesL_le hd
  obtain ⟨B, hB⟩ : ∃ B, B = bytesL l := ⟨_, rfl⟩
  rw [← hB] at hnd hby hbl
  have hBle : B ≤ 1000000000 := by omega
  obtain ⟨D, hD⟩ : ∃ D, D = B - n.data.size := ⟨_, rfl⟩
  obtain ⟨E, hE⟩ : ∃ E, E = D + b.size := ⟨_, rfl⟩
  have k1 : IntKind.i64.wrap ((B : Int) - (n.data.size : Int)) = (D : Int) := by rw [show (B : Int) - (n.data.size : Int) = (D : Int) by omega]; exact IntWalk.i64_in _ (by omega)
  have k2 : IntKind.i64.wrap ((D : Int) + (b.size : Int)) = (E : Int) := by rw [show (D : Int) + (b.size : Int) = (E : Int) by omega]; exact IntWalk.i64_in _ (by omega)
  have hdT := hid (show dataT ⟨x, l⟩ n b who now = if 16384 < E then (⟨x, l⟩, 14) else (⟨x, setL l (touchN { n with data := b } who now)⟩, 0) by rw [hE, hD, hB]; rfl)
  replace hB := hid hB
  replace hD := hid hD
  replace hE := hid hE
  replace hnd := hid hnd
  have hA : TrSt w.heap.size (w.heap.size + 1) (w.heap.size + 1 + 1) x (.slice a l.length c) l n W.drew := hS0.below ((Below.refl _ _).drew)
  have q0 : W.drew.cell? ⟨w.heap.size, 0, none⟩ = some (.int .u64 (x : Int)) := hA.t0
  have q1 : W.drew.cell? ⟨w.heap.size, 1, none⟩ = some (.slice a l.length c) := hA.t1
  have q11 : W.drew.cell? ⟨w.heap.size + 1, 11, none⟩ = some (.string n.data) := nodS' hA.nd
  have hbd := hid (sn hb0 ((Below.refl W.heap.size W).drew))
  have hset := hid (fun X n2 (h : NodsAt X (.slice a l.length c) l) (he : n2.path = n.path) => nset_any _ x l n2 X h hs hl (.inl (by rw [he]; exact hin)))
  replace hb0 := hid hb0
  replace hS0 := hid hS0
  replace hv := hid hv
  clear hs hok h1 hd hbl
  go_enter Tryz.func96, Tryz.ntmps96
  go_upto_region 1 with (rw [← hW]; replace hW := hid hW)
  try (rw [← hW]; replace hW := hid hW)
  go_region_held3 (fun w' => w'.cell? ⟨w.heap.size, 0, none⟩ = some (.int .u64 (x : Int)) ∧ w'.cell? ⟨w.heap.size, 1, none⟩ = some (.slice a l.length c) ∧ w'.cell? ⟨w.heap.size + 1, 11, none⟩ = some (.string n.data))
    (first | exact ⟨hA.t0, hA.t1, nodS' hA.nd⟩ | go_keep)
    ((go_at_call 136; (with_reducible refine (hby.out _ hA.row).mono ?_); rintro e w1 ⟨rfl, hb1⟩; replace hA := hA.below hb1))
  have hb1' := hid (sn hbd.out hb1)
  clear k1 k2 q0 q1 q11 hb1 hbd hby hS0 hb0
  by_cases hE1 : 16384 < E
  · have hdE : Hid (dataT ⟨x, l⟩ n b who now = (⟨x, l⟩, 14)) := hid (by rw [hdT.out, if_pos hE1])
    have k3 : decide ((16384 : Int) < (E : Int)) = true := by simp; omega
    have k4 : decide (16384 < E) = true := by simp; omega
    have q0 := hA.t0
    have q1 := hA.t1
    have hapc := hid (hap.out _ hA.row)
    replace hA := hid hA
    go_wp2_with fail
    refine hapc.out.mono ?_
    rintro e w2 ⟨v2, rfl, hv2, hf2, hb2⟩
    have hA2 := hid (hA.out.below hb2)
    have hB2 := hid (sn hb1'.out hb2)
    have hres := hid hA2.out.res
    have hs1 := hid hb1'.out.size
    have hlt := hid (lt_of_block hA.out.res)
    have hN := hid (NodsAt.other (w' := w2.setRow (w.heap.size + 1 + 1) #[.int .u64 (x : Int), v2]) hv2 (w.heap.size + 1 + 1) (fun e => by have := hf2 _ e; have := hlt.out; omega) (by simp) (fun k hk => setRow_other _ _ _ _ hk))
    have hF := hid (show ∀ k, v2.ownBlock = some k → w.heap.size ≤ k from fun k hk => Nat.le_trans hs1.out (hf2 k hk))
    obtain ⟨a2, c2, rfl, _, _⟩ := hv2.form
    clear hb2 hv2 hf2 hapc q0 q1
    go_wp2_with (refine wpList_store_row (by rfl) 30 (.tmp 10) (.tmp 23) (by rfl) (w.heap.size + 1 + 1) #[.int .u64 (x : Int), .slice a2 l.length c2] (by rfl) (by rfl) 30 _ hres.out (by kernel_rfl) (by kernel_rfl) (by kernel_rfl) ?_)
    refine bodyPost_ret (results_cs rfl _ _ (w.heap.size + 1 + 1) _ _ _ _ _ rfl rfl (setRow_heap _ _ _ #[.int .u64 (x : Int), .slice a2 l.length c2] _ _ hres.out) Tryz.underlying30 rfl (by kernel_rfl)) rfl ?_
    refine ⟨.slice a2 l.length c2, ?_, ?_, hF.out, below_setRow hB2.out (by omega) _⟩
    · rw [hdE.out]; rfl
    · rw [hdE.out]; exact hN.out
  · have hdE : Hid (dataT ⟨x, l⟩ n b who now = (⟨x, setL l (touchN { n with data := b } who now)⟩, 0)) := hid (by rw [hdT.out, if_neg hE1])
    have k3 : decide ((16384 : Int) < (E : Int)) = false := by simp; omega
    have k4 : decide (16384 < E) = false := by simp; omega
    obtain ⟨n2, hn2⟩ : ∃ n2 : Nod, n2 = { n with data := b } := ⟨_, rfl⟩
    rw [← hn2] at hdE
    have hn2ok : NodOk n2 := by
      rw [hn2]
      exact ⟨hn.path, hn.vers, hn.mode, hn.atm, hn.mtm, hn.name, hn.uid, hn.gid, hn.muid, hn.up, by show b.size ≤ maxLen; unfold maxLen; omega⟩
    have c11 : w1.cell? ⟨w.heap.size + 1, 11, none⟩ = some (.string n.data) := nodS' hA.nd
    have f11 : w1.frozen? ⟨w.heap.size + 1, 11, none⟩ = false := block_free hA.nd 11
    obtain ⟨X, hX⟩ : ∃ X, X = w1.setCell ⟨w.heap.size + 1, 11, none⟩ (.string b) := ⟨_, rfl⟩
    have hBX : Below w.heap.size w X := by rw [hX]; exact hb1'.out.setCell (by show w.heap.size ≤ w.heap.size + 1; omega) _
    have hAX : TrSt w.heap.size (w.heap.size + 1) (w.heap.size + 1 + 1) x (.slice a l.length c) l n2 X := by
      have hrow := hv.out.below hBX
      rw [hX] at hrow ⊢
      exact hA.put (by omega) (by omega) 11 (.string b) (by rw [hn2]; rfl) hrow
    have htc : Hid (∀ Z, Calls Tryz.prog 93 #[.agg #[.int .u64 (n2.path : Int), .int .u32 (n2.vers : Int), .int .u32 (n2.mode : Int), .int .u32 (n2.atm : Int), .int .u32 (n2.mtm : Int), .string n2.name, .string n2.uid, .string n2.gid, .string n2.muid, .int .u64 (n2.up : Int), .bool n2.gone, .string n2.data], .string who, .int .u32 (now : Int)] Z fun e w' => e = .returned (.agg (touchN n2 who now).cells) ∧ Below Z.heap.size Z w') := hid (fun Z => touched_any n2 who now Z hn2ok)
    have hpt : (touchN n2 who now).path = n.path := by rw [hn2]; rfl
    have hst := hid (fun Z (h : NodsAt Z (.slice a l.length c) l) => hset.out Z (touchN n2 who now) h hpt)
    obtain ⟨y, hy⟩ : ∃ y, y = touchN n2 who now := ⟨_, rfl⟩
    rw [← hy] at hst htc hdE
    have hA2 := hAX.below ((Below.refl X.heap.size X).drew)
    obtain ⟨d0, d1, d2, d3, d4, d5, d6, d7, d8, d9, d10, d11⟩ := nodS hA2.nd
    have q0 := hA2.t0
    have q1 := hA2.t1
    have hBd := hid (sn hBX ((Below.refl X.heap.size X).drew))
    have hBs := hid hBX.size
    have hE2 : (E : Int) ≤ 16384 := by omega
    have hE3 : ¬ (16384 : Int) < (E : Int) := by omega
    clear hdT hset hap hpt hBX hA hn2ok
    replace hAX := hid hAX
    replace hy := hid hy
    replace hn2 := hid hn2
    rename_i hHeld
    clear hHeld
    go_wp2_with (rw [← hX]; replace hX := hid hX)
    try (rw [← hX]; replace hX := hid hX)
    clear c11 f11
    have hA := hA2
    clear hA2 hE1 hE2 hE3
    go_region_held3 (fun w' => w'.cell? ⟨w.heap.size, 0, none⟩ = some (.int .u64 (x : Int)) ∧ w'.cell? ⟨w.heap.size, 1, none⟩ = some (.slice a l.length c) ∧ w'.cell? ⟨w.heap.size + 1, 0, none⟩ = some (.int .u64 (n2.path : Int)) ∧ w'.cell? ⟨w.heap.size + 1, 1, none⟩ = some (.int .u32 (n2.vers : Int)) ∧ w'.cell? ⟨w.heap.size + 1, 2, none⟩ = some (.int .u32 (n2.mode : Int)) ∧ w'.cell? ⟨w.heap.size + 1, 3, none⟩ = some (.int .u32 (n2.atm : Int)) ∧ w'.cell? ⟨w.heap.size + 1, 4, none⟩ = some (.int .u32 (n2.mtm : Int)) ∧ w'.cell? ⟨w.heap.size + 1, 5, none⟩ = some (.string n2.name) ∧ w'.cell? ⟨w.heap.size + 1, 6, none⟩ = some (.string n2.uid) ∧ w'.cell? ⟨w.heap.size + 1, 7, none⟩ = some (.string n2.gid) ∧ w'.cell? ⟨w.heap.size + 1, 8, none⟩ = some (.string n2.muid) ∧ w'.cell? ⟨w.heap.size + 1, 9, none⟩ = some (.int .u64 (n2.up : Int)) ∧ w'.cell? ⟨w.heap.size + 1, 10, none⟩ = some (.bool n2.gone) ∧ w'.cell? ⟨w.heap.size + 1, 11, none⟩ = some (.string n2.data))
      (first | exact ⟨hA.t0, hA.t1, nodS hA.nd⟩ | exact ⟨(b0b1 (hA.two (by omega) (by omega) 0 1 _ _).1).1, (b0b1 (hA.two (by omega) (by omega) 0 1 _ _).1).2, nodS (hA.two (by omega) (by omega) 0 1 _ _).2⟩ | go_keep)
      (first
        | (go_at_call 93; (with_reducible refine (htc.out _).mono ?_); rintro e w2 ⟨rfl, hb2⟩; replace hA := hA.below hb2)
        | (go_at_call 92; (with_reducible refine (hst.out _ hA.row).mono ?_); rintro e w3 ⟨v3, rfl, hv3, hf3, hb3⟩; obtain ⟨a3, c3, rfl, _, _⟩ := hv3.form; replace hA := hA.below hb3; have g0 := block_cell hA.res 0; have g1 := block_cell hA.res 1; have e0 := block_free hA.res 0; have e1 := block_free hA.res 1))
    all_goals
      have hzz := hid (block_set (block_set hA.res 0 (.int .u64 (x : Int))) 1 (.slice a3 (setL l y).length c3))
      have hB3 := hid (sn (sn hBd.out hb2) hb3)
      have hB4 := hid ((hB3.out.setCell (p := ⟨w.heap.size + 1 + 1, 0, none⟩) (by show w.heap.size ≤ w.heap.size + 1 + 1; omega) (.int .u64 (x : Int))).setCell (p := ⟨w.heap.size + 1 + 1, 1, none⟩) (by show w.heap.size ≤ w.heap.size + 1 + 1; omega) (.slice a3 (setL l y).length c3))
      have hlt := lt_of_block hAX.out.res
      have hs2 := hb2.size
      have hs3 := hb3.size
      have hN := hid (NodsAt.other (w' := (w3.setCell ⟨w.heap.size + 1 + 1, 0, none⟩ (.int .u64 (x : Int))).setCell ⟨w.heap.size + 1 + 1, 1, none⟩ (.slice a3 (setL l y).length c3)) hv3 (w.heap.size + 1 + 1) (fun e => by have := hf3 _ e; simp at hs2; omega) (by simp) (fun k hk => (block_set_other (by show k ≠ _; exact hk)).trans (block_set_other (by show k ≠ _; exact hk))))
      have hF := hid (show ∀ k, (Value.slice a3 (setL l y).length c3).ownBlock = some k → w.heap.size ≤ k from fun k hk => by have := hf3 k hk; simp at hs2; omega)
      clear q0 q1 d0 d1 d2 d3 d4 d5 d6 d7 d8 d9 d10 d11 hb2 hb3 hv3 hf3 hA
      go_wp2_with fail
      refine bodyPost_ret (results_cs rfl _ _ (w.heap.size + 1 + 1) _ _ _ _ _ rfl rfl hzz.out Tryz.underlying30 rfl (by kernel_rfl)) rfl ?_
      refine ⟨.slice a3 (setL l y).length c3, ?_, ?_, hF.out, hB4.out⟩
      · rw [hdE.out]; rfl
      · rw [hdE.out]; exact hN.out
end
end Go.Proofs.YtkefjeabckainaaGreat

namespace Go.Proofs.YtkefjeabckainaaGreat
section
open Go.RowKit
set_option maxRecDepth 100000
set_option linter.unusedVariables false

structure TrOk (l : List Nod) : Prop where
  sort : SortL l
  few : l.length ≤ 80
  ok : ∀ n ∈ l, NodOk n
  low : ∀ n ∈ l, 1 ≤ n.path
  len : ∀ n ∈ l, n.data.size ≤ 5000
theorem bytes_mem {l : List Nod} {n : Nod} (h : n ∈ l) : n.data.size ≤ bytesL l := by
  induction l with
  | nil => cases h
  | cons a l ih =>
    rw [bytes_cons]
    rcases List.mem_cons.1 h with e | e
    · rw [e]; omega
    · have := ih e; omega

set_option maxHeartbeats 6400000 in
theorem tcut_any (v : Value) (x : Nat) (l : List Nod) (p size : Nat) (who : ByteArray) (now : Nat) (w : World) (hv : NodsAt w v l) (ht : TrOk l) (hsz : size < 18446744073709551616) :
    Calls Tryz.prog 60 #[.agg #[.int .u64 (x : Int), v], .int .u64 (p : Int), .int .u64 (size : Int), .string who, .int .u32 (now : Int)] w (TreeErr w (cutT ⟨x, l⟩ p size who now)) := by
  obtain ⟨a, c, rfl, g1, g2⟩ := hv.form
  unfold maxLen at g2
  obtain ⟨W, hW⟩ : ∃ W, W = (w.alloc (.cells #[.int .u64 (x : Int), .slice a l.length c] 30)).alloc (.cells #[.int .u64 0, .slice none 0 0] 30) := ⟨_, rfl⟩
  have hb0 : Below w.heap.size w W := by rw [hW]; exact ((Below.refl w.heap.size w).alloc (Nat.le_refl _) _).alloc (by simp) _
  have hx0 : W.heap[w.heap.size]? = some (.cells #[.int .u64 (x : Int), .slice a l.length c] 30 (0, 0)) := by rw [hW, heap_alloc_old _ _ (by simp), heap_alloc_new]
  have hy0 : W.heap[w.heap.size + 1]? = some (.cells #[.int .u64 0, .slice none 0 0] 30 (0, 0)) := by rw [hW]; exact heap2 _ _ _
  have hfi := hid (file_any _ x l p W (hv.below hb0) ht.sort (by have := ht.few; omega) ht.ok)
  have hap := hid (fun X (h : NodsAt X (.slice a l.length c) l) => apart_any _ x l X h (by have := ht.few; omega) ht.low)
  have e0 := block_cell hx0 0
  have e1 := block_cell hx0 1
  have hv0 := hid (hv.below hb0)
  replace hb0 := hid hb0
  replace hx0 := hid hx0
  replace hy0 := hid hy0
  go_enter Tryz.func60, Tryz.ntmps60
  go_upto_region 1 with (rw [← hW]; replace hW := hid hW)
  try (rw [← hW]; replace hW := hid hW)
  go_wp2_with fail
  refine hfi.out.mono ?_
  rintro e w2 ⟨rfl, hb2⟩
  have hB2 := hid (sn hb0.out hb2)
  have hs2 := hid (lt_of_block ((hb2.block _ (lt_of_block hy0.out)).trans hy0.out))
  obtain ⟨n, hn⟩ : ∃ n, n = getN l p := ⟨_, rfl⟩
  have hnew := hid (heap_alloc_new w2 (.cells zeroNod.cells 89))
  obtain ⟨X, hX⟩ : ∃ W, W = boxN w2 n := ⟨_, rfl⟩
  have hbX : Below w2.heap.size w2 X := by rw [hX]; exact boxN_below _ _
  have hBX := hid (sn hB2.out hbX)
  have hA : TrSt w.heap.size w2.heap.size (w.heap.size + 1) x (.slice a l.length c) l n X :=
    ⟨(hbX.block _ (by have := hs2.out; omega)).trans ((hb2.block _ (lt_of_block hx0.out)).trans hx0.out), by rw [hX]; exact boxN_heap _ _, (hbX.block _ hs2.out).trans ((hb2.block _ (lt_of_block hy0.out)).trans hy0.out), (hv0.out.below hb2).below hbX⟩
  have hapc := hid (hap.out X hA.row)
  have q0 := hA.t0
  have q1 := hA.t1
  unfold boxN at hX
  rw [zeroNod_cells] at hX hnew
  rw [← hn]
  clear hb2 hbX hfi hap e0 e1 hB2 hx0 hy0 hv0 hb0
  replace hA := hid hA
  replace hn := hid hn
  go_upto_region 2 with (first
    | (rw [← hX]; replace hX := hid hX)
    | (refine wpList_store_row (by rfl) 89 (.tmp 12) (.tmp 18) (by rfl) w2.heap.size n.cells (by rfl) (by rfl) 89 _ hnew.out (by kernel_rfl) (by kernel_rfl) (nod_one n) ?_))
  try (rw [← hX]; replace hX := hid hX)
  clear hnew
  generalize w2.heap.size = z at *
  cases hg : getL l p with
  | none =>
    have hdE := hid (show cutT ⟨x, l⟩ p size who now = (⟨x, l⟩, 6) by unfold cutT; rw [hg])
    have hfe : fileE l p = 6 := by unfold fileE; rw [hg]
    rw [hfe]
    clear hfe hg
    go_wp2_with fail
    refine hapc.out.mono ?_
    rintro e w9 ⟨v9, rfl, hv9, hf9, hb9⟩
    have hres := hid (hA.out.below hb9).res
    have hB9 := hid (sn hBX.out hb9)
    have hsz := hid hBX.out.size
    have hlt := hid (lt_of_block hA.out.res)
    have hN := hid (NodsAt.other (w' := w9.setRow (w.heap.size + 1) #[.int .u64 (x : Int), v9]) hv9 (w.heap.size + 1) (fun e => by have := hf9 _ e; have := hlt.out; omega) (by simp) (fun k hk => setRow_other _ _ _ _ hk))
    have hF := hid (show ∀ k, v9.ownBlock = some k → w.heap.size ≤ k from fun k hk => Nat.le_trans hsz.out (hf9 k hk))
    obtain ⟨a9, c9, rfl, _, _⟩ := hv9.form
    clear hb9 hv9 hf9 hapc q0 q1
    go_wp2_with (refine wpList_store_row (by rfl) 30 (.tmp 10) (.tmp 29) (by rfl) (w.heap.size + 1) #[.int .u64 (x : Int), .slice a9 l.length c9] (by rfl) (by rfl) 30 _ hres.out (by kernel_rfl) (by kernel_rfl) (by kernel_rfl) ?_)
    refine bodyPost_ret (results_cs rfl _ _ (w.heap.size + 1) _ _ _ _ _ rfl rfl (setRow_heap _ _ _ #[.int .u64 (x : Int), .slice a9 l.length c9] _ _ hres.out) Tryz.underlying30 rfl (by kernel_rfl)) rfl ?_
    refine ⟨.slice a9 l.length c9, ?_, ?_, hF.out, below_setRow hB9.out (by omega) _⟩
    · rw [hdE.out]; rfl
    · rw [hdE.out]; exact hN.out
  | some y =>
    have hny : n = y := by rw [hn.out]; unfold getN; rw [hg]; rfl
    subst hny
    obtain ⟨hmem, hpath⟩ := getL_some hg
    cases hdb : dirB n with
    | true =>
      have hdE := hid (show cutT ⟨x, l⟩ p size who now = (⟨x, l⟩, 12) by unfold cutT; rw [hg]; simp only; rw [hdb]; rfl)
      have hfe : fileE l p = 12 := by unfold fileE; rw [hg]; simp only; rw [hdb]; rfl
      rw [hfe]
      clear hfe hg hdb
      go_wp2_with fail
      refine hapc.out.mono ?_
      rintro e w9 ⟨v9, rfl, hv9, hf9, hb9⟩
      have hres := hid (hA.out.below hb9).res
      have hB9 := hid (sn hBX.out hb9)
      have hsz := hid hBX.out.size
      have hlt := hid (lt_of_block hA.out.res)
      have hN := hid (NodsAt.other (w' := w9.setRow (w.heap.size + 1) #[.int .u64 (x : Int), v9]) hv9 (w.heap.size + 1) (fun e => by have := hf9 _ e; have := hlt.out; omega) (by simp) (fun k hk => setRow_other _ _ _ _ hk))
      have hF := hid (show ∀ k, v9.ownBlock = some k → w.heap.size ≤ k from fun k hk => Nat.le_trans hsz.out (hf9 k hk))
      obtain ⟨a9, c9, rfl, _, _⟩ := hv9.form
      clear hb9 hv9 hf9 hapc q0 q1
      go_wp2_with (refine wpList_store_row (by rfl) 30 (.tmp 10) (.tmp 29) (by rfl) (w.heap.size + 1) #[.int .u64 (x : Int), .slice a9 l.length c9] (by rfl) (by rfl) 30 _ hres.out (by kernel_rfl) (by kernel_rfl) (by kernel_rfl) ?_)
      refine bodyPost_ret (results_cs rfl _ _ (w.heap.size + 1) _ _ _ _ _ rfl rfl (setRow_heap _ _ _ #[.int .u64 (x : Int), .slice a9 l.length c9] _ _ hres.out) Tryz.underlying30 rfl (by kernel_rfl)) rfl ?_
      refine ⟨.slice a9 l.length c9, ?_, ?_, hF.out, below_setRow hB9.out (by omega) _⟩
      · rw [hdE.out]; rfl
      · rw [hdE.out]; exact hN.out
    | false =>
      have hfe : fileE l p = 0 := by unfold fileE; rw [hg]; simp only; rw [hdb]; rfl
      have hdT := hid (show cutT ⟨x, l⟩ p size who now = if 4096 < size then (⟨x, l⟩, 3) else dataT ⟨x, l⟩ n (strL (padL n.data.data.toList size)) who now by unfold cutT; rw [hg]; simp only; rw [hdb]; rfl)
      rw [hfe]
      by_cases h4 : 4096 < size
      · have hdE := hid (show cutT ⟨x, l⟩ p size who now = (⟨x, l⟩, 3) by rw [hdT.out, if_pos h4])
        have h5 : (4096 : Int) < (size : Int) := by omega
        clear hfe hg hdb
        go_wp2_with fail
        refine hapc.out.mono ?_
        rintro e w9 ⟨v9, rfl, hv9, hf9, hb9⟩
        have hres := hid (hA.out.below hb9).res
        have hB9 := hid (sn hBX.out hb9)
        have hsz := hid hBX.out.size
        have hlt := hid (lt_of_block hA.out.res)
        have hN := hid (NodsAt.other (w' := w9.setRow (w.heap.size + 1) #[.int .u64 (x : Int), v9]) hv9 (w.heap.size + 1) (fun e => by have := hf9 _ e; have := hlt.out; omega) (by simp) (fun k hk => setRow_other _ _ _ _ hk))
        have hF := hid (show ∀ k, v9.ownBlock = some k → w.heap.size ≤ k from fun k hk => Nat.le_trans hsz.out (hf9 k hk))
        obtain ⟨a9, c9, rfl, _, _⟩ := hv9.form
        clear hb9 hv9 hf9 hapc q0 q1
        go_wp2_with (refine wpList_store_row (by rfl) 30 (.tmp 10) (.tmp 29) (by rfl) (w.heap.size + 1) #[.int .u64 (x : Int), .slice a9 l.length c9] (by rfl) (by rfl) 30 _ hres.out (by kernel_rfl) (by kernel_rfl) (by kernel_rfl) ?_)
        refine bodyPost_ret (results_cs rfl _ _ (w.heap.size + 1) _ _ _ _ _ rfl rfl (setRow_heap _ _ _ #[.int .u64 (x : Int), .slice a9 l.length c9] _ _ hres.out) Tryz.underlying30 rfl (by kernel_rfl)) rfl ?_
        refine ⟨.slice a9 l.length c9, ?_, ?_, hF.out, below_setRow hB9.out (by omega) _⟩
        · rw [hdE.out]; rfl
        · rw [hdE.out]; exact hN.out
      · have hdE := hid (show cutT ⟨x, l⟩ p size who now = dataT ⟨x, l⟩ n (strL (padL n.data.data.toList size)) who now by rw [hdT.out, if_neg h4])
        have h5 : (size : Int) ≤ 4096 := by omega
        have h6 : ¬ (4096 : Int) < (size : Int) := by omega
        have hnok := ht.ok n hmem
        have hnl := ht.len n hmem
        have hfil := hid (fun Z => filled_any n.data size Z (by omega) (by omega))
        have hdat : Hid (∀ Z b, NodsAt Z (.slice a l.length c) l → b.size ≤ 1000000 → Calls Tryz.prog 96 #[.agg #[.int .u64 (x : Int), .slice a l.length c], .agg #[.int .u64 (n.path : Int), .int .u32 (n.vers : Int), .int .u32 (n.mode : Int), .int .u32 (n.atm : Int), .int .u32 (n.mtm : Int), .string n.name, .string n.uid, .string n.gid, .string n.muid, .int .u64 (n.up : Int), .bool n.gone, .string n.data], .string b, .string who, .int .u32 (now : Int)] Z (TreeErr Z (dataT ⟨x, l⟩ n b who now))) := hid (fun Z b h hb => data_any _ x l n b who now Z h ht.sort (by have := ht.few; omega) ht.ok hnok ht.low (fun m hm => by have := ht.len m hm; omega) (by rw [hpath, hg]; rfl) (bytes_mem hmem) hb)
        clear hfe hdb hapc hdT hg
        have hbs : (strL (padL n.data.data.toList size)).size ≤ 1000000 := by rw [strL_size, padL_length]; omega
        obtain ⟨nb, hnb⟩ : ∃ nb, nb = strL (padL n.data.data.toList size) := ⟨_, rfl⟩
        rw [← hnb] at hfil hdE hbs
        obtain ⟨r, hr⟩ : ∃ r, r = dataT ⟨x, l⟩ n nb who now := ⟨_, rfl⟩
        replace hdat := hid (fun Z (h : NodsAt Z (.slice a l.length c) l) => hdat.out Z nb h hbs)
        rw [← hr] at hdE hdat
        replace hr := hid hr
        replace hbs := hid hbs
        replace hnb := hid hnb
        replace hmem := hid hmem
        replace hpath := hid hpath
        replace ht := hid ht
        replace hv := hid hv
        replace hnok := hid hnok
        have ksz : IntKind.i64.wrap (size : Int) = (size : Int) := IntWalk.i64_in _ (by omega)
        go_wp2_with fail
        clear h4 h5 h6 q0 q1
        have hzX := hid (lt_of_block hA.out.res)
        have hA := hA.out.below ((Below.refl X.heap.size X).drew)
        have q0 := hA.t0
        have q1 := hA.t1
        obtain ⟨d0, d1, d2, d3, d4, d5, d6, d7, d8, d9, d10, d11⟩ := nodS hA.nd
        have hBd := hid (sn hBX.out ((Below.refl X.heap.size X).drew))
        go_region_held3 (fun w' => w'.cell? ⟨w.heap.size, 0, none⟩ = some (.int .u64 (x : Int)) ∧ w'.cell? ⟨w.heap.size, 1, none⟩ = some (.slice a l.length c) ∧ w'.cell? ⟨z, 0, none⟩ = some (.int .u64 (n.path : Int)) ∧ w'.cell? ⟨z, 1, none⟩ = some (.int .u32 (n.vers : Int)) ∧ w'.cell? ⟨z, 2, none⟩ = some (.int .u32 (n.mode : Int)) ∧ w'.cell? ⟨z, 3, none⟩ = some (.int .u32 (n.atm : Int)) ∧ w'.cell? ⟨z, 4, none⟩ = some (.int .u32 (n.mtm : Int)) ∧ w'.cell? ⟨z, 5, none⟩ = some (.string n.name) ∧ w'.cell? ⟨z, 6, none⟩ = some (.string n.uid) ∧ w'.cell? ⟨z, 7, none⟩ = some (.string n.gid) ∧ w'.cell? ⟨z, 8, none⟩ = some (.string n.muid) ∧ w'.cell? ⟨z, 9, none⟩ = some (.int .u64 (n.up : Int)) ∧ w'.cell? ⟨z, 10, none⟩ = some (.bool n.gone) ∧ w'.cell? ⟨z, 11, none⟩ = some (.string n.data))
          (first | exact ⟨hA.t0, hA.t1, nodS hA.nd⟩ | exact ⟨(b0b1 (hA.two (by omega) (by have := hs2.out; omega) 0 1 _ _).1).1, (b0b1 (hA.two (by omega) (by have := hs2.out; omega) 0 1 _ _).1).2, nodS (hA.two (by omega) (by have := hs2.out; omega) 0 1 _ _).2⟩ | go_keep)
          (first
            | (go_at_call 97; (with_reducible refine (hfil.out _).mono ?_); rintro e w4 ⟨rfl, hb2⟩; replace hA := hA.below hb2)
            | (go_at_call 96; (with_reducible refine (hdat.out _ hA.row).mono ?_); rintro e w3 ⟨v3, rfl, hv3, hf3, hb3⟩; obtain ⟨a3, c3, rfl, _, _⟩ := hv3.form; replace hA := hA.below hb3; have g0 := block_cell hA.res 0; have g1 := block_cell hA.res 1; have e0 := block_free hA.res 0; have e1 := block_free hA.res 1))
        all_goals
          have hzz := hid (block_set (block_set hA.res 0 (.int .u64 (r.1.next : Int))) 1 (.slice a3 r.1.n.length c3))
          have hs3 := hb2.size
          have hB3 := hid (sn (sn hBd.out hb2) hb3)
          have hB4 := hid ((hB3.out.setCell (p := ⟨w.heap.size + 1, 0, none⟩) (by show w.heap.size ≤ w.heap.size + 1; omega) (.int .u64 (r.1.next : Int))).setCell (p := ⟨w.heap.size + 1, 1, none⟩) (by show w.heap.size ≤ w.heap.size + 1; omega) (.slice a3 r.1.n.length c3))
          have hN := hid (NodsAt.other (w' := (w3.setCell ⟨w.heap.size + 1, 0, none⟩ (.int .u64 (r.1.next : Int))).setCell ⟨w.heap.size + 1, 1, none⟩ (.slice a3 r.1.n.length c3)) hv3 (w.heap.size + 1) (fun e => by have := hf3 _ e; have := hzX.out; simp at hs3; omega) (by simp) (fun k hk => (block_set_other (by show k ≠ _; exact hk)).trans (block_set_other (by show k ≠ _; exact hk))))
          have hF := hid (show ∀ k, (Value.slice a3 r.1.n.length c3).ownBlock = some k → w.heap.size ≤ k from fun k hk => by have := hf3 k hk; have := hzX.out; simp at hs3; omega)
          clear q0 q1 d0 d1 d2 d3 d4 d5 d6 d7 d8 d9 d10 d11 hb2 hb3 hv3 hf3 hA
          go_wp2_with fail
          refine bodyPost_ret (results_cs rfl _ _ (w.heap.size + 1) _ _ _ _ _ rfl rfl hzz.out Tryz.underlying30 rfl (by kernel_rfl)) rfl ?_
          refine ⟨.slice a3 r.1.n.length c3, ?_, ?_, hF.out, hB4.out⟩
          · rw [hdE.out]; rfl
          · rw [hdE.out]; exact hN.out
end
end Go.Proofs.YtkefjeabckainaaGreat
