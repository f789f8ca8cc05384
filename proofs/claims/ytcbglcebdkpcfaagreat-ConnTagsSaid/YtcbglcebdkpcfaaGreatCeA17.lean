/- What a body leaves: what may have changed; its walk as far as the test of the error. Conditions: sizes of the machine. And the texts behind it. -/
import Derived.Test.YtcbglcebdkpcfaaGreatCeA16
import Derived.Deep.Cut
namespace Go.Proofs.YtcbglcebdkpcfaaGreat
section
open Go.RowKit
set_option maxRecDepth 100000
set_option linter.unusedVariables false

structure Oth (P : Nat → Prop) (w w' : World) : Prop where
  size : w.heap.size ≤ w'.heap.size
  keep : ∀ j, j < w.heap.size → ¬ P j → w'.heap[j]? = w.heap[j]?
  below : ∀ N, N ≤ w.heap.size → (∀ j, P j → N ≤ j) → Below N w w'
theorem Oth.pure {P : Nat → Prop} {w w' : World} (h : Below w.heap.size w w') : Oth P w w' := ⟨h.size, fun j hj _ => h.block j hj, fun N h1 _ => h.mono h1⟩
theorem Oth.trans {P : Nat → Prop} {a b c : World} (h : Oth P a b) (g : Oth P b c) : Oth P a c :=
  ⟨Nat.le_trans h.size g.size, fun j hj hn => (g.keep j (Nat.lt_of_lt_of_le hj h.size) hn).trans (h.keep j hj hn), fun N h1 h2 => (h.below N h1 h2).trans (g.below N (Nat.le_trans h1 h.size) h2)⟩
theorem chan_other (w : World) {c j : Nat} (cap : Nat) (buf : Array Value) (cl : Bool) (s r : Nat) (tm : Bool) (h : c ≠ j) : (w.setChan c cap buf cl s r tm).heap[j]? = w.heap[j]? := by
  simp only [World.setChan, Array.getElem?_setIfInBounds]
  rw [if_neg h]
theorem Oth.chan {P : Nat → Prop} {w : World} {c cap s r : Nat} {buf : Array Value} {cl tm : Bool} (hP : P c) : Oth P w (w.setChan c cap buf cl s r tm) :=
  ⟨by rw [Conc.size_setChan]; exact Nat.le_refl _, fun j _ hn => chan_other w cap buf cl s r tm (fun e => hn (e ▸ hP)), fun N _ h2 => Conc.below_setChan (Below.refl _ _) (h2 c hP) _ _ _ _ _ _⟩
theorem Oth.tab {P : Nat → Prop} {t : Nat} {v v' : Value} {w w' : World} (h : TStep t v v' w w') (h1 : P t) (h2 : ∀ j, v.ownBlock = some j → P j) (hb : ∀ N, N ≤ w.heap.size → (∀ j, P j → N ≤ j) → N ≤ t) : Oth P w w' :=
  ⟨h.size, fun j hj hn => h.keep j hj (fun e => hn (e ▸ h1)) (fun e => hn (h2 j e)), fun N a b => h.below.mono (b t h1)⟩
theorem Oth.wide {P P' : Nat → Prop} {w w' : World} (h : Oth P w w') (hp : ∀ j, P j → P' j) : Oth P' w w' :=
  ⟨h.size, fun j hj hn => h.keep j hj (fun e => hn (hp j e)), fun N h1 h2 => h.below N h1 (fun j hj => h2 j (hp j hj))⟩
theorem TabS.chan {w : World} {t A cap s r : Nat} {v : Value} {xs : List Nat} {buf : Array Value} (h : TabS w t v xs) (h1 : A ≠ t) (h2 : v.ownBlock ≠ some A) : TabS (w.setChan A cap buf false s r false) t v xs :=
  ⟨(chan_other _ _ _ _ _ _ _ h1).trans h.blk, own_keep h.own (fun j hj => chan_other _ _ _ _ _ _ _ (fun e => h2 (e ▸ hj)))⟩
theorem wp_region_commE {P : Program} {Q : Exit → Act → World → Prop} {ops ops' : Array Oper} {on : Oper} {id : Nat} {a : Act} {w : World} (n : Nat) (ho : ops[n]? = some on) (hd : on.dst = none) (hm : P.follows .mixedOrders = true) (hc : lastOk ops n ops.size (Array.replicate ops.size false) = true)
    (ht : topoOk ops = true) (he : ops.setIfInBounds n (standIn on) = ops')
    (h : wpAny P .any ops' (Exit.then (fun a w => OpsS P ops Q [n] a w) Q) ops.size (Array.replicate ops.size false) a w.drew) : (Code.region id ops true).wp P Q a w := by
  subst he
  exact wp_region_commD n ho hd hm hc ht h
theorem insq_ty : ∀ (ss : List Slot) (p : List UInt8 × Nat) (m : M), (ins ss p m).2.2.ty = m.ty ∧ (ins ss p m).2.2.tag = m.tag
  | [], _, _ => ⟨rfl, rfl⟩
  | s :: ss, p, m => by
    have h1 : (s.i p m).2.2.ty = m.ty ∧ (s.i p m).2.2.tag = m.tag := by cases s <;> exact ⟨rfl, rfl⟩
    by_cases h : (s.i p m).1 = 0
    · rw [ins_ok h]
      have h2 := insq_ty ss (s.i p m).2.1 (s.i p m).2.2
      exact ⟨h2.1.trans h1.1, h2.2.trans h1.2⟩
    · rw [ins_bad h]; exact h1
theorem decq_ty {b : List UInt8} (h : isM b = true) : (decM b).ty < 256 := by
  have h1 : (decM b).ty = (headM b).ty := (insq_ty _ _ _).1
  have h2 : knownT (headM b).ty = true := by
    unfold isM at h
    simp only [Bool.and_eq_true] at h
    exact h.1.1.2
  unfold knownT at h2
  simp only [Bool.and_eq_true, decide_eq_true_eq] at h2
  omega
def ChanAt (w : World) (A cap : Nat) (buf : Array Value) : Prop := ∃ s r, w.heap[A]? = some (.chan cap buf false s r false)
theorem ChanAt.of {w w' : World} {A cap : Nat} {buf : Array Value} (h : ChanAt w A cap buf) (e : w'.heap[A]? = w.heap[A]?) : ChanAt w' A cap buf := by
  obtain ⟨s, r, h⟩ := h
  exact ⟨s, r, e.trans h⟩
structure BodyAt (w w' : World) (t : Nat) (tv : Value) (xs : List Nat) (b : List UInt8) (g : Nat) (cs : Array Value) (tv' : Value) : Prop where
  tab : TabS w' t tv' (bodyT xs b)
  oth : Oth (fun j => j = t ∨ tv.ownBlock = some j) w w'
  row : ∀ j, j < w.heap.size → tv.ownBlock ≠ some j → tv'.ownBlock ≠ some j
  box : w'.heap[g]? = some (.cells cs 41 (0, 0))
  val : MVal w' (if isM b then decM b else zeroM) (.agg cs) w.heap.size
  new : w.heap.size ≤ g
  ap : ∀ u ∈ cs.toList, ∀ j, u.ownBlock = some j → w.heap.size ≤ j ∧ j < w'.heap.size ∧ tv'.ownBlock ≠ some j
theorem MVal.blk {w : World} {m : M} {cs : Array Value} {B : Nat} (h : MVal w m (.agg cs) B) : ∀ u ∈ cs.toList, ∀ j, u.ownBlock = some j → B ≤ j ∧ j < w.heap.size := by
  obtain ⟨vN, vQ, vD, hv, ⟨hN, hN2⟩, ⟨hQ, hQ2⟩, ⟨hD, hD2⟩⟩ := h
  have hc : cs = m.cells vN vQ vD := by cases hv; rfl
  subst hc
  intro u hu j hj
  have hm : u = vN ∨ u = vQ ∨ u = vD ∨ u.ownBlock = none := by
    unfold M.cells at hu
    simp only [List.mem_cons, List.not_mem_nil, or_false] at hu
    repeat (first | (rcases hu with rfl | hu; (first | exact .inl rfl | exact .inr (.inl rfl) | exact .inr (.inr (.inl rfl)) | exact .inr (.inr (.inr rfl)))) | (subst hu; exact .inr (.inr (.inr rfl))))
  rcases hm with rfl | rfl | rfl | h
  · exact ⟨hN2 j hj, RowAt.blk hN hj⟩
  · exact ⟨hQ2 j hj, RowAt.blk hQ hj⟩
  · exact ⟨hD2 j hj, RowAt.blk hD hj⟩
  · rw [h] at hj; cases hj
def BodyP (w : World) (t A B : Nat) (tv : Value) (capA : Nat) (bufA : Array Value) (capB : Nat) (bufB : Array Value) (b : List UInt8) (xs : List Nat) (e : Ending) (w' : World) : Prop :=
  e = .returned (.tuple #[]) ∧ ∃ tv', (TabS w' t tv' (bodyT xs b) ∧ ∀ j, j < w.heap.size → tv.ownBlock ≠ some j → tv'.ownBlock ≠ some j) ∧ Oth (fun j => (j = t ∨ tv.ownBlock = some j) ∨ j = A ∨ j = B) w w' ∧
    ((bodyE xs b = 0 ∧ ∃ cs : Array Value, MVal w' (decM b) (.agg cs) w.heap.size ∧ cs.size = 36 ∧ (∀ u ∈ cs.toList, ∀ j, u.ownBlock = some j → w.heap.size ≤ j ∧ j < w'.heap.size ∧ tv'.ownBlock ≠ some j) ∧ ChanAt w' A capA (bufA.push (.agg cs)) ∧ ChanAt w' B capB bufB) ∨
     (ErrN (bodyE xs b) ∧ ∃ x, BytesAt w' x (frmB (errM (tagB b) (bodyE xs b)).bytes) ∧ (∀ j, x.ownBlock = some j → w.heap.size ≤ j ∧ j < w'.heap.size ∧ tv'.ownBlock ≠ some j) ∧ ChanAt w' A capA bufA ∧ ChanAt w' B capB (bufB.push x)))
structure Dec1 (w W wx : World) (b : List UInt8) (g : Nat) (cs : Array Value) : Prop where
  below : Below W.heap.size W wx
  box : wx.heap[g]? = some (.cells cs 41 (0, 0))
  val : MVal wx (if isM b = true then decM b else zeroM) (.agg cs) W.heap.size
  new : W.heap.size ≤ g
  size : cs.size = 36
set_option maxHeartbeats 3200000 in
theorem body_try (w : World) (c t A B : Nat) (kp tv bv : Value) (b : List UInt8) (xs : List Nat) (cl : Bool) (hc : w.heap[c]? = some (.cells #[kp, .pointer (some ⟨t, 0, none⟩), .bool cl] 55 (0, 0))) (ht : TabS w t tv xs) (hxs : xs.length ≤ 1000) (hct : c ≠ t) (hcr : tv.ownBlock ≠ some c) (hbv : BytesAt w bv b) (hbf : ∀ j, bv.ownBlock = some j → j ≠ t ∧ tv.ownBlock ≠ some j) (hbl : b.length ≤ 1000000) {capA capB sA rA sB rB : Nat} {bufA bufB : Array Value} (hA : w.heap[A]? = some (.chan capA bufA false sA rA false)) (hB' : w.heap[B]? = some (.chan capB bufB false sB rB false)) (hrA : bufA.size < capA) (hrB : bufB.size < capB) (hAB : A ≠ B) (hAt : A ≠ t ∧ tv.ownBlock ≠ some A) (hBt : B ≠ t ∧ tv.ownBlock ≠ some B) :
    Calls Tryz.prog 17 #[.pointer (some ⟨c, 0, none⟩), bv, .agg #[.chan (some A), .chan (some B)]] w (BodyP w t A B tv capA bufA capB bufB b xs) := by
  have mixed : Tryz.prog.follows Departure.mixedOrders = true := by first | kernel_rfl | decide
  obtain ⟨ab, eb, rfl, _⟩ := hbv.form
  obtain ⟨W, hW⟩ : ∃ W, W = w.alloc (.cells #[.chan (some A), .chan (some B)] 60) := ⟨_, rfl⟩
  have hB : Below w.heap.size w W := by rw [hW]; exact (Below.refl _ _).alloc (Nat.le_refl _) _
  have hq : W.heap[w.heap.size]? = some (.cells #[.chan (some A), .chan (some B)] 60 (0, 0)) := by rw [hW]; exact heap_alloc_new _ _
  have hd := hid (mdecode_any _ b W (hbv.below hB) (by omega))
  replace hB := hid hB
  replace hq := hid hq
  replace ht := hid ht
  replace hc := hid hc
  replace hbv := hid hbv
  replace hbf := hid hbf
  replace hA := hid hA
  replace hB' := hid hB'
  go_enter Tryz.func17, Tryz.ntmps17
  go_upto_region 1 with (rw [← hW]; replace hW := hid hW)
  try (rw [← hW]; replace hW := hid hW)
  go_cut [6, 7] from 6 (fun s6 s7 wx => ∃ (g : Nat) (cs : Array Value), s6 = .pointer (some ⟨g, 0, none⟩) ∧ s7 = .int .i64 (if isM b = true then 0 else 2) ∧ Dec1 w W wx b g cs)
  case first =>
    go_wp2_with fail
    refine hd.out.mono ?_
    rintro e w1 ⟨hb1, v, rfl, hval⟩
    obtain ⟨cs, rfl, hcs, hone⟩ := hval.cells
    obtain ⟨X, hX⟩ : ∃ X, X = (w1.alloc (.cells (zeroM.cells (.slice none 0 0) (.slice none 0 0) (.slice none 0 0)) 41)) := ⟨_, rfl⟩
    have hn := hid (show X.heap[w1.heap.size]? = some (.cells (zeroM.cells (.slice none 0 0) (.slice none 0 0) (.slice none 0 0)) 41 (0, 0)) by rw [hX]; exact heap_alloc_new _ _)
    rw [nil_cells] at hn hX
    obtain ⟨Y, hY⟩ : ∃ Y, Y = X.setRow w1.heap.size cs := ⟨_, rfl⟩
    have hYb := hid (show Y.heap[w1.heap.size]? = some (.cells cs 41 (0, 0)) by rw [hY]; exact setRow_heap _ _ _ cs _ _ hn.out)
    have hBY := hid (show Below w1.heap.size w1 Y by rw [hY, hX]; exact below_setRow ((Below.refl _ _).alloc (Nat.le_refl _) _) (Nat.le_refl _) _)
    obtain ⟨vN, vQ, vD, hv, _⟩ := id hval
    have hcse : cs = (if isM b = true then decM b else zeroM).cells vN vQ vD := by cases hv; rfl
    have l0 : Y.cell? ⟨w1.heap.size, 0, none⟩ = some (.int .u8 ((if isM b = true then decM b else zeroM).ty : Int)) := by rw [block_cell hYb.out 0, hcse]; rfl
    have l1 := hid (show Y.cell? ⟨w1.heap.size, 1, none⟩ = some (.int .u16 ((if isM b = true then decM b else zeroM).tag : Int)) by rw [block_cell hYb.out 1, hcse]; rfl)
    clear hv
    obtain ⟨e0, he0⟩ : ∃ e0 : Int, e0 = if isM b = true then 0 else 2 := ⟨_, rfl⟩
    rw [← he0]
    replace hcse := hid hcse
    have hvY := hid (show MVal Y (if isM b = true then decM b else zeroM) (.agg cs) W.heap.size from hval.other hBY.out.size (fun j _ hj => hBY.out.block j hj) (Nat.le_refl _))
    replace hb1 := hid hb1
    replace hval := hid hval
    replace he0 := hid he0
    replace l0 := hid l0
    go_wp2_with (first | (rw [← hX]; replace hX := hid hX) | (refine wpList_store_row (by rfl) 41 (.tmp 6) (.tmp 11) (by rfl) w1.heap.size _ (by rfl) (by rfl) 41 _ hn.out (by rw [hcs]; kernel_rfl) (by rw [hcs]; rfl) hone ?_; rw [← hY]; replace hY := hid hY))
    go_meet
    exact ⟨_, cs, rfl, by rw [he0.out], (hb1.out.trans (hBY.out.mono hb1.out.size)), hYb.out, hvY.out, hb1.out.size, hcs⟩
  case rest =>
    obtain ⟨g, cs, rfl, rfl, hD⟩ := hcut
    obtain ⟨vN, vQ, vD, hv, _⟩ := id hD.val
    have hcse : cs = (if isM b = true then decM b else zeroM).cells vN vQ vD := by cases hv; rfl
    clear hv
    have l0 : wc.cell? ⟨g, 0, none⟩ = some (.int .u8 ((if isM b = true then decM b else zeroM).ty : Int)) := by rw [block_cell hD.box 0, hcse]; rfl
    have l1 := hid (show wc.cell? ⟨g, 1, none⟩ = some (.int .u16 ((if isM b = true then decM b else zeroM).tag : Int)) by rw [block_cell hD.box 1, hcse]; rfl)
    replace hcse := hid hcse
    replace hD := hid hD
    clear hd hW
    have hE : Hid (bodyE xs b = if isM b = true then (if askT (decM b).ty = true then (askF xs (decM b).tag).1 else 2) else 2) := hid rfl
    have hT : Hid (bodyT xs b = if isM b = true then (if askT (decM b).ty = true then (askF xs (decM b).tag).2 else xs) else xs) := hid rfl
    have htc := hid (ht.out.below (hB.out.trans (hD.out.below.mono hB.out.size)))
    go_step
    go_step
    obtain ⟨wc0, hwc0⟩ : ∃ z, z = wc := ⟨_, rfl⟩
    go_cut [7] from 8 (fun s7 wx => s7 = .int .i64 (if isM b = true then (if askT (decM b).ty = true then 0 else 2) else 2) ∧ wx = wc0)
    case first =>
      subst hwc0
      by_cases hM : isM b = true
      · rw [if_pos hM] at l0 ⊢
        have ha := hid (ask_any (decM b).ty wc0 (decq_ty hM))
        have hM' := hid hM
        clear hM
        generalize (decM b).ty = mt at *
        go_wp2_with fail
        refine ha.out.mono ?_
        rintro e w2 ⟨rfl, rfl⟩
        cases hA : askT mt with
        | true => replace hA := hid hA; go_wp2_with fail; go_meet; exact ⟨by rw [if_pos hM'.out, if_pos hA.out], rfl⟩
        | false => replace hA := hid hA; go_wp2_with fail; go_meet; exact ⟨by rw [if_pos hM'.out, if_neg (by rw [hA.out]; simp)], rfl⟩
      · rw [if_neg hM] at l0 ⊢
        have hM' := hid hM
        clear hM
        go_wp2_with fail
        go_meet
        exact ⟨by rw [if_neg hM'.out], rfl⟩
    case rest =>
      obtain ⟨rfl, hwc⟩ := hcut
      rw [hwc0] at hwc
      clear hwc0
      subst hwc
      clear l0
      have hqc := hid (show wc.heap[w.heap.size]? = some (.cells #[.chan (some A), .chan (some B)] 60 (0, 0)) from (hD.out.below.block _ (lt_of_block hq.out)).trans hq.out)
      go_step
      go_step
      go_cut [7] from 8 (fun s7 wx => ∃ tv', s7 = .int .i64 (bodyE xs b : Int) ∧ BodyAt w wx t tv xs b g cs tv' ∧ wx.heap[w.heap.size]? = some (.cells #[.chan (some A), .chan (some B)] 60 (0, 0)))
      case first =>
        by_cases hM : isM b = true ∧ askT (decM b).ty = true
        · rw [if_pos hM.1, if_pos hM.2]
          rw [if_pos hM.1] at l1
          have hM' := hid hM
          clear hM
          have hta := hid (task_any (x := (decM b).tag) (htc.out.below ((Below.refl _ _).drew)) hxs)
          generalize (decM b).tag = mg at *
          have hBD := hid (hB.out.trans (hD.out.below.mono hB.out.size))
          have k1 : wc.cell? ⟨c, 1, none⟩ = some (.pointer (some ⟨t, 0, none⟩)) := block_cell ((hBD.out.block c (lt_of_block hc.out)).trans hc.out) 1
          go_wp2_with fail
          have l1' := l1.out
          go_region_with (go_at_call 36; (with_reducible refine hta.out.mono ?_); rintro e w4 ⟨v4, rfl, hT4, hS4⟩)
          all_goals
            go_simp
            go_wp2_with fail
            go_meet
            have hsz := hBD.out.size
            have hzB := hB.out.size
            have hlt := ht.out.lt
            have hrow := fun j (hj : tv.ownBlock = some j) => (ht.out.row hj).2
            have hng := hD.out.new
            have hgl := lt_of_block hD.out.box
            refine ⟨v4, by rw [hE.out, if_pos hM'.out.1, if_pos hM'.out.2], ⟨by rw [hT.out, if_pos hM'.out.1, if_pos hM'.out.2]; exact hT4, (Oth.pure hBD.out.drew).trans (Oth.tab hS4 (.inl rfl) (fun j hj => .inr hj) (fun N _ h => h t (.inl rfl))), fun j hj hn => hS4.row j (Nat.lt_of_lt_of_le hj hsz) hn, (hS4.keep g hgl (by omega) (fun e => by have := hrow g e; omega)).trans hD.out.box, hD.out.val.other hS4.size (fun j h1 h2 => hS4.keep j h2 (by omega) (fun e => by have := hrow j e; omega)) hzB, Nat.le_trans hzB hng, fun u hu j hj => by
              have hb := hD.out.val.blk u hu j hj
              exact ⟨by omega, Nat.lt_of_lt_of_le hb.2 hS4.size, hS4.row j hb.2 (fun e => by have := hrow j e; omega)⟩⟩, (hS4.keep w.heap.size (lt_of_block hqc.out) (by omega) (fun e => by have := hrow _ e; omega)).trans hqc.out⟩
        · have he : (if isM b = true then (if askT (decM b).ty = true then (0 : Int) else 2) else 2) = 2 := by
            split
            · rw [if_neg (fun h => hM ⟨by assumption, h⟩)]
            · rfl
          have hEb : Hid (bodyE xs b = 2 ∧ bodyT xs b = xs) := hid (by
            rw [hE.out, hT.out]
            by_cases h1 : isM b = true
            · rw [if_pos h1, if_pos h1, if_neg (fun h => hM ⟨h1, h⟩), if_neg (fun h => hM ⟨h1, h⟩)]; exact ⟨rfl, rfl⟩
            · rw [if_neg h1, if_neg h1]; exact ⟨rfl, rfl⟩)
          rw [he]
          clear he hM
          go_wp2_with fail
          go_meet
          refine ⟨tv, by rw [hEb.out.1]; rfl, ?_⟩
          have hBD := hB.out.trans (hD.out.below.mono hB.out.size)
          exact ⟨⟨by rw [hEb.out.2]; exact htc.out, Oth.pure hBD, fun j _ h => h, hD.out.box, hD.out.val.other (Nat.le_refl _) (fun _ _ _ => rfl) hB.out.size, Nat.le_trans hB.out.size hD.out.new, fun u hu j hj => by
            have hb := hD.out.val.blk u hu j hj
            have := hB.out.size
            exact ⟨by omega, hb.2, fun e => by have := (ht.out.row e).2; omega⟩⟩, hqc.out⟩
      case rest =>
        obtain ⟨tv', rfl, hZ, hqz⟩ := hcut
        have hAc := hid ((hZ.oth.keep A (lt_of_block hA.out) (by simpa using hAt)).trans hA.out)
        have hBc := hid ((hZ.oth.keep B (lt_of_block hB'.out) (by simpa using hBt)).trans hB'.out)
        have q0 := block_cell hqz 0
        have q1 := block_cell hqz 1
        have hcs := hD.out.size
        replace hZ := hid hZ
        replace hqz := hid hqz
        rcases bodyE_of xs b with h0 | hN
        · rw [h0]
          replace h0 := hid h0
          go_upto_region 8 with fail
          refine wp_region_comm 3 [_, _, _] rfl (by decide) ?_
          go_wp2_with (refine wpList_load_row (by rfl) 41 (.tmp 6) (by rfl) g (by rfl) 41 cs (0, 0) _ hZ.out.box Tryz.underlying41 (by rfl) (by rw [hcs]; kernel_rfl) ?_)
          show OpsS _ _ _ [3] _ _
          refine opsS_send (v := .agg cs) (z := .tuple #[]) rfl (by kernel_rfl) ?_ hAc.out hrA ?_
          · skip
            rfl
          refine opsS_of ?_
          simp only [wpOps]
          go_simp
          have hMb : isM b = true := by
            have := hE.out
            rw [h0.out] at this
            by_cases h : isM b = true
            · exact h
            · rw [if_neg h] at this; cases this
          have hAl := lt_of_block hA.out
          have hx := hZ.out.val
          rw [if_pos hMb] at hx
          go_end0
          refine ⟨rfl, tv', ⟨hZ.out.tab.chan hAt.1 (hZ.out.row A hAl hAt.2), hZ.out.row⟩, (hZ.out.oth.wide fun j h => .inl h).trans (Oth.chan (.inr (.inl rfl))), .inl ⟨h0.out, cs, ?_, hcs, fun u hu j hj => by rw [Conc.size_setChan]; exact hZ.out.ap u hu j hj, ⟨_, _, Conc.heap_setChan _ _ _ _ _ _ _ _ (lt_of_block hAc.out)⟩, ⟨_, _, (chan_other _ _ _ _ _ _ _ hAB).trans hBc.out⟩⟩⟩
          exact hx.other (by rw [Conc.size_setChan]; exact Nat.le_refl _) (fun j h1 _ => chan_other _ _ _ _ _ _ _ (by omega)) (Nat.le_refl _)
        · have hn0 : ¬ ((bodyE xs b : Int) = 0) := by rcases hN with h | h | h <;> rw [h] <;> decide
          have hn1 : ((bodyE xs b : Int) != 0) = true := by rw [bne_iff_ne]; exact hn0
          have hn2 : ((bodyE xs b : Int) == 0) = false := by rw [beq_eq_false_iff_ne]; exact hn0
          have hbz : BytesAt wc (.slice ab b.length eb) b := RowAt.other hbv.out hZ.out.oth.size (fun j hj => hZ.out.oth.keep j (hbv.out.lt hj) (by have := hbf.out j hj; simpa using this))
          have htg : ∀ W', Below wc.heap.size wc W' → Calls Tryz.prog 37 #[.slice ab b.length eb] W' fun e w' => e = .returned (.int .u16 (tagB b : Int)) ∧ Below W'.heap.size W' w' := fun W' h => tagof_any _ b W' (hbz.below h) (by omega)
          have hfr := fun W' => framed_err (tagB b) (bodyE xs b) W' (tagB_lt b) hN
          have her := fun W' => merror_any (tagB b) (bodyE xs b) W' (tagB_lt b)
          have hq1 : ∀ W', Below wc.heap.size wc W' → W'.cell? ⟨w.heap.size, 1, none⟩ = some (.chan (some B)) := fun W' h => block_cell ((h.block _ (lt_of_block hqz.out)).trans hqz.out) 1
          have hB0 : Hid (Below wc.heap.size wc wc.drew) := hid ((Below.refl _ _).drew)
          have hwz := hid hZ.out.oth.size
          obtain ⟨E, hEE⟩ : ∃ E, E = bodyE xs b := ⟨_, rfl⟩
          rw [← hEE] at hn0 hn1 hn2 hfr her ⊢
          replace hEE := hid hEE
          replace htg := hid htg
          replace hfr := hid hfr
          replace her := hid her
          replace hq1 := hid hq1
          clear hbz
          go_upto_region 7 with fail
          refine wp_region_commE (ops' := #[_, _, _, _, _, _, _, { dst := none, op := .move (.const undef), type := _, pos := _, after := _, guard := none }]) 7 rfl rfl mixed (by kernel_rfl) (by kernel_rfl) rfl ?_
          refine wpAny_take (i := 0) (v := ?_) rfl (by kernel_rfl) (by kernel_rfl) (by kernel_rfl) (fun _ _ _ h => h) (Or.inl ⟨by rfl, ?_⟩) ?_
          rotate_left
          · intro w; go_simp; try (with_reducible rfl)
          refine wpAny_take (i := 2) (v := ?_) rfl (by kernel_rfl) (by kernel_rfl) (by kernel_rfl) (fun _ _ _ h => h) (Or.inl ⟨by rfl, ?_⟩) ?_
          rotate_left
          · intro w; go_simp; try (with_reducible rfl)
          refine wpAny_take (i := 4) (v := ?_) rfl (by kernel_rfl) (by kernel_rfl) (by kernel_rfl) (fun _ _ _ h => h) (Or.inl ⟨by rfl, ?_⟩) ?_
          rotate_left
          · intro w; go_simp; try (with_reducible rfl)
          refine wpAny_ready (rs := [1, 3]) (by kernel_rfl) (by simp) ?_
          refine AllReady.cons rfl (fun K hK => ?_) ?_
          go_simp
          refine hK _ _ ?_; clear hK K
          refine wpAny_ready (rs := [3]) (by kernel_rfl) (by simp) ?_
          refine AllReady.cons rfl (fun K hK => ?_) ?_
          go_simp
          go_wp2_with (first
            | (go_at_call 37; (with_reducible refine (htg.out _ hB0.out).mono ?_); rintro e w5 ⟨rfl, hb5⟩; replace hb5 := hid (sn hB0.out hb5); have q5 := hq1.out _ hb5.out)
            | (go_at_call 9; (with_reducible refine (her.out _).mono ?_); rintro e w6 ⟨rfl, hb6⟩; replace hb6 := hid (sn hb5.out hb6); have q6 := hq1.out _ hb6.out)
            | (go_at_call 25; (with_reducible refine (hfr.out _).mono ?_); rintro e w7 ⟨v7, rfl, ⟨hv7, hf7⟩, hb7⟩; have hz6 := hid hb6.out.size; replace hb7 := hid (sn hb6.out hb7); replace hv7 := hid hv7; replace hf7 := hid hf7; have q7 := hq1.out _ hb7.out))
          refine wpAny_ready (rs := [5]) (by kernel_rfl) (by simp) ?_
          refine AllReady.cons rfl (fun K hK => ?_) ?_
          go_simp
          go_wp2_with (first
            | (go_at_call 37; (with_reducible refine (htg.out _ hB0.out).mono ?_); rintro e w5 ⟨rfl, hb5⟩; replace hb5 := hid (sn hB0.out hb5); have q5 := hq1.out _ hb5.out)
            | (go_at_call 9; (with_reducible refine (her.out _).mono ?_); rintro e w6 ⟨rfl, hb6⟩; replace hb6 := hid (sn hb5.out hb6); have q6 := hq1.out _ hb6.out)
            | (go_at_call 25; (with_reducible refine (hfr.out _).mono ?_); rintro e w7 ⟨v7, rfl, ⟨hv7, hf7⟩, hb7⟩; have hz6 := hid hb6.out.size; replace hb7 := hid (sn hb6.out hb7); replace hv7 := hid hv7; replace hf7 := hid hf7; have q7 := hq1.out _ hb7.out))
          refine wpAny_ready (rs := [6]) (by kernel_rfl) (by simp) ?_
          refine AllReady.cons rfl (fun K hK => ?_) ?_
          go_simp
          go_wp2_with (first
            | (go_at_call 37; (with_reducible refine (htg.out _ hB0.out).mono ?_); rintro e w5 ⟨rfl, hb5⟩; replace hb5 := hid (sn hB0.out hb5); have q5 := hq1.out _ hb5.out)
            | (go_at_call 9; (with_reducible refine (her.out _).mono ?_); rintro e w6 ⟨rfl, hb6⟩; replace hb6 := hid (sn hb5.out hb6); have q6 := hq1.out _ hb6.out)
            | (go_at_call 25; (with_reducible refine (hfr.out _).mono ?_); rintro e w7 ⟨v7, rfl, ⟨hv7, hf7⟩, hb7⟩; have hz6 := hid hb6.out.size; replace hb7 := hid (sn hb6.out hb7); replace hv7 := hid hv7; replace hf7 := hid hf7; have q7 := hq1.out _ hb7.out))
          refine wpAny_take (i := 7) (v := ?_) rfl (by kernel_rfl) (by kernel_rfl) (by kernel_rfl) (fun _ _ _ h => h) (Or.inl ⟨by rfl, ?_⟩) ?_
          rotate_left
          · intro w; go_simp; try (with_reducible rfl)
          refine wpAny_done (by kernel_rfl) ?_ _
          rotate_left
          exact AllReady.nil
          exact AllReady.nil
          exact AllReady.nil
          refine AllReady.cons rfl (fun K hK => ?_) ?_
          go_simp
          go_wp2_with (first
            | (go_at_call 37; (with_reducible refine (htg.out _ hB0.out).mono ?_); rintro e w5 ⟨rfl, hb5⟩; replace hb5 := hid (sn hB0.out hb5); have q5 := hq1.out _ hb5.out)
            | (go_at_call 9; (with_reducible refine (her.out _).mono ?_); rintro e w6 ⟨rfl, hb6⟩; replace hb6 := hid (sn hb5.out hb6); have q6 := hq1.out _ hb6.out)
            | (go_at_call 25; (with_reducible refine (hfr.out _).mono ?_); rintro e w7 ⟨v7, rfl, ⟨hv7, hf7⟩, hb7⟩; have hz6 := hid hb6.out.size; replace hb7 := hid (sn hb6.out hb7); replace hv7 := hid hv7; replace hf7 := hid hf7; have q7 := hq1.out _ hb7.out))
          refine wpAny_ready (rs := [1, 5]) (by kernel_rfl) (by simp) ?_
          refine AllReady.cons rfl (fun K hK => ?_) ?_
          go_simp
          refine hK _ _ ?_; clear hK K
          refine wpAny_ready (rs := [5]) (by kernel_rfl) (by simp) ?_
          refine AllReady.cons rfl (fun K hK => ?_) ?_
          go_simp
          go_wp2_with (first
            | (go_at_call 37; (with_reducible refine (htg.out _ hB0.out).mono ?_); rintro e w5 ⟨rfl, hb5⟩; replace hb5 := hid (sn hB0.out hb5); have q5 := hq1.out _ hb5.out)
            | (go_at_call 9; (with_reducible refine (her.out _).mono ?_); rintro e w6 ⟨rfl, hb6⟩; replace hb6 := hid (sn hb5.out hb6); have q6 := hq1.out _ hb6.out)
            | (go_at_call 25; (with_reducible refine (hfr.out _).mono ?_); rintro e w7 ⟨v7, rfl, ⟨hv7, hf7⟩, hb7⟩; have hz6 := hid hb6.out.size; replace hb7 := hid (sn hb6.out hb7); replace hv7 := hid hv7; replace hf7 := hid hf7; have q7 := hq1.out _ hb7.out))
          refine wpAny_ready (rs := [6]) (by kernel_rfl) (by simp) ?_
          refine AllReady.cons rfl (fun K hK => ?_) ?_
          go_simp
          go_wp2_with (first
            | (go_at_call 37; (with_reducible refine (htg.out _ hB0.out).mono ?_); rintro e w5 ⟨rfl, hb5⟩; replace hb5 := hid (sn hB0.out hb5); have q5 := hq1.out _ hb5.out)
            | (go_at_call 9; (with_reducible refine (her.out _).mono ?_); rintro e w6 ⟨rfl, hb6⟩; replace hb6 := hid (sn hb5.out hb6); have q6 := hq1.out _ hb6.out)
            | (go_at_call 25; (with_reducible refine (hfr.out _).mono ?_); rintro e w7 ⟨v7, rfl, ⟨hv7, hf7⟩, hb7⟩; have hz6 := hid hb6.out.size; replace hb7 := hid (sn hb6.out hb7); replace hv7 := hid hv7; replace hf7 := hid hf7; have q7 := hq1.out _ hb7.out))
          refine wpAny_take (i := 7) (v := ?_) rfl (by kernel_rfl) (by kernel_rfl) (by kernel_rfl) (fun _ _ _ h => h) (Or.inl ⟨by rfl, ?_⟩) ?_
          rotate_left
          · intro w; go_simp; try (with_reducible rfl)
          refine wpAny_done (by kernel_rfl) ?_ _
          rotate_left
          exact AllReady.nil
          exact AllReady.nil
          refine AllReady.cons rfl (fun K hK => ?_) ?_
          go_simp
          go_wp2_with (first
            | (go_at_call 37; (with_reducible refine (htg.out _ hB0.out).mono ?_); rintro e w5 ⟨rfl, hb5⟩; replace hb5 := hid (sn hB0.out hb5); have q5 := hq1.out _ hb5.out)
            | (go_at_call 9; (with_reducible refine (her.out _).mono ?_); rintro e w6 ⟨rfl, hb6⟩; replace hb6 := hid (sn hb5.out hb6); have q6 := hq1.out _ hb6.out)
            | (go_at_call 25; (with_reducible refine (hfr.out _).mono ?_); rintro e w7 ⟨v7, rfl, ⟨hv7, hf7⟩, hb7⟩; have hz6 := hid hb6.out.size; replace hb7 := hid (sn hb6.out hb7); replace hv7 := hid hv7; replace hf7 := hid hf7; have q7 := hq1.out _ hb7.out))
          refine wpAny_ready (rs := [1, 6]) (by kernel_rfl) (by simp) ?_
          refine AllReady.cons rfl (fun K hK => ?_) ?_
          go_simp
          refine hK _ _ ?_; clear hK K
          refine wpAny_ready (rs := [6]) (by kernel_rfl) (by simp) ?_
          refine AllReady.cons rfl (fun K hK => ?_) ?_
          go_simp
          go_wp2_with (first
            | (go_at_call 37; (with_reducible refine (htg.out _ hB0.out).mono ?_); rintro e w5 ⟨rfl, hb5⟩; replace hb5 := hid (sn hB0.out hb5); have q5 := hq1.out _ hb5.out)
            | (go_at_call 9; (with_reducible refine (her.out _).mono ?_); rintro e w6 ⟨rfl, hb6⟩; replace hb6 := hid (sn hb5.out hb6); have q6 := hq1.out _ hb6.out)
            | (go_at_call 25; (with_reducible refine (hfr.out _).mono ?_); rintro e w7 ⟨v7, rfl, ⟨hv7, hf7⟩, hb7⟩; have hz6 := hid hb6.out.size; replace hb7 := hid (sn hb6.out hb7); replace hv7 := hid hv7; replace hf7 := hid hf7; have q7 := hq1.out _ hb7.out))
          refine wpAny_take (i := 7) (v := ?_) rfl (by kernel_rfl) (by kernel_rfl) (by kernel_rfl) (fun _ _ _ h => h) (Or.inl ⟨by rfl, ?_⟩) ?_
          rotate_left
          · intro w; go_simp; try (with_reducible rfl)
          refine wpAny_done (by kernel_rfl) ?_ _
          rotate_left
          exact AllReady.nil
          refine AllReady.cons rfl (fun K hK => ?_) ?_
          go_simp
          go_wp2_with (first
            | (go_at_call 37; (with_reducible refine (htg.out _ hB0.out).mono ?_); rintro e w5 ⟨rfl, hb5⟩; replace hb5 := hid (sn hB0.out hb5); have q5 := hq1.out _ hb5.out)
            | (go_at_call 9; (with_reducible refine (her.out _).mono ?_); rintro e w6 ⟨rfl, hb6⟩; replace hb6 := hid (sn hb5.out hb6); have q6 := hq1.out _ hb6.out)
            | (go_at_call 25; (with_reducible refine (hfr.out _).mono ?_); rintro e w7 ⟨v7, rfl, ⟨hv7, hf7⟩, hb7⟩; have hz6 := hid hb6.out.size; replace hb7 := hid (sn hb6.out hb7); replace hv7 := hid hv7; replace hf7 := hid hf7; have q7 := hq1.out _ hb7.out))
          refine wpAny_ready (rs := [1]) (by kernel_rfl) (by simp) ?_
          refine AllReady.cons rfl (fun K hK => ?_) ?_
          go_simp
          refine hK _ _ ?_; clear hK K
          refine wpAny_take (i := 7) (v := ?_) rfl (by kernel_rfl) (by kernel_rfl) (by kernel_rfl) (fun _ _ _ h => h) (Or.inl ⟨by rfl, ?_⟩) ?_
          rotate_left
          · intro w; go_simp; try (with_reducible rfl)
          refine wpAny_done (by kernel_rfl) ?_ _
          rotate_left
          exact AllReady.nil
          exact AllReady.nil
          exact AllReady.nil
          exact AllReady.nil
          all_goals
            have hBl := lt_of_block hB'.out
            have hB7 := hid ((hb7.out.block B (by have := hwz.out; omega)).trans hBc.out)
            have hA7 := hid ((hb7.out.block A (by have := hwz.out; have := lt_of_block hA.out; omega)).trans hAc.out)
            refine opsS_send (v := v7) (z := .tuple #[]) rfl (by kernel_rfl) ?_ hB7.out hrB ?_
            · rfl
            refine opsS_of ?_
            simp only [wpOps]
            go_wp2_with fail
            go_end0
            have hf : ∀ j, v7.ownBlock = some j → w.heap.size ≤ j := fun j hj => by have := hf7.out j hj; have := hz6.out; have := hwz.out; omega
            refine ⟨rfl, tv', ⟨(hZ.out.tab.below hb7.out).chan hBt.1 (hZ.out.row B hBl hBt.2), hZ.out.row⟩, ((hZ.out.oth.wide fun j h => .inl h).trans (Oth.pure hb7.out)).trans (Oth.chan (.inr (.inr rfl))), .inr ⟨hN, v7, ?_, fun j hj => ⟨hf j hj, by rw [Conc.size_setChan]; exact hv7.out.lt hj, fun e => by have := (hZ.out.tab.row e).2; have := hf7.out j hj; have := hz6.out; omega⟩, ⟨_, _, (chan_other _ _ _ _ _ _ _ (fun e => hAB e.symm)).trans hA7.out⟩, ⟨_, _, Conc.heap_setChan _ _ _ _ _ _ _ _ (lt_of_block hB7.out)⟩⟩⟩
            rw [← hEE.out]
            exact RowAt.other hv7.out (by rw [Conc.size_setChan]; exact Nat.le_refl _) (fun j hj => chan_other _ _ _ _ _ _ _ (by have := hf j hj; omega))
end
end Go.Proofs.YtcbglcebdkpcfaaGreat

namespace Go.Proofs.YtcbglcebdkpcfaaGreat
section
open Go.RowKit
set_option maxRecDepth 100000
set_option linter.unusedVariables false

structure RoadS (w : World) (n : Nat) (hv tv : Value) (l : List UInt8) (dead : Bool) (xs : List Nat) (cl : Bool) : Prop where
  blk : w.heap[n + 2]? = some (.cells #[.pointer (some ⟨n, 0, none⟩), .pointer (some ⟨n + 1, 0, none⟩), .bool cl] 55 (0, 0))
  str : StrS w n hv l dead
  tab : TabS w (n + 1) tv xs
  hrow : ∀ j, hv.ownBlock = some j → n + 3 ≤ j ∧ tv.ownBlock ≠ some j
  trow : ∀ j, tv.ownBlock = some j → n + 3 ≤ j
def newRoad (w : World) : World := ((w.alloc (.cells #[.slice none 0 0, .bool false] 79)).alloc (.cells #[.slice none 0 0, .slice none 0 0] 82)).alloc (.cells #[.pointer (some ⟨w.heap.size, 0, none⟩), .pointer (some ⟨w.heap.size + 1, 0, none⟩), .bool false] 55)
theorem newRoad_s (w : World) : RoadS (newRoad w) w.heap.size (.slice none 0 0) (.slice none 0 0) [] false [] false ∧ Below w.heap.size w (newRoad w) := by
  have hb := (((Below.refl w.heap.size w).alloc (Nat.le_refl _) (.cells #[.slice none 0 0, .bool false] 79)).alloc (by simp) (.cells #[.slice none 0 0, .slice none 0 0] 82)).alloc (by simp; omega) (.cells #[.pointer (some ⟨w.heap.size, 0, none⟩), .pointer (some ⟨w.heap.size + 1, 0, none⟩), .bool false] 55)
  refine ⟨⟨heap3 _ _ _ _, ⟨?_, RowAt.nil, by intro e; cases e⟩, ⟨?_, World.ownsRow_nil _ _ _ _⟩, fun j hj => (by cases hj), fun j hj => (by cases hj)⟩, hb⟩
  · unfold newRoad
    rw [heap_alloc_old _ _ (by simp; omega), heap_alloc_old _ _ (by simp), heap_alloc_new]
  · unfold newRoad
    rw [heap_alloc_old _ _ (by simp)]; exact heap2 _ _ _
theorem cnew_any (w : World) : Calls Tryz.prog 6 #[] w fun e w' => e = .returned (.pointer (some ⟨w.heap.size + 2, 0, none⟩)) ∧ w' = newRoad w := by
  have h1 := hid (fnew_any w)
  have h2 := hid (fun W => tnew_any W)
  go_enter Tryz.func6, Tryz.ntmps6
  go_wp2_with fail
  refine h1.out.mono ?_
  rintro e w1 ⟨rfl, rfl⟩
  go_wp2_with fail
  refine (h2.out _).mono ?_
  rintro e w2 ⟨rfl, rfl⟩
  go_wp2_with fail
  go_ret
  refine ⟨?_, ?_⟩
  · simp
  · unfold newRoad; simp
theorem clipf_any (a : Option Addr) (n c : Nat) (w : World) (h : n ≤ c) (hm : c ≤ maxLen) : Calls Tryz.prog 20 #[.slice a n c] w fun e w' => e = .returned (.slice a n n) ∧ w' = w := by
  unfold maxLen at hm
  go_enter Tryz.func20, Tryz.ntmps20
  go_wp2_with fail
  go_ret
  exact ⟨rfl, rfl⟩
theorem clipm_any (a : Option Addr) (n c : Nat) (w : World) (h : n ≤ c) (hm : c ≤ maxLen) : Calls Tryz.prog 19 #[.slice a n c] w fun e w' => e = .returned (.slice a n n) ∧ w' = w := by
  unfold maxLen at hm
  go_enter Tryz.func19, Tryz.ntmps19
  go_wp2_with fail
  go_ret
  exact ⟨rfl, rfl⟩
theorem closed_any (w : World) (n : Nat) (x y : Value) (cl : Bool) (h : w.heap[n + 2]? = some (.cells #[x, y, .bool cl] 55 (0, 0))) : Calls Tryz.prog 12 #[.pointer (some ⟨n + 2, 0, none⟩)] w fun e w' => e = .returned (.bool cl) ∧ w' = w := by
  have c2 := block_cell h 2
  clear h
  go_enter Tryz.func12, Tryz.ntmps12
  go_wp2_with fail
  go_ret
  exact ⟨rfl, rfl⟩
end
end Go.Proofs.YtcbglcebdkpcfaaGreat

namespace Go.Proofs.YtcbglcebdkpcfaaGreat
section
open Go.RowKit
set_option maxRecDepth 100000
set_option linter.unusedVariables false

def AnsP (w : World) (n : Nat) (tv : Value) (xs : List Nat) (m : M) (e : Ending) (w' : World) : Prop :=
  ∃ v, e = .returned v ∧ FramesAt w' v (if m.tag ∈ xs then [frmB m.bytes] else []) ∧ (∃ tv', TabS w' (n + 1) tv' (doneF xs m.tag) ∧ ∀ j, j < w.heap.size → tv.ownBlock ≠ some j → tv'.ownBlock ≠ some j) ∧ Oth (fun j => j = n + 1 ∨ tv.ownBlock = some j) w w'
set_option maxHeartbeats 1600000 in
theorem answer_any (w : World) (n : Nat) (hv tv : Value) (l : List UInt8) (dead : Bool) (xs : List Nat) (m : M) (vN vQ vD : Value) (h : RoadS w n hv tv l dead xs false) (hxs : xs.length ≤ 1000) (hm : MOk m) (hf : MFew m) (hN : StrsAt w vN m.names) (hQ : QidsAt w vQ m.qids) (hD : BytesAt w vD m.data)
    (hfn : ∀ v, v = vN ∨ v = vQ ∨ v = vD → ∀ j, v.ownBlock = some j → j ≠ n + 1 ∧ tv.ownBlock ≠ some j) (he : m.err = 0) (hl : m.bytes.length ≤ 8188) :
    Calls Tryz.prog 10 #[.pointer (some ⟨n + 2, 0, none⟩), .agg (m.cells vN vQ vD)] w (AnsP w n tv xs m) := by
  obtain ⟨cs, hcs⟩ : ∃ cs, cs = m.cells vN vQ vD := ⟨_, rfl⟩
  have hs : cs.size = 36 := by rw [hcs]; rfl
  have hg1 : cs[1]? = some (.int .u16 (m.tag : Int)) := by rw [hcs]; rfl
  obtain ⟨W, hW⟩ : ∃ W, W = w.alloc (.cells cs 41) := ⟨_, rfl⟩
  have hB : Below w.heap.size w W := by rw [hW]; exact (Below.refl _ _).alloc (Nat.le_refl _) _
  have hq : W.heap[w.heap.size]? = some (.cells cs 41 (0, 0)) := by rw [hW]; exact heap_alloc_new _ _
  have hblk := (hB.block _ (lt_of_block h.blk)).trans h.blk
  have c1 := block_cell hblk 1
  have c2 := block_cell hblk 2
  have c3 : W.cell? ⟨w.heap.size, 1, none⟩ = some (.int .u16 (m.tag : Int)) := by rw [block_cell hq 1]; exact hg1
  have hd := hid (tdone_any (x := m.tag) ((h.tab.below hB).below ((Below.refl _ _).drew)) hxs)
  have hbd := hid (hB.drew)
  rw [← hcs]
  replace hcs := hid hcs
  replace hB := hid hB
  replace hq := hid hq
  replace hs := hid hs
  replace h := hid h
  clear hblk hg1
  go_enter Tryz.func10, Tryz.ntmps10
  go_upto_region 1 with (rw [← hW]; replace hW := hid hW)
  try (rw [← hW]; replace hW := hid hW)
  go_region_with (go_at_call 24; (with_reducible refine hd.out.mono ?_); rintro e w4 ⟨v4, rfl, hT4, hS4⟩)
  all_goals
    have hzw := hid (lt_of_block h.out.tab.blk)
    have hrw := hid (fun j (hj : tv.ownBlock = some j) => (h.out.tab.row hj).2)
    have hzW := hid hB.out.size
    have hO4 := hid ((Oth.pure hbd.out).trans (Oth.tab (P := fun j => j = n + 1 ∨ tv.ownBlock = some j) hS4 (.inl rfl) (fun j hj => .inr hj) (fun N _ h => h (n + 1) (.inl rfl))))
    have hq4 := hid ((hS4.keep w.heap.size (lt_of_block hq.out) (by have := hzw.out; omega) (fun e => by have := hrw.out _ e; omega)).trans hq.out)
    have hkp : ∀ j, j < w.heap.size → j ≠ n + 1 ∧ tv.ownBlock ≠ some j → w4.heap[j]? = w.heap[j]? := fun j hj hn => hO4.out.keep j hj (by simpa using hn)
    have hr4 := hid (fun j (hj : j < w.heap.size) hn => hS4.row j (Nat.lt_of_lt_of_le hj hbd.out.size) hn)
    replace hT4 := hid hT4
    by_cases hx : m.tag ∈ xs
    · rw [decide_eq_true hx]
      have hx' := hid hx
      have hfr := framed_ok m vN vQ vD w4 hm hf (RowAt.other hN hO4.out.size fun j hj => hkp j (RowAt.blk hN hj) (hfn _ (.inl rfl) j hj)) (RowAt.other hQ hO4.out.size fun j hj => hkp j (RowAt.blk hQ hj) (hfn _ (.inr (.inl rfl)) j hj)) (RowAt.other hD hO4.out.size fun j hj => hkp j (RowAt.blk hD hj) (hfn _ (.inr (.inr rfl)) j hj)) he hl
      rw [← hcs.out] at hfr
      replace hfr := hid hfr
      clear hx hkp hd c1 c2 c3
      go_simp
      go_wp2_with (refine wpList_load_row (by rfl) 41 (.tmp 3) (by rfl) w.heap.size (by rfl) 41 cs (0, 0) _ hq4.out Tryz.underlying41 (by rfl) (by rw [hs.out]; kernel_rfl) ?_)
      refine hfr.out.mono ?_
      rintro e w5 ⟨v5, rfl, ⟨hv5, hf5⟩, hb5⟩
      obtain ⟨a5, c5, rfl, _⟩ := hv5.form
      have hA5 := hid ((Below.refl w5.heap.size w5).alloc (Nat.le_refl _) (.cells #[.slice a5 (frmB m.bytes).length c5] 29))
      have hn5 := hid (heap_alloc_new w5 (.cells #[.slice a5 (frmB m.bytes).length c5] 29))
      have hv6 := hid (hv5.below hA5.out)
      have hb6 := hid (sn hb5 hA5.out)
      clear hv5 hf5 hb5
      generalize hFB : frmB m.bytes = FB at *
      replace hFB := hid hFB
      go_wp2_with fail
      go_ret
      refine ⟨_, rfl, ?_, ⟨v4, hT4.out.below hb6.out, hr4.out⟩, hO4.out.trans (Oth.pure hb6.out)⟩
      rw [if_pos hx'.out, hFB.out]
      refine ⟨[.slice a5 FB.length c5], rfl, RowAt.of_block (n := 1) (k := 1) (cs := #[.slice a5 FB.length c5]) (e := 29) (fr := (0, 0)) hn5.out rfl (by unfold maxLen; omega), fun i hi => ?_⟩
      have hi0 : i = 0 := by simp at hi; exact hi
      subst hi0
      exact hv6.out
    · rw [decide_eq_false hx]
      have hx' := hid hx
      clear hx hkp hd c1 c2 c3
      go_simp
      go_wp2_with fail
      go_ret
      exact ⟨_, rfl, by rw [if_neg hx'.out]; exact FramesAt.nil, ⟨v4, hT4.out, hr4.out⟩, hO4.out⟩
end
end Go.Proofs.YtcbglcebdkpcfaaGreat

namespace Go.Proofs.YtcbglcebdkpcfaaGreat
section
open Go.RowKit
set_option maxRecDepth 100000
set_option linter.unusedVariables false

theorem tags_one (xs : List Nat) : ∀ u ∈ xs.map tagV, u.oneCell' = true := by
  intro u hu
  obtain ⟨n, _, rfl⟩ := List.mem_map.1 hu
  rfl
theorem tclone_new (v : Value) (xs : List Nat) (w : World) (h : TagsAt w v xs) (hl : xs.length ≤ 1000) :
    Calls Tryz.prog 51 #[v] w fun e w' => ∃ v', e = .returned v' ∧ TagsAt w' v' xs ∧ Below w.heap.size w w' := by
  obtain ⟨hlen, a, c, rfl, hc1, hc2, hc3, hc4⟩ := id h
  have qT := fun (w : World) (a : Option Addr) (n c n' c' : Nat) => Lib.run_eql_slice_nil (P := Tryz.prog) w 45 31 a n c n' c' Tryz.underlying45
  cases a with
  | none =>
    have hc0 := hc3 rfl
    have hx : xs = [] := List.eq_nil_of_length_eq_zero (by omega)
    subst hx
    clear hc3 hc4 hlen h
    go_enter Tryz.func51, Tryz.ntmps51
    go_wp2
    go_ret
    exact ⟨_, rfl, RowAt.nil, Below.refl _ _⟩
  | some a =>
    have h0 : RowAt _ _ _ _ _ := RowAt.below h ((Below.refl w.heap.size w).alloc (Nat.le_refl _) (.cells #[] 31))
    clear hc3 hc4 hlen
    go_enter Tryz.func51, Tryz.ntmps51
    go_wp2_with (at_builtin; refine wpList_append_row elemU16 _ rfl (.tmp 5) (.tmp 6) rfl w.heap.size _ 0 [] rfl (own_empty w 31 1) _ xs.length (xs.map tagV) rfl h0 (tags_one xs) (by unfold maxLen; omega) (by omega) (by simp) (fun a' c' w' h2 h3 => ?_))
    go_ret
    simp only [Nat.zero_add, List.nil_append] at h2
    refine ⟨_, rfl, ?_, (((Below.refl w.heap.size w).alloc (Nat.le_refl _) _).grown h3 (by simp) (fun k hk => by cases hk; exact Nat.le_refl _))⟩
    unfold TagsAt; simpa using RowAt.of_own h2
theorem tclip_any (v : Value) (xs : List Nat) (w : World) (h : TagsAt w v xs) :
    Calls Tryz.prog 50 #[v] w fun e w' => ∃ v', e = .returned v' ∧ TagsAt w' v' xs ∧ w' = w := by
  obtain ⟨hlen, a, c, rfl, hc1, hc2, hc3, hc5, hc4⟩ := id h
  have hr : TagsAt w (.slice a xs.length xs.length) xs := ⟨hlen, a, xs.length, rfl, Nat.le_refl _, by omega, fun e => by have := hc3 e; omega, hc5, hc4⟩
  replace hr := hid hr
  unfold maxLen at hc2
  clear hc3 hc5 hc4 h hlen
  go_enter Tryz.func50, Tryz.ntmps50
  go_wp2_with fail
  go_ret
  exact ⟨_, rfl, hr.out, rfl⟩
theorem tall_any {w : World} {t : Nat} {v : Value} {xs : List Nat} (h : TabS w t v xs) (hl : xs.length ≤ 1000) :
    Calls Tryz.prog 26 #[.pointer (some ⟨t, 0, none⟩)] w fun e w' => ∃ v', e = .returned v' ∧ TagsAt w' v' xs ∧ Below w.heap.size w w' := by
  have c0 := block_cell h.blk 0
  have h1 := hid (tclone_new v xs w h.own.at hl)
  obtain ⟨a, c, rfl, _⟩ := h.own.at.form
  clear h
  go_enter Tryz.func26, Tryz.ntmps26
  go_wp2_with fail
  refine h1.out.mono ?_
  rintro e w1 ⟨v1, rfl, hv1, hb1⟩
  have h2 := hid (tclip_any v1 xs w1 hv1)
  replace hb1 := hid hb1
  clear hv1 h1
  go_wp2_with fail
  refine h2.out.mono ?_
  rintro e w2 ⟨v2, rfl, hv2, rfl⟩
  replace hv2 := hid hv2
  go_wp2_with fail
  go_ret
  exact ⟨_, rfl, hv2.out, hb1.out⟩
theorem open_any {w : World} {n : Nat} {hv tv : Value} {l : List UInt8} {dead cl : Bool} {xs : List Nat} (h : RoadS w n hv tv l dead xs cl) (hl : xs.length ≤ 1000) :
    Calls Tryz.prog 11 #[.pointer (some ⟨n + 2, 0, none⟩)] w fun e w' => ∃ v', e = .returned v' ∧ TagsAt w' v' xs ∧ Below w.heap.size w w' := by
  have c1 := block_cell h.blk 1
  have h1 := hid (tall_any h.tab hl)
  clear h
  go_enter Tryz.func11, Tryz.ntmps11
  go_wp2_with fail
  refine h1.out.mono ?_
  rintro e w1 ⟨v1, rfl, hv1, hb1⟩
  replace hv1 := hid hv1
  replace hb1 := hid hb1
  go_wp2_with fail
  go_ret
  exact ⟨_, rfl, hv1.out, hb1.out⟩
end
end Go.Proofs.YtcbglcebdkpcfaaGreat

namespace Go.Proofs.YtcbglcebdkpcfaaGreat
section
open Go.RowKit
set_option maxRecDepth 100000
set_option linter.unusedVariables false

theorem nextN_two {l : List UInt8} {most : Nat} (h0 : nextN l most ≠ 0) (h1 : nextN l most ≠ 1) : 7 ≤ leadN l ∧ leadN l ≤ l.length ∧ nextN l most = 2 := by
  by_cases a : leadN l < 7 ∨ most < leadN l
  · exact absurd (show nextN l most = 0 by unfold nextN; rw [if_pos a]) h0
  · by_cases b : l.length < leadN l
    · exact absurd (show nextN l most = 1 by unfold nextN; rw [if_neg a, if_pos b]) h1
    · exact ⟨by omega, by omega, by unfold nextN; rw [if_neg a, if_neg b]⟩
theorem feedF_len {most : Nat} : ∀ (f : Nat) (l : List UInt8), (feedF most f l).1.length + ((feedF most f l).2.getD []).length ≤ l.length ∧ ∀ b ∈ (feedF most f l).1, b.length ≤ l.length
  | 0, l => by simp [feedF]
  | f + 1, l => by
    have ih := feedF_len (most := most) f (l.drop (leadN l))
    unfold feedF
    split
    · simp
    · split
      · simp
      · split
        · simp
        · rename_i h4 h0 h1
          obtain ⟨h7, hl, _⟩ := nextN_two h0 h1
          simp only [List.length_drop] at ih
          refine ⟨by simp only [List.length_cons]; omega, fun b hb => ?_⟩
          rcases List.mem_cons.1 hb with rfl | hb
          · simp; omega
          · have := ih.2 b hb; omega
theorem feedF_fuel {most : Nat} : ∀ (f g : Nat) (l : List UInt8), l.length < f → l.length < g → feedF most f l = feedF most g l
  | 0, _, _, h, _ => absurd h (by omega)
  | _, 0, _, _, h => absurd h (by omega)
  | f + 1, g + 1, l, h1, h2 => by
    unfold feedF
    by_cases h4 : l.length < 4
    · rw [if_pos h4, if_pos h4]
    · rw [if_neg h4, if_neg h4]
      by_cases h0 : nextN l most = 0
      · rw [if_pos h0, if_pos h0]
      · rw [if_neg h0, if_neg h0]
        by_cases hn : nextN l most = 1
        · rw [if_pos hn, if_pos hn]
        · rw [if_neg hn, if_neg hn]
          obtain ⟨h7, hl, _⟩ := nextN_two h0 hn
          rw [feedF_fuel f g (l.drop (leadN l)) (by simp; omega) (by simp; omega)]
theorem leadN_app {l : List UInt8} (z : List UInt8) (h : 4 ≤ l.length) : leadN (l ++ z) = leadN l := by
  unfold leadN
  rw [List.take_append_of_le_length h]
def thenF (most : Nat) (r : List (List UInt8) × Option (List UInt8)) (z : List UInt8) : List (List UInt8) × Option (List UInt8) := match r.2 with
  | none => (r.1, none)
  | some h => (r.1 ++ (feedF most ((h ++ z).length + 1) (h ++ z)).1, (feedF most ((h ++ z).length + 1) (h ++ z)).2)
theorem feedF_app {most : Nat} (z : List UInt8) : ∀ (f g : Nat) (l : List UInt8), l.length < f → (l ++ z).length < g → feedF most g (l ++ z) = thenF most (feedF most f l) z
  | 0, _, _, h, _ => absurd h (by omega)
  | f + 1, 0, l, _, h => absurd h (by omega)
  | f + 1, g + 1, l, hf, hg => by
    by_cases h4 : l.length < 4
    · rw [show feedF most (f + 1) l = ([], some l) by unfold feedF; rw [if_pos h4]]
      unfold thenF
      simp only [List.nil_append]
      rw [feedF_fuel (g + 1) ((l ++ z).length + 1) _ hg (by omega)]
    · have hla := leadN_app z (show 4 ≤ l.length by omega)
      by_cases h0 : nextN l most = 0
      · have h0' : nextN (l ++ z) most = 0 := by
          unfold nextN at *
          rw [hla]
          split at h0
          · rename_i a; rw [if_pos a]
          · split at h0 <;> cases h0
        rw [show feedF most (f + 1) l = ([], none) by unfold feedF; rw [if_neg h4, if_pos h0]]
        unfold feedF
        rw [if_neg (by simp; omega), if_pos h0']
        rfl
      · by_cases h1 : nextN l most = 1
        · rw [show feedF most (f + 1) l = ([], some l) by unfold feedF; rw [if_neg h4, if_neg h0, if_pos h1]]
          unfold thenF
          simp only [List.nil_append]
          rw [feedF_fuel (g + 1) ((l ++ z).length + 1) _ hg (by omega)]
        · obtain ⟨h7, hl, h2⟩ := nextN_two h0 h1
          have h2' : nextN (l ++ z) most = 2 := by
            have hle : (l ++ z).length = l.length + z.length := by simp
            unfold nextN at h2 ⊢
            rw [hla]
            split at h2
            · cases h2
            · rename_i a
              rw [if_neg a, if_neg (by omega)]
          have ih := feedF_app (most := most) z f g (l.drop (leadN l)) (by simp; omega) (by simp at hg ⊢; omega)
          rw [show feedF most (f + 1) l = ((l.take (leadN l)).drop 4 :: (feedF most f (l.drop (leadN l))).1, (feedF most f (l.drop (leadN l))).2) by rw [feedF, if_neg h4, if_neg h0, if_neg h1]]
          rw [feedF, if_neg (by simp; omega), if_neg (by omega), if_neg (by omega), hla, List.take_append_of_le_length hl, List.drop_append_of_le_length hl, ih]
          unfold thenF
          cases (feedF most f (l.drop (leadN l))).2 <;> rfl
def tagsB (xs : List Nat) (L : List (List UInt8)) : List Nat := L.foldl bodyT xs
def ask1 (xs : List Nat) (b : List UInt8) : List M := if bodyE xs b = 0 then [decM b] else []
def out1 (xs : List Nat) (b : List UInt8) : List (List UInt8) := if bodyE xs b = 0 then [] else [frmB (errM (tagB b) (bodyE xs b)).bytes]
def asksB : List Nat → List (List UInt8) → List M
  | _, [] => []
  | xs, b :: L => ask1 xs b ++ asksB (bodyT xs b) L
def outsB : List Nat → List (List UInt8) → List (List UInt8)
  | _, [] => []
  | xs, b :: L => out1 xs b ++ outsB (bodyT xs b) L
theorem tagsB_app (xs : List Nat) (L K : List (List UInt8)) : tagsB xs (L ++ K) = tagsB (tagsB xs L) K := List.foldl_append ..
theorem asksB_app : ∀ (L : List (List UInt8)) (xs : List Nat) (K : List (List UInt8)), asksB xs (L ++ K) = asksB xs L ++ asksB (tagsB xs L) K
  | [], _, _ => rfl
  | b :: L, xs, K => by
    simp only [List.cons_append, asksB, tagsB, List.foldl_cons]
    rw [asksB_app L (bodyT xs b) K, List.append_assoc]
    rfl
theorem outsB_app : ∀ (L : List (List UInt8)) (xs : List Nat) (K : List (List UInt8)), outsB xs (L ++ K) = outsB xs L ++ outsB (tagsB xs L) K
  | [], _, _ => rfl
  | b :: L, xs, K => by
    simp only [List.cons_append, outsB, tagsB, List.foldl_cons]
    rw [outsB_app L (bodyT xs b) K, List.append_assoc]
    rfl
theorem bodies_len : ∀ (L : List (List UInt8)) (xs : List Nat), (asksB xs L).length + (outsB xs L).length = L.length
  | [], _ => rfl
  | b :: L, xs => by
    have ih := bodies_len L (bodyT xs b)
    simp only [asksB, outsB, ask1, out1, List.length_append, List.length_cons]
    split <;> simp <;> omega
theorem bodyT_len (xs : List Nat) (b : List UInt8) (h : xs.length ≤ 32) : (bodyT xs b).length ≤ 32 := by
  unfold bodyT askF
  repeat' split
  all_goals first | exact h | (simp; omega)
theorem tagsB_len : ∀ (L : List (List UInt8)) (xs : List Nat), xs.length ≤ 32 → (tagsB xs L).length ≤ 32
  | [], _, h => h
  | b :: L, xs, h => tagsB_len L (bodyT xs b) (bodyT_len xs b h)
end
end Go.Proofs.YtcbglcebdkpcfaaGreat
