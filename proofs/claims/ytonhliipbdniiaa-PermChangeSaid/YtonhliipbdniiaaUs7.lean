/- The table of users that are allowed. Conditions: as the document allows them. -/
import Derived.Test.YtonhliipbdniiaaUs6
namespace Go.Proofs.Ytonhliipbdniiaa
open Go.RowKit
set_option maxRecDepth 100000
set_option linter.unusedVariables false

structure UOk (us : List ByteArray) (gs : List Grp) : Prop where
  nu : us.length ≤ 32
  ng : gs.length ≤ 32
  users : ∀ k (h : k < us.length), k < us.length → calledB us[k] = true ∧ hasS (us.take k) us[k] = false
  groups : ∀ k (h : k < gs.length), k < gs.length → GOk us (gs.take k) gs[k]
/-- The same groups, their members elsewhere. -/
def SameG (gs gs' : List Grp) : Prop := gs.map (fun g => (g.name, g.mem)) = gs'.map (fun g => (g.name, g.mem))
theorem SameG.length {gs gs' : List Grp} (h : SameG gs gs') : gs.length = gs'.length := by simpa using congrArg List.length h
theorem SameG.any {gs gs' : List Grp} (h : SameG gs gs') (p : ByteArray × List ByteArray → Bool) : gs.any (fun g => p (g.name, g.mem)) = gs'.any (fun g => p (g.name, g.mem)) := by
  have e : ∀ l : List Grp, l.any (fun g => p (g.name, g.mem)) = (l.map (fun g => (g.name, g.mem))).any p := fun l => by rw [List.any_map]; rfl
  rw [e, e, h]
theorem SameG.inB {gs gs' : List Grp} (h : SameG gs gs') (us : List ByteArray) (who grp : ByteArray) : inB us gs who grp = inB us gs' who grp := by
  unfold Go.Proofs.Ytonhliipbdniiaa.inB
  rw [show gs.any (memB grp who) = gs'.any (memB grp who) from h.any (fun x => decide (x.1 = grp) && hasS x.2 who)]
theorem SameG.snoc {gs gs' : List Grp} (h : SameG gs gs') (g : Grp) (v : Value) : SameG (gs ++ [g]) (gs' ++ [⟨g.name, v, g.mem⟩]) := by
  unfold SameG at *
  simp [h]
theorem called_size {s : ByteArray} (h : calledB s = true) : s.size ≤ maxLen := by
  unfold calledB at h
  simp only [Bool.and_eq_true, decide_eq_true_eq] at h
  have h2 := h.2
  rw [name_eq] at h2
  unfold maxLen
  split at h2
  · omega
  · split at h2
    · omega
    · split at h2 <;> omega

theorem ucaught_idle (t k : Nat) (w : World) :
    CallsD Try.prog 62 #[.pointer (some ⟨t, 0, none⟩), .pointer (some ⟨k, 0, none⟩)] .returning w fun en u' w' => en = .returned (.tuple #[]) ∧ u' = .returning ∧ w = w' := by
  refine callsD_of_wpS Try.func62 rfl fun c₀ cs hu => ?_
  apply wpS_seq
  apply wpS_region
  simp [wpOpsS, go_sem, recoverD, hu, Try.ntmps62, Exit.thenS, Array.replicate_succ]
  rw [show c₀ = { c₀ with mode := .returning } from by cases c₀; simp_all]
  apply wpS_body
  go_wp2
  go_end0
  exact ⟨rfl, rfl⟩

theorem new_results {tmps : Array Value} {w : World} {t k : Nat} {v : Value} {e : Int} (h2 : tmps.getD 4 undef = .pointer (some ⟨t, 0, none⟩)) (h4 : tmps.getD 5 undef = .pointer (some ⟨k, 0, none⟩))
    (h1 : w.cell? ⟨t, 0, none⟩ = some v) (h3 : w.cell? ⟨k, 0, none⟩ = some (.int .i64 e)) : (results Try.f39 tmps).run Try.prog w = .ok (.tuple #[v, .int .i64 e]) w := by
  have h2' : tmps[4]?.getD undef = .pointer (some ⟨t, 0, none⟩) := by simpa using h2
  have h4' : tmps[5]?.getD undef = .pointer (some ⟨k, 0, none⟩) := by simpa using h4
  have htv : (loadVar 36 ⟨t, 0, none⟩).run Try.prog w = .ok v w := by simp [go_sem, h1]
  have hkv : (loadVar 42 ⟨k, 0, none⟩).run Try.prog w = .ok (.int .i64 e) w := by simp [go_sem, h3]
  simp [results, Try.results39, h2', h4', asAddr, htv, hkv]
theorem GAt.store {w : World} {p : Nat} {us : List ByteArray} {gs : List Grp} (h : GAt w p us gs) (a : Addr) (u : Value) (ha : a.block < p) (hne : ∀ cs, w.heap[a.block]? ≠ some (Obj.cells cs 9 (0, 0))) : GAt (w.setCell a u) p us gs := by
  obtain ⟨uv, gv, h1, h2, h3, h4⟩ := h
  have hk : ∀ (b : Nat) (cs : Array Value), w.heap[b]? = some (Obj.cells cs 9 (0, 0)) → (w.setCell a u).heap[b]? = w.heap[b]? := fun b cs hb => block_set_other (fun e => hne cs (e ▸ hb))
  have hz : w.heap.size ≤ (w.setCell a u).heap.size := by simp [World.setCell]
  exact ⟨uv, gv, (block_set_other (by omega)).trans h1, h2.keep hk hz, ownsRow_setCell_below h3 (by omega) u, fun g hg => (h4 g hg).keep hk hz⟩

def NewPost (w : World) (us : List ByteArray) (gs : List Grp) (e : Ending) (w' : World) : Prop :=
  ∃ p gs', e = .returned (.tuple #[.pointer (some ⟨p, 0, none⟩), .int .i64 0]) ∧ TabAt w' p us gs' ∧ SameG gs gs' ∧ Below w.heap.size w w'

set_option maxHeartbeats 3200000 in
theorem unew_any (uv gv : Value) (us : List ByteArray) (gs : List Grp) (w : World) (h2 : TxtsAt w uv us) (h3 : GrpsAt w gv gs) (hok : UOk us gs) (hlm : ∀ g ∈ gs, g.mem.length ≤ 1000) :
    Calls Try.prog 39 #[uv, gv] w (NewPost w us gs) := by
  obtain ⟨au, cu, rfl, gu1, gu2⟩ := h2.form
  obtain ⟨ag, cg, rfl, gg1, gg2⟩ := h3.form
  unfold maxLen at gu2 gg2
  have hnu := hok.nu
  have hng := hok.ng
  replace hok := hid hok
  replace h2 := hid h2
  replace h3 := hid h3
  replace hlm := hid hlm
  have knu : decide ((32 : Int) < (us.length : Int)) = false := by simp; omega
  have kng : decide ((32 : Int) < (gs.length : Int)) = false := by simp; omega
  have hm := hid (fun W => umust_ok 3 W)
  obtain ⟨W2, hW2⟩ : ∃ W, W = ((w.alloc (.cells #[.pointer none] 36)).alloc (.cells #[.int .i64 0] 42)).alloc (.cells #[.slice none 0 0, .slice none 0 0] 114) := ⟨_, rfl⟩
  have hB2 : Below w.heap.size w W2 := by rw [hW2]; exact (((Below.refl w.heap.size w).alloc (Nat.le_refl _) _).alloc (by simp) _).alloc (by simp; omega) _
  have hz2 : W2.heap.size = w.heap.size + 3 := by rw [hW2]; simp
  have ht : W2.heap[w.heap.size]? = some (.cells #[.pointer none] 36 (0, 0)) := by
    rw [hW2, heap_alloc_old _ _ (by simp; omega), heap_alloc_old _ _ (by simp), heap_alloc_new]
  have hk : W2.heap[w.heap.size + 1]? = some (.cells #[.int .i64 0] 42 (0, 0)) := by
    have := heap_alloc_new (w.alloc (.cells #[.pointer none] 36)) (.cells #[.int .i64 0] 42)
    rw [hW2, heap_alloc_old _ _ (by simp)]
    simpa using this
  have hp : W2.heap[w.heap.size + 2]? = some (.cells #[.slice none 0 0, .slice none 0 0] 114 (0, 0)) := by
    have := heap_alloc_new ((w.alloc (.cells #[.pointer none] 36)).alloc (.cells #[.int .i64 0] 42)) (.cells #[.slice none 0 0, .slice none 0 0] 114)
    rw [hW2]
    simpa using this
  have hU0 : Hid (UAt W2 (w.heap.size + 2) []) := hid ⟨_, hp, World.ownsRow_nil _ _ _ _⟩
  replace hB2 := hid hB2
  replace ht := hid ht
  replace hk := hid hk
  replace hp := hid hp
  replace hz2 := hid hz2
  go_enter_defers Try.func39, Try.ntmps39
  go_wp2_with fail
  refine (hm.out _).mono ?_
  rintro e w1 ⟨rfl, rfl⟩
  go_wp2_with fail
  rw [← hW2]
  replace hW2 := hid hW2
  rw [show w.heap.size + 1 + 1 = w.heap.size + 2 from rfl]
  go_loopw [24] (fun kv wr => ∃ k : Nat, k ≤ us.length ∧ kv = .int .i64 (k : Int) ∧ Hid (UAt wr (w.heap.size + 2) (us.take k)) ∧ Hid (Below (w.heap.size + 2) W2 wr)) (fun kv _ => us.length - (intOf kv).toNat)
  case atStart => exact ⟨0, by omega, rfl, hU0, hid (Below.refl _ _)⟩
  case round =>
    obtain ⟨k, hk1, rfl, hU, hB⟩ := hrel
    have hBw := hid (hB2.out.trans (hB.out.mono (by omega)))
    by_cases hkl : k < us.length
    · obtain ⟨b1, o1, ha1, hc1⟩ := TxtsAt.cell (h2.out.below hBw.out) k hkl
      subst ha1
      obtain ⟨u1, u2⟩ := hok.out.users k hkl hkl
      have htu := hid (tuser_any (w.heap.size + 2) (us.take k) us[k] wr hU.out (by rw [List.length_take]; omega) (called_size u1) u1 u2)
      replace u1 := hid u1
      replace u2 := hid u2
      generalize hs1 : us[k] = s1 at *
      replace hs1 := hid hs1
      go_wp2_with fail
      refine htu.out.mono ?_
      rintro e w5 ⟨rfl, hU5, hB5⟩
      have hU6 := hid hU5
      have hB6 := hid (hB.out.trans hB5)
      clear hU5 hB5 htu
      go_wp2_with fail
      go_roundw
      case rel => exact ⟨k + 1, by omega, by go_num, hid (by rw [List.take_succ_eq_append_getElem hkl, hs1.out]; exact hU6.out), hB6⟩
      case measure => simp [intOf]; omega
    · obtain rfl : k = us.length := by omega
      rw [List.take_length] at hU
      obtain ⟨uv, x1, x2⟩ := hU.out
      have hG0 : Hid (GAt wr (w.heap.size + 2) us []) := hid ⟨uv, _, x1, MemAt.of_own x2, World.ownsRow_nil _ _ _ _, fun g hg => by cases hg⟩
      clear x1 x2 hU hBw
      go_wp2_with fail
      go_loopw [34] (fun kv wx => ∃ (k : Nat) (gs' : List Grp), k ≤ gs.length ∧ kv = .int .i64 (k : Int) ∧ Hid (GAt wx (w.heap.size + 2) us gs') ∧ Hid (SameG (gs.take k) gs') ∧ Hid (Below (w.heap.size + 2) W2 wx)) (fun kv _ => gs.length - (intOf kv).toNat)
      case atStart => exact ⟨0, [], by omega, rfl, hG0, hid rfl, hB⟩
      case round =>
        obtain ⟨k, gs', hk2, rfl, hG, hS, hB⟩ := hrel
        have hBw := hid (hB2.out.trans (hB.out.mono (by omega)))
        by_cases hkl : k < gs.length
        · obtain ⟨b1, o1, ha1, hc1, hc2, hm1⟩ := GrpsAt.cell (h3.out.below hBw.out) k hkl
          subst ha1
          have hgl : gs'.length = k := by
            have := hS.out.length
            rw [List.length_take] at this
            omega
          have hgo := hok.out.groups k hkl hkl
          have hgo' : Hid (GOk us gs' gs[k]) := hid ⟨hgo.name, by rw [← hS.out.any (fun x => decide (x.1 = gs[k].name))]; exact hgo.new, hgo.mems⟩
          have hlk := hlm.out gs[k] (List.getElem_mem hkl)
          have hS2 := hid (hS.out.snoc gs[k])
          replace hm1 := hid hm1
          replace hgo := hid hgo
          generalize hg1 : gs[k] = g at *
          replace hg1 := hid hg1
          obtain ⟨nm, mv, mem⟩ := g
          simp only at hc1 hc2 hm1 hlk
          obtain ⟨am, cm, rfl, gm1, gm2⟩ := hm1.out.form
          have hbA := (Below.refl wr.heap.size wr).alloc (Nat.le_refl _) (.cells #[.string nm, .slice am mem.length cm] 78)
          have htg := hid (tgroup_any (w.heap.size + 2) us gs' ⟨nm, .slice am mem.length cm, mem⟩ _ (by obtain ⟨uv, gv, hh⟩ := hG.out; exact ⟨uv, gv, hh.below hbA⟩) (hm1.out.below hbA) (by omega) (by omega) hlk (called_size hgo.out.name) hgo'.out)
          have hB3 := hid (hB.out.trans (hbA.mono (by have := hB.out.size; have := hz2.out; omega)))
          replace hbA := hid hbA
          clear gm1 gm2
          go_wp2_with fail
          refine htg.out.mono ?_
          rintro e w5 ⟨rfl, ⟨v5, hG5⟩, hB5⟩
          have hG6 := hid hG5
          have hB6 := hid (hB3.out.trans hB5)
          clear hG5 hB5 htg hB3
          go_wp2_with fail
          go_roundw
          case rel => exact ⟨k + 1, _, by omega, by go_num, hG6, hid (by rw [List.take_succ_eq_append_getElem hkl, hg1.out]; exact hS2.out v5), hB6⟩
          case measure => simp [intOf]; omega
        · obtain rfl : k = gs.length := by omega
          rw [List.take_length] at hS
          have hbt := (hB.out.block w.heap.size (by omega)).trans ht.out
          have hbk := (hB.out.block (w.heap.size + 1) (by omega)).trans hk.out
          have c1 : wr.cell? ⟨w.heap.size, 0, none⟩ = some (.pointer none) := block_cell hbt 0
          have f1 : wr.frozen? ⟨w.heap.size, 0, none⟩ = false := block_free hbt 0
          have hbk2 := (block_set_other (p := ⟨w.heap.size, 0, none⟩) (u := .pointer (some ⟨w.heap.size + 2, 0, none⟩)) (by show _ ≠ _; simp)).trans hbk
          have c2 : (wr.setCell ⟨w.heap.size, 0, none⟩ (.pointer (some ⟨w.heap.size + 2, 0, none⟩))).cell? ⟨w.heap.size + 1, 0, none⟩ = some (.int .i64 0) := block_cell hbk2 0
          have f2 : (wr.setCell ⟨w.heap.size, 0, none⟩ (.pointer (some ⟨w.heap.size + 2, 0, none⟩))).frozen? ⟨w.heap.size + 1, 0, none⟩ = false := block_free hbk2 0
          have hbt3 : Hid (((wr.setCell ⟨w.heap.size, 0, none⟩ (.pointer (some ⟨w.heap.size + 2, 0, none⟩))).setCell ⟨w.heap.size + 1, 0, none⟩ (.int .i64 0)).heap[w.heap.size]? = some (.cells #[.pointer (some ⟨w.heap.size + 2, 0, none⟩)] 36 (0, 0))) := hid ((block_set_other (by show _ ≠ _; simp)).trans (block_set hbt 0 _))
          have hbk3 : Hid (((wr.setCell ⟨w.heap.size, 0, none⟩ (.pointer (some ⟨w.heap.size + 2, 0, none⟩))).setCell ⟨w.heap.size + 1, 0, none⟩ (.int .i64 0)).heap[w.heap.size + 1]? = some (.cells #[.int .i64 0] 42 (0, 0))) := hid (block_set hbk2 0 _)
          replace hbt := hid hbt
          replace hbk := hid hbk
          replace hbk2 := hid hbk2
          go_wp2_with fail
          refine leaves_cons (f := 62) (args := #[.pointer (some ⟨w.heap.size, 0, none⟩), .pointer (some ⟨w.heap.size + 1, 0, none⟩)]) (by simp) (by simp [go_sem]) ?_
          refine (ucaught_idle _ _ _).mono ?_
          rintro en u' w'' ⟨rfl, rfl, rfl⟩
          simp only [settle]
          refine ⟨_, new_results rfl rfl (block_cell hbt3.out 0) (block_cell hbk3.out 0), w.heap.size + 2, gs', rfl, ?_, hS.out, (hBw.out.setCell (by simp) _).setCell (by simp) _⟩
          refine GAt.tab ((hG.out.store _ _ (by show w.heap.size < _; omega) (fun cs e => ?_)).store _ _ (by show w.heap.size + 1 < _; omega) (fun cs e => ?_))
          · have e2 := hbt.out.symm.trans e
            simp at e2
          · have e2 := hbk2.out.symm.trans e
            simp at e2
end Go.Proofs.Ytonhliipbdniiaa
