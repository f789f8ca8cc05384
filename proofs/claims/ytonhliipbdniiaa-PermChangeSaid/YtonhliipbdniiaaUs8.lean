/- What the reference's CheckUsers says: where it says OK, the users and groups are allowed. Conditions: few and short ones. -/
import Derived.Test.YtonhliipbdniiaaUs7
import Derived.BigQuiet
namespace Go.Proofs.Ytonhliipbdniiaa
open Go.RowKit
set_option maxRecDepth 100000
set_option linter.unusedVariables false

structure FewU (us : List ByteArray) (gs : List Grp) : Prop where
  nu : us.length ≤ 40
  us : ∀ s ∈ us, s.size ≤ 100
  ng : gs.length ≤ 40
  names : ∀ g ∈ gs, g.name.size ≤ 100
  nm : ∀ g ∈ gs, g.mem.length ≤ 40
  ms : ∀ g ∈ gs, ∀ s ∈ g.mem, s.size ≤ 100
theorem FewU.ub {us : List ByteArray} {gs : List Grp} (h : FewU us gs) : UB us gs := ⟨by have := h.nu; omega, by have := h.ng; omega, fun g hg => by have := h.nm g hg; omega⟩

theorem ubdrewN {B : Nat} {w w' : World} (h : Below B w w') (n : Nat) : Below B w (w'.drewN n) := h.trans ⟨rfl, rfl, rfl, Nat.le_refl _, fun _ _ => rfl⟩

def ChkPost (w : World) (us : List ByteArray) (gs : List Grp) (e : Ending) (w' : World) : Prop := ∃ r : Nat, e = .returned (.int .i64 (r : Int)) ∧ (r = 0 → UOk us gs) ∧ Below w.heap.size w w'

def UsUpTo (us : List ByteArray) (n : Nat) : Prop := ∀ k (h : k < us.length), k < n → calledB us[k] = true ∧ hasS (us.take k) us[k] = false
def GsUpTo (us : List ByteArray) (gs : List Grp) (n : Nat) : Prop := ∀ k (h : k < gs.length), k < n → GOk us (gs.take k) gs[k]
def MsUpTo (us : List ByteArray) (mem : List ByteArray) (n : Nat) : Prop := ∀ k (h : k < mem.length), k < n → hasS us mem[k] = true ∧ hasS (mem.take k) mem[k] = false

set_option maxHeartbeats 6400000 in
theorem check_any (uv gv : Value) (us : List ByteArray) (gs : List Grp) (w : World) (h2 : TxtsAt w uv us) (h3 : GrpsAt w gv gs) (hf : FewU us gs) :
    Calls Try.prog 12 #[.agg #[uv, gv]] w (ChkPost w us gs) := by
  obtain ⟨W, hW⟩ : ∃ W, W = w.alloc (.cells #[uv, gv] 31) := ⟨_, rfl⟩
  have hb0 : Below w.heap.size w W := by rw [hW]; exact (Below.refl w.heap.size w).alloc (Nat.le_refl _) _
  have hx : W.heap[w.heap.size]? = some (.cells #[uv, gv] 31 (0, 0)) := by rw [hW, heap_alloc_new]
  obtain ⟨au, cu, rfl, gu1, gu2⟩ := h2.form
  obtain ⟨ag, cg, rfl, gg1, gg2⟩ := h3.form
  unfold maxLen at gu2 gg2
  have hzW : w.heap.size < W.heap.size := lt_of_block hx
  have hlu := hf.nu
  have hlg := hf.ng
  have h2' := hid (h2.below hb0)
  have h3' := hid (h3.below hb0)
  replace hb0 := hid hb0
  replace hx := hid hx
  replace hf := hid hf
  have d0 : W.cell? ⟨w.heap.size, 0, none⟩ = some (.slice au us.length cu) := block_cell hx.out 0
  have d1 : W.cell? ⟨w.heap.size, 1, none⟩ = some (.slice ag gs.length cg) := block_cell hx.out 1
  clear h2 h3
  by_cases hnu : 32 < us.length
  · go_enter Try.func12, Try.ntmps12
    go_wp2_with (rw [← hW]; replace hW := hid hW)
    go_ret
    exact ⟨3, rfl, fun h => by omega, hb0.out⟩
  by_cases hng : 32 < gs.length
  · have knu : decide ((32 : Int) < (us.length : Int)) = false := by simp; omega
    go_enter Try.func12, Try.ntmps12
    go_wp2_with (rw [← hW]; replace hW := hid hW)
    go_ret
    exact ⟨3, rfl, fun h => by omega, hb0.out⟩
  have knu : decide ((32 : Int) < (us.length : Int)) = false := by simp; omega
  have kng : decide ((32 : Int) < (gs.length : Int)) = false := by simp; omega
  replace hnu := hid hnu
  replace hng := hid hng
  go_enter Try.func12, Try.ntmps12
  go_wp2_with (rw [← hW]; replace hW := hid hW)
  clear d0 d1 knu kng
  go_loopw [3] (fun kv wr => ∃ k : Nat, k ≤ us.length ∧ kv = .int .i64 (k : Int) ∧ Hid (Below W.heap.size W wr) ∧ Hid (UsUpTo us k)) (fun kv _ => us.length - (intOf kv).toNat)
  case atStart => exact ⟨0, by omega, rfl, hid (Below.refl _ _), hid (fun j _ h => by omega)⟩
  case round =>
    obtain ⟨k, hk1, rfl, hB, hall⟩ := hrel
    have d0 : wr.cell? ⟨w.heap.size, 0, none⟩ = some (.slice au us.length cu) := block_cell ((hB.out.block _ hzW).trans hx.out) 0
    have d1 : wr.cell? ⟨w.heap.size, 1, none⟩ = some (.slice ag gs.length cg) := block_cell ((hB.out.block _ hzW).trans hx.out) 1
    have hBw := hid (hb0.out.trans (hB.out.mono (Nat.le_of_lt hzW)))
    have hus := hid (h2'.out.below hB.out)
    by_cases hkl : k < us.length
    · obtain ⟨b1, o1, ha1, hc1⟩ := TxtsAt.cell hus.out k hkl
      subst ha1
      have hcal := hid (rcalled_any us[k] wr (by have := hf.out.us us[k] (List.getElem_mem hkl); unfold maxLen; omega))
      have hamg := hid (fun n => among_any (.slice (some ⟨b1, o1, none⟩) k cu) (us.take k) us[k] (wr.drewN n) (hus.out.take k cu (by omega) (by omega) (Nat.le_refl _)) (by rw [List.length_take]; omega))
      have hnext : calledB us[k] = true → hasS (us.take k) us[k] = false → Hid (UsUpTo us (k + 1)) := fun q1 q2 => hid (fun j h h2 => by
        by_cases hjk : j < k
        · exact hall.out j h hjk
        · obtain rfl : j = k := by omega
          exact ⟨q1, q2⟩)
      replace hnext := hid hnext
      generalize hs1 : us[k] = s1 at *
      replace hs1 := hid hs1
      have n1 : (0 : Int) ≤ (k : Int) := by omega
      have n2 : (k : Int) ≤ (cu : Int) := by omega
      have n3 : (k : Int) < (us.length : Int) := by omega
      go_wp2_with fail
      refine hcal.out.mono ?_
      rintro e w5 ⟨rfl, rfl⟩
      cases hc : calledB s1 with
      | false =>
        replace hc := hid hc
        go_wp2_with fail
        go_ret
        exact ⟨6, rfl, fun h => by omega, hBw.out⟩
      | true =>
        have hc' := hid hc
        clear hc
        go_wp2_with fail
        generalize hh : hasS (us.take k) s1 = bb at *
        go_quiet ((go_at_call 38; refine Calls.quiet_of_same (hamg.out _)))
        have hB9 := hid (ubdrewN hB.out nq)
        have hB9w := hid (ubdrewN hBw.out nq)
        replace hh := hid hh
        clear hamg
        cases bb with
        | true =>
          go_wp2_with fail
          go_ret
          exact ⟨7, rfl, fun h => by omega, hB9w.out⟩
        | false =>
        have hall2 := hnext.out hc'.out rfl
        go_wp2_with fail
        go_roundw
        case rel => exact ⟨k + 1, by omega, by go_num, hB9, hall2⟩
        case measure => simp [intOf]; omega
    · obtain rfl : k = us.length := by omega
      clear hus
      go_wp2_with fail
      clear d0 d1
      go_loopw [4] (fun kv wx => ∃ j : Nat, j ≤ gs.length ∧ kv = .int .i64 (j : Int) ∧ Hid (Below W.heap.size W wx) ∧ Hid (GsUpTo us gs j)) (fun kv _ => gs.length - (intOf kv).toNat)
      case atStart => exact ⟨0, by omega, rfl, hB, hid (fun j _ h => by omega)⟩
      case round =>
        obtain ⟨j, hj1, rfl, hB, hgall⟩ := hrel
        have d0 : wr.cell? ⟨w.heap.size, 0, none⟩ = some (.slice au us.length cu) := block_cell ((hB.out.block _ hzW).trans hx.out) 0
        have d1 : wr.cell? ⟨w.heap.size, 1, none⟩ = some (.slice ag gs.length cg) := block_cell ((hB.out.block _ hzW).trans hx.out) 1
        have hBw := hid (hb0.out.trans (hB.out.mono (Nat.le_of_lt hzW)))
        have hgs := hid (h3'.out.below hB.out)
        by_cases hjl : j < gs.length
        · obtain ⟨b1, o1, ha1, hc1, hc2, hm1⟩ := GrpsAt.cell hgs.out j hjl
          subst ha1
          obtain ⟨am, cm, hmv, gm1, gm2⟩ := hm1.form
          unfold maxLen at gm2
          have hgN := hf.out.names _ (List.getElem_mem hjl)
          have hgM := hf.out.nm _ (List.getElem_mem hjl)
          have hjnext : GOk us (gs.take j) gs[j] → Hid (GsUpTo us gs (j + 1)) := fun q1 => hid (fun i h h2 => by
            by_cases hjk : i < j
            · exact hgall.out i h hjk
            · obtain rfl : i = j := by omega
              exact q1)
          replace hjnext := hid hjnext
          obtain ⟨g, hg1⟩ : ∃ g, g = gs[j] := ⟨_, rfl⟩
          rw [← hg1] at hc1 hc2 hm1 hmv gm1 hgN hgM hjnext
          replace hg1 := hid hg1
          obtain ⟨nm, mv, mem⟩ := g
          simp only at hc1 hc2 hm1 hmv gm1 hgN hgM
          subst hmv
          obtain ⟨WG, hWG⟩ : ∃ X, X = wr.alloc (.cells #[.string nm, .slice am mem.length cm] 61) := ⟨_, rfl⟩
          have hbG : Below wr.heap.size wr WG := by rw [hWG]; exact (Below.refl wr.heap.size wr).alloc (Nat.le_refl _) _
          have hxG : Hid (WG.heap[wr.heap.size]? = some (.cells #[.string nm, .slice am mem.length cm] 61 (0, 0))) := hid (by rw [hWG, heap_alloc_new])
          have hBG := hid (hB.out.trans (hbG.mono hB.out.size))
          have hmG := hid (hm1.below hbG)
          have e0 : WG.cell? ⟨wr.heap.size, 0, none⟩ = some (.string nm) := block_cell hxG.out 0
          have e1 : WG.cell? ⟨wr.heap.size, 1, none⟩ = some (.slice am mem.length cm) := block_cell hxG.out 1
          have hcal := hid (rcalled_any nm WG (by unfold maxLen; omega))
          have hzG : wr.heap.size < WG.heap.size := lt_of_block hxG.out
          replace hm1 := hid hm1
          replace hbG := hid hbG
          go_wp2_with (rw [← hWG]; replace hWG := hid hWG)
          refine hcal.out.mono ?_
          rintro e w5 ⟨rfl, rfl⟩
          have hBGw := hid (hb0.out.trans (hBG.out.mono (Nat.le_of_lt hzW)))
          cases hc : calledB nm with
          | false =>
            replace hc := hid hc
            go_wp2_with fail
            go_ret
            exact ⟨6, rfl, fun h => by omega, hBGw.out⟩
          | true =>
          have hc' := hid hc
          clear hc hcal hc1 hc2 d0 d1 e0 e1
          go_wp2_with fail
          go_loopw [6] (fun kv wx => ∃ i : Nat, i ≤ j ∧ kv = .int .i64 (i : Int) ∧ Hid (Below w5.heap.size w5 wx) ∧ Hid (∀ k (h : k < gs.length), k < i → gs[k].name ≠ nm)) (fun kv _ => j - (intOf kv).toNat)
          case atStart => exact ⟨0, by omega, rfl, hid (Below.refl _ _), hid (fun k _ h => by omega)⟩
          case round =>
            obtain ⟨i, hi1, rfl, hBy, hne⟩ := hrel
            have hBW := hid (hBG.out.trans (hBy.out.mono hBG.out.size))
            have hBwW := hid (hBGw.out.trans (hBy.out.mono hBGw.out.size))
            have d1 : wr.cell? ⟨w.heap.size, 1, none⟩ = some (.slice (some ⟨b1, o1, none⟩) gs.length cg) := block_cell ((hBW.out.block _ hzW).trans hx.out) 1
            have hxy := (hBy.out.block _ hzG).trans hxG.out
            by_cases hil : i < j
            · obtain ⟨b2, o2, ha2, hc1, _, _⟩ := GrpsAt.cell (h3'.out.below hBW.out) i (by omega)
              cases ha2
              have hine : gs[i].name ≠ nm → Hid (∀ k (h : k < gs.length), k < i + 1 → gs[k].name ≠ nm) := fun q => hid (fun k h h2 => by
                by_cases hjk : k < i
                · exact hne.out k h hjk
                · obtain rfl : k = i := by omega
                  exact q)
              replace hine := hid hine
              have i1 : (0 : Int) ≤ (i : Int) := by omega
              have i2 : (i : Int) < (gs.length : Int) := by omega
              have e0 : wr.cell? ⟨_, 0, none⟩ = some (.string nm) := block_cell hxy 0
              have hBn := hid (fun n => ubdrewN hBy.out n)
              have hBnw := hid (fun n => ubdrewN hBwW.out n)
              generalize hsn : gs[i].name = sn1 at *
              by_cases hq : sn1 = nm
              · have hq2 : (sn1.toList == nm.toList) = true := by rw [hq]; simp
                clear hq
                replace hxy := hid hxy
                replace hsn := hid hsn
                go_wp2_with fail
                go_quiet (fail)
                go_wp2_with fail
                go_ret
                exact ⟨7, rfl, fun h => by omega, hBnw.out _⟩
              · have hq2 : (sn1.toList == nm.toList) = false := by rw [str_beq]; exact decide_eq_false hq
                have hn2 := hine.out hq
                clear hq
                replace hxy := hid hxy
                replace hsn := hid hsn
                go_wp2_with fail
                go_quiet (fail)
                go_wp2_with fail
                go_roundw
                case rel => exact ⟨i + 1, by omega, by go_num, hid (hBn.out _), hn2⟩
                case measure => simp [intOf]; omega
            · obtain rfl : i = j := by omega
              have hnew : Hid ((gs.take i).any (fun x => decide (x.name = nm)) = false) := hid (by
                rw [List.any_eq_false]
                intro x hx
                obtain ⟨k, hk, rfl⟩ := List.getElem_of_mem hx
                rw [List.length_take] at hk
                have := hne.out k (by omega) (by omega)
                rw [List.getElem_take]
                simpa using this)
              clear d1 hne
              replace hxy := hid hxy
              go_wp2_with fail
              go_loopw [7] (fun kv wx => ∃ q : Nat, q ≤ mem.length ∧ kv = .int .i64 (q : Int) ∧ Hid (Below w5.heap.size w5 wx) ∧ Hid (MsUpTo us mem q)) (fun kv _ => mem.length - (intOf kv).toNat)
              case atStart => exact ⟨0, by omega, rfl, hBy, hid (fun k _ h => by omega)⟩
              case round =>
                obtain ⟨q, hq1, rfl, hBy, hms⟩ := hrel
                have hBW := hid (hBG.out.trans (hBy.out.mono hBG.out.size))
                have hBwW := hid (hBGw.out.trans (hBy.out.mono hBGw.out.size))
                have d0 : wr.cell? ⟨w.heap.size, 0, none⟩ = some (.slice au us.length cu) := block_cell ((hBW.out.block _ hzW).trans hx.out) 0
                have hxy := (hBy.out.block _ hzG).trans hxG.out
                have e1 : wr.cell? ⟨_, 1, none⟩ = some (.slice am mem.length cm) := block_cell hxy 1
                replace hxy := hid hxy
                have hmm := hid (hmG.out.below hBy.out)
                by_cases hql : q < mem.length
                · obtain ⟨b3, o3, ha3, hc1⟩ := TxtsAt.cell hmm.out q hql
                  subst ha3
                  have hms2 : hasS us mem[q] = true → hasS (mem.take q) mem[q] = false → Hid (MsUpTo us mem (q + 1)) := fun q1 q2 => hid (fun k h h2 => by
                    by_cases hjk : k < q
                    · exact hms.out k h hjk
                    · obtain rfl : k = q := by omega
                      exact ⟨q1, q2⟩)
                  have ham1 := hid (fun n => among_any (.slice au us.length cu) us mem[q] (wr.drewN n) (h2'.out.below (ubdrewN hBW.out n)) (by omega))
                  have ham2 := hid (fun W n (hW : Below wr.heap.size wr W) => among_any (.slice (some ⟨b3, o3, none⟩) q cm) (mem.take q) mem[q] (W.drewN n) ((hmm.out.take q cm (by omega) (by omega) (Nat.le_refl _)).below (ubdrewN hW n)) (by rw [List.length_take]; omega))
                  replace hms2 := hid hms2
                  have n1 : (0 : Int) ≤ (q : Int) := by omega
                  have n2 : (q : Int) < (mem.length : Int) := by omega
                  have n3 : (q : Int) ≤ (cm : Int) := by omega
                  generalize hss : mem[q] = ss at *
                  replace hss := hid hss
                  generalize hu1 : hasS us ss = b8 at *
                  generalize hu2 : hasS (mem.take q) ss = b9 at *
                  replace hu1 := hid hu1
                  replace hu2 := hid hu2
                  go_wp2_with fail
                  go_quiet ((go_at_call 38; refine Calls.quiet_of_same (ham1.out _)))
                  cases b8 with
                  | false =>
                    have hBnw := hid (ubdrewN hBwW.out nq)
                    go_wp2_with fail
                    go_ret
                    exact ⟨6, rfl, fun h => by omega, hBnw.out⟩
                  | true =>
                  obtain ⟨wy, hwy⟩ : ∃ X, X = wr.drewN nq := ⟨_, rfl⟩
                  have e1y := e1
                  have hc1y := hc1
                  rw [show wr.cell? = wy.cell? from by rw [hwy]; rfl] at e1y hc1y
                  have hByy : Hid (Below w5.heap.size w5 wy) := hid (by rw [hwy]; exact ubdrewN hBy.out nq)
                  have hBwy : Hid (Below w.heap.size w wy) := hid (by rw [hwy]; exact ubdrewN hBwW.out nq)
                  have ham3 : Hid (∀ n, Calls Try.prog 38 #[.slice (some ⟨b3, o3, none⟩) q cm, .string ss] (wy.drewN n) fun e w' => e = .returned (.bool b9) ∧ w' = wy.drewN n) := hid (fun n => ham2.out wy n (by rw [hwy]; exact ubdrewN (Below.refl _ _) nq))
                  rw [← hwy]
                  replace hwy := hid hwy
                  clear e1 hc1 d0 ham1 ham2
                  go_wp2_with fail
                  go_quiet ((go_at_call 38; refine Calls.quiet_of_same (ham3.out _)))
                  have hBnw := hid (ubdrewN hBwy.out nq)
                  have hBn := hid (ubdrewN hByy.out nq)
                  cases b9 with
                  | true =>
                    go_wp2_with fail
                    go_ret
                    exact ⟨7, rfl, fun h => by omega, hBnw.out⟩
                  | false =>
                  have hms3 := hms2.out (by trivial) (by trivial)
                  go_wp2_with fail
                  go_roundw
                  case rel => exact ⟨q + 1, by omega, by go_num, hBn, hms3⟩
                  case measure => simp [intOf]; omega
                · obtain rfl : q = mem.length := by omega
                  have hok := hjnext.out ⟨hc'.out, hnew.out, hms.out⟩
                  have hBW2 := hid (hBG.out.trans (hBy.out.mono hBG.out.size))
                  clear d0
                  go_wp2_with fail
                  go_roundw
                  case rel => exact ⟨i + 1, by omega, by go_num, hBW2, hok⟩
                  case measure => simp [intOf]; omega
        · obtain rfl : j = gs.length := by omega
          go_wp2_with fail
          go_ret
          exact ⟨0, rfl, fun _ => ⟨by have := hnu.out; omega, by have := hng.out; omega, hall.out, hgall.out⟩, hBw.out⟩
end Go.Proofs.Ytonhliipbdniiaa
