/- The program's wrong. Conditions: numbers in their types; at most 900 nodes. And the texts behind it. -/
import Derived.Test.YtcmajcljafmphaaGreatKtA24
import Derived.Test.YtcmajcljafmphaaGreatKtA05
import Derived.Test.YtcmajcljafmphaaGreatKtA07
import Derived.Test.YtcmajcljafmphaaGreatKtA20
import Derived.Test.YtcmajcljafmphaaGreatKtA06
namespace Go.Proofs.YtcmajcljafmphaaGreat
section
open Go.RowKit
set_option maxRecDepth 100000
set_option linter.unusedVariables false

def badP (x i : Nat) (n pr : Nod) : Bool := (((decide (0 < i)) && (decide (n.path ≤ pr.path))) || (decide (x ≤ n.path)))
structure PWrOk (x : Nat) (l : List Nod) (i : Nat) (n : Nod) : Prop where
  prev : 0 < i → ∀ p, l[i - 1]? = some p → p.path < n.path
  next : n.path < x
  bits : bitsB n.mode = true
  empt : dirB n = true → n.data.size = 0
  nam : namedE n = 0
  len : n.data.size ≤ 4096
  up : UpOk l i n
theorem badP_iff {x i : Nat} {l : List Nod} {n pr : Nod} (hpr : 0 < i → l[i - 1]? = some pr) : badP x i n pr = false ↔ (0 < i → ∀ p, l[i - 1]? = some p → p.path < n.path) ∧ n.path < x := by
  unfold badP
  rw [Bool.or_eq_false_iff]
  have e1 : ((decide (0 < i)) && (decide (n.path ≤ pr.path))) = false ↔ (0 < i → ∀ p, l[i - 1]? = some p → p.path < n.path) := by
    by_cases h0 : 0 < i
    · rw [hpr h0]; simp [h0]
    · simp [h0]
  rw [e1]
  simp
open Classical in
noncomputable def wrE (x : Nat) (l : List Nod) (i : Nat) (n : Nod) : Int := if (0 < i → ∀ p, l[i - 1]? = some p → p.path < n.path) ∧ n.path < x then (if bitsB n.mode = true then (if (dirB n = true → n.data.size = 0) then (if namedE n = 0 then (if n.data.size ≤ 4096 then upE l i n else 3) else namedE n) else 1) else 1) else 1
def PWIs (w : World) (x : Nat) (l : List Nod) (i : Nat) (n : Nod) (e : Ending) (w' : World) : Prop := e = .returned (.int .i64 (wrE x l i n)) ∧ Below w.heap.size w w'
theorem pw_is {w w' : World} {x i : Nat} {l : List Nod} {n : Nod} {E : Int} (h : wrE x l i n = E) (hb : Below w.heap.size w w') : PWIs w x l i n (.returned (.int .i64 E)) w' := ⟨by rw [h], hb⟩
theorem wrE_ok {x i : Nat} {l : List Nod} {n : Nod} : wrE x l i n = 0 ↔ PWrOk x l i n := by
  unfold wrE
  by_cases h1 : (0 < i → ∀ p, l[i - 1]? = some p → p.path < n.path) ∧ n.path < x
  · rw [if_pos h1]
    by_cases h2 : bitsB n.mode = true
    · rw [if_pos h2]
      by_cases h3 : dirB n = true → n.data.size = 0
      · rw [if_pos h3]
        by_cases h4 : namedE n = 0
        · rw [if_pos h4]
          by_cases h5 : n.data.size ≤ 4096
          · rw [if_pos h5, upE_ok]
            exact ⟨fun h => ⟨h1.1, h1.2, h2, h3, h4, h5, h⟩, fun h => h.up⟩
          · rw [if_neg h5]
            exact ⟨fun h => absurd h (by decide), fun h => absurd h.len h5⟩
        · rw [if_neg h4]
          exact ⟨fun h => absurd h h4, fun h => absurd h.nam h4⟩
      · rw [if_neg h3]
        exact ⟨fun h => absurd h (by decide), fun h => absurd h.empt h3⟩
    · rw [if_neg h2]
      exact ⟨fun h => absurd h (by decide), fun h => absurd h.bits h2⟩
  · rw [if_neg h1]
    exact ⟨fun h => absurd h (by decide), fun h => absurd ⟨h.prev, h.next⟩ h1⟩
set_option maxHeartbeats 6400000 in
theorem nwrong_is (v : Value) (x : Nat) (l : List Nod) (i : Nat) (n : Nod) (w : World) (hv : NodsAt w v l) (hl : l.length ≤ 900) (hin : l[i]? = some n) (hok : ∀ n ∈ l, NodOk n) (hds : ∀ n ∈ l, n.data.size ≤ 1000000) :
    Calls Tryz.prog 36 #[.agg #[.int .u64 (x : Int), v], .int .i64 (i : Int)] w (PWIs w x l i n) := by
  obtain ⟨a, c, rfl, g1, g2⟩ := hv.form
  unfold maxLen at g2
  have mixed : Tryz.prog.follows Departure.mixedOrders = true := by first | kernel_rfl | decide
  obtain ⟨W, hW⟩ : ∃ W, W = w.alloc (.cells #[.int .u64 (x : Int), .slice a l.length c] 33) := ⟨_, rfl⟩
  have hb0 : Below w.heap.size w W := by rw [hW]; exact (Below.refl w.heap.size w).alloc (Nat.le_refl _) _
  have hX0 : W.heap[w.heap.size]? = some (.cells #[.int .u64 (x : Int), .slice a l.length c] 33 (0, 0)) := by rw [hW, heap_alloc_new]
  obtain ⟨hi, hne⟩ := List.getElem?_eq_some_iff.1 hin
  obtain ⟨b, o, ha, hr⟩ := (hv.below hb0).range i hi
  subst ha
  have hiz : (i : Int) < (l.length : Int) := by omega
  rw [hne] at hr
  have hnok := hid (hok n (List.mem_of_getElem? hin))
  have hnd := hid (hds n (List.mem_of_getElem? hin))
  replace hin := hid hin
  clear hne
  have hnew := hid (heap_alloc_new W (.cells zeroNod.cells 68))
  obtain ⟨V, hV⟩ : ∃ V, V = boxN W n := ⟨_, rfl⟩
  have hbV : Below W.heap.size W V := by rw [hV]; exact boxN_below _ _
  have hN := hid (show V.heap[W.heap.size]? = some (.cells n.cells 68 (0, 0)) by rw [hV]; exact boxN_heap _ _)
  have hX := hid ((hbV.block _ (lt_of_block hX0)).trans hX0)
  have hBV := sn hb0 hbV
  have hS := hid (show PwS w.heap.size w.heap.size W.heap.size b o x c l n w V from ⟨hBV, hX.out, hN.out, hv.below hBV, hBV.size⟩)
  have e1 := block_cell hX0 1
  unfold boxN at hV
  rw [zeroNod_cells] at hV hnew
  replace hr := hid hr
  obtain ⟨pr, hpr⟩ : ∃ pr, 0 < i → l[i - 1]? = some pr := ⟨l[i - 1]'(by omega), fun _ => List.getElem?_eq_getElem _⟩
  replace hpr := hid hpr
  obtain ⟨bA, hbA⟩ : ∃ bA, bA = badP x i n pr := ⟨_, rfl⟩
  replace hbA := hid hbA
  replace hv := hid hv
  clear hbV hX0 hb0 hN hX hBV
  go_enter Tryz.func36, Tryz.ntmps36
  go_upto_region 2 with (first
    | (rw [← hW]; replace hW := hid hW)
    | (refine wpList_load_cells (by rfl) 68 (.tmp 9) (by rfl) b (o + i * 12) (by rfl) n.cells _ hr.out Tryz.underlying68 (by rfl) (by kernel_rfl) ?_)
    | (refine wpList_store_row (by rfl) 68 (.tmp 5) (.tmp 10) (by rfl) W.heap.size n.cells (by rfl) (by rfl) 68 _ hnew.out (by kernel_rfl) (by kernel_rfl) (nod_one n) ?_)
    | (rw [← hV]; replace hV := hid hV))
  try (rw [← hV]; replace hV := hid hV)
  try simp only [Act.put]
  clear hnew e1
  generalize W.heap.size = z at *
  go_cut [11] (fun s11 wx => s11 = .bool bA ∧ Hid (PwS w.heap.size w.heap.size z b o x c l n w wx))
  case first => as_aux_lemma =>
    rename_i J K' hJ hK
    refine wp_region_noPanic ?_
    refine wp_region_held (S := (PwS w.heap.size w.heap.size z b o x c l n w)) mixed ?_
    refine (show wpAnyH Tryz.prog .any ops_pw2 _ _ _ _ _ _ → _ from fun h => h) ?_
    refine pw2_all (x := x) (i := i) (l := l) (n := n) (w0 := w) (B := w.heap.size) (g := w.heap.size) (z := z) (b := b) (f := o) (c := c) (by omega) hi hpr.out (fun _ _ _ _ _ h => h) (FrL.of_all (by rfl) rfl ⟨rfl, rfl, rfl, rfl, rfl, rfl, rfl, rfl, trivial⟩) hS.out.drew (fun a w' hF hS => ?_)
    have hE := hbA.out
    unfold badP at hE
    rw [← hE] at hF
    exact hK _ _ (Met.intro (hJ _ _ ⟨a.tmps.getD 6 undef, a.tmps.getD 7 undef, a.tmps.getD 8 undef, a.tmps.getD 9 undef, a.tmps.getD 10 undef, .bool bA, a.tmps.getD 12 undef, a.tmps.getD 13 undef, a.tmps.getD 14 undef, a.tmps.getD 15 undef, a.tmps.getD 16 undef, a.tmps.getD 17 undef, a.tmps.getD 18 undef, a.tmps.getD 19 undef, a.tmps.getD 20 undef, a.tmps.getD 21 undef, a.tmps.getD 22 undef, a.tmps.getD 23 undef, a.tmps.getD 24 undef, a.tmps.getD 25 undef, a.tmps.getD 26 undef, a.tmps.getD 27 undef, a.tmps.getD 28 undef, a.tmps.getD 29 undef, a.tmps.getD 30 undef, a.tmps.getD 31 undef, a.tmps.getD 32 undef, a.tmps.getD 33 undef, a.tmps.getD 34 undef, a.tmps.getD 35 undef, a.tmps.getD 36 undef, a.tmps.getD 37 undef, a.tmps.getD 38 undef, a.tmps.getD 39 undef, a.tmps.getD 40 undef, a.tmps.getD 41 undef, a.tmps.getD 42 undef, a.tmps.getD 43 undef, a.tmps.getD 45 undef, a.tmps.getD 46 undef, a.tmps.getD 47 undef, a.tmps.getD 48 undef, a.tmps.getD 49 undef, a.tmps.getD 51 undef, a.tmps.getD 52 undef, a.tmps.getD 53 undef, a.tmps.getD 54 undef, a.tmps.getD 55 undef, a.tmps.getD 56 undef, a.tmps.getD 57 undef, ⟨rfl, hid hS⟩, frame_eq hF _ (by rfl) ⟨hF.get 0 _ rfl, hF.get 1 _ rfl, hF.get 2 _ rfl, hF.get 3 _ rfl, hF.get 4 _ rfl, hF.get 5 _ rfl, hF.any 6 (by decide), hF.any 7 (by decide), hF.any 8 (by decide), hF.any 9 (by decide), hF.any 10 (by decide), hF.get 11 _ rfl, hF.any 12 (by decide), hF.any 13 (by decide), hF.any 14 (by decide), hF.any 15 (by decide), hF.any 16 (by decide), hF.any 17 (by decide), hF.any 18 (by decide), hF.any 19 (by decide), hF.any 20 (by decide), hF.any 21 (by decide), hF.any 22 (by decide), hF.any 23 (by decide), hF.any 24 (by decide), hF.any 25 (by decide), hF.any 26 (by decide), hF.any 27 (by decide), hF.any 28 (by decide), hF.any 29 (by decide), hF.any 30 (by decide), hF.any 31 (by decide), hF.any 32 (by decide), hF.any 33 (by decide), hF.any 34 (by decide), hF.any 35 (by decide), hF.any 36 (by decide), hF.any 37 (by decide), hF.any 38 (by decide), hF.any 39 (by decide), hF.any 40 (by decide), hF.any 41 (by decide), hF.any 42 (by decide), hF.any 43 (by decide), hF.get 44 _ rfl, hF.any 45 (by decide), hF.any 46 (by decide), hF.any 47 (by decide), hF.any 48 (by decide), hF.any 49 (by decide), hF.get 50 _ rfl, hF.any 51 (by decide), hF.any 52 (by decide), hF.any 53 (by decide), hF.any 54 (by decide), hF.any 55 (by decide), hF.any 56 (by decide), hF.any 57 (by decide), trivial⟩⟩))
  case rest =>
    clear hS
    obtain ⟨rfl, hS⟩ := hcut
    cases bA with
    | true =>
      have hR := hid (show wrE x l i n = 1 by
        unfold wrE
        rw [if_neg fun h => by
          have := (badP_iff (x := x) (l := l) hpr.out).2 h
          rw [← hbA.out] at this; cases this])
      go_wp2_with fail
      go_ret
      exact pw_is hR.out hS.out.bel
    | false =>
      have hb2 := hid ((badP_iff (x := x) (l := l) hpr.out).1 hbA.out.symm)
      clear hbA
      have z2 : wc.cell? ⟨z, 2, none⟩ = some (.int .u32 (n.mode : Int)) := block_cell hS.out.nod 2
      have hbits := hid (nbits_any n.mode wc hnok.out.mode)
      go_wp2_with fail
      refine hbits.out.mono ?_
      rintro e w2 ⟨rfl, hw2⟩
      subst hw2
      clear hbits
      cases hbm : bitsB n.mode with
      | false =>
        have hR := hid (show wrE x l i n = 1 by unfold wrE; rw [if_pos hb2.out, if_neg (by rw [hbm]; decide)])
        go_wp2_with fail
        go_ret
        exact pw_is hR.out hS.out.bel
      | true =>
        replace hbm := hid hbm
        have hdir := hid (ndir_any n w2 hnok.out)
        obtain ⟨bD, hbD⟩ : ∃ bD, bD = dirB n := ⟨_, rfl⟩
        rw [← hbD] at hdir
        replace hbD := hid hbD
        have hN := hid hS.out.nod
        clear z2
        go_wp2_with (refine wpList_load_row (by rfl) 68 (.tmp 5) (by rfl) z (by rfl) 68 n.cells (0, 0) _ hN.out Tryz.underlying68 (by rfl) (by kernel_rfl) ?_)
        refine hdir.out.mono ?_
        rintro e w3 ⟨rfl, hb3⟩
        have hS3 := hid (hS.out.next hb3)
        have hN3 := hid hS3.out.nod
        have z11 : w3.cell? ⟨z, 11, none⟩ = some (.string n.data) := block_cell hN3.out 11
        clear hb3 hdir hS hN
        have hcase : (bD = true ∧ n.data.size ≠ 0) ∨ ((bD = true → n.data.size = 0) ∧ (bD = false ∨ n.data.size = 0)) := by
          cases bD
          · exact .inr ⟨fun h => (by cases h), .inl rfl⟩
          · by_cases h : n.data.size = 0
            · exact .inr ⟨fun _ => h, .inr h⟩
            · exact .inl ⟨rfl, h⟩
        rcases hcase with ⟨hb, hd⟩ | ⟨hem, hor⟩
        · subst hb
          have hR := hid (show wrE x l i n = 1 by unfold wrE; rw [if_pos hb2.out, if_pos hbm.out, if_neg (fun h => hd (h hbD.out.symm))])
          obtain ⟨d1, d2⟩ := str_full (Nat.pos_of_ne_zero hd)
          clear hd
          go_wp2_with fail
          go_ret
          exact pw_is hR.out hS3.out.bel
        have hem2 := hid (show dirB n = true → n.data.size = 0 from fun h => hem (hbD.out.trans h))
        have hnm := hid (nnamed_any n w3 hnok.out)
        clear hem
        replace hbD := hid hbD.out
        have hgo : (bD = false) ∨ (bD = true ∧ n.data.toList.isEmpty = true ∧ (!n.data.toList.isEmpty) = false) := by
          rcases hor with h | h
          · exact .inl h
          · cases bD
            · exact .inl rfl
            · exact .inr ⟨rfl, str_empty h⟩
        clear hor
        rcases hgo with hb | ⟨hb, d1, d2⟩
        all_goals
          subst hb
          go_wp2_with (refine wpList_load_row (by rfl) 68 (.tmp 5) (by rfl) z (by rfl) 68 n.cells (0, 0) _ hN3.out Tryz.underlying68 (by rfl) (by kernel_rfl) ?_)
          refine hnm.out.mono ?_
          rintro e w4 ⟨rfl, hb4⟩
          have hS4 := hid (hS3.out.next hb4)
          have hN4 := hid hS4.out.nod
          clear hb4 hS3 hN3 z11 hnm
          by_cases hne : namedE n = 0
          · have k1 : (namedE n != 0) = false := by rw [hne]; rfl
            have z11 : w4.cell? ⟨z, 11, none⟩ = some (.string n.data) := block_cell hN4.out 11
            have e0 := block_cell hS4.out.box 0
            have e1 := block_cell hS4.out.box 1
            replace hne := hid hne
            by_cases hlen : 4096 < n.data.size
            · have q1 : (4096 : Int) < (n.data.size : Int) := by omega
              go_wp2_with fail
              go_ret
              exact pw_is (by unfold wrE; rw [if_pos hb2.out, if_pos hbm.out, if_pos hem2.out, if_pos hne.out, if_neg (by omega)]) hS4.out.bel
            have q1 : ¬ (4096 : Int) < (n.data.size : Int) := by omega
            have hup := hid (nup_is _ x l i n w4 hS4.out.row hl hin.out hok)
            replace hlen := hid hlen
            go_wp2_with fail
            refine hup.out.mono ?_
            rintro e w5 ⟨rfl, hb5⟩
            have hS5 := hid (hS4.out.next hb5)
            have hR := hid (show wrE x l i n = upE l i n by unfold wrE; rw [if_pos hb2.out, if_pos hbm.out, if_pos hem2.out, if_pos hne.out, if_pos (by have := hlen.out; omega)])
            clear hb5 hup
            go_wp2_with fail
            go_ret
            exact pw_is hR.out hS5.out.bel
          · have k1 : (namedE n != 0) = true := by simpa using hne
            have hR := hid (show wrE x l i n = namedE n by unfold wrE; rw [if_pos hb2.out, if_pos hbm.out, if_pos hem2.out, if_neg hne])
            have hnm := hid (nnamed_any n w4 hnok.out)
            replace hne := hid hne
            go_wp2_with (refine wpList_load_row (by rfl) 68 (.tmp 5) (by rfl) z (by rfl) 68 n.cells (0, 0) _ hN4.out Tryz.underlying68 (by rfl) (by kernel_rfl) ?_)
            refine hnm.out.mono ?_
            rintro e w5 ⟨rfl, hb5⟩
            have hS5 := hid (hS4.out.next hb5)
            clear hb5 hnm
            go_wp2_with fail
            go_ret
            exact pw_is hR.out hS5.out.bel
end
end Go.Proofs.YtcmajcljafmphaaGreat

namespace Go.Proofs.YtcmajcljafmphaaGreat
section
set_option maxRecDepth 100000
set_option linter.unusedVariables false

theorem way_paths1 {l : List Nod} : ∀ (k p : Nat) {o : List ByteArray}, wayL l k p = some o →
    ∃ ps : List Nat, ps.length = o.length ∧ ps.Nodup ∧ ∀ q ∈ ps, q ≠ 1 ∧ (∃ n, getL l q = some n) ∧ ∃ k' o', wayL l k' q = some o' ∧ o'.length ≤ o.length
  | 0, _, _, h => by cases h
  | k + 1, p, o, h => by
    have h0 := h
    unfold wayL at h
    by_cases e : p = 1
    · rw [if_pos e] at h; cases h
      exact ⟨[], rfl, List.nodup_nil, fun q hq => by cases hq⟩
    · rw [if_neg e] at h
      cases hg : getL l p with
      | none => rw [hg] at h; cases h
      | some n =>
        rw [hg] at h
        simp only at h
        cases hq : n.gone with
        | true => rw [hq, if_pos rfl] at h; cases h
        | false =>
          rw [hq, if_neg (by simp)] at h
          obtain ⟨o', ho, rfl⟩ := Option.map_eq_some_iff.1 h
          obtain ⟨ps, i1, i2, i3⟩ := way_paths1 k n.up ho
          refine ⟨p :: ps, by simp [i1], List.nodup_cons.2 ⟨fun hp => ?_, i2⟩, fun q hq2 => ?_⟩
          · obtain ⟨_, _, k', o2, hk', hl⟩ := i3 p hp
            have := way_same hk' h0
            rw [this] at hl; simp at hl; omega
          · rcases List.mem_cons.1 hq2 with hh | hh
            · rw [hh]; exact ⟨e, ⟨n, hg⟩, k + 1, _, h0, Nat.le_refl _⟩
            · obtain ⟨a0, a, k', o2, hk', hl⟩ := i3 q hh
              exact ⟨a0, a, k', o2, hk', by simp; omega⟩
theorem way_len {l : List Nod} {r : Nod} (hr : getL l 1 = some r) {k p : Nat} {o : List ByteArray} (h : wayL l k p = some o) : o.length + 1 ≤ l.length := by
  obtain ⟨ps, h1, h2, h3⟩ := way_paths1 k p h
  have hm : ∀ q n, getL l q = some n → q ∈ l.map (·.path) := fun q n hq => by
    obtain ⟨a, b⟩ := getL_some hq
    exact List.mem_map.2 ⟨n, a, b⟩
  have := nodup_len (1 :: ps) (l.map (·.path)) (List.nodup_cons.2 ⟨fun h => (h3 1 h).1 rfl, h2⟩) fun q hq => by
    rcases List.mem_cons.1 hq with e | hq
    · rw [e]; exact hm 1 r hr
    · obtain ⟨n, hn⟩ := (h3 q hq).2.1
      exact hm q n hn
  simp at this; omega
theorem way_enough {l : List Nod} {r : Nod} (hr : getL l 1 = some r) (p : Nat) : wayL l (l.length + 1) p = wayL l l.length p := by
  cases h : wayL l (l.length + 1) p with
  | none =>
    cases h2 : wayL l l.length p with
    | none => rfl
    | some o => rw [way_more _ (l.length + 1) p h2 (by have := way_len hr h2; omega)] at h; cases h
  | some o =>
    have h1 := way_short _ _ h
    have h2 := way_len hr h
    rw [way_more _ l.length p h1 (by omega)]
end
end Go.Proofs.YtcmajcljafmphaaGreat

namespace Go.Proofs.YtcmajcljafmphaaGreat
section
open Go.RowKit
set_option maxRecDepth 100000
set_option linter.unusedVariables false

theorem own_set1 {w : World} {base e n c g i : Nat} {xs : List Value} {u : Value} (h : w.ownsRow base e 1 (.slice (some ⟨g, 0, none⟩) n c) n xs) (hi : i < n) :
    (w.setCell ⟨g, i, none⟩ u).ownsRow base e 1 (.slice (some ⟨g, 0, none⟩) n c) n (xs.set i u) ∧ Below base w (w.setCell ⟨g, i, none⟩ u) := by
  rcases h.2 with ⟨h1, _⟩ | ⟨g', cap, cur, hv, hb, hg, h1, h2, h3, h4⟩
  · cases h1
  · cases hv
    refine ⟨⟨by rw [List.length_set]; exact h.1, .inr ⟨g, c, cur.setIfInBounds i u, rfl, hb, block_set hg i u, h1, h2, by rw [Array.size_setIfInBounds]; exact h3, ?_⟩⟩, (Below.refl _ _).setCell (by exact hb) _⟩
    rw [Array.toList_setIfInBounds, List.take_set, h4]
theorem own_cell {w : World} {base e n c g i : Nat} {xs : List Value} (h : w.ownsRow base e 1 (.slice (some ⟨g, 0, none⟩) n c) n xs) (hi : i < n) : w.cell? ⟨g, i, none⟩ = xs[i]? ∧ w.frozen? ⟨g, i, none⟩ = false := by
  rcases h.2 with ⟨h1, _⟩ | ⟨g', cap, cur, hv, hb, hg, h1, h2, h3, h4⟩
  · cases h1
  · cases hv
    refine ⟨?_, block_free hg _⟩
    rw [block_cell hg, ← h4, List.getElem?_take_of_lt (by omega), Array.getElem?_toList]
def RevP (xs ys : List Value) (i : Nat) : Prop := ys.length = xs.length ∧ ∀ k, k < xs.length → ys[k]? = if k < i ∨ xs.length ≤ k + i then xs[xs.length - 1 - k]? else xs[k]?
theorem RevP.start (xs : List Value) : RevP xs xs 0 := ⟨rfl, fun k hk => by rw [if_neg (by omega)]⟩
theorem RevP.step {xs ys : List Value} {i : Nat} {u v : Value} (h : RevP xs ys i) (hi : i < xs.length - 1 - i) (hu : ys[xs.length - 1 - i]? = some u) (hv : ys[i]? = some v) : RevP xs ((ys.set i u).set (xs.length - 1 - i) v) (i + 1) := by
  refine ⟨by rw [List.length_set, List.length_set]; exact h.1, fun k hk => ?_⟩
  have hl := h.1
  have e1 := h.2 (xs.length - 1 - i) (by omega)
  have e2 := h.2 i (by omega)
  rw [if_neg (by omega)] at e1 e2
  by_cases k1 : k = xs.length - 1 - i
  · rw [k1, List.getElem?_set_self (by rw [List.length_set]; omega), if_pos (by omega), show xs.length - 1 - (xs.length - 1 - i) = i by omega, ← e2, hv]
  · rw [List.getElem?_set_ne (fun e => k1 e.symm)]
    by_cases k2 : k = i
    · rw [k2, List.getElem?_set_self (by omega), if_pos (by omega), ← e1, hu]
    · rw [List.getElem?_set_ne (fun e => k2 e.symm), h.2 k hk]
      by_cases k3 : k < i ∨ xs.length ≤ k + i
      · rw [if_pos k3, if_pos (by omega)]
      · rw [if_neg k3, if_neg (by omega)]
theorem RevP.done {xs ys : List Value} {i : Nat} (h : RevP xs ys i) (hi : xs.length - 1 - i ≤ i) : ys = xs.reverse := by
  have hl := h.1
  apply List.ext_getElem?
  intro k
  by_cases hk : k < xs.length
  · rw [h.2 k hk, List.getElem?_reverse hk]
    by_cases k3 : k < i ∨ xs.length ≤ k + i
    · rw [if_pos k3]
    · rw [if_neg k3, show k = xs.length - 1 - k by omega]
      congr 1
      omega
  · rw [List.getElem?_eq_none (by omega), List.getElem?_eq_none (by simp; omega)]
end
end Go.Proofs.YtcmajcljafmphaaGreat

namespace Go.Proofs.YtcmajcljafmphaaGreat
section
open Go.RowKit
set_option maxRecDepth 100000
set_option linter.unusedVariables false

section
variable {o : Oper} {ev : Operand → Value} {w : World} {x y : Operand}
theorem rrun_store1 {g i : Nat} {u : Value} {s : ByteArray} (ho : o.op = .store 9 x y) (hx : ev x = ptr g i) (hy : ev y = .string s) (hc : w.cell? ⟨g, i, none⟩ = some u) (hf : w.frozen? ⟨g, i, none⟩ = false) : (execOp ev o).run Tryz.prog w = .ok .skip (w.setCell ⟨g, i, none⟩ (.string s)) := by
  simp [execOp, ho, hx, hy, hc, hf, go_sem, ptr]
theorem ridx_str (b n c j : Nat) (hj : j < n) : (Instr.indexAt 76 (.slice (some ⟨b, 0, none⟩) n c) (.int .i64 (j : Int))).run Tryz.prog w = .ok (ptr b j) w := by
  have h1 : (0 : Int) ≤ (j : Int) := by omega
  have h2 : (j : Int) < (n : Int) := by omega
  simp [go_sem, h1, h2, ptr]
theorem rrun_idxs {b n c j : Nat} (ho : o.op = .indexAddr 76 x y) (hx : ev x = .slice (some ⟨b, 0, none⟩) n c) (hy : ev y = .int .i64 (j : Int)) (hj : j < n) : (execOp ev o).run Tryz.prog w = .ok (.value (ptr b j)) w := by
  simp only [execOp, ho, hx, hy, Sem.run_bind, ridx_str b n c j hj, Result.andThen_ok, Sem.run_pure]
end

noncomputable def ops_rv3 : Array Oper := match Tryz.f73.body with | some c => (allOps' c).getD 2 #[] | none => #[]
theorem size_rv3 : ops_rv3.size = 16 := by kernel_rfl
set_option maxHeartbeats 4000000 in
theorem rv3_all {g n c i j : Nat} {a b : ByteArray} {v1 v4 v5 v6 : Value} {Q : Exit → Act → World → Prop} {f : Act} {w : World} (hi : i < n) (hj : j < n) (hca : w.cell? ⟨g, i, none⟩ = some (.string a)) (hcb : w.cell? ⟨g, j, none⟩ = some (.string b)) (hfi : w.frozen? ⟨g, i, none⟩ = false) (hcj : (w.setCell ⟨g, i, none⟩ (.string b)).cell? ⟨g, j, none⟩ = some (.string b)) (hfj : (w.setCell ⟨g, i, none⟩ (.string b)).frozen? ⟨g, j, none⟩ = false)
    (hQ : ∀ d u c a w, Q (.panic c) (a.put d u) w → Q (.panic c) a w) (hF : FrL 28 [(0, .slice (some ⟨g, 0, none⟩) n c), (2, .int .i64 ((i : Nat) : Int)), (3, .int .i64 ((j : Nat) : Int)), (1, v1), (4, v4), (5, v5), (6, v6)] f) (hE : ∀ f, FrL 28 [(0, .slice (some ⟨g, 0, none⟩) n c), (2, .int .i64 ((i : Nat) : Int)), (3, .int .i64 ((j : Nat) : Int)), (1, v1), (4, v4), (5, v5), (6, v6)] f → Q .normal f ((w.setCell ⟨g, i, none⟩ (.string b)).setCell ⟨g, j, none⟩ (.string a))) :
    wpAnyH Tryz.prog .any ops_rv3 Q (fun _ => True) 16 (Array.replicate 16 false) f w := by
  have hS : (fun (_ : World) => True) w := trivial
  refine hst (i := 0) (o := ops_rv3[0]'(show 0 < ops_rv3.size by rw [size_rv3]; decide)) hF 14 true (.slice (some ⟨g, 0, none⟩) n c) (Array.getElem?_eq_getElem (show 0 < ops_rv3.size by rw [size_rv3]; decide)) (by kernel_rfl) (by decide) (by kernel_rfl) (by kernel_rfl) (by kernel_rfl) (hQ _ _) (want_n (by kernel_rfl)) (fun hW w hS => rrun_move (x := .tmp 0) (.inl (by kernel_rfl)) (hF.ev 0 (.slice (some ⟨g, 0, none⟩) n c) rfl)) hS (fun f hF => ?_)
  rw [show cond true (.slice (some ⟨g, 0, none⟩) n c) undef = .slice (some ⟨g, 0, none⟩) n c from rfl] at hF
  refine hst (i := 1) (o := ops_rv3[1]'(show 1 < ops_rv3.size by rw [size_rv3]; decide)) hF 15 true (.int .i64 ((i : Nat) : Int)) (Array.getElem?_eq_getElem (show 1 < ops_rv3.size by rw [size_rv3]; decide)) (by kernel_rfl) (by decide) (by kernel_rfl) (by kernel_rfl) (by kernel_rfl) (hQ _ _) (want_n (by kernel_rfl)) (fun hW w hS => rrun_move (x := .tmp 2) (.inl (by kernel_rfl)) (hF.ev 2 (.int .i64 ((i : Nat) : Int)) rfl)) hS (fun f hF => ?_)
  rw [show cond true (.int .i64 ((i : Nat) : Int)) undef = .int .i64 ((i : Nat) : Int) from rfl] at hF
  refine hst (i := 2) (o := ops_rv3[2]'(show 2 < ops_rv3.size by rw [size_rv3]; decide)) hF 16 true (.slice (some ⟨g, 0, none⟩) n c) (Array.getElem?_eq_getElem (show 2 < ops_rv3.size by rw [size_rv3]; decide)) (by kernel_rfl) (by decide) (by kernel_rfl) (by kernel_rfl) (by kernel_rfl) (hQ _ _) (want_n (by kernel_rfl)) (fun hW w hS => rrun_move (x := .tmp 0) (.inl (by kernel_rfl)) (hF.ev 0 (.slice (some ⟨g, 0, none⟩) n c) rfl)) hS (fun f hF => ?_)
  rw [show cond true (.slice (some ⟨g, 0, none⟩) n c) undef = .slice (some ⟨g, 0, none⟩) n c from rfl] at hF
  refine hst (i := 3) (o := ops_rv3[3]'(show 3 < ops_rv3.size by rw [size_rv3]; decide)) hF 17 true (.int .i64 ((j : Nat) : Int)) (Array.getElem?_eq_getElem (show 3 < ops_rv3.size by rw [size_rv3]; decide)) (by kernel_rfl) (by decide) (by kernel_rfl) (by kernel_rfl) (by kernel_rfl) (hQ _ _) (want_n (by kernel_rfl)) (fun hW w hS => rrun_move (x := .tmp 3) (.inl (by kernel_rfl)) (hF.ev 3 (.int .i64 ((j : Nat) : Int)) rfl)) hS (fun f hF => ?_)
  rw [show cond true (.int .i64 ((j : Nat) : Int)) undef = .int .i64 ((j : Nat) : Int) from rfl] at hF
  refine hst (i := 4) (o := ops_rv3[4]'(show 4 < ops_rv3.size by rw [size_rv3]; decide)) hF 18 true (.slice (some ⟨g, 0, none⟩) n c) (Array.getElem?_eq_getElem (show 4 < ops_rv3.size by rw [size_rv3]; decide)) (by kernel_rfl) (by decide) (by kernel_rfl) (by kernel_rfl) (by kernel_rfl) (hQ _ _) (want_n (by kernel_rfl)) (fun hW w hS => rrun_move (x := .tmp 0) (.inl (by kernel_rfl)) (hF.ev 0 (.slice (some ⟨g, 0, none⟩) n c) rfl)) hS (fun f hF => ?_)
  rw [show cond true (.slice (some ⟨g, 0, none⟩) n c) undef = .slice (some ⟨g, 0, none⟩) n c from rfl] at hF
  refine hst (i := 5) (o := ops_rv3[5]'(show 5 < ops_rv3.size by rw [size_rv3]; decide)) hF 19 true (.int .i64 ((j : Nat) : Int)) (Array.getElem?_eq_getElem (show 5 < ops_rv3.size by rw [size_rv3]; decide)) (by kernel_rfl) (by decide) (by kernel_rfl) (by kernel_rfl) (by kernel_rfl) (hQ _ _) (want_n (by kernel_rfl)) (fun hW w hS => rrun_move (x := .tmp 3) (.inl (by kernel_rfl)) (hF.ev 3 (.int .i64 ((j : Nat) : Int)) rfl)) hS (fun f hF => ?_)
  rw [show cond true (.int .i64 ((j : Nat) : Int)) undef = .int .i64 ((j : Nat) : Int) from rfl] at hF
  refine hst (i := 6) (o := ops_rv3[6]'(show 6 < ops_rv3.size by rw [size_rv3]; decide)) hF 20 true (ptr g j) (Array.getElem?_eq_getElem (show 6 < ops_rv3.size by rw [size_rv3]; decide)) (by kernel_rfl) (by decide) (by kernel_rfl) (by kernel_rfl) (by kernel_rfl) (hQ _ _) (want_n (by kernel_rfl)) (fun hW w hS => rrun_idxs (x := .tmp 18) (y := .tmp 19) (by kernel_rfl) (hF.ev 18 (.slice (some ⟨g, 0, none⟩) n c) rfl) (hF.ev 19 (.int .i64 ((j : Nat) : Int)) rfl) hj) hS (fun f hF => ?_)
  rw [show cond true (ptr g j) undef = ptr g j from rfl] at hF
  refine hst (i := 8) (o := ops_rv3[8]'(show 8 < ops_rv3.size by rw [size_rv3]; decide)) hF 22 true (.slice (some ⟨g, 0, none⟩) n c) (Array.getElem?_eq_getElem (show 8 < ops_rv3.size by rw [size_rv3]; decide)) (by kernel_rfl) (by decide) (by kernel_rfl) (by kernel_rfl) (by kernel_rfl) (hQ _ _) (want_n (by kernel_rfl)) (fun hW w hS => rrun_move (x := .tmp 0) (.inl (by kernel_rfl)) (hF.ev 0 (.slice (some ⟨g, 0, none⟩) n c) rfl)) hS (fun f hF => ?_)
  rw [show cond true (.slice (some ⟨g, 0, none⟩) n c) undef = .slice (some ⟨g, 0, none⟩) n c from rfl] at hF
  refine hst (i := 9) (o := ops_rv3[9]'(show 9 < ops_rv3.size by rw [size_rv3]; decide)) hF 23 true (.int .i64 ((i : Nat) : Int)) (Array.getElem?_eq_getElem (show 9 < ops_rv3.size by rw [size_rv3]; decide)) (by kernel_rfl) (by decide) (by kernel_rfl) (by kernel_rfl) (by kernel_rfl) (hQ _ _) (want_n (by kernel_rfl)) (fun hW w hS => rrun_move (x := .tmp 2) (.inl (by kernel_rfl)) (hF.ev 2 (.int .i64 ((i : Nat) : Int)) rfl)) hS (fun f hF => ?_)
  rw [show cond true (.int .i64 ((i : Nat) : Int)) undef = .int .i64 ((i : Nat) : Int) from rfl] at hF
  refine hst (i := 10) (o := ops_rv3[10]'(show 10 < ops_rv3.size by rw [size_rv3]; decide)) hF 24 true (ptr g i) (Array.getElem?_eq_getElem (show 10 < ops_rv3.size by rw [size_rv3]; decide)) (by kernel_rfl) (by decide) (by kernel_rfl) (by kernel_rfl) (by kernel_rfl) (hQ _ _) (want_n (by kernel_rfl)) (fun hW w hS => rrun_idxs (x := .tmp 22) (y := .tmp 23) (by kernel_rfl) (hF.ev 22 (.slice (some ⟨g, 0, none⟩) n c) rfl) (hF.ev 23 (.int .i64 ((i : Nat) : Int)) rfl) hi) hS (fun f hF => ?_)
  rw [show cond true (ptr g i) undef = ptr g i from rfl] at hF
  refine wpAnyH_all (rs := [7, 11]) (by kernel_rfl) (by simp) fun j0 hj0 => ?_
  have hj2 : j0 = 7 ∨ j0 = 11 := by simpa using hj0
  rcases hj2 with rfl | rfl
  · skip
    refine hdo (i := 7) (o := ops_rv3[7]'(show 7 < ops_rv3.size by rw [size_rv3]; decide)) hF 21 (.string b) w (Array.getElem?_eq_getElem (show 7 < ops_rv3.size by rw [size_rv3]; decide)) (by kernel_rfl) (by decide) (want_n (by kernel_rfl)) (rrun_load (ty := 9) (x := .tmp 20) (by kernel_rfl) (hF.ev 20 _ rfl) (rld_str hcb)) (fun f hF => ?_)
    refine ⟨trivial, ?_⟩
    refine wpAnyH_all (rs := [11]) (by kernel_rfl) (by simp) fun j0 hj0 => ?_
    obtain rfl : j0 = 11 := by simpa using hj0
    refine hdo (i := 11) (o := ops_rv3[11]'(show 11 < ops_rv3.size by rw [size_rv3]; decide)) hF 25 (.string a) w (Array.getElem?_eq_getElem (show 11 < ops_rv3.size by rw [size_rv3]; decide)) (by kernel_rfl) (by decide) (want_n (by kernel_rfl)) (rrun_load (ty := 9) (x := .tmp 24) (by kernel_rfl) (hF.ev 24 _ rfl) (rld_str hca)) (fun f hF => ?_)
    refine ⟨trivial, ?_⟩
    refine hst (i := 12) (o := ops_rv3[12]'(show 12 < ops_rv3.size by rw [size_rv3]; decide)) hF 26 true (ptr g i) (Array.getElem?_eq_getElem (show 12 < ops_rv3.size by rw [size_rv3]; decide)) (by kernel_rfl) (by decide) (by kernel_rfl) (by kernel_rfl) (by kernel_rfl) (hQ _ _) (want_n (by kernel_rfl)) (fun hW w hS => rrun_idxs (x := .tmp 14) (y := .tmp 15) (by kernel_rfl) (hF.ev 14 _ rfl) (hF.ev 15 _ rfl) hi) trivial (fun f hF => ?_)
    rw [show cond true (ptr g i) undef = ptr g i from rfl] at hF
    refine wpAnyH_all (rs := [13]) (by kernel_rfl) (by simp) fun j0 hj0 => ?_
    obtain rfl : j0 = 13 := by simpa using hj0
    refine hdo0 (o := ops_rv3[13]'(show 13 < ops_rv3.size by rw [size_rv3]; decide)) (w.setCell ⟨g, i, none⟩ (.string b)) (Array.getElem?_eq_getElem (show 13 < ops_rv3.size by rw [size_rv3]; decide)) (by kernel_rfl) (want_n (by kernel_rfl)) (rrun_store1 (x := .tmp 26) (y := .tmp 21) (by kernel_rfl) (hF.ev 26 _ rfl) (hF.ev 21 _ rfl) hca hfi) ?_
    refine ⟨trivial, ?_⟩
    refine hst (i := 14) (o := ops_rv3[14]'(show 14 < ops_rv3.size by rw [size_rv3]; decide)) hF 27 true (ptr g j) (Array.getElem?_eq_getElem (show 14 < ops_rv3.size by rw [size_rv3]; decide)) (by kernel_rfl) (by decide) (by kernel_rfl) (by kernel_rfl) (by kernel_rfl) (hQ _ _) (want_n (by kernel_rfl)) (fun hW w hS => rrun_idxs (x := .tmp 16) (y := .tmp 17) (by kernel_rfl) (hF.ev 16 _ rfl) (hF.ev 17 _ rfl) hj) trivial (fun f hF => ?_)
    rw [show cond true (ptr g j) undef = ptr g j from rfl] at hF
    refine wpAnyH_all (rs := [15]) (by kernel_rfl) (by simp) fun j0 hj0 => ?_
    obtain rfl : j0 = 15 := by simpa using hj0
    refine hdo0 (o := ops_rv3[15]'(show 15 < ops_rv3.size by rw [size_rv3]; decide)) ((w.setCell ⟨g, i, none⟩ (.string b)).setCell ⟨g, j, none⟩ (.string a)) (Array.getElem?_eq_getElem (show 15 < ops_rv3.size by rw [size_rv3]; decide)) (by kernel_rfl) (want_n (by kernel_rfl)) (rrun_store1 (x := .tmp 27) (y := .tmp 25) (by kernel_rfl) (hF.ev 27 _ rfl) (hF.ev 25 _ rfl) hcj hfj) ?_
    refine ⟨trivial, ?_⟩
    exact wpAnyH_done (by kernel_rfl) (hE _ (hF.sub [(0, .slice (some ⟨g, 0, none⟩) n c), (2, .int .i64 ((i : Nat) : Int)), (3, .int .i64 ((j : Nat) : Int)), (1, v1), (4, v4), (5, v5), (6, v6)] ⟨rfl, rfl, rfl, rfl, rfl, rfl, rfl,  trivial⟩)) _
  · skip
    refine hdo (i := 11) (o := ops_rv3[11]'(show 11 < ops_rv3.size by rw [size_rv3]; decide)) hF 25 (.string a) w (Array.getElem?_eq_getElem (show 11 < ops_rv3.size by rw [size_rv3]; decide)) (by kernel_rfl) (by decide) (want_n (by kernel_rfl)) (rrun_load (ty := 9) (x := .tmp 24) (by kernel_rfl) (hF.ev 24 _ rfl) (rld_str hca)) (fun f hF => ?_)
    refine ⟨trivial, ?_⟩
    refine wpAnyH_all (rs := [7]) (by kernel_rfl) (by simp) fun j0 hj0 => ?_
    obtain rfl : j0 = 7 := by simpa using hj0
    refine hdo (i := 7) (o := ops_rv3[7]'(show 7 < ops_rv3.size by rw [size_rv3]; decide)) hF 21 (.string b) w (Array.getElem?_eq_getElem (show 7 < ops_rv3.size by rw [size_rv3]; decide)) (by kernel_rfl) (by decide) (want_n (by kernel_rfl)) (rrun_load (ty := 9) (x := .tmp 20) (by kernel_rfl) (hF.ev 20 _ rfl) (rld_str hcb)) (fun f hF => ?_)
    refine ⟨trivial, ?_⟩
    refine hst (i := 12) (o := ops_rv3[12]'(show 12 < ops_rv3.size by rw [size_rv3]; decide)) hF 26 true (ptr g i) (Array.getElem?_eq_getElem (show 12 < ops_rv3.size by rw [size_rv3]; decide)) (by kernel_rfl) (by decide) (by kernel_rfl) (by kernel_rfl) (by kernel_rfl) (hQ _ _) (want_n (by kernel_rfl)) (fun hW w hS => rrun_idxs (x := .tmp 14) (y := .tmp 15) (by kernel_rfl) (hF.ev 14 _ rfl) (hF.ev 15 _ rfl) hi) trivial (fun f hF => ?_)
    rw [show cond true (ptr g i) undef = ptr g i from rfl] at hF
    refine wpAnyH_all (rs := [13]) (by kernel_rfl) (by simp) fun j0 hj0 => ?_
    obtain rfl : j0 = 13 := by simpa using hj0
    refine hdo0 (o := ops_rv3[13]'(show 13 < ops_rv3.size by rw [size_rv3]; decide)) (w.setCell ⟨g, i, none⟩ (.string b)) (Array.getElem?_eq_getElem (show 13 < ops_rv3.size by rw [size_rv3]; decide)) (by kernel_rfl) (want_n (by kernel_rfl)) (rrun_store1 (x := .tmp 26) (y := .tmp 21) (by kernel_rfl) (hF.ev 26 _ rfl) (hF.ev 21 _ rfl) hca hfi) ?_
    refine ⟨trivial, ?_⟩
    refine hst (i := 14) (o := ops_rv3[14]'(show 14 < ops_rv3.size by rw [size_rv3]; decide)) hF 27 true (ptr g j) (Array.getElem?_eq_getElem (show 14 < ops_rv3.size by rw [size_rv3]; decide)) (by kernel_rfl) (by decide) (by kernel_rfl) (by kernel_rfl) (by kernel_rfl) (hQ _ _) (want_n (by kernel_rfl)) (fun hW w hS => rrun_idxs (x := .tmp 16) (y := .tmp 17) (by kernel_rfl) (hF.ev 16 _ rfl) (hF.ev 17 _ rfl) hj) trivial (fun f hF => ?_)
    rw [show cond true (ptr g j) undef = ptr g j from rfl] at hF
    refine wpAnyH_all (rs := [15]) (by kernel_rfl) (by simp) fun j0 hj0 => ?_
    obtain rfl : j0 = 15 := by simpa using hj0
    refine hdo0 (o := ops_rv3[15]'(show 15 < ops_rv3.size by rw [size_rv3]; decide)) ((w.setCell ⟨g, i, none⟩ (.string b)).setCell ⟨g, j, none⟩ (.string a)) (Array.getElem?_eq_getElem (show 15 < ops_rv3.size by rw [size_rv3]; decide)) (by kernel_rfl) (want_n (by kernel_rfl)) (rrun_store1 (x := .tmp 27) (y := .tmp 25) (by kernel_rfl) (hF.ev 27 _ rfl) (hF.ev 25 _ rfl) hcj hfj) ?_
    refine ⟨trivial, ?_⟩
    exact wpAnyH_done (by kernel_rfl) (hE _ (hF.sub [(0, .slice (some ⟨g, 0, none⟩) n c), (2, .int .i64 ((i : Nat) : Int)), (3, .int .i64 ((j : Nat) : Int)), (1, v1), (4, v4), (5, v5), (6, v6)] ⟨rfl, rfl, rfl, rfl, rfl, rfl, rfl,  trivial⟩)) _
end
end Go.Proofs.YtcmajcljafmphaaGreat

namespace Go.Proofs.YtcmajcljafmphaaGreat
section
open Go.RowKit
set_option maxRecDepth 100000
set_option linter.unusedVariables false

theorem sclip_any (a : Option Addr) (n c : Nat) (w : World) (h1 : n ≤ c) (h2 : c ≤ maxLen) :
    Calls Tryz.prog 74 #[.slice a n c] w fun e w' => e = .returned (.slice a n n) ∧ w' = w := by
  unfold maxLen at h2
  go_enter Tryz.func74, Tryz.ntmps74
  go_wp2_with fail
  go_ret
  exact ⟨rfl, rfl⟩
def RevPost (w : World) (base : Nat) (v : Value) (n : Nat) (xs : List Value) (e : Ending) (w' : World) : Prop := e = .returned (.tuple #[]) ∧ w'.ownsRow base 9 1 v n xs.reverse ∧ Below base w w'
set_option maxHeartbeats 3200000 in
theorem srev_any (a : Option Addr) (n c base : Nat) (xs : List ByteArray) (w : World) (hown : w.ownsRow base 9 1 (.slice a n c) n (xs.map Value.string)) (hn : n ≤ 1000) :
    Calls Tryz.prog 73 #[.slice a n c] w (RevPost w base (.slice a n c) n (xs.map Value.string)) := by
  have mixed : Tryz.prog.follows Departure.mixedOrders = true := by first | kernel_rfl | decide
  have hxl : xs.length = n := by have := hown.1; simpa using this
  have kw : IntKind.i64.wrap ((n : Int) - 1) = (n : Int) - 1 := IntWalk.i64_in _ (by omega)
  replace hown := hid hown
  go_enter Tryz.func73, Tryz.ntmps73
  go_wp2_with fail
  go_loopw [2, 3] (fun iv jv wr => ∃ (i : Nat) (ys : List Value), i ≤ n ∧ iv = .int .i64 (i : Int) ∧ jv = .int .i64 ((n : Int) - 1 - (i : Int)) ∧ Hid (wr.ownsRow base 9 1 (.slice a n c) n ys) ∧ Hid (RevP (xs.map Value.string) ys i) ∧ Hid (Below base w wr)) (fun iv _ _ => n - (intOf iv).toNat)
  case atStart => exact ⟨0, _, by omega, rfl, by simp, hown, hid (RevP.start _), hid (Below.refl _ _)⟩
  case round =>
    obtain ⟨i, ys, hi, rfl, rfl, hO, hR, hB⟩ := hrel
    by_cases hlt : (i : Int) < (n : Int) - 1 - (i : Int)
    · obtain ⟨j, hj⟩ : ∃ j : Nat, j = n - 1 - i := ⟨_, rfl⟩
      have hjz : (n : Int) - 1 - (i : Int) = (j : Int) := by omega
      rw [hjz] at hlt ⊢
      obtain ⟨g, c', hv, _, _, _⟩ := own_ptr hO.out (by omega)
      cases hv
      obtain ⟨ua, hua⟩ : ∃ s : ByteArray, ys[i]? = some (.string s) := by
        have h1 := hR.out.2 i (by rw [List.length_map]; omega)
        rw [if_neg (by rw [List.length_map]; omega)] at h1
        exact ⟨xs[i]'(by omega), by rw [h1]; simp [show i < xs.length by omega]⟩
      obtain ⟨ub, hub⟩ : ∃ s : ByteArray, ys[j]? = some (.string s) := by
        have h1 := hR.out.2 j (by rw [List.length_map]; omega)
        rw [if_neg (by rw [List.length_map]; omega)] at h1
        exact ⟨xs[j]'(by omega), by rw [h1]; simp [show j < xs.length by omega]⟩
      replace hua := hid hua
      replace hub := hid hub
      go_wp2_with fail
      have hOd : wr.drew.ownsRow base 9 1 (.slice (some ⟨g, 0, none⟩) n c) n ys := own_below hO.out (Below.refl _ _).drew
      have hO1 := own_set1 (u := .string ub) hOd (show i < n by omega)
      have hO2 := own_set1 (u := .string ua) hO1.1 (show j < n by omega)
      refine wp_region_noPanic ?_
      refine wp_region_held (S := fun _ => True) mixed ?_
      refine (show wpAnyH Tryz.prog .any ops_rv3 _ _ _ _ _ _ → _ from fun h => h) ?_
      refine rv3_all (g := g) (n := n) (c := c) (i := i) (j := j) (a := ua) (b := ub) (by omega) (by omega) ((own_cell hOd (show i < n by omega)).1.trans hua.out) ((own_cell hOd (show j < n by omega)).1.trans hub.out) (own_cell hOd (show i < n by omega)).2 ((own_cell hO1.1 (show j < n by omega)).1.trans (by rw [List.getElem?_set_ne (by omega)]; exact hub.out)) (own_cell hO1.1 (show j < n by omega)).2 (fun _ _ _ _ _ h => h) (FrL.of_all (by rfl) rfl ⟨rfl, rfl, rfl, rfl, rfl, rfl, rfl, trivial⟩) (fun f hF => ?_)
      have he := frame_eq hF [.slice (some ⟨g, 0, none⟩) n c, undef, .int .i64 (i : Int), .int .i64 (j : Int), .slice (some ⟨g, 0, none⟩) n c, .int .i64 (n : Int), .int .i64 ((n : Int) - 1), f.tmps.getD 7 undef, f.tmps.getD 8 undef, f.tmps.getD 9 undef, f.tmps.getD 10 undef, f.tmps.getD 11 undef, f.tmps.getD 12 undef, f.tmps.getD 13 undef, f.tmps.getD 14 undef, f.tmps.getD 15 undef, f.tmps.getD 16 undef, f.tmps.getD 17 undef, f.tmps.getD 18 undef, f.tmps.getD 19 undef, f.tmps.getD 20 undef, f.tmps.getD 21 undef, f.tmps.getD 22 undef, f.tmps.getD 23 undef, f.tmps.getD 24 undef, f.tmps.getD 25 undef, f.tmps.getD 26 undef, f.tmps.getD 27 undef] (by rfl) ⟨hF.get 0 _ rfl, hF.get 1 _ rfl, hF.get 2 _ rfl, hF.get 3 _ rfl, hF.get 4 _ rfl, hF.get 5 _ rfl, hF.get 6 _ rfl, hF.any 7 (by decide), hF.any 8 (by decide), hF.any 9 (by decide), hF.any 10 (by decide), hF.any 11 (by decide), hF.any 12 (by decide), hF.any 13 (by decide), hF.any 14 (by decide), hF.any 15 (by decide), hF.any 16 (by decide), hF.any 17 (by decide), hF.any 18 (by decide), hF.any 19 (by decide), hF.any 20 (by decide), hF.any 21 (by decide), hF.any 22 (by decide), hF.any 23 (by decide), hF.any 24 (by decide), hF.any 25 (by decide), hF.any 26 (by decide), hF.any 27 (by decide), trivial⟩
      rw [he]
      clear he
      generalize f.tmps.getD 7 undef = u7
      generalize f.tmps.getD 8 undef = u8
      generalize f.tmps.getD 9 undef = u9
      generalize f.tmps.getD 10 undef = u10
      generalize f.tmps.getD 11 undef = u11
      generalize f.tmps.getD 12 undef = u12
      generalize f.tmps.getD 13 undef = u13
      generalize f.tmps.getD 14 undef = u14
      generalize f.tmps.getD 15 undef = u15
      generalize f.tmps.getD 16 undef = u16
      generalize f.tmps.getD 17 undef = u17
      generalize f.tmps.getD 18 undef = u18
      generalize f.tmps.getD 19 undef = u19
      generalize f.tmps.getD 20 undef = u20
      generalize f.tmps.getD 21 undef = u21
      generalize f.tmps.getD 22 undef = u22
      generalize f.tmps.getD 23 undef = u23
      generalize f.tmps.getD 24 undef = u24
      generalize f.tmps.getD 25 undef = u25
      generalize f.tmps.getD 26 undef = u26
      generalize f.tmps.getD 27 undef = u27
      clear hF
      refine NoPanic.normal ?_
      have hO3 := hid hO2.1
      have hbd : Below base wr wr.drew := (Below.refl _ _).drew
      have hB3 := hid (hB.out.trans (hbd.trans (hO1.2.trans hO2.2)))
      have hR3 := hid (RevP.step (u := .string ub) (v := .string ua) hR.out (by rw [List.length_map, hxl]; omega) (by rw [List.length_map, hxl, ← hj]; exact hub.out) hua.out)
      rw [List.length_map, hxl, ← hj] at hR3
      change Exit.inBlock _ _ _ _ ((wr.drew.setCell ⟨g, i, none⟩ (.string ub)).setCell ⟨g, j, none⟩ (.string ua))
      generalize (wr.drew.setCell ⟨g, i, none⟩ (.string ub)).setCell ⟨g, j, none⟩ (.string ua) = W3 at hO3 hB3 ⊢
      have kj : IntKind.i64.wrap ((j : Int) - 1) = (j : Int) - 1 := IntWalk.i64_in _ (by omega)
      clear hO1 hO2 hOd hbd hO hR hB
      replace hj := hid hj
      go_wp2_with fail
      go_roundw
      case rel =>
        exact ⟨i + 1, _, by omega, by go_num, by first | rfl | (congr 1; have := hj.out; omega), hO3, hR3, hB3⟩
      case measure => simp [intOf]; omega
    · have hd := hid (RevP.done hR.out (by rw [List.length_map, hxl]; omega))
      go_wp2_with fail
      refine bodyPost_ret (results_none rfl _ _ _) rfl ?_
      exact ⟨rfl, by rw [← hd.out]; exact hO.out, hB.out⟩
end
end Go.Proofs.YtcmajcljafmphaaGreat

namespace Go.Proofs.YtcmajcljafmphaaGreat
section
open Go.RowKit
set_option maxRecDepth 100000
set_option linter.unusedVariables false

theorem elemStrN : ElemOk Tryz.prog 76 9 1 16 := elemOk_of (z := .string ⟨#[]⟩) Tryz.underlying76 (by kernel_rfl) rfl (by decide)
def WayPost (w : World) (l : List Nod) (p : Nat) (e : Ending) (w' : World) : Prop := ∃ rv, e = .returned (.tuple #[rv, .bool (wayL l l.length p).isSome]) ∧ RowW w' 1 rv ((wayL l l.length p).getD []).length ((((wayL l l.length p).getD []).reverse).map Value.string) ∧ Below w.heap.size w w'
theorem wayN_root {l : List Nod} {k : Nat} : wayL l (k + 1) 1 = some [] := by unfold wayL; rfl
theorem wayN_none {l : List Nod} {k p : Nat} (h1 : p ≠ 1) (h : getL l p = none) : wayL l (k + 1) p = none := by unfold wayL; rw [if_neg h1, h]
theorem wayN_gone {l : List Nod} {k p : Nat} {n : Nod} (h1 : p ≠ 1) (h : getL l p = some n) (hg : n.gone = true) : wayL l (k + 1) p = none := by unfold wayL; rw [if_neg h1, h]; simp [hg]
theorem wayN_up {l : List Nod} {k p : Nat} {n : Nod} (h1 : p ≠ 1) (h : getL l p = some n) (hg : n.gone = false) : wayL l (k + 1) p = (wayL l k n.up).map (n.name :: ·) := by
  conv => lhs; unfold wayL
  rw [if_neg h1, h]; simp [hg]

theorem RowW.clip {w : World} {k n c : Nat} {a : Option Addr} {xs : List Value} (h : RowW w k (.slice a n c) n xs) : RowW w k (.slice a n n) n xs := by
  obtain ⟨hl, a', c', hv, h1, h2, h3, h4⟩ := h
  cases hv
  exact ⟨hl, a, n, rfl, Nat.le_refl _, by omega, fun h => by have := h3 h; omega, h4⟩
theorem row_nil {w : World} {k : Nat} : RowW w k (.slice none 0 0) 0 [] := RowAt.nil.weak
set_option maxHeartbeats 6400000 in
theorem nway_any (v : Value) (x : Nat) (l : List Nod) (p : Nat) (w : World) (hv : NodsAt w v l) (hs : SortL l) (hl : l.length ≤ 900) (hroot : ∃ r, getL l 1 = some r ∧ r.gone = false) :
    Calls Tryz.prog 38 #[.agg #[.int .u64 (x : Int), v], .int .u64 (p : Int)] w (WayPost w l p) := by
  obtain ⟨a, c, rfl, g1, g2⟩ := hv.form
  unfold maxLen at g2
  obtain ⟨W, hW⟩ : ∃ W, W = w.alloc (.cells #[.int .u64 (x : Int), .slice a l.length c] 33) := ⟨_, rfl⟩
  have hb0 : Below w.heap.size w W := by rw [hW]; exact (Below.refl w.heap.size w).alloc (Nat.le_refl _) _
  have hX0 := hid (show W.heap[w.heap.size]? = some (.cells #[.int .u64 (x : Int), .slice a l.length c] 33 (0, 0)) by rw [hW, heap_alloc_new])
  have e1 := block_cell hX0.out 1
  replace hv := hid hv
  replace hb0 := hid hb0
  replace hs := hid hs
  replace hroot := hid hroot
  obtain ⟨R, hR⟩ : ∃ R, R = wayL l l.length p := ⟨_, rfl⟩
  replace hR := hid hR
  have hR0 := hid (show R = (wayL l (l.length - 0) p).map (fun o => [] ++ o) by rw [hR.out, Nat.sub_zero]; simp)
  go_enter Tryz.func38, Tryz.ntmps38
  go_wp2_with (rw [← hW]; replace hW := hid hW)
  go_loopg [1, 6, 12] (l.length) (fun g1 pv ov kv wr => ∃ (q k m : Nat) (ys : List ByteArray), pv = .int .u64 (q : Int) ∧ kv = .int .i64 (k : Int) ∧ k ≤ l.length ∧ l.length - k ≤ g1 ∧ m ≤ k ∧ wr.ownsRow (w.heap.size + 1) 9 1 ov m (ys.map Value.string) ∧ Hid (Below w.heap.size w wr) ∧ Hid (wr.heap[w.heap.size]? = some (.cells #[.int .u64 (x : Int), .slice a l.length c] 33 (0, 0))) ∧ Hid (R = (wayL l (l.length - k) q).map (fun o => ys ++ o)))
  case atStart => exact ⟨p, 0, 0, [], rfl, by first | rfl | go_num, by omega, by omega, by omega, World.ownsRow_nil _ _ _ _, hb0, hX0, hR0⟩
  case round =>
    clear hb0 hX0 hR0 e1
    obtain ⟨q, k, m, ys, rfl, rfl, hk, hg, hmk, hown, hB, hX, hRk⟩ := hrel
    obtain ⟨oa, oc, rfl⟩ := own_form hown
    have e0 := block_cell hX.out 0
    have e1 := block_cell hX.out 1
    replace hown := hid hown
    by_cases hkl : k < l.length
    · have hkz : (k : Int) < (l.length : Int) := by omega
      obtain ⟨j, hj⟩ : ∃ j, l.length - k = j + 1 := ⟨l.length - k - 1, by omega⟩
      rw [hj] at hRk
      replace hj := hid hj
      have hget := hid (get_any _ x l q wr (hv.out.below hB.out) hs.out (by omega))
      go_wp2_with fail
      refine hget.out.mono ?_
      rintro e w3 ⟨rfl, hb3⟩
      obtain ⟨n, hn⟩ : ∃ n, n = getN l q := ⟨_, rfl⟩
      rw [← hn]
      have hnew := hid (heap_alloc_new w3 (.cells zeroNod.cells 68))
      obtain ⟨X2, hX2⟩ : ∃ W, W = boxN w3 n := ⟨_, rfl⟩
      have hbX : Below w3.heap.size w3 X2 := by rw [hX2]; exact boxN_below _ _
      have hD0 : X2.heap[w3.heap.size]? = some (.cells n.cells 68 (0, 0)) := by rw [hX2]; exact boxN_heap _ _
      have hoz := hid (show ∀ j, (Value.slice oa m oc).ownBlock = some j → j < w3.heap.size from fun j hj => Nat.lt_of_lt_of_le (hown.out.lt j hj).2 hb3.size)
      have hbb := sn hb3 hbX
      have hB2 := hid (sn hB.out hbb)
      have hown2 := hid (own_below hown.out hbb)
      have hXa := hid ((hbb.block _ (lt_of_block hX.out)).trans hX.out)
      have c0 : X2.cell? ⟨w3.heap.size, 0, none⟩ = some (.int .u64 (n.path : Int)) := block_cell hD0 0
      have c10 : X2.cell? ⟨w3.heap.size, 10, none⟩ = some (.bool n.gone) := block_cell hD0 10
      have c5 : X2.cell? ⟨w3.heap.size, 5, none⟩ = some (.string n.name) := block_cell hD0 5
      have c9 : X2.cell? ⟨w3.heap.size, 9, none⟩ = some (.int .u64 (n.up : Int)) := block_cell hD0 9
      have hD1 := hid hD0
      unfold boxN at hX2
      rw [zeroNod_cells] at hX2 hnew
      replace hn := hid hn
      clear hget hb3 hbX hbb hD0 e0 e1 hB hown hX
      go_upto_region 5 with (first
        | (rw [← hX2]; replace hX2 := hid hX2)
        | (refine wpList_store_row (by rfl) 68 (.tmp 7) (.tmp 18) (by rfl) w3.heap.size n.cells (by rfl) (by rfl) 68 _ hnew.out (by kernel_rfl) (by kernel_rfl) (nod_one n) ?_))
      try (rw [← hX2]; replace hX2 := hid hX2)
      clear hnew
      generalize w3.heap.size = z2 at *
      cases hgt : getL l q with
      | none =>
        have hq1 : q ≠ 1 := fun e => by
          obtain ⟨r, hr, _⟩ := hroot.out
          rw [e, hr] at hgt; cases hgt
        have hR2 := hid (show wayL l l.length p = none by rw [← hR.out, hRk.out, wayN_none hq1 hgt]; rfl)
        simp only [Option.isSome_none]
        clear hgt hRk hq1
        go_wp2_with fail
        go_ret2
        exact ⟨_, by rw [hR2.out]; rfl, by rw [hR2.out]; exact row_nil, hB2.out⟩
      | some y =>
        have hny : n = y := by rw [hn.out]; unfold getN; rw [hgt]; rfl
        subst hny
        have hnp : n.path = q := (getL_some hgt).2
        simp only [Option.isSome_some]
        cases hgn : n.gone with
        | true =>
          have hq1 : q ≠ 1 := fun e => by
            obtain ⟨r, hr, h1⟩ := hroot.out
            rw [e, hr] at hgt; cases hgt
            rw [hgn] at h1; cases h1
          have hR2 := hid (show wayL l l.length p = none by rw [← hR.out, hRk.out, wayN_gone hq1 hgt hgn]; rfl)
          rw [hgn] at c10
          clear hgt hRk hq1 hgn hnp
          go_wp2_with fail
          go_ret2
          exact ⟨_, by rw [hR2.out]; rfl, by rw [hR2.out]; exact row_nil, hB2.out⟩
        | false =>
          rw [hgn] at c10
          have hyl : ys.length = m := by have := hown2.out.1; simpa using this
          by_cases hq1 : q = 1
          · have k1 : ((n.path : Int) == 1) = true := by rw [hnp, hq1]; rfl
            have hR2 := hid (show wayL l l.length p = some ys by rw [← hR.out, hRk.out, hq1, wayN_root]; simp)
            have hsr := hid (srev_any oa m oc (w.heap.size + 1) ys X2 hown2.out (by omega))
            obtain ⟨q1, q2⟩ : m ≤ oc ∧ oc ≤ maxLen := by
              obtain ⟨_, a', c', hv', h1, h2, _⟩ := RowAt.of_own hown2.out
              cases hv'; exact ⟨h1, h2⟩
            have hcl := hid (fun Z => sclip_any oa m oc Z q1 q2)
            replace hyl := hid hyl
            clear hgt hRk hq1 hgn hnp q1 q2
            go_wp2_with fail
            refine hsr.out.mono ?_
            rintro e w4 ⟨rfl, hrv, hb4⟩
            have hB4 := hid (hB2.out.trans (hb4.mono (Nat.le_succ _)))
            have hrw := hid (RowW.clip (RowAt.of_own hrv).weak)
            clear hrv hb4 hsr
            go_wp2_with fail
            refine (hcl.out w4).mono ?_
            rintro e w5 ⟨rfl, hw5⟩
            subst hw5
            go_wp2_with fail
            go_ret2
            exact ⟨_, by rw [hR2.out]; rfl, by rw [hR2.out]; show RowW _ 1 _ ys.length (ys.reverse.map Value.string); rw [hyl.out, List.map_reverse]; exact hrw.out, hB4.out⟩
          · have k1 : ((n.path : Int) == 1) = false := by rw [hnp, beq_eq_false_iff_ne]; omega
            have hR2 := hid (show R = (wayL l (l.length - (k + 1)) n.up).map (fun o => (ys ++ [n.name]) ++ o) by
              rw [hRk.out, wayN_up hq1 hgt hgn, show l.length - (k + 1) = j by have := hj.out; omega, Option.map_map]
              congr 1
              funext o
              simp)
            replace hyl := hid hyl
            clear hgt hRk hgn hnp
            replace hq1 := hid hq1
            obtain ⟨W5, hW5⟩ : ∃ W, W = X2.alloc (.cells #[.string n.name] 9) := ⟨_, rfl⟩
            have hb5 : Below X2.heap.size X2 W5 := by rw [hW5]; exact (Below.refl _ _).alloc (Nat.le_refl _) _
            have hN5 := hid (show W5.heap[X2.heap.size]? = some (.cells #[.string n.name] 9 (0, 0)) by rw [hW5]; exact heap_alloc_new _ _)
            have hown5 := hid (own_below hown2.out hb5)
            have hB5 := hid (sn hB2.out hb5)
            have hX5 := hid ((hb5.block _ (lt_of_block hXa.out)).trans hXa.out)
            have hD5 := hid ((hb5.block _ (lt_of_block hD1.out)).trans hD1.out)
            have hzl := hid (lt_of_block hD1.out)
            have hs5 := hid (lt_of_block hX5.out)
            have hbase : w.heap.size + 1 ≤ W5.heap.size := hs5.out
            replace hbase := hid hbase
            clear hb5
            go_wp2_with (first
              | (rw [← hW5]; replace hW5 := hid hW5)
              | (at_builtin; refine wpList_append_row elemStrN _ rfl (.tmp 33) (.tmp 36) rfl (w.heap.size + 1) (.slice oa m oc) m (ys.map Value.string) rfl hown5.out (.slice (some ⟨X2.heap.size, 0, none⟩) 1 1) 1 [.string n.name] rfl (RowAt.of_block hN5.out rfl (by unfold maxLen; omega)) (by intro u hu; simp at hu; subst hu; rfl) (by unfold maxLen; omega) (by omega) hbase.out ?_))
            intro a' c' w' h2 h3
            have hB6 := hid (hB5.out.grown h3 hB5.out.size (fun j hj => by have := (hown5.out.lt j hj).1; omega))
            have hX6 := hid ((h3.block w.heap.size hs5.out (fun e => by have := (hown5.out.lt _ e.symm).1; omega)).trans hX5.out)
            have hD6 := (h3.block z2 (lt_of_block hD5.out) (fun e => by have := hoz.out _ e.symm; omega)).trans hD5.out
            have c9 : w'.cell? ⟨z2, 9, none⟩ = some (.int .u64 (n.up : Int)) := block_cell hD6 9
            have hown6 := hid (show w'.ownsRow (w.heap.size + 1) 9 1 (.slice a' (m + 1) c') (m + 1) ((ys ++ [n.name]).map Value.string) by rw [List.map_append]; exact h2)
            clear h2 h3 hD6
            go_wp2_with fail
            go_roundg (l.length - (k + 1))
            case measure => omega
            case rel => exact ⟨n.up, k + 1, m + 1, ys ++ [n.name], rfl, by first | rfl | go_num, by omega, by omega, by omega, hown6.out, hB6, hX6, hR2⟩
    · have hR2 := hid (show wayL l l.length p = none by rw [← hR.out, hRk.out, show l.length - k = 0 by omega]; rfl)
      clear hRk
      go_wp2_with fail
      go_ret2
      exact ⟨_, by rw [hR2.out]; rfl, by rw [hR2.out]; exact row_nil, hB.out⟩
end
end Go.Proofs.YtcmajcljafmphaaGreat
