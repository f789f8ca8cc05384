/- The program's Check, walked. Conditions: numbers in their types; at most 900 nodes.
in.tree of Decode, walked: a tree is read and checked, or an error is told by a panic. Conditions: at most 47000 bytes.
Decode of package node, walked: any bytes give a tree that may be, or an error. Conditions: at most 47000 bytes. -/
import Derived.Test.YtcmajcljafmphaaGreatKtA29
namespace Go.Proofs.YtcmajcljafmphaaGreat
section
open Go.RowKit
set_option maxRecDepth 100000
set_option linter.unusedVariables false

def NCheckPost (w : World) (x : Nat) (l : List Nod) (e : Ending) (w' : World) : Prop := ∃ E : Int, e = .returned (.int .i64 E) ∧ (E = 0 ↔ OkC ⟨x, l⟩) ∧ Below w.heap.size w w'
theorem nwrong_both (v : Value) (x : Nat) (l : List Nod) (i : Nat) (n : Nod) (w : World) (hv : NodsAt w v l) (hl : l.length ≤ 900) (hin : l[i]? = some n) (hok : ∀ n ∈ l, NodOk n) (hds : ∀ n ∈ l, n.data.size ≤ 1000000) :
    Calls Tryz.prog 36 #[.agg #[.int .u64 (x : Int), v], .int .i64 (i : Int)] w fun e w' => ∃ E : Int, e = .returned (.int .i64 E) ∧ (E = 0 ↔ PWrOk x l i n) ∧ Below w.heap.size w w' ∧ wrE x l i n = E :=
  (nwrong_is v x l i n w hv hl hin hok hds).mono (by rintro e w' ⟨rfl, hb⟩; exact ⟨_, rfl, wrE_ok, hb, rfl⟩)
noncomputable def eachE (x : Nat) (l : List Nod) : Int := (((List.range l.length).map fun j => wrE x l j (l.getD j zeroNod)).find? (fun E => decide (E ≠ 0))).getD 0
theorem eachE_bad {x k : Nat} {l : List Nod} {q : Nod} {E : Int} (hq : l[k]? = some q) (hall : ∀ j p, j < k → l[j]? = some p → PWrOk x l j p) (he : wrE x l k q = E) (hE : E ≠ 0) : eachE x l = E := by
  have hk := (List.getElem?_eq_some_iff.1 hq).1
  have hsome : (((List.range l.length).map fun j => wrE x l j (l.getD j zeroNod)).find? (fun E => decide (E ≠ 0))) = some E := by
    rw [List.find?_eq_some_iff_getElem]
    refine ⟨by simpa using hE, k, by simpa using hk, ?_, fun j hj => ?_⟩
    · simp only [List.getElem_map, List.getElem_range]
      rw [List.getD_eq_getElem?_getD, hq]; exact he
    · simp only [List.getElem_map, List.getElem_range]
      have hp := List.getElem?_eq_getElem (l := l) (show j < l.length by omega)
      rw [List.getD_eq_getElem?_getD, hp]
      have := wrE_ok.2 (hall j _ hj hp)
      simpa using this
  unfold eachE
  rw [hsome]; rfl
theorem eachE_good {x : Nat} {l : List Nod} (hall : ∀ j p, l[j]? = some p → PWrOk x l j p) : eachE x l = 0 := by
  have hnone : (((List.range l.length).map fun j => wrE x l j (l.getD j zeroNod)).find? (fun E => decide (E ≠ 0))) = none := by
    rw [List.find?_eq_none]
    intro E hE
    obtain ⟨j, hj, rfl⟩ := List.mem_map.1 hE
    have hp := List.getElem?_eq_getElem (l := l) (List.mem_range.1 hj)
    rw [List.getD_eq_getElem?_getD, hp]
    have := wrE_ok.2 (hall j _ hp)
    simpa using this
  unfold eachE
  rw [hnone]; rfl
theorem eachE_ok {x : Nat} {l : List Nod} (h : eachE x l = 0) : ∀ j p, l[j]? = some p → PWrOk x l j p := by
  intro j
  induction j using Nat.strongRecOn with
  | _ j ih =>
    intro p hp
    by_cases hz : wrE x l j p = 0
    · exact wrE_ok.1 hz
    · exact absurd ((eachE_bad hp (fun i r hi hr => ih i hi r hr) rfl hz).symm.trans h) hz
open Classical in
noncomputable def chkE (x : Nat) (l : List Nod) : Int := if l.length = 0 then 2 else if badQ (l.getD 0 zeroNod) = true then 2 else if eachE x l = 0 then (if 64 < l.length then 3 else if 16384 < bytesL l then 14 else if (∃ q ∈ l, q.gone = false ∧ dirB q = true ∧ (wayL l l.length q.path).isSome = false) then 2 else 0) else eachE x l
def NCheckIs (w : World) (x : Nat) (l : List Nod) (e : Ending) (w' : World) : Prop := e = .returned (.int .i64 (chkE x l)) ∧ Below w.heap.size w w'
theorem ncheck_of {w w' : World} {x : Nat} {l : List Nod} {E : Int} (h : chkE x l = E) (hb : Below w.heap.size w w') : NCheckIs w x l (.returned (.int .i64 E)) w' := ⟨by rw [h], hb⟩
theorem chkE_each {x : Nat} {l : List Nod} {n : Nod} (hn : l[0]? = some n) (hb : badQ n = false) : chkE x l = if eachE x l = 0 then (if 64 < l.length then 3 else if 16384 < bytesL l then 14 else if (∃ q ∈ l, q.gone = false ∧ dirB q = true ∧ (wayL l l.length q.path).isSome = false) then 2 else 0) else eachE x l := by
  have h0 := (List.getElem?_eq_some_iff.1 hn).1
  unfold chkE
  rw [if_neg (by omega), if_neg (by rw [List.getD_eq_getElem?_getD, hn]; simpa using hb)]
theorem chkE_ok {x : Nat} {l : List Nod} : chkE x l = 0 ↔ PChkOk ⟨x, l⟩ := by
  by_cases h0 : l.length = 0
  · unfold chkE
    rw [if_pos h0]
    refine ⟨fun h => absurd h (by decide), fun hc => ?_⟩
    obtain ⟨r, hr, _⟩ := hc.root
    have := (List.getElem?_eq_some_iff.1 hr).1
    have : 0 < l.length := this
    omega
  obtain ⟨n, hn⟩ : ∃ n, l[0]? = some n := ⟨l[0]'(by omega), List.getElem?_eq_getElem _⟩
  rcases hb : badQ n with _ | _
  · rw [chkE_each hn hb]
    by_cases he : eachE x l = 0
    · rw [if_pos he]
      by_cases h64 : 64 < l.length
      · rw [if_pos h64]
        exact ⟨fun h => absurd h (by decide), fun hc => by have := hc.few; simp only at this; omega⟩
      rw [if_neg h64]
      by_cases hB : 16384 < bytesL l
      · rw [if_pos hB]
        exact ⟨fun h => absurd h (by decide), fun hc => by have := hc.byt; simp only at this; omega⟩
      rw [if_neg hB]
      by_cases hw : ∃ q ∈ l, q.gone = false ∧ dirB q = true ∧ (wayL l l.length q.path).isSome = false
      · rw [if_pos hw]
        refine ⟨fun h => absurd h (by decide), fun hc => ?_⟩
        obtain ⟨q, h1, h2, h3, h4⟩ := hw
        have h5 : (wayL l l.length q.path).isSome = true := hc.way q h1 h2 h3
        rw [h4] at h5; cases h5
      · rw [if_neg hw]
        refine ⟨fun _ => ⟨⟨n, hn, badQ_iff.1 hb⟩, eachE_ok he, by show l.length ≤ 64; omega, by show bytesL l ≤ 16384; omega, fun q hm hg hd => ?_⟩, fun _ => rfl⟩
        show (wayL l l.length q.path).isSome = true
        by_cases h : (wayL l l.length q.path).isSome = true
        · exact h
        · exact absurd ⟨q, hm, hg, hd, by simpa using h⟩ hw
    · rw [if_neg he]
      exact ⟨fun h => absurd h he, fun hc => absurd (eachE_good hc.each) he⟩
  · unfold chkE
    rw [if_neg h0, if_pos (by rw [List.getD_eq_getElem?_getD, hn]; exact hb)]
    refine ⟨fun h => absurd h (by decide), fun hc => ?_⟩
    obtain ⟨r, hr, h1⟩ := hc.root
    have hr2 : l[0]? = some r := hr
    rw [hn] at hr2; cases hr2
    have := badQ_iff.2 h1
    rw [hb] at this; cases this
set_option maxHeartbeats 6400000 in
theorem ncheck_is (v : Value) (x : Nat) (l : List Nod) (w : World) (hv : NodsAt w v l) (hl : l.length ≤ 900) (hok : ∀ n ∈ l, NodOk n) (hds : ∀ n ∈ l, n.data.size ≤ 1000000) :
    Calls Tryz.prog 16 #[.agg #[.int .u64 (x : Int), v]] w (NCheckIs w x l) := by
  obtain ⟨a, c, rfl, g1, g2⟩ := hv.form
  unfold maxLen at g2
  have mixed : Tryz.prog.follows Departure.mixedOrders = true := by first | kernel_rfl | decide
  obtain ⟨W, hW⟩ : ∃ W, W = w.alloc (.cells #[.int .u64 (x : Int), .slice a l.length c] 33) := ⟨_, rfl⟩
  have hb0 : Below w.heap.size w W := by rw [hW]; exact (Below.refl w.heap.size w).alloc (Nat.le_refl _) _
  have hX0 : W.heap[w.heap.size]? = some (.cells #[.int .u64 (x : Int), .slice a l.length c] 33 (0, 0)) := by rw [hW, heap_alloc_new]
  by_cases h0 : l.length = 0
  · have hR := hid (show chkE x l = 2 by unfold chkE; rw [if_pos h0])
    have e1 := block_cell hX0 1
    replace hb0 := hid hb0
    replace hv := hid hv
    rw [h0] at hW e1
    clear hX0
    rw [h0]
    go_enter Tryz.func16, Tryz.ntmps16
    go_wp2_with (rw [← hW]; replace hW := hid hW)
    go_ret
    exact ncheck_of hR.out hb0.out
  obtain ⟨b, o, ha, hr⟩ := (hv.below hb0).range 0 (by omega)
  subst ha
  obtain ⟨n, hn⟩ : ∃ n, l[0]? = some n := ⟨l[0]'(by omega), List.getElem?_eq_getElem _⟩
  have hne : l[0]'(by omega) = n := by
    have := List.getElem?_eq_getElem (l := l) (show 0 < l.length by omega)
    rw [hn] at this; exact (Option.some.inj this).symm
  rw [hne, show o + 0 * 12 = o by omega] at hr
  clear hne
  have hnok := hid (hok n (List.mem_of_getElem? hn))
  replace hn := hid hn
  have hnew := hid (heap_alloc_new W (.cells zeroNod.cells 68))
  obtain ⟨V, hV⟩ : ∃ V, V = boxN W n := ⟨_, rfl⟩
  have hbV : Below W.heap.size W V := by rw [hV]; exact boxN_below _ _
  have hBV := sn hb0 hbV
  have hS := hid (show PwS w.heap.size w.heap.size W.heap.size b o x c l n w V from ⟨hBV, (hbV.block _ (lt_of_block hX0)).trans hX0, by rw [hV]; exact boxN_heap _ _, hv.below hBV, hBV.size⟩)
  have e1 := block_cell hX0 1
  unfold boxN at hV
  rw [zeroNod_cells] at hV hnew
  replace hr := hid hr
  replace hv := hid hv
  have l0 : ((l.length : Int) == 0) = false := by rw [beq_eq_false_iff_ne]; omega
  have l1 : (0 : Int) < (l.length : Int) := by omega
  obtain ⟨bA, hbA⟩ : ∃ bA, bA = badQ n := ⟨_, rfl⟩
  replace hbA := hid hbA
  clear hbV hX0 hb0 hBV
  replace h0 := hid h0
  go_enter Tryz.func16, Tryz.ntmps16
  go_upto_region 4 with (first
    | (rw [← hW]; replace hW := hid hW)
    | (refine wpList_load_cells (by rfl) 68 (.tmp 16) (by rfl) b o (by rfl) n.cells _ hr.out Tryz.underlying68 (by rfl) (by kernel_rfl) ?_)
    | (refine wpList_store_row (by rfl) 68 (.tmp 3) (.tmp 17) (by rfl) W.heap.size n.cells (by rfl) (by rfl) 68 _ hnew.out (by kernel_rfl) (by kernel_rfl) (nod_one n) ?_)
    | (rw [← hV]; replace hV := hid hV))
  try (rw [← hV]; replace hV := hid hV)
  try simp only [Act.put]
  clear hnew e1
  generalize W.heap.size = z at *
  go_cut [39] (fun s wx => s = .bool bA ∧ Hid (PwS w.heap.size w.heap.size z b o x c l n w wx))
  case first => as_aux_lemma =>
    rename_i J K' hJ hK
    refine wp_region_list ?_
    refine (show wpList Tryz.prog ops_pc4 _ l_pc4 _ _ → _ from fun h => h) ?_
    refine pc4_all (x := x) (l := l) (n := n) (w0 := w) (B := w.heap.size) (g := w.heap.size) (z := z) (b := b) (f := o) (c := c) hnok.out (FrL.of_all (by rfl) rfl ⟨rfl, rfl, rfl, rfl, rfl, rfl, rfl, rfl, rfl, rfl, rfl, rfl, rfl, rfl, rfl, rfl, rfl, trivial⟩) hS.out (fun a w' hF hS => ?_)
    have hE := hbA.out
    unfold badQ at hE
    rw [← hE] at hF
    exact hK _ _ (Met.intro (hJ _ _ ⟨a.tmps.getD 10 undef, a.tmps.getD 11 undef, a.tmps.getD 12 undef, a.tmps.getD 13 undef, a.tmps.getD 14 undef, a.tmps.getD 15 undef, a.tmps.getD 16 undef, a.tmps.getD 17 undef, a.tmps.getD 18 undef, a.tmps.getD 19 undef, a.tmps.getD 20 undef, a.tmps.getD 21 undef, a.tmps.getD 22 undef, a.tmps.getD 23 undef, a.tmps.getD 24 undef, a.tmps.getD 25 undef, a.tmps.getD 26 undef, a.tmps.getD 27 undef, a.tmps.getD 28 undef, a.tmps.getD 29 undef, a.tmps.getD 30 undef, a.tmps.getD 31 undef, a.tmps.getD 32 undef, a.tmps.getD 33 undef, a.tmps.getD 34 undef, a.tmps.getD 35 undef, a.tmps.getD 36 undef, a.tmps.getD 37 undef, a.tmps.getD 38 undef, .bool bA, a.tmps.getD 40 undef, a.tmps.getD 41 undef, a.tmps.getD 44 undef, a.tmps.getD 45 undef, a.tmps.getD 46 undef, a.tmps.getD 47 undef, a.tmps.getD 48 undef, a.tmps.getD 49 undef, a.tmps.getD 50 undef, a.tmps.getD 51 undef, a.tmps.getD 52 undef, a.tmps.getD 54 undef, a.tmps.getD 55 undef, a.tmps.getD 56 undef, a.tmps.getD 57 undef, a.tmps.getD 59 undef, a.tmps.getD 60 undef, a.tmps.getD 61 undef, a.tmps.getD 62 undef, a.tmps.getD 66 undef, a.tmps.getD 67 undef, a.tmps.getD 68 undef, a.tmps.getD 69 undef, a.tmps.getD 70 undef, a.tmps.getD 71 undef, a.tmps.getD 72 undef, a.tmps.getD 73 undef, a.tmps.getD 74 undef, a.tmps.getD 75 undef, a.tmps.getD 76 undef, a.tmps.getD 77 undef, a.tmps.getD 78 undef, a.tmps.getD 79 undef, a.tmps.getD 80 undef, a.tmps.getD 81 undef, a.tmps.getD 82 undef, a.tmps.getD 83 undef, a.tmps.getD 84 undef, a.tmps.getD 85 undef, a.tmps.getD 86 undef, a.tmps.getD 87 undef, ⟨rfl, hid hS⟩, frame_eq hF _ (by rfl) ⟨hF.get 0 _ rfl, hF.get 1 _ rfl, hF.get 2 _ rfl, hF.get 3 _ rfl, hF.get 4 _ rfl, hF.get 5 _ rfl, hF.get 6 _ rfl, hF.get 7 _ rfl, hF.get 8 _ rfl, hF.get 9 _ rfl, hF.any 10 (by decide), hF.any 11 (by decide), hF.any 12 (by decide), hF.any 13 (by decide), hF.any 14 (by decide), hF.any 15 (by decide), hF.any 16 (by decide), hF.any 17 (by decide), hF.any 18 (by decide), hF.any 19 (by decide), hF.any 20 (by decide), hF.any 21 (by decide), hF.any 22 (by decide), hF.any 23 (by decide), hF.any 24 (by decide), hF.any 25 (by decide), hF.any 26 (by decide), hF.any 27 (by decide), hF.any 28 (by decide), hF.any 29 (by decide), hF.any 30 (by decide), hF.any 31 (by decide), hF.any 32 (by decide), hF.any 33 (by decide), hF.any 34 (by decide), hF.any 35 (by decide), hF.any 36 (by decide), hF.any 37 (by decide), hF.any 38 (by decide), hF.get 39 _ rfl, hF.any 40 (by decide), hF.any 41 (by decide), hF.get 42 _ rfl, hF.get 43 _ rfl, hF.any 44 (by decide), hF.any 45 (by decide), hF.any 46 (by decide), hF.any 47 (by decide), hF.any 48 (by decide), hF.any 49 (by decide), hF.any 50 (by decide), hF.any 51 (by decide), hF.any 52 (by decide), hF.get 53 _ rfl, hF.any 54 (by decide), hF.any 55 (by decide), hF.any 56 (by decide), hF.any 57 (by decide), hF.get 58 _ rfl, hF.any 59 (by decide), hF.any 60 (by decide), hF.any 61 (by decide), hF.any 62 (by decide), hF.get 63 _ rfl, hF.get 64 _ rfl, hF.get 65 _ rfl, hF.any 66 (by decide), hF.any 67 (by decide), hF.any 68 (by decide), hF.any 69 (by decide), hF.any 70 (by decide), hF.any 71 (by decide), hF.any 72 (by decide), hF.any 73 (by decide), hF.any 74 (by decide), hF.any 75 (by decide), hF.any 76 (by decide), hF.any 77 (by decide), hF.any 78 (by decide), hF.any 79 (by decide), hF.any 80 (by decide), hF.any 81 (by decide), hF.any 82 (by decide), hF.any 83 (by decide), hF.any 84 (by decide), hF.any 85 (by decide), hF.any 86 (by decide), hF.any 87 (by decide), trivial⟩⟩))
  case rest =>
    clear hS
    obtain ⟨rfl, hS⟩ := hcut
    cases bA with
    | true =>
      have hR := hid (show chkE x l = 2 by
        unfold chkE
        rw [if_neg h0, if_pos (by rw [List.getD_eq_getElem?_getD, hn.out]; exact hbA.out.symm)])
      go_wp2_with fail
      go_ret
      exact ncheck_of hR.out hS.out.bel
    | false =>
      have hroot := hid (badQ_iff.1 hbA.out.symm)
      have hchk := hid (chkE_each (x := x) hn.out hbA.out.symm)
      clear hbA
      have e1 := block_cell hS.out.box 1
      go_wp2_with fail
      go_loopw [43] (fun kv wr => ∃ k : Nat, k ≤ l.length ∧ kv = .int .i64 (k : Int) ∧ Hid (PwS w.heap.size w.heap.size z b o x c l n w wr) ∧ Hid (∀ j q, j < k → l[j]? = some q → PWrOk x l j q)) (fun kv _ => l.length - (intOf kv).toNat)
      case atStart => exact ⟨0, by omega, rfl, hS, hid (fun j q h1 h2 => by omega)⟩
      case round =>
        clear hS e1
        obtain ⟨k, hk, rfl, hS, hall⟩ := hrel
        have e0 := block_cell hS.out.box 0
        have e1 := block_cell hS.out.box 1
        by_cases hkl : k < l.length
        · obtain ⟨q, hq⟩ : ∃ q, l[k]? = some q := ⟨l[k], List.getElem?_eq_getElem _⟩
          have hwr := hid (nwrong_both _ x l k q wr hS.out.row hl hq hok hds)
          have q1 : (k : Int) < (l.length : Int) := by omega
          replace hq := hid hq
          go_wp2_with fail
          refine hwr.out.mono ?_
          rintro e w2 ⟨E, rfl, hE, hb2, hEw⟩
          replace hEw := hid hEw
          have hS2 := hid (hS.out.next hb2)
          clear hS hb2 hwr e0 e1
          by_cases hE0 : E = 0
          · subst hE0
            have hw := hid (hE.1 rfl)
            clear hE
            go_wp2_with fail
            go_roundw
            case rel =>
              refine ⟨k + 1, by omega, by go_num, hS2, hid (fun j p g1 gp => ?_)⟩
              rcases Nat.lt_or_ge j k with h | h
              · exact hall.out j p h gp
              · obtain rfl : j = k := by omega
                rw [hq.out] at gp; cases gp
                exact hw.out
            case measure => simp [intOf]; omega
          · have hR := hid (show chkE x l = E by have h9 := eachE_bad hq.out hall.out hEw.out hE0; rw [hchk.out, if_neg (by rw [h9]; exact hE0)]; exact h9)
            have q2 : (E != 0) = true := by simpa using hE0
            replace hE := hid hE
            replace hE0 := hid hE0
            go_wp2_with fail
            go_ret
            exact ncheck_of hR.out hS2.out.bel
        · obtain rfl : k = l.length := by omega
          have heach := hid (show ∀ j q, l[j]? = some q → PWrOk x l j q from fun j q hq => hall.out j q (List.getElem?_eq_some_iff.1 hq).1 hq)
          have hg9 := hid (eachE_good heach.out)
          clear hall
          by_cases h64 : 64 < l.length
          · have q2 : (64 : Int) < (l.length : Int) := by omega
            go_wp2_with fail
            go_ret
            exact ncheck_of (by rw [hchk.out, if_pos hg9.out, if_pos h64]) hS.out.bel
          have q2 : ¬ (64 : Int) < (l.length : Int) := by omega
          have hby := hid (nbytes_any _ x l wr hS.out.row (by omega) hds)
          go_wp2_with fail
          refine hby.out.mono ?_
          rintro e w2 ⟨rfl, hb2⟩
          have hS2 := hid (hS.out.next hb2)
          clear hS hb2 hby e0 e1 hkl
          by_cases hB : 16384 < bytesL l
          · have q3 : (16384 : Int) < (bytesL l : Int) := by omega
            go_wp2_with fail
            go_ret
            exact ncheck_of (by rw [hchk.out, if_pos hg9.out, if_neg h64, if_pos hB]) hS2.out.bel
          have q3 : ¬ (16384 : Int) < (bytesL l : Int) := by omega
          have hsort := hid (show SortL l from sortL_of fun i p q hp hq => (heach.out _ _ hq).prev (by omega) p (by simpa using hp))
          have hrt := hid (show ∃ r, getL l 1 = some r ∧ r.gone = false from ⟨n, (getL_iff hsort.out).2 ⟨List.mem_of_getElem? hn.out, hroot.out.1⟩, hroot.out.2.2.2.1⟩)
          have e1 := block_cell hS2.out.box 1
          go_wp2_with fail
          go_loopw [65] (fun kv wr => ∃ k : Nat, k ≤ l.length ∧ kv = .int .i64 (k : Int) ∧ Hid (PwS w.heap.size w.heap.size z b o x c l n w wr) ∧ Hid (∀ j q, j < k → l[j]? = some q → q.gone = false → dirB q = true → (wayL l l.length q.path).isSome = true)) (fun kv _ => l.length - (intOf kv).toNat)
          case atStart => exact ⟨0, by omega, rfl, hS2, hid (fun j q h1 h2 => by omega)⟩
          case round =>
            clear hS2 q2 q3 e1
            obtain ⟨k, hk, rfl, hS, hall⟩ := hrel
            have e0 := block_cell hS.out.box 0
            have e1 := block_cell hS.out.box 1
            by_cases hkl : k < l.length
            · obtain ⟨q, hq⟩ : ∃ q, l[k]? = some q := ⟨l[k], List.getElem?_eq_getElem _⟩
              have q1 : (k : Int) < (l.length : Int) := by omega
              have i1 : (0 : Int) ≤ (k : Int) := by omega
              have hr := hid (hS.out.el k q hq)
              have hqo := hid (hok q (List.mem_of_getElem? hq))
              replace hq := hid hq
              have hnew := hid (heap_alloc_new wr (.cells zeroNod.cells 68))
              obtain ⟨V1, hV1⟩ : ∃ V, V = boxN wr q := ⟨_, rfl⟩
              have hbV1 : Below wr.heap.size wr V1 := by rw [hV1]; exact boxN_below _ _
              have hN1 := hid (show V1.heap[wr.heap.size]? = some (.cells q.cells 68 (0, 0)) by rw [hV1]; exact boxN_heap _ _)
              have hS1 := hid (hS.out.next hbV1)
              unfold boxN at hV1
              rw [zeroNod_cells] at hV1 hnew
              have f0 := block_cell hS1.out.box 0
              have f1 := block_cell hS1.out.box 1
              have p0 : V1.cell? ⟨wr.heap.size, 0, none⟩ = some (.int .u64 (q.path : Int)) := block_cell hN1.out 0
              have hway := hid (nway_any _ x l q.path V1 hS1.out.row hsort.out hl hrt.out)
              clear hS hbV1
              go_wp2_with (first
                | (rw [← hV1]; replace hV1 := hid hV1)
                | (refine wpList_load_cells (by rfl) 68 (.tmp 67) (by rfl) b (o + k * 12) (by rfl) q.cells _ hr.out Tryz.underlying68 (by rfl) (by kernel_rfl) ?_)
                | (refine wpList_store_row (by rfl) 68 (.tmp 7) (.tmp 68) (by rfl) wr.heap.size q.cells (by rfl) (by rfl) 68 _ hnew.out (by kernel_rfl) (by kernel_rfl) (nod_one q) ?_))
              refine hway.out.mono ?_
              rintro e w2 ⟨rv, rfl, _, hb2⟩
              have hS3 := hid (hS1.out.next hb2)
              have hN3 := hid ((hb2.block _ (lt_of_block hN1.out)).trans hN1.out)
              obtain ⟨bW, hbW⟩ : ∃ bW, bW = (wayL l l.length q.path).isSome := ⟨_, rfl⟩
              rw [← hbW]
              replace hbW := hid hbW
              generalize wr.heap.size = z2 at *
              clear hway hb2 hS1 hN1 f0 f1 p0 e0 e1 hnew
              cases bW with
              | true =>
                go_wp2_with fail
                go_roundw
                case rel =>
                  refine ⟨k + 1, by omega, by go_num, hS3, hid (fun j p g1 gp gg gd => ?_)⟩
                  rcases Nat.lt_or_ge j k with h | h
                  · exact hall.out j p h gp gg gd
                  · obtain rfl : j = k := by omega
                    rw [hq.out] at gp; cases gp
                    exact hbW.out.symm
                case measure => simp [intOf]; omega
              | false =>
                have s0 : w2.cell? ⟨z2, 0, none⟩ = some (.int .u64 (q.path : Int)) := block_cell hN3.out 0
                have s1 : w2.cell? ⟨z2, 1, none⟩ = some (.int .u32 (q.vers : Int)) := block_cell hN3.out 1
                have s2 : w2.cell? ⟨z2, 2, none⟩ = some (.int .u32 (q.mode : Int)) := block_cell hN3.out 2
                have s3 : w2.cell? ⟨z2, 3, none⟩ = some (.int .u32 (q.atm : Int)) := block_cell hN3.out 3
                have s4 : w2.cell? ⟨z2, 4, none⟩ = some (.int .u32 (q.mtm : Int)) := block_cell hN3.out 4
                have s5 : w2.cell? ⟨z2, 5, none⟩ = some (.string q.name) := block_cell hN3.out 5
                have s6 : w2.cell? ⟨z2, 6, none⟩ = some (.string q.uid) := block_cell hN3.out 6
                have s7 : w2.cell? ⟨z2, 7, none⟩ = some (.string q.gid) := block_cell hN3.out 7
                have s8 : w2.cell? ⟨z2, 8, none⟩ = some (.string q.muid) := block_cell hN3.out 8
                have s9 : w2.cell? ⟨z2, 9, none⟩ = some (.int .u64 (q.up : Int)) := block_cell hN3.out 9
                have s10 : w2.cell? ⟨z2, 10, none⟩ = some (.bool q.gone) := block_cell hN3.out 10
                have s11 : w2.cell? ⟨z2, 11, none⟩ = some (.string q.data) := block_cell hN3.out 11
                have hdir := hid (ndir_any q w2 hqo.out)
                obtain ⟨bD, hbD⟩ : ∃ bD, bD = dirB q := ⟨_, rfl⟩
                rw [← hbD] at hdir
                rw [nod_cells] at hdir
                replace hbD := hid hbD
                go_wp2_with fail
                refine hdir.out.mono ?_
                rintro e w3 ⟨rfl, hb3⟩
                have hS4 := hid (hS3.out.next hb3)
                have hN4 := hid ((hb3.block _ (lt_of_block hN3.out)).trans hN3.out)
                have m10 : w3.cell? ⟨z2, 10, none⟩ = some (.bool q.gone) := block_cell hN4.out 10
                clear hdir hb3 hS3 hN3 s0 s1 s2 s3 s4 s5 s6 s7 s8 s9 s10 s11
                cases bD with
                | false =>
                  go_wp2_with fail
                  go_roundw
                  case rel =>
                    refine ⟨k + 1, by omega, by go_num, hS4, hid (fun j p g1 gp gg gd => ?_)⟩
                    rcases Nat.lt_or_ge j k with h | h
                    · exact hall.out j p h gp gg gd
                    · obtain rfl : j = k := by omega
                      rw [hq.out] at gp; cases gp
                      rw [← hbD.out] at gd; cases gd
                  case measure => simp [intOf]; omega
                | true =>
                  rcases hqg : q.gone with _ | _
                  · rw [hqg] at m10
                    have hR := hid (show chkE x l = 2 by rw [hchk.out, if_pos hg9.out, if_neg h64, if_neg hB, if_pos ⟨q, List.mem_of_getElem? hq.out, hqg, hbD.out.symm, hbW.out.symm⟩])
                    replace hqg := hid hqg
                    go_wp2_with fail
                    go_ret
                    exact ncheck_of hR.out hS4.out.bel
                  · rw [hqg] at m10
                    replace hqg := hid hqg
                    go_wp2_with fail
                    go_roundw
                    case rel =>
                      refine ⟨k + 1, by omega, by go_num, hS4, hid (fun j p g1 gp gg gd => ?_)⟩
                      rcases Nat.lt_or_ge j k with h | h
                      · exact hall.out j p h gp gg gd
                      · obtain rfl : j = k := by omega
                        rw [hq.out] at gp; cases gp
                        rw [hqg.out] at gg; cases gg
                    case measure => simp [intOf]; omega
            · obtain rfl : k = l.length := by omega
              have hR := hid (show PChkOk ⟨x, l⟩ from ⟨⟨n, hn.out, hroot.out⟩, heach.out, by show l.length ≤ 64; omega, by show bytesL l ≤ 16384; omega, fun q hm hg hd => by
                obtain ⟨j, hj⟩ := List.getElem?_of_mem hm
                exact hall.out j q (List.getElem?_eq_some_iff.1 hj).1 hj hg hd⟩)
              go_wp2_with fail
              go_ret
              exact ncheck_of (chkE_ok.2 hR.out) hS.out.bel
theorem ncheck_any (v : Value) (x : Nat) (l : List Nod) (w : World) (hv : NodsAt w v l) (hl : l.length ≤ 900) (hok : ∀ n ∈ l, NodOk n) (hds : ∀ n ∈ l, n.data.size ≤ 1000000) :
    Calls Tryz.prog 16 #[.agg #[.int .u64 (x : Int), v]] w (NCheckPost w x l) := by
  refine (ncheck_is v x l w hv hl hok hds).mono ?_
  rintro e w' ⟨rfl, hb⟩
  exact ⟨_, rfl, chkE_ok.trans pchk_ok, hb⟩
end
end Go.Proofs.YtcmajcljafmphaaGreat

namespace Go.Proofs.YtcmajcljafmphaaGreat
section
open Go.RowKit
set_option maxRecDepth 100000
set_option linter.unusedVariables false

def errChainZ (e : Int) : List PanicEntry := [{ v := .iface 24 (.int .i64 e), recovered := false }]
structure TreeOf (l : List UInt8) (t : Tr) : Prop where
  is : treeP l = some t
  ok : OkC t
def NTreePost (b : Nat) (l : List UInt8) (w : World) (e : Ending) (w' : World) : Prop := OStep b w w' ∧ ((∃ t v, TreeOf l t ∧ e = .returned (.agg #[.int .u64 (t.next : Int), v]) ∧ NodsAt w' v t.n ∧ ∀ k, v.ownBlock = some k → w.heap.size ≤ k) ∨ ((∀ t, ¬ TreeOf l t) ∧ ∃ er : Int, er ≠ 0 ∧ e = .panicked (errChainZ er)))
theorem ntree_none {b : Nat} {l : List UInt8} {w w' : World} (h : treeP l = none) (hs : OStep b w w') : NTreePost b l w (.panicked (errChain 2)) w' :=
  ⟨hs, .inr ⟨fun t ht => (by have := ht.is; rw [h] at this; cases this), 2, (by decide), rfl⟩⟩

theorem ntclip_any (a : Option Addr) (c : Nat) (l : List Nod) (w : World) (hv : NodsAt w (.slice a l.length c) l) :
    Calls Tryz.prog 90 #[.slice a l.length c] w fun e w' => e = .returned (.slice a l.length l.length) ∧ w' = w := by
  obtain ⟨a', c', hv0, g1, g2⟩ := hv.form
  simp only [Value.slice.injEq] at hv0
  rw [← hv0.2.2] at g1 g2
  unfold maxLen at g2
  clear hv hv0
  go_enter Tryz.func90, Tryz.ntmps90
  go_wp2_with fail
  go_ret
  exact ⟨rfl, rfl⟩

set_option maxHeartbeats 6400000 in
theorem ntree_any (b : Nat) (l : List UInt8) (w : World) (hl : l.length ≤ 47000) (h : InIs w b l 0) :
    Calls Tryz.prog 67 #[.agg #[.pointer (some ⟨b, 0, none⟩)]] w (NTreePost b l w) := by
  have mixed : Tryz.prog.follows Departure.mixedOrders = true := by first | kernel_rfl | decide
  obtain ⟨W, hW⟩ : ∃ W, W = (w.alloc (.cells #[.pointer (some ⟨b, 0, none⟩)] 111)).alloc (.cells #[.int .u64 0, .slice none 0 0] 33) := ⟨_, rfl⟩
  have hb0 : Below w.heap.size w W := by rw [hW]; exact ((Below.refl _ _).alloc (Nat.le_refl _) _).alloc (by simp) _
  have hg0 : W.heap[w.heap.size]? = some (.cells #[ptr b 0] 111 (0, 0)) := by
    rw [hW, heap_alloc_old _ _ (by simp)]; exact heap_alloc_new _ _
  have hr0 : W.heap[w.heap.size + 1]? = some (.cells #[.int .u64 0, .slice none 0 0] 33 (0, 0)) := by rw [hW]; exact heap2 _ _ _
  have hs0 := OStep.pure h.lt hb0
  have hI0 := h.below hb0
  have c0 : W.cell? ⟨w.heap.size, 0, none⟩ = some (.pointer (some ⟨b, 0, none⟩)) := block_cell hg0 0
  have h0 := hid h
  replace hg0 := hid hg0
  replace hr0 := hid hr0
  by_cases h8 : 8 ≤ l.length
  case neg =>
    have hbad := hid (nnumber_bad b 8 l W (by omega) (by omega) (by omega) hI0 (by omega))
    have hN : Hid (treeP l = none) := hid (by unfold treeP; rw [numP_short (by omega)]; rfl)
    replace hs0 := hid hs0
    clear h hb0 hI0
    go_enter Tryz.func67, Tryz.ntmps67
    go_wp2_with (rw [← hW]; replace hW := hid hW)
    refine hbad.out.mono ?_
    rintro e w' ⟨rfl, hs1⟩
    exact ⟨rfl, ntree_none hN.out (hs0.out.trans hs1)⟩
  have hn1 := numP_long h8
  obtain ⟨x, l1, hx1⟩ : ∃ x l1, (leN (l.take 8), l.drop 8) = (x, l1) := ⟨_, _, rfl⟩
  have hgood := nnumber_ok b 8 l W (by omega) (by omega) (by omega) hI0 h8
  cases hx1
  obtain ⟨x, hx⟩ : ∃ x, x = leN (l.take 8) := ⟨_, rfl⟩
  obtain ⟨l1, hl1⟩ : ∃ l1, l1 = l.drop 8 := ⟨_, rfl⟩
  rw [← hx, ← hl1] at hgood hn1
  have hl1n : l1.length ≤ 47000 := by rw [hl1, List.length_drop]; omega
  replace hx := hid hx
  replace hl1 := hid hl1
  replace hgood := hid hgood
  replace hn1 := hid hn1
  replace hs0 := hid hs0
  clear h hb0 hI0 h8
  go_enter Tryz.func67, Tryz.ntmps67
  go_wp2_with (rw [← hW]; replace hW := hid hW)
  refine hgood.out.mono ?_
  rintro e w1 ⟨rfl, hI1, hs1⟩
  have hkeep : ∀ k, w.heap.size ≤ k → k < W.heap.size → w1.heap[k]? = W.heap[k]? := fun k a1 a2 => (hs1.block k a2 (fun hf => by have := foot_old h0.out hs0.out hf; omega)).1
  have hg1 := (hkeep _ (Nat.le_refl _) (lt_of_block hg0.out)).trans hg0.out
  have hr1 := (hkeep _ (by omega) (lt_of_block hr0.out)).trans hr0.out
  have hz0 : w.heap.size + 1 < w1.heap.size := lt_of_block hr1
  have hnew := hid (heap_alloc_new w1 (.cells #[.int .u64 0, .slice none 0 0] 33))
  obtain ⟨V, hV⟩ : ∃ V, V = (w1.alloc (.cells #[.int .u64 0, .slice none 0 0] 33)).setRow w1.heap.size #[.int .u64 (x : Int), .slice none 0 0] := ⟨_, rfl⟩
  have hbV : Below w1.heap.size w1 V := by rw [hV]; exact below_setRow ((Below.refl _ _).alloc (Nat.le_refl _) _) (Nat.le_refl _) _
  have hT := hid (show NTs w b w.heap.size (w.heap.size + 1) w1.heap.size x (.slice none 0 0) [] l1 V from
    ⟨hI1.below hbV, (hs0.out.trans hs1).trans (OStep.pure hI1.lt hbV), (hbV.block _ (by omega)).trans hg1, (hbV.block _ (by omega)).trans hr1, by rw [hV]; exact setRow_heap _ _ _ _ _ _ hnew.out, World.ownsRow_nil _ _ _ _, ⟨Nat.le_refl _, by omega, by omega⟩⟩)
  have c1 : V.cell? ⟨w.heap.size, 0, none⟩ = some (.pointer (some ⟨b, 0, none⟩)) := block_cell hT.out.hg 0
  clear hgood hI1 hs1 hkeep hg1 hr1 hbV c0
  by_cases h4 : 4 ≤ l1.length
  case neg =>
    have hbad := hid (nnumber_bad b 4 l1 V (by omega) (by omega) (by omega) hT.out.inn (by omega))
    have hN : Hid (treeP l = none) := hid (by unfold treeP; rw [hn1.out, Option.bind_some, numP_short (by show l1.length < 4; omega)]; rfl)
    go_wp2_with (first
      | (rw [← hV]; replace hV := hid hV)
      | (refine wpList_store_row (by rfl) 33 (.tmp 3) (.tmp 7) (by rfl) w1.heap.size #[.int .u64 (x : Int), .slice none 0 0] (by rfl) (by rfl) 33 _ hnew.out (by kernel_rfl) (by kernel_rfl) (by kernel_rfl) ?_))
    refine hbad.out.mono ?_
    rintro e w' ⟨rfl, hs1⟩
    exact ⟨rfl, ntree_none hN.out (hT.out.stp.trans hs1)⟩
  obtain ⟨C, hC⟩ : ∃ C, C = leN (l1.take 4) := ⟨_, rfl⟩
  obtain ⟨l2, hl2⟩ : ∃ l2, l2 = l1.drop 4 := ⟨_, rfl⟩
  have hn2 := numP_long h4
  have hgood := hid (nnumber_ok b 4 l1 V (by omega) (by omega) (by omega) hT.out.inn h4)
  rw [← hC, ← hl2] at hgood hn2
  have hC4 : C < 4294967296 := (numP_some hn2).2.2.1
  have hl2n : l2.length ≤ 47000 := by rw [hl2, List.length_drop]; omega
  replace hC := hid hC
  replace hl2 := hid hl2
  have hTP : Hid (treeP l = (nodsP C l2).bind fun r => if r.2 = [] then some ⟨x, r.1⟩ else none) := hid (by unfold treeP; rw [hn1.out, Option.bind_some]; show (numP 4 l1).bind _ = _; rw [hn2]; rfl)
  replace hn2 := hid hn2
  clear h4
  generalize hzz : w1.heap.size = z at *
  go_wp2_with (first
    | (rw [← hV]; replace hV := hid hV)
    | (refine wpList_store_row (by rfl) 33 (.tmp 3) (.tmp 7) (by rfl) z #[.int .u64 (x : Int), .slice none 0 0] (by rfl) (by rfl) 33 _ hnew.out (by kernel_rfl) (by kernel_rfl) (by kernel_rfl) ?_))
  refine hgood.out.mono ?_
  rintro e w2 ⟨rfl, hI2, hs2⟩
  have hT2 := hid (hT.out.step h0.out hs2 hI2)
  clear hgood hI2 hs2 hT c1 hnew hzz hV
  go_wp2_with fail
  go_loopw [10] (fun kv wr => ∃ (k : Nat) (rv : Value) (acc : List Nod) (rest : List UInt8), k ≤ C ∧ kv = .int .u64 (k : Int) ∧ Hid (nodsP k l2 = some (acc, rest)) ∧ Hid (NTs w b w.heap.size (w.heap.size + 1) z x rv acc rest wr)) (fun kv _ => C - (intOf kv).toNat)
  case atStart => exact ⟨0, _, [], l2, by omega, rfl, hid rfl, hT2⟩
  case round =>
    clear hT2
    obtain ⟨k, rv, acc, rest, hk, rfl, hp, hT⟩ := hrel
    obtain ⟨q1, q2, q3, q4⟩ := nodsP_some hp.out (by omega)
    simp only at q1 q4
    by_cases hkc : k < C
    · have hk63 : (k : Int) < (C : Int) := by omega
      have hwr : IntKind.u64.wrap ((k : Int) + 1) = ((k + 1 : Nat) : Int) := by rw [IntWalk.u64_in _ (by omega)]; omega
      have hbd : Below wr.heap.size wr wr.drew := (Below.refl _ _).drew
      have hTd := hid (hT.out.below h0.out hbd)
      replace hwr := hid hwr
      clear hbd hT
      replace q2 := hid q2
      replace q3 := hid q3
      go_wp2_with fail
      refine wp_region_held (S := fun w' : World => w'.heap[w.heap.size]? = some (.cells #[ptr b 0] 111 (0, 0))) mixed ?_
      refine (show wpAnyH Tryz.prog .any ops_ntr4 _ _ _ _ _ _ → _ from fun h => h) ?_
      refine ntr4_all (w0 := w) (l0 := l) (w := wr.drew) (rest := rest) h0.out (by omega) (by omega) hTd.out (fun d u c a w h => by cases d <;> exact h) (FrL.of_all (by rfl) rfl ⟨rfl, rfl, rfl, rfl, rfl, rfl, rfl, rfl, rfl, rfl, rfl, rfl, rfl, rfl, rfl, rfl, rfl, rfl, rfl, rfl, rfl, rfl, rfl, rfl, rfl, rfl, rfl, rfl, trivial⟩) (fun n rest' rv' a w3 hn hF hT3 => ?_) (fun a w3 hn hd hs3 => ?_)
      case refine_2 => exact ⟨hd, ntree_none (by rw [hTP.out, nodsP_stop hp.out hn hkc]; rfl) hs3⟩
      have he := frame_eq hF [.agg #[.pointer (some ⟨b, 0, none⟩)], .pointer (some ⟨w.heap.size, 0, none⟩), .pointer (some ⟨(w.heap.size + 1), 0, none⟩), .pointer (some ⟨z, 0, none⟩), undef, .agg #[.pointer (some ⟨b, 0, none⟩)], .int .u64 (x : Int), .agg #[.int .u64 (x : Int), .slice none 0 0], .agg #[.pointer (some ⟨b, 0, none⟩)], .int .u64 (C : Int), .int .u64 (k : Int), a.tmps.getD 11 undef, a.tmps.getD 12 undef, a.tmps.getD 13 undef, a.tmps.getD 14 undef, a.tmps.getD 15 undef, a.tmps.getD 16 undef, a.tmps.getD 17 undef, a.tmps.getD 18 undef, u19, undef, undef, undef, undef, undef, undef, undef, undef, undef, undef, undef, undef, undef, undef, undef, undef] (by rfl) ⟨hF.get 0 _ rfl, hF.get 1 _ rfl, hF.get 2 _ rfl, hF.get 3 _ rfl, hF.get 4 _ rfl, hF.get 5 _ rfl, hF.get 6 _ rfl, hF.get 7 _ rfl, hF.get 8 _ rfl, hF.get 9 _ rfl, hF.get 10 _ rfl, hF.any 11 (by decide), hF.any 12 (by decide), hF.any 13 (by decide), hF.any 14 (by decide), hF.any 15 (by decide), hF.any 16 (by decide), hF.any 17 (by decide), hF.any 18 (by decide), hF.get 19 _ rfl, hF.get 20 _ rfl, hF.get 21 _ rfl, hF.get 22 _ rfl, hF.get 23 _ rfl, hF.get 24 _ rfl, hF.get 25 _ rfl, hF.get 26 _ rfl, hF.get 27 _ rfl, hF.get 28 _ rfl, hF.get 29 _ rfl, hF.get 30 _ rfl, hF.get 31 _ rfl, hF.get 32 _ rfl, hF.get 33 _ rfl, hF.get 34 _ rfl, hF.get 35 _ rfl, trivial⟩
      rw [he]
      clear he hF
      generalize a.tmps.getD 11 undef = y11
      generalize a.tmps.getD 12 undef = y12
      generalize a.tmps.getD 13 undef = y13
      generalize a.tmps.getD 14 undef = y14
      generalize a.tmps.getD 15 undef = y15
      generalize a.tmps.getD 16 undef = y16
      generalize a.tmps.getD 17 undef = y17
      generalize a.tmps.getD 18 undef = y18
      clear a
      have hp3 := hid (nodsP_next hp.out hn)
      replace hT3 := hid hT3
      replace hn := hid hn
      have hwr2 := hwr.out
      go_wp2_with fail
      go_roundw
      case rel => exact ⟨k + 1, rv', acc ++ [n], rest', by omega, by go_num, hp3, hT3⟩
      case measure => simp [intOf]; omega
    · have hkC : k = C := by omega
      subst hkC
      subst q1
      have hlt : ¬ ((acc.length : Nat) : Int) < ((acc.length : Nat) : Int) := by omega
      have hnx := hT.out.own
      have hNA := hid (NodsAt.of_own hT.out.own)
      obtain ⟨va, vc, rfl, g1, g2⟩ := hNA.out.form
      unfold maxLen at g2
      have hclip := hid (ntclip_any va vc acc wr hNA.out)
      obtain ⟨X, hX⟩ : ∃ X, X = wr.setCell ⟨z, 1, none⟩ (.slice va acc.length acc.length) := ⟨_, rfl⟩
      have hlo := hT.out.lo
      have hzf : ¬ Foot wr b z := fun hf => by have := foot_old h0.out hT.out.stp hf; omega
      have hIX := hid (show InIs X b rest 0 by rw [hX]; exact hT.out.inn.store (p := ⟨z, 1, none⟩) _ hzf)
      have hSX := hid (show OStep b w X by rw [hX]; exact hT.out.stp.store (p := ⟨z, 1, none⟩) (by show _ ≤ z; omega) hzf h0.out.lt _)
      have hgX := hid (show X.heap[w.heap.size]? = some (.cells #[ptr b 0] 111 (0, 0)) by rw [hX]; exact (block_set_other (by show w.heap.size ≠ z; omega)).trans hT.out.hg)
      have hrX := hid (show X.heap[w.heap.size + 1]? = some (.cells #[.int .u64 0, .slice none 0 0] 33 (0, 0)) by rw [hX]; exact (block_set_other (by show w.heap.size + 1 ≠ z; omega)).trans hT.out.hr)
      have hzX := hid (show X.heap[z]? = some (.cells #[.int .u64 (x : Int), .slice va acc.length acc.length] 33 (0, 0)) by rw [hX]; exact block_set hT.out.hz 1 _)
      have hvX := hid (show NodsAt X (.slice va acc.length acc.length) acc by
        have ho := own_keep (w' := X) hT.out.own (fun j hj => by rw [hX]; exact block_set_other (by show j ≠ z; have := (hT.out.own.lt j hj).1; omega))
        exact (NodsAt.of_own ho).clip)
      have hvo := hid (fun (k : Nat) (hk : (Value.slice va acc.length acc.length).ownBlock = some k) => show z + 1 ≤ k from (hT.out.own.lt k (by rw [ownBlock_cap va acc.length vc acc.length acc.length]; exact hk)).1)
      have e0 : X.cell? ⟨w.heap.size, 0, none⟩ = some (.pointer (some ⟨b, 0, none⟩)) := block_cell hgX.out 0
      have d1 : wr.cell? ⟨z, 1, none⟩ = some (.slice va acc.length vc) := block_cell hT.out.hz 1
      have d1f : wr.frozen? ⟨z, 1, none⟩ = false := block_free hT.out.hz 1
      clear hnx hzf hlo
      go_wp2_with fail
      refine hclip.out.mono ?_
      rintro e w3 ⟨rfl, hw3⟩
      subst hw3
      have hleft := hid (in_left_any b rest 0 X hIX.out)
      have hL0 : leftN rest 0 = rest.length := rfl
      rw [hL0] at hleft
      clear hclip hT hNA hL0
      by_cases hne : rest = []
      case neg =>
        have hN : Hid (treeP l = none) := hid (by rw [hTP.out, hp.out]; show (if rest = [] then _ else none) = none; rw [if_neg hne])
        have hpos : (0 : Int) < (rest.length : Int) := by have := List.length_pos_iff.2 hne; omega
        clear hne
        go_wp2_with (rw [← hX]; replace hX := hid hX)
        refine hleft.out.mono ?_
        rintro e w4 ⟨rfl, hw4⟩
        subst hw4
        go_wp2_with fail
        exact ⟨rfl, ntree_none hN.out hSX.out⟩
      have hN : Hid (treeP l = some ⟨x, acc⟩) := hid (by rw [hTP.out, hp.out]; show (if rest = [] then _ else none) = _; rw [if_pos hne])
      have hpos : ¬ (0 : Int) < (rest.length : Int) := by rw [hne]; simp
      replace hne := hid hne
      have hck := hid (ncheck_any (.slice va acc.length acc.length) x acc X hvX.out (by omega) q2 (fun n hn => by have := q3 n hn; omega))
      replace q2 := hid q2
      replace q3 := hid q3
      go_wp2_with (rw [← hX]; replace hX := hid hX)
      refine hleft.out.mono ?_
      rintro e w4 ⟨rfl, hw4⟩
      subst hw4
      go_wp2_with (first
        | (refine wpList_load_row (by rfl) 33 (.tmp 3) (by rfl) z (by rfl) 33 #[.int .u64 (x : Int), .slice va acc.length acc.length] (0, 0) _ hzX.out Tryz.underlying33 (by rfl) (by kernel_rfl) ?_))
      refine hck.out.mono ?_
      rintro e w5 ⟨E, rfl, hE, hb5⟩
      have hS5 := hid (hSX.out.trans (OStep.pure hIX.out.lt hb5))
      have hz5 := hid ((hb5.block _ (lt_of_block hzX.out)).trans hzX.out)
      have hr5 := hid ((hb5.block _ (lt_of_block hrX.out)).trans hrX.out)
      have hv5 := hid (hvX.out.below hb5)
      replace hE := hid hE
      clear hck hleft hb5 hvX hzX hrX hgX e0
      by_cases hE0 : E = 0
      case neg =>
        have k0 : (E != 0) = true := by simpa using hE0
        replace hE0 := hid hE0
        go_wp2_with fail
        exact ⟨rfl, hS5.out, .inr ⟨fun t ht => by
          have h1 := ht.is
          rw [hN.out] at h1
          cases h1
          exact hE0.out (hE.out.2 ht.ok), E, hE0.out, rfl⟩⟩
      subst hE0
      have hok := hid (hE.out.1 rfl)
      clear hE
      have hFin := hid (setRow_heap w5 (w.heap.size + 1) _ #[.int .u64 (x : Int), .slice va acc.length acc.length] _ _ hr5.out)
      have hfr := hid (show ¬ Foot w5 b (w.heap.size + 1) from fun hf => by have := foot_old h0.out hS5.out hf; omega)
      go_wp2_with (first
        | (refine wpList_load_row (by rfl) 33 (.tmp 3) (by rfl) z (by rfl) 33 #[.int .u64 (x : Int), .slice va acc.length acc.length] (0, 0) _ hz5.out Tryz.underlying33 (by rfl) (by kernel_rfl) ?_)
        | (refine wpList_store_row (by rfl) 33 (.tmp 2) (.tmp 35) (by rfl) (w.heap.size + 1) #[.int .u64 (x : Int), .slice va acc.length acc.length] (by rfl) (by rfl) 33 _ hr5.out (by kernel_rfl) (by kernel_rfl) (by kernel_rfl) ?_))
      refine bodyPost_ret (results_cell_row rfl _ _ (w.heap.size + 1) _ _ _ _ rfl hFin.out Tryz.underlying33 rfl (by kernel_rfl)) rfl ?_
      exact ⟨ostep_row hS5.out (by omega) h0.out.lt hfr.out _, .inl ⟨⟨x, acc⟩, _, ⟨hN.out, hok.out⟩, rfl, NodsAt.other hv5.out (w.heap.size + 1) (fun e => by have := hvo.out _ e; omega) (by simp [World.setRow]) (fun k hk => setRow_other _ _ _ _ hk), fun k hk => by have := hvo.out k hk; omega⟩⟩
end
end Go.Proofs.YtcmajcljafmphaaGreat

namespace Go.Proofs.YtcmajcljafmphaaGreat
section
open Go.RowKit
set_option maxRecDepth 100000
set_option linter.unusedVariables false

theorem nassert_errno (e : Int) (w : World) : (Instr.typeAssert (.iface 24 (.int .i64 e)) 20 24 true).run Tryz.prog w = .ok (.tuple #[.int .i64 e, .bool true]) w := by kernel_rfl
def errChainZR (e : Int) : List PanicEntry := [{ v := .iface 24 (.int .i64 e), recovered := true }]
theorem ndec1_panicking (p q : Nat) (cs : Array Value) (x : Int) (e : Int) (w : World) (hpq : p ≠ q) (hp : w.heap[p]? = some (.cells cs 33 (0, 0))) (hcs : cs.size = 2) (hq : w.heap[q]? = some (.cells #[.int .i64 x] 24 (0, 0))) :
    CallsD Tryz.prog 66 #[.pointer (some ⟨p, 0, none⟩), .pointer (some ⟨q, 0, none⟩)] (.panicking (errChainZ e)) w fun en u' w' =>
      en = .returned (.tuple #[]) ∧ u' = .panicking (errChainZR e) ∧ w' = (w.setRow p #[.int .u64 0, .slice none 0 0]).setCell ⟨q, 0, none⟩ (.int .i64 e) := by
  have hta := nassert_errno e
  have hq2 : (w.setRow p #[.int .u64 0, .slice none 0 0]).heap[q]? = some (.cells #[.int .i64 x] 24 (0, 0)) := (setRow_other _ _ _ _ (Ne.symm hpq)).trans hq
  have hc1 : (w.setRow p #[.int .u64 0, .slice none 0 0]).cell? ⟨q, 0, none⟩ = some (.int .i64 x) := block_cell hq2 0
  have hf1 : (w.setRow p #[.int .u64 0, .slice none 0 0]).frozen? ⟨q, 0, none⟩ = false := block_free hq2 0
  replace hp := hid hp
  replace hcs := hid hcs
  clear hq hq2
  refine callsD_of_wpS Tryz.func66 rfl fun c₀ cs hu => ?_
  apply wpS_seq
  apply wpS_region
  simp [wpOpsS, go_sem, recoverD, hu, errChainZ, Tryz.ntmps66, Exit.thenS, Array.replicate_succ]
  apply wpS_body
  go_wp2_with (refine wpList_store_row (by rfl) 33 (.tmp 0) (.tmp 11) (by rfl) p #[.int .u64 0, .slice none 0 0] (by rfl) (by rfl) 33 _ hp.out (by kernel_rfl) hcs.out (by kernel_rfl) ?_)
  go_end0
  exact ⟨rfl, rfl, rfl⟩
theorem ndec1_idle (p q : Addr) (w : World) :
    CallsD Tryz.prog 66 #[.pointer (some p), .pointer (some q)] .returning w fun e u' w' => e = .returned (.tuple #[]) ∧ u' = .returning ∧ w' = w := by
  refine callsD_of_wpS Tryz.func66 rfl fun c₀ cs hu => ?_
  apply wpS_seq
  apply wpS_region
  simp [wpOpsS, go_sem, recoverD, hu, Tryz.ntmps66, Exit.thenS, Array.replicate_succ]
  rw [show c₀ = { c₀ with mode := .returning } from by cases c₀; simp_all]
  apply wpS_body
  go_wp2
  go_end0
  exact ⟨rfl, rfl⟩
theorem nin_of_new (v : Value) (l : List UInt8) (w : World) (h : BytesAt w v l) (hl : l.length ≤ 1000000008) :
    Calls Tryz.prog 51 #[v] w fun e w' => ∃ b, e = .returned (.pointer (some ⟨b, 0, none⟩)) ∧ w.heap.size ≤ b ∧ InIs w' b l 0 ∧ Below w.heap.size w w' ∧ ∀ k, Foot w' b k → w.heap.size ≤ k := by
  go_enter Tryz.func51, Tryz.ntmps51
  go_wp2_with fail
  refine (clone_new v l w h hl).mono ?_
  rintro e w1 ⟨v1, rfl, ⟨h1, hnew⟩, hb1⟩
  obtain ⟨a, c, rfl, hc1, hc2, hc3⟩ := h1.form
  replace hnew := hid hnew
  go_wp2
  go_ret
  have h1' := h1.below ((Below.refl w1.heap.size w1).alloc (Nat.le_refl _) (.cells #[.slice a l.length c, .int .i64 0] 125))
  refine ⟨w1.heap.size, rfl, hb1.size, ⟨_, heap_alloc_new _ _, h1', ?_⟩, hb1.alloc hb1.size _, ?_⟩
  · intro he
    exact absurd (h1.lt he) (Nat.lt_irrefl _)
  · rintro k (rfl | ⟨u, hu, hk⟩)
    · exact hb1.size
    · rw [block_cell (heap_alloc_new _ _) 0] at hu
      cases hu
      exact hnew.out k hk

theorem rld_errno {p : Addr} {v : Value} {w : World} (h : w.cell? p = some v) : (loadVar 24 p).run Tryz.prog w = .ok v w := by simp [go_sem, h]
def NDecPost (w : World) (l : List UInt8) (e : Ending) (w' : World) : Prop :=
  ∃ (t : Tr) (v : Value) (E : Int), e = .returned (.tuple #[.agg #[.int .u64 (t.next : Int), v], .int .i64 E]) ∧ NodsAt w' v t.n ∧ Below w.heap.size w w' ∧ ((TreeOf l t ∧ E = 0) ∨ ((∀ t, ¬ TreeOf l t) ∧ E ≠ 0))
theorem results_cc {P : Program} {fn : Func} {p q : Tmp} {ty ty2 : TypeId} (h : fn.results = #[.cell p ty, .cell q ty2]) (tmps : Array Value) (w : World) (g g2 : Nat) (t : TypeId) (cs : Array Value) (fr : Nat × Nat) (d : TypeDesc) (x : Value)
    (hp : tmps.getD p undef = .pointer (some ⟨g, 0, none⟩)) (hq : tmps.getD q undef = .pointer (some ⟨g2, 0, none⟩)) (hg : w.heap[g]? = some (.cells cs t fr))
    (hu : P.underlying ty = some d) (hd : (match d with | .struct _ | .array _ _ => true | _ => false) = true) (hi : (P.info? ty).map (·.size) = some cs.size) (hx : (loadVar ty2 ⟨g2, 0, none⟩).run P w = .ok x w) :
    (results fn tmps).run P w = .ok (.tuple #[.agg cs, x]) w := by
  have hp' : tmps[p]?.getD undef = .pointer (some ⟨g, 0, none⟩) := by simpa using hp
  have hq' : tmps[q]?.getD undef = .pointer (some ⟨g2, 0, none⟩) := by simpa using hq
  simp [results, h, hp', hq', asAddr, run_loadVar_row w g t ty cs fr d hg hu hd hi, hx]

set_option maxHeartbeats 3200000 in
theorem ndecode_any (v : Value) (l : List UInt8) (w : World) (hv : BytesAt w v l) (hl : l.length ≤ 47000) : Calls Tryz.prog 33 #[v] w (NDecPost w l) := by
  obtain ⟨va, vc, rfl, _, _, _⟩ := hv.form
  have hmf : ∀ (fn : Fn) (first cap : Array Value) (w : World), (Instr.makeFunc fn first cap).run Tryz.prog w = .ok (.func fn first cap) w := fun _ _ _ _ => rfl
  obtain ⟨W, hW⟩ : ∃ W, W = (w.alloc (.cells #[.int .u64 0, .slice none 0 0] 33)).alloc (.cells #[.int .i64 0] 24) := ⟨_, rfl⟩
  have hb0 : Below w.heap.size w W := by rw [hW]; exact ((Below.refl _ _).alloc (Nat.le_refl _) _).alloc (by simp) _
  have hp0 := hid (show W.heap[w.heap.size]? = some (.cells #[.int .u64 0, .slice none 0 0] 33 (0, 0)) by rw [hW, heap_alloc_old _ _ (by simp)]; exact heap_alloc_new _ _)
  have hq0 := hid (show W.heap[w.heap.size + 1]? = some (.cells #[.int .i64 0] 24 (0, 0)) by rw [hW]; exact heap2 _ _ _)
  have hWs : W.heap.size = w.heap.size + 2 := by rw [hW]; simp
  have hof := hid (nin_of_new _ l W (hv.below hb0) (by omega))
  replace hb0 := hid hb0
  replace hWs := hid hWs
  go_enter_defers Tryz.func33, Tryz.ntmps33
  go_wp2_with (rw [← hW]; replace hW := hid hW)
  refine hof.out.mono ?_
  rintro e w1 ⟨b, rfl, hge, hi1, hb1, hnew⟩
  have htr := hid (ntree_any b l w1 hl hi1)
  have hp1 := hid ((hb1.block _ (by have := hWs.out; omega)).trans hp0.out)
  have hq1 := hid ((hb1.block _ (by have := hWs.out; omega)).trans hq0.out)
  have hB1 := hid (hb0.out.trans (hb1.mono (by have := hWs.out; omega)))
  have hlt := hid (show w.heap.size + 1 < w1.heap.size by have := hb1.size; have := hWs.out; omega)
  replace hge := hid hge
  replace hnew := hid hnew
  clear hof hb1 hi1 hv
  go_wp2_with fail
  refine htr.out.mono ?_
  rintro e w2 ⟨hs, hpost⟩
  have hk : ∀ k, w.heap.size ≤ k → k < w.heap.size + 2 → w2.heap[k]? = w1.heap[k]? := fun k h1 h2 => (hs.block k (by have := hlt.out; omega) (fun hf => by have := hnew.out k hf; have := hWs.out; omega)).1
  have hp2 := hid ((hk _ (Nat.le_refl _) (by omega)).trans hp1.out)
  have hq2 := hid ((hk _ (by omega) (by omega)).trans hq1.out)
  have hB2 := hid (hB1.out.trans (hs.below.mono (by have := hge.out; have := hWs.out; omega)))
  clear hs hk hp1 hq1 hB1 hp0 hq0 htr
  rcases hpost with ⟨t, v', ht, rfl, hv', hvk⟩ | ⟨hno, er, her, rfl⟩
  · obtain ⟨na, nc, rfl, n1, n2⟩ := hv'.form
    replace ht := hid ht
    have hp3 := hid (setRow_heap w2 w.heap.size _ #[.int .u64 (t.next : Int), .slice na t.n.length nc] _ _ hp2.out)
    have hq3 := hid ((setRow_other w2 w.heap.size (w.heap.size + 1) #[.int .u64 (t.next : Int), .slice na t.n.length nc] (by omega)).trans hq2.out)
    have hv3 := hid (NodsAt.other (w' := w2.setRow w.heap.size #[.int .u64 (t.next : Int), .slice na t.n.length nc]) hv' w.heap.size (fun e => by have := hvk _ e; have := hlt.out; omega) (by simp [World.setRow]) (fun k hk => setRow_other _ _ _ _ hk))
    have hB3 := hid (below_setRow (g := w.heap.size) hB2.out (Nat.le_refl _) #[.int .u64 (t.next : Int), .slice na t.n.length nc])
    replace hvk := hid hvk
    clear hv'
    have c3 : (w2.setRow w.heap.size #[.int .u64 (t.next : Int), .slice na t.n.length nc]).cell? ⟨w.heap.size + 1, 0, none⟩ = some (.int .i64 0) := block_cell hq3.out 0
    have f3 : (w2.setRow w.heap.size #[.int .u64 (t.next : Int), .slice na t.n.length nc]).frozen? ⟨w.heap.size + 1, 0, none⟩ = false := block_free hq3.out 0
    go_wp2_with (first
      | (refine wpList_store_row (by rfl) 33 (.tmp 2) (.tmp 8) (by rfl) w.heap.size #[.int .u64 (t.next : Int), .slice na t.n.length nc] (by rfl) (by rfl) 33 _ hp2.out (by kernel_rfl) (by kernel_rfl) (by kernel_rfl) ?_))
    refine leaves_cons (f := 66) (args := #[.pointer (some ⟨w.heap.size, 0, none⟩), .pointer (some ⟨w.heap.size + 1, 0, none⟩)]) (by simp) (by simp [go_sem]) ?_
    refine (ndec1_idle ⟨w.heap.size, 0, none⟩ ⟨w.heap.size + 1, 0, none⟩ _).mono ?_
    rintro e u' w'' ⟨rfl, rfl, rfl⟩
    simp only [settle]
    refine ⟨_, results_cc rfl _ _ w.heap.size (w.heap.size + 1) _ _ (0, 0) _ (.int .i64 0) rfl rfl ((block_set_other (by show w.heap.size ≠ w.heap.size + 1; omega)).trans hp3.out) Tryz.underlying33 rfl (by kernel_rfl) (rld_errno (block_cell (block_set hq3.out 0 _) 0)), ?_⟩
    exact ⟨t, _, 0, rfl, NodsAt.other hv3.out (w.heap.size + 1) (fun e => by have := hvk.out _ e; have := hlt.out; omega) (by simp [World.setCell]) (fun k hk => block_set_other hk), hB3.out.setCell (p := ⟨w.heap.size + 1, 0, none⟩) (by show _ ≤ w.heap.size + 1; omega) _, .inl ⟨ht.out, rfl⟩⟩
  · replace hno := hid hno
    replace her := hid her
    have hp3 := hid (setRow_heap w2 w.heap.size _ #[.int .u64 0, .slice none 0 0] _ _ hp2.out)
    have hq3 := hid ((setRow_other w2 w.heap.size (w.heap.size + 1) #[.int .u64 0, .slice none 0 0] (by omega)).trans hq2.out)
    go_wp2_with fail
    refine leaves_cons (f := 66) (args := #[.pointer (some ⟨w.heap.size, 0, none⟩), .pointer (some ⟨w.heap.size + 1, 0, none⟩)]) (by simp) (by simp [go_sem]) ?_
    refine (ndec1_panicking w.heap.size (w.heap.size + 1) _ 0 er w2 (by omega) hp2.out rfl hq2.out).mono ?_
    rintro e u' w'' ⟨rfl, rfl, rfl⟩
    simp only [settle, errChainZR]
    refine ⟨_, results_cc rfl _ _ w.heap.size (w.heap.size + 1) _ _ (0, 0) _ (.int .i64 er) rfl rfl ((block_set_other (by show w.heap.size ≠ w.heap.size + 1; omega)).trans hp3.out) Tryz.underlying33 rfl (by kernel_rfl) (rld_errno (block_cell (block_set hq3.out 0 _) 0)), ?_⟩
    exact ⟨⟨0, []⟩, _, er, rfl, NodsAt.nil, (below_setRow (g := w.heap.size) hB2.out (Nat.le_refl _) _).setCell (p := ⟨w.heap.size + 1, 0, none⟩) (by show _ ≤ w.heap.size + 1; omega) _, .inr ⟨hno.out, her.out⟩⟩
end
end Go.Proofs.YtcmajcljafmphaaGreat
