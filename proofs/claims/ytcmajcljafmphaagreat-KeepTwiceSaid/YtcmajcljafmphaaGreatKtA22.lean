/- The reference's Check: what it finds right is a valid tree. Conditions: numbers in their types; at most 900 nodes. And the texts behind it. -/
import Derived.Test.YtcmajcljafmphaaGreatKtA20
import Derived.Test.YtcmajcljafmphaaGreatKtA21
import Derived.Test.YtcmajcljafmphaaGreatKtA07
import Derived.Test.YtcmajcljafmphaaGreatKtA15
import Derived.Test.YtcmajcljafmphaaGreatKtA04
import Derived.Test.YtcmajcljafmphaaGreatKtA06
namespace Go.Proofs.YtcmajcljafmphaaGreat
section
open Go.RowKit
set_option maxRecDepth 100000
set_option linter.unusedVariables false

def badR (l : List Nod) (n : Nod) : Bool := ((((((decide (l.length = 0)) || (!decide (n.path = 1))) || (!(dirB n))) || (!decide (n.up = 1))) || n.gone) || (!decide (n.name = ⟨#[47]⟩)))
theorem badR_iff {l : List Nod} {n : Nod} (h0 : l.length ≠ 0) : badR l n = false ↔ n.path = 1 ∧ dirB n = true ∧ n.up = 1 ∧ n.gone = false ∧ n.name = slashS := by
  unfold badR slashS
  simp [h0, and_assoc]
def CheckPost (w : World) (x : Nat) (l : List Nod) (e : Ending) (w' : World) : Prop := ∃ E : Int, e = .returned (.int .i64 E) ∧ (E = 0 ↔ ChkOk ⟨x, l⟩) ∧ Below w.heap.size w w'
theorem check_bad {w w' : World} {x : Nat} {l : List Nod} (E : Int) (hE : E ≠ 0) (h : ¬ ChkOk ⟨x, l⟩) (hb : Below w.heap.size w w') : CheckPost w x l (.returned (.int .i64 E)) w' := ⟨E, rfl, ⟨fun h1 => absurd h1 hE, fun h1 => absurd h1 h⟩, hb⟩
set_option maxHeartbeats 6400000 in
theorem rcheck_any (v : Value) (x : Nat) (l : List Nod) (w : World) (hv : NodsAt w v l) (hl : l.length ≤ 900) (hok : ∀ n ∈ l, NodOk n) (hds : ∀ n ∈ l, n.data.size ≤ 1000000) :
    Calls Tryz.prog 26 #[.agg #[.int .u64 (x : Int), v]] w (CheckPost w x l) := by
  obtain ⟨a, c, rfl, g1, g2⟩ := hv.form
  unfold maxLen at g2
  have mixed : Tryz.prog.follows Departure.mixedOrders = true := by first | kernel_rfl | decide
  obtain ⟨W, hW⟩ : ∃ W, W = w.alloc (.cells #[.int .u64 (x : Int), .slice a l.length c] 49) := ⟨_, rfl⟩
  have hb0 : Below w.heap.size w W := by rw [hW]; exact (Below.refl w.heap.size w).alloc (Nat.le_refl _) _
  have hX0 : W.heap[w.heap.size]? = some (.cells #[.int .u64 (x : Int), .slice a l.length c] 49 (0, 0)) := by rw [hW, heap_alloc_new]
  by_cases h0 : l.length = 0
  · have hR := hid (show ¬ ChkOk ⟨x, l⟩ from fun hc => by
      obtain ⟨r, hr, _⟩ := hc.root
      have := (List.getElem?_eq_some_iff.1 hr).1
      have : 0 < l.length := this
      omega)
    have e1 := block_cell hX0 1
    replace hb0 := hid hb0
    replace hv := hid hv
    rw [h0] at hW e1
    clear hX0
    rw [h0]
    go_enter Tryz.func26, Tryz.ntmps26
    go_wp2_with (rw [← hW]; replace hW := hid hW)
    go_ret
    exact check_bad 2 (by omega) hR.out hb0.out
  obtain ⟨b, o, ha, hr⟩ := (hv.below hb0).range 0 (by omega)
  subst ha
  have hS := hid (show ChS w.heap.size w.heap.size b o x c l w W from ⟨hb0, hX0, hv.below hb0, hb0.size⟩)
  obtain ⟨n, hn⟩ : ∃ n, l[0]? = some n := ⟨l[0]'(by omega), List.getElem?_eq_getElem _⟩
  have hnok := hid (hok n (List.mem_of_getElem? hn))
  replace hn := hid hn
  obtain ⟨bA, hbA⟩ : ∃ bA, bA = badR l n := ⟨_, rfl⟩
  replace hbA := hid hbA
  replace hv := hid hv
  clear hr hb0 hX0
  go_enter Tryz.func26, Tryz.ntmps26
  go_upto_region 1 with (rw [← hW]; replace hW := hid hW)
  try (rw [← hW]; replace hW := hid hW)
  go_cut [50] (fun s50 wx => s50 = .bool bA ∧ Hid (ChS w.heap.size w.heap.size b o x c l w wx))
  case first => as_aux_lemma =>
    rename_i J K' hJ hK
    refine wp_region_list ?_
    refine (show wpList Tryz.prog ops_rc1 _ l_rc1 _ _ → _ from fun h => h) ?_
    refine rc1_all (x := x) (l := l) (n := n) (w0 := w) (B := w.heap.size) (g := w.heap.size) (b := b) (f := o) (c := c) (by omega) (fun _ => hn.out) (fun _ => hnok.out) (FrL.of_all (by rfl) rfl ⟨rfl, rfl, rfl, rfl, rfl, rfl, rfl, rfl, trivial⟩) hS.out (fun a w' hF hS => ?_)
    have hE := hbA.out
    unfold badR at hE
    rw [← hE] at hF
    exact hK _ _ (Met.intro (hJ _ _ ⟨a.tmps.getD 8 undef, a.tmps.getD 9 undef, a.tmps.getD 10 undef, a.tmps.getD 11 undef, a.tmps.getD 12 undef, a.tmps.getD 13 undef, a.tmps.getD 14 undef, a.tmps.getD 15 undef, a.tmps.getD 16 undef, a.tmps.getD 17 undef, a.tmps.getD 18 undef, a.tmps.getD 19 undef, a.tmps.getD 20 undef, a.tmps.getD 21 undef, a.tmps.getD 22 undef, a.tmps.getD 23 undef, a.tmps.getD 24 undef, a.tmps.getD 25 undef, a.tmps.getD 26 undef, a.tmps.getD 27 undef, a.tmps.getD 28 undef, a.tmps.getD 29 undef, a.tmps.getD 30 undef, a.tmps.getD 31 undef, a.tmps.getD 32 undef, a.tmps.getD 33 undef, a.tmps.getD 34 undef, a.tmps.getD 35 undef, a.tmps.getD 36 undef, a.tmps.getD 37 undef, a.tmps.getD 38 undef, a.tmps.getD 39 undef, a.tmps.getD 40 undef, a.tmps.getD 41 undef, a.tmps.getD 42 undef, a.tmps.getD 43 undef, a.tmps.getD 44 undef, a.tmps.getD 45 undef, a.tmps.getD 46 undef, a.tmps.getD 47 undef, a.tmps.getD 48 undef, a.tmps.getD 49 undef, .bool bA, a.tmps.getD 51 undef, a.tmps.getD 52 undef, a.tmps.getD 53 undef, a.tmps.getD 54 undef, a.tmps.getD 55 undef, a.tmps.getD 56 undef, a.tmps.getD 57 undef, a.tmps.getD 58 undef, a.tmps.getD 59 undef, a.tmps.getD 60 undef, a.tmps.getD 61 undef, a.tmps.getD 62 undef, a.tmps.getD 63 undef, a.tmps.getD 64 undef, a.tmps.getD 65 undef, a.tmps.getD 66 undef, a.tmps.getD 67 undef, a.tmps.getD 68 undef, a.tmps.getD 69 undef, a.tmps.getD 70 undef, a.tmps.getD 71 undef, a.tmps.getD 72 undef, a.tmps.getD 73 undef, a.tmps.getD 74 undef, a.tmps.getD 75 undef, a.tmps.getD 76 undef, a.tmps.getD 77 undef, a.tmps.getD 78 undef, a.tmps.getD 79 undef, a.tmps.getD 80 undef, a.tmps.getD 81 undef, a.tmps.getD 82 undef, a.tmps.getD 83 undef, a.tmps.getD 84 undef, a.tmps.getD 85 undef, a.tmps.getD 86 undef, a.tmps.getD 87 undef, a.tmps.getD 88 undef, a.tmps.getD 89 undef, a.tmps.getD 90 undef, a.tmps.getD 91 undef, a.tmps.getD 92 undef, a.tmps.getD 93 undef, a.tmps.getD 94 undef, a.tmps.getD 95 undef, a.tmps.getD 96 undef, a.tmps.getD 97 undef, a.tmps.getD 98 undef, a.tmps.getD 99 undef, ⟨rfl, hid hS⟩, frame_eq hF _ (by rfl) ⟨hF.get 0 _ rfl, hF.get 1 _ rfl, hF.get 2 _ rfl, hF.get 3 _ rfl, hF.get 4 _ rfl, hF.get 5 _ rfl, hF.get 6 _ rfl, hF.get 7 _ rfl, hF.any 8 (by decide), hF.any 9 (by decide), hF.any 10 (by decide), hF.any 11 (by decide), hF.any 12 (by decide), hF.any 13 (by decide), hF.any 14 (by decide), hF.any 15 (by decide), hF.any 16 (by decide), hF.any 17 (by decide), hF.any 18 (by decide), hF.any 19 (by decide), hF.any 20 (by decide), hF.any 21 (by decide), hF.any 22 (by decide), hF.any 23 (by decide), hF.any 24 (by decide), hF.any 25 (by decide), hF.any 26 (by decide), hF.any 27 (by decide), hF.any 28 (by decide), hF.any 29 (by decide), hF.any 30 (by decide), hF.any 31 (by decide), hF.any 32 (by decide), hF.any 33 (by decide), hF.any 34 (by decide), hF.any 35 (by decide), hF.any 36 (by decide), hF.any 37 (by decide), hF.any 38 (by decide), hF.any 39 (by decide), hF.any 40 (by decide), hF.any 41 (by decide), hF.any 42 (by decide), hF.any 43 (by decide), hF.any 44 (by decide), hF.any 45 (by decide), hF.any 46 (by decide), hF.any 47 (by decide), hF.any 48 (by decide), hF.any 49 (by decide), hF.get 50 _ rfl, hF.any 51 (by decide), hF.any 52 (by decide), hF.any 53 (by decide), hF.any 54 (by decide), hF.any 55 (by decide), hF.any 56 (by decide), hF.any 57 (by decide), hF.any 58 (by decide), hF.any 59 (by decide), hF.any 60 (by decide), hF.any 61 (by decide), hF.any 62 (by decide), hF.any 63 (by decide), hF.any 64 (by decide), hF.any 65 (by decide), hF.any 66 (by decide), hF.any 67 (by decide), hF.any 68 (by decide), hF.any 69 (by decide), hF.any 70 (by decide), hF.any 71 (by decide), hF.any 72 (by decide), hF.any 73 (by decide), hF.any 74 (by decide), hF.any 75 (by decide), hF.any 76 (by decide), hF.any 77 (by decide), hF.any 78 (by decide), hF.any 79 (by decide), hF.any 80 (by decide), hF.any 81 (by decide), hF.any 82 (by decide), hF.any 83 (by decide), hF.any 84 (by decide), hF.any 85 (by decide), hF.any 86 (by decide), hF.any 87 (by decide), hF.any 88 (by decide), hF.any 89 (by decide), hF.any 90 (by decide), hF.any 91 (by decide), hF.any 92 (by decide), hF.any 93 (by decide), hF.any 94 (by decide), hF.any 95 (by decide), hF.any 96 (by decide), hF.any 97 (by decide), hF.any 98 (by decide), hF.any 99 (by decide), trivial⟩⟩))
  case rest =>
    clear hS
    obtain ⟨rfl, hS⟩ := hcut
    cases bA with
    | true =>
      have hR := hid (show ¬ ChkOk ⟨x, l⟩ from fun hc => by
        obtain ⟨r, hr, h1⟩ := hc.root
        have hr2 : l[0]? = some r := hr
        rw [hn.out] at hr2; cases hr2
        have := (badR_iff h0).2 h1
        rw [← hbA.out] at this; cases this)
      go_wp2_with fail
      go_ret
      exact check_bad 2 (by omega) hR.out hS.out.bel
    | false =>
      have hroot := hid ((badR_iff h0).1 hbA.out.symm)
      clear hbA
      go_wp2_with fail
      go_loopw [3] (fun kv wr => ∃ k : Nat, k ≤ l.length ∧ kv = .int .i64 (k : Int) ∧ Hid (ChS w.heap.size w.heap.size b o x c l w wr) ∧ Hid (∀ j q, j < k → l[j]? = some q → WrOk x l j q)) (fun kv _ => l.length - (intOf kv).toNat)
      case atStart => exact ⟨0, by omega, rfl, hS, hid (fun j q h1 h2 => by omega)⟩
      case round =>
        clear hS
        obtain ⟨k, hk, rfl, hS, hall⟩ := hrel
        have e0 := block_cell hS.out.box 0
        have e1 := block_cell hS.out.box 1
        by_cases hkl : k < l.length
        · obtain ⟨q, hq⟩ : ∃ q, l[k]? = some q := ⟨l[k], List.getElem?_eq_getElem _⟩
          have hwr := hid (rwrong_any _ x l k q wr hS.out.row hl hq hok hds)
          have q1 : (k : Int) < (l.length : Int) := by omega
          replace hq := hid hq
          go_wp2_with fail
          refine hwr.out.mono ?_
          rintro e w2 ⟨E, rfl, hE, hb2⟩
          have hS2 := hid (hS.out.next hb2)
          clear hS hb2 hwr e0 e1
          by_cases hE0 : E = 0
          · subst hE0
            have hw := hid (hE.1 rfl)
            clear hE
            go_wp2_with fail
            go_roundw
            case rel =>
              refine ⟨k + 1, by omega, by go_num, hS2, hid (fun j p g1 gp => ?_)⟩
              rcases Nat.lt_or_ge j k with h | h
              · exact hall.out j p h gp
              · obtain rfl : j = k := by omega
                rw [hq.out] at gp; cases gp
                exact hw.out
            case measure => simp [intOf]; omega
          · have hR := hid (show ¬ ChkOk ⟨x, l⟩ from fun hc => hE0 (hE.2 (hc.each k q hq.out)))
            have q2 : (E != 0) = true := by simpa using hE0
            replace hE := hid hE
            replace hE0 := hid hE0
            go_wp2_with fail
            go_ret
            exact check_bad E hE0.out hR.out hS2.out.bel
        · obtain rfl : k = l.length := by omega
          have heach := hid (show ∀ j q, l[j]? = some q → WrOk x l j q from fun j q hq => hall.out j q (List.getElem?_eq_some_iff.1 hq).1 hq)
          clear hall
          by_cases h64 : 64 < l.length
          · have q2 : (64 : Int) < (l.length : Int) := by omega
            go_wp2_with fail
            go_ret
            exact check_bad 3 (by omega) (fun hc => by have := hc.few; simp only at this; omega) hS.out.bel
          have q2 : ¬ (64 : Int) < (l.length : Int) := by omega
          have hby := hid (rbytes_any _ x l wr hS.out.row (by omega) hds)
          go_wp2_with fail
          refine hby.out.mono ?_
          rintro e w2 ⟨rfl, hb2⟩
          have hS2 := hid (hS.out.next hb2)
          clear hS hb2 hby e0 e1 hkl
          by_cases hB : 16384 < bytesL l
          · have q3 : (16384 : Int) < (bytesL l : Int) := by omega
            go_wp2_with fail
            go_ret
            exact check_bad 14 (by omega) (fun hc => by have := hc.byt; simp only at this; omega) hS2.out.bel
          have q3 : ¬ (16384 : Int) < (bytesL l : Int) := by omega
          go_wp2_with fail
          go_loopw [5] (fun kv wr => ∃ k : Nat, k ≤ l.length ∧ kv = .int .i64 (k : Int) ∧ Hid (ChS w.heap.size w.heap.size b o x c l w wr) ∧ Hid (∀ j q, j < k → l[j]? = some q → q.gone = false → (wayL l (l.length + 1) q.path).isSome = true)) (fun kv _ => l.length - (intOf kv).toNat)
          case atStart => exact ⟨0, by omega, rfl, hS2, hid (fun j q h1 h2 => by omega)⟩
          case round =>
            clear hS2 q2 q3
            obtain ⟨k, hk, rfl, hS, hall⟩ := hrel
            have e1 := block_cell hS.out.box 1
            by_cases hkl : k < l.length
            · obtain ⟨q, hq⟩ : ∃ q, l[k]? = some q := ⟨l[k], List.getElem?_eq_getElem _⟩
              have q1 : (k : Int) < (l.length : Int) := by omega
              replace hq := hid hq
              obtain ⟨bW, hbW⟩ : ∃ bW, bW = (wayL l (l.length + 1) q.path).isSome := ⟨_, rfl⟩
              replace hbW := hid hbW
              go_wp2_with fail
              go_cut [6, 7] (fun s6 s7 wx => s7 = .bool bW ∧ Hid (ChS w.heap.size w.heap.size b o x c l w wx))
              case first => as_aux_lemma =>
                rename_i J K' hJ hK
                refine wp_region_noPanic ?_
                refine wp_region_held (S := (ChS w.heap.size w.heap.size b o x c l w)) mixed ?_
                refine (show wpAnyH Tryz.prog .any ops_rc16 _ _ _ _ _ _ → _ from fun h => h) ?_
                refine rc16_all (x := x) (l := l) (n := q) (w0 := w) (B := w.heap.size) (g := w.heap.size) (b := b) (f := o) (c := c) hl (by omega) hq.out (fun _ _ _ _ _ h => h) (FrL.of_all (by rfl) rfl ⟨rfl, rfl, rfl, rfl, rfl, rfl, rfl, rfl, rfl, rfl, rfl, rfl, rfl, rfl, rfl, rfl, rfl, rfl, rfl, rfl, rfl, rfl, rfl, rfl, rfl, rfl, rfl, rfl, rfl, rfl, rfl, rfl, rfl, rfl, rfl, rfl, rfl, rfl, rfl, rfl, rfl, rfl, rfl, rfl, rfl, rfl, rfl, rfl, rfl, rfl, rfl, rfl, rfl, rfl, rfl, rfl, rfl, rfl, rfl, rfl, rfl, rfl, rfl, rfl, rfl, rfl, rfl, rfl, rfl, trivial⟩) hS.out.drew (fun a w' r hF hS => ?_)
                rw [← hbW.out] at hF
                exact hK _ _ (Met.intro (hJ _ _ ⟨r, .bool bW, a.tmps.getD 71 undef, a.tmps.getD 72 undef, a.tmps.getD 73 undef, a.tmps.getD 74 undef, a.tmps.getD 75 undef, a.tmps.getD 76 undef, a.tmps.getD 77 undef, a.tmps.getD 78 undef, a.tmps.getD 79 undef, a.tmps.getD 80 undef, a.tmps.getD 81 undef, a.tmps.getD 82 undef, a.tmps.getD 83 undef, a.tmps.getD 84 undef, a.tmps.getD 85 undef, a.tmps.getD 86 undef, a.tmps.getD 87 undef, a.tmps.getD 88 undef, a.tmps.getD 89 undef, a.tmps.getD 90 undef, a.tmps.getD 91 undef, a.tmps.getD 92 undef, a.tmps.getD 93 undef, a.tmps.getD 94 undef, a.tmps.getD 95 undef, a.tmps.getD 96 undef, a.tmps.getD 97 undef, a.tmps.getD 98 undef, a.tmps.getD 99 undef, ⟨rfl, hid hS⟩, frame_eq hF _ (by rfl) ⟨hF.get 0 _ rfl, hF.get 1 _ rfl, hF.get 2 _ rfl, hF.get 3 _ rfl, hF.get 4 _ rfl, hF.get 5 _ rfl, hF.get 6 _ rfl, hF.get 7 _ rfl, hF.get 8 _ rfl, hF.get 9 _ rfl, hF.get 10 _ rfl, hF.get 11 _ rfl, hF.get 12 _ rfl, hF.get 13 _ rfl, hF.get 14 _ rfl, hF.get 15 _ rfl, hF.get 16 _ rfl, hF.get 17 _ rfl, hF.get 18 _ rfl, hF.get 19 _ rfl, hF.get 20 _ rfl, hF.get 21 _ rfl, hF.get 22 _ rfl, hF.get 23 _ rfl, hF.get 24 _ rfl, hF.get 25 _ rfl, hF.get 26 _ rfl, hF.get 27 _ rfl, hF.get 28 _ rfl, hF.get 29 _ rfl, hF.get 30 _ rfl, hF.get 31 _ rfl, hF.get 32 _ rfl, hF.get 33 _ rfl, hF.get 34 _ rfl, hF.get 35 _ rfl, hF.get 36 _ rfl, hF.get 37 _ rfl, hF.get 38 _ rfl, hF.get 39 _ rfl, hF.get 40 _ rfl, hF.get 41 _ rfl, hF.get 42 _ rfl, hF.get 43 _ rfl, hF.get 44 _ rfl, hF.get 45 _ rfl, hF.get 46 _ rfl, hF.get 47 _ rfl, hF.get 48 _ rfl, hF.get 49 _ rfl, hF.get 50 _ rfl, hF.get 51 _ rfl, hF.get 52 _ rfl, hF.get 53 _ rfl, hF.get 54 _ rfl, hF.get 55 _ rfl, hF.get 56 _ rfl, hF.get 57 _ rfl, hF.get 58 _ rfl, hF.get 59 _ rfl, hF.get 60 _ rfl, hF.get 61 _ rfl, hF.get 62 _ rfl, hF.get 63 _ rfl, hF.get 64 _ rfl, hF.get 65 _ rfl, hF.get 66 _ rfl, hF.get 67 _ rfl, hF.get 68 _ rfl, hF.get 69 _ rfl, hF.get 70 _ rfl, hF.any 71 (by decide), hF.any 72 (by decide), hF.any 73 (by decide), hF.any 74 (by decide), hF.any 75 (by decide), hF.any 76 (by decide), hF.any 77 (by decide), hF.any 78 (by decide), hF.any 79 (by decide), hF.any 80 (by decide), hF.any 81 (by decide), hF.any 82 (by decide), hF.any 83 (by decide), hF.any 84 (by decide), hF.any 85 (by decide), hF.any 86 (by decide), hF.any 87 (by decide), hF.any 88 (by decide), hF.any 89 (by decide), hF.any 90 (by decide), hF.any 91 (by decide), hF.any 92 (by decide), hF.any 93 (by decide), hF.any 94 (by decide), hF.any 95 (by decide), hF.any 96 (by decide), hF.any 97 (by decide), hF.any 98 (by decide), hF.any 99 (by decide), trivial⟩⟩))
              case rest =>
                clear hS e1
                obtain ⟨rfl, hS⟩ := hcut
                have e1 := block_cell hS.out.box 1
                have f10 : wc.cell? ⟨b, o + k * 12 + 10, none⟩ = some (.bool q.gone) := hS.out.el k q hq.out 10 _ (by rw [nod_cells]; rfl)
                have i1 : (0 : Int) ≤ (k : Int) := by omega
                rcases hqg : q.gone with _ | _
                · rw [hqg] at f10
                  cases bW with
                  | true =>
                    replace hqg := hid hqg
                    go_wp2_with fail
                    go_roundw
                    case rel =>
                      refine ⟨k + 1, by omega, by go_num, hS, hid (fun j p g1 gp gg => ?_)⟩
                      rcases Nat.lt_or_ge j k with h | h
                      · exact hall.out j p h gp gg
                      · obtain rfl : j = k := by omega
                        rw [hq.out] at gp; cases gp
                        exact hbW.out.symm
                    case measure => simp [intOf]; omega
                  | false =>
                    have hR := hid (show ¬ ChkOk ⟨x, l⟩ from fun hc => by
                      have h1 := hc.way q (List.mem_of_getElem? hq.out) hqg
                      have h2 : (wayL l (l.length + 1) q.path).isSome = true := h1
                      rw [← hbW.out] at h2; cases h2)
                    replace hqg := hid hqg
                    go_wp2_with fail
                    go_ret
                    exact check_bad 2 (by omega) hR.out hS.out.bel
                · rw [hqg] at f10
                  replace hqg := hid hqg
                  go_wp2_with fail
                  go_roundw
                  case rel =>
                    refine ⟨k + 1, by omega, by go_num, hS, hid (fun j p g1 gp gg => ?_)⟩
                    rcases Nat.lt_or_ge j k with h | h
                    · exact hall.out j p h gp gg
                    · obtain rfl : j = k := by omega
                      rw [hq.out] at gp; cases gp
                      rw [hqg.out] at gg; cases gg
                  case measure => simp [intOf]; omega
            · obtain rfl : k = l.length := by omega
              have hR := hid (show ChkOk ⟨x, l⟩ from ⟨⟨n, hn.out, hroot.out⟩, heach.out, by show l.length ≤ 64; omega, by show bytesL l ≤ 16384; omega, fun q hm hg => by
                obtain ⟨j, hj⟩ := List.getElem?_of_mem hm
                exact hall.out j q (List.getElem?_eq_some_iff.1 hj).1 hj hg⟩)
              go_wp2_with fail
              go_ret
              exact ⟨0, rfl, ⟨fun _ => hR.out, fun _ => rfl⟩, hS.out.bel⟩
end
end Go.Proofs.YtcmajcljafmphaaGreat

namespace Go.Proofs.YtcmajcljafmphaaGreat
section
open Go.RowKit
set_option maxRecDepth 100000
set_option linter.unusedVariables false

set_option maxHeartbeats 6400000 in
theorem of14_any (v : Value) (x : Nat) (l : List Nod) (w : World) (hv : NodsAt w v l) (hl : l.length ≤ 1000) :
    Calls Tryz.prog 23 #[.agg #[.int .u64 (x : Int), v]] w (SetPost w x l) := by
  obtain ⟨a, c, rfl, g1, g2⟩ := hv.form
  unfold maxLen at g2
  obtain ⟨W, hW⟩ : ∃ W, W = ((w.alloc (.cells #[.int .u64 (x : Int), .slice a l.length c] 33)).alloc (.cells #[.int .u64 0, .slice none 0 0] 49)).alloc (.cells #[.int .u64 (x : Int), .slice none 0 0] 49) := ⟨_, rfl⟩
  have hb0 : Below w.heap.size w W := by rw [hW]; exact (((Below.refl w.heap.size w).alloc (Nat.le_refl _) _).alloc (by simp) _).alloc (by simp; omega) _
  have hX0 := hid (show W.heap[w.heap.size]? = some (.cells #[.int .u64 (x : Int), .slice a l.length c] 33 (0, 0)) by rw [hW, heap_alloc_old _ _ (by simp; omega), heap_alloc_old _ _ (by simp), heap_alloc_new])
  have hX1 := hid (show W.heap[w.heap.size + 1]? = some (.cells #[.int .u64 0, .slice none 0 0] 49 (0, 0)) by rw [hW, heap_alloc_old _ _ (by simp)]; exact heap2 _ _ _)
  have hXU := hid (show W.heap[w.heap.size + 2]? = some (.cells #[.int .u64 (x : Int), .slice none 0 0] 49 (0, 0)) by
    rw [hW]
    have := heap_alloc_new ((w.alloc (.cells #[.int .u64 (x : Int), .slice a l.length c] 33)).alloc (.cells #[.int .u64 0, .slice none 0 0] 49)) (.cells #[.int .u64 (x : Int), .slice none 0 0] 49)
    simpa using this)
  replace hv := hid hv
  replace hb0 := hid hb0
  go_enter Tryz.func23, Tryz.ntmps23
  go_wp2_with (rw [← hW]; replace hW := hid hW)
  try (rw [← hW]; replace hW := hid hW)
  go_loopw [4] (fun kv wr => ∃ (k m : Nat) (ov : Value) (acc : List Nod), k ≤ l.length ∧ kv = .int .i64 (k : Int) ∧ Hid (acc = l.take k) ∧ Hid (wr.heap[w.heap.size + 2]? = some (.cells #[.int .u64 (x : Int), ov] 49 (0, 0))) ∧ Hid (wr.heap[w.heap.size]? = some (.cells #[.int .u64 (x : Int), .slice a l.length c] 33 (0, 0))) ∧ Hid (wr.heap[w.heap.size + 1]? = some (.cells #[.int .u64 0, .slice none 0 0] 49 (0, 0))) ∧ Hid (wr.ownsRow (w.heap.size + 3) 83 12 ov m (nodsL acc)) ∧ Hid (Below w.heap.size w wr) ∧ Hid (m = acc.length)) (fun kv _ => l.length - (intOf kv).toNat)
  case atStart => exact ⟨0, 0, .slice none 0 0, [], by omega, rfl, hid rfl, hXU, hX0, hX1, hid (World.ownsRow_nil _ _ _ _), hb0, hid rfl⟩
  case round =>
    clear hX0 hX1 hXU hb0
    obtain ⟨k, m, ov, acc, hk, rfl, hacc, hXU, hX0, hX1, hown, hB, hm⟩ := hrel
    obtain ⟨oa, oc, rfl⟩ := own_form hown.out
    have hmk : m ≤ 1000 := by rw [hm.out, hacc.out]; simp; omega
    have e1 := block_cell hX0.out 1
    have e2 := block_cell hXU.out 1
    by_cases hkl : k < l.length
    · obtain ⟨b, o, ha, hr⟩ := (hv.out.below hB.out).range k hkl
      subst ha
      have hst := hid (show l.take (k + 1) = l.take k ++ [l[k]] from List.take_succ_eq_append_getElem hkl)
      generalize l[k] = n at *
      have ha2 := hid (show acc ++ [n] = l.take (k + 1) by rw [hst.out, hacc.out])
      have hoc : Hid (∀ Z, Calls Tryz.prog 43 #[.agg #[.int .u64 (n.path : Int), .int .u32 (n.vers : Int), .int .u32 (n.mode : Int), .int .u32 (n.atm : Int), .int .u32 (n.mtm : Int), .string n.name, .string n.uid, .string n.gid, .string n.muid, .int .u64 (n.up : Int), .bool n.gone, .string n.data]] Z fun e w' => e = .returned (.agg #[.int .u64 (n.path : Int), .int .u32 (n.vers : Int), .int .u32 (n.mode : Int), .int .u32 (n.atm : Int), .int .u32 (n.mtm : Int), .string n.name, .string n.uid, .string n.gid, .string n.muid, .int .u64 (n.up : Int), .bool n.gone, .string n.data]) ∧ Below Z.heap.size Z w') := hid (fun Z => by rw [← nod_cells]; exact ofnode_any n Z)
      replace hr := hid hr
      clear hst hacc
      have k2 : wr.drew.cell? ⟨w.heap.size + 2, 1, none⟩ = some (.slice oa m oc) := e2
      have k3 : wr.drew.cell? ⟨w.heap.size, 1, none⟩ = some (.slice (some ⟨b, o, none⟩) l.length c) := e1
      have s0 : wr.drew.cell? ⟨b, o + k * 12, none⟩ = some (.int .u64 (n.path : Int)) := by have := hr.out 0 (.int .u64 (n.path : Int)) (by rw [nod_cells]; rfl); rwa [Nat.add_zero] at this
      have s1 : wr.drew.cell? ⟨b, o + k * 12 + 1, none⟩ = some (.int .u32 (n.vers : Int)) := hr.out 1 _ (by rw [nod_cells]; rfl)
      have s2 : wr.drew.cell? ⟨b, o + k * 12 + 2, none⟩ = some (.int .u32 (n.mode : Int)) := hr.out 2 _ (by rw [nod_cells]; rfl)
      have s3 : wr.drew.cell? ⟨b, o + k * 12 + 3, none⟩ = some (.int .u32 (n.atm : Int)) := hr.out 3 _ (by rw [nod_cells]; rfl)
      have s4 : wr.drew.cell? ⟨b, o + k * 12 + 4, none⟩ = some (.int .u32 (n.mtm : Int)) := hr.out 4 _ (by rw [nod_cells]; rfl)
      have s5 : wr.drew.cell? ⟨b, o + k * 12 + 5, none⟩ = some (.string n.name) := hr.out 5 _ (by rw [nod_cells]; rfl)
      have s6 : wr.drew.cell? ⟨b, o + k * 12 + 6, none⟩ = some (.string n.uid) := hr.out 6 _ (by rw [nod_cells]; rfl)
      have s7 : wr.drew.cell? ⟨b, o + k * 12 + 7, none⟩ = some (.string n.gid) := hr.out 7 _ (by rw [nod_cells]; rfl)
      have s8 : wr.drew.cell? ⟨b, o + k * 12 + 8, none⟩ = some (.string n.muid) := hr.out 8 _ (by rw [nod_cells]; rfl)
      have s9 : wr.drew.cell? ⟨b, o + k * 12 + 9, none⟩ = some (.int .u64 (n.up : Int)) := hr.out 9 _ (by rw [nod_cells]; rfl)
      have s10 : wr.drew.cell? ⟨b, o + k * 12 + 10, none⟩ = some (.bool n.gone) := hr.out 10 _ (by rw [nod_cells]; rfl)
      have s11 : wr.drew.cell? ⟨b, o + k * 12 + 11, none⟩ = some (.string n.data) := hr.out 11 _ (by rw [nod_cells]; rfl)
      have i1 : (0 : Int) ≤ (k : Int) := by omega
      have i2 : (k : Int) < (l.length : Int) := by omega
      go_wp2_with fail
      have hbw := hid (show b < w.heap.size by
        obtain ⟨b', o', ha', hr'⟩ := hv.out.range k hkl
        cases ha'
        exact World.block_lt_of_cell? _ _ (hr' 0 _ (by rw [nod_cells]; rfl)))
      have hUs := hid (lt_of_block hXU.out)
      go_region_law (first
          | (refine step_append_row elemRN _ rfl (.tmp 16) (.tmp 23) rfl (w.heap.size + 3) (.slice oa m oc) m (nodsL acc) rfl hownA.out _ 1 n.cells.toList rfl hsrc.out (by intro u hu; exact (Array.all_eq_true_iff_forall_mem.1 (nod_one n)) u (by simpa using hu)) (by unfold maxLen; omega) (by omega) (by simp; omega) ?_; intro a' c' w' h2 h3; have hbU := (h3.block (w.heap.size + 2) (by simp; omega) (fun e => by have := (hvl.out _ e.symm).1; omega)).trans hXUA.out; have hb1 := (h3.block (w.heap.size + 1) (by simp; omega) (fun e => by have := (hvl.out _ e.symm).1; omega)).trans hX1A.out; have hb0 := (h3.block w.heap.size (by simp; omega) (fun e => by have := (hvl.out _ e.symm).1; omega)).trans hX0A.out; have y1 : w'.frozen? ⟨w.heap.size + 2, 1, none⟩ = false := block_free hbU 1; have y2 : w'.cell? ⟨w.heap.size + 2, 1, none⟩ = some (.slice oa m oc) := block_cell hbU 1; have nU := hid (block_set hbU 1 (.slice a' (m + 1) c')); have n1 := hid ((block_set_other (p := ⟨w.heap.size + 2, 1, none⟩) (u := .slice a' (m + 1) c') (by show w.heap.size + 1 ≠ w.heap.size + 2; omega)).trans hb1); have n0 := hid ((block_set_other (p := ⟨w.heap.size + 2, 1, none⟩) (u := .slice a' (m + 1) c') (by show w.heap.size ≠ w.heap.size + 2; omega)).trans hb0); have hown2 := hid (ownsRow_setCell_below h2 (a := ⟨w.heap.size + 2, 1, none⟩) (by show w.heap.size + 2 < w.heap.size + 3; omega) (.slice a' (m + 1) c')); have hB2 := hid ((hBA.out.grown h3 (by simp; omega) (fun j hj => by have := (hvl.out j hj).1; omega)).setCell (a := w) (p := ⟨w.heap.size + 2, 1, none⟩) (by show w.heap.size ≤ w.heap.size + 2; omega) (.slice a' (m + 1) c')))
          | (go_simp; go_at_call 43; (with_reducible refine (hoc.out _).mono ?_); rintro e w3 ⟨rfl, hb3⟩; have hD := (Below.refl wr.heap.size wr).drew.trans hb3; have hA := (Below.refl w3.heap.size w3).alloc (Nat.le_refl _) (.cells #[.int .u64 (n.path : Int), .int .u32 (n.vers : Int), .int .u32 (n.mode : Int), .int .u32 (n.atm : Int), .int .u32 (n.mtm : Int), .string n.name, .string n.uid, .string n.gid, .string n.muid, .int .u64 (n.up : Int), .bool n.gone, .string n.data] 83); have hownA := hid (own_keep (own_keep hown.out (fun j hj => hD.block j (hown.out.lt j hj).2)) (fun j hj => hA.block j (Nat.lt_of_lt_of_le (hown.out.lt j hj).2 hD.size))); have hXUA := hid ((hA.block _ (Nat.lt_of_lt_of_le (lt_of_block hXU.out) hD.size)).trans ((hD.block _ (lt_of_block hXU.out)).trans hXU.out)); have hX1A := hid ((hA.block _ (Nat.lt_of_lt_of_le (lt_of_block hX1.out) hD.size)).trans ((hD.block _ (lt_of_block hX1.out)).trans hX1.out)); have hX0A := hid ((hA.block _ (Nat.lt_of_lt_of_le (lt_of_block hX0.out) hD.size)).trans ((hD.block _ (lt_of_block hX0.out)).trans hX0.out)); have k4 : w3.cell? ⟨w.heap.size + 2, 1, none⟩ = some (.slice oa m oc) := block_cell ((hD.block _ (lt_of_block hXU.out)).trans hXU.out) 1; have k5 : (w3.alloc (.cells #[.int .u64 (n.path : Int), .int .u32 (n.vers : Int), .int .u32 (n.mode : Int), .int .u32 (n.atm : Int), .int .u32 (n.mtm : Int), .string n.name, .string n.uid, .string n.gid, .string n.muid, .int .u64 (n.up : Int), .bool n.gone, .string n.data] 83)).cell? ⟨w.heap.size + 2, 1, none⟩ = some (.slice oa m oc) := block_cell hXUA.out 1; have hBA := hid (hB.out.trans ((hD.mono hB.out.size).trans (hA.mono (Nat.le_trans hB.out.size hD.size)))); have hsrc : Hid (RowAt (w3.alloc (.cells #[.int .u64 (n.path : Int), .int .u32 (n.vers : Int), .int .u32 (n.mode : Int), .int .u32 (n.atm : Int), .int .u32 (n.mtm : Int), .string n.name, .string n.uid, .string n.gid, .string n.muid, .int .u64 (n.up : Int), .bool n.gone, .string n.data] 83)) 12 (.slice (some ⟨w3.heap.size, 0, none⟩) 1 1) 1 n.cells.toList) := hid (RowAt.of_block (n := 1) (heap_alloc_new _ _) rfl (by unfold maxLen; omega)); have hlt3 : w.heap.size + 2 < w3.heap.size := Nat.lt_of_lt_of_le (lt_of_block hXU.out) hD.size; have hvl := hid hown.out.lt; replace hD := hid hD; replace hA := hid hA))
      all_goals
        clear k2 s0 s1 s2 s3 s4 s5 s6 s7 s8 s9 s10 s11 k3 e1 e2 i1 i2 y1 y2 h2 h3 hbU hb1 hb0
        go_wp2_with fail
        go_roundw
        case rel => exact ⟨k + 1, m + 1, _, acc ++ [n], by omega, by go_num, ha2, nU, n0, n1, by rw [nodsL_append, show nodsL [n] = n.cells.toList by simp [nodsL]]; exact hown2, hB2, hid (by rw [List.length_append, ← hm.out]; rfl)⟩
        case measure => simp [intOf]; omega
    · obtain rfl : k = l.length := by omega
      have hacc2 : acc = l := by have := hacc.out; rwa [List.take_length] at this
      replace hacc2 := hid hacc2
      have y0 := block_cell hXU.out 0
      have y1 := block_cell hXU.out 1
      have hzz := hid (setRow_heap wr (w.heap.size + 1) #[.int .u64 0, .slice none 0 0] #[.int .u64 (x : Int), .slice oa m oc] _ _ hX1.out)
      have hBz := hid (below_setRow (g := w.heap.size + 1) hB.out (by omega) #[.int .u64 (x : Int), .slice oa m oc])
      have hF := hid (fun j hj => (hown.out.lt j hj).1)
      have hN := hid (NodsAt.other (w' := wr.setRow (w.heap.size + 1) #[.int .u64 (x : Int), .slice oa m oc]) (NodsAt.of_own hown.out) (w.heap.size + 1) (fun e => by have := hF.out _ e; omega) (by simp) (fun k hk => setRow_other _ _ _ _ hk))
      go_wp2_with (refine wpList_store_row (by rfl) 49 (.tmp 2) (.tmp 26) (by rfl) (w.heap.size + 1) #[.int .u64 (x : Int), .slice oa m oc] (by rfl) (by rfl) 49 _ hX1.out (by kernel_rfl) (by kernel_rfl) (by kernel_rfl) ?_)
      refine bodyPost_ret (results_cell_row rfl _ _ (w.heap.size + 1) _ _ _ _ rfl hzz.out Tryz.underlying49 (by rfl) (by kernel_rfl)) rfl ?_
      exact ⟨.slice oa m oc, rfl, by rw [← hacc2.out]; exact hN.out, fun k hk => by have := hF.out k hk; omega, hBz.out⟩
end
end Go.Proofs.YtcmajcljafmphaaGreat

namespace Go.Proofs.YtcmajcljafmphaaGreat
section
open Go.RowKit
set_option maxRecDepth 100000
set_option linter.unusedVariables false
def fewN (n : Nod) : Bool := decide (n.name.size ≤ 100) && decide (n.uid.size ≤ 100) && decide (n.gid.size ≤ 100) && decide (n.muid.size ≤ 100) && decide (n.data.size ≤ 5000)
def fewL (l : List Nod) : Bool := decide (l.length ≤ 70) && l.all fewN
set_option maxHeartbeats 6400000 in
theorem few14t_any (v : Value) (x : Nat) (l : List Nod) (w : World) (hv : NodsAt w v l) :
    Calls Tryz.prog 14 #[.agg #[.int .u64 (x : Int), v]] w fun e w' => e = .returned (.bool (fewL l)) ∧ Below w.heap.size w w' := by
  obtain ⟨a, c, rfl, g1, g2⟩ := hv.form
  unfold maxLen at g2
  obtain ⟨W, hW⟩ : ∃ W, W = w.alloc (.cells #[.int .u64 (x : Int), .slice a l.length c] 33) := ⟨_, rfl⟩
  have hb0 : Below w.heap.size w W := by rw [hW]; exact (Below.refl w.heap.size w).alloc (Nat.le_refl _) _
  have hX0 := hid (show W.heap[w.heap.size]? = some (.cells #[.int .u64 (x : Int), .slice a l.length c] 33 (0, 0)) by rw [hW, heap_alloc_new])
  obtain ⟨r, hr⟩ : ∃ r, r = fewL l := ⟨_, rfl⟩
  rw [← hr]
  replace hv := hid hv
  have e1 := block_cell hX0.out 1
  go_enter Tryz.func14, Tryz.ntmps14
  by_cases hlen : l.length ≤ 70
  case neg =>
    have hR2 := hid (show r = false by rw [hr]; unfold fewL; rw [decide_eq_false hlen]; rfl)
    have hz : (70 : Int) < (l.length : Int) := by omega
    replace hb0 := hid hb0
    replace hr := hid hr
    go_wp2_with (rw [← hW]; replace hW := hid hW)
    go_ret
    exact ⟨by rw [hR2.out]; rfl, hb0.out⟩
  have hz : ¬ (70 : Int) < (l.length : Int) := by omega
  have hR0 := hid (show r = (l.drop 0).all fewN by rw [hr]; unfold fewL; rw [decide_eq_true hlen]; rfl)
  replace hb0 := hid hb0
  replace hr := hid hr
  go_wp2_with (rw [← hW]; replace hW := hid hW)
  clear e1
  go_loopg [3] l.length (fun g1 kv wr => ∃ k : Nat, kv = .int .i64 (k : Int) ∧ k ≤ l.length ∧ l.length - k ≤ g1 ∧ Hid (Below w.heap.size w wr) ∧ Hid (wr.heap[w.heap.size]? = some (.cells #[.int .u64 (x : Int), .slice a l.length c] 33 (0, 0))) ∧ Hid (r = (l.drop k).all fewN))
  case atStart => exact ⟨0, by first | rfl | go_num, by omega, by omega, hb0, hX0, hR0⟩
  case round =>
    clear hb0 hX0 hR0
    obtain ⟨k, rfl, hk, hg, hB, hX, hR⟩ := hrel
    have e1 := block_cell hX.out 1
    by_cases hkl : k < l.length
    · have hkz : (k : Int) < (l.length : Int) := by omega
      obtain ⟨b, o, ha, hrg⟩ := (hv.out.below hB.out).range k hkl
      subst ha
      have hR1 := hR.out
      rw [List.drop_eq_getElem_cons hkl, List.all_cons] at hR1
      generalize l[k] = n at *
      have hnew := hid (heap_alloc_new wr (.cells zeroNod.cells 68))
      obtain ⟨W3, hW3⟩ : ∃ W, W = boxN wr n := ⟨_, rfl⟩
      have hb3 : Below wr.heap.size wr W3 := by rw [hW3]; exact boxN_below _ _
      have hn3 : W3.heap[wr.heap.size]? = some (.cells n.cells 68 (0, 0)) := by rw [hW3]; exact boxN_heap _ _
      have hB3 := hid (sn hB.out hb3)
      have hX3 := hid ((hb3.block _ (lt_of_block hX.out)).trans hX.out)
      have q5 : W3.cell? ⟨wr.heap.size, 5, none⟩ = some (.string n.name) := block_cell hn3 5
      have q6 : W3.cell? ⟨wr.heap.size, 6, none⟩ = some (.string n.uid) := block_cell hn3 6
      have q7 : W3.cell? ⟨wr.heap.size, 7, none⟩ = some (.string n.gid) := block_cell hn3 7
      have q8 : W3.cell? ⟨wr.heap.size, 8, none⟩ = some (.string n.muid) := block_cell hn3 8
      have q11 : W3.cell? ⟨wr.heap.size, 11, none⟩ = some (.string n.data) := block_cell hn3 11
      unfold boxN at hW3
      rw [zeroNod_cells] at hW3 hnew
      replace hrg := hid hrg
      clear hb3 hn3 hB hX hR
      go_upto_region 7 with (first
        | (refine wpList_load_cells (by rfl) 68 (.tmp 19) (by rfl) b (o + k * 12) (by rfl) n.cells _ hrg.out Tryz.underlying68 (by rfl) (by kernel_rfl) ?_)
        | (refine wpList_store_row (by rfl) 68 (.tmp 4) (.tmp 20) (by rfl) wr.heap.size n.cells (by rfl) (by rfl) 68 _ hnew.out (by kernel_rfl) (by kernel_rfl) (nod_one n) ?_)
        | (rw [← hW3]; replace hW3 := hid hW3))
      try (rw [← hW3]; replace hW3 := hid hW3)
      clear hnew e1
      generalize wr.heap.size = z at *
      have hfn : fewN n = (decide (n.name.size ≤ 100) && decide (n.uid.size ≤ 100) && decide (n.gid.size ≤ 100) && decide (n.muid.size ≤ 100) && decide (n.data.size ≤ 5000)) := rfl
      by_cases h1 : n.name.size ≤ 100
      case neg =>
        have hR2 := hid (show r = false by rw [hR1, hfn, decide_eq_false h1]; rfl)
        have z1 : (100 : Int) < (n.name.size : Int) := by omega
        clear hR1 hfn h1
        go_wp2_with fail
        go_ret
        exact ⟨by rw [hR2.out]; rfl, hB3.out⟩
      have z1 : ¬ (100 : Int) < (n.name.size : Int) := by omega
      by_cases h2 : n.uid.size ≤ 100
      case neg =>
        have hR2 := hid (show r = false by rw [hR1, hfn, decide_eq_false h2]; simp)
        have z2 : (100 : Int) < (n.uid.size : Int) := by omega
        clear hR1 hfn h1 h2
        go_wp2_with fail
        go_ret
        exact ⟨by rw [hR2.out]; rfl, hB3.out⟩
      have z2 : ¬ (100 : Int) < (n.uid.size : Int) := by omega
      by_cases h3 : n.gid.size ≤ 100
      case neg =>
        have hR2 := hid (show r = false by rw [hR1, hfn, decide_eq_false h3]; simp)
        have z3 : (100 : Int) < (n.gid.size : Int) := by omega
        clear hR1 hfn h1 h2 h3
        go_wp2_with fail
        go_ret
        exact ⟨by rw [hR2.out]; rfl, hB3.out⟩
      have z3 : ¬ (100 : Int) < (n.gid.size : Int) := by omega
      by_cases h4 : n.muid.size ≤ 100
      case neg =>
        have hR2 := hid (show r = false by rw [hR1, hfn, decide_eq_false h4]; simp)
        have z4 : (100 : Int) < (n.muid.size : Int) := by omega
        clear hR1 hfn h1 h2 h3 h4
        go_wp2_with fail
        go_ret
        exact ⟨by rw [hR2.out]; rfl, hB3.out⟩
      have z4 : ¬ (100 : Int) < (n.muid.size : Int) := by omega
      by_cases h5 : n.data.size ≤ 5000
      case neg =>
        have hR2 := hid (show r = false by rw [hR1, hfn, decide_eq_false h5]; simp)
        have z5 : (5000 : Int) < (n.data.size : Int) := by omega
        clear hR1 hfn h1 h2 h3 h4 h5
        go_wp2_with fail
        go_ret
        exact ⟨by rw [hR2.out]; rfl, hB3.out⟩
      have z5 : ¬ (5000 : Int) < (n.data.size : Int) := by omega
      have hR2 := hid (show r = (l.drop (k + 1)).all fewN by rw [hR1, hfn, decide_eq_true h1, decide_eq_true h2, decide_eq_true h3, decide_eq_true h4, decide_eq_true h5]; rfl)
      clear hR1 hfn h1 h2 h3 h4 h5
      go_wp2_with fail
      go_roundg (l.length - (k + 1))
      case measure => omega
      case rel => exact ⟨k + 1, by first | rfl | go_num, by omega, by omega, hB3, hX3, hR2⟩
    · have hkz : ¬ (k : Int) < (l.length : Int) := by omega
      have hR2 := hid (show r = true by rw [hR.out, List.drop_of_length_le (by omega)]; rfl)
      go_wp2_with fail
      go_ret
      exact ⟨by rw [hR2.out]; rfl, hB.out⟩
end
end Go.Proofs.YtcmajcljafmphaaGreat

namespace Go.Proofs.YtcmajcljafmphaaGreat
section
open Go.RowKit
set_option maxRecDepth 100000
set_option linter.unusedVariables false

theorem fewL_len {l : List Nod} (h : fewL l = true) : l.length ≤ 70 := by unfold fewL at h; simp at h; exact h.1
theorem fewL_data {l : List Nod} (h : fewL l = true) : ∀ n ∈ l, n.data.size ≤ 1000000 := fun n hn => by
  unfold fewL fewN at h
  simp at h
  have := h.2 n hn
  omega
def MayPost (w : World) (x : Nat) (l : List Nod) (e : Ending) (w' : World) : Prop := ∃ b : Bool, e = .returned (.bool b) ∧ (b = true → OkC ⟨x, l⟩ ∧ fewL l = true) ∧ Below w.heap.size w w'
set_option maxHeartbeats 3200000 in
theorem may14_any (v : Value) (x : Nat) (l : List Nod) (w : World) (hv : NodsAt w v l) (hok : ∀ n ∈ l, NodOk n) :
    Calls Tryz.prog 13 #[.agg #[.int .u64 (x : Int), v]] w (MayPost w x l) := by
  obtain ⟨a, c, rfl, g1, g2⟩ := hv.form
  unfold maxLen at g2
  obtain ⟨W, hW⟩ : ∃ W, W = w.alloc (.cells #[.int .u64 (x : Int), .slice a l.length c] 33) := ⟨_, rfl⟩
  have hb0 : Below w.heap.size w W := by rw [hW]; exact (Below.refl w.heap.size w).alloc (Nat.le_refl _) _
  have hX0 : W.heap[w.heap.size]? = some (.cells #[.int .u64 (x : Int), .slice a l.length c] 33 (0, 0)) := by rw [hW, heap_alloc_new]
  have hvW := hv.below hb0
  have hfew := hid (few14t_any _ x l W hvW)
  have e0 := block_cell hX0 0
  have e1 := block_cell hX0 1
  rcases hf : fewL l with _ | _
  · rw [hf] at hfew
    replace hf := hid hf
    replace hb0 := hid hb0
    clear hX0
    go_enter Tryz.func13, Tryz.ntmps13
    go_wp2_with (rw [← hW]; replace hW := hid hW)
    refine hfew.out.mono ?_
    rintro e w2 ⟨rfl, hb2⟩
    have hB2 := hid (sn hb0.out hb2)
    go_wp2_with fail
    go_ret
    exact ⟨false, rfl, (fun h => by cases h), hB2.out⟩
  · rw [hf] at hfew
    have hlen := fewL_len hf
    have hdat := fewL_data hf
    replace hf := hid hf
    replace hb0 := hid hb0
    replace hX0 := hid hX0
    replace hvW := hid hvW
    replace hdat := hid hdat
    replace hok := hid hok
    go_enter Tryz.func13, Tryz.ntmps13
    go_wp2_with (rw [← hW]; replace hW := hid hW)
    refine hfew.out.mono ?_
    rintro e w2 ⟨rfl, hb2⟩
    have hB2 := hid (sn hb0.out hb2)
    have hX2 := (hb2.block _ (lt_of_block hX0.out)).trans hX0.out
    have hof := hid (of14_any _ x l w2 (hvW.out.below hb2) (by omega))
    clear e0 e1 hb2 hfew
    have e0 := block_cell hX2 0
    have e1 := block_cell hX2 1
    replace hX2 := hid hX2
    go_wp2_with fail
    refine hof.out.mono ?_
    rintro e w3 ⟨v3, rfl, hv3, _, hb3⟩
    have hB3 := hid (sn hB2.out hb3)
    have hck := hid (rcheck_any v3 x l w3 hv3 (by omega) hok.out hdat.out)
    obtain ⟨a3, c3, rfl, _, _⟩ := hv3.form
    clear e0 e1 hb3 hof hv3
    go_wp2_with fail
    refine hck.out.mono ?_
    rintro e w4 ⟨E, rfl, hE, hb4⟩
    have hB4 := hid (sn hB3.out hb4)
    obtain ⟨bE, hbE⟩ : ∃ bE, bE = (E == 0) := ⟨_, rfl⟩
    have hR := hid (show bE = true → OkC ⟨x, l⟩ from fun h => chk_ok.1 (hE.1 (by rw [hbE] at h; simpa using h)))
    have q1 : (E == 0) = bE := hbE.symm
    replace hbE := hid hbE
    replace hE := hid hE
    clear hb4 hck
    cases bE
    all_goals
      go_wp2_with fail
      go_ret
      exact ⟨_, rfl, (fun h => ⟨(by first | exact hR.out h | exact hR.out trivial | cases h), hf.out⟩), hB4.out⟩
end
end Go.Proofs.YtcmajcljafmphaaGreat

namespace Go.Proofs.YtcmajcljafmphaaGreat
section
open Go.RowKit
set_option maxRecDepth 100000
set_option linter.unusedVariables false

theorem nmust_ok (b : Nat) (l : List UInt8) (w : World) (h : InIs w b l 0) :
    Calls Tryz.prog 106 #[.agg #[.pointer (some ⟨b, 0, none⟩)]] w fun e w' => e = .returned (.tuple #[]) ∧ Below w.heap.size w w' := by
  obtain ⟨W, hW⟩ : ∃ W, W = w.alloc (.cells #[.pointer (some ⟨b, 0, none⟩)] 111) := ⟨_, rfl⟩
  have hb0 : Below w.heap.size w W := by rw [hW]; exact (Below.refl _ _).alloc (Nat.le_refl _) _
  have hx : W.heap[w.heap.size]? = some (.cells #[.pointer (some ⟨b, 0, none⟩)] 111 (0, 0)) := by rw [hW, heap_alloc_new]
  have e0 := block_cell hx 0
  have her := hid (in_err_any b l 0 W (h.below hb0))
  have k0 : (((0 : Nat) : Int) != 0) = false := rfl
  replace hb0 := hid hb0
  clear hx h
  go_enter Tryz.func106, Tryz.ntmps106
  go_wp2_with (rw [← hW]; replace hW := hid hW)
  refine her.out.mono ?_
  rintro e w2 ⟨rfl, hw2⟩
  subst hw2
  go_wp2_with fail
  go_end0
  exact ⟨rfl, hb0.out⟩
theorem nmust_bad (b : Nat) (l : List UInt8) (er : Nat) (w : World) (h : InIs w b l er) (he : er ≠ 0) :
    Calls Tryz.prog 106 #[.agg #[.pointer (some ⟨b, 0, none⟩)]] w fun e w' => e = .panicked (errChain 2) ∧ Below w.heap.size w w' := by
  obtain ⟨W, hW⟩ : ∃ W, W = w.alloc (.cells #[.pointer (some ⟨b, 0, none⟩)] 111) := ⟨_, rfl⟩
  have hb0 : Below w.heap.size w W := by rw [hW]; exact (Below.refl _ _).alloc (Nat.le_refl _) _
  have hx : W.heap[w.heap.size]? = some (.cells #[.pointer (some ⟨b, 0, none⟩)] 111 (0, 0)) := by rw [hW, heap_alloc_new]
  have e0 := block_cell hx 0
  have her := hid (in_err_any b l er W (h.below hb0))
  have k0 : ((er : Int) != 0) = true := by simpa using he
  replace hb0 := hid hb0
  clear hx h he
  go_enter Tryz.func106, Tryz.ntmps106
  go_wp2_with (rw [← hW]; replace hW := hid hW)
  refine her.out.mono ?_
  rintro e w2 ⟨rfl, hw2⟩
  subst hw2
  go_wp2_with fail
  exact ⟨rfl, rfl, hb0.out⟩
theorem nnumber_ok (b n : Nat) (l : List UInt8) (w : World) (hn1 : 1 ≤ n) (hn8 : n ≤ 8) (hl : l.length ≤ 1000000008) (h : InIs w b l 0) (hn : n ≤ l.length) :
    Calls Tryz.prog 88 #[.agg #[.pointer (some ⟨b, 0, none⟩)], .int .i64 (n : Int)] w fun e w' => e = .returned (.int .u64 (leN (l.take n) : Int)) ∧ InIs w' b (l.drop n) 0 ∧ OStep b w w' := by
  obtain ⟨W, hW⟩ : ∃ W, W = w.alloc (.cells #[.pointer (some ⟨b, 0, none⟩)] 111) := ⟨_, rfl⟩
  have hb0 : Below w.heap.size w W := by rw [hW]; exact (Below.refl _ _).alloc (Nat.le_refl _) _
  have hx : W.heap[w.heap.size]? = some (.cells #[.pointer (some ⟨b, 0, none⟩)] 111 (0, 0)) := by rw [hW, heap_alloc_new]
  have hnf : ¬ Foot W b w.heap.size := by rw [hW]; exact h.new _
  have e0 := block_cell hx 0
  have htk := hid (in_take_step b n l 0 W hn1 hn8 hl (h.below hb0))
  have hs0 := hid (OStep.pure (h.foot_lt (.inl rfl)) hb0)
  have g1 : takeV n l 0 = leN (l.take n) := by unfold takeV; rw [if_neg (by omega), if_neg (by omega)]
  have g2 : restL n l 0 = l.drop n := by unfold restL; rw [if_neg (by omega), if_neg (by omega)]
  have g3 : restE n l 0 = 0 := by unfold restE; rw [if_neg (by omega), if_neg (by omega)]
  rw [g1, g2, g3] at htk
  replace hb0 := hid hb0
  replace hx := hid hx
  replace hnf := hid hnf
  clear h g1 g2 g3
  go_enter Tryz.func88, Tryz.ntmps88
  go_wp2_with (rw [← hW]; replace hW := hid hW)
  refine htk.out.mono ?_
  rintro e w2 ⟨rfl, h2, hs2⟩
  have hx2 := hid ((hs2.block _ (lt_of_block hx.out) hnf.out).1.trans hx.out)
  have hst := hid (hs0.out.trans hs2)
  have hmu := hid (nmust_ok b (l.drop n) w2 h2)
  have h2' := hid h2
  clear htk hs2 e0 h2
  have e0 := block_cell hx2.out 0
  go_wp2_with fail
  refine hmu.out.mono ?_
  rintro e w3 ⟨rfl, hb3⟩
  have h3 := hid (h2'.out.below hb3)
  have hst3 := hid (hst.out.trans (OStep.pure (h2'.out.foot_lt (.inl rfl)) hb3))
  clear hmu hb3
  go_wp2_with fail
  go_ret
  exact ⟨rfl, h3.out, hst3.out⟩
theorem nnumber_bad (b n : Nat) (l : List UInt8) (w : World) (hn1 : 1 ≤ n) (hn8 : n ≤ 8) (hl : l.length ≤ 1000000008) (h : InIs w b l 0) (hn : l.length < n) :
    Calls Tryz.prog 88 #[.agg #[.pointer (some ⟨b, 0, none⟩)], .int .i64 (n : Int)] w fun e w' => e = .panicked (errChain 2) ∧ OStep b w w' := by
  obtain ⟨W, hW⟩ : ∃ W, W = w.alloc (.cells #[.pointer (some ⟨b, 0, none⟩)] 111) := ⟨_, rfl⟩
  have hb0 : Below w.heap.size w W := by rw [hW]; exact (Below.refl _ _).alloc (Nat.le_refl _) _
  have hx : W.heap[w.heap.size]? = some (.cells #[.pointer (some ⟨b, 0, none⟩)] 111 (0, 0)) := by rw [hW, heap_alloc_new]
  have hnf : ¬ Foot W b w.heap.size := by rw [hW]; exact h.new _
  have e0 := block_cell hx 0
  have htk := hid (in_take_step b n l 0 W hn1 hn8 hl (h.below hb0))
  have hs0 := hid (OStep.pure (h.foot_lt (.inl rfl)) hb0)
  have g3 : restE n l 0 = 4 := by unfold restE; rw [if_neg (by omega), if_pos hn]
  rw [g3] at htk
  replace hb0 := hid hb0
  replace hx := hid hx
  replace hnf := hid hnf
  clear h g3
  go_enter Tryz.func88, Tryz.ntmps88
  go_wp2_with (rw [← hW]; replace hW := hid hW)
  refine htk.out.mono ?_
  rintro e w2 ⟨rfl, h2, hs2⟩
  have hx2 := hid ((hs2.block _ (lt_of_block hx.out) hnf.out).1.trans hx.out)
  have hst := hid (hs0.out.trans hs2)
  have hmu := hid (nmust_bad b _ 4 w2 h2 (by omega))
  have h2' := hid h2
  clear htk hs2 e0 h2
  have e0 := block_cell hx2.out 0
  go_wp2_with fail
  refine hmu.out.mono ?_
  rintro e w3 ⟨rfl, hb3⟩
  have hst3 := hid (hst.out.trans (OStep.pure (h2'.out.foot_lt (.inl rfl)) hb3))
  exact ⟨rfl, rfl, hst3.out⟩
end
end Go.Proofs.YtcmajcljafmphaaGreat
