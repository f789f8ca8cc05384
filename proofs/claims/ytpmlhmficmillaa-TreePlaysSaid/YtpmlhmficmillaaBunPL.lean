/- Law TreePlays returns true. Conditions: the arguments as they come in.
Law TreePlays and what comes in to it. No condition. -/
import Derived.Test.YtpmlhmficmillaaPly1Z
import Derived.Test.YtpmlhmficmillaaBunRD
import Derived.Test.YtpmlhmficmillaaBunTG
import Derived.Test.YtpmlhmficmillaaBunTI
namespace Go.Proofs.Ytpmlhmficmillaa
section
open Go.RowKit
set_option maxRecDepth 100000
set_option linter.unusedVariables false

def stopE (x : Nat) (z : ActV) : Bool := ((((decide (z.op = 1)) && (((!(bitsB z.mode)) || (!(asciiB z.who))) || (!(asciiB z.gid)))) || (!(asciiB z.who))) || (decide (1152921504606846976 < x)))
theorem stopE_not {x : Nat} {z : ActV} (h : stopE x z = false) : (z.op = 1 → bitsB z.mode = true ∧ asciiB z.gid = true) ∧ asciiB z.who = true ∧ x ≤ 1152921504606846976 := by
  unfold stopE at h
  simp only [Bool.or_eq_false_iff, Bool.and_eq_false_iff, decide_eq_false_iff_not, Bool.not_eq_false', Nat.not_lt] at h
  obtain ⟨⟨h1, h2⟩, h3⟩ := h
  refine ⟨fun e => ?_, h2, h3⟩
  rcases h1 with h1 | h1
  · exact absurd e h1
  · exact ⟨h1.1.1, h1.2⟩
theorem fewAs_of {l : List ActV} (h : fewAs l = true) : ∀ z ∈ l, fewA z = true := by
  unfold fewAs at h
  simp only [Bool.and_eq_true, List.all_eq_true] at h
  exact h.2
def LawTrue (w : World) (e : Ending) (w' : World) : Prop := e = .returned (.bool true) ∧ Below w.heap.size w w'
set_option maxHeartbeats 6400000 in
theorem law_TreePlays (v va : Value) (x : Nat) (l : List Nod) (al : List ActV) (w : World) (hv : NodsAt w v l) (hok : ∀ n ∈ l, NodOk n) (hva : ActsAt w va al) (hao : ∀ z ∈ al, ActOk z) :
    Calls Try.prog 3 #[.agg #[.int .u64 (x : Int), v], va] w (LawTrue w) := by
  obtain ⟨a, c, rfl, g1, g2⟩ := hv.form
  unfold maxLen at g2
  obtain ⟨aA, cA, rfl, g3, g4⟩ := hva.form
  unfold maxLen at g4
  have mixed : Try.prog.follows Departure.mixedOrders = true := by first | kernel_rfl | decide
  obtain ⟨W, hW⟩ : ∃ W, W = w.alloc (.cells #[.int .u64 (x : Int), .slice a l.length c] 25) := ⟨_, rfl⟩
  have hb0 : Below w.heap.size w W := by rw [hW]; exact (Below.refl w.heap.size w).alloc (Nat.le_refl _) _
  have hX0 := hid (show W.heap[w.heap.size]? = some (.cells #[.int .u64 (x : Int), .slice a l.length c] 25 (0, 0)) by rw [hW, heap_alloc_new])
  have hvW := hid (hv.below hb0)
  have haW := hid (hva.below hb0)
  have hkn := hid (known17_any W)
  replace hb0 := hid hb0
  replace hok := hid hok
  replace hao := hid hao
  go_enter Try.func3, Try.ntmps3
  go_wp2_with (rw [← hW]; replace hW := hid hW)
  try (rw [← hW]; replace hW := hid hW)
  refine hkn.out.mono ?_
  rintro e w2 ⟨rfl, hb2⟩
  have hB2 := hid (sn hb0.out hb2)
  have hX2 := (hb2.block _ (lt_of_block hX0.out)).trans hX0.out
  have hv2 := hid (hvW.out.below hb2)
  have ha2 := hid (haW.out.below hb2)
  have hmay := hid (may14_any _ x l w2 hv2.out hok.out)
  have e0 := block_cell hX2 0
  have e1 := block_cell hX2 1
  replace hX2 := hid hX2
  clear hb2 hkn hX0 hvW haW hb0
  go_wp2_with fail
  refine hmay.out.mono ?_
  rintro e w3 ⟨bM, rfl, hM, hb3⟩
  have hB3 := hid (sn hB2.out hb3)
  have hX3 := (hb3.block _ (lt_of_block hX2.out)).trans hX2.out
  have hv3 := hid (hv2.out.below hb3)
  have ha3 := hid (ha2.out.below hb3)
  clear e0 e1 hb3 hmay hX2 hv2 ha2 hB2
  have e0 := block_cell hX3 0
  have e1 := block_cell hX3 1
  replace hX3 := hid hX3
  cases bM with
  | false =>
    go_wp2_with fail
    go_ret
    exact ⟨rfl, hB3.out⟩
  | true =>
    obtain ⟨hOk, hFew⟩ := hM rfl
    have hlen := fewL_len hFew
    have hfw := hid (few17_any _ al w3 ha3.out)
    replace hOk := hid hOk
    clear hM hFew
    go_wp2_with fail
    refine hfw.out.mono ?_
    rintro e w4 ⟨rfl, hw4⟩
    subst hw4
    clear hfw
    rcases hfa : fewAs al with _ | _
    · go_wp2_with fail
      go_ret
      exact ⟨rfl, hB3.out⟩
    have hof := hid (of14_any _ x l w4 hv3.out (by omega))
    replace hfa := hid hfa
    go_wp2_with fail
    refine hof.out.mono ?_
    rintro e w5 ⟨u5, rfl, hu5, _, hb5⟩
    obtain ⟨a5, c5, rfl, _, _⟩ := hu5.form
    obtain ⟨k5, hk5⟩ : ∃ k, k = w5.heap.size := ⟨_, rfl⟩
    obtain ⟨V5, hV5⟩ : ∃ V, V = w5.alloc (.cells #[.int .u64 (x : Int), .slice a5 l.length c5] 32) := ⟨_, rfl⟩
    have hbV : Below w5.heap.size w5 V5 := by rw [hV5]; exact (Below.refl _ _).alloc (Nat.le_refl _) _
    have hbx := sn hb5 hbV
    have hS := hid (show PlS w.heap.size w.heap.size k5 (.slice aA al.length cA) x l (.slice a l.length c) (.slice a5 l.length c5) al w V5 from
      ⟨sn hB3.out hbx, (hbx.block _ (lt_of_block hX3.out)).trans hX3.out, by rw [hV5, hk5]; exact heap_alloc_new _ _, hv3.out.below hbx, hu5.below hbV, ha3.out.below hbx, (sn hB3.out hbx).size⟩)
    have hk5w : w.heap.size < k5 := by rw [hk5]; have := lt_of_block hX3.out; have := hb5.size; omega
    have hok1 := hid (show OkC ⟨x, l⟩ ∧ Nods l from ⟨hOk.out, hok.out⟩)
    replace hk5 := hid hk5
    clear hbV hbx hb5 hu5 hof hv3 ha3 hX3 hB3 e0 e1 hOk hok hlen
    go_wp2_with (rw [← hV5]; replace hV5 := hid hV5)
    rw [← hk5.out]
    go_loopw [6] (fun kv wr => ∃ (i x : Nat) (l : List Nod) (tv uv : Value), i ≤ al.length ∧ kv = .int .i64 (i : Int) ∧ Hid (PlS w.heap.size w.heap.size k5 (.slice aA al.length cA) x l tv uv al w wr) ∧ Hid (OkC ⟨x, l⟩ ∧ Nods l)) (fun kv _ => al.length - (intOf kv).toNat)
    case atStart => exact ⟨0, x, l, _, _, by omega, rfl, hS, hok1⟩
    case round =>
      clear hS hok1 hV5
      obtain ⟨i, x, l, tv, uv, hi, rfl, hS, hok⟩ := hrel
      by_cases hil : i < al.length
      · obtain ⟨bA, oA, hA, _⟩ := hS.out.ac.range i hil
        subst hA
        obtain ⟨z, hz⟩ : ∃ z, al[i]? = some z := ⟨al[i], List.getElem?_eq_getElem _⟩
        have hz2 := hid (hao.out z (List.mem_of_getElem? hz))
        have hzf := hid (fewAs_of hfa.out z (List.mem_of_getElem? hz))
        have q1 : (i : Int) < (al.length : Int) := by omega
        replace hz := hid hz
        obtain ⟨bE, hbE⟩ : ∃ bE, bE = stopE x z := ⟨_, rfl⟩
        replace hbE := hid hbE
        go_upto_region 9 with fail
        go_cut [74] (fun s wx => s = .bool bE ∧ Hid ((PlS w.heap.size w.heap.size k5 (.slice (some ⟨bA, oA, none⟩) al.length cA) x l tv uv al w) wx))
        case first => as_aux_lemma =>
          rename_i J K' hJ hK
          refine wp_region_list ?_
          refine (show wpList Try.prog ops_rp9 _ l_rp9 _ _ → _ from fun h => h) ?_
          refine rp9_all (z := z) (w0 := w) (B := w.heap.size) (g2 := w.heap.size) (tv := tv) (uv := uv) (l := l) (cA := cA) (by omega) hil hz.out hz2.out (FrL.of_all (by rfl) rfl ⟨rfl, rfl, rfl, rfl, rfl, rfl, rfl, rfl, rfl, rfl, rfl, rfl, rfl, rfl, rfl, rfl, rfl, rfl, rfl, rfl, rfl, rfl, rfl, rfl, rfl, trivial⟩) hS.out (fun a w' hF hS => ?_)
          have hE := hbE.out
          unfold stopE at hE
          rw [← hE] at hF
          exact hK _ _ (Met.intro (hJ _ _ ⟨a.tmps.getD 22 undef, a.tmps.getD 23 undef, a.tmps.getD 24 undef, a.tmps.getD 25 undef, a.tmps.getD 26 undef, a.tmps.getD 27 undef, a.tmps.getD 28 undef, a.tmps.getD 29 undef, a.tmps.getD 30 undef, a.tmps.getD 31 undef, a.tmps.getD 32 undef, a.tmps.getD 33 undef, a.tmps.getD 34 undef, a.tmps.getD 35 undef, a.tmps.getD 36 undef, a.tmps.getD 37 undef, a.tmps.getD 38 undef, a.tmps.getD 39 undef, a.tmps.getD 40 undef, a.tmps.getD 41 undef, a.tmps.getD 42 undef, a.tmps.getD 43 undef, a.tmps.getD 44 undef, a.tmps.getD 45 undef, a.tmps.getD 46 undef, a.tmps.getD 47 undef, a.tmps.getD 48 undef, a.tmps.getD 49 undef, a.tmps.getD 50 undef, a.tmps.getD 51 undef, a.tmps.getD 52 undef, a.tmps.getD 53 undef, a.tmps.getD 54 undef, a.tmps.getD 55 undef, a.tmps.getD 56 undef, a.tmps.getD 57 undef, a.tmps.getD 58 undef, a.tmps.getD 59 undef, a.tmps.getD 60 undef, a.tmps.getD 61 undef, a.tmps.getD 62 undef, a.tmps.getD 63 undef, a.tmps.getD 64 undef, a.tmps.getD 65 undef, a.tmps.getD 66 undef, a.tmps.getD 67 undef, a.tmps.getD 68 undef, a.tmps.getD 69 undef, a.tmps.getD 70 undef, a.tmps.getD 71 undef, a.tmps.getD 72 undef, a.tmps.getD 73 undef, .bool bE, a.tmps.getD 75 undef, a.tmps.getD 76 undef, a.tmps.getD 77 undef, a.tmps.getD 78 undef, a.tmps.getD 79 undef, a.tmps.getD 80 undef, a.tmps.getD 81 undef, a.tmps.getD 82 undef, a.tmps.getD 83 undef, a.tmps.getD 84 undef, a.tmps.getD 85 undef, a.tmps.getD 86 undef, a.tmps.getD 87 undef, a.tmps.getD 88 undef, a.tmps.getD 89 undef, a.tmps.getD 90 undef, a.tmps.getD 91 undef, a.tmps.getD 92 undef, a.tmps.getD 93 undef, a.tmps.getD 94 undef, a.tmps.getD 95 undef, a.tmps.getD 96 undef, a.tmps.getD 97 undef, a.tmps.getD 98 undef, a.tmps.getD 99 undef, a.tmps.getD 100 undef, a.tmps.getD 101 undef, a.tmps.getD 102 undef, a.tmps.getD 103 undef, ⟨rfl, hid hS⟩, frame_eq hF _ (by rfl) ⟨hF.get 0 _ rfl, hF.get 1 _ rfl, hF.get 2 _ rfl, hF.get 3 _ rfl, hF.get 4 _ rfl, hF.get 5 _ rfl, hF.get 6 _ rfl, hF.get 7 _ rfl, hF.get 8 _ rfl, hF.get 9 _ rfl, hF.get 10 _ rfl, hF.get 11 _ rfl, hF.get 12 _ rfl, hF.get 13 _ rfl, hF.get 14 _ rfl, hF.get 15 _ rfl, hF.get 16 _ rfl, hF.get 17 _ rfl, hF.get 18 _ rfl, hF.get 19 _ rfl, hF.get 20 _ rfl, hF.get 21 _ rfl, hF.any 22 (by decide), hF.any 23 (by decide), hF.any 24 (by decide), hF.any 25 (by decide), hF.any 26 (by decide), hF.any 27 (by decide), hF.any 28 (by decide), hF.any 29 (by decide), hF.any 30 (by decide), hF.any 31 (by decide), hF.any 32 (by decide), hF.any 33 (by decide), hF.any 34 (by decide), hF.any 35 (by decide), hF.any 36 (by decide), hF.any 37 (by decide), hF.any 38 (by decide), hF.any 39 (by decide), hF.any 40 (by decide), hF.any 41 (by decide), hF.any 42 (by decide), hF.any 43 (by decide), hF.any 44 (by decide), hF.any 45 (by decide), hF.any 46 (by decide), hF.any 47 (by decide), hF.any 48 (by decide), hF.any 49 (by decide), hF.any 50 (by decide), hF.any 51 (by decide), hF.any 52 (by decide), hF.any 53 (by decide), hF.any 54 (by decide), hF.any 55 (by decide), hF.any 56 (by decide), hF.any 57 (by decide), hF.any 58 (by decide), hF.any 59 (by decide), hF.any 60 (by decide), hF.any 61 (by decide), hF.any 62 (by decide), hF.any 63 (by decide), hF.any 64 (by decide), hF.any 65 (by decide), hF.any 66 (by decide), hF.any 67 (by decide), hF.any 68 (by decide), hF.any 69 (by decide), hF.any 70 (by decide), hF.any 71 (by decide), hF.any 72 (by decide), hF.any 73 (by decide), hF.get 74 _ rfl, hF.any 75 (by decide), hF.any 76 (by decide), hF.any 77 (by decide), hF.any 78 (by decide), hF.any 79 (by decide), hF.any 80 (by decide), hF.any 81 (by decide), hF.any 82 (by decide), hF.any 83 (by decide), hF.any 84 (by decide), hF.any 85 (by decide), hF.any 86 (by decide), hF.any 87 (by decide), hF.any 88 (by decide), hF.any 89 (by decide), hF.any 90 (by decide), hF.any 91 (by decide), hF.any 92 (by decide), hF.any 93 (by decide), hF.any 94 (by decide), hF.any 95 (by decide), hF.any 96 (by decide), hF.any 97 (by decide), hF.any 98 (by decide), hF.any 99 (by decide), hF.any 100 (by decide), hF.any 101 (by decide), hF.any 102 (by decide), hF.any 103 (by decide), hF.get 104 _ rfl, hF.get 105 _ rfl, hF.get 106 _ rfl, trivial⟩⟩))
        case rest =>
          clear hS
          obtain ⟨rfl, hS⟩ := hcut
          cases bE with
          | true =>
            go_wp2_with fail
            go_ret
            exact ⟨rfl, hS.out.bel⟩
          | false =>
            obtain ⟨c1, c2, c3⟩ := stopE_not hbE.out.symm
            have hgood : Good ⟨x, l⟩ := ⟨hok.out.1, hok.out.2, by show x < _; omega⟩
            have hTg := hid (actT_good hgood z hz2.out hzf.out c2 c1 c3)
            have hTne := hid (actT_ne hgood.ok z)
            have hl1 : l.length ≤ 1000 := by have := hgood.ok.few; simp only at this; omega
            have hl2 : (actT ⟨x, l⟩ z).n.length ≤ 1000 := by have := hTg.out.ok.few; omega
            have hstep := hid (fun w h1 h2 => step_any tv uv x l z w h1 h2 hgood hz2.out hzf.out c3)
            clear hbE c1 c2 c3 hgood
            obtain ⟨wd, hwd⟩ : ∃ wd, wd = wc := ⟨_, rfl⟩
            rw [← hwd] at hS ⊢
            clear hwd
            go_wp2_with fail
            go_cut [7, 8, 9] (fun s7 s8 s9 wx => ∃ kA kB v' u', s7 = ptr kA 0 ∧ s8 = ptr kB 0 ∧ s9 = .bool true ∧ Hid (Below wd.drew.heap.size wd.drew wx ∧ wx.heap[kA]? = some (.cells #[.int .u64 ((actT ⟨x, l⟩ z).next : Int), v'] 25 (0, 0)) ∧ wx.heap[kB]? = some (.cells #[.int .u64 ((actT ⟨x, l⟩ z).next : Int), u'] 32 (0, 0)) ∧ NodsAt wx v' (actT ⟨x, l⟩ z).n ∧ NodsAt wx u' (actT ⟨x, l⟩ z).n ∧ wd.drew.heap.size ≤ kA ∧ wd.drew.heap.size ≤ kB ∧ kA ≠ kB))
            case first => as_aux_lemma =>
              rename_i J K' hJ hK
              refine wp_region_noPanic ?_
              refine wp_region_held (S := (Below wd.drew.heap.size wd.drew)) mixed ?_
              refine (show wpAnyH Try.prog .any ops_rp11 _ _ _ _ _ _ → _ from fun h => h) ?_
              refine rp11_all (w0 := w) (w1 := wd.drew) (B := w.heap.size) (g2 := w.heap.size) (T := actT ⟨x, l⟩ z) (z := z) (by omega) hil hz.out hS.out.drew hTne.out hstep.out (fun _ _ _ _ _ h => h) (FrL.of_all (by rfl) rfl ⟨rfl, rfl, rfl, rfl, rfl, rfl, rfl, rfl, rfl, rfl, rfl, rfl, rfl, rfl, rfl, rfl, rfl, rfl, rfl, rfl, rfl, rfl, trivial⟩) (Below.refl _ _) (fun a w' kA kB v' u' hF hS2 f1 f2 n1 n2 q1 q2 q3 => ?_)
              exact hK _ _ (Met.intro (hJ _ _ ⟨ptr kA 0, ptr kB 0, .bool true, a.tmps.getD 22 undef, a.tmps.getD 23 undef, a.tmps.getD 24 undef, a.tmps.getD 25 undef, a.tmps.getD 26 undef, a.tmps.getD 27 undef, a.tmps.getD 28 undef, a.tmps.getD 29 undef, a.tmps.getD 30 undef, a.tmps.getD 31 undef, a.tmps.getD 32 undef, a.tmps.getD 33 undef, a.tmps.getD 34 undef, a.tmps.getD 35 undef, a.tmps.getD 36 undef, a.tmps.getD 37 undef, a.tmps.getD 38 undef, a.tmps.getD 39 undef, a.tmps.getD 40 undef, a.tmps.getD 41 undef, a.tmps.getD 42 undef, a.tmps.getD 43 undef, a.tmps.getD 44 undef, a.tmps.getD 45 undef, a.tmps.getD 46 undef, a.tmps.getD 47 undef, a.tmps.getD 48 undef, a.tmps.getD 49 undef, a.tmps.getD 50 undef, a.tmps.getD 51 undef, a.tmps.getD 52 undef, a.tmps.getD 53 undef, a.tmps.getD 54 undef, a.tmps.getD 55 undef, a.tmps.getD 56 undef, a.tmps.getD 57 undef, a.tmps.getD 58 undef, a.tmps.getD 59 undef, a.tmps.getD 60 undef, a.tmps.getD 61 undef, a.tmps.getD 62 undef, a.tmps.getD 63 undef, a.tmps.getD 64 undef, a.tmps.getD 65 undef, a.tmps.getD 66 undef, a.tmps.getD 67 undef, a.tmps.getD 68 undef, a.tmps.getD 69 undef, a.tmps.getD 70 undef, a.tmps.getD 71 undef, a.tmps.getD 72 undef, a.tmps.getD 73 undef, a.tmps.getD 74 undef, a.tmps.getD 75 undef, a.tmps.getD 76 undef, a.tmps.getD 77 undef, a.tmps.getD 78 undef, a.tmps.getD 79 undef, a.tmps.getD 80 undef, a.tmps.getD 81 undef, a.tmps.getD 82 undef, a.tmps.getD 83 undef, a.tmps.getD 84 undef, a.tmps.getD 85 undef, a.tmps.getD 86 undef, a.tmps.getD 87 undef, a.tmps.getD 88 undef, a.tmps.getD 89 undef, a.tmps.getD 90 undef, a.tmps.getD 91 undef, a.tmps.getD 92 undef, a.tmps.getD 93 undef, a.tmps.getD 94 undef, a.tmps.getD 95 undef, a.tmps.getD 96 undef, a.tmps.getD 97 undef, a.tmps.getD 98 undef, a.tmps.getD 99 undef, a.tmps.getD 100 undef, a.tmps.getD 101 undef, a.tmps.getD 102 undef, a.tmps.getD 103 undef, ⟨kA, kB, v', u', rfl, rfl, rfl, hid ⟨hS2, f1, f2, n1, n2, q1, q2, q3⟩⟩, frame_eq hF _ (by rfl) ⟨hF.get 0 _ rfl, hF.get 1 _ rfl, hF.get 2 _ rfl, hF.get 3 _ rfl, hF.get 4 _ rfl, hF.get 5 _ rfl, hF.get 6 _ rfl, hF.get 7 _ rfl, hF.get 8 _ rfl, hF.get 9 _ rfl, hF.get 10 _ rfl, hF.get 11 _ rfl, hF.get 12 _ rfl, hF.get 13 _ rfl, hF.get 14 _ rfl, hF.get 15 _ rfl, hF.get 16 _ rfl, hF.get 17 _ rfl, hF.get 18 _ rfl, hF.get 19 _ rfl, hF.get 20 _ rfl, hF.get 21 _ rfl, hF.any 22 (by decide), hF.any 23 (by decide), hF.any 24 (by decide), hF.any 25 (by decide), hF.any 26 (by decide), hF.any 27 (by decide), hF.any 28 (by decide), hF.any 29 (by decide), hF.any 30 (by decide), hF.any 31 (by decide), hF.any 32 (by decide), hF.any 33 (by decide), hF.any 34 (by decide), hF.any 35 (by decide), hF.any 36 (by decide), hF.any 37 (by decide), hF.any 38 (by decide), hF.any 39 (by decide), hF.any 40 (by decide), hF.any 41 (by decide), hF.any 42 (by decide), hF.any 43 (by decide), hF.any 44 (by decide), hF.any 45 (by decide), hF.any 46 (by decide), hF.any 47 (by decide), hF.any 48 (by decide), hF.any 49 (by decide), hF.any 50 (by decide), hF.any 51 (by decide), hF.any 52 (by decide), hF.any 53 (by decide), hF.any 54 (by decide), hF.any 55 (by decide), hF.any 56 (by decide), hF.any 57 (by decide), hF.any 58 (by decide), hF.any 59 (by decide), hF.any 60 (by decide), hF.any 61 (by decide), hF.any 62 (by decide), hF.any 63 (by decide), hF.any 64 (by decide), hF.any 65 (by decide), hF.any 66 (by decide), hF.any 67 (by decide), hF.any 68 (by decide), hF.any 69 (by decide), hF.any 70 (by decide), hF.any 71 (by decide), hF.any 72 (by decide), hF.any 73 (by decide), hF.any 74 (by decide), hF.any 75 (by decide), hF.any 76 (by decide), hF.any 77 (by decide), hF.any 78 (by decide), hF.any 79 (by decide), hF.any 80 (by decide), hF.any 81 (by decide), hF.any 82 (by decide), hF.any 83 (by decide), hF.any 84 (by decide), hF.any 85 (by decide), hF.any 86 (by decide), hF.any 87 (by decide), hF.any 88 (by decide), hF.any 89 (by decide), hF.any 90 (by decide), hF.any 91 (by decide), hF.any 92 (by decide), hF.any 93 (by decide), hF.any 94 (by decide), hF.any 95 (by decide), hF.any 96 (by decide), hF.any 97 (by decide), hF.any 98 (by decide), hF.any 99 (by decide), hF.any 100 (by decide), hF.any 101 (by decide), hF.any 102 (by decide), hF.any 103 (by decide), hF.get 104 _ rfl, hF.get 105 _ rfl, hF.get 106 _ rfl, trivial⟩⟩))
            case rest =>
              obtain ⟨kA, kB, v', u', rfl, rfl, rfl, hC⟩ := hcut
              obtain ⟨hbC, fA, fB, nA, nB, qA, qB, qne⟩ := hC.out
              have l2 := lt_of_block hS.out.tb
              have l5 := lt_of_block hS.out.ub
              replace hS := hid (hS.out.drew.next hbC)
              clear hC hstep
              obtain ⟨we, hwe⟩ : ∃ wd, wd = wc := ⟨_, rfl⟩
              rw [← hwe] at hS fA fB nA nB hbC ⊢
              clear hwe
              have hwk : w.heap.size < kA ∧ w.heap.size < kB ∧ k5 < kA ∧ k5 < kB := by
                have : wd.drew.heap.size = wd.heap.size := rfl
                omega
              replace qA := hid qA
              replace qB := hid qB
              replace hbC := hid hbC
              go_upto_region 12 with fail
              go_cut [101] (fun s wx => s = .bool false ∧ Hid (Below we.drew.heap.size we.drew wx))
              case first => as_aux_lemma =>
                rename_i J K' hJ hK
                refine wp_region_noPanic ?_
                refine wp_region_held (S := (Below we.drew.heap.size we.drew)) mixed ?_
                refine (show wpAnyH Try.prog .any ops_rp12 _ _ _ _ _ _ → _ from fun h => h) ?_
                refine rp12_all (w0 := w) (w1 := we.drew) (B := w.heap.size) (g2 := w.heap.size) (g5 := k5) (kA := kA) (kB := kB) (T := actT ⟨x, l⟩ z) hl1 hl2 hS.out.drew fA fB nA nB (fun _ _ _ _ _ h => h) (FrL.of_all (by rfl) rfl ⟨rfl, rfl, rfl, rfl, rfl, rfl, rfl, rfl, rfl, rfl, rfl, rfl, rfl, rfl, rfl, rfl, rfl, rfl, rfl, rfl, rfl, rfl, rfl, rfl, rfl, trivial⟩) (Below.refl _ _) (fun a w' hF hS2 => ?_)
                exact hK _ _ (Met.intro (hJ _ _ ⟨a.tmps.getD 22 undef, a.tmps.getD 23 undef, a.tmps.getD 24 undef, a.tmps.getD 25 undef, a.tmps.getD 26 undef, a.tmps.getD 27 undef, a.tmps.getD 28 undef, a.tmps.getD 29 undef, a.tmps.getD 30 undef, a.tmps.getD 31 undef, a.tmps.getD 32 undef, a.tmps.getD 33 undef, a.tmps.getD 34 undef, a.tmps.getD 35 undef, a.tmps.getD 36 undef, a.tmps.getD 37 undef, a.tmps.getD 38 undef, a.tmps.getD 39 undef, a.tmps.getD 40 undef, a.tmps.getD 41 undef, a.tmps.getD 42 undef, a.tmps.getD 43 undef, a.tmps.getD 44 undef, a.tmps.getD 45 undef, a.tmps.getD 46 undef, a.tmps.getD 47 undef, a.tmps.getD 48 undef, a.tmps.getD 49 undef, a.tmps.getD 50 undef, a.tmps.getD 51 undef, a.tmps.getD 52 undef, a.tmps.getD 53 undef, a.tmps.getD 54 undef, a.tmps.getD 55 undef, a.tmps.getD 56 undef, a.tmps.getD 57 undef, a.tmps.getD 58 undef, a.tmps.getD 59 undef, a.tmps.getD 60 undef, a.tmps.getD 61 undef, a.tmps.getD 62 undef, a.tmps.getD 63 undef, a.tmps.getD 64 undef, a.tmps.getD 65 undef, a.tmps.getD 66 undef, a.tmps.getD 67 undef, a.tmps.getD 68 undef, a.tmps.getD 69 undef, a.tmps.getD 70 undef, a.tmps.getD 71 undef, a.tmps.getD 72 undef, a.tmps.getD 73 undef, a.tmps.getD 74 undef, a.tmps.getD 75 undef, a.tmps.getD 76 undef, a.tmps.getD 77 undef, a.tmps.getD 78 undef, a.tmps.getD 79 undef, a.tmps.getD 80 undef, a.tmps.getD 81 undef, a.tmps.getD 82 undef, a.tmps.getD 83 undef, a.tmps.getD 84 undef, a.tmps.getD 85 undef, a.tmps.getD 86 undef, a.tmps.getD 87 undef, a.tmps.getD 88 undef, a.tmps.getD 89 undef, a.tmps.getD 90 undef, a.tmps.getD 91 undef, a.tmps.getD 92 undef, a.tmps.getD 93 undef, a.tmps.getD 94 undef, a.tmps.getD 95 undef, a.tmps.getD 96 undef, a.tmps.getD 97 undef, a.tmps.getD 98 undef, a.tmps.getD 99 undef, a.tmps.getD 100 undef, .bool false, a.tmps.getD 102 undef, a.tmps.getD 103 undef, ⟨rfl, hid hS2⟩, frame_eq hF _ (by rfl) ⟨hF.get 0 _ rfl, hF.get 1 _ rfl, hF.get 2 _ rfl, hF.get 3 _ rfl, hF.get 4 _ rfl, hF.get 5 _ rfl, hF.get 6 _ rfl, hF.get 7 _ rfl, hF.get 8 _ rfl, hF.get 9 _ rfl, hF.get 10 _ rfl, hF.get 11 _ rfl, hF.get 12 _ rfl, hF.get 13 _ rfl, hF.get 14 _ rfl, hF.get 15 _ rfl, hF.get 16 _ rfl, hF.get 17 _ rfl, hF.get 18 _ rfl, hF.get 19 _ rfl, hF.get 20 _ rfl, hF.get 21 _ rfl, hF.any 22 (by decide), hF.any 23 (by decide), hF.any 24 (by decide), hF.any 25 (by decide), hF.any 26 (by decide), hF.any 27 (by decide), hF.any 28 (by decide), hF.any 29 (by decide), hF.any 30 (by decide), hF.any 31 (by decide), hF.any 32 (by decide), hF.any 33 (by decide), hF.any 34 (by decide), hF.any 35 (by decide), hF.any 36 (by decide), hF.any 37 (by decide), hF.any 38 (by decide), hF.any 39 (by decide), hF.any 40 (by decide), hF.any 41 (by decide), hF.any 42 (by decide), hF.any 43 (by decide), hF.any 44 (by decide), hF.any 45 (by decide), hF.any 46 (by decide), hF.any 47 (by decide), hF.any 48 (by decide), hF.any 49 (by decide), hF.any 50 (by decide), hF.any 51 (by decide), hF.any 52 (by decide), hF.any 53 (by decide), hF.any 54 (by decide), hF.any 55 (by decide), hF.any 56 (by decide), hF.any 57 (by decide), hF.any 58 (by decide), hF.any 59 (by decide), hF.any 60 (by decide), hF.any 61 (by decide), hF.any 62 (by decide), hF.any 63 (by decide), hF.any 64 (by decide), hF.any 65 (by decide), hF.any 66 (by decide), hF.any 67 (by decide), hF.any 68 (by decide), hF.any 69 (by decide), hF.any 70 (by decide), hF.any 71 (by decide), hF.any 72 (by decide), hF.any 73 (by decide), hF.any 74 (by decide), hF.any 75 (by decide), hF.any 76 (by decide), hF.any 77 (by decide), hF.any 78 (by decide), hF.any 79 (by decide), hF.any 80 (by decide), hF.any 81 (by decide), hF.any 82 (by decide), hF.any 83 (by decide), hF.any 84 (by decide), hF.any 85 (by decide), hF.any 86 (by decide), hF.any 87 (by decide), hF.any 88 (by decide), hF.any 89 (by decide), hF.any 90 (by decide), hF.any 91 (by decide), hF.any 92 (by decide), hF.any 93 (by decide), hF.any 94 (by decide), hF.any 95 (by decide), hF.any 96 (by decide), hF.any 97 (by decide), hF.any 98 (by decide), hF.any 99 (by decide), hF.any 100 (by decide), hF.get 101 _ rfl, hF.any 102 (by decide), hF.any 103 (by decide), hF.get 104 _ rfl, hF.get 105 _ rfl, hF.get 106 _ rfl, trivial⟩⟩))
              case rest =>
                obtain ⟨rfl, hb⟩ := hcut
                have hS2 := hS.out.drew.next hb.out
                have fA2 : wc.heap[kA]? = some (.cells #[.int .u64 ((actT ⟨x, l⟩ z).next : Int), v'] 25 (0, 0)) := (hb.out.block _ (show kA < we.drew.heap.size from lt_of_block fA)).trans fA
                have fB2 : wc.heap[kB]? = some (.cells #[.int .u64 ((actT ⟨x, l⟩ z).next : Int), u'] 32 (0, 0)) := (hb.out.block _ (show kB < we.drew.heap.size from lt_of_block fB)).trans fB
                have nA2 := (show NodsAt we.drew v' (actT ⟨x, l⟩ z).n from nA).below hb.out
                have nB2 := (show NodsAt we.drew u' (actT ⟨x, l⟩ z).n from nB).below hb.out
                clear hb hS fA fB nA nB
                obtain ⟨T, hT⟩ : ∃ T, T = actT ⟨x, l⟩ z := ⟨_, rfl⟩
                rw [← hT] at fA2 fB2 nA2 nB2 hTg hTne
                obtain ⟨a1, d1, rfl, _, _⟩ := nA2.form
                obtain ⟨a2, d2, rfl, _, _⟩ := nB2.form
                obtain ⟨wf, hwf⟩ : ∃ wf, wf = wc.setRow w.heap.size #[.int .u64 (T.next : Int), .slice a1 T.n.length d1] := ⟨_, rfl⟩
                obtain ⟨wg, hwg⟩ : ∃ wg, wg = wf.setRow k5 #[.int .u64 (T.next : Int), .slice a2 T.n.length d2] := ⟨_, rfl⟩
                have s1 : ∀ k, k ≠ w.heap.size → wf.heap[k]? = wc.heap[k]? := fun k hk => by rw [hwf]; exact setRow_other _ _ _ _ hk
                have s2 : ∀ k, k ≠ k5 → wg.heap[k]? = wf.heap[k]? := fun k hk => by rw [hwg]; exact setRow_other _ _ _ _ hk
                have z1 : wc.heap.size ≤ wf.heap.size := by rw [hwf]; simp
                have z2 : wf.heap.size ≤ wg.heap.size := by rw [hwg]; simp
                have o1 := own_not nA2 hTne.out hS2.tb (by show 2 < 12; omega)
                have o2 := own_not nA2 hTne.out hS2.ub (by show 2 < 12; omega)
                have o3 := own_not nB2 hTne.out hS2.tb (by show 2 < 12; omega)
                have o4 := own_not nB2 hTne.out hS2.ub (by show 2 < 12; omega)
                have tbf : wf.heap[w.heap.size]? = some (.cells #[.int .u64 (T.next : Int), .slice a1 T.n.length d1] 25 (0, 0)) := by rw [hwf]; exact setRow_heap _ _ _ _ _ _ hS2.tb
                have ubf : wf.heap[k5]? = some (.cells #[.int .u64 (x : Int), uv] 32 (0, 0)) := (s1 _ (by omega)).trans hS2.ub
                have fBf := hid ((s1 kB (by omega)).trans fB2)
                have belg : Below w.heap.size w wg := by rw [hwg, hwf]; exact below_setRow (below_setRow hS2.bel (Nat.le_refl _) _) (by omega) _
                have hSn := hid (show PlS w.heap.size w.heap.size k5 (.slice (some ⟨bA, oA, none⟩) al.length cA) T.next T.n (.slice a1 T.n.length d1) (.slice a2 T.n.length d2) al w wg from
                  ⟨belg, (s2 _ (by omega)).trans tbf, by rw [hwg]; exact setRow_heap _ _ _ _ _ _ ubf, ((nA2.other w.heap.size o1 z1 s1).other k5 o2 z2 s2), ((nB2.other w.heap.size o3 z1 s1).other k5 o4 z2 s2), hva.below belg, belg.size⟩)
                have tb2 := hid hS2.tb
                have hokn := hid (show OkC T ∧ Nods T.n from ⟨hTg.out.ok, hTg.out.nod⟩)
                replace fA2 := hid fA2
                replace ubf := hid ubf
                clear s1 s2 z1 z2 o1 o2 o3 o4 tbf fB2 nA2 nB2 belg hS2 hT l2 l5 hwk
                go_wp2_with (first
                  | (rw [← hwf]; replace hwf := hid hwf)
                  | (rw [← hwg]; replace hwg := hid hwg)
                  | (refine wpList_load_row (by rfl) 25 (.tmp 7) (by rfl) kA (by rfl) 25 #[.int .u64 (T.next : Int), .slice a1 T.n.length d1] (0, 0) _ fA2.out Try.underlying25 (by rfl) (by kernel_rfl) ?_)
                  | (refine wpList_store_row (by rfl) 25 (.tmp 2) (.tmp 102) (by rfl) w.heap.size #[.int .u64 (T.next : Int), .slice a1 T.n.length d1] (by rfl) (by rfl) 25 _ tb2.out (by kernel_rfl) (by kernel_rfl) (by kernel_rfl) ?_)
                  | (refine wpList_load_row (by rfl) 32 (.tmp 8) (by rfl) kB (by rfl) 32 #[.int .u64 (T.next : Int), .slice a2 T.n.length d2] (0, 0) _ fBf.out Try.underlying32 (by rfl) (by kernel_rfl) ?_)
                  | (refine wpList_store_row (by rfl) 32 (.tmp 5) (.tmp 103) (by rfl) k5 #[.int .u64 (T.next : Int), .slice a2 T.n.length d2] (by rfl) (by rfl) 32 _ ubf.out (by kernel_rfl) (by kernel_rfl) (by kernel_rfl) ?_))
                go_roundw
                case rel => exact ⟨i + 1, T.next, T.n, _, _, by omega, by go_num, hSn, hokn⟩
                case measure => simp [intOf]; omega
      · obtain rfl : i = al.length := by omega
        have hfew := hok.out.1.few
        simp only at hfew
        have hck := hid (rcheck_any uv x l wr hS.out.ur (by omega) hok.out.2 (fun n hn => by have := hok.out.1.len n hn; omega))
        have e0 := block_cell hS.out.ub 0
        have e1 := block_cell hS.out.ub 1
        obtain ⟨au, cu, hu0, _, _⟩ := hS.out.ur.form
        subst hu0
        go_wp2_with fail
        refine hck.out.mono ?_
        rintro e w6 ⟨E, rfl, hE, hb6⟩
        obtain rfl : E = 0 := hE.2 (chk_ok.2 hok.out.1)
        have hB6 := hid ((hS.out.next hb6).bel)
        clear hE hb6 hck
        go_wp2_with fail
        go_ret
        exact ⟨rfl, hB6.out⟩
end
end Go.Proofs.Ytpmlhmficmillaa

namespace Go.Proofs.Ytpmlhmficmillaa
section
end
end Go.Proofs.Ytpmlhmficmillaa
