/- symMergeCmpFunc, two stretches of more than one node: parted at their middle, turned, merged by parts. Conditions: two sorted stretches; the function does so for shorter ones.
The stable sort of a row of nodes by name: symMergeCmpFunc whole, stableCmpFunc, SortStableFunc. Conditions: the nodes stand in path order, at most a thousand.
Kids of a directory: the kids, by name. Conditions: a sorted list of at most a thousand nodes. -/
import Derived.Test.YtkefjeabckainaaGreatFaB18
import Derived.Test.YtkefjeabckainaaGreatFaB19
namespace Go.Proofs.YtkefjeabckainaaGreat
section
open Go.RowKit
set_option maxRecDepth 100000
set_option linter.unusedVariables false
attribute [local go_sem ↓] load12_eq

set_option maxHeartbeats 25600000 in
theorem sym3b_any (base g c a m b N : Nat) (P U V S xs : List Nod) (w : World) (HH : Hv xs a m b P U V S) (hN : xs.length = N) (hl : N ≤ 1000) (hw : w.ownsRow base 89 12 (.slice (some ⟨g, 0, none⟩) N c) N (nodsL xs)) (BA : Nat) (hBA : b - a ≤ BA) (hm : a + 1 < m) (hb : m + 1 < b) (hmid : m ≤ (a + b) / 2)
    (ih : ∀ (a m b2 : Nat) (P U V S xs : List Nod) (w : World), Hv xs a m b2 P U V S → a < m → m < b2 → b2 - a < BA → xs.length = N → w.ownsRow base 89 12 (.slice (some ⟨g, 0, none⟩) N c) N (nodsL xs) → Calls Tryz.prog 187 #[.slice (some ⟨g, 0, none⟩) N c, .int .i64 (a : Int), .int .i64 (m : Int), .int .i64 (b2 : Int), (.func (.func 101) #[] #[])] w fun e w' => e = .returned (.tuple #[]) ∧ ∃ ys, ys.length = N ∧ w'.ownsRow base 89 12 (.slice (some ⟨g, 0, none⟩) N c) N (nodsL ys) ∧ Below base w w' ∧ Mrg P U V S ys)  :
    Calls Tryz.prog 187 #[.slice (some ⟨g, 0, none⟩) N c, .int .i64 (a : Int), .int .i64 (m : Int), .int .i64 (b : Int), (.func (.func 101) #[] #[])] w fun e w' => e = .returned (.tuple #[]) ∧ ∃ ys, ys.length = N ∧ w'.ownsRow base 89 12 (.slice (some ⟨g, 0, none⟩) N c) N (nodsL ys) ∧ Below base w w' ∧ Mrg P U V S ys := by
  have IH := hid ih
  clear ih
  obtain ⟨mid, hmd⟩ : ∃ mid, mid = (a + b) / 2 := ⟨_, rfl⟩
  have em0 : ((a : Int) + (b : Int)) / 2 = (mid : Int) := by omega
  rw [← hmd] at hmid
  have hm1 : a < mid := by omega
  have hm2 : mid < b := by omega
  have hm3 : 2 * mid ≤ a + b := by omega
  have hm4 : a + b ≤ 2 * mid + 1 := by omega
  replace hmd := hid hmd
  have HV := hid hw
  have HB := hid (Below.refl base w)
  have hbd := HH.bounds
  replace HH := hid HH
  have mixed : Tryz.prog.follows Departure.mixedOrders = true := by first | kernel_rfl | decide
  clear hw
  obtain ⟨d, hd⟩ : ∃ d, d = m - a := ⟨_, rfl⟩
  have k0 : IntKind.i64.wrap ((m : Int) - (a : Int)) = (d : Int) := by rw [IntWalk.i64_in _ (by omega)]; omega
  have k1 : ¬ (d : Int) = 1 := by omega
  have k1' : ((d : Int) == 1) = false := by simp; omega
  obtain ⟨d2, hd2⟩ : ∃ d, d = b - m := ⟨_, rfl⟩
  have k2 : IntKind.i64.wrap ((b : Int) - (m : Int)) = (d2 : Int) := by rw [IntWalk.i64_in _ (by omega)]; omega
  have k3 : ¬ (d2 : Int) = 1 := by omega
  have k3' : ((d2 : Int) == 1) = false := by simp; omega
  obtain ⟨nn, hnn⟩ : ∃ n, n = mid + m := ⟨_, rfl⟩
  have k4 : IntKind.i64.wrap ((mid : Int) + (m : Int)) = (nn : Int) := by rw [IntWalk.i64_in _ (by omega)]; omega
  obtain ⟨pq, hpq⟩ : ∃ n, n = mid + m - 1 := ⟨_, rfl⟩
  have k5 : IntKind.i64.wrap ((nn : Int) - 1) = (pq : Int) := by rw [IntWalk.i64_in _ (by omega)]; omega
  have hmz : ¬ (mid : Int) < (m : Int) := by omega
  have MO := hid (p3_mono (q := pq) (lo := a) (hi := m) HH.out (by omega) (by omega) (by omega) (by omega))
  
  replace hd := hid hd
  replace hd2 := hid hd2
  have HPQ := hpq
  replace hpq := hid hpq
  have HNN := hnn
  replace hnn := hid hnn
  have hpq1 : pq + 1 ≤ nn := by omega
  have hpq2 : nn ≤ pq + 1 := by omega
  have hnn1 : nn ≤ mid + m := by omega
  have hnn2 : mid + m ≤ nn := by omega
  clear HPQ HNN
  go_enter Tryz.func187, Tryz.ntmps187
  go_wp2
  go_loopg [20, 21] (m - a) (fun g1 vi vj wr => ∃ (i j : Nat), vi = .int .i64 (i : Int) ∧ vj = .int .i64 (j : Int) ∧ a ≤ i ∧ i ≤ j ∧ j ≤ m ∧ j - i ≤ g1 ∧ Hid (wr.ownsRow base 89 12 (.slice (some ⟨g, 0, none⟩) N c) N (nodsL xs)) ∧ Hid (Below base w wr) ∧ Hid (BS (p3 xs pq) a m i j))
  case atStart => exact ⟨a, m, by first | rfl | go_num, by first | rfl | go_num, Nat.le_refl _, by omega, Nat.le_refl _, by omega, HV, HB, hid (BS.start (by omega))⟩
  case round =>
    clear HV HB
    obtain ⟨i, j, rfl, rfl, hli, hij0, hjh, hg1, HV, HB, BSH⟩ := hrel
    by_cases hij : i < j
    · have hijz : (i : Int) < (j : Int) := by omega
      obtain ⟨h, hh⟩ : ∃ h, h = (i + j) / 2 := ⟨_, rfl⟩
      have em : ((i : Int) + (j : Int)) / 2 = (h : Int) := by omega
      have hhi : i ≤ h := by omega
      have hhj : h < j := by omega
      replace hh := hid hh
      obtain ⟨q, hq⟩ : ∃ q, q = pq - h := ⟨_, rfl⟩
      have kq : IntKind.i64.wrap ((pq : Int) - (h : Int)) = (q : Int) := by rw [IntWalk.i64_in _ (by omega)]; omega
      have hqN : q < N := by omega
      have hcr := hid (HH.out.cross (i := h) (j := q) (by omega) (by omega) (by omega) (by omega))
      have hp3 := hid (show p3 xs pq h = !leNP (nth xs h) (nth xs q) by unfold p3; rw [hq])
      replace hq := hid hq
      have hIl : q < xs.length := by omega
      have hJl : h < xs.length := by omega
      have zI : (q : Int) < (N : Int) := by omega
      have zJ : (h : Int) < (N : Int) := by omega
      obtain ⟨x, hx⟩ : ∃ x, x = xs[q] := ⟨_, rfl⟩
      obtain ⟨y, hy⟩ : ∃ y, y = xs[h] := ⟨_, rfl⟩
      have lx : ∀ Z, Z.ownsRow base 89 12 (.slice (some ⟨g, 0, none⟩) N c) N (nodsL xs) → Sem.run Tryz.prog (load12 ⟨g, q * 12, none⟩) Z = .ok x.cells Z := fun Z hZ => by rw [hx]; exact own_load hZ hIl
      have ly : ∀ Z, Z.ownsRow base 89 12 (.slice (some ⟨g, 0, none⟩) N c) N (nodsL xs) → Sem.run Tryz.prog (load12 ⟨g, h * 12, none⟩) Z = .ok y.cells Z := fun Z hZ => by rw [hy]; exact own_load hZ hJl
      obtain ⟨r, hr⟩ : ∃ r, r = ordS x.name y.name := ⟨_, rfl⟩
      have hcmp := hid (fun Z => kids1_any x y Z)
      rw [← hr] at hcmp
      have hrn := ordS_neg x.name y.name
      rw [← hr, hx, hy, nth_get hIl, nth_get hJl] at hrn
      replace lx := hid lx
      replace ly := hid ly
      replace hr := hid hr
      replace hx := hid hx
      replace hy := hid hy
      have HD : Hid (wr.drew.ownsRow base 89 12 (.slice (some ⟨g, 0, none⟩) N c) N (nodsL xs)) := HV
      have BD := hid (HB.out.trans (Below.refl base wr).drew)
      have qx := lx.out _ HD.out
      have qy := ly.out _ HD.out
      by_cases hlv : r < 0
      · rw [decide_eq_true hlv] at hrn
        replace hrn := hid hrn
        go_wp2_with fail
        go_region_held3 (fun W => Sem.run Tryz.prog (load12 ⟨g, q * 12, none⟩) W = .ok x.cells W ∧ Sem.run Tryz.prog (load12 ⟨g, h * 12, none⟩) W = .ok y.cells W)
          (first | exact ⟨lx.out _ HD.out, ly.out _ HD.out⟩ | exact ⟨qx, qy⟩ | go_keep)
          ((go_at_call 101; (with_reducible refine (hcmp.out _).mono ?_); rintro e w3 ⟨rfl, hb3⟩; replace BD := hid (BD.out.trans (hb3.mono (own_base HD.out))); replace HD := hid (own_below HD.out hb3)))
        go_wp2
        go_roundg (h - i)
        case measure => omega
        case rel => exact ⟨i, h, by first | rfl | go_num, by first | rfl | go_num, by omega, by omega, by omega, Nat.le_refl _, HD, BD, hid (BSH.out.down MO.out hhi hhj (by rw [hp3.out, hcr.out]; simpa using hrn.out))⟩
      · rw [decide_eq_false hlv] at hrn
        replace hrn := hid hrn
        go_wp2_with fail
        go_region_held3 (fun W => Sem.run Tryz.prog (load12 ⟨g, q * 12, none⟩) W = .ok x.cells W ∧ Sem.run Tryz.prog (load12 ⟨g, h * 12, none⟩) W = .ok y.cells W)
          (first | exact ⟨lx.out _ HD.out, ly.out _ HD.out⟩ | exact ⟨qx, qy⟩ | go_keep)
          ((go_at_call 101; (with_reducible refine (hcmp.out _).mono ?_); rintro e w3 ⟨rfl, hb3⟩; replace BD := hid (BD.out.trans (hb3.mono (own_base HD.out))); replace HD := hid (own_below HD.out hb3)))
        go_wp2
        rotate_left
        · exfalso; rename_i hq; simp at hq; omega
        go_roundg (j - (h + 1))
        case measure => omega
        case rel => exact ⟨h + 1, j, by first | rfl | go_num, by first | rfl | go_num, by omega, by omega, by omega, Nat.le_refl _, HD, BD, hid (BSH.out.up MO.out hhi hhj (by rw [hp3.out, hcr.out]; simpa using hrn.out))⟩
    · have hijz : ¬ (i : Int) < (j : Int) := by omega
      have hije : i = j := by omega
      subst hije
      have YM := HH.out.three (mid := mid) (by have := BSH.out; rw [hpq.out] at this; exact this) (by omega) (by omega) (by first | exact .inl ⟨by omega, rfl, rfl, by omega⟩ | exact .inr ⟨by omega, by omega, rfl, by omega, by omega⟩)
      obtain ⟨e, he⟩ : ∃ e, e = mid + m - i := ⟨_, rfl⟩
      rw [← he] at YM
      have hUU := hid (List.take_append_drop (i - a) U)
      have hVV := hid (List.take_append_drop (mid - i) V)
      generalize U.take (i - a) = U1 at YM hUU
      generalize U.drop (i - a) = U2 at YM hUU
      generalize V.take (mid - i) = V1 at YM hVV
      generalize V.drop (mid - i) = V2 at YM hVV
      have hlim : a ≤ i ∧ i ≤ m ∧ i ≤ mid ∧ m ≤ e ∧ mid ≤ e ∧ e ≤ b ∧ i + e ≤ mid + m ∧ mid + m ≤ i + e := by omega
      have ke : IntKind.i64.wrap ((nn : Int) - (i : Int)) = (e : Int) := by rw [IntWalk.i64_in _ (by omega)]; omega
      have hZ : (P ++ U1 ++ V1 ++ U2 ++ (V2 ++ S)).length = N := by rw [← hN, YM.eq]; simp only [List.length_append]; omega
      replace YM := hid YM
      replace he := hid he
      obtain ⟨st, hst⟩ : ∃ st, st = i := ⟨_, rfl⟩
      subst hst
      rcases Nat.lt_or_ge a st with q1 | q1 <;> rcases Nat.lt_or_ge st m with q2 | q2
      · rcases Nat.lt_or_ge m e with q3 | q3 <;> rcases Nat.lt_or_ge e b with q4 | q4
        · first
          | (exfalso; omega)
          | (have f1 : (st : Int) < (m : Int) := by omega
             have f2 : (m : Int) < (e : Int) := by omega
             have f3 : (a : Int) < (st : Int) := by omega
             have f4 : (st : Int) < (mid : Int) := by omega
             have f5 : (mid : Int) < (e : Int) := by omega
             have f6 : (e : Int) < (b : Int) := by omega
             go_wp2_with fail
             refine (rotR_any (.func (.func 101) #[] #[]) base g c st m e N (P ++ U1) U2 V1 (V2 ++ S) xs _ YM.out.eq YM.out.l2.symm YM.out.l3.symm YM.out.l4.symm hN HV.out (by have h2 := YM.out.l2; have h3 := YM.out.l3; simp only [List.length_append] at *; omega) (by have h3 := YM.out.l3; have h4 := YM.out.l4; simp only [List.length_append] at *; omega) hl).mono ?_
             rintro e1 w1 ⟨rfl, hv1, hb1⟩
             replace HV := hid hv1
             replace HB := hid (HB.out.trans hb1)
             clear hv1 hb1
             go_wp2_with fail
             refine (IH.out a st mid P U1 V1 (U2 ++ (V2 ++ S)) _ _ YM.out.left (by omega) (by omega) (by omega) hZ HV.out).mono ?_
             rintro e2 w2 ⟨rfl, ys1, hy1, hv1, hb1, hm1⟩
             replace HV := hid hv1
             replace HB := hid (HB.out.trans hb1)
             clear hv1 hb1
             obtain ⟨T1, hT1⟩ := hm1.rgt
             replace hT1 := hid hT1
             go_wp2_with fail
             refine (IH.out mid e b (P ++ T1) U2 V2 S ys1 _ (YM.out.right hT1.out) (by omega) (by omega) (by omega) hy1 HV.out).mono ?_
             rintro e3 w3 ⟨rfl, ys2, hy2, hv1, hb1, hm2⟩
             replace HV := hid hv1
             replace HB := hid (HB.out.trans hb1)
             clear hv1 hb1
             replace hm2 := hid hm2
             go_wp2_with fail
             go_wp2
             go_end0
             exact ⟨rfl, ys2, hy2, HV.out, HB.out, by have := YM.out.whole hT1.out hm2.out; rwa [hUU.out, hVV.out] at this⟩)
        · first
          | (exfalso; omega)
          | (have f1 : (st : Int) < (m : Int) := by omega
             have f2 : (m : Int) < (e : Int) := by omega
             have f3 : (a : Int) < (st : Int) := by omega
             have f4 : (st : Int) < (mid : Int) := by omega
             have f5 : (mid : Int) < (e : Int) := by omega
             have f6 : ¬ (e : Int) < (b : Int) := by omega
             go_wp2_with fail
             refine (rotR_any (.func (.func 101) #[] #[]) base g c st m e N (P ++ U1) U2 V1 (V2 ++ S) xs _ YM.out.eq YM.out.l2.symm YM.out.l3.symm YM.out.l4.symm hN HV.out (by have h2 := YM.out.l2; have h3 := YM.out.l3; simp only [List.length_append] at *; omega) (by have h3 := YM.out.l3; have h4 := YM.out.l4; simp only [List.length_append] at *; omega) hl).mono ?_
             rintro e1 w1 ⟨rfl, hv1, hb1⟩
             replace HV := hid hv1
             replace HB := hid (HB.out.trans hb1)
             clear hv1 hb1
             go_wp2_with fail
             refine (IH.out a st mid P U1 V1 (U2 ++ (V2 ++ S)) _ _ YM.out.left (by omega) (by omega) (by omega) hZ HV.out).mono ?_
             rintro e2 w2 ⟨rfl, ys1, hy1, hv1, hb1, hm1⟩
             replace HV := hid hv1
             replace HB := hid (HB.out.trans hb1)
             clear hv1 hb1
             obtain ⟨T1, hT1⟩ := hm1.rgt
             replace hT1 := hid hT1
             go_wp2_with fail
             have hm2 := hid (YM.out.right0 hT1.out (by omega))
             have hy2 := hy1
             obtain ⟨ys2, hys2⟩ : ∃ ys2, ys2 = ys1 := ⟨_, rfl⟩
             rw [← hys2] at hm2 hy2 HV
             replace hys2 := hid hys2
             go_wp2
             go_end0
             exact ⟨rfl, ys2, hy2, HV.out, HB.out, by have := YM.out.whole hT1.out hm2.out; rwa [hUU.out, hVV.out] at this⟩)
        · first
          | (exfalso; omega)
          | (have f1 : (st : Int) < (m : Int) := by omega
             have f2 : ¬ (m : Int) < (e : Int) := by omega
             have f3 : (a : Int) < (st : Int) := by omega
             have f4 : ¬ (st : Int) < (mid : Int) := by omega
             have f5 : (mid : Int) < (e : Int) := by omega
             have f6 : (e : Int) < (b : Int) := by omega
             go_wp2_with fail
             have htu := YM.out.turned (by omega)
             have HV0 := HV.out
             rw [htu] at HV0
             replace HV := hid HV0
             clear HV0
             replace htu := hid htu
             obtain ⟨T1, hT1⟩ := (YM.out.left0 (by omega)).rgt
             obtain ⟨ys1, hys1⟩ : ∃ ys1, ys1 = P ++ U1 ++ V1 ++ U2 ++ (V2 ++ S) := ⟨_, rfl⟩
             rw [← hys1] at hT1 HV
             have hy1 : ys1.length = N := by rw [hys1]; exact hZ
             replace hys1 := hid hys1
             replace hT1 := hid hT1
             refine (IH.out mid e b (P ++ T1) U2 V2 S ys1 _ (YM.out.right hT1.out) (by omega) (by omega) (by omega) hy1 HV.out).mono ?_
             rintro e3 w3 ⟨rfl, ys2, hy2, hv1, hb1, hm2⟩
             replace HV := hid hv1
             replace HB := hid (HB.out.trans hb1)
             clear hv1 hb1
             replace hm2 := hid hm2
             go_wp2_with fail
             go_wp2
             go_end0
             exact ⟨rfl, ys2, hy2, HV.out, HB.out, by have := YM.out.whole hT1.out hm2.out; rwa [hUU.out, hVV.out] at this⟩)
        · omega
      · rcases Nat.lt_or_ge m e with q3 | q3 <;> rcases Nat.lt_or_ge e b with q4 | q4
        · first
          | (exfalso; omega)
          | (have f1 : ¬ (st : Int) < (m : Int) := by omega
             have f2 : (m : Int) < (e : Int) := by omega
             have f3 : (a : Int) < (st : Int) := by omega
             have f4 : (st : Int) < (mid : Int) := by omega
             have f5 : ¬ (mid : Int) < (e : Int) := by omega
             have f6 : (e : Int) < (b : Int) := by omega
             go_wp2_with fail
             have htu := YM.out.turned (by omega)
             have HV0 := HV.out
             rw [htu] at HV0
             replace HV := hid HV0
             clear HV0
             replace htu := hid htu
             refine (IH.out a st mid P U1 V1 (U2 ++ (V2 ++ S)) _ _ YM.out.left (by omega) (by omega) (by omega) hZ HV.out).mono ?_
             rintro e2 w2 ⟨rfl, ys1, hy1, hv1, hb1, hm1⟩
             replace HV := hid hv1
             replace HB := hid (HB.out.trans hb1)
             clear hv1 hb1
             obtain ⟨T1, hT1⟩ := hm1.rgt
             replace hT1 := hid hT1
             go_wp2_with fail
             have hm2 := hid (YM.out.right0 hT1.out (by omega))
             have hy2 := hy1
             obtain ⟨ys2, hys2⟩ : ∃ ys2, ys2 = ys1 := ⟨_, rfl⟩
             rw [← hys2] at hm2 hy2 HV
             replace hys2 := hid hys2
             go_wp2
             go_end0
             exact ⟨rfl, ys2, hy2, HV.out, HB.out, by have := YM.out.whole hT1.out hm2.out; rwa [hUU.out, hVV.out] at this⟩)
        · first
          | (exfalso; omega)
          | (have f1 : ¬ (st : Int) < (m : Int) := by omega
             have f2 : (m : Int) < (e : Int) := by omega
             have f3 : (a : Int) < (st : Int) := by omega
             have f4 : (st : Int) < (mid : Int) := by omega
             have f5 : ¬ (mid : Int) < (e : Int) := by omega
             have f6 : ¬ (e : Int) < (b : Int) := by omega
             go_wp2_with fail
             have htu := YM.out.turned (by omega)
             have HV0 := HV.out
             rw [htu] at HV0
             replace HV := hid HV0
             clear HV0
             replace htu := hid htu
             refine (IH.out a st mid P U1 V1 (U2 ++ (V2 ++ S)) _ _ YM.out.left (by omega) (by omega) (by omega) hZ HV.out).mono ?_
             rintro e2 w2 ⟨rfl, ys1, hy1, hv1, hb1, hm1⟩
             replace HV := hid hv1
             replace HB := hid (HB.out.trans hb1)
             clear hv1 hb1
             obtain ⟨T1, hT1⟩ := hm1.rgt
             replace hT1 := hid hT1
             go_wp2_with fail
             have hm2 := hid (YM.out.right0 hT1.out (by omega))
             have hy2 := hy1
             obtain ⟨ys2, hys2⟩ : ∃ ys2, ys2 = ys1 := ⟨_, rfl⟩
             rw [← hys2] at hm2 hy2 HV
             replace hys2 := hid hys2
             go_wp2
             go_end0
             exact ⟨rfl, ys2, hy2, HV.out, HB.out, by have := YM.out.whole hT1.out hm2.out; rwa [hUU.out, hVV.out] at this⟩)
        · first
          | (exfalso; omega)
          | (have f1 : ¬ (st : Int) < (m : Int) := by omega
             have f2 : ¬ (m : Int) < (e : Int) := by omega
             have f3 : (a : Int) < (st : Int) := by omega
             have f4 : ¬ (st : Int) < (mid : Int) := by omega
             have f5 : ¬ (mid : Int) < (e : Int) := by omega
             have f6 : (e : Int) < (b : Int) := by omega
             go_wp2_with fail
             have htu := YM.out.turned (by omega)
             have HV0 := HV.out
             rw [htu] at HV0
             replace HV := hid HV0
             clear HV0
             replace htu := hid htu
             obtain ⟨T1, hT1⟩ := (YM.out.left0 (by omega)).rgt
             obtain ⟨ys1, hys1⟩ : ∃ ys1, ys1 = P ++ U1 ++ V1 ++ U2 ++ (V2 ++ S) := ⟨_, rfl⟩
             rw [← hys1] at hT1 HV
             have hy1 : ys1.length = N := by rw [hys1]; exact hZ
             replace hys1 := hid hys1
             replace hT1 := hid hT1
             have hm2 := hid (YM.out.right0 hT1.out (by omega))
             have hy2 := hy1
             obtain ⟨ys2, hys2⟩ : ∃ ys2, ys2 = ys1 := ⟨_, rfl⟩
             rw [← hys2] at hm2 hy2 HV
             replace hys2 := hid hys2
             go_wp2
             go_end0
             exact ⟨rfl, ys2, hy2, HV.out, HB.out, by have := YM.out.whole hT1.out hm2.out; rwa [hUU.out, hVV.out] at this⟩)
        · omega
      · rcases Nat.lt_or_ge m e with q3 | q3 <;> rcases Nat.lt_or_ge e b with q4 | q4
        · first
          | (exfalso; omega)
          | (have f1 : (st : Int) < (m : Int) := by omega
             have f2 : (m : Int) < (e : Int) := by omega
             have f3 : ¬ (a : Int) < (st : Int) := by omega
             have f4 : (st : Int) < (mid : Int) := by omega
             have f5 : (mid : Int) < (e : Int) := by omega
             have f6 : (e : Int) < (b : Int) := by omega
             go_wp2_with fail
             refine (rotR_any (.func (.func 101) #[] #[]) base g c st m e N (P ++ U1) U2 V1 (V2 ++ S) xs _ YM.out.eq YM.out.l2.symm YM.out.l3.symm YM.out.l4.symm hN HV.out (by have h2 := YM.out.l2; have h3 := YM.out.l3; simp only [List.length_append] at *; omega) (by have h3 := YM.out.l3; have h4 := YM.out.l4; simp only [List.length_append] at *; omega) hl).mono ?_
             rintro e1 w1 ⟨rfl, hv1, hb1⟩
             replace HV := hid hv1
             replace HB := hid (HB.out.trans hb1)
             clear hv1 hb1
             go_wp2_with fail
             obtain ⟨T1, hT1⟩ := (YM.out.left0 (by omega)).rgt
             obtain ⟨ys1, hys1⟩ : ∃ ys1, ys1 = P ++ U1 ++ V1 ++ U2 ++ (V2 ++ S) := ⟨_, rfl⟩
             rw [← hys1] at hT1 HV
             have hy1 : ys1.length = N := by rw [hys1]; exact hZ
             replace hys1 := hid hys1
             replace hT1 := hid hT1
             refine (IH.out mid e b (P ++ T1) U2 V2 S ys1 _ (YM.out.right hT1.out) (by omega) (by omega) (by omega) hy1 HV.out).mono ?_
             rintro e3 w3 ⟨rfl, ys2, hy2, hv1, hb1, hm2⟩
             replace HV := hid hv1
             replace HB := hid (HB.out.trans hb1)
             clear hv1 hb1
             replace hm2 := hid hm2
             go_wp2_with fail
             go_wp2
             go_end0
             exact ⟨rfl, ys2, hy2, HV.out, HB.out, by have := YM.out.whole hT1.out hm2.out; rwa [hUU.out, hVV.out] at this⟩)
        · first
          | (exfalso; omega)
          | (have f1 : (st : Int) < (m : Int) := by omega
             have f2 : (m : Int) < (e : Int) := by omega
             have f3 : ¬ (a : Int) < (st : Int) := by omega
             have f4 : (st : Int) < (mid : Int) := by omega
             have f5 : (mid : Int) < (e : Int) := by omega
             have f6 : ¬ (e : Int) < (b : Int) := by omega
             go_wp2_with fail
             refine (rotR_any (.func (.func 101) #[] #[]) base g c st m e N (P ++ U1) U2 V1 (V2 ++ S) xs _ YM.out.eq YM.out.l2.symm YM.out.l3.symm YM.out.l4.symm hN HV.out (by have h2 := YM.out.l2; have h3 := YM.out.l3; simp only [List.length_append] at *; omega) (by have h3 := YM.out.l3; have h4 := YM.out.l4; simp only [List.length_append] at *; omega) hl).mono ?_
             rintro e1 w1 ⟨rfl, hv1, hb1⟩
             replace HV := hid hv1
             replace HB := hid (HB.out.trans hb1)
             clear hv1 hb1
             go_wp2_with fail
             obtain ⟨T1, hT1⟩ := (YM.out.left0 (by omega)).rgt
             obtain ⟨ys1, hys1⟩ : ∃ ys1, ys1 = P ++ U1 ++ V1 ++ U2 ++ (V2 ++ S) := ⟨_, rfl⟩
             rw [← hys1] at hT1 HV
             have hy1 : ys1.length = N := by rw [hys1]; exact hZ
             replace hys1 := hid hys1
             replace hT1 := hid hT1
             have hm2 := hid (YM.out.right0 hT1.out (by omega))
             have hy2 := hy1
             obtain ⟨ys2, hys2⟩ : ∃ ys2, ys2 = ys1 := ⟨_, rfl⟩
             rw [← hys2] at hm2 hy2 HV
             replace hys2 := hid hys2
             go_wp2
             go_end0
             exact ⟨rfl, ys2, hy2, HV.out, HB.out, by have := YM.out.whole hT1.out hm2.out; rwa [hUU.out, hVV.out] at this⟩)
        · first
          | (exfalso; omega)
          | (have f1 : (st : Int) < (m : Int) := by omega
             have f2 : ¬ (m : Int) < (e : Int) := by omega
             have f3 : ¬ (a : Int) < (st : Int) := by omega
             have f4 : ¬ (st : Int) < (mid : Int) := by omega
             have f5 : (mid : Int) < (e : Int) := by omega
             have f6 : (e : Int) < (b : Int) := by omega
             go_wp2_with fail
             have htu := YM.out.turned (by omega)
             have HV0 := HV.out
             rw [htu] at HV0
             replace HV := hid HV0
             clear HV0
             replace htu := hid htu
             obtain ⟨T1, hT1⟩ := (YM.out.left0 (by omega)).rgt
             obtain ⟨ys1, hys1⟩ : ∃ ys1, ys1 = P ++ U1 ++ V1 ++ U2 ++ (V2 ++ S) := ⟨_, rfl⟩
             rw [← hys1] at hT1 HV
             have hy1 : ys1.length = N := by rw [hys1]; exact hZ
             replace hys1 := hid hys1
             replace hT1 := hid hT1
             refine (IH.out mid e b (P ++ T1) U2 V2 S ys1 _ (YM.out.right hT1.out) (by omega) (by omega) (by omega) hy1 HV.out).mono ?_
             rintro e3 w3 ⟨rfl, ys2, hy2, hv1, hb1, hm2⟩
             replace HV := hid hv1
             replace HB := hid (HB.out.trans hb1)
             clear hv1 hb1
             replace hm2 := hid hm2
             go_wp2_with fail
             go_wp2
             go_end0
             exact ⟨rfl, ys2, hy2, HV.out, HB.out, by have := YM.out.whole hT1.out hm2.out; rwa [hUU.out, hVV.out] at this⟩)
        · omega
      · omega
end
end Go.Proofs.YtkefjeabckainaaGreat

namespace Go.Proofs.YtkefjeabckainaaGreat
section
open Go.RowKit
set_option maxRecDepth 100000
set_option linter.unusedVariables false

theorem symR_any (base g c N : Nat) (hl : N ≤ 1000) : ∀ (n a m b : Nat) (P U V S xs : List Nod) (w : World), Hv xs a m b P U V S → a < m → m < b → b - a ≤ n → xs.length = N → w.ownsRow base 89 12 (.slice (some ⟨g, 0, none⟩) N c) N (nodsL xs) →
    Calls Tryz.prog 187 #[.slice (some ⟨g, 0, none⟩) N c, .int .i64 (a : Int), .int .i64 (m : Int), .int .i64 (b : Int), (.func (.func 101) #[] #[])] w fun e w' => e = .returned (.tuple #[]) ∧ ∃ ys, ys.length = N ∧ w'.ownsRow base 89 12 (.slice (some ⟨g, 0, none⟩) N c) N (nodsL ys) ∧ Below base w w' ∧ Mrg P U V S ys := by
  intro n
  induction n with
  | zero => intro a m b P U V S xs w h h1 h2 h3; omega
  | succ n ih =>
    intro a m b P U V S xs w h h1 h2 h3 hN hw
    by_cases e1 : m = a + 1
    · exact sym1_any base g c a m b N P U V S xs w h hN hl hw e1 h2
    by_cases e2 : b = m + 1
    · exact sym2_any base g c a m b N P U V S xs w h hN hl hw (by omega) e2
    have ih' := fun (a m b2 : Nat) (P U V S xs : List Nod) (w : World) (h : Hv xs a m b2 P U V S) (h1 : a < m) (h2 : m < b2) (h3' : b2 - a < n + 1) (hN : xs.length = N) (hw : w.ownsRow base 89 12 (.slice (some ⟨g, 0, none⟩) N c) N (nodsL xs)) => ih a m b2 P U V S xs w h h1 h2 (by omega) hN hw
    rcases Nat.lt_or_ge ((a + b) / 2) m with e3 | e3
    · exact sym3a_any base g c a m b N P U V S xs w h hN hl hw (n + 1) h3 (by omega) (by omega) e3 ih'
    · exact sym3b_any base g c a m b N P U V S xs w h hN hl hw (n + 1) h3 (by omega) (by omega) e3 ih'

set_option maxHeartbeats 6400000 in
theorem stabR_any (base g c N : Nat) (l0 : List Nod) (w : World) (hN : l0.length = N) (hl : N ≤ 1000) (hp : l0.Pairwise fun x y => x.path < y.path) (hw : w.ownsRow base 89 12 (.slice (some ⟨g, 0, none⟩) N c) N (nodsL l0)) :
    Calls Tryz.prog 151 #[.slice (some ⟨g, 0, none⟩) N c, .int .i64 (N : Int), (.func (.func 101) #[] #[])] w fun e w' => e = .returned (.tuple #[]) ∧ ∃ ys, ys.length = N ∧ w'.ownsRow base 89 12 (.slice (some ⟨g, 0, none⟩) N c) N (nodsL ys) ∧ Below base w w' ∧ Srt leNP ys ∧ ys.Perm l0 := by
  have HA := hid (StA.start l0)
  have HV := hid hw
  have HB := hid (Below.refl base w)
  have HP := hid hp
  have hins := hid (fun (W : World) (xs : List Nod) (a b : Nat) hv hN hab hb hp => insR_any base g c a b N xs W hv hN hab hb hl hp)
  have hin0 := hid (fun (W : World) (xs : List Nod) (a : Nat) (ha : a ≤ 1000) => insR0_any base g c a N xs W ha)
  have hsym := hid (fun (W : World) (a m b : Nat) P U V S xs h h1 h2 hN hw => symR_any base g c N hl (b - a) a m b P U V S xs W h h1 h2 (Nat.le_refl _) hN hw)
  clear hw hp
  go_enter Tryz.func151, Tryz.ntmps151
  go_wp2
  go_loopg [7, 8] (N + 20) (fun g1 va vb wr => ∃ (q a b : Nat) (ys : List Nod), va = .int .i64 (a : Int) ∧ vb = .int .i64 (b : Int) ∧ Hid (a = q * 20) ∧ b ≤ a + 20 ∧ a + 20 ≤ b ∧ a ≤ N ∧ N + 20 - a ≤ g1 ∧ ys.length = N ∧ Hid (wr.ownsRow base 89 12 (.slice (some ⟨g, 0, none⟩) N c) N (nodsL ys)) ∧ Hid (Below base w wr) ∧ Hid (StA l0 ys q))
  case atStart => exact ⟨0, 0, 20, l0, by first | rfl | go_num, by first | rfl | go_num, hid (by omega), by omega, by omega, by omega, by omega, hN, HV, HB, HA⟩
  case round =>
    clear HV HB HA
    obtain ⟨q, a, b, ys, rfl, rfl, hq, hb1, hb2, haN, hg1, hys, HV, HB, HA⟩ := hrel
    by_cases hbN : b ≤ N
    · have hbz : (b : Int) ≤ (N : Int) := by omega
      obtain ⟨d, hd⟩ : ∃ d, d = b + 20 := ⟨_, rfl⟩
      have kd : IntKind.i64.wrap ((b : Int) + 20) = (d : Int) := by rw [IntWalk.i64_in _ (by omega)]; omega
      have hd1 : d ≤ b + 20 := by omega
      have hd2 : b + 20 ≤ d := by omega
      replace hd := hid hd
      have hc := hid (hins.out wr ys a b HV.out hys (by omega) hbN (by
        rw [HA.out.rest a b (by have := hq.out; omega)]
        exact (HP.out.sublist (List.drop_sublist _ _)).sublist (List.take_sublist _ _)))
      go_wp2_with fail
      refine hc.out.mono ?_
      rintro e w2 ⟨rfl, zs, hz, hv2, hbl2, hm2, hs2⟩
      have e1 : b = q * 20 + 20 := by have := hq.out; omega
      rw [hq.out, e1] at hm2 hs2
      have HA2 := hid (HA.out.step hm2 hs2)
      replace hv2 := hid hv2
      replace hbl2 := hid (HB.out.trans hbl2)
      replace hm2 := hid hm2
      replace hs2 := hid hs2
      replace e1 := hid e1
      go_wp2
      go_roundg (N + 20 - b)
      case measure => omega
      case rel => exact ⟨q + 1, b, d, zs, by first | rfl | go_num, by first | rfl | go_num, hid (by have := hq.out; omega), by omega, by omega, hbN, Nat.le_refl _, hz, hv2, hbl2, HA2⟩
    · have hbz : ¬ (b : Int) ≤ (N : Int) := by omega
      go_wp2_with fail
      have hsB : Calls Tryz.prog 186 #[.slice (some ⟨g, 0, none⟩) N c, .int .i64 (a : Int), .int .i64 (N : Int), (.func (.func 101) #[] #[])] wr fun e w' => e = .returned (.tuple #[]) ∧ ∃ zs, zs.length = N ∧ w'.ownsRow base 89 12 (.slice (some ⟨g, 0, none⟩) N c) N (nodsL zs) ∧ Below base wr w' ∧ StB l0 zs 20 := by
        have hqo := hq.out
        by_cases haz : a < N
        · refine (hins.out wr ys a N HV.out hys haz (Nat.le_refl _) (by
            rw [HA.out.rest a N (by omega)]
            exact (HP.out.sublist (List.drop_sublist _ _)).sublist (List.take_sublist _ _))).mono ?_
          rintro e w2 ⟨rfl, zs, hz, hv2, hbl2, hm2, hs2⟩
          exact ⟨rfl, zs, hz, hv2, hbl2, HA.out.last (by omega) (by rw [← hqo, hys]; exact hm2) (by rw [← hqo, hys]; exact hs2)⟩
        · have : a = N := by omega
          subst this
          refine (hin0.out wr ys a hl).mono ?_
          rintro e w2 ⟨rfl, rfl⟩
          refine ⟨rfl, ys, hys, HV.out, Below.refl _ _, HA.out.last (by omega) (by rw [← hqo, hys]; exact Mended.refl (Nat.le_refl _) (by omega)) ?_⟩
          rw [← hqo, hys]
          unfold seg; rw [Nat.sub_self, List.take_zero]; exact Srt.nil
      refine hsB.mono ?_
      rintro e w2 ⟨rfl, zs, hz, hv2, hbl2, hsb⟩
      replace HV := hid hv2
      replace HB := hid (HB.out.trans hbl2)
      replace HA := hid hsb
      clear hsB hv2 hbl2 hsb
      go_wp2
      go_loopg [6, 7, 8] N (fun g1 vs va vb wr => ∃ (bs : Nat) (a b : Int) (ys : List Nod), vs = .int .i64 (bs : Int) ∧ va = .int .i64 a ∧ vb = .int .i64 b ∧ 20 ≤ bs ∧ bs ≤ 2000 ∧ N - bs ≤ g1 ∧ ys.length = N ∧ Hid (wr.ownsRow base 89 12 (.slice (some ⟨g, 0, none⟩) N c) N (nodsL ys)) ∧ Hid (Below base w wr) ∧ Hid (StB l0 ys bs))
      case atStart => exact ⟨20, _, _, zs, by first | rfl | go_num, rfl, rfl, by omega, by omega, by omega, hz, HV, HB, HA⟩
      case round =>
        clear HV HB HA
        obtain ⟨bs, a1, b1, xs, rfl, rfl, rfl, hbs1, hbs2, hg2, hxs, HV, HB, HA⟩ := hrel
        by_cases hbN2 : bs < N
        · have hbz2 : (bs : Int) < (N : Int) := by omega
          obtain ⟨tb, htb⟩ : ∃ d, d = 2 * bs := ⟨_, rfl⟩
          have ktb : IntKind.i64.wrap (2 * (bs : Int)) = (tb : Int) := by rw [IntWalk.i64_in _ (by omega)]; omega
          have ktb' : IntKind.i64.wrap ((bs : Int) * 2) = (tb : Int) := by rw [IntWalk.i64_in _ (by omega)]; omega
          have ht1 : tb ≤ 2 * bs := by omega
          have ht2 : 2 * bs ≤ tb := by omega
          replace htb := hid htb
          have HM := hid HA.out.start
          go_wp2
          go_loopg [7, 8] (N + tb) (fun g1 va vb wr => ∃ (q a b : Nat) (ys : List Nod), va = .int .i64 (a : Int) ∧ vb = .int .i64 (b : Int) ∧ Hid (a = q * (2 * bs)) ∧ b ≤ a + tb ∧ a + tb ≤ b ∧ a ≤ N ∧ N + tb - a ≤ g1 ∧ ys.length = N ∧ Hid (wr.ownsRow base 89 12 (.slice (some ⟨g, 0, none⟩) N c) N (nodsL ys)) ∧ Hid (Below base w wr) ∧ Hid (StM l0 ys bs q))
          case atStart => exact ⟨0, 0, tb, xs, by first | rfl | go_num, by first | rfl | go_num, hid (by omega), by omega, by omega, by omega, by omega, hxs, HV, HB, HM⟩
          case round =>
            clear HV HB HM
            obtain ⟨q2, a2, b2, us, rfl, rfl, hq2, hb3, hb4, haN2, hg3, hus, HV, HB, HM⟩ := hrel
            obtain ⟨m2, hm2⟩ : ∃ d, d = a2 + bs := ⟨_, rfl⟩
            have km2 : IntKind.i64.wrap ((a2 : Int) + (bs : Int)) = (m2 : Int) := by rw [IntWalk.i64_in _ (by omega)]; omega
            have hm3 : m2 ≤ a2 + bs := by omega
            have hm4 : a2 + bs ≤ m2 := by omega
            by_cases hbN3 : b2 ≤ N
            · have hbz3 : (b2 : Int) ≤ (N : Int) := by omega
              obtain ⟨d, hd⟩ : ∃ d, d = b2 + tb := ⟨_, rfl⟩
              have kd : IntKind.i64.wrap ((b2 : Int) + (tb : Int)) = (d : Int) := by rw [IntWalk.i64_in _ (by omega)]; omega
              have hd1 : d ≤ b2 + tb := by omega
              have hd2 : b2 + tb ≤ d := by omega
              replace hd := hid hd
              have eb : b2 = q2 * (2 * bs) + 2 * bs := by have := hq2.out; omega
              obtain ⟨P, U, V, S, hHv⟩ := HM.out.hv HP.out (b := b2) (by omega) (by omega) (.inl eb)
              rw [← hq2.out, ← hm2] at hHv
              have hHv' := hid hHv
              have hc := hid (hsym.out wr a2 m2 b2 P U V S us hHv (by omega) (by omega) hus HV.out)
              replace hm2 := hid hm2
              replace eb := hid eb
              clear hHv
              go_wp2_with fail
              refine hc.out.mono ?_
              rintro e w2 ⟨rfl, zs2, hz2, hv2, hbl2, hmr⟩
              obtain ⟨x1, x2⟩ := hHv'.out.mended hmr
              rw [hq2.out, eb.out] at x1 x2
              have HM2 := hid (HM.out.step x1 x2)
              replace hv2 := hid hv2
              replace hbl2 := hid (HB.out.trans hbl2)
              replace hmr := hid hmr
              clear x1 x2
              go_wp2
              go_roundg (N + tb - b2)
              case measure => omega
              case rel => exact ⟨q2 + 1, b2, d, zs2, by first | rfl | go_num, by first | rfl | go_num, hid (by rw [eb.out, Nat.add_mul, Nat.one_mul]), by omega, by omega, hbN3, Nat.le_refl _, hz2, hv2, hbl2, HM2⟩
            · have hbz3 : ¬ (b2 : Int) ≤ (N : Int) := by omega
              have hqo := hq2.out
              by_cases hmN : m2 < N
              · have hmz : (m2 : Int) < (N : Int) := by omega
                obtain ⟨P, U, V, S, hHv⟩ := HM.out.hv HP.out (b := N) (by omega) (by omega) (.inr ⟨hus.symm, by omega⟩)
                rw [← hqo, ← hm2] at hHv
                have hHv' := hid hHv
                have hc := hid (hsym.out wr a2 m2 N P U V S us hHv (by omega) (by omega) hus HV.out)
                replace hm2 := hid hm2
                replace hqo := hid hqo
                clear hHv
                go_wp2_with fail
                refine hc.out.mono ?_
                rintro e w2 ⟨rfl, zs2, hz2, hv2, hbl2, hmr⟩
                obtain ⟨x1, x2⟩ := hHv'.out.mended hmr
                rw [hqo.out, ← hus] at x1 x2
                have hqq := hqo.out
                have HB2 := hid (HM.out.last (by omega) x1 x2)
                replace hv2 := hid hv2
                replace hbl2 := hid (HB.out.trans hbl2)
                replace hmr := hid hmr
                clear x1 x2 hqq
                go_wp2
                go_roundg (N - tb)
                case measure => omega
                case rel => exact ⟨tb, _, _, zs2, by first | rfl | go_num, rfl, rfl, by omega, by omega, Nat.le_refl _, hz2, hv2, hbl2, by rw [htb.out]; exact HB2⟩
              · have hmz : ¬ (m2 : Int) < (N : Int) := by omega
                have HB2 := hid (HM.out.rest (by omega))
                replace hm2 := hid hm2
                replace hqo := hid hqo
                go_wp2
                go_roundg (N - tb)
                case measure => omega
                case rel => exact ⟨tb, _, _, us, by first | rfl | go_num, rfl, rfl, by omega, by omega, Nat.le_refl _, hus, HV, HB, by rw [htb.out]; exact HB2⟩
        · have hbz2 : ¬ (bs : Int) < (N : Int) := by omega
          go_wp2
          go_end0
          have := HA.out.all (by omega)
          exact ⟨rfl, xs, hxs, HV.out, HB.out, this.1, this.2⟩
theorem sortR_any (base g c N : Nat) (l0 : List Nod) (w : World) (hN : l0.length = N) (hl : N ≤ 1000) (hp : l0.Pairwise fun x y => x.path < y.path) (hw : w.ownsRow base 89 12 (.slice (some ⟨g, 0, none⟩) N c) N (nodsL l0)) :
    Calls Tryz.prog 100 #[.slice (some ⟨g, 0, none⟩) N c, (.func (.func 101) #[] #[])] w fun e w' => e = .returned (.tuple #[]) ∧ ∃ ys, ys.length = N ∧ w'.ownsRow base 89 12 (.slice (some ⟨g, 0, none⟩) N c) N (nodsL ys) ∧ Below base w w' ∧ Srt leNP ys ∧ ys.Perm l0 := by
  have hc := hid (stabR_any base g c N l0 w hN hl hp hw)
  clear hw hp
  go_enter Tryz.func100, Tryz.ntmps100
  go_wp2_with fail
  refine hc.out.mono ?_
  rintro e w2 ⟨rfl, h⟩
  replace h := hid h
  go_wp2_with fail
  go_end0
  exact ⟨rfl, h.out⟩
end
end Go.Proofs.YtkefjeabckainaaGreat

namespace Go.Proofs.YtkefjeabckainaaGreat
section
open Go.RowKit
set_option maxRecDepth 100000
set_option linter.unusedVariables false

theorem insV_any (v : Value) (w : World) :
    Calls Tryz.prog 186 #[v, .int .i64 0, .int .i64 0, .func (.func 101) #[] #[]] w fun e w' => e = .returned (.tuple #[]) ∧ w' = w := by
  go_enter Tryz.func186, Tryz.ntmps186
  go_wp2
  go_loopg [8] 0 (fun g1 vi wr => vi = .int .i64 1 ∧ wr = w)
  case atStart => exact ⟨by first | rfl | go_num, rfl⟩
  case round =>
    obtain ⟨rfl, rfl⟩ := hrel
    go_wp2
    go_end0
    exact ⟨rfl, rfl⟩
theorem stabV_any (v : Value) (w : World) :
    Calls Tryz.prog 151 #[v, .int .i64 0, .func (.func 101) #[] #[]] w fun e w' => e = .returned (.tuple #[]) ∧ w' = w := by
  have hc := hid (insV_any v w)
  go_enter Tryz.func151, Tryz.ntmps151
  go_wp2
  go_loopg [7, 8] 0 (fun g1 va vb wr => va = .int .i64 0 ∧ vb = .int .i64 20 ∧ wr = w)
  case atStart => exact ⟨by first | rfl | go_num, by first | rfl | go_num, rfl⟩
  case round =>
    obtain ⟨rfl, rfl, rfl⟩ := hrel
    go_wp2_with fail
    refine hc.out.mono ?_
    rintro e w2 ⟨rfl, rfl⟩
    go_wp2
    go_loopg [6, 7, 8] 0 (fun g1 vs va vb wr => vs = .int .i64 20 ∧ va = .int .i64 0 ∧ vb = .int .i64 20 ∧ wr = w2)
    case atStart => exact ⟨by first | rfl | go_num, rfl, rfl, rfl⟩
    case round =>
      obtain ⟨rfl, rfl, rfl, rfl⟩ := hrel
      go_wp2
      go_end0
      exact ⟨rfl, rfl⟩
theorem sortV_any (w : World) :
    Calls Tryz.prog 100 #[.slice none 0 0, (.func (.func 101) #[] #[])] w fun e w' => e = .returned (.tuple #[]) ∧ w' = w := by
  have hc := hid (stabV_any (.slice none 0 0) w)
  go_enter Tryz.func100, Tryz.ntmps100
  go_wp2_with fail
  refine hc.out.mono ?_
  rintro e w2 ⟨rfl, rfl⟩
  go_wp2_with fail
  go_end0
  exact ⟨rfl, rfl⟩
theorem sortO_any (base n : Nat) (v : Value) (l0 : List Nod) (w : World) (hn : n = l0.length) (hl : l0.length ≤ 1000) (hp : SortL l0) (hw : w.ownsRow base 89 12 v n (nodsL l0)) :
    Calls Tryz.prog 100 #[v, (.func (.func 101) #[] #[])] w fun e w' => e = .returned (.tuple #[]) ∧ ∃ ys, ys.length = n ∧ w'.ownsRow base 89 12 v n (nodsL ys) ∧ Below base w w' ∧ Srt leNP ys ∧ ys.Perm l0 := by
  rcases hw.2 with ⟨rfl, h0⟩ | ⟨g, cap, cur, rfl, _⟩
  · have e : l0 = [] := by
      subst hn
      exact List.length_eq_zero_iff.1 h0
    subst e
    refine (sortV_any w).mono ?_
    rintro e w2 ⟨rfl, rfl⟩
    exact ⟨rfl, [], by rw [hn], hw, Below.refl _ _, Srt.nil, List.Perm.refl _⟩
  · exact sortR_any base g _ n l0 w hn.symm (by omega) hp hw
theorem kids_take {l : List Nod} {k : Nat} (hk : k < l.length) (d : Nat) : kidsOf (l.take (k + 1)) d = kidsOf (l.take k) d ++ (if kidB d l[k] then [l[k]] else []) := by
  unfold kidsOf
  rw [List.take_succ_eq_append_getElem hk, List.filter_append]
  cases h : kidB d l[k] <;> simp [h]
def KidsPost (w : World) (l : List Nod) (d : Nat) (e : Ending) (w' : World) : Prop := ∃ r ks, e = .returned r ∧ NodsAt w' r ks ∧ Below w.heap.size w w' ∧ Srt leNP ks ∧ ks.Perm (kidsOf l d)

set_option maxHeartbeats 3200000 in
theorem kids_any (v : Value) (x : Nat) (l : List Nod) (d : Nat) (w : World) (hv : NodsAt w v l) (hs : SortL l) (hl : l.length ≤ 1000) :
    Calls Tryz.prog 51 #[.agg #[.int .u64 (x : Int), v], .int .u64 (d : Int)] w (KidsPost w l d) := by
  obtain ⟨a, c, rfl, g1, g2⟩ := hv.form
  unfold maxLen at g2
  obtain ⟨W, hW⟩ : ∃ W, W = w.alloc (.cells #[.int .u64 (x : Int), .slice a l.length c] 30) := ⟨_, rfl⟩
  have hb0 : Below w.heap.size w W := by rw [hW]; exact (Below.refl w.heap.size w).alloc (Nat.le_refl _) _
  have hx0 : W.heap[w.heap.size]? = some (.cells #[.int .u64 (x : Int), .slice a l.length c] 30 (0, 0)) := by rw [hW, heap_alloc_new]
  have e1 := block_cell hx0 1
  have hkl0 : ∀ k, (kidsOf (l.take k) d).length ≤ k := fun k => Nat.le_trans (List.length_filter_le _ _) (by simp; omega)
  have hsw : w.heap.size ≤ W.heap.size := hb0.size
  replace hv := hid hv
  replace hb0 := hid hb0
  replace hs := hid hs
  replace hkl0 := hid hkl0
  clear hx0
  go_enter Tryz.func51, Tryz.ntmps51
  go_wp2_with (rw [← hW]; replace hW := hid hW)
  go_loopw [5, 11] (fun ov kv wr => ∃ (k m : Nat) (acc : List Nod), k ≤ l.length ∧ kv = .int .i64 (k : Int) ∧ Hid (Below w.heap.size w wr) ∧ m = acc.length ∧ Hid (acc = kidsOf (l.take k) d) ∧ wr.ownsRow w.heap.size 89 12 ov m (nodsL acc)) (fun _ kv _ => l.length - (intOf kv).toNat)
  case atStart => exact ⟨0, 0, [], by omega, rfl, hb0, rfl, hid rfl, World.ownsRow_nil _ _ _ _⟩
  case round =>
    obtain ⟨k, m, acc, hk, rfl, hB, hm, hacc, hown⟩ := hrel
    obtain ⟨oa, oc, rfl⟩ := own_form hown
    have hmk : m ≤ k := by rw [hm, hacc.out]; exact hkl0.out k
    by_cases hkl : k < l.length
    · obtain ⟨b, o, ha, hr⟩ := (hv.out.below hB.out).range k hkl
      subst ha
      have hst := hid (kids_take hkl d)
      generalize l[k] = n at *
      have hnew := hid (heap_alloc_new wr (.cells zeroNod.cells 89))
      obtain ⟨W3, hW3⟩ : ∃ W, W = boxN wr n := ⟨_, rfl⟩
      have hb3 : Below wr.heap.size wr W3 := by rw [hW3]; exact boxN_below _ _
      have hn3 := hid (show W3.heap[wr.heap.size]? = some (.cells n.cells 89 (0, 0)) by rw [hW3]; exact boxN_heap _ _)
      have hB3 := hid (sn hB.out hb3)
      have hown3 := hid (own_below hown hb3)
      have hkc := hid (kid_any n d W3)
      unfold boxN at hW3
      rw [zeroNod_cells] at hW3 hnew
      replace hr := hid hr
      replace hm := hid hm
      clear hb3 hB hown
      go_wp2_with (first
        | (refine wpList_load_cells (by rfl) 89 (.tmp 13) (by rfl) b (o + k * 12) (by rfl) n.cells _ hr.out Tryz.underlying89 (by rfl) (by kernel_rfl) ?_)
        | (refine wpList_store_row (by rfl) 89 (.tmp 7) (.tmp 14) (by rfl) wr.heap.size n.cells (by rfl) (by rfl) 89 _ hnew.out (by kernel_rfl) (by kernel_rfl) (nod_one n) ?_)
        | (rw [← hW3]; replace hW3 := hid hW3)
        | (refine wpList_load_row (by rfl) 89 (.tmp 7) (by rfl) wr.heap.size (by rfl) 89 n.cells (0, 0) _ hn3.out Tryz.underlying89 (by rfl) (by kernel_rfl) ?_))
      refine hkc.out.mono ?_
      rintro e w4 ⟨rfl, hb4⟩
      have hB4 := hid (sn hB3.out hb4)
      have hn4 := hid ((hb4.block _ (lt_of_block hn3.out)).trans hn3.out)
      have hown4 := hid (own_below hown3.out hb4)
      clear hb4 hkc hr hnew hn3 hB3 hown3
      generalize wr.heap.size = z at *
      rcases hkb : kidB d n with _ | _
      · have ha2 := hid (show acc = kidsOf (l.take (k + 1)) d by rw [hst.out, hkb, hacc.out]; simp)
        clear hkb hst
        go_wp2_with fail
        go_roundw
        case rel => exact ⟨k + 1, m, acc, by omega, by go_num, hB4, hm.out, ha2, hown4.out⟩
        case measure => simp [intOf]; omega
      · have ha2 := hid (show acc ++ [n] = kidsOf (l.take (k + 1)) d by rw [hst.out, hkb, hacc.out]; simp)
        have hone := hid (nod_one n)
        obtain ⟨W5, hW5⟩ : ∃ W, W = w4.alloc (.cells n.cells 89) := ⟨_, rfl⟩
        have hn5 := hid (show W5.heap[w4.heap.size]? = some (.cells n.cells 89 (0, 0)) by rw [hW5, heap_alloc_new])
        have hB5 := hid (show Below w.heap.size w W5 by rw [hW5]; exact hB4.out.alloc hB4.out.size _)
        have hown5 := hid (show W5.ownsRow w.heap.size 89 12 (.slice oa m oc) m (nodsL acc) by rw [hW5]; exact hown4.out.alloc _)
        clear hkb hst hB4 hown4
        rw [nod_cells] at hW5 hn4
        go_wp2_with (first
          | (refine wpList_load_row (by rfl) 89 (.tmp 7) (by rfl) z (by rfl) 89 _ (0, 0) _ hn4.out Tryz.underlying89 (by rfl) (by kernel_rfl) ?_)
          | (rw [← hW5]; replace hW5 := hid hW5)
          | (at_builtin; refine wpList_append_row elemN _ rfl (.tmp 18) (.tmp 20) rfl w.heap.size (.slice oa m oc) m (nodsL acc) rfl hown5.out (.slice (some ⟨w4.heap.size, 0, none⟩) 1 1) 1 n.cells.toList rfl (RowAt.of_block hn5.out rfl (by unfold maxLen; omega)) (by intro u hu; exact (Array.all_eq_true_iff_forall_mem.1 hone.out) u (by simpa using hu)) (by unfold maxLen; omega) (by omega) hB5.out.size ?_))
        intro a' c' w' h2 h3
        have hB6 := hid (hB5.out.grown h3 hB5.out.size (fun j hj => (hown5.out.lt j hj).1))
        have hown6 := hid (show w'.ownsRow w.heap.size 89 12 (.slice a' (m + 1) c') (m + 1) (nodsL (acc ++ [n])) by
          rw [nodsL_append, show nodsL [n] = n.cells.toList by simp [nodsL]]; exact h2)
        clear h2 h3 hown5 hB5
        go_wp2_with fail
        go_roundw
        case rel => exact ⟨k + 1, m + 1, acc ++ [n], by omega, by go_num, hB6, by rw [List.length_append, ← hm.out]; rfl, ha2, hown6.out⟩
        case measure => simp [intOf]; omega
    · obtain rfl : k = l.length := by omega
      have hacc2 : acc = kidsOf l d := by have := hacc.out; rwa [List.take_length] at this
      have hsk : SortL acc := by rw [hacc2]; exact hs.out.filter _
      have hso := hid (sortO_any w.heap.size m (.slice oa m oc) acc wr hm (by omega) hsk hown)
      replace hacc2 := hid hacc2
      replace hm := hid hm
      replace hown := hid hown
      clear hsk
      go_wp2_with fail
      refine hso.out.mono ?_
      rintro e w5 ⟨rfl, ys, hy, hv5, hb5, hs5, hp5⟩
      have hnd := hid (nclip_any (.slice oa m oc) ys w5 (NodsAt.of_own hv5))
      have hB5 := hid (hB.out.trans hb5)
      replace hs5 := hid hs5
      replace hp5 := hid hp5
      clear hv5 hb5
      go_wp2_with fail
      refine hnd.out.mono ?_
      rintro e w6 ⟨v', rfl, hv6, rfl⟩
      replace hv6 := hid hv6
      go_wp2_with fail
      go_ret
      exact ⟨v', ys, rfl, hv6.out, hB5.out, hs5.out, by rw [← hacc2.out]; exact hp5.out⟩
end
end Go.Proofs.YtkefjeabckainaaGreat
