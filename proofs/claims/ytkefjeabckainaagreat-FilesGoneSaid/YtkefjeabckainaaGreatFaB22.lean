/- symMergeCmpFunc, two stretches of more than one node: parted at their middle, turned, merged by parts. Conditions: two sorted stretches; the function does so for shorter ones.
symMergeCmpFunc, two stretches of more than one node: parted at their middle, turned, merged by parts. Conditions: two sorted stretches; the function does so for shorter ones. -/
import Derived.Test.YtkefjeabckainaaGreatFaB20
import Derived.Test.YtkefjeabckainaaGreatFaB21
namespace Go.Proofs.YtkefjeabckainaaGreat
section
open Go.RowKit
set_option maxRecDepth 100000
set_option linter.unusedVariables false
attribute [local go_sem ↓] load12_eq

set_option maxHeartbeats 25600000 in
theorem sym3a_any (base g c a m b N : Nat) (P U V S xs : List Nod) (w : World) (HH : Hv xs a m b P U V S) (hN : xs.length = N) (hl : N ≤ 1000) (hw : w.ownsRow base 89 12 (.slice (some ⟨g, 0, none⟩) N c) N (nodsL xs)) (BA : Nat) (hBA : b - a ≤ BA) (hm : a + 1 < m) (hb : m + 1 < b) (hmid : (a + b) / 2 < m)
    (ih : ∀ (a m b2 : Nat) (P U V S xs : List Nod) (w : World), Hv xs a m b2 P U V S → a < m → m < b2 → b2 - a < BA → xs.length = N → w.ownsRow base 89 12 (.slice (some ⟨g, 0, none⟩) N c) N (nodsL xs) → Calls Tryz.prog 187 #[.slice (some ⟨g, 0, none⟩) N c, .int .i64 (a : Int), .int .i64 (m : Int), .int .i64 (b2 : Int), (.func (.func 101) #[] #[])] w fun e w' => e = .returned (.tuple #[]) ∧ ∃ ys, ys.length = N ∧ w'.ownsRow base 89 12 (.slice (some ⟨g, 0, none⟩) N c) N (nodsL ys) ∧ Below base w w' ∧ Mrg P U V S ys)  :
    Calls Tryz.prog 187 #[.slice (some ⟨g, 0, none⟩) N c, .int .i64 (a : Int), .int .i64 (m : Int), .int .i64 (b : Int), (.func (.func 101) #[] #[])] w fun e w' => e = .returned (.tuple #[]) ∧ ∃ ys, ys.length = N ∧ w'.ownsRow base 89 12 (.slice (some ⟨g, 0, none⟩) N c) N (nodsL ys) ∧ Below base w w' ∧ Mrg P U V S ys := by
  have IH := hid ih
  clear ih
  obtain ⟨mid, hmd⟩ : ∃ mid, mid = (a + b) / 2 := ⟨_, rfl⟩
  have em0 : ((a : Int) + (b : Int)) / 2 = (mid : Int) := by omega
  rw [← hmd] at hmid
  have hm1 : a < mid := by omega
  have hm2 : mid < b := by omega
  have hm3 : 2 * mid ≤ a + b := by omega
  have hm4 : a + b ≤ 2 * mid + 1 := by omega
  replace hmd := hid hmd
  have HV := hid hw
  have HB := hid (Below.refl base w)
  have hbd := HH.bounds
  replace HH := hid HH
  have mixed : Tryz.prog.follows Departure.mixedOrders = true := by first | kernel_rfl | decide
  clear hw
  obtain ⟨d, hd⟩ : ∃ d, d = m - a := ⟨_, rfl⟩
  have k0 : IntKind.i64.wrap ((m : Int) - (a : Int)) = (d : Int) := by rw [IntWalk.i64_in _ (by omega)]; omega
  have k1 : ¬ (d : Int) = 1 := by omega
  have k1' : ((d : Int) == 1) = false := by simp; omega
  obtain ⟨d2, hd2⟩ : ∃ d, d = b - m := ⟨_, rfl⟩
  have k2 : IntKind.i64.wrap ((b : Int) - (m : Int)) = (d2 : Int) := by rw [IntWalk.i64_in _ (by omega)]; omega
  have k3 : ¬ (d2 : Int) = 1 := by omega
  have k3' : ((d2 : Int) == 1) = false := by simp; omega
  obtain ⟨nn, hnn⟩ : ∃ n, n = mid + m := ⟨_, rfl⟩
  have k4 : IntKind.i64.wrap ((mid : Int) + (m : Int)) = (nn : Int) := by rw [IntWalk.i64_in _ (by omega)]; omega
  obtain ⟨pq, hpq⟩ : ∃ n, n = mid + m - 1 := ⟨_, rfl⟩
  have k5 : IntKind.i64.wrap ((nn : Int) - 1) = (pq : Int) := by rw [IntWalk.i64_in _ (by omega)]; omega
  obtain ⟨s0, hs0⟩ : ∃ s, s = nn - b := ⟨_, rfl⟩
  have k6 : IntKind.i64.wrap ((nn : Int) - (b : Int)) = (s0 : Int) := by rw [IntWalk.i64_in _ (by omega)]; omega
  have hs1 : s0 + b ≤ mid + m := by omega
  have hs1' : mid + m ≤ s0 + b := by omega
  have hs2 : s0 < mid := by omega
  have hs3 : a ≤ s0 := by omega
  have hmz : (mid : Int) < (m : Int) := by omega
  replace hs0 := hid hs0
  have MO := hid (p3_mono (q := pq) (lo := s0) (hi := mid) HH.out (by omega) (by omega) (by omega) (by omega))
  
  replace hd := hid hd
  replace hd2 := hid hd2
  have HPQ := hpq
  replace hpq := hid hpq
  have HNN := hnn
  replace hnn := hid hnn
  have hpq1 : pq + 1 ≤ nn := by omega
  have hpq2 : nn ≤ pq + 1 := by omega
  have hnn1 : nn ≤ mid + m := by omega
  have hnn2 : mid + m ≤ nn := by omega
  clear HPQ HNN
  go_enter Tryz.func187, Tryz.ntmps187
  go_wp2
  go_loopg [20, 21] (mid - s0) (fun g1 vi vj wr => ∃ (i j : Nat), vi = .int .i64 (i : Int) ∧ vj = .int .i64 (j : Int) ∧ s0 ≤ i ∧ i ≤ j ∧ j ≤ mid ∧ j - i ≤ g1 ∧ Hid (wr.ownsRow base 89 12 (.slice (some ⟨g, 0, none⟩) N c) N (nodsL xs)) ∧ Hid (Below base w wr) ∧ Hid (BS (p3 xs pq) s0 mid i j))
  case atStart => exact ⟨s0, mid, by first | rfl | go_num, by first | rfl | go_num, Nat.le_refl _, by omega, Nat.le_refl _, by omega, HV, HB, hid (BS.start (by omega))⟩
  case round =>
    clear HV HB
    obtain ⟨i, j, rfl, rfl, hli, hij0, hjh, hg1, HV, HB, BSH⟩ := hrel
    by_cases hij : i < j
    · have hijz : (i : Int) < (j : Int) := by omega
      obtain ⟨h, hh⟩ : ∃ h, h = (i + j) / 2 := ⟨_, rfl⟩
      have em : ((i : Int) + (j : Int)) / 2 = (h : Int) := by omega
      have hhi : i ≤ h := by omega
      have hhj : h < j := by omega
      replace hh := hid hh
      obtain ⟨q, hq⟩ : ∃ q, q = pq - h := ⟨_, rfl⟩
      have kq : IntKind.i64.wrap ((pq : Int) - (h : Int)) = (q : Int) := by rw [IntWalk.i64_in _ (by omega)]; omega
      have hqN : q < N := by omega
      have hcr := hid (HH.out.cross (i := h) (j := q) (by omega) (by omega) (by omega) (by omega))
      have hp3 := hid (show p3 xs pq h = !leNP (nth xs h) (nth xs q) by unfold p3; rw [hq])
      replace hq := hid hq
      have hIl : q < xs.length := by omega
      have hJl : h < xs.length := by omega
      have zI : (q : Int) < (N : Int) := by omega
      have zJ : (h : Int) < (N : Int) := by omega
      obtain ⟨x, hx⟩ : ∃ x, x = xs[q] := ⟨_, rfl⟩
      obtain ⟨y, hy⟩ : ∃ y, y = xs[h] := ⟨_, rfl⟩
      have lx : ∀ Z, Z.ownsRow base 89 12 (.slice (some ⟨g, 0, none⟩) N c) N (nodsL xs) → Sem.run Tryz.prog (load12 ⟨g, q * 12, none⟩) Z = .ok x.cells Z := fun Z hZ => by rw [hx]; exact own_load hZ hIl
      have ly : ∀ Z, Z.ownsRow base 89 12 (.slice (some ⟨g, 0, none⟩) N c) N (nodsL xs) → Sem.run Tryz.prog (load12 ⟨g, h * 12, none⟩) Z = .ok y.cells Z := fun Z hZ => by rw [hy]; exact own_load hZ hJl
      obtain ⟨r, hr⟩ : ∃ r, r = ordS x.name y.name := ⟨_, rfl⟩
      have hcmp := hid (fun Z => kids1_any x y Z)
      rw [← hr] at hcmp
      have hrn := ordS_neg x.name y.name
      rw [← hr, hx, hy, nth_get hIl, nth_get hJl] at hrn
      replace lx := hid lx
      replace ly := hid ly
      replace hr := hid hr
      replace hx := hid hx
      replace hy := hid hy
      have HD : Hid (wr.drew.ownsRow base 89 12 (.slice (some ⟨g, 0, none⟩) N c) N (nodsL xs)) := HV
      have BD := hid (HB.out.trans (Below.refl base wr).drew)
      have qx := lx.out _ HD.out
      have qy := ly.out _ HD.out
      by_cases hlv : r < 0
      · rw [decide_eq_true hlv] at hrn
        replace hrn := hid hrn
        go_wp2_with fail
        go_region_held3 (fun W => Sem.run Tryz.prog (load12 ⟨g, q * 12, none⟩) W = .ok x.cells W ∧ Sem.run Tryz.prog (load12 ⟨g, h * 12, none⟩) W = .ok y.cells W)
          (first | exact ⟨lx.out _ HD.out, ly.out _ HD.out⟩ | exact ⟨qx, qy⟩ | go_keep)
          ((go_at_call 101; (with_reducible refine (hcmp.out _).mono ?_); rintro e w3 ⟨rfl, hb3⟩; replace BD := hid (BD.out.trans (hb3.mono (own_base HD.out))); replace HD := hid (own_below HD.out hb3)))
        go_wp2
        go_roundg (h - i)
        case measure => omega
        case rel => exact ⟨i, h, by first | rfl | go_num, by first | rfl | go_num, by omega, by omega, by omega, Nat.le_refl _, HD, BD, hid (BSH.out.down MO.out hhi hhj (by rw [hp3.out, hcr.out]; simpa using hrn.out))⟩
      · rw [decide_eq_false hlv] at hrn
        replace hrn := hid hrn
        go_wp2_with fail
        go_region_held3 (fun W => Sem.run Tryz.prog (load12 ⟨g, q * 12, none⟩) W = .ok x.cells W ∧ Sem.run Tryz.prog (load12 ⟨g, h * 12, none⟩) W = .ok y.cells W)
          (first | exact ⟨lx.out _ HD.out, ly.out _ HD.out⟩ | exact ⟨qx, qy⟩ | go_keep)
          ((go_at_call 101; (with_reducible refine (hcmp.out _).mono ?_); rintro e w3 ⟨rfl, hb3⟩; replace BD := hid (BD.out.trans (hb3.mono (own_base HD.out))); replace HD := hid (own_below HD.out hb3)))
        go_wp2
        rotate_left
        · exfalso; rename_i hq; simp at hq; omega
        go_roundg (j - (h + 1))
        case measure => omega
        case rel => exact ⟨h + 1, j, by first | rfl | go_num, by first | rfl | go_num, by omega, by omega, by omega, Nat.le_refl _, HD, BD, hid (BSH.out.up MO.out hhi hhj (by rw [hp3.out, hcr.out]; simpa using hrn.out))⟩
    · have hijz : ¬ (i : Int) < (j : Int) := by omega
      have hije : i = j := by omega
      subst hije
      have YM := HH.out.three (mid := mid) (by have := BSH.out; rw [hpq.out] at this; exact this) (by omega) (by omega) (by first | exact .inl ⟨by omega, rfl, rfl, by omega⟩ | exact .inr ⟨by omega, by omega, rfl, by omega, by omega⟩)
      obtain ⟨e, he⟩ : ∃ e, e = mid + m - i := ⟨_, rfl⟩
      rw [← he] at YM
      have hUU := hid (List.take_append_drop (i - a) U)
      have hVV := hid (List.take_append_drop (mid - i) V)
      generalize U.take (i - a) = U1 at YM hUU
      generalize U.drop (i - a) = U2 at YM hUU
      generalize V.take (mid - i) = V1 at YM hVV
      generalize V.drop (mid - i) = V2 at YM hVV
      have hlim : a ≤ i ∧ i ≤ m ∧ i ≤ mid ∧ m ≤ e ∧ mid ≤ e ∧ e ≤ b ∧ i + e ≤ mid + m ∧ mid + m ≤ i + e := by omega
      have ke : IntKind.i64.wrap ((nn : Int) - (i : Int)) = (e : Int) := by rw [IntWalk.i64_in _ (by omega)]; omega
      have hZ : (P ++ U1 ++ V1 ++ U2 ++ (V2 ++ S)).length = N := by rw [← hN, YM.eq]; simp only [List.length_append]; omega
      replace YM := hid YM
      replace he := hid he
      obtain ⟨st, hst⟩ : ∃ st, st = i := ⟨_, rfl⟩
      subst hst
      rcases Nat.lt_or_ge a st with q1 | q1 <;> rcases Nat.lt_or_ge st m with q2 | q2
      · rcases Nat.lt_or_ge m e with q3 | q3 <;> rcases Nat.lt_or_ge e b with q4 | q4
        · first
          | (exfalso; omega)
          | (have f1 : (st : Int) < (m : Int) := by omega
             have f2 : (m : Int) < (e : Int) := by omega
             have f3 : (a : Int) < (st : Int) := by omega
             have f4 : (st : Int) < (mid : Int) := by omega
             have f5 : (mid : Int) < (e : Int) := by omega
             have f6 : (e : Int) < (b : Int) := by omega
             go_wp2_with fail
             refine (rotR_any (.func (.func 101) #[] #[]) base g c st m e N (P ++ U1) U2 V1 (V2 ++ S) xs _ YM.out.eq YM.out.l2.symm YM.out.l3.symm YM.out.l4.symm hN HV.out (by have h2 := YM.out.l2; have h3 := YM.out.l3; simp only [List.length_append] at *; omega) (by have h3 := YM.out.l3; have h4 := YM.out.l4; simp only [List.length_append] at *; omega) hl).mono ?_
             rintro e1 w1 ⟨rfl, hv1, hb1⟩
             replace HV := hid hv1
             replace HB := hid (HB.out.trans hb1)
             clear hv1 hb1
             go_wp2_with fail
             refine (IH.out a st mid P U1 V1 (U2 ++ (V2 ++ S)) _ _ YM.out.left (by omega) (by omega) (by omega) hZ HV.out).mono ?_
             rintro e2 w2 ⟨rfl, ys1, hy1, hv1, hb1, hm1⟩
             replace HV := hid hv1
             replace HB := hid (HB.out.trans hb1)
             clear hv1 hb1
             obtain ⟨T1, hT1⟩ := hm1.rgt
             replace hT1 := hid hT1
             go_wp2_with fail
             refine (IH.out mid e b (P ++ T1) U2 V2 S ys1 _ (YM.out.right hT1.out) (by omega) (by omega) (by omega) hy1 HV.out).mono ?_
             rintro e3 w3 ⟨rfl, ys2, hy2, hv1, hb1, hm2⟩
             replace HV := hid hv1
             replace HB := hid (HB.out.trans hb1)
             clear hv1 hb1
             replace hm2 := hid hm2
             go_wp2_with fail
             go_wp2
             go_end0
             exact ⟨rfl, ys2, hy2, HV.out, HB.out, by have := YM.out.whole hT1.out hm2.out; rwa [hUU.out, hVV.out] at this⟩)
        · first
          | (exfalso; omega)
          | (have f1 : (st : Int) < (m : Int) := by omega
             have f2 : (m : Int) < (e : Int) := by omega
             have f3 : (a : Int) < (st : Int) := by omega
             have f4 : (st : Int) < (mid : Int) := by omega
             have f5 : (mid : Int) < (e : Int) := by omega
             have f6 : ¬ (e : Int) < (b : Int) := by omega
             go_wp2_with fail
             refine (rotR_any (.func (.func 101) #[] #[]) base g c st m e N (P ++ U1) U2 V1 (V2 ++ S) xs _ YM.out.eq YM.out.l2.symm YM.out.l3.symm YM.out.l4.symm hN HV.out (by have h2 := YM.out.l2; have h3 := YM.out.l3; simp only [List.length_append] at *; omega) (by have h3 := YM.out.l3; have h4 := YM.out.l4; simp only [List.length_append] at *; omega) hl).mono ?_
             rintro e1 w1 ⟨rfl, hv1, hb1⟩
             replace HV := hid hv1
             replace HB := hid (HB.out.trans hb1)
             clear hv1 hb1
             go_wp2_with fail
             refine (IH.out a st mid P U1 V1 (U2 ++ (V2 ++ S)) _ _ YM.out.left (by omega) (by omega) (by omega) hZ HV.out).mono ?_
             rintro e2 w2 ⟨rfl, ys1, hy1, hv1, hb1, hm1⟩
             replace HV := hid hv1
             replace HB := hid (HB.out.trans hb1)
             clear hv1 hb1
             obtain ⟨T1, hT1⟩ := hm1.rgt
             replace hT1 := hid hT1
             go_wp2_with fail
             have hm2 := hid (YM.out.right0 hT1.out (by omega))
             have hy2 := hy1
             obtain ⟨ys2, hys2⟩ : ∃ ys2, ys2 = ys1 := ⟨_, rfl⟩
             rw [← hys2] at hm2 hy2 HV
             replace hys2 := hid hys2
             go_wp2
             go_end0
             exact ⟨rfl, ys2, hy2, HV.out, HB.out, by have := YM.out.whole hT1.out hm2.out; rwa [hUU.out, hVV.out] at this⟩)
        · first
          | (exfalso; omega)
          | (have f1 : (st : Int) < (m : Int) := by omega
             have f2 : ¬ (m : Int) < (e : Int) := by omega
             have f3 : (a : Int) < (st : Int) := by omega
             have f4 : ¬ (st : Int) < (mid : Int) := by omega
             have f5 : (mid : Int) < (e : Int) := by omega
             have f6 : (e : Int) < (b : Int) := by omega
             go_wp2_with fail
             have htu := YM.out.turned (by omega)
             have HV0 := HV.out
             rw [htu] at HV0
             replace HV := hid HV0
             clear HV0
             replace htu := hid htu
             obtain ⟨T1, hT1⟩ := (YM.out.left0 (by omega)).rgt
             obtain ⟨ys1, hys1⟩ : ∃ ys1, ys1 = P ++ U1 ++ V1 ++ U2 ++ (V2 ++ S) := ⟨_, rfl⟩
             rw [← hys1] at hT1 HV
             have hy1 : ys1.length = N := by rw [hys1]; exact hZ
             replace hys1 := hid hys1
             replace hT1 := hid hT1
             refine (IH.out mid e b (P ++ T1) U2 V2 S ys1 _ (YM.out.right hT1.out) (by omega) (by omega) (by omega) hy1 HV.out).mono ?_
             rintro e3 w3 ⟨rfl, ys2, hy2, hv1, hb1, hm2⟩
             replace HV := hid hv1
             replace HB := hid (HB.out.trans hb1)
             clear hv1 hb1
             replace hm2 := hid hm2
             go_wp2_with fail
             go_wp2
             go_end0
             exact ⟨rfl, ys2, hy2, HV.out, HB.out, by have := YM.out.whole hT1.out hm2.out; rwa [hUU.out, hVV.out] at this⟩)
        · omega
      · rcases Nat.lt_or_ge m e with q3 | q3 <;> rcases Nat.lt_or_ge e b with q4 | q4
        · first
          | (exfalso; omega)
          | (have f1 : ¬ (st : Int) < (m : Int) := by omega
             have f2 : (m : Int) < (e : Int) := by omega
             have f3 : (a : Int) < (st : Int) := by omega
             have f4 : (st : Int) < (mid : Int) := by omega
             have f5 : ¬ (mid : Int) < (e : Int) := by omega
             have f6 : (e : Int) < (b : Int) := by omega
             go_wp2_with fail
             have htu := YM.out.turned (by omega)
             have HV0 := HV.out
             rw [htu] at HV0
             replace HV := hid HV0
             clear HV0
             replace htu := hid htu
             refine (IH.out a st mid P U1 V1 (U2 ++ (V2 ++ S)) _ _ YM.out.left (by omega) (by omega) (by omega) hZ HV.out).mono ?_
             rintro e2 w2 ⟨rfl, ys1, hy1, hv1, hb1, hm1⟩
             replace HV := hid hv1
             replace HB := hid (HB.out.trans hb1)
             clear hv1 hb1
             obtain ⟨T1, hT1⟩ := hm1.rgt
             replace hT1 := hid hT1
             go_wp2_with fail
             have hm2 := hid (YM.out.right0 hT1.out (by omega))
             have hy2 := hy1
             obtain ⟨ys2, hys2⟩ : ∃ ys2, ys2 = ys1 := ⟨_, rfl⟩
             rw [← hys2] at hm2 hy2 HV
             replace hys2 := hid hys2
             go_wp2
             go_end0
             exact ⟨rfl, ys2, hy2, HV.out, HB.out, by have := YM.out.whole hT1.out hm2.out; rwa [hUU.out, hVV.out] at this⟩)
        · first
          | (exfalso; omega)
          | (have f1 : ¬ (st : Int) < (m : Int) := by omega
             have f2 : (m : Int) < (e : Int) := by omega
             have f3 : (a : Int) < (st : Int) := by omega
             have f4 : (st : Int) < (mid : Int) := by omega
             have f5 : ¬ (mid : Int) < (e : Int) := by omega
             have f6 : ¬ (e : Int) < (b : Int) := by omega
             go_wp2_with fail
             have htu := YM.out.turned (by omega)
             have HV0 := HV.out
             rw [htu] at HV0
             replace HV := hid HV0
             clear HV0
             replace htu := hid htu
             refine (IH.out a st mid P U1 V1 (U2 ++ (V2 ++ S)) _ _ YM.out.left (by omega) (by omega) (by omega) hZ HV.out).mono ?_
             rintro e2 w2 ⟨rfl, ys1, hy1, hv1, hb1, hm1⟩
             replace HV := hid hv1
             replace HB := hid (HB.out.trans hb1)
             clear hv1 hb1
             obtain ⟨T1, hT1⟩ := hm1.rgt
             replace hT1 := hid hT1
             go_wp2_with fail
             have hm2 := hid (YM.out.right0 hT1.out (by omega))
             have hy2 := hy1
             obtain ⟨ys2, hys2⟩ : ∃ ys2, ys2 = ys1 := ⟨_, rfl⟩
             rw [← hys2] at hm2 hy2 HV
             replace hys2 := hid hys2
             go_wp2
             go_end0
             exact ⟨rfl, ys2, hy2, HV.out, HB.out, by have := YM.out.whole hT1.out hm2.out; rwa [hUU.out, hVV.out] at this⟩)
        · first
          | (exfalso; omega)
          | (have f1 : ¬ (st : Int) < (m : Int) := by omega
             have f2 : ¬ (m : Int) < (e : Int) := by omega
             have f3 : (a : Int) < (st : Int) := by omega
             have f4 : ¬ (st : Int) < (mid : Int) := by omega
             have f5 : ¬ (mid : Int) < (e : Int) := by omega
             have f6 : (e : Int) < (b : Int) := by omega
             go_wp2_with fail
             have htu := YM.out.turned (by omega)
             have HV0 := HV.out
             rw [htu] at HV0
             replace HV := hid HV0
             clear HV0
             replace htu := hid htu
             obtain ⟨T1, hT1⟩ := (YM.out.left0 (by omega)).rgt
             obtain ⟨ys1, hys1⟩ : ∃ ys1, ys1 = P ++ U1 ++ V1 ++ U2 ++ (V2 ++ S) := ⟨_, rfl⟩
             rw [← hys1] at hT1 HV
             have hy1 : ys1.length = N := by rw [hys1]; exact hZ
             replace hys1 := hid hys1
             replace hT1 := hid hT1
             have hm2 := hid (YM.out.right0 hT1.out (by omega))
             have hy2 := hy1
             obtain ⟨ys2, hys2⟩ : ∃ ys2, ys2 = ys1 := ⟨_, rfl⟩
             rw [← hys2] at hm2 hy2 HV
             replace hys2 := hid hys2
             go_wp2
             go_end0
             exact ⟨rfl, ys2, hy2, HV.out, HB.out, by have := YM.out.whole hT1.out hm2.out; rwa [hUU.out, hVV.out] at this⟩)
        · omega
      · rcases Nat.lt_or_ge m e with q3 | q3 <;> rcases Nat.lt_or_ge e b with q4 | q4
        · first
          | (exfalso; omega)
          | (have f1 : (st : Int) < (m : Int) := by omega
             have f2 : (m : Int) < (e : Int) := by omega
             have f3 : ¬ (a : Int) < (st : Int) := by omega
             have f4 : (st : Int) < (mid : Int) := by omega
             have f5 : (mid : Int) < (e : Int) := by omega
             have f6 : (e : Int) < (b : Int) := by omega
             go_wp2_with fail
             refine (rotR_any (.func (.func 101) #[] #[]) base g c st m e N (P ++ U1) U2 V1 (V2 ++ S) xs _ YM.out.eq YM.out.l2.symm YM.out.l3.symm YM.out.l4.symm hN HV.out (by have h2 := YM.out.l2; have h3 := YM.out.l3; simp only [List.length_append] at *; omega) (by have h3 := YM.out.l3; have h4 := YM.out.l4; simp only [List.length_append] at *; omega) hl).mono ?_
             rintro e1 w1 ⟨rfl, hv1, hb1⟩
             replace HV := hid hv1
             replace HB := hid (HB.out.trans hb1)
             clear hv1 hb1
             go_wp2_with fail
             obtain ⟨T1, hT1⟩ := (YM.out.left0 (by omega)).rgt
             obtain ⟨ys1, hys1⟩ : ∃ ys1, ys1 = P ++ U1 ++ V1 ++ U2 ++ (V2 ++ S) := ⟨_, rfl⟩
             rw [← hys1] at hT1 HV
             have hy1 : ys1.length = N := by rw [hys1]; exact hZ
             replace hys1 := hid hys1
             replace hT1 := hid hT1
             refine (IH.out mid e b (P ++ T1) U2 V2 S ys1 _ (YM.out.right hT1.out) (by omega) (by omega) (by omega) hy1 HV.out).mono ?_
             rintro e3 w3 ⟨rfl, ys2, hy2, hv1, hb1, hm2⟩
             replace HV := hid hv1
             replace HB := hid (HB.out.trans hb1)
             clear hv1 hb1
             replace hm2 := hid hm2
             go_wp2_with fail
             go_wp2
             go_end0
             exact ⟨rfl, ys2, hy2, HV.out, HB.out, by have := YM.out.whole hT1.out hm2.out; rwa [hUU.out, hVV.out] at this⟩)
        · first
          | (exfalso; omega)
          | (have f1 : (st : Int) < (m : Int) := by omega
             have f2 : (m : Int) < (e : Int) := by omega
             have f3 : ¬ (a : Int) < (st : Int) := by omega
             have f4 : (st : Int) < (mid : Int) := by omega
             have f5 : (mid : Int) < (e : Int) := by omega
             have f6 : ¬ (e : Int) < (b : Int) := by omega
             go_wp2_with fail
             refine (rotR_any (.func (.func 101) #[] #[]) base g c st m e N (P ++ U1) U2 V1 (V2 ++ S) xs _ YM.out.eq YM.out.l2.symm YM.out.l3.symm YM.out.l4.symm hN HV.out (by have h2 := YM.out.l2; have h3 := YM.out.l3; simp only [List.length_append] at *; omega) (by have h3 := YM.out.l3; have h4 := YM.out.l4; simp only [List.length_append] at *; omega) hl).mono ?_
             rintro e1 w1 ⟨rfl, hv1, hb1⟩
             replace HV := hid hv1
             replace HB := hid (HB.out.trans hb1)
             clear hv1 hb1
             go_wp2_with fail
             obtain ⟨T1, hT1⟩ := (YM.out.left0 (by omega)).rgt
             obtain ⟨ys1, hys1⟩ : ∃ ys1, ys1 = P ++ U1 ++ V1 ++ U2 ++ (V2 ++ S) := ⟨_, rfl⟩
             rw [← hys1] at hT1 HV
             have hy1 : ys1.length = N := by rw [hys1]; exact hZ
             replace hys1 := hid hys1
             replace hT1 := hid hT1
             have hm2 := hid (YM.out.right0 hT1.out (by omega))
             have hy2 := hy1
             obtain ⟨ys2, hys2⟩ : ∃ ys2, ys2 = ys1 := ⟨_, rfl⟩
             rw [← hys2] at hm2 hy2 HV
             replace hys2 := hid hys2
             go_wp2
             go_end0
             exact ⟨rfl, ys2, hy2, HV.out, HB.out, by have := YM.out.whole hT1.out hm2.out; rwa [hUU.out, hVV.out] at this⟩)
        · first
          | (exfalso; omega)
          | (have f1 : (st : Int) < (m : Int) := by omega
             have f2 : ¬ (m : Int) < (e : Int) := by omega
             have f3 : ¬ (a : Int) < (st : Int) := by omega
             have f4 : ¬ (st : Int) < (mid : Int) := by omega
             have f5 : (mid : Int) < (e : Int) := by omega
             have f6 : (e : Int) < (b : Int) := by omega
             go_wp2_with fail
             have htu := YM.out.turned (by omega)
             have HV0 := HV.out
             rw [htu] at HV0
             replace HV := hid HV0
             clear HV0
             replace htu := hid htu
             obtain ⟨T1, hT1⟩ := (YM.out.left0 (by omega)).rgt
             obtain ⟨ys1, hys1⟩ : ∃ ys1, ys1 = P ++ U1 ++ V1 ++ U2 ++ (V2 ++ S) := ⟨_, rfl⟩
             rw [← hys1] at hT1 HV
             have hy1 : ys1.length = N := by rw [hys1]; exact hZ
             replace hys1 := hid hys1
             replace hT1 := hid hT1
             refine (IH.out mid e b (P ++ T1) U2 V2 S ys1 _ (YM.out.right hT1.out) (by omega) (by omega) (by omega) hy1 HV.out).mono ?_
             rintro e3 w3 ⟨rfl, ys2, hy2, hv1, hb1, hm2⟩
             replace HV := hid hv1
             replace HB := hid (HB.out.trans hb1)
             clear hv1 hb1
             replace hm2 := hid hm2
             go_wp2_with fail
             go_wp2
             go_end0
             exact ⟨rfl, ys2, hy2, HV.out, HB.out, by have := YM.out.whole hT1.out hm2.out; rwa [hUU.out, hVV.out] at this⟩)
        · omega
      · omega
end
end Go.Proofs.YtkefjeabckainaaGreat

namespace Go.Proofs.YtkefjeabckainaaGreat
section
open Go.RowKit
set_option maxRecDepth 100000
set_option linter.unusedVariables false
attribute [local go_sem ↓] load12_eq

set_option maxHeartbeats 25600000 in
theorem sym3b_any (base g c a m b N : Nat) (P U V S xs : List Nod) (w : World) (HH : Hv xs a m b P U V S) (hN : xs.length = N) (hl : N ≤ 1000) (hw : w.ownsRow base 89 12 (.slice (some ⟨g, 0, none⟩) N c) N (nodsL xs)) (BA : Nat) (hBA : b - a ≤ BA) (hm : a + 1 < m) (hb : m + 1 < b) (hmid : m ≤ (a + b) / 2)
    (ih : ∀ (a m b2 : Nat) (P U V S xs : List Nod) (w : World), Hv xs a m b2 P U V S → a < m → m < b2 → b2 - a < BA → xs.length = N → w.ownsRow base 89 12 (.slice (some ⟨g, 0, none⟩) N c) N (nodsL xs) → Calls Tryz.prog 187 #[.slice (some ⟨g, 0, none⟩) N c, .int .i64 (a : Int), .int .i64 (m : Int), .int .i64 (b2 : Int), (.func (.func 101) #[] #[])] w fun e w' => e = .returned (.tuple #[]) ∧ ∃ ys, ys.length = N ∧ w'.ownsRow base 89 12 (.slice (some ⟨g, 0, none⟩) N c) N (nodsL ys) ∧ Below base w w' ∧ Mrg P U V S ys)  :
    Calls Tryz.prog 187 #[.slice (some ⟨g, 0, none⟩) N c, .int .i64 (a : Int), .int .i64 (m : Int), .int .i64 (b : Int), (.func (.func 101) #[] #[])] w fun e w' => e = .returned (.tuple #[]) ∧ ∃ ys, ys.length = N ∧ w'.ownsRow base 89 12 (.slice (some ⟨g, 0, none⟩) N c) N (nodsL ys) ∧ Below base w w' ∧ Mrg P U V S ys := by
  have IH := hid ih
  clear ih
  obtain ⟨mid, hmd⟩ : ∃ mid, mid = (a + b) / 2 := ⟨_, rfl⟩
  have em0 : ((a : Int) + (b : Int)) / 2 = (mid : Int) := by omega
  rw [← hmd] at hmid
  have hm1 : a < mid := by omega
  have hm2 : mid < b := by omega
  have hm3 : 2 * mid ≤ a + b := by omega
  have hm4 : a + b ≤ 2 * mid + 1 := by omega
  replace hmd := hid hmd
  have HV := hid hw
  have HB := hid (Below.refl base w)
  have hbd := HH.bounds
  replace HH := hid HH
  have mixed : Tryz.prog.follows Departure.mixedOrders = true := by first | kernel_rfl | decide
  clear hw
  obtain ⟨d, hd⟩ : ∃ d, d = m - a := ⟨_, rfl⟩
  have k0 : IntKind.i64.wrap ((m : Int) - (a : Int)) = (d : Int) := by rw [IntWalk.i64_in _ (by omega)]; omega
  have k1 : ¬ (d : Int) = 1 := by omega
  have k1' : ((d : Int) == 1) = false := by simp; omega
  obtain ⟨d2, hd2⟩ : ∃ d, d = b - m := ⟨_, rfl⟩
  have k2 : IntKind.i64.wrap ((b : Int) - (m : Int)) = (d2 : Int) := by rw [IntWalk.i64_in _ (by omega)]; omega
  have k3 : ¬ (d2 : Int) = 1 := by omega
  have k3' : ((d2 : Int) == 1) = false := by simp; omega
  obtain ⟨nn, hnn⟩ : ∃ n, n = mid + m := ⟨_, rfl⟩
  have k4 : IntKind.i64.wrap ((mid : Int) + (m : Int)) = (nn : Int) := by rw [IntWalk.i64_in _ (by omega)]; omega
  obtain ⟨pq, hpq⟩ : ∃ n, n = mid + m - 1 := ⟨_, rfl⟩
  have k5 : IntKind.i64.wrap ((nn : Int) - 1) = (pq : Int) := by rw [IntWalk.i64_in _ (by omega)]; omega
  have hmz : ¬ (mid : Int) < (m : Int) := by omega
  have MO := hid (p3_mono (q := pq) (lo := a) (hi := m) HH.out (by omega) (by omega) (by omega) (by omega))
  
  replace hd := hid hd
  replace hd2 := hid hd2
  have HPQ := hpq
  replace hpq := hid hpq
  have HNN := hnn
  replace hnn := hid hnn
  have hpq1 : pq + 1 ≤ nn := by omega
  have hpq2 : nn ≤ pq + 1 := by omega
  have hnn1 : nn ≤ mid + m := by omega
  have hnn2 : mid + m ≤ nn := by omega
  clear HPQ HNN
  go_enter Tryz.func187, Tryz.ntmps187
  go_wp2
  go_loopg [20, 21] (m - a) (fun g1 vi vj wr => ∃ (i j : Nat), vi = .int .i64 (i : Int) ∧ vj = .int .i64 (j : Int) ∧ a ≤ i ∧ i ≤ j ∧ j ≤ m ∧ j - i ≤ g1 ∧ Hid (wr.ownsRow base 89 12 (.slice (some ⟨g, 0, none⟩) N c) N (nodsL xs)) ∧ Hid (Below base w wr) ∧ Hid (BS (p3 xs pq) a m i j))
  case atStart => exact ⟨a, m, by first | rfl | go_num, by first | rfl | go_num, Nat.le_refl _, by omega, Nat.le_refl _, by omega, HV, HB, hid (BS.start (by omega))⟩
  case round =>
    clear HV HB
    obtain ⟨i, j, rfl, rfl, hli, hij0, hjh, hg1, HV, HB, BSH⟩ := hrel
    by_cases hij : i < j
    · have hijz : (i : Int) < (j : Int) := by omega
      obtain ⟨h, hh⟩ : ∃ h, h = (i + j) / 2 := ⟨_, rfl⟩
      have em : ((i : Int) + (j : Int)) / 2 = (h : Int) := by omega
      have hhi : i ≤ h := by omega
      have hhj : h < j := by omega
      replace hh := hid hh
      obtain ⟨q, hq⟩ : ∃ q, q = pq - h := ⟨_, rfl⟩
      have kq : IntKind.i64.wrap ((pq : Int) - (h : Int)) = (q : Int) := by rw [IntWalk.i64_in _ (by omega)]; omega
      have hqN : q < N := by omega
      have hcr := hid (HH.out.cross (i := h) (j := q) (by omega) (by omega) (by omega) (by omega))
      have hp3 := hid (show p3 xs pq h = !leNP (nth xs h) (nth xs q) by unfold p3; rw [hq])
      replace hq := hid hq
      have hIl : q < xs.length := by omega
      have hJl : h < xs.length := by omega
      have zI : (q : Int) < (N : Int) := by omega
      have zJ : (h : Int) < (N : Int) := by omega
      obtain ⟨x, hx⟩ : ∃ x, x = xs[q] := ⟨_, rfl⟩
      obtain ⟨y, hy⟩ : ∃ y, y = xs[h] := ⟨_, rfl⟩
      have lx : ∀ Z, Z.ownsRow base 89 12 (.slice (some ⟨g, 0, none⟩) N c) N (nodsL xs) → Sem.run Tryz.prog (load12 ⟨g, q * 12, none⟩) Z = .ok x.cells Z := fun Z hZ => by rw [hx]; exact own_load hZ hIl
      have ly : ∀ Z, Z.ownsRow base 89 12 (.slice (some ⟨g, 0, none⟩) N c) N (nodsL xs) → Sem.run Tryz.prog (load12 ⟨g, h * 12, none⟩) Z = .ok y.cells Z := fun Z hZ => by rw [hy]; exact own_load hZ hJl
      obtain ⟨r, hr⟩ : ∃ r, r = ordS x.name y.name := ⟨_, rfl⟩
      have hcmp := hid (fun Z => kids1_any x y Z)
      rw [← hr] at hcmp
      have hrn := ordS_neg x.name y.name
      rw [← hr, hx, hy, nth_get hIl, nth_get hJl] at hrn
      replace lx := hid lx
      replace ly := hid ly
      replace hr := hid hr
      replace hx := hid hx
      replace hy := hid hy
      have HD : Hid (wr.drew.ownsRow base 89 12 (.slice (some ⟨g, 0, none⟩) N c) N (nodsL xs)) := HV
      have BD := hid (HB.out.trans (Below.refl base wr).drew)
      have qx := lx.out _ HD.out
      have qy := ly.out _ HD.out
      by_cases hlv : r < 0
      · rw [decide_eq_true hlv] at hrn
        replace hrn := hid hrn
        go_wp2_with fail
        go_region_held3 (fun W => Sem.run Tryz.prog (load12 ⟨g, q * 12, none⟩) W = .ok x.cells W ∧ Sem.run Tryz.prog (load12 ⟨g, h * 12, none⟩) W = .ok y.cells W)
          (first | exact ⟨lx.out _ HD.out, ly.out _ HD.out⟩ | exact ⟨qx, qy⟩ | go_keep)
          ((go_at_call 101; (with_reducible refine (hcmp.out _).mono ?_); rintro e w3 ⟨rfl, hb3⟩; replace BD := hid (BD.out.trans (hb3.mono (own_base HD.out))); replace HD := hid (own_below HD.out hb3)))
        go_wp2
        go_roundg (h - i)
        case measure => omega
        case rel => exact ⟨i, h, by first | rfl | go_num, by first | rfl | go_num, by omega, by omega, by omega, Nat.le_refl _, HD, BD, hid (BSH.out.down MO.out hhi hhj (by rw [hp3.out, hcr.out]; simpa using hrn.out))⟩
      · rw [decide_eq_false hlv] at hrn
        replace hrn := hid hrn
        go_wp2_with fail
        go_region_held3 (fun W => Sem.run Tryz.prog (load12 ⟨g, q * 12, none⟩) W = .ok x.cells W ∧ Sem.run Tryz.prog (load12 ⟨g, h * 12, none⟩) W = .ok y.cells W)
          (first | exact ⟨lx.out _ HD.out, ly.out _ HD.out⟩ | exact ⟨qx, qy⟩ | go_keep)
          ((go_at_call 101; (with_reducible refine (hcmp.out _).mono ?_); rintro e w3 ⟨rfl, hb3⟩; replace BD := hid (BD.out.trans (hb3.mono (own_base HD.out))); replace HD := hid (own_below HD.out hb3)))
        go_wp2
        rotate_left
        · exfalso; rename_i hq; simp at hq; omega
        go_roundg (j - (h + 1))
        case measure => omega
        case rel => exact ⟨h + 1, j, by first | rfl | go_num, by first | rfl | go_num, by omega, by omega, by omega, Nat.le_refl _, HD, BD, hid (BSH.out.up MO.out hhi hhj (by rw [hp3.out, hcr.out]; simpa using hrn.out))⟩
    · have hijz : ¬ (i : Int) < (j : Int) := by omega
      have hije : i = j := by omega
      subst hije
      have YM := HH.out.three (mid := mid) (by have := BSH.out; rw [hpq.out] at this; exact this) (by omega) (by omega) (by first | exact .inl ⟨by omega, rfl, rfl, by omega⟩ | exact .inr ⟨by omega, by omega, rfl, by omega, by omega⟩)
      obtain ⟨e, he⟩ : ∃ e, e = mid + m - i := ⟨_, rfl⟩
      rw [← he] at YM
      have hUU := hid (List.take_append_drop (i - a) U)
      have hVV := hid (List.take_append_drop (mid - i) V)
      generalize U.take (i - a) = U1 at YM hUU
      generalize U.drop (i - a) = U2 at YM hUU
      generalize V.take (mid - i) = V1 at YM hVV
      generalize V.drop (mid - i) = V2 at YM hVV
      have hlim : a ≤ i ∧ i ≤ m ∧ i ≤ mid ∧ m ≤ e ∧ mid ≤ e ∧ e ≤ b ∧ i + e ≤ mid + m ∧ mid + m ≤ i + e := by omega
      have ke : IntKind.i64.wrap ((nn : Int) - (i : Int)) = (e : Int) := by rw [IntWalk.i64_in _ (by omega)]; omega
      have hZ : (P ++ U1 ++ V1 ++ U2 ++ (V2 ++ S)).length = N := by rw [← hN, YM.eq]; simp only [List.length_append]; omega
      replace YM := hid YM
      replace he := hid he
      obtain ⟨st, hst⟩ : ∃ st, st = i := ⟨_, rfl⟩
      subst hst
      rcases Nat.lt_or_ge a st with q1 | q1 <;> rcases Nat.lt_or_ge st m with q2 | q2
      · rcases Nat.lt_or_ge m e with q3 | q3 <;> rcases Nat.lt_or_ge e b with q4 | q4
        · first
          | (exfalso; omega)
          | (have f1 : (st : Int) < (m : Int) := by omega
             have f2 : (m : Int) < (e : Int) := by omega
             have f3 : (a : Int) < (st : Int) := by omega
             have f4 : (st : Int) < (mid : Int) := by omega
             have f5 : (mid : Int) < (e : Int) := by omega
             have f6 : (e : Int) < (b : Int) := by omega
             go_wp2_with fail
             refine (rotR_any (.func (.func 101) #[] #[]) base g c st m e N (P ++ U1) U2 V1 (V2 ++ S) xs _ YM.out.eq YM.out.l2.symm YM.out.l3.symm YM.out.l4.symm hN HV.out (by have h2 := YM.out.l2; have h3 := YM.out.l3; simp only [List.length_append] at *; omega) (by have h3 := YM.out.l3; have h4 := YM.out.l4; simp only [List.length_append] at *; omega) hl).mono ?_
             rintro e1 w1 ⟨rfl, hv1, hb1⟩
             replace HV := hid hv1
             replace HB := hid (HB.out.trans hb1)
             clear hv1 hb1
             go_wp2_with fail
             refine (IH.out a st mid P U1 V1 (U2 ++ (V2 ++ S)) _ _ YM.out.left (by omega) (by omega) (by omega) hZ HV.out).mono ?_
             rintro e2 w2 ⟨rfl, ys1, hy1, hv1, hb1, hm1⟩
             replace HV := hid hv1
             replace HB := hid (HB.out.trans hb1)
             clear hv1 hb1
             obtain ⟨T1, hT1⟩ := hm1.rgt
             replace hT1 := hid hT1
             go_wp2_with fail
             refine (IH.out mid e b (P ++ T1) U2 V2 S ys1 _ (YM.out.right hT1.out) (by omega) (by omega) (by omega) hy1 HV.out).mono ?_
             rintro e3 w3 ⟨rfl, ys2, hy2, hv1, hb1, hm2⟩
             replace HV := hid hv1
             replace HB := hid (HB.out.trans hb1)
             clear hv1 hb1
             replace hm2 := hid hm2
             go_wp2_with fail
             go_wp2
             go_end0
             exact ⟨rfl, ys2, hy2, HV.out, HB.out, by have := YM.out.whole hT1.out hm2.out; rwa [hUU.out, hVV.out] at this⟩)
        · first
          | (exfalso; omega)
          | (have f1 : (st : Int) < (m : Int) := by omega
             have f2 : (m : Int) < (e : Int) := by omega
             have f3 : (a : Int) < (st : Int) := by omega
             have f4 : (st : Int) < (mid : Int) := by omega
             have f5 : (mid : Int) < (e : Int) := by omega
             have f6 : ¬ (e : Int) < (b : Int) := by omega
             go_wp2_with fail
             refine (rotR_any (.func (.func 101) #[] #[]) base g c st m e N (P ++ U1) U2 V1 (V2 ++ S) xs _ YM.out.eq YM.out.l2.symm YM.out.l3.symm YM.out.l4.symm hN HV.out (by have h2 := YM.out.l2; have h3 := YM.out.l3; simp only [List.length_append] at *; omega) (by have h3 := YM.out.l3; have h4 := YM.out.l4; simp only [List.length_append] at *; omega) hl).mono ?_
             rintro e1 w1 ⟨rfl, hv1, hb1⟩
             replace HV := hid hv1
             replace HB := hid (HB.out.trans hb1)
             clear hv1 hb1
             go_wp2_with fail
             refine (IH.out a st mid P U1 V1 (U2 ++ (V2 ++ S)) _ _ YM.out.left (by omega) (by omega) (by omega) hZ HV.out).mono ?_
             rintro e2 w2 ⟨rfl, ys1, hy1, hv1, hb1, hm1⟩
             replace HV := hid hv1
             replace HB := hid (HB.out.trans hb1)
             clear hv1 hb1
             obtain ⟨T1, hT1⟩ := hm1.rgt
             replace hT1 := hid hT1
             go_wp2_with fail
             have hm2 := hid (YM.out.right0 hT1.out (by omega))
             have hy2 := hy1
             obtain ⟨ys2, hys2⟩ : ∃ ys2, ys2 = ys1 := ⟨_, rfl⟩
             rw [← hys2] at hm2 hy2 HV
             replace hys2 := hid hys2
             go_wp2
             go_end0
             exact ⟨rfl, ys2, hy2, HV.out, HB.out, by have := YM.out.whole hT1.out hm2.out; rwa [hUU.out, hVV.out] at this⟩)
        · first
          | (exfalso; omega)
          | (have f1 : (st : Int) < (m : Int) := by omega
             have f2 : ¬ (m : Int) < (e : Int) := by omega
             have f3 : (a : Int) < (st : Int) := by omega
             have f4 : ¬ (st : Int) < (mid : Int) := by omega
             have f5 : (mid : Int) < (e : Int) := by omega
             have f6 : (e : Int) < (b : Int) := by omega
             go_wp2_with fail
             have htu := YM.out.turned (by omega)
             have HV0 := HV.out
             rw [htu] at HV0
             replace HV := hid HV0
             clear HV0
             replace htu := hid htu
             obtain ⟨T1, hT1⟩ := (YM.out.left0 (by omega)).rgt
             obtain ⟨ys1, hys1⟩ : ∃ ys1, ys1 = P ++ U1 ++ V1 ++ U2 ++ (V2 ++ S) := ⟨_, rfl⟩
             rw [← hys1] at hT1 HV
             have hy1 : ys1.length = N := by rw [hys1]; exact hZ
             replace hys1 := hid hys1
             replace hT1 := hid hT1
             refine (IH.out mid e b (P ++ T1) U2 V2 S ys1 _ (YM.out.right hT1.out) (by omega) (by omega) (by omega) hy1 HV.out).mono ?_
             rintro e3 w3 ⟨rfl, ys2, hy2, hv1, hb1, hm2⟩
             replace HV := hid hv1
             replace HB := hid (HB.out.trans hb1)
             clear hv1 hb1
             replace hm2 := hid hm2
             go_wp2_with fail
             go_wp2
             go_end0
             exact ⟨rfl, ys2, hy2, HV.out, HB.out, by have := YM.out.whole hT1.out hm2.out; rwa [hUU.out, hVV.out] at this⟩)
        · omega
      · rcases Nat.lt_or_ge m e with q3 | q3 <;> rcases Nat.lt_or_ge e b with q4 | q4
        · first
          | (exfalso; omega)
          | (have f1 : ¬ (st : Int) < (m : Int) := by omega
             have f2 : (m : Int) < (e : Int) := by omega
             have f3 : (a : Int) < (st : Int) := by omega
             have f4 : (st : Int) < (mid : Int) := by omega
             have f5 : ¬ (mid : Int) < (e : Int) := by omega
             have f6 : (e : Int) < (b : Int) := by omega
             go_wp2_with fail
             have htu := YM.out.turned (by omega)
             have HV0 := HV.out
             rw [htu] at HV0
             replace HV := hid HV0
             clear HV0
             replace htu := hid htu
             refine (IH.out a st mid P U1 V1 (U2 ++ (V2 ++ S)) _ _ YM.out.left (by omega) (by omega) (by omega) hZ HV.out).mono ?_
             rintro e2 w2 ⟨rfl, ys1, hy1, hv1, hb1, hm1⟩
             replace HV := hid hv1
             replace HB := hid (HB.out.trans hb1)
             clear hv1 hb1
             obtain ⟨T1, hT1⟩ := hm1.rgt
             replace hT1 := hid hT1
             go_wp2_with fail
             have hm2 := hid (YM.out.right0 hT1.out (by omega))
             have hy2 := hy1
             obtain ⟨ys2, hys2⟩ : ∃ ys2, ys2 = ys1 := ⟨_, rfl⟩
             rw [← hys2] at hm2 hy2 HV
             replace hys2 := hid hys2
             go_wp2
             go_end0
             exact ⟨rfl, ys2, hy2, HV.out, HB.out, by have := YM.out.whole hT1.out hm2.out; rwa [hUU.out, hVV.out] at this⟩)
        · first
          | (exfalso; omega)
          | (have f1 : ¬ (st : Int) < (m : Int) := by omega
             have f2 : (m : Int) < (e : Int) := by omega
             have f3 : (a : Int) < (st : Int) := by omega
             have f4 : (st : Int) < (mid : Int) := by omega
             have f5 : ¬ (mid : Int) < (e : Int) := by omega
             have f6 : ¬ (e : Int) < (b : Int) := by omega
             go_wp2_with fail
             have htu := YM.out.turned (by omega)
             have HV0 := HV.out
             rw [htu] at HV0
             replace HV := hid HV0
             clear HV0
             replace htu := hid htu
             refine (IH.out a st mid P U1 V1 (U2 ++ (V2 ++ S)) _ _ YM.out.left (by omega) (by omega) (by omega) hZ HV.out).mono ?_
             rintro e2 w2 ⟨rfl, ys1, hy1, hv1, hb1, hm1⟩
             replace HV := hid hv1
             replace HB := hid (HB.out.trans hb1)
             clear hv1 hb1
             obtain ⟨T1, hT1⟩ := hm1.rgt
             replace hT1 := hid hT1
             go_wp2_with fail
             have hm2 := hid (YM.out.right0 hT1.out (by omega))
             have hy2 := hy1
             obtain ⟨ys2, hys2⟩ : ∃ ys2, ys2 = ys1 := ⟨_, rfl⟩
             rw [← hys2] at hm2 hy2 HV
             replace hys2 := hid hys2
             go_wp2
             go_end0
             exact ⟨rfl, ys2, hy2, HV.out, HB.out, by have := YM.out.whole hT1.out hm2.out; rwa [hUU.out, hVV.out] at this⟩)
        · first
          | (exfalso; omega)
          | (have f1 : ¬ (st : Int) < (m : Int) := by omega
             have f2 : ¬ (m : Int) < (e : Int) := by omega
             have f3 : (a : Int) < (st : Int) := by omega
             have f4 : ¬ (st : Int) < (mid : Int) := by omega
             have f5 : ¬ (mid : Int) < (e : Int) := by omega
             have f6 : (e : Int) < (b : Int) := by omega
             go_wp2_with fail
             have htu := YM.out.turned (by omega)
             have HV0 := HV.out
             rw [htu] at HV0
             replace HV := hid HV0
             clear HV0
             replace htu := hid htu
             obtain ⟨T1, hT1⟩ := (YM.out.left0 (by omega)).rgt
             obtain ⟨ys1, hys1⟩ : ∃ ys1, ys1 = P ++ U1 ++ V1 ++ U2 ++ (V2 ++ S) := ⟨_, rfl⟩
             rw [← hys1] at hT1 HV
             have hy1 : ys1.length = N := by rw [hys1]; exact hZ
             replace hys1 := hid hys1
             replace hT1 := hid hT1
             have hm2 := hid (YM.out.right0 hT1.out (by omega))
             have hy2 := hy1
             obtain ⟨ys2, hys2⟩ : ∃ ys2, ys2 = ys1 := ⟨_, rfl⟩
             rw [← hys2] at hm2 hy2 HV
             replace hys2 := hid hys2
             go_wp2
             go_end0
             exact ⟨rfl, ys2, hy2, HV.out, HB.out, by have := YM.out.whole hT1.out hm2.out; rwa [hUU.out, hVV.out] at this⟩)
        · omega
      · rcases Nat.lt_or_ge m e with q3 | q3 <;> rcases Nat.lt_or_ge e b with q4 | q4
        · first
          | (exfalso; omega)
          | (have f1 : (st : Int) < (m : Int) := by omega
             have f2 : (m : Int) < (e : Int) := by omega
             have f3 : ¬ (a : Int) < (st : Int) := by omega
             have f4 : (st : Int) < (mid : Int) := by omega
             have f5 : (mid : Int) < (e : Int) := by omega
             have f6 : (e : Int) < (b : Int) := by omega
             go_wp2_with fail
             refine (rotR_any (.func (.func 101) #[] #[]) base g c st m e N (P ++ U1) U2 V1 (V2 ++ S) xs _ YM.out.eq YM.out.l2.symm YM.out.l3.symm YM.out.l4.symm hN HV.out (by have h2 := YM.out.l2; have h3 := YM.out.l3; simp only [List.length_append] at *; omega) (by have h3 := YM.out.l3; have h4 := YM.out.l4; simp only [List.length_append] at *; omega) hl).mono ?_
             rintro e1 w1 ⟨rfl, hv1, hb1⟩
             replace HV := hid hv1
             replace HB := hid (HB.out.trans hb1)
             clear hv1 hb1
             go_wp2_with fail
             obtain ⟨T1, hT1⟩ := (YM.out.left0 (by omega)).rgt
             obtain ⟨ys1, hys1⟩ : ∃ ys1, ys1 = P ++ U1 ++ V1 ++ U2 ++ (V2 ++ S) := ⟨_, rfl⟩
             rw [← hys1] at hT1 HV
             have hy1 : ys1.length = N := by rw [hys1]; exact hZ
             replace hys1 := hid hys1
             replace hT1 := hid hT1
             refine (IH.out mid e b (P ++ T1) U2 V2 S ys1 _ (YM.out.right hT1.out) (by omega) (by omega) (by omega) hy1 HV.out).mono ?_
             rintro e3 w3 ⟨rfl, ys2, hy2, hv1, hb1, hm2⟩
             replace HV := hid hv1
             replace HB := hid (HB.out.trans hb1)
             clear hv1 hb1
             replace hm2 := hid hm2
             go_wp2_with fail
             go_wp2
             go_end0
             exact ⟨rfl, ys2, hy2, HV.out, HB.out, by have := YM.out.whole hT1.out hm2.out; rwa [hUU.out, hVV.out] at this⟩)
        · first
          | (exfalso; omega)
          | (have f1 : (st : Int) < (m : Int) := by omega
             have f2 : (m : Int) < (e : Int) := by omega
             have f3 : ¬ (a : Int) < (st : Int) := by omega
             have f4 : (st : Int) < (mid : Int) := by omega
             have f5 : (mid : Int) < (e : Int) := by omega
             have f6 : ¬ (e : Int) < (b : Int) := by omega
             go_wp2_with fail
             refine (rotR_any (.func (.func 101) #[] #[]) base g c st m e N (P ++ U1) U2 V1 (V2 ++ S) xs _ YM.out.eq YM.out.l2.symm YM.out.l3.symm YM.out.l4.symm hN HV.out (by have h2 := YM.out.l2; have h3 := YM.out.l3; simp only [List.length_append] at *; omega) (by have h3 := YM.out.l3; have h4 := YM.out.l4; simp only [List.length_append] at *; omega) hl).mono ?_
             rintro e1 w1 ⟨rfl, hv1, hb1⟩
             replace HV := hid hv1
             replace HB := hid (HB.out.trans hb1)
             clear hv1 hb1
             go_wp2_with fail
             obtain ⟨T1, hT1⟩ := (YM.out.left0 (by omega)).rgt
             obtain ⟨ys1, hys1⟩ : ∃ ys1, ys1 = P ++ U1 ++ V1 ++ U2 ++ (V2 ++ S) := ⟨_, rfl⟩
             rw [← hys1] at hT1 HV
             have hy1 : ys1.length = N := by rw [hys1]; exact hZ
             replace hys1 := hid hys1
             replace hT1 := hid hT1
             have hm2 := hid (YM.out.right0 hT1.out (by omega))
             have hy2 := hy1
             obtain ⟨ys2, hys2⟩ : ∃ ys2, ys2 = ys1 := ⟨_, rfl⟩
             rw [← hys2] at hm2 hy2 HV
             replace hys2 := hid hys2
             go_wp2
             go_end0
             exact ⟨rfl, ys2, hy2, HV.out, HB.out, by have := YM.out.whole hT1.out hm2.out; rwa [hUU.out, hVV.out] at this⟩)
        · first
          | (exfalso; omega)
          | (have f1 : (st : Int) < (m : Int) := by omega
             have f2 : ¬ (m : Int) < (e : Int) := by omega
             have f3 : ¬ (a : Int) < (st : Int) := by omega
             have f4 : ¬ (st : Int) < (mid : Int) := by omega
             have f5 : (mid : Int) < (e : Int) := by omega
             have f6 : (e : Int) < (b : Int) := by omega
             go_wp2_with fail
             have htu := YM.out.turned (by omega)
             have HV0 := HV.out
             rw [htu] at HV0
             replace HV := hid HV0
             clear HV0
             replace htu := hid htu
             obtain ⟨T1, hT1⟩ := (YM.out.left0 (by omega)).rgt
             obtain ⟨ys1, hys1⟩ : ∃ ys1, ys1 = P ++ U1 ++ V1 ++ U2 ++ (V2 ++ S) := ⟨_, rfl⟩
             rw [← hys1] at hT1 HV
             have hy1 : ys1.length = N := by rw [hys1]; exact hZ
             replace hys1 := hid hys1
             replace hT1 := hid hT1
             refine (IH.out mid e b (P ++ T1) U2 V2 S ys1 _ (YM.out.right hT1.out) (by omega) (by omega) (by omega) hy1 HV.out).mono ?_
             rintro e3 w3 ⟨rfl, ys2, hy2, hv1, hb1, hm2⟩
             replace HV := hid hv1
             replace HB := hid (HB.out.trans hb1)
             clear hv1 hb1
             replace hm2 := hid hm2
             go_wp2_with fail
             go_wp2
             go_end0
             exact ⟨rfl, ys2, hy2, HV.out, HB.out, by have := YM.out.whole hT1.out hm2.out; rwa [hUU.out, hVV.out] at this⟩)
        · omega
      · omega
end
end Go.Proofs.YtkefjeabckainaaGreat
