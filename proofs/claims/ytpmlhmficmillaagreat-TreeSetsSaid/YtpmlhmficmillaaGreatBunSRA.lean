/- symMergeCmpFunc, a lone node on the left: it moves up to its place. Conditions: two sorted stretches, the left one of one node.
symMergeCmpFunc, a lone node on the right: it moves down to its place. Conditions: two sorted stretches, the right one of one node, the left one of more. -/
import Derived.Test.YtpmlhmficmillaaGreatBunSA
import Derived.Test.YtpmlhmficmillaaGreatBunSB
namespace Go.Proofs.YtpmlhmficmillaaGreat
section
open Go.RowKit
set_option maxRecDepth 100000
set_option linter.unusedVariables false
attribute [local go_sem ↓] load12_eq

set_option maxHeartbeats 6400000 in
theorem sym1_any (base g c a m b N : Nat) (P U V S xs : List Nod) (w : World) (HH : Hv xs a m b P U V S) (hN : xs.length = N) (hl : N ≤ 1000) (hw : w.ownsRow base 28 12 (.slice (some ⟨g, 0, none⟩) N c) N (nodsL xs)) (hm : m = a + 1) (hb : m < b) :
    Calls Tryz.prog 86 #[.slice (some ⟨g, 0, none⟩) N c, .int .i64 (a : Int), .int .i64 (m : Int), .int .i64 (b : Int), (.func (.func 50) #[] #[])] w fun e w' => e = .returned (.tuple #[]) ∧ ∃ ys, ys.length = N ∧ w'.ownsRow base 28 12 (.slice (some ⟨g, 0, none⟩) N c) N (nodsL ys) ∧ Below base w w' ∧ Mrg P U V S ys := by
  have MO := hid (p1_mono HH)
  have HV := hid hw
  have HB := hid (Below.refl base w)
  have hbd := HH.bounds
  replace HH := hid HH
  have mixed : Tryz.prog.follows Departure.mixedOrders = true := by first | kernel_rfl | decide
  clear hw
  have k0 : IntKind.i64.wrap ((m : Int) - (a : Int)) = 1 := by rw [IntWalk.i64_in _ (by omega)]; omega
  have ham : a < m := by omega
  replace hm := hid hm
  go_enter Tryz.func86, Tryz.ntmps86
  go_wp2
  go_loopg [10, 11] (b - m) (fun g1 vi vj wr => ∃ (i j : Nat), vi = .int .i64 (i : Int) ∧ vj = .int .i64 (j : Int) ∧ m ≤ i ∧ i ≤ j ∧ j ≤ b ∧ j - i ≤ g1 ∧ Hid (wr.ownsRow base 28 12 (.slice (some ⟨g, 0, none⟩) N c) N (nodsL xs)) ∧ Hid (Below base w wr) ∧ Hid (BS (p1 xs a) m b i j))
  case atStart => exact ⟨m, b, by first | rfl | go_num, by first | rfl | go_num, Nat.le_refl _, by omega, Nat.le_refl _, by omega, HV, HB, hid (BS.start (by omega))⟩
  case round =>
    clear HV HB
    obtain ⟨i, j, rfl, rfl, hli, hij0, hjh, hg1, HV, HB, BSH⟩ := hrel
    by_cases hij : i < j
    · have hijz : (i : Int) < (j : Int) := by omega
      obtain ⟨h, hh⟩ : ∃ h, h = (i + j) / 2 := ⟨_, rfl⟩
      have em : ((i : Int) + (j : Int)) / 2 = (h : Int) := by omega
      have hhi : i ≤ h := by omega
      have hhj : h < j := by omega
      replace hh := hid hh

      have hIl : h < xs.length := by omega
      have hJl : a < xs.length := by omega
      have zI : (h : Int) < (N : Int) := by omega
      have zJ : (a : Int) < (N : Int) := by omega
      obtain ⟨x, hx⟩ : ∃ x, x = xs[h] := ⟨_, rfl⟩
      obtain ⟨y, hy⟩ : ∃ y, y = xs[a] := ⟨_, rfl⟩
      have lx : ∀ Z, Z.ownsRow base 28 12 (.slice (some ⟨g, 0, none⟩) N c) N (nodsL xs) → Sem.run Tryz.prog (load12 ⟨g, h * 12, none⟩) Z = .ok x.cells Z := fun Z hZ => by rw [hx]; exact own_load hZ hIl
      have ly : ∀ Z, Z.ownsRow base 28 12 (.slice (some ⟨g, 0, none⟩) N c) N (nodsL xs) → Sem.run Tryz.prog (load12 ⟨g, a * 12, none⟩) Z = .ok y.cells Z := fun Z hZ => by rw [hy]; exact own_load hZ hJl
      obtain ⟨r, hr⟩ : ∃ r, r = ordS x.name y.name := ⟨_, rfl⟩
      have hcmp := hid (fun Z => kids1_any x y Z)
      rw [← hr] at hcmp
      have hrn := ordS_neg x.name y.name
      rw [← hr, hx, hy, nth_get hIl, nth_get hJl] at hrn
      replace lx := hid lx
      replace ly := hid ly
      replace hr := hid hr
      replace hx := hid hx
      replace hy := hid hy
      have HD : Hid (wr.drew.ownsRow base 28 12 (.slice (some ⟨g, 0, none⟩) N c) N (nodsL xs)) := HV
      have BD := hid (HB.out.trans (Below.refl base wr).drew)
      have qx := lx.out _ HD.out
      have qy := ly.out _ HD.out
      by_cases hlv : r < 0
      · rw [decide_eq_true hlv] at hrn
        replace hrn := hid hrn
        go_wp2_with fail
        go_region_held3 (fun W => Sem.run Tryz.prog (load12 ⟨g, h * 12, none⟩) W = .ok x.cells W ∧ Sem.run Tryz.prog (load12 ⟨g, a * 12, none⟩) W = .ok y.cells W)
          (first | exact ⟨lx.out _ HD.out, ly.out _ HD.out⟩ | exact ⟨qx, qy⟩ | go_keep)
          ((go_at_call 50; (with_reducible refine (hcmp.out _).mono ?_); rintro e w3 ⟨rfl, hb3⟩; replace BD := hid (BD.out.trans (hb3.mono (own_base HD.out))); replace HD := hid (own_below HD.out hb3)))
        go_wp2
        go_roundg (j - (h + 1))
        case measure => omega
        case rel => exact ⟨h + 1, j, by first | rfl | go_num, by first | rfl | go_num, by omega, by omega, by omega, Nat.le_refl _, HD, BD, hid (BSH.out.up MO.out hhi hhj (by rw [p1, HH.out.cross (Nat.le_refl a) ham (by omega) (by omega)]; simpa using hrn.out))⟩
      · rw [decide_eq_false hlv] at hrn
        replace hrn := hid hrn
        go_wp2_with fail
        go_region_held3 (fun W => Sem.run Tryz.prog (load12 ⟨g, h * 12, none⟩) W = .ok x.cells W ∧ Sem.run Tryz.prog (load12 ⟨g, a * 12, none⟩) W = .ok y.cells W)
          (first | exact ⟨lx.out _ HD.out, ly.out _ HD.out⟩ | exact ⟨qx, qy⟩ | go_keep)
          ((go_at_call 50; (with_reducible refine (hcmp.out _).mono ?_); rintro e w3 ⟨rfl, hb3⟩; replace BD := hid (BD.out.trans (hb3.mono (own_base HD.out))); replace HD := hid (own_below HD.out hb3)))
        go_wp2
        go_roundg (h - i)
        case measure => omega
        case rel => exact ⟨i, h, by first | rfl | go_num, by first | rfl | go_num, by omega, by omega, by omega, Nat.le_refl _, HD, BD, hid (BSH.out.down MO.out hhi hhj (by rw [p1, HH.out.cross (Nat.le_refl a) ham (by omega) (by omega)]; simpa using hrn.out))⟩
    · have hijz : ¬ (i : Int) < (j : Int) := by omega
      have hije : i = j := by omega
      subst hije
      have kI : IntKind.i64.wrap ((i : Int) - 1) = ((i - 1 : Nat) : Int) := by rw [IntWalk.i64_in _ (by omega)]; omega
      obtain ⟨t, ht⟩ : ∃ t, t = i - 1 := ⟨_, rfl⟩
      rw [← ht] at kI
      obtain ⟨H1, H2, H3⟩ := HH.out.one hm.out BSH.out
      rw [show i - m = t - a by have := hm.out; omega] at H1 H2 H3
      replace H3 := hid H3
      replace H1 := hid H1
      generalize V.take (t - a) = V1 at H1 H2 H3
      generalize V.drop (t - a) ++ S = R at H1 H3
      have hat : a ≤ t := by have := hm.out; omega
      have htN : t < N := by omega
      replace ht := hid ht
      go_wp2
      go_loopg [13] (t - a) (fun g2 vk wr2 => ∃ (k : Nat) (ys : List Nod), vk = .int .i64 (k : Int) ∧ a ≤ k ∧ k ≤ t ∧ t - k ≤ g2 ∧ ys.length = N ∧ Hid (wr2.ownsRow base 28 12 (.slice (some ⟨g, 0, none⟩) N c) N (nodsL ys)) ∧ Hid (Below base w wr2) ∧ Hid (Up P V1 R (nth xs a) ys (k - a)))
      case atStart => exact ⟨a, xs, by first | rfl | go_num, Nat.le_refl _, hat, Nat.le_refl _, hN, HV, HB, by rw [Nat.sub_self]; exact H1⟩
      case round =>
        clear HV HB H1
        obtain ⟨k, ys, rfl, hak, hkt, hg2, hys, HV, HB, HU⟩ := hrel
        by_cases hkl : k < t
        · have hklz : (k : Int) < (t : Int) := by omega
          obtain ⟨q, hq⟩ : ∃ q, q = k + 1 := ⟨_, rfl⟩
          have kq : IntKind.i64.wrap ((k : Int) + 1) = (q : Int) := by rw [IntWalk.i64_in _ (by omega)]; omega
          have hqN : q < N := by omega
          replace hq := hid hq
          have hIl : k < ys.length := by omega
          have hJl : q < ys.length := by omega
          have zI : (k : Int) < (N : Int) := by omega
          have zJ : (q : Int) < (N : Int) := by omega
          obtain ⟨u, hu⟩ : ∃ u, u = ys[k] := ⟨_, rfl⟩
          obtain ⟨v, hv⟩ : ∃ v, v = ys[q] := ⟨_, rfl⟩
          obtain ⟨cx, hcx⟩ : ∃ c, c = u.cells := ⟨_, rfl⟩
          obtain ⟨cy, hcy⟩ : ∃ c, c = v.cells := ⟨_, rfl⟩
          obtain ⟨sx, sy, l1, l2, s1, s2, hfin, hbel⟩ := own_swap (P := Tryz.prog) HV.out hu hv hcx hcy
          replace hbel := hid (HB.out.trans hbel)
          replace hfin := hid hfin
          replace hcx := hid hcx
          replace hcy := hid hcy
          replace hu := hid hu
          replace hv := hid hv
          go_wp2_with fail
          go_big_region_o
          all_goals go_wp2
          go_roundg (t - q)
          case measure => have := hq.out; omega
          case rel => exact ⟨q, swp ys k q, by first | rfl | go_num, by have := hq.out; omega, by have := hq.out; omega, Nat.le_refl _, by rw [swp_len]; exact hys, hfin, hbel, hid (by
            have := HU.out.step (by omega)
            rw [show P.length + (k - a) = k by have := HH.out.ha; omega, ← hq.out, show k - a + 1 = q - a by have := hq.out; omega] at this
            exact this)⟩
        · have hklz : ¬ (k : Int) < (t : Int) := by omega
          have hke : k = t := by omega
          subst hke
          go_wp2
          first | go_end0 | (refine bodyPost_ret (results_none rfl _ _ _) rfl ?_)
          exact ⟨rfl, ys, hys, HV.out, HB.out, H3.out ys HU.out⟩
end
end Go.Proofs.YtpmlhmficmillaaGreat

namespace Go.Proofs.YtpmlhmficmillaaGreat
section
open Go.RowKit
set_option maxRecDepth 100000
set_option linter.unusedVariables false
attribute [local go_sem ↓] load12_eq

set_option maxHeartbeats 6400000 in
theorem sym2_any (base g c a m b N : Nat) (P U V S xs : List Nod) (w : World) (HH : Hv xs a m b P U V S) (hN : xs.length = N) (hl : N ≤ 1000) (hw : w.ownsRow base 28 12 (.slice (some ⟨g, 0, none⟩) N c) N (nodsL xs)) (hm : a + 1 < m) (hb : b = m + 1) :
    Calls Tryz.prog 86 #[.slice (some ⟨g, 0, none⟩) N c, .int .i64 (a : Int), .int .i64 (m : Int), .int .i64 (b : Int), (.func (.func 50) #[] #[])] w fun e w' => e = .returned (.tuple #[]) ∧ ∃ ys, ys.length = N ∧ w'.ownsRow base 28 12 (.slice (some ⟨g, 0, none⟩) N c) N (nodsL ys) ∧ Below base w w' ∧ Mrg P U V S ys := by
  have MO := hid (p2_mono HH)
  have HV := hid hw
  have HB := hid (Below.refl base w)
  have hbd := HH.bounds
  replace HH := hid HH
  have mixed : Tryz.prog.follows Departure.mixedOrders = true := by first | kernel_rfl | decide
  clear hw
  obtain ⟨d, hd⟩ : ∃ d, d = m - a := ⟨_, rfl⟩
  have k0 : IntKind.i64.wrap ((m : Int) - (a : Int)) = (d : Int) := by rw [IntWalk.i64_in _ (by omega)]; omega
  have k1 : ¬ (d : Int) = 1 := by omega
  have k1' : ((d : Int) == 1) = false := by simp; omega
  have k2 : IntKind.i64.wrap ((b : Int) - (m : Int)) = 1 := by rw [IntWalk.i64_in _ (by omega)]; omega
  have hmb : m < b := by omega
  replace hb := hid hb
  replace hd := hid hd
  go_enter Tryz.func86, Tryz.ntmps86
  go_wp2
  go_loopg [14, 15] (m - a) (fun g1 vi vj wr => ∃ (i j : Nat), vi = .int .i64 (i : Int) ∧ vj = .int .i64 (j : Int) ∧ a ≤ i ∧ i ≤ j ∧ j ≤ m ∧ j - i ≤ g1 ∧ Hid (wr.ownsRow base 28 12 (.slice (some ⟨g, 0, none⟩) N c) N (nodsL xs)) ∧ Hid (Below base w wr) ∧ Hid (BS (p2 xs m) a m i j))
  case atStart => exact ⟨a, m, by first | rfl | go_num, by first | rfl | go_num, Nat.le_refl _, by omega, Nat.le_refl _, by omega, HV, HB, hid (BS.start (by omega))⟩
  case round =>
    clear HV HB
    obtain ⟨i, j, rfl, rfl, hli, hij0, hjh, hg1, HV, HB, BSH⟩ := hrel
    by_cases hij : i < j
    · have hijz : (i : Int) < (j : Int) := by omega
      obtain ⟨h, hh⟩ : ∃ h, h = (i + j) / 2 := ⟨_, rfl⟩
      have em : ((i : Int) + (j : Int)) / 2 = (h : Int) := by omega
      have hhi : i ≤ h := by omega
      have hhj : h < j := by omega
      replace hh := hid hh

      have hIl : m < xs.length := by omega
      have hJl : h < xs.length := by omega
      have zI : (m : Int) < (N : Int) := by omega
      have zJ : (h : Int) < (N : Int) := by omega
      obtain ⟨x, hx⟩ : ∃ x, x = xs[m] := ⟨_, rfl⟩
      obtain ⟨y, hy⟩ : ∃ y, y = xs[h] := ⟨_, rfl⟩
      have lx : ∀ Z, Z.ownsRow base 28 12 (.slice (some ⟨g, 0, none⟩) N c) N (nodsL xs) → Sem.run Tryz.prog (load12 ⟨g, m * 12, none⟩) Z = .ok x.cells Z := fun Z hZ => by rw [hx]; exact own_load hZ hIl
      have ly : ∀ Z, Z.ownsRow base 28 12 (.slice (some ⟨g, 0, none⟩) N c) N (nodsL xs) → Sem.run Tryz.prog (load12 ⟨g, h * 12, none⟩) Z = .ok y.cells Z := fun Z hZ => by rw [hy]; exact own_load hZ hJl
      obtain ⟨r, hr⟩ : ∃ r, r = ordS x.name y.name := ⟨_, rfl⟩
      have hcmp := hid (fun Z => kids1_any x y Z)
      rw [← hr] at hcmp
      have hrn := ordS_neg x.name y.name
      rw [← hr, hx, hy, nth_get hIl, nth_get hJl] at hrn
      replace lx := hid lx
      replace ly := hid ly
      replace hr := hid hr
      replace hx := hid hx
      replace hy := hid hy
      have HD : Hid (wr.drew.ownsRow base 28 12 (.slice (some ⟨g, 0, none⟩) N c) N (nodsL xs)) := HV
      have BD := hid (HB.out.trans (Below.refl base wr).drew)
      have qx := lx.out _ HD.out
      have qy := ly.out _ HD.out
      by_cases hlv : r < 0
      · rw [decide_eq_true hlv] at hrn
        replace hrn := hid hrn
        go_wp2_with fail
        go_region_held3 (fun W => Sem.run Tryz.prog (load12 ⟨g, m * 12, none⟩) W = .ok x.cells W ∧ Sem.run Tryz.prog (load12 ⟨g, h * 12, none⟩) W = .ok y.cells W)
          (first | exact ⟨lx.out _ HD.out, ly.out _ HD.out⟩ | exact ⟨qx, qy⟩ | go_keep)
          ((go_at_call 50; (with_reducible refine (hcmp.out _).mono ?_); rintro e w3 ⟨rfl, hb3⟩; replace BD := hid (BD.out.trans (hb3.mono (own_base HD.out))); replace HD := hid (own_below HD.out hb3)))
        go_wp2
        go_roundg (h - i)
        case measure => omega
        case rel => exact ⟨i, h, by first | rfl | go_num, by first | rfl | go_num, by omega, by omega, by omega, Nat.le_refl _, HD, BD, hid (BSH.out.down MO.out hhi hhj (by rw [p2, HH.out.cross (by omega) (by omega) (Nat.le_refl m) hmb]; simpa using hrn.out))⟩
      · rw [decide_eq_false hlv] at hrn
        replace hrn := hid hrn
        go_wp2_with fail
        go_region_held3 (fun W => Sem.run Tryz.prog (load12 ⟨g, m * 12, none⟩) W = .ok x.cells W ∧ Sem.run Tryz.prog (load12 ⟨g, h * 12, none⟩) W = .ok y.cells W)
          (first | exact ⟨lx.out _ HD.out, ly.out _ HD.out⟩ | exact ⟨qx, qy⟩ | go_keep)
          ((go_at_call 50; (with_reducible refine (hcmp.out _).mono ?_); rintro e w3 ⟨rfl, hb3⟩; replace BD := hid (BD.out.trans (hb3.mono (own_base HD.out))); replace HD := hid (own_below HD.out hb3)))
        go_wp2
        rotate_left
        · exfalso; rename_i hq; simp at hq; omega
        go_roundg (j - (h + 1))
        case measure => omega
        case rel => exact ⟨h + 1, j, by first | rfl | go_num, by first | rfl | go_num, by omega, by omega, by omega, Nat.le_refl _, HD, BD, hid (BSH.out.up MO.out hhi hhj (by rw [p2, HH.out.cross (by omega) (by omega) (Nat.le_refl m) hmb]; simpa using hrn.out))⟩
    · have hijz : ¬ (i : Int) < (j : Int) := by omega
      have hije : i = j := by omega
      subst hije
      obtain ⟨H1, H2, H4, H3⟩ := HH.out.two hb.out BSH.out
      replace H3 := hid H3
      replace H1 := hid H1
      have hQ := hid H4
      clear H4
      generalize P ++ U.take (i - a) = Q at H1 H3 hQ
      generalize U.drop (i - a) = U2 at H1 H2 H3
      have him : i ≤ m := by omega
      go_wp2
      go_loopg [17] (m - i) (fun g2 vk wr2 => ∃ (k : Nat) (ys : List Nod), vk = .int .i64 (k : Int) ∧ i ≤ k ∧ k ≤ m ∧ k - i ≤ g2 ∧ ys.length = N ∧ Hid (wr2.ownsRow base 28 12 (.slice (some ⟨g, 0, none⟩) N c) N (nodsL ys)) ∧ Hid (Below base w wr2) ∧ Hid (Down Q U2 S (nth xs m) ys (k - i)))
      case atStart => exact ⟨m, xs, by first | rfl | go_num, him, Nat.le_refl _, Nat.le_refl _, hN, HV, HB, H1⟩
      case round =>
        clear HV HB H1
        obtain ⟨k, ys, rfl, hik, hkm, hg2, hys, HV, HB, HU⟩ := hrel
        by_cases hkl : i < k
        · have hklz : (i : Int) < (k : Int) := by omega
          obtain ⟨q, hq⟩ : ∃ q, q = k - 1 := ⟨_, rfl⟩
          have kq : IntKind.i64.wrap ((k : Int) - 1) = (q : Int) := by rw [IntWalk.i64_in _ (by omega)]; omega
          have hqN : q < N := by omega
          have hq1 := hid (show k = q + 1 by omega)
          replace hq := hid hq
          have hIl : k < ys.length := by omega
          have hJl : q < ys.length := by omega
          have zI : (k : Int) < (N : Int) := by omega
          have zJ : (q : Int) < (N : Int) := by omega
          obtain ⟨u, hu⟩ : ∃ u, u = ys[k] := ⟨_, rfl⟩
          obtain ⟨v, hv⟩ : ∃ v, v = ys[q] := ⟨_, rfl⟩
          obtain ⟨cx, hcx⟩ : ∃ c, c = u.cells := ⟨_, rfl⟩
          obtain ⟨cy, hcy⟩ : ∃ c, c = v.cells := ⟨_, rfl⟩
          obtain ⟨sx, sy, l1, l2, s1, s2, hfin, hbel⟩ := own_swap (P := Tryz.prog) HV.out hu hv hcx hcy
          replace hbel := hid (HB.out.trans hbel)
          replace hfin := hid hfin
          replace hcx := hid hcx
          replace hcy := hid hcy
          replace hu := hid hu
          replace hv := hid hv
          go_wp2_with fail
          go_big_region_o
          all_goals go_wp2
          go_roundg (q - i)
          case measure => have := hq.out; omega
          case rel => exact ⟨q, swp ys k q, by first | rfl | go_num, by have := hq.out; omega, by have := hq.out; omega, Nat.le_refl _, by rw [swp_len]; exact hys, hfin, hbel, hid (by
            have h0 := HU.out
            rw [show k - i = (q - i) + 1 by have := hq.out; omega] at h0
            have := h0.step (by have := hq.out; omega)
            rw [hQ.out, show i + (q - i + 1) = k by have := hq.out; omega, show i + (q - i) = q by have := hq.out; omega] at this
            exact this)⟩
        · have hklz : ¬ (i : Int) < (k : Int) := by omega
          have hke : k = i := by omega
          subst hke
          go_wp2
          first | go_end0 | (refine bodyPost_ret (results_none rfl _ _ _) rfl ?_)
          exact ⟨rfl, ys, hys, HV.out, HB.out, H3.out ys (by have := HU.out; rwa [Nat.sub_self] at this)⟩
end
end Go.Proofs.YtpmlhmficmillaaGreat
