/- rotateCmpFunc walked: two neighbouring stretches of an own row of nodes change places. Conditions: neither is empty. And the texts behind it. -/
import Derived.Test.YtkefjeabckainaaGreatFaB16
import Derived.Test.YtkefjeabckainaaGreatFaB20
namespace Go.Proofs.YtkefjeabckainaaGreat
section
open Go.RowKit
set_option maxRecDepth 100000
set_option linter.unusedVariables false

set_option maxHeartbeats 6400000 in
theorem rotR_any (f : Value) (base g c a m b N : Nat) (P A B S xs : List Nod) (w : World) (hx : xs = P ++ A ++ B ++ S) (ha : a = P.length) (hm : m = (P ++ A).length) (hb : b = (P ++ A ++ B).length) (hN : xs.length = N) (hv : w.ownsRow base 89 12 (.slice (some ⟨g, 0, none⟩) N c) N (nodsL xs)) (hA : 0 < A.length) (hB : 0 < B.length) (hl : N ≤ 1000) :
    Calls Tryz.prog 199 #[.slice (some ⟨g, 0, none⟩) N c, .int .i64 (a : Int), .int .i64 (m : Int), .int .i64 (b : Int), f] w fun e w' => e = .returned (.tuple #[]) ∧ w'.ownsRow base 89 12 (.slice (some ⟨g, 0, none⟩) N c) N (nodsL (P ++ B ++ A ++ S)) ∧ Below base w w' := by
  have hsw : Hid (∀ (W : World) (ys : List Nod) (a' b' k : Nat), ys.length = N → W.ownsRow base 89 12 (.slice (some ⟨g, 0, none⟩) N c) N (nodsL ys) → a' + k ≤ b' → b' + k ≤ N → Calls Tryz.prog 204 #[.slice (some ⟨g, 0, none⟩) N c, .int .i64 (a' : Int), .int .i64 (b' : Int), .int .i64 (k : Int), f] W fun e w' => e = .returned (.tuple #[]) ∧ ∃ l2, w'.ownsRow base 89 12 (.slice (some ⟨g, 0, none⟩) N c) N (nodsL l2) ∧ Below base W w' ∧ Swapped ys l2 a' b' k) := hid (fun W ys a' b' k hy hW h1 h2 => by
    subst hy
    exact swapR_any f base g c a' b' k ys W hW h1 h2 hl)
  have hmA : m = a + A.length := by rw [hm, ha, List.length_append]
  have hbB : b = m + B.length := by rw [hb, hm, List.length_append]
  have hbN : b ≤ N := by rw [← hN, hx, hb]; simp
  have HR : Hid (Rot P A B S xs m A.length B.length) := hid (by rw [hx, hm]; exact Rot.start P A B S)
  have HB := hid (Below.refl base w)
  have HV := hid hv
  have ki : IntKind.i64.wrap ((m : Int) - (a : Int)) = (A.length : Int) := by rw [IntWalk.i64_in _ (by omega)]; omega
  have kj : IntKind.i64.wrap ((b : Int) - (m : Int)) = (B.length : Int) := by rw [IntWalk.i64_in _ (by omega)]; omega
  clear hv hm hb ha hx
  go_enter Tryz.func199, Tryz.ntmps199
  go_wp2
  go_loopg [10, 11] (A.length + B.length) (fun g1 vi vj wr => ∃ (i j : Nat) (ys : List Nod), vi = .int .i64 (i : Int) ∧ vj = .int .i64 (j : Int) ∧ 0 < i ∧ 0 < j ∧ i ≤ m ∧ m + j ≤ N ∧ i + j ≤ g1 ∧ ys.length = N ∧ Hid (wr.ownsRow base 89 12 (.slice (some ⟨g, 0, none⟩) N c) N (nodsL ys)) ∧ Hid (Below base w wr) ∧ Hid (Rot P A B S ys m i j))
  case atStart => exact ⟨A.length, B.length, xs, by first | rfl | (congr 1; omega), by first | rfl | (congr 1; omega), hA, hB, by omega, by omega, by omega, hN, HV, HB, HR⟩
  case round =>
    obtain ⟨i, j, ys, rfl, rfl, hi0, hj0, him, hjN, hg1, hys, HV, HB, HR⟩ := hrel
    clear ki kj
    clear hmA hbB hA hB hN hbN
    rcases Nat.lt_trichotomy i j with h | h | h
    · have z1 : ((i : Int) != (j : Int)) = true := by simp; omega
      have z2 : decide ((j : Int) < (i : Int)) = false := decide_eq_false (by omega)
      have hc := hsw.out wr ys (m - i) (m + j - i) i hys HV.out (by omega) (by omega)
      rw [show ((m - i : Nat) : Int) = (m : Int) - (i : Int) by omega, show ((m + j - i : Nat) : Int) = (m : Int) + (j : Int) - (i : Int) by omega] at hc
      replace hc := hid hc
      go_wp2_with fail
      refine hc.out.mono ?_
      rintro e w2 ⟨rfl, l2, hv2, hb2, hs2⟩
      have hl2 := hid (HR.out.right h hs2)
      have hlen : l2.length = N := by have := hv2.1; rw [nodsL_length] at this; omega
      replace hv2 := hid hv2
      have hb3 := hid (HB.out.trans hb2)
      go_wp2
      go_roundg (i + (j - i))
      case measure => omega
      case rel => exact ⟨i, j - i, l2, rfl, by first | rfl | (congr 1; omega), by omega, by omega, by omega, by omega, by omega, hlen, hv2, hb3, hl2⟩
    · subst h
      have z1 : ((i : Int) != (i : Int)) = false := by simp
      have hc := hsw.out wr ys (m - i) m i hys HV.out (by omega) (by omega)
      rw [show ((m - i : Nat) : Int) = (m : Int) - (i : Int) by omega] at hc
      replace hc := hid hc
      go_wp2_with fail
      refine hc.out.mono ?_
      rintro e w2 ⟨rfl, l2, hv2, hb2, hs2⟩
      have hl2 := HR.out.last hs2
      rw [hl2] at hv2
      go_wp2_with fail
      go_end0
      exact ⟨rfl, hv2, HB.out.trans hb2⟩
    · have z1 : ((i : Int) != (j : Int)) = true := by simp; omega
      have z2 : decide ((j : Int) < (i : Int)) = true := decide_eq_true (by omega)
      have hc := hsw.out wr ys (m - i) m j hys HV.out (by omega) (by omega)
      rw [show ((m - i : Nat) : Int) = (m : Int) - (i : Int) by omega] at hc
      replace hc := hid hc
      go_wp2_with fail
      refine hc.out.mono ?_
      rintro e w2 ⟨rfl, l2, hv2, hb2, hs2⟩
      have hl2 := hid (HR.out.left h hs2)
      have hlen : l2.length = N := by have := hv2.1; rw [nodsL_length] at this; omega
      replace hv2 := hid hv2
      have hb3 := hid (HB.out.trans hb2)
      go_wp2
      go_roundg ((i - j) + j)
      case measure => omega
      case rel => exact ⟨i - j, j, l2, by first | rfl | (congr 1; omega), rfl, by omega, by omega, by omega, by omega, by omega, hlen, hv2, hb3, hl2⟩
end
end Go.Proofs.YtkefjeabckainaaGreat

namespace Go.Proofs.YtkefjeabckainaaGreat
section
open Go.RowKit
set_option maxRecDepth 100000
set_option linter.unusedVariables false
attribute [local go_sem ↓] load12_eq

theorem own_base {w : World} {base e n c g : Nat} {xs : List Value} (h : w.ownsRow base e 12 (.slice (some ⟨g, 0, none⟩) n c) n xs) : base ≤ w.heap.size := by
  rcases h.2 with ⟨h1, _⟩ | ⟨g', cap, cur, hv, hb, hg, _⟩
  · cases h1
  · have := lt_of_block hg
    omega
theorem own_swap {P : Program} {W : World} {base e N c g i j : Nat} {zs : List Nod} {x y : Nod} {cx cy : Array Value} (HD : W.ownsRow base e 12 (.slice (some ⟨g, 0, none⟩) N c) N (nodsL zs)) {hi : i < zs.length} {hj : j < zs.length} (hx : x = zs[i]) (hy : y = zs[j]) (hcx : cx = x.cells) (hcy : cy = y.cells) :
    cx.size = 12 ∧ cy.size = 12 ∧ Sem.run P (load12 ⟨g, i * 12, none⟩) W.drew = .ok cx W.drew ∧ Sem.run P (load12 ⟨g, j * 12, none⟩) W.drew = .ok cy W.drew ∧ Sem.run P (storeCells ⟨g, i * 12, none⟩ cy.toList 0) W.drew = .ok () (W.drew.setCells g (i * 12) cy.toList) ∧ Sem.run P (storeCells ⟨g, j * 12, none⟩ cx.toList 0) (W.drew.setCells g (i * 12) cy.toList) = .ok () ((W.drew.setCells g (i * 12) cy.toList).setCells g (j * 12) cx.toList) ∧
    ((W.drew.setCells g (i * 12) cy.toList).setCells g (j * 12) cx.toList).ownsRow base e 12 (.slice (some ⟨g, 0, none⟩) N c) N (nodsL (swp zs i j)) ∧ Below base W ((W.drew.setCells g (i * 12) cy.toList).setCells g (j * 12) cx.toList) := by
  have hD : W.drew.ownsRow base e 12 (.slice (some ⟨g, 0, none⟩) N c) N (nodsL zs) := HD
  have hln : N = zs.length := by have := HD.1; rw [nodsL_length] at this; omega
  have hs1 := own_set (x := y) hD (i := i) (by omega)
  have hs2 := own_set (x := x) hs1.1 (i := j) (by omega)
  subst hcx hcy
  refine ⟨by rw [nod_cells]; rfl, by rw [nod_cells]; rfl, by rw [hx]; exact own_load hD hi, by rw [hy]; exact own_load hD hj, own_store hD (by omega) y, own_store hs1.1 (by omega) x, ?_, ((Below.refl base W).drew).trans (hs1.2.1.trans hs2.2.1)⟩
  have := hs2.1
  rwa [show (zs.set i y).set j x = swp zs i j by unfold swp; simp [hi, hj, hx, hy]] at this
set_option maxHeartbeats 6400000 in
theorem insR_any (base g c a b N : Nat) (xs : List Nod) (w : World) (hv : w.ownsRow base 89 12 (.slice (some ⟨g, 0, none⟩) N c) N (nodsL xs)) (hN : xs.length = N) (hab : a < b) (hb : b ≤ N) (hl : N ≤ 1000) (hp : (seg xs a b).Pairwise fun x y => x.path < y.path) :
    Calls Tryz.prog 186 #[.slice (some ⟨g, 0, none⟩) N c, .int .i64 (a : Int), .int .i64 (b : Int), .func (.func 101) #[] #[]] w fun e w' => e = .returned (.tuple #[]) ∧ ∃ ys, ys.length = N ∧ w'.ownsRow base 89 12 (.slice (some ⟨g, 0, none⟩) N c) N (nodsL ys) ∧ Below base w w' ∧ Mended xs ys a b ∧ Srt leNP (seg ys a b) := by
  have HO := hid (InsOut.start (xs := xs) (a := a) (by omega))
  have HB := hid (Below.refl base w)
  have HV := hid hv
  have HP := hid hp
  have mixed : Tryz.prog.follows Departure.mixedOrders = true := by first | kernel_rfl | decide
  clear hv hp
  go_enter Tryz.func186, Tryz.ntmps186
  go_wp2
  go_loopg [8] (b - a) (fun g1 vi wr => ∃ (i : Nat) (ys : List Nod), vi = .int .i64 (i : Int) ∧ a < i ∧ i ≤ b ∧ b - i ≤ g1 ∧ ys.length = N ∧ Hid (wr.ownsRow base 89 12 (.slice (some ⟨g, 0, none⟩) N c) N (nodsL ys)) ∧ Hid (Below base w wr) ∧ Hid (InsOut xs ys a i))
  case atStart => exact ⟨a + 1, xs, by first | rfl | go_num, by omega, by omega, by omega, hN, HV, HB, HO⟩
  case round =>
    obtain ⟨i, ys, rfl, hai, hib, hg1, hys, HV, HB, HO⟩ := hrel
    by_cases hlt : i < b
    · have hltz : (i : Int) < (b : Int) := by omega
      have HI := hid (HO.out.next hlt (by omega) HP.out)
      go_wp2
      go_loopg [9] i (fun g2 vj wr2 => ∃ (j : Nat) (zs : List Nod), vj = .int .i64 (j : Int) ∧ a ≤ j ∧ j ≤ i ∧ j ≤ g2 ∧ zs.length = N ∧ Hid (wr2.ownsRow base 89 12 (.slice (some ⟨g, 0, none⟩) N c) N (nodsL zs)) ∧ Hid (Below base w wr2) ∧ Hid (InsIn xs zs a i j))
      case atStart => exact ⟨i, ys, rfl, by omega, Nat.le_refl _, Nat.le_refl _, hys, HV, HB, HI⟩
      case round =>
        clear HI HO HV HB hys
        obtain ⟨j, zs, rfl, haj, hji, hg2, hzs, HV, HB, HI⟩ := hrel
        by_cases hja : a < j
        · obtain ⟨p, rfl⟩ : ∃ p, j = p + 1 := ⟨j - 1, by omega⟩
          have hpl : p < zs.length := by omega
          have hql : p + 1 < zs.length := by omega
          have zj : (a : Int) < (p : Int) + 1 := by omega
          have z0 : (0 : Int) ≤ (p : Int) + 1 := by omega
          have z1 : (p : Int) + 1 < (N : Int) := by omega
          have z2 : (p : Int) < (N : Int) := by omega
          have e0 : ((p : Int) + 1).toNat = p + 1 := by omega
          obtain ⟨x, hx⟩ : ∃ x, x = zs[p + 1] := ⟨_, rfl⟩
          obtain ⟨y, hy⟩ : ∃ y, y = zs[p] := ⟨_, rfl⟩
          have lx : ∀ Z, Z.ownsRow base 89 12 (.slice (some ⟨g, 0, none⟩) N c) N (nodsL zs) → Sem.run Tryz.prog (load12 ⟨g, (p + 1) * 12, none⟩) Z = .ok x.cells Z := fun Z hZ => by rw [hx]; exact own_load hZ hql
          have ly : ∀ Z, Z.ownsRow base 89 12 (.slice (some ⟨g, 0, none⟩) N c) N (nodsL zs) → Sem.run Tryz.prog (load12 ⟨g, p * 12, none⟩) Z = .ok y.cells Z := fun Z hZ => by rw [hy]; exact own_load hZ hpl
          obtain ⟨r, hr⟩ : ∃ r, r = ordS x.name y.name := ⟨_, rfl⟩
          have hcmp := hid (fun Z => kids1_any x y Z)
          rw [← hr] at hcmp
          have hrn := ordS_neg x.name y.name
          rw [← hr] at hrn
          have hwp : IntKind.i64.wrap (p : Int) = (p : Int) := by rw [IntWalk.i64_in _ (by omega)]
          have gx : zs[p + 1]? = some x := by rw [hx]; exact List.getElem?_eq_getElem hql
          have gy : zs[p]? = some y := by rw [hy]; exact List.getElem?_eq_getElem hpl
          replace gx := hid gx
          replace gy := hid gy
          replace lx := hid lx
          replace ly := hid ly
          replace hr := hid hr
          replace hx := hid hx
          replace hy := hid hy
          have HD : Hid (wr.drew.ownsRow base 89 12 (.slice (some ⟨g, 0, none⟩) N c) N (nodsL zs)) := HV
          have BD := hid (HB.out.trans (Below.refl base wr).drew)
          have qx := lx.out _ HD.out
          have qy := ly.out _ HD.out
          by_cases hlv : r < 0
          · rw [decide_eq_true hlv] at hrn
            replace hrn := hid hrn
            go_wp2_with fail
            go_region_held3 (fun W => Sem.run Tryz.prog (load12 ⟨g, (p + 1) * 12, none⟩) W = .ok x.cells W ∧ Sem.run Tryz.prog (load12 ⟨g, p * 12, none⟩) W = .ok y.cells W)
              (first | exact ⟨lx.out _ HD.out, ly.out _ HD.out⟩ | exact ⟨qx, qy⟩ | go_keep)
              ((go_at_call 101; (with_reducible refine (hcmp.out _).mono ?_); rintro e w3 ⟨rfl, hb3⟩; replace BD := hid (BD.out.trans (hb3.mono (own_base HD.out))); replace HD := hid (own_below HD.out hb3)))
            go_wp2_with fail
            obtain ⟨cx, hcx⟩ : ∃ c, c = x.cells := ⟨_, rfl⟩
            obtain ⟨cy, hcy⟩ : ∃ c, c = y.cells := ⟨_, rfl⟩
            obtain ⟨sx, sy, l1, l2, s1, s2, hfin, hbel⟩ := own_swap (P := Tryz.prog) HD.out hx.out hy.out hcx hcy
            replace hbel := hid (BD.out.trans hbel)
            replace hfin := hid hfin
            replace hcx := hid hcx
            replace hcy := hid hcy
            clear qx qy
            go_wp2_with fail
            go_big_region_o
            all_goals go_wp2
            go_roundg p
            case measure => omega
            case rel => exact ⟨p, swp zs (p + 1) p, by first | rfl | go_num, by omega, by omega, Nat.le_refl _, by rw [swp_len]; exact hzs, hfin, hbel, hid (HI.out.swap hja gx.out gy.out (by simpa using hrn.out.symm))⟩
          · rw [decide_eq_false hlv] at hrn
            replace hrn := hid hrn
            go_wp2_with fail
            go_region_held3 (fun W => Sem.run Tryz.prog (load12 ⟨g, (p + 1) * 12, none⟩) W = .ok x.cells W ∧ Sem.run Tryz.prog (load12 ⟨g, p * 12, none⟩) W = .ok y.cells W)
              (first | exact ⟨lx.out _ HD.out, ly.out _ HD.out⟩ | exact ⟨qx, qy⟩ | go_keep)
              ((go_at_call 101; (with_reducible refine (hcmp.out _).mono ?_); rintro e w3 ⟨rfl, hb3⟩; replace BD := hid (BD.out.trans (hb3.mono (own_base HD.out))); replace HD := hid (own_below HD.out hb3)))
            go_wp2
            go_roundg (b - (i + 1))
            case measure => omega
            case rel => exact ⟨i + 1, zs, by go_num, by omega, by omega, by omega, hzs, HD, BD, hid (HI.out.done (.inr ⟨x, y, gx.out, gy.out, by simpa using hrn.out.symm⟩))⟩
        · have hjaz : decide ((j : Int) > (a : Int)) = false := decide_eq_false (by omega)
          have hjaz' : ¬ (a : Int) < (j : Int) := by omega
          have HD : Hid (wr.drew.ownsRow base 89 12 (.slice (some ⟨g, 0, none⟩) N c) N (nodsL zs)) := HV
          have BD := hid (HB.out.trans (Below.refl base wr).drew)
          go_wp2_with fail
          go_big_region_o
          all_goals go_wp2
          go_roundg (b - (i + 1))
          case measure => omega
          case rel => exact ⟨i + 1, zs, by go_num, by omega, by omega, by omega, hzs, HD, BD, hid (HI.out.done (.inl (by omega)))⟩
    · have hltz : ¬ (i : Int) < (b : Int) := by omega
      go_wp2
      go_end0
      have : i = b := by omega
      subst this
      exact ⟨rfl, ys, hys, HV.out, HB.out, HO.out.mended.1, HO.out.mended.2⟩
theorem insR0_any (base g c a N : Nat) (xs : List Nod) (w : World) (ha : a ≤ 1000) :
    Calls Tryz.prog 186 #[.slice (some ⟨g, 0, none⟩) N c, .int .i64 (a : Int), .int .i64 (a : Int), .func (.func 101) #[] #[]] w fun e w' => e = .returned (.tuple #[]) ∧ w' = w := by
  obtain ⟨d, hd⟩ : ∃ d, d = a + 1 := ⟨_, rfl⟩
  have k1 : IntKind.i64.wrap ((a : Int) + 1) = (d : Int) := by rw [IntWalk.i64_in _ (by omega)]; omega
  have k2 : ¬ (d : Int) < (a : Int) := by omega
  replace hd := hid hd
  go_enter Tryz.func186, Tryz.ntmps186
  go_wp2
  go_loopg [8] 0 (fun g1 vi wr => vi = .int .i64 (d : Int) ∧ wr = w)
  case atStart => exact ⟨by first | rfl | go_num, rfl⟩
  case round =>
    obtain ⟨rfl, rfl⟩ := hrel
    go_wp2
    go_end0
    exact ⟨rfl, rfl⟩
end
end Go.Proofs.YtkefjeabckainaaGreat

namespace Go.Proofs.YtkefjeabckainaaGreat
section
open Go.RowKit
set_option maxRecDepth 100000
set_option linter.unusedVariables false
attribute [local go_sem ↓] load12_eq

set_option maxHeartbeats 6400000 in
theorem sym1_any (base g c a m b N : Nat) (P U V S xs : List Nod) (w : World) (HH : Hv xs a m b P U V S) (hN : xs.length = N) (hl : N ≤ 1000) (hw : w.ownsRow base 89 12 (.slice (some ⟨g, 0, none⟩) N c) N (nodsL xs)) (hm : m = a + 1) (hb : m < b) :
    Calls Tryz.prog 187 #[.slice (some ⟨g, 0, none⟩) N c, .int .i64 (a : Int), .int .i64 (m : Int), .int .i64 (b : Int), (.func (.func 101) #[] #[])] w fun e w' => e = .returned (.tuple #[]) ∧ ∃ ys, ys.length = N ∧ w'.ownsRow base 89 12 (.slice (some ⟨g, 0, none⟩) N c) N (nodsL ys) ∧ Below base w w' ∧ Mrg P U V S ys := by
  have MO := hid (p1_mono HH)
  have HV := hid hw
  have HB := hid (Below.refl base w)
  have hbd := HH.bounds
  replace HH := hid HH
  have mixed : Tryz.prog.follows Departure.mixedOrders = true := by first | kernel_rfl | decide
  clear hw
  have k0 : IntKind.i64.wrap ((m : Int) - (a : Int)) = 1 := by rw [IntWalk.i64_in _ (by omega)]; omega
  have ham : a < m := by omega
  replace hm := hid hm
  go_enter Tryz.func187, Tryz.ntmps187
  go_wp2
  go_loopg [10, 11] (b - m) (fun g1 vi vj wr => ∃ (i j : Nat), vi = .int .i64 (i : Int) ∧ vj = .int .i64 (j : Int) ∧ m ≤ i ∧ i ≤ j ∧ j ≤ b ∧ j - i ≤ g1 ∧ Hid (wr.ownsRow base 89 12 (.slice (some ⟨g, 0, none⟩) N c) N (nodsL xs)) ∧ Hid (Below base w wr) ∧ Hid (BS (p1 xs a) m b i j))
  case atStart => exact ⟨m, b, by first | rfl | go_num, by first | rfl | go_num, Nat.le_refl _, by omega, Nat.le_refl _, by omega, HV, HB, hid (BS.start (by omega))⟩
  case round =>
    clear HV HB
    obtain ⟨i, j, rfl, rfl, hli, hij0, hjh, hg1, HV, HB, BSH⟩ := hrel
    by_cases hij : i < j
    · have hijz : (i : Int) < (j : Int) := by omega
      obtain ⟨h, hh⟩ : ∃ h, h = (i + j) / 2 := ⟨_, rfl⟩
      have em : ((i : Int) + (j : Int)) / 2 = (h : Int) := by omega
      have hhi : i ≤ h := by omega
      have hhj : h < j := by omega
      replace hh := hid hh

      have hIl : h < xs.length := by omega
      have hJl : a < xs.length := by omega
      have zI : (h : Int) < (N : Int) := by omega
      have zJ : (a : Int) < (N : Int) := by omega
      obtain ⟨x, hx⟩ : ∃ x, x = xs[h] := ⟨_, rfl⟩
      obtain ⟨y, hy⟩ : ∃ y, y = xs[a] := ⟨_, rfl⟩
      have lx : ∀ Z, Z.ownsRow base 89 12 (.slice (some ⟨g, 0, none⟩) N c) N (nodsL xs) → Sem.run Tryz.prog (load12 ⟨g, h * 12, none⟩) Z = .ok x.cells Z := fun Z hZ => by rw [hx]; exact own_load hZ hIl
      have ly : ∀ Z, Z.ownsRow base 89 12 (.slice (some ⟨g, 0, none⟩) N c) N (nodsL xs) → Sem.run Tryz.prog (load12 ⟨g, a * 12, none⟩) Z = .ok y.cells Z := fun Z hZ => by rw [hy]; exact own_load hZ hJl
      obtain ⟨r, hr⟩ : ∃ r, r = ordS x.name y.name := ⟨_, rfl⟩
      have hcmp := hid (fun Z => kids1_any x y Z)
      rw [← hr] at hcmp
      have hrn := ordS_neg x.name y.name
      rw [← hr, hx, hy, nth_get hIl, nth_get hJl] at hrn
      replace lx := hid lx
      replace ly := hid ly
      replace hr := hid hr
      replace hx := hid hx
      replace hy := hid hy
      have HD : Hid (wr.drew.ownsRow base 89 12 (.slice (some ⟨g, 0, none⟩) N c) N (nodsL xs)) := HV
      have BD := hid (HB.out.trans (Below.refl base wr).drew)
      have qx := lx.out _ HD.out
      have qy := ly.out _ HD.out
      by_cases hlv : r < 0
      · rw [decide_eq_true hlv] at hrn
        replace hrn := hid hrn
        go_wp2_with fail
        go_region_held3 (fun W => Sem.run Tryz.prog (load12 ⟨g, h * 12, none⟩) W = .ok x.cells W ∧ Sem.run Tryz.prog (load12 ⟨g, a * 12, none⟩) W = .ok y.cells W)
          (first | exact ⟨lx.out _ HD.out, ly.out _ HD.out⟩ | exact ⟨qx, qy⟩ | go_keep)
          ((go_at_call 101; (with_reducible refine (hcmp.out _).mono ?_); rintro e w3 ⟨rfl, hb3⟩; replace BD := hid (BD.out.trans (hb3.mono (own_base HD.out))); replace HD := hid (own_below HD.out hb3)))
        go_wp2
        go_roundg (j - (h + 1))
        case measure => omega
        case rel => exact ⟨h + 1, j, by first | rfl | go_num, by first | rfl | go_num, by omega, by omega, by omega, Nat.le_refl _, HD, BD, hid (BSH.out.up MO.out hhi hhj (by rw [p1, HH.out.cross (Nat.le_refl a) ham (by omega) (by omega)]; simpa using hrn.out))⟩
      · rw [decide_eq_false hlv] at hrn
        replace hrn := hid hrn
        go_wp2_with fail
        go_region_held3 (fun W => Sem.run Tryz.prog (load12 ⟨g, h * 12, none⟩) W = .ok x.cells W ∧ Sem.run Tryz.prog (load12 ⟨g, a * 12, none⟩) W = .ok y.cells W)
          (first | exact ⟨lx.out _ HD.out, ly.out _ HD.out⟩ | exact ⟨qx, qy⟩ | go_keep)
          ((go_at_call 101; (with_reducible refine (hcmp.out _).mono ?_); rintro e w3 ⟨rfl, hb3⟩; replace BD := hid (BD.out.trans (hb3.mono (own_base HD.out))); replace HD := hid (own_below HD.out hb3)))
        go_wp2
        go_roundg (h - i)
        case measure => omega
        case rel => exact ⟨i, h, by first | rfl | go_num, by first | rfl | go_num, by omega, by omega, by omega, Nat.le_refl _, HD, BD, hid (BSH.out.down MO.out hhi hhj (by rw [p1, HH.out.cross (Nat.le_refl a) ham (by omega) (by omega)]; simpa using hrn.out))⟩
    · have hijz : ¬ (i : Int) < (j : Int) := by omega
      have hije : i = j := by omega
      subst hije
      have kI : IntKind.i64.wrap ((i : Int) - 1) = ((i - 1 : Nat) : Int) := by rw [IntWalk.i64_in _ (by omega)]; omega
      obtain ⟨t, ht⟩ : ∃ t, t = i - 1 := ⟨_, rfl⟩
      rw [← ht] at kI
      obtain ⟨H1, H2, H3⟩ := HH.out.one hm.out BSH.out
      rw [show i - m = t - a by have := hm.out; omega] at H1 H2 H3
      replace H3 := hid H3
      replace H1 := hid H1
      generalize V.take (t - a) = V1 at H1 H2 H3
      generalize V.drop (t - a) ++ S = R at H1 H3
      have hat : a ≤ t := by have := hm.out; omega
      have htN : t < N := by omega
      replace ht := hid ht
      go_wp2
      go_loopg [13] (t - a) (fun g2 vk wr2 => ∃ (k : Nat) (ys : List Nod), vk = .int .i64 (k : Int) ∧ a ≤ k ∧ k ≤ t ∧ t - k ≤ g2 ∧ ys.length = N ∧ Hid (wr2.ownsRow base 89 12 (.slice (some ⟨g, 0, none⟩) N c) N (nodsL ys)) ∧ Hid (Below base w wr2) ∧ Hid (Up P V1 R (nth xs a) ys (k - a)))
      case atStart => exact ⟨a, xs, by first | rfl | go_num, Nat.le_refl _, hat, Nat.le_refl _, hN, HV, HB, by rw [Nat.sub_self]; exact H1⟩
      case round =>
        clear HV HB H1
        obtain ⟨k, ys, rfl, hak, hkt, hg2, hys, HV, HB, HU⟩ := hrel
        by_cases hkl : k < t
        · have hklz : (k : Int) < (t : Int) := by omega
          obtain ⟨q, hq⟩ : ∃ q, q = k + 1 := ⟨_, rfl⟩
          have kq : IntKind.i64.wrap ((k : Int) + 1) = (q : Int) := by rw [IntWalk.i64_in _ (by omega)]; omega
          have hqN : q < N := by omega
          replace hq := hid hq
          have hIl : k < ys.length := by omega
          have hJl : q < ys.length := by omega
          have zI : (k : Int) < (N : Int) := by omega
          have zJ : (q : Int) < (N : Int) := by omega
          obtain ⟨u, hu⟩ : ∃ u, u = ys[k] := ⟨_, rfl⟩
          obtain ⟨v, hv⟩ : ∃ v, v = ys[q] := ⟨_, rfl⟩
          obtain ⟨cx, hcx⟩ : ∃ c, c = u.cells := ⟨_, rfl⟩
          obtain ⟨cy, hcy⟩ : ∃ c, c = v.cells := ⟨_, rfl⟩
          obtain ⟨sx, sy, l1, l2, s1, s2, hfin, hbel⟩ := own_swap (P := Tryz.prog) HV.out hu hv hcx hcy
          replace hbel := hid (HB.out.trans hbel)
          replace hfin := hid hfin
          replace hcx := hid hcx
          replace hcy := hid hcy
          replace hu := hid hu
          replace hv := hid hv
          go_wp2_with fail
          go_big_region_o
          all_goals go_wp2
          go_roundg (t - q)
          case measure => have := hq.out; omega
          case rel => exact ⟨q, swp ys k q, by first | rfl | go_num, by have := hq.out; omega, by have := hq.out; omega, Nat.le_refl _, by rw [swp_len]; exact hys, hfin, hbel, hid (by
            have := HU.out.step (by omega)
            rw [show P.length + (k - a) = k by have := HH.out.ha; omega, ← hq.out, show k - a + 1 = q - a by have := hq.out; omega] at this
            exact this)⟩
        · have hklz : ¬ (k : Int) < (t : Int) := by omega
          have hke : k = t := by omega
          subst hke
          go_wp2
          first | go_end0 | (refine bodyPost_ret (results_none rfl _ _ _) rfl ?_)
          exact ⟨rfl, ys, hys, HV.out, HB.out, H3.out ys HU.out⟩
end
end Go.Proofs.YtkefjeabckainaaGreat

namespace Go.Proofs.YtkefjeabckainaaGreat
section
open Go.RowKit
set_option maxRecDepth 100000
set_option linter.unusedVariables false
attribute [local go_sem ↓] load12_eq

set_option maxHeartbeats 6400000 in
theorem sym2_any (base g c a m b N : Nat) (P U V S xs : List Nod) (w : World) (HH : Hv xs a m b P U V S) (hN : xs.length = N) (hl : N ≤ 1000) (hw : w.ownsRow base 89 12 (.slice (some ⟨g, 0, none⟩) N c) N (nodsL xs)) (hm : a + 1 < m) (hb : b = m + 1) :
    Calls Tryz.prog 187 #[.slice (some ⟨g, 0, none⟩) N c, .int .i64 (a : Int), .int .i64 (m : Int), .int .i64 (b : Int), (.func (.func 101) #[] #[])] w fun e w' => e = .returned (.tuple #[]) ∧ ∃ ys, ys.length = N ∧ w'.ownsRow base 89 12 (.slice (some ⟨g, 0, none⟩) N c) N (nodsL ys) ∧ Below base w w' ∧ Mrg P U V S ys := by
  have MO := hid (p2_mono HH)
  have HV := hid hw
  have HB := hid (Below.refl base w)
  have hbd := HH.bounds
  replace HH := hid HH
  have mixed : Tryz.prog.follows Departure.mixedOrders = true := by first | kernel_rfl | decide
  clear hw
  obtain ⟨d, hd⟩ : ∃ d, d = m - a := ⟨_, rfl⟩
  have k0 : IntKind.i64.wrap ((m : Int) - (a : Int)) = (d : Int) := by rw [IntWalk.i64_in _ (by omega)]; omega
  have k1 : ¬ (d : Int) = 1 := by omega
  have k1' : ((d : Int) == 1) = false := by simp; omega
  have k2 : IntKind.i64.wrap ((b : Int) - (m : Int)) = 1 := by rw [IntWalk.i64_in _ (by omega)]; omega
  have hmb : m < b := by omega
  replace hb := hid hb
  replace hd := hid hd
  go_enter Tryz.func187, Tryz.ntmps187
  go_wp2
  go_loopg [14, 15] (m - a) (fun g1 vi vj wr => ∃ (i j : Nat), vi = .int .i64 (i : Int) ∧ vj = .int .i64 (j : Int) ∧ a ≤ i ∧ i ≤ j ∧ j ≤ m ∧ j - i ≤ g1 ∧ Hid (wr.ownsRow base 89 12 (.slice (some ⟨g, 0, none⟩) N c) N (nodsL xs)) ∧ Hid (Below base w wr) ∧ Hid (BS (p2 xs m) a m i j))
  case atStart => exact ⟨a, m, by first | rfl | go_num, by first | rfl | go_num, Nat.le_refl _, by omega, Nat.le_refl _, by omega, HV, HB, hid (BS.start (by omega))⟩
  case round =>
    clear HV HB
    obtain ⟨i, j, rfl, rfl, hli, hij0, hjh, hg1, HV, HB, BSH⟩ := hrel
    by_cases hij : i < j
    · have hijz : (i : Int) < (j : Int) := by omega
      obtain ⟨h, hh⟩ : ∃ h, h = (i + j) / 2 := ⟨_, rfl⟩
      have em : ((i : Int) + (j : Int)) / 2 = (h : Int) := by omega
      have hhi : i ≤ h := by omega
      have hhj : h < j := by omega
      replace hh := hid hh

      have hIl : m < xs.length := by omega
      have hJl : h < xs.length := by omega
      have zI : (m : Int) < (N : Int) := by omega
      have zJ : (h : Int) < (N : Int) := by omega
      obtain ⟨x, hx⟩ : ∃ x, x = xs[m] := ⟨_, rfl⟩
      obtain ⟨y, hy⟩ : ∃ y, y = xs[h] := ⟨_, rfl⟩
      have lx : ∀ Z, Z.ownsRow base 89 12 (.slice (some ⟨g, 0, none⟩) N c) N (nodsL xs) → Sem.run Tryz.prog (load12 ⟨g, m * 12, none⟩) Z = .ok x.cells Z := fun Z hZ => by rw [hx]; exact own_load hZ hIl
      have ly : ∀ Z, Z.ownsRow base 89 12 (.slice (some ⟨g, 0, none⟩) N c) N (nodsL xs) → Sem.run Tryz.prog (load12 ⟨g, h * 12, none⟩) Z = .ok y.cells Z := fun Z hZ => by rw [hy]; exact own_load hZ hJl
      obtain ⟨r, hr⟩ : ∃ r, r = ordS x.name y.name := ⟨_, rfl⟩
      have hcmp := hid (fun Z => kids1_any x y Z)
      rw [← hr] at hcmp
      have hrn := ordS_neg x.name y.name
      rw [← hr, hx, hy, nth_get hIl, nth_get hJl] at hrn
      replace lx := hid lx
      replace ly := hid ly
      replace hr := hid hr
      replace hx := hid hx
      replace hy := hid hy
      have HD : Hid (wr.drew.ownsRow base 89 12 (.slice (some ⟨g, 0, none⟩) N c) N (nodsL xs)) := HV
      have BD := hid (HB.out.trans (Below.refl base wr).drew)
      have qx := lx.out _ HD.out
      have qy := ly.out _ HD.out
      by_cases hlv : r < 0
      · rw [decide_eq_true hlv] at hrn
        replace hrn := hid hrn
        go_wp2_with fail
        go_region_held3 (fun W => Sem.run Tryz.prog (load12 ⟨g, m * 12, none⟩) W = .ok x.cells W ∧ Sem.run Tryz.prog (load12 ⟨g, h * 12, none⟩) W = .ok y.cells W)
          (first | exact ⟨lx.out _ HD.out, ly.out _ HD.out⟩ | exact ⟨qx, qy⟩ | go_keep)
          ((go_at_call 101; (with_reducible refine (hcmp.out _).mono ?_); rintro e w3 ⟨rfl, hb3⟩; replace BD := hid (BD.out.trans (hb3.mono (own_base HD.out))); replace HD := hid (own_below HD.out hb3)))
        go_wp2
        go_roundg (h - i)
        case measure => omega
        case rel => exact ⟨i, h, by first | rfl | go_num, by first | rfl | go_num, by omega, by omega, by omega, Nat.le_refl _, HD, BD, hid (BSH.out.down MO.out hhi hhj (by rw [p2, HH.out.cross (by omega) (by omega) (Nat.le_refl m) hmb]; simpa using hrn.out))⟩
      · rw [decide_eq_false hlv] at hrn
        replace hrn := hid hrn
        go_wp2_with fail
        go_region_held3 (fun W => Sem.run Tryz.prog (load12 ⟨g, m * 12, none⟩) W = .ok x.cells W ∧ Sem.run Tryz.prog (load12 ⟨g, h * 12, none⟩) W = .ok y.cells W)
          (first | exact ⟨lx.out _ HD.out, ly.out _ HD.out⟩ | exact ⟨qx, qy⟩ | go_keep)
          ((go_at_call 101; (with_reducible refine (hcmp.out _).mono ?_); rintro e w3 ⟨rfl, hb3⟩; replace BD := hid (BD.out.trans (hb3.mono (own_base HD.out))); replace HD := hid (own_below HD.out hb3)))
        go_wp2
        rotate_left
        · exfalso; rename_i hq; simp at hq; omega
        go_roundg (j - (h + 1))
        case measure => omega
        case rel => exact ⟨h + 1, j, by first | rfl | go_num, by first | rfl | go_num, by omega, by omega, by omega, Nat.le_refl _, HD, BD, hid (BSH.out.up MO.out hhi hhj (by rw [p2, HH.out.cross (by omega) (by omega) (Nat.le_refl m) hmb]; simpa using hrn.out))⟩
    · have hijz : ¬ (i : Int) < (j : Int) := by omega
      have hije : i = j := by omega
      subst hije
      obtain ⟨H1, H2, H4, H3⟩ := HH.out.two hb.out BSH.out
      replace H3 := hid H3
      replace H1 := hid H1
      have hQ := hid H4
      clear H4
      generalize P ++ U.take (i - a) = Q at H1 H3 hQ
      generalize U.drop (i - a) = U2 at H1 H2 H3
      have him : i ≤ m := by omega
      go_wp2
      go_loopg [17] (m - i) (fun g2 vk wr2 => ∃ (k : Nat) (ys : List Nod), vk = .int .i64 (k : Int) ∧ i ≤ k ∧ k ≤ m ∧ k - i ≤ g2 ∧ ys.length = N ∧ Hid (wr2.ownsRow base 89 12 (.slice (some ⟨g, 0, none⟩) N c) N (nodsL ys)) ∧ Hid (Below base w wr2) ∧ Hid (Down Q U2 S (nth xs m) ys (k - i)))
      case atStart => exact ⟨m, xs, by first | rfl | go_num, him, Nat.le_refl _, Nat.le_refl _, hN, HV, HB, H1⟩
      case round =>
        clear HV HB H1
        obtain ⟨k, ys, rfl, hik, hkm, hg2, hys, HV, HB, HU⟩ := hrel
        by_cases hkl : i < k
        · have hklz : (i : Int) < (k : Int) := by omega
          obtain ⟨q, hq⟩ : ∃ q, q = k - 1 := ⟨_, rfl⟩
          have kq : IntKind.i64.wrap ((k : Int) - 1) = (q : Int) := by rw [IntWalk.i64_in _ (by omega)]; omega
          have hqN : q < N := by omega
          have hq1 := hid (show k = q + 1 by omega)
          replace hq := hid hq
          have hIl : k < ys.length := by omega
          have hJl : q < ys.length := by omega
          have zI : (k : Int) < (N : Int) := by omega
          have zJ : (q : Int) < (N : Int) := by omega
          obtain ⟨u, hu⟩ : ∃ u, u = ys[k] := ⟨_, rfl⟩
          obtain ⟨v, hv⟩ : ∃ v, v = ys[q] := ⟨_, rfl⟩
          obtain ⟨cx, hcx⟩ : ∃ c, c = u.cells := ⟨_, rfl⟩
          obtain ⟨cy, hcy⟩ : ∃ c, c = v.cells := ⟨_, rfl⟩
          obtain ⟨sx, sy, l1, l2, s1, s2, hfin, hbel⟩ := own_swap (P := Tryz.prog) HV.out hu hv hcx hcy
          replace hbel := hid (HB.out.trans hbel)
          replace hfin := hid hfin
          replace hcx := hid hcx
          replace hcy := hid hcy
          replace hu := hid hu
          replace hv := hid hv
          go_wp2_with fail
          go_big_region_o
          all_goals go_wp2
          go_roundg (q - i)
          case measure => have := hq.out; omega
          case rel => exact ⟨q, swp ys k q, by first | rfl | go_num, by have := hq.out; omega, by have := hq.out; omega, Nat.le_refl _, by rw [swp_len]; exact hys, hfin, hbel, hid (by
            have h0 := HU.out
            rw [show k - i = (q - i) + 1 by have := hq.out; omega] at h0
            have := h0.step (by have := hq.out; omega)
            rw [hQ.out, show i + (q - i + 1) = k by have := hq.out; omega, show i + (q - i) = q by have := hq.out; omega] at this
            exact this)⟩
        · have hklz : ¬ (i : Int) < (k : Int) := by omega
          have hke : k = i := by omega
          subst hke
          go_wp2
          first | go_end0 | (refine bodyPost_ret (results_none rfl _ _ _) rfl ?_)
          exact ⟨rfl, ys, hys, HV.out, HB.out, H3.out ys (by have := HU.out; rwa [Nat.sub_self] at this)⟩
end
end Go.Proofs.YtkefjeabckainaaGreat
