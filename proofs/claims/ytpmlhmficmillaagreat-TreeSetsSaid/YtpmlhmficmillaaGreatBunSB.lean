/- Load and store of one element of an own row of nodes, as equations of the model's runs. Conditions: the index in range.
rotateCmpFunc walked: two neighbouring stretches of an own row of nodes change places. Conditions: neither is empty.
insertionSortCmpFunc walked over an own row of nodes. Conditions: the stretch stands in path order, within the row. -/
import Derived.Test.YtpmlhmficmillaaGreatBunSA
import Derived.Shelf.RegionOpenPlain
import Derived.IntWalk
namespace Go.Proofs.YtpmlhmficmillaaGreat
section
open Go.RowKit
set_option maxRecDepth 100000
set_option linter.unusedVariables false

theorem own_load {P : Program} {w : World} {base e n c g i : Nat} {l : List Nod} (h : w.ownsRow base e 12 (.slice (some ⟨g, 0, none⟩) n c) n (nodsL l)) (hi : i < l.length) :
    Sem.run P (loadCellsFrom ⟨g, i * 12, none⟩ 0 12 #[]) w = .ok l[i].cells w := by
  obtain ⟨b, o, hb, hr⟩ := (NodsAt.of_own h).range i hi
  cases hb
  have hl : l[i].cells.toList.length = 12 := by rw [nod_cells]; rfl
  have := run_loadCells_list (P := P) (w := w) ⟨g, i * 12, none⟩ l[i].cells.toList (fun j v hv => by rw [Addr.add_mid]; have := hr j v hv; rwa [Nat.zero_add] at this)
  rw [hl] at this
  simpa [loadCells] using this
theorem own_store {P : Program} {w : World} {base e n c g i : Nat} {l : List Nod} (h : w.ownsRow base e 12 (.slice (some ⟨g, 0, none⟩) n c) n (nodsL l)) (hi : i < n) (x : Nod) :
    Sem.run P (storeCells ⟨g, i * 12, none⟩ x.cells.toList 0) w = .ok () (w.setCells g (i * 12) x.cells.toList) := by
  have ht := own_there h hi
  have hl : x.cells.toList.length = 12 := by rw [nod_cells]; rfl
  have := run_storeCells_cells (P := P) g (i * 12) x.cells.toList 0 w (fun j hj => by rw [Nat.add_zero]; exact (ht j (by omega)).1) (fun j hj => by rw [Nat.add_zero]; exact (ht j (by omega)).2) (fun v hv => (Array.all_eq_true_iff_forall_mem.1 (nod_one x)) v (by simpa using hv))
  rwa [Nat.add_zero] at this
theorem swp_len {α : Type} (l : List α) (i j : Nat) : (swp l i j).length = l.length := by unfold swp; repeat (first | split | simp)
def load12 (a : Addr) : Sem (Array Value) := loadCellsFrom a 0 12 #[]
theorem load12_eq (a : Addr) : loadCellsFrom a 0 12 #[] = load12 a := rfl
attribute [local go_sem ↓] load12_eq
set_option maxHeartbeats 6400000 in
theorem swapR_any (f : Value) (base g c a b k : Nat) (l : List Nod) (w : World) (hv : w.ownsRow base 28 12 (.slice (some ⟨g, 0, none⟩) l.length c) l.length (nodsL l)) (hab : a + k ≤ b) (hb : b + k ≤ l.length) (hl : l.length ≤ 1000) :
    Calls Tryz.prog 102 #[.slice (some ⟨g, 0, none⟩) l.length c, .int .i64 (a : Int), .int .i64 (b : Int), .int .i64 (k : Int), f] w fun e w' => e = .returned (.tuple #[]) ∧ ∃ l2, w'.ownsRow base 28 12 (.slice (some ⟨g, 0, none⟩) l.length c) l.length (nodsL l2) ∧ Below base w w' ∧ Swapped l l2 a b k := by
  have HV := hid hv
  clear hv
  have HS := hid (SwapAt.start hab hb)
  have HB := hid (Below.refl base w)
  have mixed : Tryz.prog.follows Departure.mixedOrders = true := by first | kernel_rfl | decide
  go_enter Tryz.func102, Tryz.ntmps102
  go_wp2
  go_loopg [10] k (fun g1 vi wr => ∃ (i : Nat) (lk : List Nod), vi = .int .i64 (i : Int) ∧ i ≤ k ∧ k - i ≤ g1 ∧ lk.length = l.length ∧ Hid (wr.ownsRow base 28 12 (.slice (some ⟨g, 0, none⟩) l.length c) l.length (nodsL lk)) ∧ Hid (Below base w wr) ∧ Hid (SwapAt l lk a b k i))
  case atStart => exact ⟨0, l, rfl, by omega, by omega, rfl, HV, HB, HS⟩
  case round =>
    obtain ⟨i, lk, rfl, hik, hg1, hlk, HV, HB, HS⟩ := hrel
    by_cases hlt : i < k
    · have hltz : (i : Int) < (k : Int) := by omega
      obtain ⟨p, hp⟩ : ∃ p, p = a + i := ⟨_, rfl⟩
      obtain ⟨q, hq⟩ : ∃ q, q = b + i := ⟨_, rfl⟩
      have hpl : p < lk.length := by omega
      have hql : q < lk.length := by omega
      have kp : IntKind.i64.wrap ((a : Int) + (i : Int)) = (p : Int) := by rw [IntWalk.i64_in _ (by omega)]; omega
      have kq : IntKind.i64.wrap ((b : Int) + (i : Int)) = (q : Int) := by rw [IntWalk.i64_in _ (by omega)]; omega
      have zp : (p : Int) < (l.length : Int) := by omega
      have zq : (q : Int) < (l.length : Int) := by omega
      have HD : wr.drew.ownsRow base 28 12 (.slice (some ⟨g, 0, none⟩) l.length c) l.length (nodsL lk) := HV.out
      have hs1 := own_set (x := lk[q]) HD (i := p) (by omega)
      have lp : Sem.run Tryz.prog (load12 ⟨g, p * 12, none⟩) wr.drew = _ := own_load (P := Tryz.prog) HD hpl
      have lq : Sem.run Tryz.prog (load12 ⟨g, q * 12, none⟩) wr.drew = _ := own_load (P := Tryz.prog) HD hql
      have s1 := own_store (P := Tryz.prog) HD (i := p) (by omega) lk[q]
      have s2 := own_store (P := Tryz.prog) hs1.1 (i := q) (by omega) lk[p]
      have hs2 := own_set (x := lk[p]) hs1.1 (i := q) (by omega)
      have hfin : Hid (((wr.drew.setCells g (p * 12) lk[q].cells.toList).setCells g (q * 12) lk[p].cells.toList).ownsRow base 28 12 (.slice (some ⟨g, 0, none⟩) l.length c) l.length (nodsL (swp lk p q))) := hid (by
        have := hs2.1
        rwa [show (lk.set p lk[q]).set q lk[p] = swp lk p q by unfold swp; simp [hpl, hql]] at this)
      have hbel := hid ((HB.out.trans ((Below.refl base wr).drew)).trans (hs1.2.1.trans hs2.2.1))
      have hst := hid (HS.out.step hlt)
      replace hs1 := hid hs1
      replace hs2 := hid hs2
      replace HD := hid HD
      obtain ⟨cp, hcp⟩ : ∃ c, c = lk[p].cells := ⟨_, rfl⟩
      obtain ⟨cq, hcq⟩ : ∃ c, c = lk[q].cells := ⟨_, rfl⟩
      rw [← hcp] at lp s2 hfin
      rw [← hcq] at lq s1 s2 hfin
      rw [← hcp, ← hcq] at hbel
      have sz1 : cp.size = 12 := by rw [hcp, nod_cells]; rfl
      have sz2 : cq.size = 12 := by rw [hcq, nod_cells]; rfl
      replace hcp := hid hcp
      replace hcq := hid hcq
      replace hp := hid hp
      replace hq := hid hq
      go_wp2_with fail
      go_big_region_o
      all_goals go_wp2
      go_roundg (k - (i + 1))
      case measure => omega
      case rel => exact ⟨i + 1, swp lk p q, by first | rfl | go_num, by omega, by omega, by rw [swp_len]; exact hlk, hfin, hbel, hid (by rw [hp.out, hq.out]; exact hst.out)⟩
    · have hltz : ¬ (i : Int) < (k : Int) := by omega
      go_wp2
      go_end0
      have : i = k := by omega
      subst this
      exact ⟨rfl, lk, HV.out, HB.out, HS.out.done⟩
end
end Go.Proofs.YtpmlhmficmillaaGreat

namespace Go.Proofs.YtpmlhmficmillaaGreat
section
open Go.RowKit
set_option maxRecDepth 100000
set_option linter.unusedVariables false

set_option maxHeartbeats 6400000 in
theorem rotR_any (f : Value) (base g c a m b N : Nat) (P A B S xs : List Nod) (w : World) (hx : xs = P ++ A ++ B ++ S) (ha : a = P.length) (hm : m = (P ++ A).length) (hb : b = (P ++ A ++ B).length) (hN : xs.length = N) (hv : w.ownsRow base 28 12 (.slice (some ⟨g, 0, none⟩) N c) N (nodsL xs)) (hA : 0 < A.length) (hB : 0 < B.length) (hl : N ≤ 1000) :
    Calls Tryz.prog 98 #[.slice (some ⟨g, 0, none⟩) N c, .int .i64 (a : Int), .int .i64 (m : Int), .int .i64 (b : Int), f] w fun e w' => e = .returned (.tuple #[]) ∧ w'.ownsRow base 28 12 (.slice (some ⟨g, 0, none⟩) N c) N (nodsL (P ++ B ++ A ++ S)) ∧ Below base w w' := by
  have hsw : Hid (∀ (W : World) (ys : List Nod) (a' b' k : Nat), ys.length = N → W.ownsRow base 28 12 (.slice (some ⟨g, 0, none⟩) N c) N (nodsL ys) → a' + k ≤ b' → b' + k ≤ N → Calls Tryz.prog 102 #[.slice (some ⟨g, 0, none⟩) N c, .int .i64 (a' : Int), .int .i64 (b' : Int), .int .i64 (k : Int), f] W fun e w' => e = .returned (.tuple #[]) ∧ ∃ l2, w'.ownsRow base 28 12 (.slice (some ⟨g, 0, none⟩) N c) N (nodsL l2) ∧ Below base W w' ∧ Swapped ys l2 a' b' k) := hid (fun W ys a' b' k hy hW h1 h2 => by
    subst hy
    exact swapR_any f base g c a' b' k ys W hW h1 h2 hl)
  have hmA : m = a + A.length := by rw [hm, ha, List.length_append]
  have hbB : b = m + B.length := by rw [hb, hm, List.length_append]
  have hbN : b ≤ N := by rw [← hN, hx, hb]; simp
  have HR : Hid (Rot P A B S xs m A.length B.length) := hid (by rw [hx, hm]; exact Rot.start P A B S)
  have HB := hid (Below.refl base w)
  have HV := hid hv
  have ki : IntKind.i64.wrap ((m : Int) - (a : Int)) = (A.length : Int) := by rw [IntWalk.i64_in _ (by omega)]; omega
  have kj : IntKind.i64.wrap ((b : Int) - (m : Int)) = (B.length : Int) := by rw [IntWalk.i64_in _ (by omega)]; omega
  clear hv hm hb ha hx
  go_enter Tryz.func98, Tryz.ntmps98
  go_wp2
  go_loopg [10, 11] (A.length + B.length) (fun g1 vi vj wr => ∃ (i j : Nat) (ys : List Nod), vi = .int .i64 (i : Int) ∧ vj = .int .i64 (j : Int) ∧ 0 < i ∧ 0 < j ∧ i ≤ m ∧ m + j ≤ N ∧ i + j ≤ g1 ∧ ys.length = N ∧ Hid (wr.ownsRow base 28 12 (.slice (some ⟨g, 0, none⟩) N c) N (nodsL ys)) ∧ Hid (Below base w wr) ∧ Hid (Rot P A B S ys m i j))
  case atStart => exact ⟨A.length, B.length, xs, by first | rfl | (congr 1; omega), by first | rfl | (congr 1; omega), hA, hB, by omega, by omega, by omega, hN, HV, HB, HR⟩
  case round =>
    obtain ⟨i, j, ys, rfl, rfl, hi0, hj0, him, hjN, hg1, hys, HV, HB, HR⟩ := hrel
    clear ki kj
    clear hmA hbB hA hB hN hbN
    rcases Nat.lt_trichotomy i j with h | h | h
    · have z1 : ((i : Int) != (j : Int)) = true := by simp; omega
      have z2 : decide ((j : Int) < (i : Int)) = false := decide_eq_false (by omega)
      have hc := hsw.out wr ys (m - i) (m + j - i) i hys HV.out (by omega) (by omega)
      rw [show ((m - i : Nat) : Int) = (m : Int) - (i : Int) by omega, show ((m + j - i : Nat) : Int) = (m : Int) + (j : Int) - (i : Int) by omega] at hc
      replace hc := hid hc
      go_wp2_with fail
      refine hc.out.mono ?_
      rintro e w2 ⟨rfl, l2, hv2, hb2, hs2⟩
      have hl2 := hid (HR.out.right h hs2)
      have hlen : l2.length = N := by have := hv2.1; rw [nodsL_length] at this; omega
      replace hv2 := hid hv2
      have hb3 := hid (HB.out.trans hb2)
      go_wp2
      go_roundg (i + (j - i))
      case measure => omega
      case rel => exact ⟨i, j - i, l2, rfl, by first | rfl | (congr 1; omega), by omega, by omega, by omega, by omega, by omega, hlen, hv2, hb3, hl2⟩
    · subst h
      have z1 : ((i : Int) != (i : Int)) = false := by simp
      have hc := hsw.out wr ys (m - i) m i hys HV.out (by omega) (by omega)
      rw [show ((m - i : Nat) : Int) = (m : Int) - (i : Int) by omega] at hc
      replace hc := hid hc
      go_wp2_with fail
      refine hc.out.mono ?_
      rintro e w2 ⟨rfl, l2, hv2, hb2, hs2⟩
      have hl2 := HR.out.last hs2
      rw [hl2] at hv2
      go_wp2_with fail
      go_end0
      exact ⟨rfl, hv2, HB.out.trans hb2⟩
    · have z1 : ((i : Int) != (j : Int)) = true := by simp; omega
      have z2 : decide ((j : Int) < (i : Int)) = true := decide_eq_true (by omega)
      have hc := hsw.out wr ys (m - i) m j hys HV.out (by omega) (by omega)
      rw [show ((m - i : Nat) : Int) = (m : Int) - (i : Int) by omega] at hc
      replace hc := hid hc
      go_wp2_with fail
      refine hc.out.mono ?_
      rintro e w2 ⟨rfl, l2, hv2, hb2, hs2⟩
      have hl2 := hid (HR.out.left h hs2)
      have hlen : l2.length = N := by have := hv2.1; rw [nodsL_length] at this; omega
      replace hv2 := hid hv2
      have hb3 := hid (HB.out.trans hb2)
      go_wp2
      go_roundg ((i - j) + j)
      case measure => omega
      case rel => exact ⟨i - j, j, l2, by first | rfl | (congr 1; omega), rfl, by omega, by omega, by omega, by omega, by omega, hlen, hv2, hb3, hl2⟩
end
end Go.Proofs.YtpmlhmficmillaaGreat

namespace Go.Proofs.YtpmlhmficmillaaGreat
section
open Go.RowKit
set_option maxRecDepth 100000
set_option linter.unusedVariables false
attribute [local go_sem ↓] load12_eq

theorem own_base {w : World} {base e n c g : Nat} {xs : List Value} (h : w.ownsRow base e 12 (.slice (some ⟨g, 0, none⟩) n c) n xs) : base ≤ w.heap.size := by
  rcases h.2 with ⟨h1, _⟩ | ⟨g', cap, cur, hv, hb, hg, _⟩
  · cases h1
  · have := lt_of_block hg
    omega
theorem own_swap {P : Program} {W : World} {base e N c g i j : Nat} {zs : List Nod} {x y : Nod} {cx cy : Array Value} (HD : W.ownsRow base e 12 (.slice (some ⟨g, 0, none⟩) N c) N (nodsL zs)) {hi : i < zs.length} {hj : j < zs.length} (hx : x = zs[i]) (hy : y = zs[j]) (hcx : cx = x.cells) (hcy : cy = y.cells) :
    cx.size = 12 ∧ cy.size = 12 ∧ Sem.run P (load12 ⟨g, i * 12, none⟩) W.drew = .ok cx W.drew ∧ Sem.run P (load12 ⟨g, j * 12, none⟩) W.drew = .ok cy W.drew ∧ Sem.run P (storeCells ⟨g, i * 12, none⟩ cy.toList 0) W.drew = .ok () (W.drew.setCells g (i * 12) cy.toList) ∧ Sem.run P (storeCells ⟨g, j * 12, none⟩ cx.toList 0) (W.drew.setCells g (i * 12) cy.toList) = .ok () ((W.drew.setCells g (i * 12) cy.toList).setCells g (j * 12) cx.toList) ∧
    ((W.drew.setCells g (i * 12) cy.toList).setCells g (j * 12) cx.toList).ownsRow base e 12 (.slice (some ⟨g, 0, none⟩) N c) N (nodsL (swp zs i j)) ∧ Below base W ((W.drew.setCells g (i * 12) cy.toList).setCells g (j * 12) cx.toList) := by
  have hD : W.drew.ownsRow base e 12 (.slice (some ⟨g, 0, none⟩) N c) N (nodsL zs) := HD
  have hln : N = zs.length := by have := HD.1; rw [nodsL_length] at this; omega
  have hs1 := own_set (x := y) hD (i := i) (by omega)
  have hs2 := own_set (x := x) hs1.1 (i := j) (by omega)
  subst hcx hcy
  refine ⟨by rw [nod_cells]; rfl, by rw [nod_cells]; rfl, by rw [hx]; exact own_load hD hi, by rw [hy]; exact own_load hD hj, own_store hD (by omega) y, own_store hs1.1 (by omega) x, ?_, ((Below.refl base W).drew).trans (hs1.2.1.trans hs2.2.1)⟩
  have := hs2.1
  rwa [show (zs.set i y).set j x = swp zs i j by unfold swp; simp [hi, hj, hx, hy]] at this
set_option maxHeartbeats 6400000 in
theorem insR_any (base g c a b N : Nat) (xs : List Nod) (w : World) (hv : w.ownsRow base 28 12 (.slice (some ⟨g, 0, none⟩) N c) N (nodsL xs)) (hN : xs.length = N) (hab : a < b) (hb : b ≤ N) (hl : N ≤ 1000) (hp : (seg xs a b).Pairwise fun x y => x.path < y.path) :
    Calls Tryz.prog 85 #[.slice (some ⟨g, 0, none⟩) N c, .int .i64 (a : Int), .int .i64 (b : Int), .func (.func 50) #[] #[]] w fun e w' => e = .returned (.tuple #[]) ∧ ∃ ys, ys.length = N ∧ w'.ownsRow base 28 12 (.slice (some ⟨g, 0, none⟩) N c) N (nodsL ys) ∧ Below base w w' ∧ Mended xs ys a b ∧ Srt leNP (seg ys a b) := by
  have HO := hid (InsOut.start (xs := xs) (a := a) (by omega))
  have HB := hid (Below.refl base w)
  have HV := hid hv
  have HP := hid hp
  have mixed : Tryz.prog.follows Departure.mixedOrders = true := by first | kernel_rfl | decide
  clear hv hp
  go_enter Tryz.func85, Tryz.ntmps85
  go_wp2
  go_loopg [8] (b - a) (fun g1 vi wr => ∃ (i : Nat) (ys : List Nod), vi = .int .i64 (i : Int) ∧ a < i ∧ i ≤ b ∧ b - i ≤ g1 ∧ ys.length = N ∧ Hid (wr.ownsRow base 28 12 (.slice (some ⟨g, 0, none⟩) N c) N (nodsL ys)) ∧ Hid (Below base w wr) ∧ Hid (InsOut xs ys a i))
  case atStart => exact ⟨a + 1, xs, by first | rfl | go_num, by omega, by omega, by omega, hN, HV, HB, HO⟩
  case round =>
    obtain ⟨i, ys, rfl, hai, hib, hg1, hys, HV, HB, HO⟩ := hrel
    by_cases hlt : i < b
    · have hltz : (i : Int) < (b : Int) := by omega
      have HI := hid (HO.out.next hlt (by omega) HP.out)
      go_wp2
      go_loopg [9] i (fun g2 vj wr2 => ∃ (j : Nat) (zs : List Nod), vj = .int .i64 (j : Int) ∧ a ≤ j ∧ j ≤ i ∧ j ≤ g2 ∧ zs.length = N ∧ Hid (wr2.ownsRow base 28 12 (.slice (some ⟨g, 0, none⟩) N c) N (nodsL zs)) ∧ Hid (Below base w wr2) ∧ Hid (InsIn xs zs a i j))
      case atStart => exact ⟨i, ys, rfl, by omega, Nat.le_refl _, Nat.le_refl _, hys, HV, HB, HI⟩
      case round =>
        clear HI HO HV HB hys
        obtain ⟨j, zs, rfl, haj, hji, hg2, hzs, HV, HB, HI⟩ := hrel
        by_cases hja : a < j
        · obtain ⟨p, rfl⟩ : ∃ p, j = p + 1 := ⟨j - 1, by omega⟩
          have hpl : p < zs.length := by omega
          have hql : p + 1 < zs.length := by omega
          have zj : (a : Int) < (p : Int) + 1 := by omega
          have z0 : (0 : Int) ≤ (p : Int) + 1 := by omega
          have z1 : (p : Int) + 1 < (N : Int) := by omega
          have z2 : (p : Int) < (N : Int) := by omega
          have e0 : ((p : Int) + 1).toNat = p + 1 := by omega
          obtain ⟨x, hx⟩ : ∃ x, x = zs[p + 1] := ⟨_, rfl⟩
          obtain ⟨y, hy⟩ : ∃ y, y = zs[p] := ⟨_, rfl⟩
          have lx : ∀ Z, Z.ownsRow base 28 12 (.slice (some ⟨g, 0, none⟩) N c) N (nodsL zs) → Sem.run Tryz.prog (load12 ⟨g, (p + 1) * 12, none⟩) Z = .ok x.cells Z := fun Z hZ => by rw [hx]; exact own_load hZ hql
          have ly : ∀ Z, Z.ownsRow base 28 12 (.slice (some ⟨g, 0, none⟩) N c) N (nodsL zs) → Sem.run Tryz.prog (load12 ⟨g, p * 12, none⟩) Z = .ok y.cells Z := fun Z hZ => by rw [hy]; exact own_load hZ hpl
          obtain ⟨r, hr⟩ : ∃ r, r = ordS x.name y.name := ⟨_, rfl⟩
          have hcmp := hid (fun Z => kids1_any x y Z)
          rw [← hr] at hcmp
          have hrn := ordS_neg x.name y.name
          rw [← hr] at hrn
          have hwp : IntKind.i64.wrap (p : Int) = (p : Int) := by rw [IntWalk.i64_in _ (by omega)]
          have gx : zs[p + 1]? = some x := by rw [hx]; exact List.getElem?_eq_getElem hql
          have gy : zs[p]? = some y := by rw [hy]; exact List.getElem?_eq_getElem hpl
          replace gx := hid gx
          replace gy := hid gy
          replace lx := hid lx
          replace ly := hid ly
          replace hr := hid hr
          replace hx := hid hx
          replace hy := hid hy
          have HD : Hid (wr.drew.ownsRow base 28 12 (.slice (some ⟨g, 0, none⟩) N c) N (nodsL zs)) := HV
          have BD := hid (HB.out.trans (Below.refl base wr).drew)
          have qx := lx.out _ HD.out
          have qy := ly.out _ HD.out
          by_cases hlv : r < 0
          · rw [decide_eq_true hlv] at hrn
            replace hrn := hid hrn
            go_wp2_with fail
            go_region_held3 (fun W => Sem.run Tryz.prog (load12 ⟨g, (p + 1) * 12, none⟩) W = .ok x.cells W ∧ Sem.run Tryz.prog (load12 ⟨g, p * 12, none⟩) W = .ok y.cells W)
              (first | exact ⟨lx.out _ HD.out, ly.out _ HD.out⟩ | exact ⟨qx, qy⟩ | go_keep)
              ((go_at_call 50; (with_reducible refine (hcmp.out _).mono ?_); rintro e w3 ⟨rfl, hb3⟩; replace BD := hid (BD.out.trans (hb3.mono (own_base HD.out))); replace HD := hid (own_below HD.out hb3)))
            go_wp2_with fail
            obtain ⟨cx, hcx⟩ : ∃ c, c = x.cells := ⟨_, rfl⟩
            obtain ⟨cy, hcy⟩ : ∃ c, c = y.cells := ⟨_, rfl⟩
            obtain ⟨sx, sy, l1, l2, s1, s2, hfin, hbel⟩ := own_swap (P := Tryz.prog) HD.out hx.out hy.out hcx hcy
            replace hbel := hid (BD.out.trans hbel)
            replace hfin := hid hfin
            replace hcx := hid hcx
            replace hcy := hid hcy
            clear qx qy
            go_wp2_with fail
            go_big_region_o
            all_goals go_wp2
            go_roundg p
            case measure => omega
            case rel => exact ⟨p, swp zs (p + 1) p, by first | rfl | go_num, by omega, by omega, Nat.le_refl _, by rw [swp_len]; exact hzs, hfin, hbel, hid (HI.out.swap hja gx.out gy.out (by simpa using hrn.out.symm))⟩
          · rw [decide_eq_false hlv] at hrn
            replace hrn := hid hrn
            go_wp2_with fail
            go_region_held3 (fun W => Sem.run Tryz.prog (load12 ⟨g, (p + 1) * 12, none⟩) W = .ok x.cells W ∧ Sem.run Tryz.prog (load12 ⟨g, p * 12, none⟩) W = .ok y.cells W)
              (first | exact ⟨lx.out _ HD.out, ly.out _ HD.out⟩ | exact ⟨qx, qy⟩ | go_keep)
              ((go_at_call 50; (with_reducible refine (hcmp.out _).mono ?_); rintro e w3 ⟨rfl, hb3⟩; replace BD := hid (BD.out.trans (hb3.mono (own_base HD.out))); replace HD := hid (own_below HD.out hb3)))
            go_wp2
            go_roundg (b - (i + 1))
            case measure => omega
            case rel => exact ⟨i + 1, zs, by go_num, by omega, by omega, by omega, hzs, HD, BD, hid (HI.out.done (.inr ⟨x, y, gx.out, gy.out, by simpa using hrn.out.symm⟩))⟩
        · have hjaz : decide ((j : Int) > (a : Int)) = false := decide_eq_false (by omega)
          have hjaz' : ¬ (a : Int) < (j : Int) := by omega
          have HD : Hid (wr.drew.ownsRow base 28 12 (.slice (some ⟨g, 0, none⟩) N c) N (nodsL zs)) := HV
          have BD := hid (HB.out.trans (Below.refl base wr).drew)
          go_wp2_with fail
          go_big_region_o
          all_goals go_wp2
          go_roundg (b - (i + 1))
          case measure => omega
          case rel => exact ⟨i + 1, zs, by go_num, by omega, by omega, by omega, hzs, HD, BD, hid (HI.out.done (.inl (by omega)))⟩
    · have hltz : ¬ (i : Int) < (b : Int) := by omega
      go_wp2
      go_end0
      have : i = b := by omega
      subst this
      exact ⟨rfl, ys, hys, HV.out, HB.out, HO.out.mended.1, HO.out.mended.2⟩
theorem insR0_any (base g c a N : Nat) (xs : List Nod) (w : World) (ha : a ≤ 1000) :
    Calls Tryz.prog 85 #[.slice (some ⟨g, 0, none⟩) N c, .int .i64 (a : Int), .int .i64 (a : Int), .func (.func 50) #[] #[]] w fun e w' => e = .returned (.tuple #[]) ∧ w' = w := by
  obtain ⟨d, hd⟩ : ∃ d, d = a + 1 := ⟨_, rfl⟩
  have k1 : IntKind.i64.wrap ((a : Int) + 1) = (d : Int) := by rw [IntWalk.i64_in _ (by omega)]; omega
  have k2 : ¬ (d : Int) < (a : Int) := by omega
  replace hd := hid hd
  go_enter Tryz.func85, Tryz.ntmps85
  go_wp2
  go_loopg [8] 0 (fun g1 vi wr => vi = .int .i64 (d : Int) ∧ wr = w)
  case atStart => exact ⟨by first | rfl | go_num, rfl⟩
  case round =>
    obtain ⟨rfl, rfl⟩ := hrel
    go_wp2
    go_end0
    exact ⟨rfl, rfl⟩
end
end Go.Proofs.YtpmlhmficmillaaGreat
