/- The disk's small methods. Conditions: in the statements. And the texts behind it. -/
import Derived.Test.YtcmajcljafmphaaGreatKtA37
import Derived.Test.YtcmajcljafmphaaGreatKtA22
import Derived.Deep.RegionWith
import Derived.Deep.RegionHeld3
import Derived.Test.YtcmajcljafmphaaGreatKtA01
namespace Go.Proofs.YtcmajcljafmphaaGreat
section
open Go.RowKit Go.Maps
set_option maxRecDepth 100000
set_option linter.unusedVariables false

theorem don_ok (d : Nat) (w : World) (h : w.cell? ⟨d, 3, none⟩ = some (.bool false)) : Calls Tryz.prog 62 #[.pointer (some ⟨d, 0, none⟩)] w fun e w' => e = .returned (.tuple #[]) ∧ w' = w := by
  go_enter Tryz.func62, Tryz.ntmps62
  go_wp2
  go_end0
  exact ⟨rfl, rfl⟩
theorem din_any (d g cap n : Nat) (i : Int) (w : World) (h : w.cell? ⟨d, 1, none⟩ = some (.slice (some ⟨g, 0, none⟩) n cap)) : Calls Tryz.prog 63 #[.pointer (some ⟨d, 0, none⟩), .int .i64 i] w fun e w' => e = .returned (.bool (decide (0 ≤ i) && decide (i < (n : Int)))) ∧ w' = w := by
  by_cases h1 : 0 ≤ i
  · by_cases h2 : i < (n : Int)
    all_goals
      go_enter Tryz.func63, Tryz.ntmps63
      go_wp2
      go_ret
      exact ⟨by simp [h1, h2], rfl⟩
  · go_enter Tryz.func63, Tryz.ntmps63
    go_wp2
    go_ret
    exact ⟨by simp; omega, rfl⟩
theorem doff_any (d : Nat) (b : Bool) (w : World) (h : w.cell? ⟨d, 3, none⟩ = some (.bool b)) : Calls Tryz.prog 20 #[.pointer (some ⟨d, 0, none⟩)] w fun e w' => e = .returned (.bool b) ∧ w' = w := by
  go_enter Tryz.func20, Tryz.ntmps20
  go_wp2
  go_ret
  exact ⟨rfl, rfl⟩
theorem dshape_any (d g cap n sz : Nat) (w : World) (h0 : w.cell? ⟨d, 0, none⟩ = some (.int .i64 (sz : Int))) (h : w.cell? ⟨d, 1, none⟩ = some (.slice (some ⟨g, 0, none⟩) n cap)) : Calls Tryz.prog 50 #[.pointer (some ⟨d, 0, none⟩)] w fun e w' => e = .returned (.tuple #[.int .i64 (n : Int), .int .i64 (sz : Int)]) ∧ w' = w.drew := by
  go_enter Tryz.func50, Tryz.ntmps50
  go_wp2
  go_region
  go_wp2
  refine bodyPost_ret (results_tmp2 rfl _ _ _) rfl ?_
  exact ⟨rfl, rfl⟩
theorem don_on (w : World) (d : Nat) (x : Value) (hc : w.cell? ⟨d, 3, none⟩ = some x) (hf : w.frozen? ⟨d, 3, none⟩ = false) : Calls Tryz.prog 22 #[.pointer (some ⟨d, 0, none⟩)] w fun e w' => e = .returned (.tuple #[]) ∧ w' = w.setCell ⟨d, 3, none⟩ (.bool false) := by
  go_enter Tryz.func22, Tryz.ntmps22
  go_wp2
  go_end0
  exact ⟨rfl, rfl⟩
theorem kfrom_any (b : Bool) (w : World) : Calls Tryz.prog 31 #[.bool b] w fun e w' => e = .returned (.int .i64 (if b then 256 else 1)) ∧ w' = w := by
  cases b
  all_goals
    go_enter Tryz.func31, Tryz.ntmps31
    go_wp2
    go_ret
    exact ⟨rfl, rfl⟩
theorem kmust_ok (w : World) : Calls Tryz.prog 55 #[.int .i64 0] w fun e w' => e = .returned (.tuple #[]) ∧ w' = w := by
  go_enter Tryz.func55, Tryz.ntmps55
  go_wp2
  go_end0
  exact ⟨rfl, rfl⟩
theorem kmust_bad (E : Nat) (hE : E ≠ 0) (w : World) : Calls Tryz.prog 55 #[.int .i64 (E : Int)] w fun e w' => e = .panicked (errChain E) ∧ w' = w := by
  have k0 : ((E : Int) != 0) = true := by simpa using hE
  go_enter Tryz.func55, Tryz.ntmps55
  go_wp2
  exact ⟨rfl, rfl, rfl⟩
theorem dkeepall_any (i : Int) (w : World) : Calls Tryz.prog 84 #[.int .i64 i] w fun e w' => e = .returned (.bool true) ∧ w' = w := by
  go_enter Tryz.func84, Tryz.ntmps84
  go_wp2
  go_ret
  exact ⟨rfl, rfl⟩
theorem dassert_errno (e : Int) (w : World) : (Instr.typeAssert (.iface 24 (.int .i64 e)) 20 24 true).run Tryz.prog w = .ok (.tuple #[.int .i64 e, .bool true]) w := by kernel_rfl
theorem dcaught_idle (k : Nat) (w : World) :
    CallsD Tryz.prog 61 #[.pointer (some ⟨k, 0, none⟩)] .returning w fun en u' w' =>
      en = .returned (.tuple #[]) ∧ u' = .returning ∧ w' = w := by
  refine callsD_of_wpS Tryz.func61 rfl fun c₀ cs hu => ?_
  apply wpS_seq
  apply wpS_region
  simp [wpOpsS, go_sem, Tryz.ntmps61, recoverD, hu, Exit.thenS, Array.replicate_succ]
  rw [show c₀ = { c₀ with mode := .returning } from by cases c₀; simp_all]
  apply wpS_body
  go_wp2
  go_end0
  exact ⟨rfl, rfl⟩
def rightB (a b : Int) : Bool := decide (1 ≤ a) && decide (a ≤ 16384) && decide (64 ≤ b) && decide (b ≤ 1024)
theorem dright_any (a b : Int) (w : World) : Calls Tryz.prog 27 #[.int .i64 a, .int .i64 b] w fun e w' => e = .returned (.bool (rightB a b)) ∧ w' = w := by
  unfold rightB
  by_cases h1 : 1 ≤ a
  · by_cases h2 : a ≤ 16384
    · by_cases h3 : 64 ≤ b
      · by_cases h4 : b ≤ 1024
        all_goals
          go_enter Tryz.func27, Tryz.ntmps27
          go_wp2
          go_ret
          exact ⟨by simp [h1, h2, h3, h4], rfl⟩
      · go_enter Tryz.func27, Tryz.ntmps27
        go_wp2
        go_ret
        exact ⟨ret_bool (by simp; omega), rfl⟩
    · go_enter Tryz.func27, Tryz.ntmps27
      go_wp2
      go_ret
      exact ⟨ret_bool (by simp; omega), rfl⟩
  · go_enter Tryz.func27, Tryz.ntmps27
    go_wp2
    go_ret
    exact ⟨ret_bool (by simp; omega), rfl⟩
end
end Go.Proofs.YtcmajcljafmphaaGreat

namespace Go.Proofs.YtcmajcljafmphaaGreat
section
open Go.RowKit Go.Maps
set_option maxRecDepth 100000
set_option linter.unusedVariables false

def settleK (kept : List (List UInt8)) (pend : List (Nat × List UInt8)) (kb : Nat → Bool) : Nat → List (List UInt8)
  | 0 => kept
  | k + 1 => if kb k then (settleK kept pend kb k).set (pend.getD k (0, [])).1 (pend.getD k (0, [])).2 else settleK kept pend kb k
theorem settleK_len (kept : List (List UInt8)) (pend : List (Nat × List UInt8)) (kb : Nat → Bool) : ∀ k, (settleK kept pend kb k).length = kept.length
  | 0 => rfl
  | k + 1 => by unfold settleK; split <;> simp [settleK_len kept pend kb k]
def DskV.at (s : DskV) (kb : Nat → Bool) (k : Nat) : DskV := { s with kept := settleK s.kept s.pend kb k }
def DskV.settled (s : DskV) (kb : Nat → Bool) : DskV := { s with kept := settleK s.kept s.pend kb s.pend.length, pend := [] }
theorem DSt.lay {w : World} {zs : List Nat} {d g m cap : Nat} {us : List Value} {ps : List (Nat × Value)} {bv : Value} {s : DskV} (h : DSt w zs d g m cap us ps bv s) (i : Nat) (hi : i < s.kept.length) (u : Value) (l : List UInt8) (hu : BytesAt w u l) (hf : FarB (d :: g :: m :: zs) u) :
    DSt (w.setCell ⟨g, i, none⟩ u) zs d g m cap (us.set i u) ps bv { s with kept := s.kept.set i l } := by
  have hk : ∀ k, k ≠ g → (w.setCell ⟨g, i, none⟩ u).heap[k]? = w.heap[k]? := fun k hk => block_set_other hk
  have hs : w.heap.size ≤ (w.setCell ⟨g, i, none⟩ u).heap.size := by simp [World.setCell]
  have hrow : ∀ {v : Value} {l : List UInt8}, BytesAt w v l → FarB (d :: g :: m :: zs) v → BytesAt (w.setCell ⟨g, i, none⟩ u) v l := fun hv hfv => RowAt.other hv hs (fun j hj => hk j (fun e => hfv j hj (by simp [e])))
  refine ⟨h.dg, h.dm, h.gm, fun z hz => ?_, ?_, ?_, by simp [h.klen], fun j hj => ?_, fun x hx => ?_, h.map.kept (hk m (Ne.symm h.gm)), h.plen, fun j hj => ⟨(h.pend j hj).1, hrow (h.pend j hj).2 (h.pfar _ (getD_mem (by rw [h.plen]; exact hj)))⟩, h.pfar, RowAt.other h.bools hs (fun j hj => hk j (fun e => h.bfar j hj (by simp [e]))), h.bfar⟩
  · have := h.far z hz; exact ⟨this.1, this.2.1, this.2.2.1, by omega⟩
  · have := (hk d h.dg).trans h.blk
    simpa [dCells] using this
  · have h1 := h.own
    have h2 := h1.2
    rcases h2 with ⟨e, _⟩ | ⟨g', cap', cur, e, hb, hg, c1, c2, c3, c4⟩
    · cases e
    · cases e
      refine ⟨by simp [h.klen], .inr ⟨g, cap, cur.setIfInBounds i u, by simp, Nat.zero_le _, block_set hg i u, by simpa using c1, c2, by simpa using c3, ?_⟩⟩
      simp only [List.length_set, Nat.mul_one] at c4 ⊢
      rw [Array.toList_setIfInBounds, ← c4, List.take_set]
  · simp only [List.length_set] at hj
    by_cases e : i = j
    · subst e
      rw [List.getD_eq_getElem?_getD, List.getElem?_set_self (by rw [h.klen]; exact hj), List.getElem_set_self]
      exact hrow hu hf
    · rw [List.getD_eq_getElem?_getD, List.getElem?_set_ne e, List.getElem_set_ne e, ← List.getD_eq_getElem?_getD]
      exact hrow (h.kept j hj) (h.kfar _ (getD_mem (by rw [h.klen]; exact hj)))
  · rcases List.mem_or_eq_of_mem_set hx with hx | rfl
    · exact h.kfar x hx
    · exact hf
theorem DSt.ults {w : World} {zs : List Nat} {d g m cap : Nat} {us : List Value} {ps : List (Nat × Value)} {bv : Value} {s : DskV} (h : DSt w zs d g m cap us ps bv s) {u : Value} (hu : u ∈ us) {j : Nat} (hj : u.ownBlock = some j) : j < w.heap.size := by
  obtain ⟨i, hi, rfl⟩ := List.mem_iff_getElem.1 hu
  have := h.kept i (by rw [← h.klen]; exact hi)
  rw [List.getD_eq_getElem?_getD, List.getElem?_eq_getElem hi] at this
  exact this.lt hj
theorem FarB.fresh {zs : List Nat} {d g m n : Nat} {u : Value} (h : FarB (d :: g :: m :: zs) u) (hl : ∀ j, u.ownBlock = some j → j < n) : FarB (d :: g :: n :: zs) u := fun j hj hm => by
  have h1 := h j hj
  have h2 := hl j hj
  simp only [List.mem_cons, not_or] at hm h1
  rcases hm with e | e | e | e
  · exact h1.1 e
  · exact h1.2.1 e
  · omega
  · exact h1.2.2.2 e
theorem DSt.fresh {w : World} {zs : List Nat} {d g m cap : Nat} {us : List Value} {ps : List (Nat × Value)} {bv : Value} {s : DskV} (h : DSt w zs d g m cap us ps bv s) :
    DSt ((w.alloc (.map #[] 0)).setCell ⟨d, 2, none⟩ (.map (some w.heap.size))) zs d g w.heap.size cap us [] bv { s with pend := [] } := by
  have hA := (Below.refl w.heap.size w).alloc (Nat.le_refl _) (.map #[] 0)
  have k := h.below hA
  have h1 := lt_of_block h.blk
  have h2 := (h.own.lt g rfl).2
  have hk : ∀ j, j ≠ d → ((w.alloc (.map #[] 0)).setCell ⟨d, 2, none⟩ (.map (some w.heap.size))).heap[j]? = (w.alloc (.map #[] 0)).heap[j]? := fun j hj => block_set_other hj
  have hs : (w.alloc (.map #[] 0)).heap.size ≤ ((w.alloc (.map #[] 0)).setCell ⟨d, 2, none⟩ (.map (some w.heap.size))).heap.size := by simp [World.setCell]
  have hs2 : (w.alloc (.map #[] 0)).heap.size = w.heap.size + 1 := by simp
  have hrow : ∀ {v : Value} {n : Nat} {xs : List Value}, RowAt (w.alloc (.map #[] 0)) 1 v n xs → FarB (d :: g :: m :: zs) v → RowAt ((w.alloc (.map #[] 0)).setCell ⟨d, 2, none⟩ (.map (some w.heap.size))) 1 v n xs := fun hv hfv => RowAt.other hv hs (fun j hj => hk j (fun e => hfv j hj (by simp [e])))
  refine ⟨h.dg, by omega, by omega, fun z hz => ?_, block_set k.blk 2 _, own_keep k.own (fun j hj => by cases hj; exact hk g (Ne.symm h.dg)), k.klen, fun i hi => hrow (k.kept i hi) (k.kfar _ (getD_mem (by rw [k.klen]; exact hi))), fun u hu => (h.kfar u hu).fresh (fun j hj => h.ults hu hj), (PMapAt.made w).kept (hk _ (by omega)), rfl, fun i hi => absurd hi (by simp), (fun x hx => by cases hx), hrow k.bools k.bfar, h.bfar.fresh (fun j hj => h.bools.lt hj)⟩
  have := h.far z hz
  exact ⟨this.1, this.2.1, by omega, by omega⟩
theorem DStep.fresh {w : World} {d g m : Nat} : DStep d g m w ((w.alloc (.map #[] 0)).setCell ⟨d, 2, none⟩ (.map (some w.heap.size))) :=
  (DStep.pure ((Below.refl w.heap.size w).alloc (Nat.le_refl _) (.map #[] 0))).trans (.inl rfl) (DStep.cell _)
end
end Go.Proofs.YtcmajcljafmphaaGreat

namespace Go.Proofs.YtcmajcljafmphaaGreat
section
open Go.RowKit Go.Maps
set_option maxRecDepth 100000
set_option linter.unusedVariables false

def SettleP (w : World) (zs : List Nat) (d g m cap : Nat) (bv : Value) (s : DskV) (kb : Nat → Bool) (e : Ending) (w' : World) : Prop :=
  e = .returned (.tuple #[]) ∧ ∃ us' m', w.heap.size ≤ m' ∧ DSt w' zs d g m' cap us' [] bv (s.settled kb) ∧ DStep d g m w w'
theorem places_cells (ps : List (Nat × Value)) (k : Nat) (h : k < ps.length) : (plcs (places ps))[k * 2]? = some (.int .i64 (k : Int)) ∧ (plcs (places ps))[k * 2 + 1]? = some (.int .i64 ((ps[k].1 : Nat) : Int)) := by
  have e : (places ps).getD k (0, 0) = (k, ps[k].1) := by
    rw [List.getD_eq_getElem?_getD, List.getElem?_eq_getElem (by rw [places_len]; exact h), places_get]; rfl
  constructor
  · rw [plcs_get _ _ (by rw [places_len]; omega), show k * 2 / 2 = k by omega, show k * 2 % 2 = 0 by omega, e]; rfl
  · rw [plcs_get _ _ (by rw [places_len]; omega), show (k * 2 + 1) / 2 = k by omega, show (k * 2 + 1) % 2 = 1 by omega, e]; rfl
theorem at_skip (s : DskV) (kb : Nat → Bool) (k : Nat) (h : kb k = false) : s.at kb (k + 1) = s.at kb k := by
  unfold DskV.at; rw [show settleK s.kept s.pend kb (k + 1) = settleK s.kept s.pend kb k by rw [settleK, h]; rfl]
theorem at_take (s : DskV) (kb : Nat → Bool) (k : Nat) (h : kb k = true) : s.at kb (k + 1) = { s.at kb k with kept := (s.at kb k).kept.set (s.pend.getD k (0, [])).1 (s.pend.getD k (0, [])).2 } := by
  unfold DskV.at; rw [show settleK s.kept s.pend kb (k + 1) = (settleK s.kept s.pend kb k).set (s.pend.getD k (0, [])).1 (s.pend.getD k (0, [])).2 by rw [settleK, h]; rfl]
set_option maxHeartbeats 3200000 in
theorem dsettle_any {w : World} {zs : List Nat} {d g m cap : Nat} {us : List Value} {ps : List (Nat × Value)} {bv : Value} {s : DskV} (h : DSt w zs d g m cap us ps bv s) (hin : ∀ x ∈ s.pend, x.1 < s.kept.length) (kb : Nat → Bool) (kf : Nat) (cb : Array Value) (heg : ∀ args w, (callFunc kf args).run Tryz.prog w = .ok (.enter kf args) w)
    (hkf : ∀ i, i < s.pend.length → ∀ W, w.heap.size ≤ W.heap.size → (∀ j, j < w.heap.size → j ≠ d → j ≠ g → j ≠ m → W.heap[j]? = w.heap[j]?) → Calls Tryz.prog kf (#[.int .i64 (i : Int)] ++ cb) W fun e w' => e = .returned (.bool (kb i)) ∧ w' = W) :
    Calls Tryz.prog 41 #[.pointer (some ⟨d, 0, none⟩), .func (.func kf) #[] cb] w (SettleP w zs d g m cap bv s kb) := by
  have hr := hid (drow_any d m ps w (block_cell h.blk 2) h.map)
  have hmm : ∀ w, (Instr.makeMap 58 none).run Tryz.prog w = .ok (.map (some w.heap.size)) (w.alloc (.map #[] 0)) := fun _ => rfl
  have hlt := h.map.lt
  have hpl := h.plen
  replace h := hid h
  replace hpl := hid hpl
  replace hkf := hid hkf
  replace hin := hid hin
  go_enter Tryz.func41, Tryz.ntmps41
  go_wp2_with fail
  refine hr.out.mono ?_
  rintro e w1 ⟨v, rfl, hv, hb1, hnew⟩
  obtain ⟨rl, ra, rc, rfl, r1, r2, r3, r4, r5⟩ := id hv
  rw [places_len] at rl r1 hv hnew ⊢
  replace hv := hid hv
  replace hnew := hid hnew
  replace r5 := hid r5
  replace r4 := hid r4
  replace rl := hid rl
  unfold maxLen at r2
  clear hr
  go_wp2_with fail
  go_loopw [9] (fun s9 wr => ∃ k : Nat, k ≤ ps.length ∧ s9 = .int .i64 (k : Int) ∧ w.heap.size ≤ wr.heap.size ∧ ∃ us', DSt wr zs d g m cap us' ps bv (s.at kb k) ∧ (PlacesAt wr (.slice ra ps.length rc) (places ps)) ∧ DStep d g m w wr) (fun s9 _ => ps.length - (intOf s9).toNat)
  case atStart => exact ⟨0, by omega, rfl, hb1.size, us, h.out.below hb1, hv.out, DStep.pure hb1⟩
  case round =>
    obtain ⟨k, hk, rfl, hz, us', hD, hP, hS⟩ := hrel
    by_cases hkl : k < ps.length
    · obtain ⟨pl, pa, pc, pe, _, _, _, _, p5⟩ := id hP
      rw [places_len] at pe
      cases pe
      obtain ⟨hg0, hg1⟩ := places_cells ps k hkl
      obtain ⟨rb, ro, rfl, q0⟩ := p5 _ _ hg0
      obtain ⟨rb', ro', hre, q1⟩ := p5 _ _ hg1
      cases hre
      rw [← Nat.add_assoc] at q1
      clear p5 hg0 hg1 pl
      replace hD := hid hD
      replace hP := hid hP
      replace hS := hid hS
      have hcl := hid (fun W h1 h2 => hkf.out k (by rw [← hpl.out]; exact hkl) W h1 h2)
      have hcl2 := hid (hcl.out (wr.alloc (.cells #[.int .i64 (k : Int), .int .i64 ((ps[k].1 : Nat) : Int)] 109)) (by simp; omega) (fun j hj h1 h2 h3 => (Below.heap_alloc _ _ j (Nat.lt_of_lt_of_le hj hz)).trans (hS.out.block j hj h1 h2 h3)))
      clear hcl
      go_wp2_with fail
      refine hcl2.out.mono ?_
      rintro e w2 ⟨rfl, rfl⟩
      clear hcl2
      cases hkb : kb k
      · go_wp2_with fail
        go_roundw
        case rel =>
          have hA := (Below.refl wr.heap.size wr).alloc (Nat.le_refl _) (.cells #[.int .i64 (k : Int), .int .i64 ((ps[k].1 : Nat) : Int)] 109)
          exact ⟨k + 1, by omega, by simp, by simp; omega, us', by rw [at_skip s kb k hkb]; exact hD.out.below hA, RowAt.below hP.out hA, hS.out.trans (.inl rfl) (DStep.pure hA)⟩
        case measure => simp [intOf]; omega
      · have hD1 := hD.out
        have hpl1 := hpl.out
        have hk2 : k < s.pend.length := by omega
        have hin1 := hin.out _ (List.getElem_mem hk2)
        have hpk := hD1.pend k hk2
        rw [List.getD_eq_getElem?_getD, List.getElem?_eq_getElem hkl] at hpk
        change ps[k].1 = s.pend[k].1 ∧ BytesAt wr ps[k].2 s.pend[k].2 at hpk
        obtain ⟨va, vc, hve, _, _, _⟩ := hpk.2.form
        have hA := (Below.refl wr.heap.size wr).alloc (Nat.le_refl _) (.cells #[.int .i64 (k : Int), .int .i64 ((ps[k].1 : Nat) : Int)] 109)
        have hD2 := hD1.below hA
        have hkl3 : ps[k].1 < (s.at kb k).kept.length := by show ps[k].1 < (settleK s.kept s.pend kb k).length; rw [settleK_len, hpk.1]; exact hin1
        have e1 := block_cell hD2.blk 1
        have e2 := block_cell hD2.blk 2
        have hlook := (hD2.map.kept (w' := (wr.alloc (.cells #[.int .i64 (k : Int), .int .i64 ((ps[k].1 : Nat) : Int)] 109)).drew) rfl).look k hkl
        rw [hve] at hlook
        replace hve := hid hve
        have hgl := (hD2.own.2)
        obtain ⟨cur, hcur, hcs, hcap⟩ : ∃ cur, (wr.alloc (.cells #[.int .i64 (k : Int), .int .i64 ((ps[k].1 : Nat) : Int)] 109)).heap[g]? = some (.cells cur 53 (0, 0)) ∧ cur.size = cap ∧ (s.at kb k).kept.length ≤ cap := by
          rcases hgl with ⟨e, _⟩ | ⟨g', cap', cur, e, _, hg, c1, c2, c3, c4⟩
          · cases e
          · cases e; exact ⟨cur, hg, by simpa using c3, c1⟩
        obtain ⟨cv, hgc⟩ : ∃ cv, (wr.alloc (.cells #[.int .i64 (k : Int), .int .i64 ((ps[k].1 : Nat) : Int)] 109)).cell? ⟨g, ps[k].1, none⟩ = some cv := ⟨_, by rw [block_cell hcur]; exact Array.getElem?_eq_getElem (show ps[k].1 < cur.size by omega)⟩
        have hgf : (wr.alloc (.cells #[.int .i64 (k : Int), .int .i64 ((ps[k].1 : Nat) : Int)] 109)).frozen? ⟨g, ps[k].1, none⟩ = false := block_free hcur _
        change _ = some (Value.slice (some ⟨g, 0, none⟩) (s.at kb k).kept.length cap) at e1
        change _ = some (Value.map (some m)) at e2
        replace hD2 := hid hD2
        replace hpk := hid hpk
        replace hpl1 := hid hpl1
        replace hin1 := hid hin1
        replace hcur := hid hcur
        replace hcs := hid hcs
        clear hD1 hgl
        generalize hkn : (s.at kb k).kept.length = kn at *
        replace hkn := hid hkn
        go_wp2_with fail
        go_region
        go_wp2_with fail
        go_roundw
        case rel =>
          have hgw := (h.out.own.lt g rfl).2
          have hrg : rb ≠ g := fun e => by have := hnew.out rb rfl; omega
          have hin2 : s.pend.getD k (0, []) = s.pend[k] := by rw [List.getD_eq_getElem?_getD, List.getElem?_eq_getElem hk2]; rfl
          have hfar := hD.out.pfar _ (List.getElem_mem hkl)
          have hby : BytesAt (wr.alloc (.cells #[.int .i64 (k : Int), .int .i64 ((ps[k].1 : Nat) : Int)] 109)) ps[k].2 s.pend[k].2 := RowAt.below hpk.out.2 hA
          have hlay := hD2.out.lay ps[k].1 (by rw [hkn.out]; exact hkl3) ps[k].2 s.pend[k].2 hby hfar
          rw [hve.out] at hlay
          have hdr : Below ((wr.alloc (.cells #[.int .i64 (k : Int), .int .i64 ((ps[k].1 : Nat) : Int)] 109)).setCell ⟨g, ps[k].1, none⟩ (.slice va s.pend[k].2.length vc)).heap.size ((wr.alloc (.cells #[.int .i64 (k : Int), .int .i64 ((ps[k].1 : Nat) : Int)] 109)).setCell ⟨g, ps[k].1, none⟩ (.slice va s.pend[k].2.length vc)) _ := (Below.refl _ _).drew
          have hPl := RowAt.other (RowAt.below hP.out hA) (w' := (wr.alloc (.cells #[.int .i64 (k : Int), .int .i64 ((ps[k].1 : Nat) : Int)] 109)).setCell ⟨g, ps[k].1, none⟩ (.slice va s.pend[k].2.length vc)) (by simp [World.setCell]) (fun j hj => by cases hj; exact block_set_other hrg)
          refine ⟨k + 1, by omega, by simp, by simp [World.setCell]; omega, us'.set ps[k].1 (.slice va s.pend[k].2.length vc), ?_, RowAt.below hPl hdr, ((hS.out.trans (.inl rfl) (DStep.pure hA)).trans (.inl rfl) (DStep.cellg _)).trans (.inl rfl) (DStep.pure hdr)⟩
          rw [at_take s kb k hkb, hin2, ← hpk.out.1]
          exact hlay.below hdr
        case measure => simp [intOf]; omega
    · obtain rfl : k = ps.length := by omega
      have hD1 := hD
      replace hD := hid hD
      replace hP := hid hP
      replace hS := hid hS
      have e2 : (wr.alloc (.map #[] 0)).cell? ⟨d, 2, none⟩ = some (.map (some m)) := (hD1.below ((Below.refl _ _).alloc (Nat.le_refl _) _)).blk |> fun h => block_cell h 2
      have f2 : (wr.alloc (.map #[] 0)).frozen? ⟨d, 2, none⟩ = false := (hD1.below ((Below.refl _ _).alloc (Nat.le_refl _) _)).blk |> fun h => block_free h 2
      clear hD1
      go_wp2_with fail
      go_end0
      have hf := hD.out.fresh
      refine ⟨rfl, us', wr.heap.size, hz, ?_, hS.out.trans (.inl rfl) DStep.fresh⟩
      have e : (s.settled kb) = { s.at kb ps.length with pend := [] } := by unfold DskV.settled DskV.at; rw [hpl.out]
      rw [e]; exact hf
end
end Go.Proofs.YtcmajcljafmphaaGreat

namespace Go.Proofs.YtcmajcljafmphaaGreat
section
set_option maxRecDepth 100000
set_option linter.unusedVariables false

def SlotsAt : List (Nat × Value) → Array Value → Prop
  | [], _ => True
  | x :: xs, t => t.getD x.1 undef = x.2 ∧ SlotsAt xs t
theorem SlotsAt.all {X : List (Nat × Value)} {t : Array Value} (h : SlotsAt X t) : ∀ x ∈ X, t.getD x.1 undef = x.2 := by
  induction X with
  | nil => intro x hx; cases hx
  | cons y ys ih =>
    intro x hx
    rcases List.mem_cons.1 hx with rfl | hx
    · exact h.1
    · exact ih h.2 x hx
def Keep (X : List (Nat × Value)) (Q : Exit → Act → World → Prop) : Exit → Act → World → Prop := fun e a w =>
  match e with
  | .panic c => ∀ a' : Act, a'.defers = a.defers → (∀ x ∈ X, a'.tmps.getD x.1 undef = x.2) → Q (.panic c) a' w
  | e => Q e a w
theorem keep_normal {X : List (Nat × Value)} {Q : Exit → Act → World → Prop} {a : Act} {w : World} (h : Q .normal a w) : Keep X Q .normal a w := h
theorem keep_put {X : List (Nat × Value)} {a : Act} {d : Option Tmp} (hd : ∀ x ∈ X, d ≠ some x.1) (h : ∀ x ∈ X, a.tmps.getD x.1 undef = x.2) (v : Value) : ∀ x ∈ X, (a.put d v).tmps.getD x.1 undef = x.2 := by
  intro x hx
  cases d with
  | none => exact h x hx
  | some k =>
    have h1 := hd x hx
    have h2 := h x hx
    have hne : k ≠ x.1 := fun e => h1 (by rw [e])
    show (a.tmps.setIfInBounds k v).getD x.1 undef = x.2
    rw [Array.getD_eq_getD_getElem?] at h2 ⊢
    rw [Array.getElem?_setIfInBounds_ne hne]
    exact h2
theorem upon_keep {P : Program} {o : Oper} {a : Act} {K K' : Act → World → Prop} {Q : Exit → Act → World → Prop} {X : List (Nat × Value)} (hd : ∀ x ∈ X, o.dst ≠ some x.1) (h : ∀ x ∈ X, a.tmps.getD x.1 undef = x.2)
    (hK : ∀ a w, (∀ x ∈ X, a.tmps.getD x.1 undef = x.2) → K a w → K' a w) {r : Result Next} (hh : o.upon P a K (Keep X Q) r) : o.upon P a K' Q r := by
  cases r with
  | ok n w' =>
    cases n <;> simp only [Oper.upon] at hh ⊢ <;>
      first
        | exact hK _ _ (keep_put hd h _) hh
        | (refine hK _ _ ?_ hh; first | exact keep_put hd h _ | exact keep_put (a := { a with defers := _ :: a.defers }) hd h _)
        | (refine Calls.mono hh (fun e w'' he => ?_); cases e with
            | returned v => exact hK _ _ (keep_put hd h v) he
            | panicked c => exact he a rfl h
            | outgrown => exact he)
        | exact Rows.mono hh (fun v w'' he => hK _ _ (keep_put hd h v) he)
  | halt x w' =>
    cases x <;> simp only [Oper.upon] at hh ⊢
    exact hh a rfl h
theorem wpAny_keep {P : Program} {md : Region.Mode} {ops : Array Oper} {Q : Exit → Act → World → Prop} (X : List (Nat × Value)) (hX : ∀ (i : Nat) (o : Oper), ops[i]? = some o → ∀ x ∈ X, o.dst ≠ some x.1) :
    ∀ (fuel : Nat) (listed : Array Bool) (a : Act) (w : World), (∀ x ∈ X, a.tmps.getD x.1 undef = x.2) → wpAny P md ops (Keep X Q) fuel listed a w → wpAny P md ops Q fuel listed a w := by
  intro fuel
  induction fuel with
  | zero => intro listed a w _ h; exact h
  | succ fuel ih =>
    intro listed a w ha h
    refine ⟨h.1, fun i hi => ?_⟩
    have hop := h.2 i hi
    unfold wpOp at hop ⊢
    cases ho : ops[i]? with
    | none => rw [ho] at hop; exact ih _ _ _ ha hop
    | some o =>
      rw [ho] at hop
      simp only at hop ⊢
      by_cases hw : Region.wanted o (yielded ops a.tmps) = true
      · rw [if_pos hw] at hop ⊢
        exact hop.imp (fun h2 => upon_keep (hX i o ho) ha (fun a w hk h3 => ih _ _ _ hk h3) h2) id
      · rw [if_neg hw] at hop ⊢
        exact ih _ _ _ (keep_put (hX i o ho) ha undef) hop
theorem wp_region_keep {P : Program} {id : Nat} {ops : Array Oper} {Q : Exit → Act → World → Prop} {a : Act} {w : World} (X : List (Nat × Value)) (hm : P.follows .mixedOrders = true) (hX : ops.all (fun o => X.all (fun x => o.dst != some x.1)) = true) (ha : SlotsAt X a.tmps)
    (h : wpAny P .any ops (Keep X Q) ops.size (Array.replicate ops.size false) a w.drew) : (Code.region id ops true).wp P Q a w :=
  wp_region_any hm (wpAny_keep X (fun i o ho x hx e => by
    rw [Array.all_eq_true_iff_forall_mem] at hX
    have h1 := hX o (Array.mem_of_getElem? ho)
    rw [List.all_eq_true] at h1
    have h2 := h1 x hx
    rw [e] at h2
    simp at h2) _ _ _ _ ha.all h)
def addD (ds : List Deferred) (a : Act) : Act := { a with defers := a.defers ++ ds }
theorem addD_put (ds : List Deferred) (a : Act) (d : Option Tmp) (v : Value) : (addD ds a).put d v = addD ds (a.put d v) := by cases d <;> rfl
theorem upon_keepD {P : Program} {o : Oper} {a : Act} {ds : List Deferred} {K K' : Act → World → Prop} {Q : Exit → Act → World → Prop} {X : List (Nat × Value)} (hd : ∀ x ∈ X, o.dst ≠ some x.1) (h : ∀ x ∈ X, a.tmps.getD x.1 undef = x.2)
    (hK : ∀ a w, (∀ x ∈ X, a.tmps.getD x.1 undef = x.2) → K a w → K' (addD ds a) w) {r : Result Next} (hh : o.upon P a K (fun e a w => Keep X Q e (addD ds a) w) r) : o.upon P (addD ds a) K' Q r := by
  cases r with
  | ok n w' =>
    cases n <;> simp only [Oper.upon] at hh ⊢ <;>
      first
        | (rw [addD_put]; exact hK _ _ (keep_put hd h _) hh)
        | (have h2 := hK _ _ (keep_put (a := { a with defers := _ :: a.defers }) hd h undef) hh; rw [← addD_put] at h2; exact h2)
        | (refine Calls.mono hh (fun e w'' he => ?_); cases e with
            | returned v => show K' ((addD ds a).put _ v) _; rw [addD_put]; exact hK _ _ (keep_put hd h v) he
            | panicked c => exact he (addD ds a) rfl h
            | outgrown => obtain ⟨a, w, ha⟩ := he; exact ⟨_, _, ha⟩)
        | exact Rows.mono hh (fun v w'' he => by rw [addD_put]; exact hK _ _ (keep_put hd h v) he)
  | halt x w' =>
    cases x <;> simp only [Oper.upon] at hh ⊢
    exact hh (addD ds a) rfl h
theorem wpAnyH_keepD {P : Program} {md : Region.Mode} {ops : Array Oper} {S : World → Prop} {Q : Exit → Act → World → Prop} (X : List (Nat × Value)) (ds : List Deferred) (hX : ∀ (i : Nat) (o : Oper), ops[i]? = some o → ∀ x ∈ X, o.dst ≠ some x.1) :
    ∀ (fuel : Nat) (listed : Array Bool) (a : Act) (w : World), (∀ x ∈ X, a.tmps.getD x.1 undef = x.2) → wpAnyH P md ops (fun e a w => Keep X Q e (addD ds a) w) S fuel listed a w → wpAnyH P md ops Q S fuel listed (addD ds a) w := by
  intro fuel
  induction fuel with
  | zero => intro listed a w _ h; exact h
  | succ fuel ih =>
    intro listed a w ha h
    refine ⟨h.1, fun i hi => ?_⟩
    have hop := h.2 i hi
    unfold wpOp at hop ⊢
    cases ho : ops[i]? with
    | none => rw [ho] at hop; exact ⟨hop.1, ih _ _ _ ha hop.2⟩
    | some o =>
      rw [ho] at hop
      simp only at hop ⊢
      by_cases hw : Region.wanted o (yielded ops a.tmps) = true
      · rw [if_pos hw] at hop
        rw [if_pos (show Region.wanted o (yielded ops (addD ds a).tmps) = true from hw)]
        refine hop.imp (fun h2 => upon_keepD (hX i o ho) ha (fun a w hk h3 => ⟨h3.1, ih _ _ _ hk h3.2⟩) h2) (fun h2 => ⟨h2.1, ?_⟩)
        obtain ⟨a, w, ha⟩ := h2.2
        exact ⟨_, _, ha⟩
      · rw [if_neg hw] at hop
        rw [if_neg (show ¬ Region.wanted o (yielded ops (addD ds a).tmps) = true from hw), addD_put]
        exact ⟨hop.1, ih _ _ _ (keep_put (hX i o ho) ha undef) hop.2⟩
theorem wp_region_keepD {P : Program} {id : Nat} {ops : Array Oper} {S : World → Prop} {Q : Exit → Act → World → Prop} {t : Array Value} {ds : List Deferred} {w : World} (X : List (Nat × Value)) (hm : P.follows .mixedOrders = true) (hX : ops.all (fun o => X.all (fun x => o.dst != some x.1)) = true) (ha : SlotsAt X t)
    (h : wpAnyH P .any ops (fun e a w => Keep X Q e (addD ds a) w) S ops.size (Array.replicate ops.size false) { tmps := t, defers := [] } w.drew) : (Code.region id ops true).wp P Q { tmps := t, defers := ds } w :=
  wp_region_held (S := S) hm (wpAnyH_keepD X ds (fun i o ho x hx e => by
    rw [Array.all_eq_true_iff_forall_mem] at hX
    have h1 := hX o (Array.mem_of_getElem? ho)
    rw [List.all_eq_true] at h1
    have h2 := h1 x hx
    rw [e] at h2
    simp at h2) _ _ { tmps := t, defers := [] } _ ha.all h)
theorem wp_region_heldD {P : Program} {id : Nat} {ops : Array Oper} {S : World → Prop} {Q : Exit → Act → World → Prop} {t : Array Value} {ds : List Deferred} {w : World} (X : List (Nat × Value)) (hm : P.follows Departure.mixedOrders = true) (hX : ops.all (fun o => X.all (fun x => o.dst != some x.1)) = true) (ha : SlotsAt X t) (hS : S w.drew)
    (h : S w.drew → wpAnyH P .any ops (fun e a w => Keep X Q e (addD ds a) w) S ops.size (Array.replicate ops.size false) { tmps := t, defers := [] } w.drew) : (Code.region id ops true).wp P Q { tmps := t, defers := ds } w := wp_region_keepD X hm hX ha (h hS)
end
end Go.Proofs.YtcmajcljafmphaaGreat

namespace Go.Proofs.YtcmajcljafmphaaGreat
section
open Go.RowKit Go.Maps
set_option maxRecDepth 100000
set_option linter.unusedVariables false

theorem drld_errno {p : Addr} {v : Value} {w : World} (h : w.cell? p = some v) : (loadVar 24 p).run Tryz.prog w = .ok v w := by simp [go_sem, h]
theorem dresults_c1 {P : Program} {fn : Func} {q : Tmp} {ty2 : TypeId} (h : fn.results = #[.cell q ty2]) (tmps : Array Value) (w : World) (g2 : Nat) (x : Value)
    (hq : tmps.getD q undef = .pointer (some ⟨g2, 0, none⟩)) (hx : (loadVar ty2 ⟨g2, 0, none⟩).run P w = .ok x w) :
    (results fn tmps).run P w = .ok x w := by
  have hq' : tmps[q]?.getD undef = .pointer (some ⟨g2, 0, none⟩) := by simpa using hq
  simp [results, h, hq', asAddr, hx]
def DBack (w : World) (zs : List Nat) (d g m cap : Nat) (s : DskV) (w' : World) : Prop := ∃ us m' ps bv, (m' = m ∨ w.heap.size ≤ m') ∧ DSt w' zs d g m' cap us ps bv s ∧ DStep d g m w w'
theorem FarB.cons {zs : List Nat} {d g m z : Nat} {u : Value} (h : FarB (d :: g :: m :: z :: zs) u) : FarB (d :: g :: m :: zs) u := h.sub (fun j hj => by simp only [List.mem_cons] at hj ⊢; rcases hj with e | e | e | e <;> simp [e])
theorem DSt.drop {w : World} {zs : List Nat} {d g m cap z : Nat} {us : List Value} {ps : List (Nat × Value)} {bv : Value} {s : DskV} (h : DSt w (z :: zs) d g m cap us ps bv s) : DSt w zs d g m cap us ps bv s :=
  ⟨h.dg, h.dm, h.gm, fun y hy => h.far y (List.mem_cons_of_mem _ hy), h.blk, h.own, h.klen, h.kept, fun u hu => (h.kfar u hu).cons, h.map, h.plen, h.pend, fun x hx => (h.pfar x hx).cons, h.bools, h.bfar.cons⟩
theorem DSt.aside {w : World} {zs : List Nat} {d g m cap z i : Nat} {us : List Value} {ps : List (Nat × Value)} {bv : Value} {s : DskV} (h : DSt w (z :: zs) d g m cap us ps bv s) (x : Value) : DSt (w.setCell ⟨z, i, none⟩ x) (z :: zs) d g m cap us ps bv s :=
  h.others (by simp [World.setCell]) (fun j _ hj => block_set_other (fun e => hj (by simp [e])))
theorem DStep.aside {d g m k i : Nat} {w w' : World} (h : DStep d g m w w') (hk : w.heap.size ≤ k) (x : Value) : DStep d g m w (w'.setCell ⟨k, i, none⟩ x) :=
  ⟨fun B h1 h2 h3 h4 => (h.below B h1 h2 h3 h4).setCell (p := ⟨k, i, none⟩) (by show B ≤ k; omega) x, fun j hj h1 h2 h3 => (block_set_other (by show j ≠ k; omega)).trans (h.block j hj h1 h2 h3), by have := h.size; simpa [World.setCell] using this⟩
theorem dend_ok {fn : Func} {tmps : Array Value} {R : Ending → World → Prop} {k : Nat} {w : World} {fv : Fn} {cap : Array Value}
    (hi : (invoke (.fn fv cap) #[.pointer (some ⟨k, 0, none⟩)]).run Tryz.prog w = .ok (.enter 61 #[.pointer (some ⟨k, 0, none⟩)]) w)
    (hR : ∃ v, (results fn tmps).run Tryz.prog w = .ok v w ∧ R (.returned v) w) :
    Leaves Tryz.prog fn tmps R [{ target := .fn fv cap, args := #[.pointer (some ⟨k, 0, none⟩)] }] .returning w := by
  refine leaves_cons (by simp) hi ?_
  refine (dcaught_idle k w).mono ?_
  rintro e u' w'' ⟨rfl, rfl, rfl⟩
  simp only [settle]
  exact hR
def DErr (w : World) (zs : List Nat) (d g m cap : Nat) (s : DskV) (E : Nat) (e : Ending) (w' : World) : Prop := e = .returned (.int .i64 (E : Int)) ∧ DBack w zs d g m cap s w'
set_option maxHeartbeats 1600000 in
theorem dsync_ok {w : World} {zs : List Nat} {d g m cap : Nat} {us : List Value} {ps : List (Nat × Value)} {bv : Value} {s : DskV} (h : DSt w zs d g m cap us ps bv s) (hoff : s.off = false) (hin : ∀ x ∈ s.pend, x.1 < s.kept.length) :
    Calls Tryz.prog 58 #[.pointer (some ⟨d, 0, none⟩)] w (DErr w zs d g m cap (s.settled fun _ => true) 0) := by
  obtain ⟨W, hW⟩ : ∃ W, W = w.alloc (.cells #[.int .i64 0] 24) := ⟨_, rfl⟩
  have hb0 : Below w.heap.size w W := by rw [hW]; exact (Below.refl _ _).alloc (Nat.le_refl _) _
  have hK0 := hid (show W.heap[w.heap.size]? = some (.cells #[.int .i64 0] 24 (0, 0)) by rw [hW]; exact heap_alloc_new _ _)
  have hWs : W.heap.size = w.heap.size + 1 := by rw [hW]; simp
  have hD0 := hid (h.new hb0 (Nat.le_refl _) (by omega))
  have hon := hid (don_ok d W (by have := block_cell hD0.out.blk 3; simpa [dCells, hoff] using this))
  have hse := hid (dsettle_any hD0.out hin (fun _ => true) 84 #[] (enters_of Tryz.func84 (by kernel_rfl) rfl) (fun i _ W' _ _ => dkeepall_any i W'))
  replace hWs := hid hWs
  replace hb0 := hid hb0
  have hkd := hid (hD0.out.far w.heap.size (by simp))
  clear h
  go_enter_defers Tryz.func58, Tryz.ntmps58
  go_wp2_with (rw [← hW]; replace hW := hid hW)
  try (rw [← hW]; replace hW := hid hW)
  refine hon.out.mono ?_
  rintro e w1 ⟨rfl, hw1⟩
  subst hw1
  clear hon
  go_wp2_with fail
  refine hse.out.mono ?_
  rintro e w2 ⟨rfl, us2, m2, hm2, hD2, hS2⟩
  clear hse
  have hK2 : w2.heap[w.heap.size]? = some (.cells #[.int .i64 0] 24 (0, 0)) := (hS2.block _ hkd.out.2.2.2 hkd.out.1 hkd.out.2.1 hkd.out.2.2.1).trans hK0.out
  have c0 : w2.cell? ⟨w.heap.size, 0, none⟩ = some (.int .i64 0) := block_cell hK2 0
  have f0 : w2.frozen? ⟨w.heap.size, 0, none⟩ = false := block_free hK2 0
  replace hD2 := hid hD2
  replace hS2 := hid hS2
  replace hK2 := hid hK2
  go_wp2_with fail
  trace_state
  have hS3 : DStep d g m w w2 := (DStep.pure hb0.out).trans (.inl rfl) hS2.out
  refine dend_ok (by simp [go_sem]) ⟨_, dresults_c1 rfl _ _ w.heap.size _ rfl (drld_errno (block_cell (block_set hK2.out 0 _) 0)), rfl, us2, m2, [], bv, .inr (by have := hWs.out; omega), (hD2.out.aside _).drop, hS3.aside (Nat.le_refl _) _⟩
end
end Go.Proofs.YtcmajcljafmphaaGreat

namespace Go.Proofs.YtcmajcljafmphaaGreat
section
open Go.RowKit Go.Maps
set_option maxRecDepth 100000
set_option linter.unusedVariables false

def DskV.wrote (s : DskV) (i : Nat) (l : List UInt8) : DskV := { s with pend := s.pend ++ [(i, l)], writes := s.writes + 1 }
theorem DSt.push {w w' : World} {zs : List Nat} {d g m cap : Nat} {us : List Value} {ps : List (Nat × Value)} {bv : Value} {s : DskV} (h : DSt w zs d g m cap us ps bv s) (i : Nat) (l : List UInt8) (u : Value) (hu : BytesAt w u l) (hf : FarB (d :: g :: m :: zs) u) (ht : w.mapTurned w' m) (hm : PMapAt w' m (ps ++ [(i, u)])) :
    DSt w' zs d g m cap us (ps ++ [(i, u)]) bv { s with pend := s.pend ++ [(i, l)] } := by
  have hk : ∀ k, k < w.heap.size → k ≠ m → w'.heap[k]? = w.heap[k]? := fun k hk hne => ht.grown.block k hk (fun e => hne (by injection e))
  have hs := ht.grown.size
  have hrow : ∀ {v : Value} {n : Nat} {xs : List Value}, RowAt w 1 v n xs → FarB (d :: g :: m :: zs) v → RowAt w' 1 v n xs := fun hv hfv => RowAt.other hv hs (fun j hj => hk j (hv.lt hj) (fun e => hfv j hj (by simp [e])))
  refine ⟨h.dg, h.dm, h.gm, fun z hz => ?_, (hk d (lt_of_block h.blk) h.dm).trans h.blk, own_keep h.own (fun j hj => by cases hj; exact hk g (h.own.lt g rfl).2 h.gm), h.klen, fun j hj => hrow (h.kept j hj) (h.kfar _ (getD_mem (by rw [h.klen]; exact hj))), h.kfar, hm, by simp [h.plen], fun j hj => ?_, fun x hx => ?_, hrow h.bools h.bfar, h.bfar⟩
  · have := h.far z hz; exact ⟨this.1, this.2.1, this.2.2.1, by omega⟩
  · simp only [List.length_append, List.length_singleton] at hj
    by_cases e : j < s.pend.length
    · have e1 : (ps ++ [(i, u)]).getD j (0, undef) = ps.getD j (0, undef) := by
        rw [List.getD_eq_getElem?_getD, List.getElem?_append_left (by rw [h.plen]; exact e), ← List.getD_eq_getElem?_getD]
      simp only [e1, List.getElem_append_left e]
      exact ⟨(h.pend j e).1, hrow (h.pend j e).2 (h.pfar _ (getD_mem (by rw [h.plen]; exact e)))⟩
    · obtain rfl : j = s.pend.length := by omega
      have e1 : (ps ++ [(i, u)]).getD s.pend.length (0, undef) = (i, u) := by
        rw [← h.plen, List.getD_eq_getElem?_getD, List.getElem?_append_right (Nat.le_refl _)]; simp
      simp only [e1, List.getElem_concat_length]
      exact ⟨trivial, hrow hu hf⟩
  · rcases List.mem_append.1 hx with hx | hx
    · exact h.pfar x hx
    · obtain rfl := List.mem_singleton.1 hx; exact hf
end
end Go.Proofs.YtcmajcljafmphaaGreat

namespace Go.Proofs.YtcmajcljafmphaaGreat
section
open Go.RowKit Go.Maps
set_option maxRecDepth 100000
set_option linter.unusedVariables false

def DskV.cut (s : DskV) (kl : List Bool) : DskV := { s.settled (fun i => kl.getD i false) with off := true, armed := false, keep := [] }
theorem dcutf_any (Bx i : Nat) (a : Option Addr) (n c : Nat) (kl : List Bool) (w : World) (hb : w.cell? ⟨Bx, 0, none⟩ = some (.slice a n c)) (hr : RowAt w 1 (.slice a n c) kl.length (kl.map .bool)) :
    Calls Tryz.prog 42 #[.int .i64 (i : Int), .pointer (some ⟨Bx, 0, none⟩)] w fun e w' => e = .returned (.bool (kl.getD i false)) ∧ w' = w := by
  obtain ⟨_, a', c', e, h1, h2, _, _, h5⟩ := hr
  cases e
  by_cases h : i < kl.length
  · obtain ⟨b, o, rfl, hc⟩ := h5 i (.bool kl[i]) (by rw [List.getElem?_map, List.getElem?_eq_getElem h]; rfl)
    have e : kl.getD i false = kl[i] := by rw [List.getD_eq_getElem?_getD, List.getElem?_eq_getElem h]; rfl
    rw [e]
    clear h5
    go_enter Tryz.func42, Tryz.ntmps42
    go_wp2
    go_ret
    exact ⟨rfl, rfl⟩
  · have e : kl.getD i false = false := by rw [List.getD_eq_getElem?_getD, List.getElem?_eq_none (by omega)]; rfl
    rw [e]
    clear h5
    go_enter Tryz.func42, Tryz.ntmps42
    go_wp2
    go_ret
    exact ⟨rfl, rfl⟩
theorem DSt.keep6 {w : World} {zs : List Nat} {d g m cap : Nat} {us : List Value} {ps : List (Nat × Value)} {bv : Value} {s : DskV} (h : DSt w zs d g m cap us ps bv s) (u : Value) (kl : List Bool) (hu : RowAt w 1 u kl.length (kl.map .bool)) (hf : FarB (d :: g :: m :: zs) u) :
    DSt (w.setCell ⟨d, 6, none⟩ u) zs d g m cap us ps u { s with keep := kl } := by
  have hs : w.heap.size ≤ (w.setCell ⟨d, 6, none⟩ u).heap.size := by simp [World.setCell]
  have k := h.move (w' := w.setCell ⟨d, 6, none⟩ bv) (s' := s) (by simp [World.setCell]) (fun j _ hj => block_set_other (fun e => hj (by simp [e]))) (block_set h.blk 6 _) (block_set_other (Ne.symm h.dg)) (block_set_other (Ne.symm h.dm)) rfl rfl rfl
  have hk : ∀ j, j ≠ d → (w.setCell ⟨d, 6, none⟩ u).heap[j]? = w.heap[j]? := fun j hj => block_set_other hj
  have hrow : ∀ {v : Value} {n : Nat} {xs : List Value}, RowAt w 1 v n xs → FarB (d :: g :: m :: zs) v → RowAt (w.setCell ⟨d, 6, none⟩ u) 1 v n xs := fun hv hfv => RowAt.other hv hs (fun j hj => hk j (fun e => hfv j hj (by simp [e])))
  exact ⟨h.dg, h.dm, h.gm, fun z hz => by have := h.far z hz; exact ⟨this.1, this.2.1, this.2.2.1, by omega⟩, block_set h.blk 6 _, own_keep h.own (fun j hj => by cases hj; exact hk g (Ne.symm h.dg)), h.klen, fun i hi => hrow (h.kept i hi) (h.kfar _ (getD_mem (by rw [h.klen]; exact hi))), h.kfar, h.map.kept (hk m (Ne.symm h.dm)), h.plen, fun i hi => ⟨(h.pend i hi).1, hrow (h.pend i hi).2 (h.pfar _ (getD_mem (by rw [h.plen]; exact hi)))⟩, h.pfar, hrow hu hf, hf⟩
theorem DSt.off3 {w : World} {zs : List Nat} {d g m cap : Nat} {us : List Value} {ps : List (Nat × Value)} {bv : Value} {s : DskV} (h : DSt w zs d g m cap us ps bv s) (b : Bool) : DSt (w.setCell ⟨d, 3, none⟩ (.bool b)) zs d g m cap us ps bv { s with off := b } :=
  h.move (by simp [World.setCell]) (fun j _ hj => block_set_other (fun e => hj (by simp [e]))) (block_set h.blk 3 _) (block_set_other (Ne.symm h.dg)) (block_set_other (Ne.symm h.dm)) rfl rfl rfl
theorem DSt.arm4 {w : World} {zs : List Nat} {d g m cap : Nat} {us : List Value} {ps : List (Nat × Value)} {bv : Value} {s : DskV} (h : DSt w zs d g m cap us ps bv s) (b : Bool) : DSt (w.setCell ⟨d, 4, none⟩ (.bool b)) zs d g m cap us ps bv { s with armed := b } :=
  h.move (by simp [World.setCell]) (fun j _ hj => block_set_other (fun e => hj (by simp [e]))) (block_set h.blk 4 _) (block_set_other (Ne.symm h.dg)) (block_set_other (Ne.symm h.dm)) rfl rfl rfl
theorem DSt.left5 {w : World} {zs : List Nat} {d g m cap : Nat} {us : List Value} {ps : List (Nat × Value)} {bv : Value} {s : DskV} (h : DSt w zs d g m cap us ps bv s) (n : Int) : DSt (w.setCell ⟨d, 5, none⟩ (.int .i64 n)) zs d g m cap us ps bv { s with left := n } :=
  h.move (by simp [World.setCell]) (fun j _ hj => block_set_other (fun e => hj (by simp [e]))) (block_set h.blk 5 _) (block_set_other (Ne.symm h.dg)) (block_set_other (Ne.symm h.dm)) rfl rfl rfl
theorem don_any {w : World} {zs : List Nat} {d g m cap : Nat} {us : List Value} {ps : List (Nat × Value)} {bv : Value} {s : DskV} (h : DSt w zs d g m cap us ps bv s) :
    Calls Tryz.prog 22 #[.pointer (some ⟨d, 0, none⟩)] w fun e w' => e = .returned (.tuple #[]) ∧ DBack w zs d g m cap { s with off := false } w' :=
  (don_on w d _ (block_cell h.blk 3) (block_free h.blk 3)).mono fun e w' ⟨h1, h2⟩ => ⟨h1, us, m, ps, bv, .inl rfl, by rw [h2]; exact h.off3 false, by rw [h2]; exact DStep.cell _⟩
set_option maxHeartbeats 1600000 in
theorem dcut_any {w : World} {zs : List Nat} {d g m cap : Nat} {us : List Value} {ps : List (Nat × Value)} {bv : Value} {s : DskV} (h : DSt w zs d g m cap us ps bv s) (hin : ∀ x ∈ s.pend, x.1 < s.kept.length) (v : Value) (kl : List Bool) (hv : RowAt w 1 v kl.length (kl.map .bool)) (hf : FarB [d, g, m] v) :
    Calls Tryz.prog 21 #[.pointer (some ⟨d, 0, none⟩), v] w fun e w' => e = .returned (.tuple #[]) ∧ DBack w zs d g m cap (s.cut kl) w' := by
  obtain ⟨_, va, vc, rfl, _, _, _, _, _⟩ := id hv
  obtain ⟨W, hW⟩ : ∃ W, W = w.alloc (.cells #[.slice va kl.length vc] 44) := ⟨_, rfl⟩
  have hb0 : Below w.heap.size w W := by rw [hW]; exact (Below.refl _ _).alloc (Nat.le_refl _) _
  have hK0 : W.heap[w.heap.size]? = some (.cells #[.slice va kl.length vc] 44 (0, 0)) := by rw [hW]; exact heap_alloc_new _ _
  have hWs : W.heap.size = w.heap.size + 1 := by rw [hW]; simp
  have hD0 := hid (h.new hb0 (Nat.le_refl _) (by omega))
  have hkd := hD0.out.far w.heap.size (by simp)
  have hse := hid (dsettle_any hD0.out hin (fun i => kl.getD i false) 42 #[.pointer (some ⟨w.heap.size, 0, none⟩)] (enters_of Tryz.func42 (by kernel_rfl) rfl) (fun i _ W' hz hk => dcutf_any w.heap.size i va kl.length vc kl W' (block_cell ((hk _ hkd.2.2.2 hkd.1 hkd.2.1 hkd.2.2.1).trans hK0) 0) (RowAt.other (RowAt.below hv hb0) hz (fun j hj => hk j (Nat.lt_of_lt_of_le (hv.lt hj) hb0.size) (fun e => hf j hj (by simp [e])) (fun e => hf j hj (by simp [e])) (fun e => hf j hj (by simp [e]))))))
  have hmf : ∀ (fn : Fn) (first cap : Array Value) (w : World), (Instr.makeFunc fn first cap).run Tryz.prog w = .ok (.func fn first cap) w := fun _ _ _ _ => rfl
  replace hWs := hid hWs
  replace hb0 := hid hb0
  clear h hv hK0 hkd
  go_enter Tryz.func21, Tryz.ntmps21
  go_wp2_with (rw [← hW]; replace hW := hid hW)
  try (rw [← hW]; replace hW := hid hW)
  refine hse.out.mono ?_
  rintro e w2 ⟨rfl, us2, m2, hm2, hD2, hS2⟩
  clear hse
  have e3 := block_cell hD2.blk 3
  have f3 := block_free hD2.blk 3
  have hD3 := hD2.off3 true
  have e4 := block_cell hD3.blk 4
  have f4 := block_free hD3.blk 4
  have hD4 := hD3.arm4 false
  have e6 := block_cell hD4.blk 6
  have f6 := block_free hD4.blk 6
  have hD5 := hid (hD4.keep6 (.slice none 0 0) [] RowAt.nil (fun j hj => by cases hj))
  replace hD2 := hid hD2
  replace hD3 := hid hD3
  replace hD4 := hid hD4
  replace hS2 := hid hS2
  simp only [dCells, List.getElem?_toArray, List.getElem?_cons_succ, List.getElem?_cons_zero] at e3 e4 e6
  go_wp2_with fail
  go_end0
  have hS3 : DStep d g m w w2 := (DStep.pure hb0.out).trans (.inl rfl) hS2.out
  exact ⟨rfl, us2, m2, [], _, .inr (by have := hWs.out; omega), hD5.out.drop, hS3.trans (m' := m2) (.inr (by have := hWs.out; omega)) (((DStep.cell _).trans (.inl rfl) (DStep.cell _)).trans (.inl rfl) (DStep.cell _))⟩
end
end Go.Proofs.YtcmajcljafmphaaGreat
