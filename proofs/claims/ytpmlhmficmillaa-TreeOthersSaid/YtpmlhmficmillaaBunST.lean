/- A step of a play: its results. No condition. And the texts behind it. -/
import Derived.Test.YtpmlhmficmillaaBunLA
import Derived.Test.YtpmlhmficmillaaTr11Z
import Derived.Test.YtpmlhmficmillaaTr10Z
import Derived.Test.YtpmlhmficmillaaBunRV
namespace Go.Proofs.Ytpmlhmficmillaa
section
open Go.RowKit
set_option maxRecDepth 100000
set_option linter.unusedVariables false

theorem results_ccs {P : Program} {fn : Func} {p q r : Tmp} {ty ty2 : TypeId} (h : fn.results = #[.cell p ty, .cell q ty2, .tmp r]) (tmps : Array Value) (w : World) (g g2 : Nat) (t t2 : TypeId) (cs cs2 : Array Value) (fr fr2 : Nat × Nat) (d d2 : TypeDesc) (x : Value)
    (hp : tmps.getD p undef = .pointer (some ⟨g, 0, none⟩)) (hq : tmps.getD q undef = .pointer (some ⟨g2, 0, none⟩)) (hr : tmps.getD r undef = x) (hg : w.heap[g]? = some (.cells cs t fr)) (hg2 : w.heap[g2]? = some (.cells cs2 t2 fr2))
    (hu : P.underlying ty = some d) (hd : (match d with | .struct _ | .array _ _ => true | _ => false) = true) (hi : (P.info? ty).map (·.size) = some cs.size)
    (hu2 : P.underlying ty2 = some d2) (hd2 : (match d2 with | .struct _ | .array _ _ => true | _ => false) = true) (hi2 : (P.info? ty2).map (·.size) = some cs2.size) :
    (results fn tmps).run P w = .ok (.tuple #[.agg cs, .agg cs2, x]) w := by
  have hp' : tmps[p]?.getD undef = .pointer (some ⟨g, 0, none⟩) := by simpa using hp
  have hq' : tmps[q]?.getD undef = .pointer (some ⟨g2, 0, none⟩) := by simpa using hq
  have hr' : tmps[r]?.getD undef = x := by simpa using hr
  simp [results, h, hp', hq', hr', asAddr, run_loadVar_row w g t ty cs fr d hg hu hd hi, run_loadVar_row w g2 t2 ty2 cs2 fr2 d2 hg2 hu2 hd2 hi2]
theorem heap5 (w : World) (o0 o1 o2 o3 o4 : Obj) : (((((w.alloc o0).alloc o1).alloc o2).alloc o3).alloc o4).heap[w.heap.size]? = some o0 ∧ (((((w.alloc o0).alloc o1).alloc o2).alloc o3).alloc o4).heap[w.heap.size + 1]? = some o1 ∧ (((((w.alloc o0).alloc o1).alloc o2).alloc o3).alloc o4).heap[w.heap.size + 2]? = some o2 ∧ (((((w.alloc o0).alloc o1).alloc o2).alloc o3).alloc o4).heap[w.heap.size + 3]? = some o3 ∧ (((((w.alloc o0).alloc o1).alloc o2).alloc o3).alloc o4).heap[w.heap.size + 4]? = some o4 := by
  refine ⟨?_, ?_, ?_, ?_, ?_⟩
  · rw [heap_alloc_old _ _ (by simp <;> omega), heap_alloc_old _ _ (by simp <;> omega), heap_alloc_old _ _ (by simp <;> omega), heap_alloc_old _ _ (by simp <;> omega), heap_alloc_new]
  · rw [heap_alloc_old _ _ (by simp <;> omega), heap_alloc_old _ _ (by simp <;> omega), heap_alloc_old _ _ (by simp <;> omega)]
    exact heap2 w o0 o1
  · rw [heap_alloc_old _ _ (by simp <;> omega), heap_alloc_old _ _ (by simp <;> omega)]
    simpa using heap_alloc_new ((w.alloc o0).alloc o1) o2
  · rw [heap_alloc_old _ _ (by simp <;> omega)]
    simpa using heap_alloc_new (((w.alloc o0).alloc o1).alloc o2) o3
  · simpa using heap_alloc_new ((((w.alloc o0).alloc o1).alloc o2).alloc o3) o4
theorem own_not {w : World} {v : Value} {L : List Nod} {b : Nat} {cs : Array Value} {t : TypeId} {fr : Nat × Nat} (h : NodsAt w v L) (hne : L ≠ []) (hb : w.heap[b]? = some (.cells cs t fr)) (hs : cs.size < 12) : v.ownBlock ≠ some b := by
  intro e
  obtain ⟨a, c, rfl, _, _⟩ := h.form
  obtain ⟨b', o, ha, hr⟩ := h.range 0 (List.length_pos_iff.2 hne)
  subst ha
  simp [Value.ownBlock] at e
  subst e
  have h11 := hr 11 _ (by rw [nod_cells]; rfl)
  rw [block_cell hb (o + 0 * 12 + 11), Array.getElem?_eq_none (by omega)] at h11
  cases h11
def StepPost (w : World) (T : Tr) (e : Ending) (w' : World) : Prop := ∃ v' u', e = .returned (.tuple #[.agg #[.int .u64 (T.next : Int), v'], .agg #[.int .u64 (T.next : Int), u'], .bool true]) ∧ NodsAt w' v' T.n ∧ NodsAt w' u' T.n ∧ Below w.heap.size w w'
end
end Go.Proofs.Ytpmlhmficmillaa

namespace Go.Proofs.Ytpmlhmficmillaa
section
open Go.RowKit
set_option maxRecDepth 100000
set_option linter.unusedVariables false

set_option maxHeartbeats 12800000 in
theorem step0_any (v u : Value) (x : Nat) (l : List Nod) (a : ActV) (w : World) (hv : NodsAt w v l) (hu : NodsAt w u l) (ht : TrOk l) (hne : l ≠ []) (ha : ActOk a) (hop : a.op ≠ 1 ∧ a.op ≠ 2 ∧ a.op ≠ 3 ∧ a.op ≠ 4 ∧ a.op ≠ 5 ∧ a.op ≠ 6 ∧ a.op ≠ 7) :
    Calls Try.prog 14 #[.agg #[.int .u64 (x : Int), v], .agg #[.int .u64 (x : Int), u], .agg a.cells] w (StepPost w ⟨x, l⟩) := by
  obtain ⟨c0, d0, rfl, g1, g2⟩ := hv.form
  obtain ⟨c1, d1, rfl, g3, g4⟩ := hu.form
  unfold maxLen at g2 g4
  rw [act_cells]
  obtain ⟨W, hW⟩ : ∃ W, W = ((((w.alloc (.cells #[.int .u64 (x : Int), .slice c0 l.length d0] 25)).alloc (.cells #[.int .u64 (x : Int), .slice c1 l.length d1] 32)).alloc (.cells #[.int .i64 a.op, .int .u64 (a.dir : Int), .int .u64 (a.path : Int), .int .u64 (a.off : Int), .int .u32 (a.n : Int), .int .u32 (a.mode : Int), .string a.name, .string a.who, .string a.gid, .string a.data, .int .u32 (a.now : Int)] 36)).alloc (.cells #[.int .u64 0, .slice none 0 0] 25)).alloc (.cells #[.int .u64 0, .slice none 0 0] 32) := ⟨_, rfl⟩
  have hb0 : Below w.heap.size w W := by rw [hW]; exact (((((Below.refl w.heap.size w).alloc (Nat.le_refl _) _).alloc (by simp <;> omega) _).alloc (by simp <;> omega) _).alloc (by simp <;> omega) _).alloc (by simp <;> omega) _
  have hsz : W.heap.size = w.heap.size + 5 := by rw [hW]; simp
  have h0 := hid (show W.heap[w.heap.size]? = some (.cells #[.int .u64 (x : Int), .slice c0 l.length d0] 25 (0, 0)) by rw [hW]; exact (heap5 _ _ _ _ _ _).1)
  have h1 := hid (show W.heap[w.heap.size + 1]? = some (.cells #[.int .u64 (x : Int), .slice c1 l.length d1] 32 (0, 0)) by rw [hW]; exact (heap5 _ _ _ _ _ _).2.1)
  have h2 := hid (show W.heap[w.heap.size + 2]? = some (.cells #[.int .i64 a.op, .int .u64 (a.dir : Int), .int .u64 (a.path : Int), .int .u64 (a.off : Int), .int .u32 (a.n : Int), .int .u32 (a.mode : Int), .string a.name, .string a.who, .string a.gid, .string a.data, .int .u32 (a.now : Int)] 36 (0, 0)) by rw [hW]; exact (heap5 _ _ _ _ _ _).2.2.1)
  have h3 := hid (show W.heap[w.heap.size + 3]? = some (.cells #[.int .u64 0, .slice none 0 0] 25 (0, 0)) by rw [hW]; exact (heap5 _ _ _ _ _ _).2.2.2.1)
  have h4 := hid (show W.heap[w.heap.size + 4]? = some (.cells #[.int .u64 0, .slice none 0 0] 32 (0, 0)) by rw [hW]; exact (heap5 _ _ _ _ _ _).2.2.2.2)
  have hvW := hid (hv.below hb0)
  have huW := hid (hu.below hb0)
  have hB := hid hb0
  have mixed : Try.prog.follows Departure.mixedOrders = true := by first | kernel_rfl | decide
  replace hop := hid hop
  replace hsz := hid hsz
  clear hb0
  have hneh := hid hne
  have y0 : W.cell? ⟨w.heap.size + 2, 0, none⟩ = some (.int .i64 a.op) := block_cell h2.out 0
  have o1 : (a.op == 1) = false := by rw [beq_eq_false_iff_ne]; exact hop.out.1
  have o2 : (a.op == 2) = false := by rw [beq_eq_false_iff_ne]; exact hop.out.2.1
  have o3 : (a.op == 3) = false := by rw [beq_eq_false_iff_ne]; exact hop.out.2.2.1
  have o4 : (a.op == 4) = false := by rw [beq_eq_false_iff_ne]; exact hop.out.2.2.2.1
  have o5 : (a.op == 5) = false := by rw [beq_eq_false_iff_ne]; exact hop.out.2.2.2.2.1
  have o6 : (a.op == 6) = false := by rw [beq_eq_false_iff_ne]; exact hop.out.2.2.2.2.2.1
  have o7 : (a.op == 7) = false := by rw [beq_eq_false_iff_ne]; exact hop.out.2.2.2.2.2.2
  go_enter Try.func14, Try.ntmps14
  go_upto_region 30 with (rw [← hW]; replace hW := hid hW)
  have w0 : W.cell? ⟨w.heap.size, 0, none⟩ = some (.int .u64 (x : Int)) := block_cell h0.out 0
  have w1' : W.cell? ⟨w.heap.size, 1, none⟩ = some (.slice c0 l.length d0) := block_cell h0.out 1
  have w2' : W.cell? ⟨(w.heap.size + 1), 0, none⟩ = some (.int .u64 (x : Int)) := block_cell h1.out 0
  have w3' : W.cell? ⟨(w.heap.size + 1), 1, none⟩ = some (.slice c1 l.length d1) := block_cell h1.out 1
  have m0 : W.drew.cell? ⟨w.heap.size, 0, none⟩ = some (.int .u64 (x : Int)) := block_cell h0.out 0
  have m1 : W.drew.cell? ⟨w.heap.size, 1, none⟩ = some (.slice c0 l.length d0) := block_cell h0.out 1
  have m2 : W.drew.cell? ⟨(w.heap.size + 1), 0, none⟩ = some (.int .u64 (x : Int)) := block_cell h1.out 0
  have m3 : W.drew.cell? ⟨(w.heap.size + 1), 1, none⟩ = some (.slice c1 l.length d1) := block_cell h1.out 1
  have n0 : W.drew.cell? ⟨w.heap.size + 1 + 1 + 1, 0, none⟩ = some (.int .u64 0) := block_cell h3.out 0
  have n1 : W.drew.cell? ⟨w.heap.size + 1 + 1 + 1, 1, none⟩ = some (.slice none 0 0) := block_cell h3.out 1
  have n2 : W.drew.frozen? ⟨w.heap.size + 1 + 1 + 1, 0, none⟩ = false := block_free h3.out 0
  have n3 : W.drew.frozen? ⟨w.heap.size + 1 + 1 + 1, 1, none⟩ = false := block_free h3.out 1
  have p0 : W.drew.cell? ⟨w.heap.size + 1 + 1 + 1 + 1, 0, none⟩ = some (.int .u64 0) := block_cell h4.out 0
  have p1 : W.drew.cell? ⟨w.heap.size + 1 + 1 + 1 + 1, 1, none⟩ = some (.slice none 0 0) := block_cell h4.out 1
  have p2 : W.drew.frozen? ⟨w.heap.size + 1 + 1 + 1 + 1, 0, none⟩ = false := block_free h4.out 0
  have p3 : W.drew.frozen? ⟨w.heap.size + 1 + 1 + 1 + 1, 1, none⟩ = false := block_free h4.out 1
  have zn0 : W.cell? ⟨w.heap.size + 1 + 1 + 1, 0, none⟩ = some (.int .u64 0) := block_cell h3.out 0
  have zzn0 : W.cell? ⟨w.heap.size + 3, 0, none⟩ = some (.int .u64 0) := block_cell h3.out 0
  have zn1 : W.cell? ⟨w.heap.size + 1 + 1 + 1, 1, none⟩ = some (.slice none 0 0) := block_cell h3.out 1
  have zzn1 : W.cell? ⟨w.heap.size + 3, 1, none⟩ = some (.slice none 0 0) := block_cell h3.out 1
  have zn2 : W.frozen? ⟨w.heap.size + 1 + 1 + 1, 0, none⟩ = false := block_free h3.out 0
  have zzn2 : W.frozen? ⟨w.heap.size + 3, 0, none⟩ = false := block_free h3.out 0
  have zn3 : W.frozen? ⟨w.heap.size + 1 + 1 + 1, 1, none⟩ = false := block_free h3.out 1
  have zzn3 : W.frozen? ⟨w.heap.size + 3, 1, none⟩ = false := block_free h3.out 1
  have zp0 : W.cell? ⟨w.heap.size + 1 + 1 + 1 + 1, 0, none⟩ = some (.int .u64 0) := block_cell h4.out 0
  have zzp0 : W.cell? ⟨w.heap.size + 4, 0, none⟩ = some (.int .u64 0) := block_cell h4.out 0
  have zp1 : W.cell? ⟨w.heap.size + 1 + 1 + 1 + 1, 1, none⟩ = some (.slice none 0 0) := block_cell h4.out 1
  have zzp1 : W.cell? ⟨w.heap.size + 4, 1, none⟩ = some (.slice none 0 0) := block_cell h4.out 1
  have zp2 : W.frozen? ⟨w.heap.size + 1 + 1 + 1 + 1, 0, none⟩ = false := block_free h4.out 0
  have zzp2 : W.frozen? ⟨w.heap.size + 4, 0, none⟩ = false := block_free h4.out 0
  have zp3 : W.frozen? ⟨w.heap.size + 1 + 1 + 1 + 1, 1, none⟩ = false := block_free h4.out 1
  have zzp3 : W.frozen? ⟨w.heap.size + 4, 1, none⟩ = false := block_free h4.out 1
  have ne1 : w.heap.size ≠ w.heap.size + 1 + 1 + 1 := by omega
  have ne2 : (w.heap.size + 1) ≠ w.heap.size + 1 + 1 + 1 := by omega
  have ne3 : w.heap.size ≠ w.heap.size + 1 + 1 + 1 + 1 := by omega
  have ne4 : (w.heap.size + 1) ≠ w.heap.size + 1 + 1 + 1 + 1 := by omega
  have ne5 : ¬ w.heap.size + 1 + 1 + 1 = w.heap.size := by omega
  have ne6 : ¬ w.heap.size + 1 + 1 + 1 = (w.heap.size + 1) := by omega
  have ne7 : ¬ w.heap.size + 1 + 1 + 1 + 1 = w.heap.size := by omega
  have ne8 : ¬ w.heap.size + 1 + 1 + 1 + 1 = (w.heap.size + 1) := by omega
  go_wp2_with fail
  go_big_region_o
  obtain ⟨F, hF⟩ : ∃ F, F = ((((W.setCell ⟨w.heap.size + 1 + 1 + 1, 0, none⟩ (.int .u64 (x : Int))).setCell ⟨w.heap.size + 1 + 1 + 1, 1, none⟩ (.slice c0 l.length d0)).setCell ⟨w.heap.size + 1 + 1 + 1 + 1, 0, none⟩ (.int .u64 (x : Int))).setCell ⟨w.heap.size + 1 + 1 + 1 + 1, 1, none⟩ (.slice c1 l.length d1)).drew := ⟨_, rfl⟩
  rw [← hF]
  have hF3 := hid (show F.heap[w.heap.size + 1 + 1 + 1]? = some (.cells #[.int .u64 (x : Int), .slice c0 l.length d0] 25 (0, 0)) by
    rw [hF]
    exact (block_set_other (by show w.heap.size + 1 + 1 + 1 ≠ w.heap.size + 1 + 1 + 1 + 1; omega)).trans ((block_set_other (by show w.heap.size + 1 + 1 + 1 ≠ w.heap.size + 1 + 1 + 1 + 1; omega)).trans (block_set (block_set h3.out 0 _) 1 _)))
  have hF4 := hid (show F.heap[w.heap.size + 1 + 1 + 1 + 1]? = some (.cells #[.int .u64 (x : Int), .slice c1 l.length d1] 32 (0, 0)) by
    rw [hF]
    exact block_set (block_set ((block_set_other (by show w.heap.size + 1 + 1 + 1 + 1 ≠ w.heap.size + 1 + 1 + 1; omega)).trans ((block_set_other (by show w.heap.size + 1 + 1 + 1 + 1 ≠ w.heap.size + 1 + 1 + 1; omega)).trans h4.out)) 0 _) 1 _)
  have other : ∀ (v' : Value) (L : List Nod), NodsAt W v' L → L ≠ [] → NodsAt F v' L := fun v' L h1 hL => by
    have h2 := own_not h1 hL h3.out (by show 2 < 12; omega)
    have h2' := own_not h1 hL h4.out (by show 2 < 12; omega)
    rw [hF]
    have s1 := NodsAt.other (w' := W.setCell ⟨w.heap.size + 1 + 1 + 1, 0, none⟩ (.int .u64 (x : Int))) h1 (w.heap.size + 3) h2 (by simp) (fun k hk => block_set_other (by show k ≠ w.heap.size + 1 + 1 + 1; omega))
    have s2 := NodsAt.other (w' := (W.setCell ⟨w.heap.size + 1 + 1 + 1, 0, none⟩ (.int .u64 (x : Int))).setCell ⟨w.heap.size + 1 + 1 + 1, 1, none⟩ (.slice c0 l.length d0)) s1 (w.heap.size + 3) h2 (by simp) (fun k hk => block_set_other (by show k ≠ w.heap.size + 1 + 1 + 1; omega))
    have s3 := NodsAt.other (w' := ((W.setCell ⟨w.heap.size + 1 + 1 + 1, 0, none⟩ (.int .u64 (x : Int))).setCell ⟨w.heap.size + 1 + 1 + 1, 1, none⟩ (.slice c0 l.length d0)).setCell ⟨w.heap.size + 1 + 1 + 1 + 1, 0, none⟩ (.int .u64 (x : Int))) s2 (w.heap.size + 4) h2' (by simp) (fun k hk => block_set_other (by show k ≠ w.heap.size + 1 + 1 + 1 + 1; omega))
    exact NodsAt.other (w' := (((W.setCell ⟨w.heap.size + 1 + 1 + 1, 0, none⟩ (.int .u64 (x : Int))).setCell ⟨w.heap.size + 1 + 1 + 1, 1, none⟩ (.slice c0 l.length d0)).setCell ⟨w.heap.size + 1 + 1 + 1 + 1, 0, none⟩ (.int .u64 (x : Int))).setCell ⟨w.heap.size + 1 + 1 + 1 + 1, 1, none⟩ (.slice c1 l.length d1)) s3 (w.heap.size + 4) h2' (by simp) (fun k hk => block_set_other (by show k ≠ w.heap.size + 1 + 1 + 1 + 1; omega))
  have hN1 := hid (other _ _ hvW.out hneh.out)
  have hN2 := hid (other _ _ huW.out hneh.out)
  have hBF := hid (show Below w.heap.size w F by rw [hF]; exact ((((hB.out.setCell (p := ⟨w.heap.size + 1 + 1 + 1, 0, none⟩) (by show w.heap.size ≤ w.heap.size + 1 + 1 + 1; omega) _).setCell (p := ⟨w.heap.size + 1 + 1 + 1, 1, none⟩) (by show w.heap.size ≤ w.heap.size + 1 + 1 + 1; omega) _).setCell (p := ⟨w.heap.size + 1 + 1 + 1 + 1, 0, none⟩) (by show w.heap.size ≤ w.heap.size + 1 + 1 + 1 + 1; omega) _).setCell (p := ⟨w.heap.size + 1 + 1 + 1 + 1, 1, none⟩) (by show w.heap.size ≤ w.heap.size + 1 + 1 + 1 + 1; omega) _).drew)
  replace hF := hid hF
  clear other
  go_wp2_with fail
  refine bodyPost_ret (results_ccs rfl _ _ (w.heap.size + 1 + 1 + 1) (w.heap.size + 1 + 1 + 1 + 1) _ _ _ _ _ _ _ _ _ rfl rfl rfl hF3.out hF4.out Try.underlying25 rfl (by kernel_rfl) Try.underlying32 rfl (by kernel_rfl)) rfl ?_
  exact ⟨_, _, rfl, hN1.out, hN2.out, hBF.out⟩
end
end Go.Proofs.Ytpmlhmficmillaa

namespace Go.Proofs.Ytpmlhmficmillaa
section
open Go.RowKit
set_option maxRecDepth 100000
set_option linter.unusedVariables false

set_option maxHeartbeats 12800000 in
theorem step1_any (v u : Value) (x : Nat) (l : List Nod) (a : ActV) (w : World) (hv : NodsAt w v l) (hu : NodsAt w u l) (ht : TrOk l) (hne : l ≠ []) (ha : ActOk a) (hop : a.op = 1) (hTn : (makeT ⟨x, l⟩ a.dir a.name a.mode a.who a.gid a.now).1.n ≠ []) (hds : a.name.size ≤ 1000000) (hx : x + 1 < 18446744073709551616) (hnext : ∀ n ∈ l, n.path < x) :
    Calls Try.prog 14 #[.agg #[.int .u64 (x : Int), v], .agg #[.int .u64 (x : Int), u], .agg a.cells] w (StepPost w (makeT ⟨x, l⟩ a.dir a.name a.mode a.who a.gid a.now).1) := by
  obtain ⟨c0, d0, rfl, g1, g2⟩ := hv.form
  obtain ⟨c1, d1, rfl, g3, g4⟩ := hu.form
  unfold maxLen at g2 g4
  obtain ⟨R, hR⟩ : ∃ R, R = makeT ⟨x, l⟩ a.dir a.name a.mode a.who a.gid a.now := ⟨_, rfl⟩
  rw [← hR]
  rw [act_cells, hop]
  obtain ⟨W, hW⟩ : ∃ W, W = ((((w.alloc (.cells #[.int .u64 (x : Int), .slice c0 l.length d0] 25)).alloc (.cells #[.int .u64 (x : Int), .slice c1 l.length d1] 32)).alloc (.cells #[.int .i64 1, .int .u64 (a.dir : Int), .int .u64 (a.path : Int), .int .u64 (a.off : Int), .int .u32 (a.n : Int), .int .u32 (a.mode : Int), .string a.name, .string a.who, .string a.gid, .string a.data, .int .u32 (a.now : Int)] 36)).alloc (.cells #[.int .u64 0, .slice none 0 0] 25)).alloc (.cells #[.int .u64 0, .slice none 0 0] 32) := ⟨_, rfl⟩
  have hb0 : Below w.heap.size w W := by rw [hW]; exact (((((Below.refl w.heap.size w).alloc (Nat.le_refl _) _).alloc (by simp <;> omega) _).alloc (by simp <;> omega) _).alloc (by simp <;> omega) _).alloc (by simp <;> omega) _
  have hsz : W.heap.size = w.heap.size + 5 := by rw [hW]; simp
  have h0 := hid (show W.heap[w.heap.size]? = some (.cells #[.int .u64 (x : Int), .slice c0 l.length d0] 25 (0, 0)) by rw [hW]; exact (heap5 _ _ _ _ _ _).1)
  have h1 := hid (show W.heap[w.heap.size + 1]? = some (.cells #[.int .u64 (x : Int), .slice c1 l.length d1] 32 (0, 0)) by rw [hW]; exact (heap5 _ _ _ _ _ _).2.1)
  have h2 := hid (show W.heap[w.heap.size + 2]? = some (.cells #[.int .i64 1, .int .u64 (a.dir : Int), .int .u64 (a.path : Int), .int .u64 (a.off : Int), .int .u32 (a.n : Int), .int .u32 (a.mode : Int), .string a.name, .string a.who, .string a.gid, .string a.data, .int .u32 (a.now : Int)] 36 (0, 0)) by rw [hW]; exact (heap5 _ _ _ _ _ _).2.2.1)
  have h3 := hid (show W.heap[w.heap.size + 3]? = some (.cells #[.int .u64 0, .slice none 0 0] 25 (0, 0)) by rw [hW]; exact (heap5 _ _ _ _ _ _).2.2.2.1)
  have h4 := hid (show W.heap[w.heap.size + 4]? = some (.cells #[.int .u64 0, .slice none 0 0] 32 (0, 0)) by rw [hW]; exact (heap5 _ _ _ _ _ _).2.2.2.2)
  have hvW := hid (hv.below hb0)
  have huW := hid (hu.below hb0)
  have hB := hid hb0
  have mixed : Try.prog.follows Departure.mixedOrders = true := by first | kernel_rfl | decide
  replace hop := hid hop
  replace hsz := hid hsz
  clear hb0
  have q0 := block_cell h0.out 0
  have q1 := block_cell h0.out 1
  have y0 := block_cell h2.out 0
  have y1 := block_cell h2.out 1
  have y2 := block_cell h2.out 2
  have y3 := block_cell h2.out 3
  have y4 := block_cell h2.out 4
  have y5 := block_cell h2.out 5
  have y6 := block_cell h2.out 6
  have y7 := block_cell h2.out 7
  have y8 := block_cell h2.out 8
  have y9 := block_cell h2.out 9
  have y10 := block_cell h2.out 10
  obtain ⟨T, hT⟩ : ∃ T, T = R.1 := ⟨_, rfl⟩
  obtain ⟨er, her⟩ : ∃ e, e = R.2 := ⟨_, rfl⟩
  have hc1 : Hid (Calls Try.prog 17 #[.agg #[.int .u64 (x : Int), .slice c0 l.length d0], .int .u64 (a.dir : Int), .string a.name, .int .u32 (a.mode : Int), .string a.who, .string a.gid, .int .u32 (a.now : Int)] W (TreePE W (T, er))) := hid (by rw [hT, her, hR]; exact tmake_any _ x l a.dir a.name a.mode a.who a.gid a.now W hvW.out ht ha.name hx hnext ha.mode ha.now)
  have hc2 : Hid (∀ Z, NodsAt Z (.slice c1 l.length d1) l → Calls Try.prog 35 #[.agg #[.int .u64 (x : Int), .slice c1 l.length d1], .int .u64 (a.dir : Int), .string a.name, .int .u32 (a.mode : Int), .string a.who, .string a.gid, .int .u32 (a.now : Int)] Z (RPE Z (T, er))) := hid (fun Z hZ => by rw [hT, her, hR]; exact rmake_any _ x l a.dir a.name a.mode a.who a.gid a.now Z hZ ht hne hds hx)
  have hTne := hid (show T.n ≠ [] by rw [hT, hR]; exact hTn)
  rw [← hT]
  replace hT := hid hT
  replace her := hid her
  replace hR := hid hR
  go_enter Try.func14, Try.ntmps14
  go_upto_region 1 with (rw [← hW]; replace hW := hid hW)
  try (rw [← hW]; replace hW := hid hW)
  go_wp2_with fail
  refine hc1.out.mono ?_
  rintro e w1 ⟨v1, rfl, hv1, hf1, hb1⟩
  obtain ⟨a1, b1, rfl, _, _⟩ := hv1.form
  change NodsAt w1 (.slice a1 T.n.length b1) T.n at hv1
  obtain ⟨k1, hk1⟩ : ∃ k, k = w1.heap.size := ⟨_, rfl⟩
  obtain ⟨V1, hV1⟩ : ∃ V, V = w1.alloc (.cells #[.int .u64 (T.next : Int), .slice a1 T.n.length b1] 25) := ⟨_, rfl⟩
  have hbV : Below w1.heap.size w1 V1 := by rw [hV1]; exact (Below.refl _ _).alloc (Nat.le_refl _) _
  have hbx := sn hb1 hbV
  have bA := hid (show V1.heap[k1]? = some (.cells #[.int .u64 (T.next : Int), .slice a1 T.n.length b1] 25 (0, 0)) by rw [hk1, hV1]; exact heap_alloc_new _ _)
  have rA := hid (hv1.below hbV)
  have oA := hid (show ∀ k, (Value.slice a1 T.n.length b1).ownBlock = some k → w.heap.size + 4 < k from fun k hk => by have := hf1 k hk; have := hsz.out; omega)
  replace h1 := hid ((hbx.block _ (lt_of_block h1.out)).trans h1.out)
  replace h2 := hid ((hbx.block _ (lt_of_block h2.out)).trans h2.out)
  replace h3 := hid ((hbx.block _ (lt_of_block h3.out)).trans h3.out)
  replace h4 := hid ((hbx.block _ (lt_of_block h4.out)).trans h4.out)
  have hu1 := hid (huW.out.below hbx)
  have hk1s : w.heap.size + 5 ≤ k1 := by have := hb1.size; have := hsz.out; omega
  have hs1 := hid hbx.size
  replace hB := hid (sn hB.out hbx)
  clear hbV hbx hb1 hv1 hf1 hc1 q0 q1 y0 y1 y2 y3 y4 y5 y6 y7 y8 y9 y10
  have q0 := block_cell h1.out 0
  have q1 := block_cell h1.out 1
  have y0 := block_cell h2.out 0
  have y1 := block_cell h2.out 1
  have y2 := block_cell h2.out 2
  have y3 := block_cell h2.out 3
  have y4 := block_cell h2.out 4
  have y5 := block_cell h2.out 5
  have y6 := block_cell h2.out 6
  have y7 := block_cell h2.out 7
  have y8 := block_cell h2.out 8
  have y9 := block_cell h2.out 9
  have y10 := block_cell h2.out 10
  go_upto_region 4 with (rw [← hV1]; replace hV1 := hid hV1)
  try (rw [← hV1]; replace hV1 := hid hV1)
  rw [← hk1]
  replace hk1 := hid hk1
  go_wp2_with fail
  refine (hc2.out V1 hu1.out).mono ?_
  rintro e w2 ⟨u2, rfl, hu2, hb2⟩
  obtain ⟨a2, b2, rfl, _, _⟩ := hu2.form
  change NodsAt w2 (.slice a2 T.n.length b2) T.n at hu2
  obtain ⟨k2, hk2⟩ : ∃ k, k = w2.heap.size := ⟨_, rfl⟩
  obtain ⟨V2, hV2⟩ : ∃ V, V = w2.alloc (.cells #[.int .u64 (T.next : Int), .slice a2 T.n.length b2] 32) := ⟨_, rfl⟩
  have hbV : Below w2.heap.size w2 V2 := by rw [hV2]; exact (Below.refl _ _).alloc (Nat.le_refl _) _
  have hbx := sn hb2 hbV
  have bB := hid (show V2.heap[k2]? = some (.cells #[.int .u64 (T.next : Int), .slice a2 T.n.length b2] 32 (0, 0)) by rw [hk2, hV2]; exact heap_alloc_new _ _)
  have rB := hid (hu2.below hbV)
  have hk2s : w.heap.size + 5 ≤ k2 := by have := hb2.size; have := lt_of_block bA.out; omega
  replace bA := hid ((hbx.block _ (lt_of_block bA.out)).trans bA.out)
  replace rA := hid (rA.out.below hbx)
  replace h3 := hid ((hbx.block _ (lt_of_block h3.out)).trans h3.out)
  replace h4 := hid ((hbx.block _ (lt_of_block h4.out)).trans h4.out)
  replace hB := hid (sn hB.out hbx)
  clear hbV hbx hb2 hu2 q0 q1 y0 y1 y2 y3 y4 y5 y6 y7 y8 y9 y10 hu1 hc2
  go_upto_region 5 with (rw [← hV2]; replace hV2 := hid hV2)
  try (rw [← hV2]; replace hV2 := hid hV2)
  rw [← hk2]
  replace hk2 := hid hk2
  have w0 : V2.cell? ⟨k1, 0, none⟩ = some (.int .u64 (T.next : Int)) := block_cell bA.out 0
  have w1' : V2.cell? ⟨k1, 1, none⟩ = some (.slice a1 T.n.length b1) := block_cell bA.out 1
  have w2' : V2.cell? ⟨k2, 0, none⟩ = some (.int .u64 (T.next : Int)) := block_cell bB.out 0
  have w3' : V2.cell? ⟨k2, 1, none⟩ = some (.slice a2 T.n.length b2) := block_cell bB.out 1
  have m0 : V2.drew.cell? ⟨k1, 0, none⟩ = some (.int .u64 (T.next : Int)) := block_cell bA.out 0
  have m1 : V2.drew.cell? ⟨k1, 1, none⟩ = some (.slice a1 T.n.length b1) := block_cell bA.out 1
  have m2 : V2.drew.cell? ⟨k2, 0, none⟩ = some (.int .u64 (T.next : Int)) := block_cell bB.out 0
  have m3 : V2.drew.cell? ⟨k2, 1, none⟩ = some (.slice a2 T.n.length b2) := block_cell bB.out 1
  have n0 : V2.drew.cell? ⟨w.heap.size + 1 + 1 + 1, 0, none⟩ = some (.int .u64 0) := block_cell h3.out 0
  have n1 : V2.drew.cell? ⟨w.heap.size + 1 + 1 + 1, 1, none⟩ = some (.slice none 0 0) := block_cell h3.out 1
  have n2 : V2.drew.frozen? ⟨w.heap.size + 1 + 1 + 1, 0, none⟩ = false := block_free h3.out 0
  have n3 : V2.drew.frozen? ⟨w.heap.size + 1 + 1 + 1, 1, none⟩ = false := block_free h3.out 1
  have p0 : V2.drew.cell? ⟨w.heap.size + 1 + 1 + 1 + 1, 0, none⟩ = some (.int .u64 0) := block_cell h4.out 0
  have p1 : V2.drew.cell? ⟨w.heap.size + 1 + 1 + 1 + 1, 1, none⟩ = some (.slice none 0 0) := block_cell h4.out 1
  have p2 : V2.drew.frozen? ⟨w.heap.size + 1 + 1 + 1 + 1, 0, none⟩ = false := block_free h4.out 0
  have p3 : V2.drew.frozen? ⟨w.heap.size + 1 + 1 + 1 + 1, 1, none⟩ = false := block_free h4.out 1
  have zn0 : V2.cell? ⟨w.heap.size + 1 + 1 + 1, 0, none⟩ = some (.int .u64 0) := block_cell h3.out 0
  have zzn0 : V2.cell? ⟨w.heap.size + 3, 0, none⟩ = some (.int .u64 0) := block_cell h3.out 0
  have zn1 : V2.cell? ⟨w.heap.size + 1 + 1 + 1, 1, none⟩ = some (.slice none 0 0) := block_cell h3.out 1
  have zzn1 : V2.cell? ⟨w.heap.size + 3, 1, none⟩ = some (.slice none 0 0) := block_cell h3.out 1
  have zn2 : V2.frozen? ⟨w.heap.size + 1 + 1 + 1, 0, none⟩ = false := block_free h3.out 0
  have zzn2 : V2.frozen? ⟨w.heap.size + 3, 0, none⟩ = false := block_free h3.out 0
  have zn3 : V2.frozen? ⟨w.heap.size + 1 + 1 + 1, 1, none⟩ = false := block_free h3.out 1
  have zzn3 : V2.frozen? ⟨w.heap.size + 3, 1, none⟩ = false := block_free h3.out 1
  have zp0 : V2.cell? ⟨w.heap.size + 1 + 1 + 1 + 1, 0, none⟩ = some (.int .u64 0) := block_cell h4.out 0
  have zzp0 : V2.cell? ⟨w.heap.size + 4, 0, none⟩ = some (.int .u64 0) := block_cell h4.out 0
  have zp1 : V2.cell? ⟨w.heap.size + 1 + 1 + 1 + 1, 1, none⟩ = some (.slice none 0 0) := block_cell h4.out 1
  have zzp1 : V2.cell? ⟨w.heap.size + 4, 1, none⟩ = some (.slice none 0 0) := block_cell h4.out 1
  have zp2 : V2.frozen? ⟨w.heap.size + 1 + 1 + 1 + 1, 0, none⟩ = false := block_free h4.out 0
  have zzp2 : V2.frozen? ⟨w.heap.size + 4, 0, none⟩ = false := block_free h4.out 0
  have zp3 : V2.frozen? ⟨w.heap.size + 1 + 1 + 1 + 1, 1, none⟩ = false := block_free h4.out 1
  have zzp3 : V2.frozen? ⟨w.heap.size + 4, 1, none⟩ = false := block_free h4.out 1
  have ne1 : k1 ≠ w.heap.size + 1 + 1 + 1 := by omega
  have ne2 : k2 ≠ w.heap.size + 1 + 1 + 1 := by omega
  have ne3 : k1 ≠ w.heap.size + 1 + 1 + 1 + 1 := by omega
  have ne4 : k2 ≠ w.heap.size + 1 + 1 + 1 + 1 := by omega
  have ne5 : ¬ w.heap.size + 1 + 1 + 1 = k1 := by omega
  have ne6 : ¬ w.heap.size + 1 + 1 + 1 = k2 := by omega
  have ne7 : ¬ w.heap.size + 1 + 1 + 1 + 1 = k1 := by omega
  have ne8 : ¬ w.heap.size + 1 + 1 + 1 + 1 = k2 := by omega
  go_wp2_with fail
  go_big_region_o
  obtain ⟨F, hF⟩ : ∃ F, F = ((((V2.setCell ⟨w.heap.size + 1 + 1 + 1, 0, none⟩ (.int .u64 (T.next : Int))).setCell ⟨w.heap.size + 1 + 1 + 1, 1, none⟩ (.slice a1 T.n.length b1)).setCell ⟨w.heap.size + 1 + 1 + 1 + 1, 0, none⟩ (.int .u64 (T.next : Int))).setCell ⟨w.heap.size + 1 + 1 + 1 + 1, 1, none⟩ (.slice a2 T.n.length b2)).drew := ⟨_, rfl⟩
  rw [← hF]
  have hF3 := hid (show F.heap[w.heap.size + 1 + 1 + 1]? = some (.cells #[.int .u64 (T.next : Int), .slice a1 T.n.length b1] 25 (0, 0)) by
    rw [hF]
    exact (block_set_other (by show w.heap.size + 1 + 1 + 1 ≠ w.heap.size + 1 + 1 + 1 + 1; omega)).trans ((block_set_other (by show w.heap.size + 1 + 1 + 1 ≠ w.heap.size + 1 + 1 + 1 + 1; omega)).trans (block_set (block_set h3.out 0 _) 1 _)))
  have hF4 := hid (show F.heap[w.heap.size + 1 + 1 + 1 + 1]? = some (.cells #[.int .u64 (T.next : Int), .slice a2 T.n.length b2] 32 (0, 0)) by
    rw [hF]
    exact block_set (block_set ((block_set_other (by show w.heap.size + 1 + 1 + 1 + 1 ≠ w.heap.size + 1 + 1 + 1; omega)).trans ((block_set_other (by show w.heap.size + 1 + 1 + 1 + 1 ≠ w.heap.size + 1 + 1 + 1; omega)).trans h4.out)) 0 _) 1 _)
  have other : ∀ (v' : Value) (L : List Nod), NodsAt V2 v' L → L ≠ [] → NodsAt F v' L := fun v' L h1 hL => by
    have h2 := own_not h1 hL h3.out (by show 2 < 12; omega)
    have h2' := own_not h1 hL h4.out (by show 2 < 12; omega)
    rw [hF]
    have s1 := NodsAt.other (w' := V2.setCell ⟨w.heap.size + 1 + 1 + 1, 0, none⟩ (.int .u64 (T.next : Int))) h1 (w.heap.size + 3) h2 (by simp) (fun k hk => block_set_other (by show k ≠ w.heap.size + 1 + 1 + 1; omega))
    have s2 := NodsAt.other (w' := (V2.setCell ⟨w.heap.size + 1 + 1 + 1, 0, none⟩ (.int .u64 (T.next : Int))).setCell ⟨w.heap.size + 1 + 1 + 1, 1, none⟩ (.slice a1 T.n.length b1)) s1 (w.heap.size + 3) h2 (by simp) (fun k hk => block_set_other (by show k ≠ w.heap.size + 1 + 1 + 1; omega))
    have s3 := NodsAt.other (w' := ((V2.setCell ⟨w.heap.size + 1 + 1 + 1, 0, none⟩ (.int .u64 (T.next : Int))).setCell ⟨w.heap.size + 1 + 1 + 1, 1, none⟩ (.slice a1 T.n.length b1)).setCell ⟨w.heap.size + 1 + 1 + 1 + 1, 0, none⟩ (.int .u64 (T.next : Int))) s2 (w.heap.size + 4) h2' (by simp) (fun k hk => block_set_other (by show k ≠ w.heap.size + 1 + 1 + 1 + 1; omega))
    exact NodsAt.other (w' := (((V2.setCell ⟨w.heap.size + 1 + 1 + 1, 0, none⟩ (.int .u64 (T.next : Int))).setCell ⟨w.heap.size + 1 + 1 + 1, 1, none⟩ (.slice a1 T.n.length b1)).setCell ⟨w.heap.size + 1 + 1 + 1 + 1, 0, none⟩ (.int .u64 (T.next : Int))).setCell ⟨w.heap.size + 1 + 1 + 1 + 1, 1, none⟩ (.slice a2 T.n.length b2)) s3 (w.heap.size + 4) h2' (by simp) (fun k hk => block_set_other (by show k ≠ w.heap.size + 1 + 1 + 1 + 1; omega))
  have hN1 := hid (other _ _ rA.out hTne.out)
  have hN2 := hid (other _ _ rB.out hTne.out)
  have hBF := hid (show Below w.heap.size w F by rw [hF]; exact ((((hB.out.setCell (p := ⟨w.heap.size + 1 + 1 + 1, 0, none⟩) (by show w.heap.size ≤ w.heap.size + 1 + 1 + 1; omega) _).setCell (p := ⟨w.heap.size + 1 + 1 + 1, 1, none⟩) (by show w.heap.size ≤ w.heap.size + 1 + 1 + 1; omega) _).setCell (p := ⟨w.heap.size + 1 + 1 + 1 + 1, 0, none⟩) (by show w.heap.size ≤ w.heap.size + 1 + 1 + 1 + 1; omega) _).setCell (p := ⟨w.heap.size + 1 + 1 + 1 + 1, 1, none⟩) (by show w.heap.size ≤ w.heap.size + 1 + 1 + 1 + 1; omega) _).drew)
  replace hF := hid hF
  clear other
  go_wp2_with fail
  refine bodyPost_ret (results_ccs rfl _ _ (w.heap.size + 1 + 1 + 1) (w.heap.size + 1 + 1 + 1 + 1) _ _ _ _ _ _ _ _ _ rfl rfl rfl hF3.out hF4.out Try.underlying25 rfl (by kernel_rfl) Try.underlying32 rfl (by kernel_rfl)) rfl ?_
  exact ⟨_, _, rfl, hN1.out, hN2.out, hBF.out⟩
end
end Go.Proofs.Ytpmlhmficmillaa

namespace Go.Proofs.Ytpmlhmficmillaa
section
open Go.RowKit
set_option maxRecDepth 100000
set_option linter.unusedVariables false

set_option maxHeartbeats 12800000 in
theorem step2_any (v u : Value) (x : Nat) (l : List Nod) (a : ActV) (w : World) (hv : NodsAt w v l) (hu : NodsAt w u l) (ht : TrOk l) (hne : l ≠ []) (ha : ActOk a) (hop : a.op = 2) (hTn : (putT ⟨x, l⟩ a.path a.off a.data a.who a.now).1.n ≠ []) (hds : a.data.size ≤ 1000000) :
    Calls Try.prog 14 #[.agg #[.int .u64 (x : Int), v], .agg #[.int .u64 (x : Int), u], .agg a.cells] w (StepPost w (putT ⟨x, l⟩ a.path a.off a.data a.who a.now).1) := by
  obtain ⟨c0, d0, rfl, g1, g2⟩ := hv.form
  obtain ⟨c1, d1, rfl, g3, g4⟩ := hu.form
  unfold maxLen at g2 g4
  obtain ⟨R, hR⟩ : ∃ R, R = putT ⟨x, l⟩ a.path a.off a.data a.who a.now := ⟨_, rfl⟩
  rw [← hR]
  rw [act_cells, hop]
  obtain ⟨W, hW⟩ : ∃ W, W = ((((w.alloc (.cells #[.int .u64 (x : Int), .slice c0 l.length d0] 25)).alloc (.cells #[.int .u64 (x : Int), .slice c1 l.length d1] 32)).alloc (.cells #[.int .i64 2, .int .u64 (a.dir : Int), .int .u64 (a.path : Int), .int .u64 (a.off : Int), .int .u32 (a.n : Int), .int .u32 (a.mode : Int), .string a.name, .string a.who, .string a.gid, .string a.data, .int .u32 (a.now : Int)] 36)).alloc (.cells #[.int .u64 0, .slice none 0 0] 25)).alloc (.cells #[.int .u64 0, .slice none 0 0] 32) := ⟨_, rfl⟩
  have hb0 : Below w.heap.size w W := by rw [hW]; exact (((((Below.refl w.heap.size w).alloc (Nat.le_refl _) _).alloc (by simp <;> omega) _).alloc (by simp <;> omega) _).alloc (by simp <;> omega) _).alloc (by simp <;> omega) _
  have hsz : W.heap.size = w.heap.size + 5 := by rw [hW]; simp
  have h0 := hid (show W.heap[w.heap.size]? = some (.cells #[.int .u64 (x : Int), .slice c0 l.length d0] 25 (0, 0)) by rw [hW]; exact (heap5 _ _ _ _ _ _).1)
  have h1 := hid (show W.heap[w.heap.size + 1]? = some (.cells #[.int .u64 (x : Int), .slice c1 l.length d1] 32 (0, 0)) by rw [hW]; exact (heap5 _ _ _ _ _ _).2.1)
  have h2 := hid (show W.heap[w.heap.size + 2]? = some (.cells #[.int .i64 2, .int .u64 (a.dir : Int), .int .u64 (a.path : Int), .int .u64 (a.off : Int), .int .u32 (a.n : Int), .int .u32 (a.mode : Int), .string a.name, .string a.who, .string a.gid, .string a.data, .int .u32 (a.now : Int)] 36 (0, 0)) by rw [hW]; exact (heap5 _ _ _ _ _ _).2.2.1)
  have h3 := hid (show W.heap[w.heap.size + 3]? = some (.cells #[.int .u64 0, .slice none 0 0] 25 (0, 0)) by rw [hW]; exact (heap5 _ _ _ _ _ _).2.2.2.1)
  have h4 := hid (show W.heap[w.heap.size + 4]? = some (.cells #[.int .u64 0, .slice none 0 0] 32 (0, 0)) by rw [hW]; exact (heap5 _ _ _ _ _ _).2.2.2.2)
  have hvW := hid (hv.below hb0)
  have huW := hid (hu.below hb0)
  have hB := hid hb0
  have mixed : Try.prog.follows Departure.mixedOrders = true := by first | kernel_rfl | decide
  replace hop := hid hop
  replace hsz := hid hsz
  clear hb0
  have q0 := block_cell h0.out 0
  have q1 := block_cell h0.out 1
  have y0 := block_cell h2.out 0
  have y1 := block_cell h2.out 1
  have y2 := block_cell h2.out 2
  have y3 := block_cell h2.out 3
  have y4 := block_cell h2.out 4
  have y5 := block_cell h2.out 5
  have y6 := block_cell h2.out 6
  have y7 := block_cell h2.out 7
  have y8 := block_cell h2.out 8
  have y9 := block_cell h2.out 9
  have y10 := block_cell h2.out 10
  obtain ⟨T, hT⟩ : ∃ T, T = R.1 := ⟨_, rfl⟩
  obtain ⟨er, her⟩ : ∃ e, e = R.2 := ⟨_, rfl⟩
  have hc1 : Hid (Calls Try.prog 19 #[.agg #[.int .u64 (x : Int), .slice c0 l.length d0], .int .u64 (a.path : Int), .int .u64 (a.off : Int), .string a.data, .string a.who, .int .u32 (a.now : Int)] W (TreeErr W (T, er))) := hid (by rw [hT, her, hR]; exact tput_any _ x l a.path a.off a.data a.who a.now W hvW.out ht ha.off hds)
  have hc2 : Hid (∀ Z, NodsAt Z (.slice c1 l.length d1) l → Calls Try.prog 36 #[.agg #[.int .u64 (x : Int), .slice c1 l.length d1], .int .u64 (a.path : Int), .int .u64 (a.off : Int), .string a.data, .string a.who, .int .u32 (a.now : Int)] Z (RErr Z (T, er))) := hid (fun Z hZ => by rw [hT, her, hR]; exact rput_any _ x l a.path a.off a.data a.who a.now Z hZ ht hne ha.off hds)
  have hTne := hid (show T.n ≠ [] by rw [hT, hR]; exact hTn)
  rw [← hT]
  replace hT := hid hT
  replace her := hid her
  replace hR := hid hR
  go_enter Try.func14, Try.ntmps14
  go_upto_region 1 with (rw [← hW]; replace hW := hid hW)
  try (rw [← hW]; replace hW := hid hW)
  go_wp2_with fail
  refine hc1.out.mono ?_
  rintro e w1 ⟨v1, rfl, hv1, hf1, hb1⟩
  obtain ⟨a1, b1, rfl, _, _⟩ := hv1.form
  change NodsAt w1 (.slice a1 T.n.length b1) T.n at hv1
  obtain ⟨k1, hk1⟩ : ∃ k, k = w1.heap.size := ⟨_, rfl⟩
  obtain ⟨V1, hV1⟩ : ∃ V, V = w1.alloc (.cells #[.int .u64 (T.next : Int), .slice a1 T.n.length b1] 25) := ⟨_, rfl⟩
  have hbV : Below w1.heap.size w1 V1 := by rw [hV1]; exact (Below.refl _ _).alloc (Nat.le_refl _) _
  have hbx := sn hb1 hbV
  have bA := hid (show V1.heap[k1]? = some (.cells #[.int .u64 (T.next : Int), .slice a1 T.n.length b1] 25 (0, 0)) by rw [hk1, hV1]; exact heap_alloc_new _ _)
  have rA := hid (hv1.below hbV)
  have oA := hid (show ∀ k, (Value.slice a1 T.n.length b1).ownBlock = some k → w.heap.size + 4 < k from fun k hk => by have := hf1 k hk; have := hsz.out; omega)
  replace h1 := hid ((hbx.block _ (lt_of_block h1.out)).trans h1.out)
  replace h2 := hid ((hbx.block _ (lt_of_block h2.out)).trans h2.out)
  replace h3 := hid ((hbx.block _ (lt_of_block h3.out)).trans h3.out)
  replace h4 := hid ((hbx.block _ (lt_of_block h4.out)).trans h4.out)
  have hu1 := hid (huW.out.below hbx)
  have hk1s : w.heap.size + 5 ≤ k1 := by have := hb1.size; have := hsz.out; omega
  have hs1 := hid hbx.size
  replace hB := hid (sn hB.out hbx)
  clear hbV hbx hb1 hv1 hf1 hc1 q0 q1 y0 y1 y2 y3 y4 y5 y6 y7 y8 y9 y10
  have q0 := block_cell h1.out 0
  have q1 := block_cell h1.out 1
  have y0 := block_cell h2.out 0
  have y1 := block_cell h2.out 1
  have y2 := block_cell h2.out 2
  have y3 := block_cell h2.out 3
  have y4 := block_cell h2.out 4
  have y5 := block_cell h2.out 5
  have y6 := block_cell h2.out 6
  have y7 := block_cell h2.out 7
  have y8 := block_cell h2.out 8
  have y9 := block_cell h2.out 9
  have y10 := block_cell h2.out 10
  go_upto_region 8 with (rw [← hV1]; replace hV1 := hid hV1)
  try (rw [← hV1]; replace hV1 := hid hV1)
  rw [← hk1]
  replace hk1 := hid hk1
  go_wp2_with fail
  refine (hc2.out V1 hu1.out).mono ?_
  rintro e w2 ⟨u2, rfl, hu2, hb2⟩
  obtain ⟨a2, b2, rfl, _, _⟩ := hu2.form
  change NodsAt w2 (.slice a2 T.n.length b2) T.n at hu2
  obtain ⟨k2, hk2⟩ : ∃ k, k = w2.heap.size := ⟨_, rfl⟩
  obtain ⟨V2, hV2⟩ : ∃ V, V = w2.alloc (.cells #[.int .u64 (T.next : Int), .slice a2 T.n.length b2] 32) := ⟨_, rfl⟩
  have hbV : Below w2.heap.size w2 V2 := by rw [hV2]; exact (Below.refl _ _).alloc (Nat.le_refl _) _
  have hbx := sn hb2 hbV
  have bB := hid (show V2.heap[k2]? = some (.cells #[.int .u64 (T.next : Int), .slice a2 T.n.length b2] 32 (0, 0)) by rw [hk2, hV2]; exact heap_alloc_new _ _)
  have rB := hid (hu2.below hbV)
  have hk2s : w.heap.size + 5 ≤ k2 := by have := hb2.size; have := lt_of_block bA.out; omega
  replace bA := hid ((hbx.block _ (lt_of_block bA.out)).trans bA.out)
  replace rA := hid (rA.out.below hbx)
  replace h3 := hid ((hbx.block _ (lt_of_block h3.out)).trans h3.out)
  replace h4 := hid ((hbx.block _ (lt_of_block h4.out)).trans h4.out)
  replace hB := hid (sn hB.out hbx)
  clear hbV hbx hb2 hu2 q0 q1 y0 y1 y2 y3 y4 y5 y6 y7 y8 y9 y10 hu1 hc2
  go_upto_region 9 with (rw [← hV2]; replace hV2 := hid hV2)
  try (rw [← hV2]; replace hV2 := hid hV2)
  rw [← hk2]
  replace hk2 := hid hk2
  have w0 : V2.cell? ⟨k1, 0, none⟩ = some (.int .u64 (T.next : Int)) := block_cell bA.out 0
  have w1' : V2.cell? ⟨k1, 1, none⟩ = some (.slice a1 T.n.length b1) := block_cell bA.out 1
  have w2' : V2.cell? ⟨k2, 0, none⟩ = some (.int .u64 (T.next : Int)) := block_cell bB.out 0
  have w3' : V2.cell? ⟨k2, 1, none⟩ = some (.slice a2 T.n.length b2) := block_cell bB.out 1
  have m0 : V2.drew.cell? ⟨k1, 0, none⟩ = some (.int .u64 (T.next : Int)) := block_cell bA.out 0
  have m1 : V2.drew.cell? ⟨k1, 1, none⟩ = some (.slice a1 T.n.length b1) := block_cell bA.out 1
  have m2 : V2.drew.cell? ⟨k2, 0, none⟩ = some (.int .u64 (T.next : Int)) := block_cell bB.out 0
  have m3 : V2.drew.cell? ⟨k2, 1, none⟩ = some (.slice a2 T.n.length b2) := block_cell bB.out 1
  have n0 : V2.drew.cell? ⟨w.heap.size + 1 + 1 + 1, 0, none⟩ = some (.int .u64 0) := block_cell h3.out 0
  have n1 : V2.drew.cell? ⟨w.heap.size + 1 + 1 + 1, 1, none⟩ = some (.slice none 0 0) := block_cell h3.out 1
  have n2 : V2.drew.frozen? ⟨w.heap.size + 1 + 1 + 1, 0, none⟩ = false := block_free h3.out 0
  have n3 : V2.drew.frozen? ⟨w.heap.size + 1 + 1 + 1, 1, none⟩ = false := block_free h3.out 1
  have p0 : V2.drew.cell? ⟨w.heap.size + 1 + 1 + 1 + 1, 0, none⟩ = some (.int .u64 0) := block_cell h4.out 0
  have p1 : V2.drew.cell? ⟨w.heap.size + 1 + 1 + 1 + 1, 1, none⟩ = some (.slice none 0 0) := block_cell h4.out 1
  have p2 : V2.drew.frozen? ⟨w.heap.size + 1 + 1 + 1 + 1, 0, none⟩ = false := block_free h4.out 0
  have p3 : V2.drew.frozen? ⟨w.heap.size + 1 + 1 + 1 + 1, 1, none⟩ = false := block_free h4.out 1
  have zn0 : V2.cell? ⟨w.heap.size + 1 + 1 + 1, 0, none⟩ = some (.int .u64 0) := block_cell h3.out 0
  have zzn0 : V2.cell? ⟨w.heap.size + 3, 0, none⟩ = some (.int .u64 0) := block_cell h3.out 0
  have zn1 : V2.cell? ⟨w.heap.size + 1 + 1 + 1, 1, none⟩ = some (.slice none 0 0) := block_cell h3.out 1
  have zzn1 : V2.cell? ⟨w.heap.size + 3, 1, none⟩ = some (.slice none 0 0) := block_cell h3.out 1
  have zn2 : V2.frozen? ⟨w.heap.size + 1 + 1 + 1, 0, none⟩ = false := block_free h3.out 0
  have zzn2 : V2.frozen? ⟨w.heap.size + 3, 0, none⟩ = false := block_free h3.out 0
  have zn3 : V2.frozen? ⟨w.heap.size + 1 + 1 + 1, 1, none⟩ = false := block_free h3.out 1
  have zzn3 : V2.frozen? ⟨w.heap.size + 3, 1, none⟩ = false := block_free h3.out 1
  have zp0 : V2.cell? ⟨w.heap.size + 1 + 1 + 1 + 1, 0, none⟩ = some (.int .u64 0) := block_cell h4.out 0
  have zzp0 : V2.cell? ⟨w.heap.size + 4, 0, none⟩ = some (.int .u64 0) := block_cell h4.out 0
  have zp1 : V2.cell? ⟨w.heap.size + 1 + 1 + 1 + 1, 1, none⟩ = some (.slice none 0 0) := block_cell h4.out 1
  have zzp1 : V2.cell? ⟨w.heap.size + 4, 1, none⟩ = some (.slice none 0 0) := block_cell h4.out 1
  have zp2 : V2.frozen? ⟨w.heap.size + 1 + 1 + 1 + 1, 0, none⟩ = false := block_free h4.out 0
  have zzp2 : V2.frozen? ⟨w.heap.size + 4, 0, none⟩ = false := block_free h4.out 0
  have zp3 : V2.frozen? ⟨w.heap.size + 1 + 1 + 1 + 1, 1, none⟩ = false := block_free h4.out 1
  have zzp3 : V2.frozen? ⟨w.heap.size + 4, 1, none⟩ = false := block_free h4.out 1
  have ne1 : k1 ≠ w.heap.size + 1 + 1 + 1 := by omega
  have ne2 : k2 ≠ w.heap.size + 1 + 1 + 1 := by omega
  have ne3 : k1 ≠ w.heap.size + 1 + 1 + 1 + 1 := by omega
  have ne4 : k2 ≠ w.heap.size + 1 + 1 + 1 + 1 := by omega
  have ne5 : ¬ w.heap.size + 1 + 1 + 1 = k1 := by omega
  have ne6 : ¬ w.heap.size + 1 + 1 + 1 = k2 := by omega
  have ne7 : ¬ w.heap.size + 1 + 1 + 1 + 1 = k1 := by omega
  have ne8 : ¬ w.heap.size + 1 + 1 + 1 + 1 = k2 := by omega
  go_wp2_with fail
  go_big_region_o
  obtain ⟨F, hF⟩ : ∃ F, F = ((((V2.setCell ⟨w.heap.size + 1 + 1 + 1, 0, none⟩ (.int .u64 (T.next : Int))).setCell ⟨w.heap.size + 1 + 1 + 1, 1, none⟩ (.slice a1 T.n.length b1)).setCell ⟨w.heap.size + 1 + 1 + 1 + 1, 0, none⟩ (.int .u64 (T.next : Int))).setCell ⟨w.heap.size + 1 + 1 + 1 + 1, 1, none⟩ (.slice a2 T.n.length b2)).drew := ⟨_, rfl⟩
  rw [← hF]
  have hF3 := hid (show F.heap[w.heap.size + 1 + 1 + 1]? = some (.cells #[.int .u64 (T.next : Int), .slice a1 T.n.length b1] 25 (0, 0)) by
    rw [hF]
    exact (block_set_other (by show w.heap.size + 1 + 1 + 1 ≠ w.heap.size + 1 + 1 + 1 + 1; omega)).trans ((block_set_other (by show w.heap.size + 1 + 1 + 1 ≠ w.heap.size + 1 + 1 + 1 + 1; omega)).trans (block_set (block_set h3.out 0 _) 1 _)))
  have hF4 := hid (show F.heap[w.heap.size + 1 + 1 + 1 + 1]? = some (.cells #[.int .u64 (T.next : Int), .slice a2 T.n.length b2] 32 (0, 0)) by
    rw [hF]
    exact block_set (block_set ((block_set_other (by show w.heap.size + 1 + 1 + 1 + 1 ≠ w.heap.size + 1 + 1 + 1; omega)).trans ((block_set_other (by show w.heap.size + 1 + 1 + 1 + 1 ≠ w.heap.size + 1 + 1 + 1; omega)).trans h4.out)) 0 _) 1 _)
  have other : ∀ (v' : Value) (L : List Nod), NodsAt V2 v' L → L ≠ [] → NodsAt F v' L := fun v' L h1 hL => by
    have h2 := own_not h1 hL h3.out (by show 2 < 12; omega)
    have h2' := own_not h1 hL h4.out (by show 2 < 12; omega)
    rw [hF]
    have s1 := NodsAt.other (w' := V2.setCell ⟨w.heap.size + 1 + 1 + 1, 0, none⟩ (.int .u64 (T.next : Int))) h1 (w.heap.size + 3) h2 (by simp) (fun k hk => block_set_other (by show k ≠ w.heap.size + 1 + 1 + 1; omega))
    have s2 := NodsAt.other (w' := (V2.setCell ⟨w.heap.size + 1 + 1 + 1, 0, none⟩ (.int .u64 (T.next : Int))).setCell ⟨w.heap.size + 1 + 1 + 1, 1, none⟩ (.slice a1 T.n.length b1)) s1 (w.heap.size + 3) h2 (by simp) (fun k hk => block_set_other (by show k ≠ w.heap.size + 1 + 1 + 1; omega))
    have s3 := NodsAt.other (w' := ((V2.setCell ⟨w.heap.size + 1 + 1 + 1, 0, none⟩ (.int .u64 (T.next : Int))).setCell ⟨w.heap.size + 1 + 1 + 1, 1, none⟩ (.slice a1 T.n.length b1)).setCell ⟨w.heap.size + 1 + 1 + 1 + 1, 0, none⟩ (.int .u64 (T.next : Int))) s2 (w.heap.size + 4) h2' (by simp) (fun k hk => block_set_other (by show k ≠ w.heap.size + 1 + 1 + 1 + 1; omega))
    exact NodsAt.other (w' := (((V2.setCell ⟨w.heap.size + 1 + 1 + 1, 0, none⟩ (.int .u64 (T.next : Int))).setCell ⟨w.heap.size + 1 + 1 + 1, 1, none⟩ (.slice a1 T.n.length b1)).setCell ⟨w.heap.size + 1 + 1 + 1 + 1, 0, none⟩ (.int .u64 (T.next : Int))).setCell ⟨w.heap.size + 1 + 1 + 1 + 1, 1, none⟩ (.slice a2 T.n.length b2)) s3 (w.heap.size + 4) h2' (by simp) (fun k hk => block_set_other (by show k ≠ w.heap.size + 1 + 1 + 1 + 1; omega))
  have hN1 := hid (other _ _ rA.out hTne.out)
  have hN2 := hid (other _ _ rB.out hTne.out)
  have hBF := hid (show Below w.heap.size w F by rw [hF]; exact ((((hB.out.setCell (p := ⟨w.heap.size + 1 + 1 + 1, 0, none⟩) (by show w.heap.size ≤ w.heap.size + 1 + 1 + 1; omega) _).setCell (p := ⟨w.heap.size + 1 + 1 + 1, 1, none⟩) (by show w.heap.size ≤ w.heap.size + 1 + 1 + 1; omega) _).setCell (p := ⟨w.heap.size + 1 + 1 + 1 + 1, 0, none⟩) (by show w.heap.size ≤ w.heap.size + 1 + 1 + 1 + 1; omega) _).setCell (p := ⟨w.heap.size + 1 + 1 + 1 + 1, 1, none⟩) (by show w.heap.size ≤ w.heap.size + 1 + 1 + 1 + 1; omega) _).drew)
  replace hF := hid hF
  clear other
  go_wp2_with fail
  refine bodyPost_ret (results_ccs rfl _ _ (w.heap.size + 1 + 1 + 1) (w.heap.size + 1 + 1 + 1 + 1) _ _ _ _ _ _ _ _ _ rfl rfl rfl hF3.out hF4.out Try.underlying25 rfl (by kernel_rfl) Try.underlying32 rfl (by kernel_rfl)) rfl ?_
  exact ⟨_, _, rfl, hN1.out, hN2.out, hBF.out⟩
end
end Go.Proofs.Ytpmlhmficmillaa
