/- Bytes one by one: where the loop stands, plainly. Conditions: sizes of the machine. And the texts behind it. -/
import Derived.Test.YtcbglcebdkpcfaaGreatCeA36
import Derived.Deep.RegionHeld3
import Derived.Test.YtcbglcebdkpcfaaGreatCeA01
import Derived.ProofKit
import Derived.OpenShut
import Derived.ChangeOld
namespace Go.Proofs.YtcbglcebdkpcfaaGreat
section
open Go.RowKit
set_option maxRecDepth 100000
set_option linter.unusedVariables false

def FarV (tv vm vp : Value) (j : Nat) : Prop := tv.ownBlock ≠ some j ∧ vm.ownBlock ≠ some j ∧ vp.ownBlock ≠ some j
structure EB (H wr : World) (n2 : Nat) (hv tv : Value) (l : List UInt8) (dead : Bool) (xs : List Nat) (vm vp : Value) (asks : List M) (outs : List (List UInt8)) (rs : List (Array Value)) (vs : List Value) : Prop where
  oth : Oth (fun j => j = n2 ∨ j = n2 + 1 ∨ j = n2 + 2) H wr
  road : RoadS wr n2 hv tv l dead xs dead
  tvH : ∀ j, tv.ownBlock = some j → H.heap.size ≤ j
  hvH : ∀ j, hv.ownBlock = some j → H.heap.size ≤ j ∧ vm.ownBlock ≠ some j ∧ vp.ownBlock ≠ some j
  rm : RowV wr H.heap.size 41 36 vm asks.length (cellsOf rs)
  rp : RowV wr H.heap.size 29 1 vp outs.length vs
  am : All2 (AskF wr H.heap.size (FarV tv vm vp)) asks rs
  ap : All2 (OutF wr H.heap.size (FarV tv vm vp)) outs vs
  fm : ∀ j, vm.ownBlock = some j → tv.ownBlock ≠ some j ∧ vp.ownBlock ≠ some j
  fp : ∀ j, vp.ownBlock = some j → tv.ownBlock ≠ some j
  lt : n2 + 2 < H.heap.size
section
variable {H wr w' : World} {n2 : Nat} {hv tv vm vp v' va vo : Value} {l : List UInt8} {dead : Bool} {xs : List Nat} {asks askN : List M} {outs outN : List (List UInt8)} {rs rsN : List (Array Value)} {vs vsN : List Value} {r : List (List UInt8) × Option (List UInt8)} {e : Ending} {B : Nat}
theorem EB.feed (h : EB H wr n2 hv tv l dead xs vm vp asks outs rs vs) (hP : CFeedP wr n2 tv xs r e w') :
    ∃ va vo hv' tv', e = .returned (.tuple #[va, vo]) ∧ EB H w' n2 hv' tv' (r.2.getD []) r.2.isNone (tagsB xs r.1) vm vp asks outs rs vs ∧ MsgsAt w' va (asksB xs r.1) wr.heap.size (FarV tv' vm vp) ∧ OutsAt w' vo (outsB xs r.1) wr.heap.size (FarV tv' vm vp) := by
  obtain ⟨va, vo, hv', tv', he, hM, hO, hR, hrow, hh, ho⟩ := hP
  have hz := h.oth.size
  have hlt := h.lt
  have hk : ∀ j, H.heap.size ≤ j → j < wr.heap.size → tv.ownBlock ≠ some j → w'.heap[j]? = wr.heap[j]? ∧ tv'.ownBlock ≠ some j := fun j h1 h2 h3 => ⟨ho.keep j h2 (by rintro (e | e); omega; exact h3 e), hrow j h2 h3⟩
  have hF : ∀ j, H.heap.size ≤ j → j < wr.heap.size → FarV tv vm vp j → w'.heap[j]? = wr.heap[j]? ∧ FarV tv' vm vp j := fun j h1 h2 h3 => ⟨(hk j h1 h2 h3.1).1, (hk j h1 h2 h3.1).2, h3.2⟩
  have hml := fun j (hj : vm.ownBlock = some j) => h.rm.lt hj
  have hpl := fun j (hj : vp.ownBlock = some j) => h.rp.lt hj
  have hN : ∀ j, wr.heap.size ≤ j → vm.ownBlock ≠ some j ∧ vp.ownBlock ≠ some j := fun j hj => ⟨fun e => by have := (hml j e).2; omega, fun e => by have := (hpl j e).2; omega⟩
  refine ⟨va, vo, hv', tv', he, ⟨h.oth.trans2 ho (fun j hj hp => by rcases hp with e | e; exact e; have := h.tvH j e; omega), hR, fun j hj => ?_, fun j hj => ⟨by have := hh j hj; omega, hN j (hh j hj)⟩, h.rm.kept ho.size (fun j hj => (hk j (hml j hj).1 (hml j hj).2 (h.fm j hj).1).1), h.rp.kept ho.size (fun j hj => (hk j (hpl j hj).1 (hpl j hj).2 (h.fp j hj)).1), h.am.imp fun m u hu => hu.keep ho.size hF (Nat.le_refl _), h.ap.imp fun m u hu => hu.keep ho.size hF (Nat.le_refl _), fun j hj => ⟨(hk j (hml j hj).1 (hml j hj).2 (h.fm j hj).1).2, (h.fm j hj).2⟩, fun j hj => (hk j (hpl j hj).1 (hpl j hj).2 (h.fp j hj)).2, hlt⟩, hM.keep (Nat.le_refl _) (fun j h1 _ h3 => ⟨rfl, h3, hN j h1⟩) (Nat.le_refl _), hO.keep (Nat.le_refl _) (fun j h1 _ h3 => ⟨rfl, h3, hN j h1⟩) (Nat.le_refl _)⟩
  rcases Nat.lt_or_ge j H.heap.size with hl | hl
  · exact absurd hj (hrow j (by omega) (fun e => by have := h.tvH j e; omega))
  · exact hl
theorem Pushed.stay {base : Nat} {v v' : Value} {w w' : World} (p : Pushed base v v' w w') (j : Nat) (hj : j < w.heap.size) (hn : v.ownBlock ≠ some j) : w'.heap[j]? = w.heap[j]? ∧ v'.ownBlock ≠ some j := ⟨p.keep j hj hn, p.apart j hj hn⟩
theorem RoadS.pushed {base : Nat} {v v' : Value} {w w' : World} {n : Nat} {cl : Bool} (p : Pushed base v v' w w') (h : RoadS w n hv tv l dead xs cl) (h1 : ∀ j, v.ownBlock = some j → n + 2 < j ∧ tv.ownBlock ≠ some j ∧ hv.ownBlock ≠ some j) : RoadS w' n hv tv l dead xs cl := by
  have hn := lt_of_block h.blk
  have hnn : ∀ j, j ≤ n + 2 → v.ownBlock ≠ some j := fun j hj e => by have := (h1 j e).1; omega
  exact ⟨(p.keep _ hn (hnn _ (Nat.le_refl _))).trans h.blk, ⟨(p.keep n (by omega) (hnn n (by omega))).trans h.str.blk, RowAt.other h.str.row p.size (fun j hj => p.keep j (h.str.row.lt hj) (fun e => (h1 j e).2.2 hj)), h.str.own⟩, h.tab.other (fun j hj => p.keep j (by rcases hj with rfl | hj; omega; exact (h.tab.row hj).2) (by rcases hj with rfl | hj; exact hnn _ (by omega); exact fun e => (h1 j e).2.1 hj)), h.hrow, h.trow⟩
theorem EB.pushM (h : EB H wr n2 hv tv l dead xs vm vp asks outs rs vs) (hB : H.heap.size ≤ B) (hM : All2 (AskF wr B (FarV tv vm vp)) askN rsN) (p : Pushed H.heap.size vm v' wr w') (hr : RowV w' H.heap.size 41 36 v' (asks.length + askN.length) (cellsOf rs ++ cellsOf rsN)) :
    EB H w' n2 hv tv l dead xs v' vp (asks ++ askN) outs (rs ++ rsN) vs := by
  have hz := h.oth.size
  have hlt := h.lt
  have hF : ∀ j, j < wr.heap.size → FarV tv vm vp j → w'.heap[j]? = wr.heap[j]? ∧ FarV tv v' vp j := fun j h2 h3 => ⟨p.keep j h2 h3.2.1, h3.1, p.apart j h2 h3.2.1, h3.2.2⟩
  have hpl := fun j (hj : vp.ownBlock = some j) => h.rp.lt hj
  have hpm := fun j (hj : vp.ownBlock = some j) => (show vm.ownBlock ≠ some j from fun e => (h.fm j e).2 hj)
  have htm := fun j (hj : tv.ownBlock = some j) => (show vm.ownBlock ≠ some j from fun e => (h.fm j e).1 hj)
  refine ⟨⟨Nat.le_trans hz p.size, fun j hj hn => (p.below.block j hj).trans (h.oth.keep j hj hn), fun N h1 h2 => (h.oth.below N h1 h2).trans (p.below.mono h1)⟩, RoadS.pushed p h.road (fun j hj => ⟨by have := (h.rm.lt hj).1; omega, (h.fm j hj).1, fun e => (h.hvH j e).2.1 hj⟩), h.tvH, fun j hj => ⟨(h.hvH j hj).1, p.apart j (h.road.str.row.lt hj) (h.hvH j hj).2.1, (h.hvH j hj).2.2⟩, by rw [List.length_append]; unfold cellsOf at hr ⊢; rw [List.flatMap_append]; exact hr, h.rp.kept p.size (fun j hj => p.keep j (hpl j hj).2 (hpm j hj)), (h.am.imp fun m u hu => hu.keep p.size (fun j _ h2 h3 => hF j h2 h3) (Nat.le_refl _)).app (hM.imp fun m u hu => hu.keep p.size (fun j _ h2 h3 => hF j h2 h3) hB), h.ap.imp fun m u hu => hu.keep p.size (fun j _ h2 h3 => hF j h2 h3) (Nat.le_refl _), fun j hj => ⟨fun e => p.apart j (h.road.tab.row e).2 (htm j e) hj, fun e => p.apart j (hpl j e).2 (hpm j e) hj⟩, h.fp, hlt⟩
theorem EB.pushP (h : EB H wr n2 hv tv l dead xs vm vp asks outs rs vs) (hB : H.heap.size ≤ B) (hM : All2 (OutF wr B (FarV tv vm vp)) outN vsN) (p : Pushed H.heap.size vp v' wr w') (hr : RowV w' H.heap.size 29 1 v' (outs.length + outN.length) (vs ++ vsN)) :
    EB H w' n2 hv tv l dead xs vm v' asks (outs ++ outN) rs (vs ++ vsN) := by
  have hz := h.oth.size
  have hlt := h.lt
  have hF : ∀ j, j < wr.heap.size → FarV tv vm vp j → w'.heap[j]? = wr.heap[j]? ∧ FarV tv vm v' j := fun j h2 h3 => ⟨p.keep j h2 h3.2.2, h3.1, h3.2.1, p.apart j h2 h3.2.2⟩
  have hml := fun j (hj : vm.ownBlock = some j) => h.rm.lt hj
  have htp := fun j (hj : tv.ownBlock = some j) => (show vp.ownBlock ≠ some j from fun e => h.fp j e hj)
  refine ⟨⟨Nat.le_trans hz p.size, fun j hj hn => (p.below.block j hj).trans (h.oth.keep j hj hn), fun N h1 h2 => (h.oth.below N h1 h2).trans (p.below.mono h1)⟩, RoadS.pushed p h.road (fun j hj => ⟨by have := (h.rp.lt hj).1; omega, h.fp j hj, fun e => (h.hvH j e).2.2 hj⟩), h.tvH, fun j hj => ⟨(h.hvH j hj).1, (h.hvH j hj).2.1, p.apart j (h.road.str.row.lt hj) (h.hvH j hj).2.2⟩, h.rm.kept p.size (fun j hj => p.keep j (hml j hj).2 (h.fm j hj).2), by rw [List.length_append]; exact hr, h.am.imp fun m u hu => hu.keep p.size (fun j _ h2 h3 => hF j h2 h3) (Nat.le_refl _), (h.ap.imp fun m u hu => hu.keep p.size (fun j _ h2 h3 => hF j h2 h3) (Nat.le_refl _)).app (hM.imp fun m u hu => hu.keep p.size (fun j _ h2 h3 => hF j h2 h3) hB), fun j hj => ⟨(h.fm j hj).1, p.apart j (hml j hj).2 (h.fm j hj).2⟩, fun j hj e => p.apart j (h.road.tab.row e).2 (htp j e) hj, hlt⟩
end
theorem cells_at : ∀ {rs : List (Array Value)} (hs : ∀ r ∈ rs, r.size = 36) (i : Nat) (hi : i < rs.length) (j : Nat) (hj : j < 36), (cellsOf rs)[i * 36 + j]? = rs[i].toList[j]?
  | r :: rs, hs, 0, _, j, hj => by
    have : r.toList.length = 36 := by simpa using hs r (by simp)
    show (r.toList ++ cellsOf rs)[0 * 36 + j]? = _
    rw [List.getElem?_append_left (by omega)]
    simp
  | r :: rs, hs, i + 1, hi, j, hj => by
    have : r.toList.length = 36 := by simpa using hs r (by simp)
    show (r.toList ++ cellsOf rs)[(i + 1) * 36 + j]? = _
    rw [List.getElem?_append_right (by omega), this, show (i + 1) * 36 + j - 36 = i * 36 + j by omega, cells_at (fun r hr => hs r (by simp [hr])) i (by simpa using hi) j hj]
    simp
theorem load36_row {w : World} {n : Nat} {v : Value} {rs : List (Array Value)} (h : RowAt w 36 v n (cellsOf rs)) (hs : ∀ r ∈ rs, r.size = 36) (i : Nat) (hi : i < rs.length) : ∃ b o c, v = .slice (some ⟨b, o, none⟩) n c ∧ n ≤ c ∧ c ≤ maxLen ∧ ∀ P : Program, Sem.run P (load36 ⟨b, o + i * 36, none⟩) w = .ok rs[i] w := by
  obtain ⟨_, a, c, rfl, g1, g2, _, _, g4⟩ := h
  have hs36 := hs rs[i] (List.getElem_mem hi)
  have h0 := cells_at hs i hi 0 (by omega)
  obtain ⟨u0, hu0⟩ : ∃ u, rs[i].toList[0]? = some u := ⟨rs[i].toList[0]'(by simp; omega), List.getElem?_eq_getElem _⟩
  rw [hu0] at h0
  obtain ⟨b, o, rfl, _⟩ := g4 _ _ h0
  refine ⟨b, o, c, rfl, g1, g2, fun P => load36_at hs36 fun j u hu => ?_⟩
  have hj : j < 36 := by
    have := (List.getElem?_eq_some_iff.1 hu).1
    simp at this; omega
  have h1 := cells_at hs i hi j hj
  rw [hu] at h1
  obtain ⟨b', o', hb', hc'⟩ := g4 _ _ h1
  cases hb'
  rw [Nat.add_assoc]
  exact hc'
end
end Go.Proofs.YtcbglcebdkpcfaaGreat

namespace Go.Proofs.YtcbglcebdkpcfaaGreat
section
open Go.RowKit
set_option maxRecDepth 100000
set_option linter.unusedVariables false

def Fk (b : List UInt8) (k : Nat) : List (List UInt8) × Option (List UInt8) := feedF 1000 (k + 1) (b.take k)
theorem Fk_len (b : List UInt8) (k : Nat) (hk : k ≤ b.length) : (Fk b k).1.length + ((Fk b k).2.getD []).length ≤ k := by
  have := (feedF_len (most := 1000) (k + 1) (b.take k)).1
  rw [List.length_take, Nat.min_eq_left hk] at this
  exact this
theorem Fk_succ (b : List UInt8) (k : Nat) (hk : k < b.length) : Fk b (k + 1) = thenF 1000 (Fk b k) [b[k]] := by
  unfold Fk
  rw [List.take_succ_eq_append_getElem hk]
  exact feedF_app [b[k]] (k + 1) (k + 1 + 1) (b.take k) (by simp; omega) (by simp; omega)
theorem Fk_all (b : List UInt8) : Fk b b.length = feedF 1000 (([] ++ b).length + 1) ([] ++ b) := by
  unfold Fk
  rw [List.take_length, List.nil_append]
theorem asks_le (xs : List Nat) (L : List (List UInt8)) : (asksB xs L).length ≤ L.length ∧ (outsB xs L).length ≤ L.length := by
  have := bodies_len L xs
  omega
theorem asks_known : ∀ (L : List (List UInt8)) (xs : List Nat) (m : M), m ∈ asksB xs L → knownT m.ty = true
  | [], _, _, h => by cases h
  | b :: L, xs, m, h => by
    rcases List.mem_append.1 h with h | h
    · unfold ask1 at h
      split at h
      · rename_i h0
        rw [List.mem_singleton] at h
        subst h
        have hM : isM b = true := by
          unfold bodyE at h0
          by_cases e : isM b = true
          · exact e
          · rw [if_neg e] at h0; cases h0
        have h1 : (decM b).ty = (headM b).ty := (insq_ty _ _ _).1
        rw [h1]
        unfold isM at hM
        simp only [Bool.and_eq_true] at hM
        exact hM.1.1.2
      · cases h
    · exact asks_known L (bodyT xs b) m h
theorem asks_one {w : World} {B : Nat} {F : Nat → Prop} : ∀ {asks : List M} {rs : List (Array Value)}, All2 (AskF w B F) asks rs → ∀ u ∈ cellsOf rs, u.oneCell' = true
  | [], [], _, u, hu => by cases hu
  | m :: asks, r :: rs, ⟨h1, h2⟩, u, hu => by
    rcases List.mem_append.1 (show u ∈ r.toList ++ cellsOf rs from hu) with hu | hu
    · obtain ⟨_, hv, _, ho⟩ := h1.2.1.cells
      cases hv
      exact Array.all_eq_true_iff_forall_mem.1 ho u (Array.mem_toList_iff.1 hu)
    · exact asks_one h2 u hu
  | [], _ :: _, h, _, _ => h.elim
  | _ :: _, [], h, _, _ => h.elim
theorem asks_blk {w : World} {B : Nat} {F : Nat → Prop} : ∀ {asks : List M} {rs : List (Array Value)}, All2 (AskF w B F) asks rs → ∀ u ∈ cellsOf rs, ∀ j, u.ownBlock = some j → j < w.heap.size ∧ F j
  | [], [], _, u, hu => by cases hu
  | m :: asks, r :: rs, ⟨h1, h2⟩, u, hu => by
    rcases List.mem_append.1 (show u ∈ r.toList ++ cellsOf rs from hu) with hu | hu
    · exact fun j hj => ⟨(h1.2.1.blk u hu j hj).2, h1.2.2 u hu j hj⟩
    · exact asks_blk h2 u hu
  | [], _ :: _, h, _, _ => h.elim
  | _ :: _, [], h, _, _ => h.elim
theorem asks_36 {w : World} {B : Nat} {F : Nat → Prop} {asks : List M} {rs : List (Array Value)} (h : All2 (AskF w B F) asks rs) : ∀ r ∈ rs, r.size = 36 := fun r hr => by
  obtain ⟨m, _, hm⟩ := h.mem hr
  exact hm.1
theorem outs_blk {w : World} {B : Nat} {F : Nat → Prop} {outs : List (List UInt8)} {vs : List Value} (h : All2 (OutF w B F) outs vs) : ∀ u ∈ vs, u.oneCell' = true ∧ ∀ j, u.ownBlock = some j → j < w.heap.size ∧ F j := fun u hu => by
  obtain ⟨l, _, h1, h2⟩ := h.mem hu
  obtain ⟨a, c, rfl, _⟩ := h1.form
  exact ⟨rfl, fun j hj => ⟨h1.lt hj, (h2 j hj).2⟩⟩
theorem load36_rows {w : World} {n : Nat} {v : Value} {rs : List (Array Value)} (h : RowAt w 36 v n (cellsOf rs)) (hs : ∀ r ∈ rs, r.size = 36) (i : Nat) (hi : i < rs.length) : ∃ b o c, v = .slice (some ⟨b, o, none⟩) n c ∧ ∀ Z, Below w.heap.size w Z → Sem.run Tryz.prog (load36 ⟨b, o + i * 36, none⟩) Z = .ok rs[i] Z := by
  obtain ⟨b, o, c, rfl, _, _, _⟩ := load36_row h hs i hi
  refine ⟨b, o, c, rfl, fun Z hZ => ?_⟩
  obtain ⟨b', o', c', he, _, _, h2⟩ := load36_row (h.below hZ) hs i hi
  cases he
  exact h2 _
theorem same_asks {w : World} {B B' : Nat} {F F' : Nat → Prop} {m : M} {r r' : Array Value} (h : AskF w B F m r) (h' : AskF w B' F' m r') (hk : knownT m.ty = true) : ∀ Z, Below w.heap.size w Z → Calls Tryz.prog 13 #[.agg r, .agg r'] Z (TestPost Z true) := fun Z hZ => by
  obtain ⟨vN, vQ, vD, hv, hN, hQ, hD⟩ := h.2.1
  obtain ⟨vN', vQ', vD', hv', hN', hQ', hD'⟩ := h'.2.1
  cases hv
  cases hv'
  exact same_self hk ⟨RowAt.below hN.1 hZ, RowAt.below hQ.1 hZ, hD.1.below hZ⟩ ⟨RowAt.below hN'.1 hZ, RowAt.below hQ'.1 hZ, hD'.1.below hZ⟩
theorem out_rows {w : World} {B : Nat} {F : Nat → Prop} {v : Value} {ls : List (List UInt8)} {vs : List Value} (h : RowAt w 1 v ls.length vs) (ha : All2 (OutF w B F) ls vs) (i : Nat) (hi : i < ls.length) : ∃ b o c a n k, v = .slice (some ⟨b, o, none⟩) ls.length c ∧ ∀ Z, Below w.heap.size w Z → Z.cell? ⟨b, o + i, none⟩ = some (.slice a n k) ∧ (convert 29 9 (.slice a n k)).run Tryz.prog Z = .ok (.string (strL ls[i])) Z := by
  have hiv : i < vs.length := by rw [← ha.len]; exact hi
  obtain ⟨hb, _⟩ := ha.get i hi hiv
  obtain ⟨a, k, hu, _, _⟩ := hb.form
  have h1' : ∀ Z, Below w.heap.size w Z → RowAt Z 1 v ls.length vs := fun Z hZ => h.below hZ
  obtain ⟨_, ar, c, rfl, g1, g2, _, _, g4⟩ := h
  obtain ⟨b, o, rfl, _⟩ := g4 i _ (List.getElem?_eq_getElem hiv)
  refine ⟨b, o, c, a, ls[i].length, k, rfl, fun Z hZ => ⟨?_, ?_⟩⟩
  · obtain ⟨_, a', c', hv', _, _, _, _, g4'⟩ := h1' Z hZ
    cases hv'
    obtain ⟨b', o', hb', hc'⟩ := g4' i _ (List.getElem?_eq_getElem hiv)
    cases hb'
    rw [← hu]
    exact hc'
  · rw [← hu]
    exact conv_string _ _ _ (hb.below hZ)
def EachP (H wr : World) (n2 : Nat) (b : List UInt8) (k : Nat) (vm vp : Value) (asks : List M) (outs : List (List UInt8)) (rs : List (Array Value)) (vs : List Value) (e : Ending) (w' : World) : Prop :=
  ∃ va vo hv' tv' askN outN, e = .returned (.tuple #[va, vo]) ∧ EB H w' n2 hv' tv' ((Fk b (k + 1)).2.getD []) (Fk b (k + 1)).2.isNone (tagsB [] (Fk b (k + 1)).1) vm vp asks outs rs vs ∧ MsgsAt w' va askN H.heap.size (FarV tv' vm vp) ∧ OutsAt w' vo outN H.heap.size (FarV tv' vm vp) ∧ asksB [] (Fk b (k + 1)).1 = asksB [] (Fk b k).1 ++ askN ∧ outsB [] (Fk b (k + 1)).1 = outsB [] (Fk b k).1 ++ outN
theorem each_feed {H wr : World} {n2 k : Nat} {b : List UInt8} {hv tv vm vp v : Value} {asks : List M} {outs : List (List UInt8)} {rs : List (Array Value)} {vs : List Value} (h : EB H wr n2 hv tv ((Fk b k).2.getD []) (Fk b k).2.isNone (tagsB [] (Fk b k).1) vm vp asks outs rs vs) (hk : k < b.length) (hb : BytesAt wr v [b[k]]) (hl : b.length ≤ 500) :
    Calls Tryz.prog 7 #[.pointer (some ⟨n2 + 2, 0, none⟩), v, .int .i64 1000] wr (EachP H wr n2 b k vm vp asks outs rs vs) := by
  have hs := Fk_succ b k hk
  have hlen := Fk_len b k (by omega)
  unfold EachP
  cases hF : (Fk b k).2 with
  | none =>
    have e1 : Fk b (k + 1) = Fk b k := by
      rw [hs]; unfold thenF; rw [hF]; exact Prod.ext rfl hF.symm
    rw [hF] at h
    refine (cfeed_shut wr n2 _ _ v 1000 h.road.blk).mono ?_
    rintro e w' ⟨rfl, rfl⟩
    rw [e1, hF]
    exact ⟨_, _, hv, tv, [], [], rfl, h, MsgsAt.nil, OutsAt.nil, by simp, by simp⟩
  | some l =>
    have e1 : Fk b (k + 1) = ((Fk b k).1 ++ (feedF 1000 ((l ++ [b[k]]).length + 1) (l ++ [b[k]])).1, (feedF 1000 ((l ++ [b[k]]).length + 1) (l ++ [b[k]])).2) := by
      rw [hs]; unfold thenF; rw [hF]
    rw [hF] at h hlen
    simp only [Option.getD_some] at hlen
    refine (cfeed_any wr n2 hv tv v l [b[k]] (tagsB [] (Fk b k).1) 1000 h.road (tagsB_len _ [] (by decide)) hb (by simp; omega) (by omega)).mono ?_
    intro e w' hP
    obtain ⟨va, vo, hv', tv', he, hE, hM, hO⟩ := h.feed hP
    rw [e1]
    refine ⟨va, vo, hv', tv', _, _, he, by rw [tagsB_app]; exact hE, hM.keep (Nat.le_refl _) (fun j _ _ h3 => ⟨rfl, h3⟩) h.oth.size, hO.keep (Nat.le_refl _) (fun j _ _ h3 => ⟨rfl, h3⟩) h.oth.size, ?_, ?_⟩
    · exact asksB_app _ _ _
    · exact outsB_app _ _ _
theorem EB.start {H : World} {n2 : Nat} {l : List UInt8} {xs : List Nat} (h : RoadS H n2 (.slice none 0 0) (.slice none 0 0) l false xs false) : EB H H n2 (.slice none 0 0) (.slice none 0 0) l false xs (.slice none 0 0) (.slice none 0 0) [] [] [] [] :=
  ⟨⟨Nat.le_refl _, fun _ _ _ => rfl, fun _ _ _ => Below.refl _ _⟩, h, fun j hj => (by cases hj), fun j hj => (by cases hj), RowV.nil _ _ _ _, RowV.nil _ _ _ _, trivial, trivial, fun j hj => (by cases hj), fun j hj => (by cases hj), lt_of_block h.blk⟩
theorem RoadS.kept {w w' : World} {n : Nat} {hv tv : Value} {l : List UInt8} {dead cl : Bool} {xs : List Nat} (h : RoadS w n hv tv l dead xs cl) (hs : w.heap.size ≤ w'.heap.size) (hk : ∀ j, n ≤ j → j < w.heap.size → w'.heap[j]? = w.heap[j]?) : RoadS w' n hv tv l dead xs cl := by
  have hn := lt_of_block h.blk
  exact ⟨(hk _ (by omega) hn).trans h.blk, ⟨(hk n (Nat.le_refl _) (by omega)).trans h.str.blk, RowAt.other h.str.row hs (fun j hj => hk j (by have := (h.hrow j hj).1; omega) (h.str.row.lt hj)), h.str.own⟩, h.tab.other (fun j hj => hk j (by rcases hj with rfl | hj; omega; have := h.trow j hj; omega) (by rcases hj with rfl | hj; omega; exact (h.tab.row hj).2)), h.hrow, h.trow⟩
end
end Go.Proofs.YtcbglcebdkpcfaaGreat

namespace Go.Proofs.YtcbglcebdkpcfaaGreat
section
open Go.RowKit
set_option maxRecDepth 100000
set_option linter.unusedVariables false

attribute [local go_sem ↓] load36_eq
set_option maxHeartbeats 6400000 in
theorem law_ConnEach (bv : Value) (b : List UInt8) (w : World) (hb : BytesAt w bv b) : Calls Tryz.prog 4 #[bv] w (Holds w) := by
  obtain ⟨ab, cb, rfl, hb1, hb2, _⟩ := hb.form
  have hk := hid (known24_any w)
  replace hb := hid hb
  unfold maxLen at hb2
  by_cases h5 : 500 < b.length
  · have h5' : (500 : Int) < (b.length : Int) := by omega
    go_enter Tryz.func4, Tryz.ntmps4
    go_wp2_with fail
    refine hk.out.mono ?_
    rintro e w1 ⟨rfl, hw1⟩
    replace hw1 := hid hw1
    go_wp2_with fail
    go_ret
    exact ⟨rfl, hw1.out⟩
  have h5' : ¬ ((500 : Int) < (b.length : Int)) := by omega
  have hc1 := hid (fun W => cnew_any W)
  go_enter Tryz.func4, Tryz.ntmps4
  go_wp2_with fail
  refine hk.out.mono ?_
  rintro e w1 ⟨rfl, hw1⟩
  replace hw1 := hid hw1
  go_wp2_with fail
  refine (hc1.out _).mono ?_
  rintro e w2 ⟨rfl, hw2⟩
  obtain ⟨hr1, hb12⟩ := newRoad_s w1
  rw [← hw2] at hr1 hb12
  have hz2 : w2.heap.size = w1.heap.size + 3 := by rw [hw2]; simp [newRoad]
  replace hw2 := hid hw2
  replace hr1 := hid hr1
  replace hz2 := hid hz2
  go_wp2_with fail
  refine (hc1.out _).mono ?_
  rintro e w3 ⟨rfl, hw3⟩
  obtain ⟨hr2, hb23⟩ := newRoad_s w2
  rw [← hw3] at hr2 hb23
  have hz3 : w3.heap.size = w2.heap.size + 3 := by rw [hw3]; simp [newRoad]
  have hB3 := sn hw1.out (sn hb12 hb23)
  have hcf := hid (cfeed_any w3 w1.heap.size _ _ _ [] b [] 1000 (hr1.out.below hb23) (by decide) (hb.out.below hB3) (by simp; omega) (by omega))
  rw [← Fk_all] at hcf
  replace hB3 := hid hB3
  replace hr2 := hid hr2
  replace hz3 := hid hz3
  replace hw3 := hid hw3
  clear hc1 hr1 hb12 hb23
  go_wp2_with fail
  refine hcf.out.mono ?_
  rintro e w4 ⟨va, vo, hvc, tvc, rfl, hM4, hO4, hR4, ht4, _, ho4⟩
  have hr4 : RoadS w4 w2.heap.size (.slice none 0 0) (.slice none 0 0) [] false [] false := hr2.out.kept ho4.size (fun j h1 h2 => ho4.keep j h2 (by have := hz2.out; rintro (e | e); omega; cases e))
  have hE0 := hid (EB.start hr4)
  have hB4 := hid (hB3.out.trans (ho4.below w.heap.size hB3.out.size (fun j hj => by have := hw1.out.size; rcases hj with e | e; omega; cases e)))
  obtain ⟨n2, hn2⟩ : ∃ n, n = w2.heap.size := ⟨_, rfl⟩
  rw [← hn2] at hr4 hE0 hz2 hz3
  replace hM4 := hid hM4
  replace hO4 := hid hO4
  replace hR4 := hid hR4
  clear hcf ht4 ho4 hr4 hr2
  obtain ⟨ba, hba⟩ : ∃ L, L = asksB [] (Fk b b.length).1 := ⟨_, rfl⟩
  obtain ⟨bo, hbo⟩ : ∃ L, L = outsB [] (Fk b b.length).1 := ⟨_, rfl⟩
  rw [← hba] at hM4
  rw [← hbo] at hO4
  obtain ⟨rsC, hM41, hM42, hM43⟩ := hM4.out
  obtain ⟨vsC, hO41, hO42, hO43⟩ := hO4.out
  have hM41' := hM41
  have hO41' := hO41
  obtain ⟨q1, aA, cA, rfl, gA1, gA2, p1⟩ := hM41'
  obtain ⟨q2, aO, cO, rfl, gO1, gO2, p2⟩ := hO41'
  clear q1 p1 q2 p2 hM4 hO4
  replace hM41 := hid hM41
  replace hM42 := hid hM42
  replace hM43 := hid hM43
  replace hO41 := hid hO41
  replace hO42 := hid hO42
  replace hO43 := hid hO43
  replace hba := hid hba
  replace hbo := hid hbo
  go_wp2_with (rw [← hn2])
  try rw [← hn2]
  replace hn2 := hid hn2
  have hBw := hid (show w.heap.size ≤ n2 by have := hw1.out.size; have := hz2.out; omega)
  go_loopw [7, 8, 9] (fun s7 s8 s9 wr => ∃ (k : Nat) (hv tv : Value) (rs : List (Array Value)) (vs : List Value), k ≤ b.length ∧ s9 = .int .i64 (k : Int) ∧ Hid (EB w4 wr n2 hv tv ((Fk b k).2.getD []) (Fk b k).2.isNone (tagsB [] (Fk b k).1) s7 s8 (asksB [] (Fk b k).1) (outsB [] (Fk b k).1) rs vs)) (fun _ _ s9 _ => b.length - (intOf s9).toNat)
  case atStart => exact ⟨0, _, _, [], [], by omega, rfl, hE0⟩
  case round =>
    obtain ⟨k, hv, tv, rs, vs, hk0, rfl, hE⟩ := hrel
    obtain ⟨am, cm, rfl⟩ := hE.out.rm.form
    obtain ⟨ap, cp, rfl⟩ := hE.out.rp.form
    by_cases hkl : k < b.length
    · have hBr := hid (hB4.out.trans (hE.out.oth.below w.heap.size hB4.out.size (fun j hj => by have := hBw.out; omega)))
      have hkB := hb.out.below hBr.out
      obtain ⟨bb, oo, ha, _⟩ := hkB.cell k hkl
      subst ha
      have hpc : BytesAt wr (.slice (some ⟨bb, oo + k, none⟩) 1 (cb - k)) [b[k]] := by
        have h := (hkB.drop1 k (by omega)).take 1 (cb - k) (by simp; omega) (by omega) (Nat.le_refl _)
        rw [show (b.drop k).take 1 = [b[k]] by rw [List.drop_eq_getElem_cons hkl]; rfl] at h
        simpa [add_plain'] using h
      have hf := hid (each_feed hE.out hkl hpc (by omega))
      have hk1 : IntKind.i64.wrap ((k : Int) + 1) = (k : Int) + 1 := IntWalk.i64_in _ (by omega)
      have hle := asks_le [] (Fk b (k + 1)).1
      have hle2 := Fk_len b (k + 1) (by omega)
      clear hpc hkB
      go_upto_region 14 with fail
      refine hf.out.mono ?_
      rintro e w5 ⟨va', vo', hv', tv', askN, outN, rfl, hE1, ⟨rsN, m1, m2, m3⟩, ⟨vsN, o1, o2, o3⟩, hA1, hO1⟩
      rw [hA1, hO1, List.length_append, List.length_append] at hle
      have m1' := m1
      obtain ⟨q1, an, cn, rfl, _, _, p1⟩ := m1'
      have o1' := o1
      obtain ⟨q2, bn, dn, rfl, _, _, p2⟩ := o1'
      clear q1 p1 q2 p2 hf
      obtain ⟨bM, hbM, hEM⟩ := elemM
      have hEb := hid (fun (k : Nat) (hk : k ≤ 2000000) => (Nat.le_trans (Nat.mul_le_mul hk hbM) (by omega) : k * bM ≤ 140737488355328))
      replace hEM := hid hEM
      replace hE1 := hid hE1
      replace m1 := hid m1
      replace m3 := hid m3
      replace o1 := hid o1
      replace o2 := hid o2
      replace o3 := hid o3
      replace hA1 := hid hA1
      replace hO1 := hid hO1
      go_upto_region 15 with (at_builtin; refine wpList_pushK hEM.out _ rfl (.tmp 43) (.tmp 44) rfl rfl rfl hE1.out.rm m1.out (asks_one m3.out) (fun u hu j hj => ⟨(asks_blk m3.out u hu j hj).1, (asks_blk m3.out u hu j hj).2.2.1⟩) (by unfold maxLen; omega) (hEb.out _ (by omega)) hE1.out.oth.size (fun a' c' w6 h2 h3 => ?_))
      have hE2 := hid (hE1.out.pushM (Nat.le_refl _) m3.out h3 h2)
      have o1' := hid (RowAt.other o1.out h3.size (fun j hj => h3.keep j (RowAt.blk o1.out hj) ((o2.out j hj).2.2.1)))
      have o3' : All2 (OutF w6 w4.heap.size (FarV tv' (.slice a' ((asksB [] (Fk b k).1).length + askN.length) c') (.slice ap (outsB [] (Fk b k).1).length cp))) outN vsN := o3.out.imp fun l u hu => hu.keep h3.size (fun j _ h2' h3' => ⟨h3.keep j h2' h3'.2.1, h3'.1, h3.apart j h2' h3'.2.1, h3'.2.2⟩) (Nat.le_refl _)
      replace o3' := hid o3'
      clear h2 h3 hE1 m1 m3 o1 o2 o3
      go_wp2_with (at_builtin; refine wpList_pushK elemB _ rfl (.tmp 46) (.tmp 47) rfl rfl rfl hE2.out.rp o1'.out (fun u hu => (outs_blk o3'.out u hu).1) (fun u hu j hj => ⟨((outs_blk o3'.out u hu).2 j hj).1, ((outs_blk o3'.out u hu).2 j hj).2.2.2⟩) (by unfold maxLen; omega) (by omega) hE2.out.oth.size (fun a2 c2 w7 h2 h3 => ?_))
      have hE3 := hid (hE2.out.pushP (Nat.le_refl _) o3'.out h3 h2)
      clear h2 h3 hE2 o1' o3'
      go_wp2_with fail
      go_roundw
      case rel => exact ⟨k + 1, hv', tv', rs ++ rsN, vs ++ vsN, by omega, by go_num, hid (by rw [hA1.out, hO1.out]; exact hE3.out)⟩
      case measure => simp [intOf]; omega
    · obtain rfl : k = b.length := by omega
      obtain ⟨wL, rfl⟩ : ∃ z, z = wr := ⟨_, rfl⟩
      have ht12 := hE.out.road.blk
      have hz4 := hE.out.oth.size
      have hcB : wL.heap[w1.heap.size + 2]? = w4.heap[w1.heap.size + 2]? := hE.out.oth.keep _ (lt_of_block hR4.out.blk) (by have := hz2.out; omega)
      have q1 := hid (closed_any wL w1.heap.size _ _ _ (hcB.trans hR4.out.blk))
      have q2 := hid (closed_any wL n2 _ _ _ ht12)
      have hBL := hid (hB4.out.trans (hE.out.oth.below w.heap.size hB4.out.size (fun j hj => by have := hBw.out; omega)))
      have hkk : ∀ j, w3.heap.size ≤ j → j < w4.heap.size → wL.heap[j]? = w4.heap[j]? := fun j h1 h2 => hE.out.oth.keep j h2 (by have := hz3.out; omega)
      have hRc := hid (RowAt.other hM41.out hz4 (fun j hj => hkk j (hM42.out j hj).1 (RowAt.blk hM41.out hj)))
      have hAc : All2 (AskF wL w3.heap.size (fun _ => True)) ba rsC := hM43.out.imp fun m u hu => hu.keep hz4 (fun j h1 h2 _ => ⟨hkk j h1 h2, trivial⟩) (Nat.le_refl _)
      have hRo := hid (RowAt.other hO41.out hz4 (fun j hj => hkk j (hO42.out j hj).1 (RowAt.blk hO41.out hj)))
      have hAo : All2 (OutF wL w3.heap.size (fun _ => True)) bo vsC := hO43.out.imp fun m u hu => hu.keep hz4 (fun j h1 h2 _ => ⟨hkk j h1 h2, trivial⟩) (Nat.le_refl _)
      have hbl := asks_le [] (Fk b b.length).1
      have hbl2 := Fk_len b b.length (Nat.le_refl _)
      rw [← hba.out, ← hbo.out] at hbl
      have hbl3 : ba.length ≤ 500 ∧ bo.length ≤ 500 := by omega
      clear hbl hbl2
      have hkn := hid (fun m hm => asks_known (Fk b b.length).1 [] m hm)
      rw [← hba.out] at hkn
      rw [← hba.out, ← hbo.out] at hE ⊢
      have hRm := hid hE.out.rm.at
      have hAm := hid hE.out.am
      have hRp := hid hE.out.rp.at
      have hAp := hid hE.out.ap
      replace hAc := hid hAc
      replace hAo := hid hAo
      generalize (Fk b b.length).2.isNone = dead at *
      clear hE ht12 hcB hkk hR4 hM41 hM42 hM43 hO41 hO42 hO43 hE0 hba hbo hB4 hB3 hw3 hz3
      go_wp2_with fail
      refine q1.out.mono ?_
      rintro e w8 ⟨rfl, hw8⟩
      obtain rfl := hw8.symm
      go_wp2_with fail
      refine q2.out.mono ?_
      rintro e w9 ⟨rfl, hw9⟩
      obtain rfl := hw9.symm
      clear q1 q2
      have hdd : (dead != dead) = false := by cases dead <;> rfl
      go_wp2_with fail
      go_loopw [12] (fun s12 wr => ∃ i : Nat, i ≤ ba.length ∧ s12 = .int .i64 (i : Int) ∧ Hid (Below wL.heap.size wL wr)) (fun s12 _ => ba.length - (intOf s12).toNat)
      case atStart => exact ⟨0, by omega, rfl, hid (Below.refl _ _)⟩
      case round =>
        obtain ⟨i, hi0, rfl, hBr⟩ := hrel
        by_cases hi : i < ba.length
        · obtain ⟨b1, o1, c1, e1, L1⟩ := load36_rows hRc.out (asks_36 hAc.out) i (by rw [← hAc.out.len]; exact hi)
          cases e1
          obtain ⟨b2, o2, c2, e2, L2⟩ := load36_rows hRm.out (asks_36 hAm.out) i (by rw [← hAm.out.len]; exact hi)
          cases e2
          have hs := same_asks (hAc.out.get i hi (by rw [← hAc.out.len]; exact hi)) (hAm.out.get i hi (by rw [← hAm.out.len]; exact hi)) (hkn.out _ (List.getElem_mem hi))
          generalize rsC[i]'(by rw [← hAc.out.len]; exact hi) = r1 at *
          generalize rs[i]'(by rw [← hAm.out.len]; exact hi) = r2 at *
          replace L1 := hid L1
          replace L2 := hid L2
          replace hs := hid hs
          have hb0 := hid (hBr.out.drew)
          have i1 : (0 : Int) ≤ (i : Int) := by omega
          have i2 : (i : Int) ≤ (ba.length : Int) := by omega
          have hww : IntKind.i64.wrap ((i : Int) + 1) = (i : Int) + 1 := IntWalk.i64_in _ (by omega)
          go_upto_region 21 with fail
          go_cut [83] from 74 to 83 (fun s83 wx => s83 = .bool false ∧ Hid (Below wL.heap.size wL wx))
          case first =>
            go_region_held3 (fun Z => Sem.run Tryz.prog (load36 ⟨b1, o1 + i * 36, none⟩) Z = .ok r1 Z ∧ Sem.run Tryz.prog (load36 ⟨b2, o2 + i * 36, none⟩) Z = .ok r2 Z)
              (first | exact ⟨L1.out _ hb0.out, L2.out _ hb0.out⟩ | go_keep)
              (first | (go_at_call 13; (with_reducible refine (hs.out _ hb0.out).mono ?_); rintro e w10 ⟨rfl, hb10⟩; replace hb0 := hid (sn hb0.out hb10)))
            all_goals
              go_wp2_with fail
              go_meet
              exact ⟨rfl, hb0⟩
          case rest =>
            obtain ⟨rfl, hBx⟩ := hcut
            go_wp2_with fail
            go_roundw
            case rel => exact ⟨i + 1, by omega, by go_num, hBx⟩
            case measure => simp [intOf]; omega
        · obtain rfl : i = ba.length := by omega
          obtain ⟨wM, rfl⟩ : ∃ z, z = wr := ⟨_, rfl⟩
          go_wp2_with fail
          go_loopw [13] (fun s13 wr => ∃ i : Nat, i ≤ bo.length ∧ s13 = .int .i64 (i : Int) ∧ Hid (Below wL.heap.size wL wr)) (fun s13 _ => bo.length - (intOf s13).toNat)
          case atStart => exact ⟨0, by omega, rfl, hBr⟩
          case round =>
            obtain ⟨i, hi1, rfl, hBi⟩ := hrel
            by_cases hio : i < bo.length
            · obtain ⟨b1, o1, c1, x1, y1, z1, e1, L1⟩ := out_rows hRo.out hAo.out i hio
              cases e1
              obtain ⟨b2, o2, c2, x2, y2, z2, e2, L2⟩ := out_rows hRp.out hAp.out i hio
              cases e2
              generalize strL bo[i] = st at *
              have hb0 := hid (hBi.out.drew)
              have l1 := L1 _ hb0.out
              have l2 := L2 _ hb0.out
              obtain ⟨l1a, l1b⟩ := l1
              obtain ⟨l2a, l2b⟩ := l2
              replace L1 := hid L1
              replace L2 := hid L2
              have i1 : (0 : Int) ≤ (i : Int) := by omega
              have i2 : (i : Int) ≤ (bo.length : Int) := by omega
              have hww : IntKind.i64.wrap ((i : Int) + 1) = (i : Int) + 1 := IntWalk.i64_in _ (by omega)
              go_upto_region 26 with fail
              go_cut [100] from 90 to 100 (fun s100 wx => s100 = .bool false ∧ Hid (Below wL.heap.size wL wx))
              case first =>
                go_region_held3 (fun Z => Z.cell? ⟨b1, o1 + i, none⟩ = some (.slice x1 y1 z1) ∧ (convert 29 9 (.slice x1 y1 z1)).run Tryz.prog Z = .ok (.string st) Z ∧ Z.cell? ⟨b2, o2 + i, none⟩ = some (.slice x2 y2 z2) ∧ (convert 29 9 (.slice x2 y2 z2)).run Tryz.prog Z = .ok (.string st) Z)
                  (first | exact ⟨l1a, l1b, l2a, l2b⟩ | go_keep)
                  (fail)
                all_goals
                  go_wp2_with fail
                  go_meet
                  exact ⟨rfl, hb0⟩
              case rest =>
                obtain ⟨rfl, hBx⟩ := hcut
                clear l1a l1b l2a l2b
                go_wp2_with fail
                go_roundw
                case rel => exact ⟨i + 1, by omega, by go_num, hBx⟩
                case measure => simp [intOf]; omega
            · obtain rfl : i = bo.length := by omega
              have hfin := hid (hBL.out.trans (hBi.out.mono hBL.out.size))
              go_wp2_with fail
              go_ret
              exact ⟨rfl, hfin.out⟩
end
end Go.Proofs.YtcbglcebdkpcfaaGreat

namespace Go.Proofs.YtcbglcebdkpcfaaGreat
section
open Go.ChangeShapes Go.WideShapes Go.ChangeAt Go.RowKit
set_option maxRecDepth 100000

theorem okWide_addr {w : World} {r : Reach} {base : Nat} {t e : TypeId} {ad : Addr} {len cap : Nat} (ht : Tryz.prog.underlying t = some (.slice e)) (h : Value.okWide Tryz.prog w r base t (.slice (some ad) len cap)) :
    ad.spot = none ∧ ad.block < w.heap.size ∧ len ≤ cap ∧ cap ≤ maxLen := by
  simp only [Value.okWide, ht, Cell.okWide, Cell.ok, World.has] at h
  obtain ⟨h1, h2, h3, h4, row, cells, h5, h6⟩ := h
  refine ⟨h4, ?_, h1, by unfold maxLen; have : (cap : Int) ≤ 9223372036854775807 := h2; omega⟩
  unfold World.shape? at h5
  rcases Nat.lt_or_ge ad.block w.heap.size with hl | hl
  · exact hl
  · rw [Array.getElem?_eq_none hl] at h5; cases h5

theorem okWide_none {w : World} {r : Reach} {base : Nat} {t e : TypeId} {len cap : Nat} (ht : Tryz.prog.underlying t = some (.slice e)) (h : Value.okWide Tryz.prog w r base t (.slice none len cap)) : len = 0 ∧ cap = 0 := by
  simp only [Value.okWide, ht, Cell.okWide, Cell.ok] at h
  split at h <;> simp_all

theorem bytes_in {H : Type} {enc : TypeId × Value → H} {w : World} {r : Reach} {base : Nat} {a : Option Addr} {len cap : Nat} {held : Bool} {x : DataW H} {p : List MemPlace}
    (hv : Value.okWide Tryz.prog w r base 29 (.slice a len cap)) (h : DataW.Trod enc Tryz.prog w 0 (fun _ => true) held 29 (.slice a len cap) x p) : ∃ l, BytesAt w (.slice a len cap) l := by
  obtain ⟨fuel, hf⟩ := h
  cases a with
  | none =>
    obtain ⟨rfl, rfl⟩ := okWide_none Tryz.underlying29 hv
    exact ⟨[], RowAt.nil⟩
  | some ad =>
    obtain ⟨hs, hb, h1, h2⟩ := okWide_addr Tryz.underlying29 hv
    rcases open_ints Tryz.underlying29 Tryz.underlying5 (by kernel_rfl) hf with ⟨hcs, _⟩ | ⟨x, l, c, zs, hcs, _, hl, hm, hz, _, hcell, hwz⟩
    · simp [Value.cells] at hcs
    · simp [Value.cells] at hcs
      obtain ⟨rfl, rfl, rfl⟩ := hcs
      simp only [if_true] at hz
      have hlen : (zs.take len).length = len := by simp; omega
      refine ⟨(zs.take len).map fun n => UInt8.ofNat n.toNat, ?_⟩
      unfold BytesAt
      rw [List.length_map, hlen]
      refine ⟨by simp; omega, some ad, cap, rfl, h1, h2, fun h => (by cases h), fun _ h => (by cases h; exact ⟨hs, hb⟩), fun i u hu => ?_⟩
      obtain ⟨b, o, s⟩ := ad
      subst hs
      have hi : i < len := by have := (List.getElem?_eq_some_iff.1 hu).1; simp at this; omega
      have hiz : i < zs.length := by omega
      refine ⟨b, o, rfl, ?_⟩
      have hc := hcell i (by omega)
      rw [add_plain'] at hc
      rw [hc, ← hu]
      have hw := hwz zs[i] (List.getElem_mem hiz)
      have hbd : 0 ≤ zs[i] ∧ zs[i] ≤ 255 := by
        simp only [Lit.wf, Bool.and_eq_true, decide_eq_true_eq] at hw
        exact hw
      simp [byteV, List.getD, hiz, hi]
      omega
end
end Go.Proofs.YtcbglcebdkpcfaaGreat
