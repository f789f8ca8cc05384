/- Insertion into a list of nodes that is ascending by name: the list stays so. No condition. And the texts behind it. -/
import Derived.Test.YtpmlhmficmillaaBunSA
import Derived.Test.YtpmlhmficmillaaBunRX
import Derived.Test.YtpmlhmficmillaaRNd2Z
import Derived.Test.YtpmlhmficmillaaRNd1Z
import Derived.Test.YtpmlhmficmillaaBunRV
namespace Go.Proofs.Ytpmlhmficmillaa
section
open Go.RowKit
set_option maxRecDepth 100000
set_option linter.unusedVariables false

def insR (out : List Nod) (n : Nod) (k : Nat) : List Nod := out.take k ++ n :: out.drop k
theorem insR_perm (out : List Nod) (n : Nod) (k : Nat) : (insR out n k).Perm (out ++ [n]) := by
  unfold insR
  refine List.perm_middle.trans ?_
  rw [List.take_append_drop]
  exact (List.perm_append_comm (l₁ := [n]) (l₂ := out))
theorem insR_length (out : List Nod) (n : Nod) (k : Nat) : (insR out n k).length = out.length + 1 := by
  have := (insR_perm out n k).length_eq
  simpa using this
theorem leNP_of {a b : Nod} (h : leS a.name b.name = true) (hp : a.path ≤ b.path) : leNP a b = true := by
  unfold leNP; rw [h]; simp [hp]
theorem leNP_lt {a b : Nod} (h : leS b.name a.name = false) : leNP a b = true := by
  unfold leNP; rw [leS_ordr.total _ _ h, h]; rfl
theorem leNP_name {a b : Nod} (h : leNP a b = true) : leS a.name b.name = true := by
  unfold leNP at h; simp at h; exact h.1
theorem insR_srt {out : List Nod} {n : Nod} {k : Nat} (h : Srt leNP out) (hp : ∀ m ∈ out, m.path ≤ n.path) (h1 : 0 < k → ∀ m, out[k - 1]? = some m → leS m.name n.name = true) (h2 : ∀ j m, k ≤ j → out[j]? = some m → leS m.name n.name = false) (hk : k ≤ out.length) : Srt leNP (insR out n k) := by
  have hc : Srt leNP (out.take k ++ out.drop k) := by rw [List.take_append_drop]; exact h
  have ht : ∀ m ∈ out.take k, leS m.name n.name = true := fun m hm => by
    obtain ⟨j, hj, rfl⟩ := List.mem_iff_getElem.1 hm
    rw [List.length_take] at hj
    rw [List.getElem_take]
    by_cases he : j = k - 1
    · exact h1 (by omega) _ (List.getElem?_eq_some_iff.2 ⟨by omega, by simp [he]⟩)
    · have hlt : j < k - 1 := by omega
      have e1 := leNP_name (List.pairwise_iff_getElem.1 h j (k - 1) (by omega) (by omega) hlt)
      exact leS_ordr.trans _ _ _ e1 (h1 (by omega) _ (List.getElem?_eq_some_iff.2 ⟨by omega, rfl⟩))
  have hd : ∀ m ∈ out.drop k, leS m.name n.name = false := fun m hm => by
    obtain ⟨j, hj, rfl⟩ := List.mem_iff_getElem.1 hm
    rw [List.length_drop] at hj
    rw [List.getElem_drop]
    exact h2 (k + j) _ (by omega) (List.getElem?_eq_some_iff.2 ⟨by omega, rfl⟩)
  unfold insR
  refine Srt.app hc.left (List.pairwise_cons.2 ⟨fun m hm => leNP_lt (hd m hm), hc.right⟩) fun a ha b hb => ?_
  rcases List.mem_cons.1 hb with rfl | hb
  · exact leNP_of (ht a ha) (hp a (List.mem_of_mem_take ha))
  · exact hc.cross a ha b hb
end
end Go.Proofs.Ytpmlhmficmillaa

namespace Go.Proofs.Ytpmlhmficmillaa
section
open Go.RowKit
set_option maxRecDepth 100000
set_option linter.unusedVariables false

theorem own_monoK {w : World} {b b' e k n : Nat} {v : Value} {xs : List Value} (h : w.ownsRow b e k v n xs) (hb : b' ≤ b) : w.ownsRow b' e k v n xs := by
  refine ⟨h.1, ?_⟩
  rcases h.2 with h1 | ⟨g, c, cur, h1, h2, h3⟩
  · exact .inl h1
  · exact .inr ⟨g, c, cur, h1, Nat.le_trans hb h2, h3⟩
theorem range_below {w w' : World} {b f : Nat} {l : List Value} (h : w.rangeAt b f l) (hne : l ≠ []) (hb : Below w.heap.size w w') : w'.rangeAt b f l := fun j v hv => by
  have h1 := h j v hv
  have hlt := World.block_lt_of_cell? _ _ h1
  rw [show w'.cell? ⟨b, f + j, none⟩ = w.cell? ⟨b, f + j, none⟩ from by
    have := hb.block b hlt
    simp [World.cell?, this]]
  exact h1

noncomputable def ops_rk9 : Array Oper := match Try.f73.body with | some c => (allOps' c).getD 8 #[] | none => #[]
theorem size_rk9 : ops_rk9.size = 13 := by kernel_rfl
variable {w0 : World} {k : Nat} {acc : List Nod} {n : Nod} {Q : Exit → Act → World → Prop} {a : Act} {w : World} {fx : List (Nat × Value)} {listed : Array Bool}
theorem rk9_app {K : Act → World → Prop} {e0 oc : Nat} {oa : Option Addr} (hF : FrL 63 fx a) (h45 : fx.lookup 45 = some (.slice (some ⟨e0, 0, none⟩) 0 0)) (h48 : fx.lookup 48 = some (.slice oa k oc))
    (hown : w.ownsRow w0.heap.size 71 12 (.slice (some ⟨e0, 0, none⟩) 0 0) 0 []) (hsub : RowW w 12 (.slice oa k oc) k (nodsL (acc.take k))) (hS : Below w0.heap.size w0 w) (hk1 : k ≤ 1000)
    (hk : ∀ b a4 c4 w4, FrL 63 ((49, .slice a4 k c4) :: fx) b → w4.ownsRow w0.heap.size 71 12 (.slice a4 k c4) k (nodsL (acc.take k)) → w.grownBy w4 (some e0) → Below w0.heap.size w0 w4 → K b w4) : wpOp Try.prog ops_rk9 Q 4 K a w := by
  obtain ⟨i, z, hi, hz, hsize, hby, hzs⟩ := elemRN.hi
  obtain ⟨a4, c4, w4, hr4, ho4, hg4⟩ := run_append_weak (P := Try.prog) w w0.heap.size 30 30 71 i z 12 120 elemRN.ht hi hz hsize hby hzs (by omega) _ 0 [] hown _ k _ hsub (nodsL_one _) (by unfold maxLen; omega) (by omega) hS.size
  rw [Nat.zero_add, List.nil_append] at ho4
  rw [Nat.zero_add] at hr4
  refine hdo (i := 4) (o := ops_rk9[4]'(show 4 < ops_rk9.size by rw [size_rk9]; decide)) hF 49 (.slice a4 k c4) w4 (Array.getElem?_eq_getElem (show 4 < ops_rk9.size by rw [size_rk9]; decide)) (by kernel_rfl) (by decide) (want_n (by kernel_rfl)) (rrun_append (t := 30) (x := .tmp 45) (y := .tmp 48) (by kernel_rfl) (hF.ev 45 _ h45) (hF.ev 48 _ h48) hr4) (fun b hF => ?_)
  exact hk b a4 c4 w4 hF ho4 hg4 (hS.grown hg4 hS.size (fun j hj => (hown.lt j hj).1))
theorem rk9_fin {e c4 : Nat} {a4 : Option Addr} (hF : FrL 63 fx a) (h49 : fx.lookup 49 = some (.slice a4 k c4)) (h55 : fx.lookup 55 = some (.slice (some ⟨e, 0, none⟩) 1 1))
    (hown : w.ownsRow w0.heap.size 71 12 (.slice a4 k c4) k (nodsL (acc.take k))) (hn : w.heap[e]? = some (.cells n.cells 71 (0, 0))) (hS : Below w0.heap.size w0 w) (hk1 : k ≤ 1000)
    (r1 : Region.ready .any ops_rk9 listed = [11]) (r2 : (Region.ready .any ops_rk9 (listed.setIfInBounds 11 true)).contains 12 = true) (r3 : Region.free .any ops_rk9 (listed.setIfInBounds 11 true) 12 = true) (r4 : Region.ready .any ops_rk9 ((listed.setIfInBounds 11 true).setIfInBounds 12 true) = [])
    (hQ : ∀ d u c a w, Q (.panic c) (a.put d u) w → Q (.panic c) a w)
    (hE : ∀ a w' a8 c8, FrL 63 ((8, .slice a8 (k + 1) c8) :: (56, .slice a8 (k + 1) c8) :: fx) a → Below w0.heap.size w0 w' → w'.ownsRow w0.heap.size 71 12 (.slice a8 (k + 1) c8) (k + 1) (nodsL (acc.take k ++ [n])) → Q .normal a w') :
    wpAnyH Try.prog .any ops_rk9 Q (Below w0.heap.size w0) 2 listed a w := by
  obtain ⟨i, z, hi, hz, hsize, hby, hzs⟩ := elemRN.hi
  have hnn : NodsAt w (.slice (some ⟨e, 0, none⟩) 1 1) [n] := NodsAt.block (l := [n]) (t := 71) (fr := (0, 0)) (by rw [show (nodsL [n]).toArray = n.cells by simp [nodsL]]; exact hn) (by unfold maxLen; simp)
  obtain ⟨a8, c8, w8, hr8, ho8, hg8⟩ := run_append_weak (P := Try.prog) w w0.heap.size 30 30 71 i z 12 120 elemRN.ht hi hz hsize hby hzs (by omega) _ k _ hown _ 1 _ hnn (nodsL_one _) (by unfold maxLen; omega) (by omega) hS.size
  rw [← nodsL_append] at ho8
  have hS8 : Below w0.heap.size w0 w8 := hS.grown hg8 hS.size (fun j hj => (hown.lt j hj).1)
  refine wpAnyH_all (rs := [11]) r1 (by simp) fun j hj => ?_
  obtain rfl : j = 11 := by simpa using hj
  refine hdo (i := 11) (o := ops_rk9[11]'(show 11 < ops_rk9.size by rw [size_rk9]; decide)) hF 56 (.slice a8 (k + 1) c8) w8 (Array.getElem?_eq_getElem (show 11 < ops_rk9.size by rw [size_rk9]; decide)) (by kernel_rfl) (by decide) (want_n (by kernel_rfl)) (rrun_append (t := 30) (x := .tmp 49) (y := .tmp 55) (by kernel_rfl) (hF.ev 49 _ h49) (hF.ev 55 _ h55) hr8) (fun a hF => ?_)
  refine ⟨hS8, ?_⟩
  refine hst (i := 12) (o := ops_rk9[12]'(show 12 < ops_rk9.size by rw [size_rk9]; decide)) hF 8 true (.slice a8 (k + 1) c8) (Array.getElem?_eq_getElem (show 12 < ops_rk9.size by rw [size_rk9]; decide)) (by kernel_rfl) (by decide) (by kernel_rfl) r3 r2 (hQ _ _) (want_n (by kernel_rfl)) (fun hW w hS => rrun_move (x := .tmp 56) (.inr (by kernel_rfl)) (hF.ev 56 _ rfl)) hS8 (fun a hF => ?_)
  rw [show cond true (Value.slice a8 (k + 1) c8) undef = .slice a8 (k + 1) c8 from rfl] at hF
  exact wpAnyH_done r4 (hE _ _ _ _ hF hS8 ho8) _

set_option maxHeartbeats 4000000 in
theorem rk9_all {w0 : World} {g b f x c i k m oc : Nat} {oa : Option Addr} {l acc : List Nod} {n : Nod} {v0 v1 v3 v4 v62 : Value} {Q : Exit → Act → World → Prop} {a : Act} {w : World}
    (hbox0 : w0.heap[g]? = some (.cells #[.int .u64 (x : Int), .slice (some ⟨b, f, none⟩) l.length c] 32 (0, 0))) (hr0 : w0.rangeAt b (f + i * 12) n.cells.toList) (hil : i < l.length) (hl : l.length ≤ 1000)
    (hacc : NodsAt w0 (.slice oa m oc) acc) (hm : m = acc.length) (hm1 : m ≤ 1000) (hkm : k ≤ m) (hkc : k ≤ oc) (hoc : oc ≤ 9223372036854775807)
    (hQ : ∀ d u c a w, Q (.panic c) (a.put d u) w → Q (.panic c) a w) (hF : FrL 63 [(2, ptr g 0), (5, .slice oa m oc), (6, .int .i64 ((i : Nat) : Int)), (7, .int .i64 ((k : Nat) : Int)), (0, v0), (1, v1), (3, v3), (4, v4), (62, v62)] a) (hS : Below w0.heap.size w0 w)
    (hE : ∀ a w' a8 c8, FrL 63 ((8, .slice a8 (k + 1) c8) :: [(2, ptr g 0), (5, .slice oa m oc), (6, .int .i64 ((i : Nat) : Int)), (7, .int .i64 ((k : Nat) : Int)), (0, v0), (1, v1), (3, v3), (4, v4), (62, v62)]) a → Below w0.heap.size w0 w' → w'.ownsRow w0.heap.size 71 12 (.slice a8 (k + 1) c8) (k + 1) (nodsL (acc.take k ++ [n])) → Q .normal a w') :
    wpAnyH Try.prog .any ops_rk9 Q (Below w0.heap.size w0) 13 (Array.replicate 13 false) a w := by
  have hbox : ∀ w, Below w0.heap.size w0 w → w.heap[g]? = some (.cells #[.int .u64 (x : Int), .slice (some ⟨b, f, none⟩) l.length c] 32 (0, 0)) := fun w h => (h.block _ (lt_of_block hbox0)).trans hbox0
  have hel : ∀ w, Below w0.heap.size w0 w → w.rangeAt b (f + i * 12) n.cells.toList := fun w h => range_below hr0 (by rw [nod_cells]; simp) h
  have hsub : ∀ w, Below w0.heap.size w0 w → RowW w 12 (.slice oa k oc) k (nodsL (acc.take k)) := fun w h => by
    subst hm
    exact (hacc.below h).take hkm

  refine hst (i := 1) (o := ops_rk9[1]'(show 1 < ops_rk9.size by rw [size_rk9]; decide)) hF 46 true (.slice oa m oc) (Array.getElem?_eq_getElem (show 1 < ops_rk9.size by rw [size_rk9]; decide)) (by kernel_rfl) (by decide) (by kernel_rfl) (by kernel_rfl) (by kernel_rfl) (hQ _ _) (want_n (by kernel_rfl)) (fun hW w hS => rrun_move (x := .tmp 5) (.inl (by kernel_rfl)) (hF.ev 5 (.slice oa m oc) rfl)) hS (fun a hF => ?_)
  rw [show cond true (.slice oa m oc) undef = .slice oa m oc from rfl] at hF
  refine hst (i := 2) (o := ops_rk9[2]'(show 2 < ops_rk9.size by rw [size_rk9]; decide)) hF 47 true (.int .i64 ((k : Nat) : Int)) (Array.getElem?_eq_getElem (show 2 < ops_rk9.size by rw [size_rk9]; decide)) (by kernel_rfl) (by decide) (by kernel_rfl) (by kernel_rfl) (by kernel_rfl) (hQ _ _) (want_n (by kernel_rfl)) (fun hW w hS => rrun_move (x := .tmp 7) (.inl (by kernel_rfl)) (hF.ev 7 (.int .i64 ((k : Nat) : Int)) rfl)) hS (fun a hF => ?_)
  rw [show cond true (.int .i64 ((k : Nat) : Int)) undef = .int .i64 ((k : Nat) : Int) from rfl] at hF
  refine hst (i := 3) (o := ops_rk9[3]'(show 3 < ops_rk9.size by rw [size_rk9]; decide)) hF 48 true (.slice oa k oc) (Array.getElem?_eq_getElem (show 3 < ops_rk9.size by rw [size_rk9]; decide)) (by kernel_rfl) (by decide) (by kernel_rfl) (by kernel_rfl) (by kernel_rfl) (hQ _ _) (want_n (by kernel_rfl)) (fun hW w hS => rrun_slc (t := 30) (lo := none) (hi := some (.tmp 47)) (mx := none) (by kernel_rfl) (by rw [hF.ev 46 (.slice oa m oc) rfl]; show (Instr.sliceAt _ _ none (some (_ : Value)) none).run _ _ = _; rw [hF.ev 47 (.int .i64 ((k : Nat) : Int)) rfl]; exact rslc_head hkc hoc)) hS (fun a hF => ?_)
  rw [show cond true (.slice oa k oc) undef = .slice oa k oc from rfl] at hF
  refine hst (i := 5) (o := ops_rk9[5]'(show 5 < ops_rk9.size by rw [size_rk9]; decide)) hF 50 true (ptr g 1) (Array.getElem?_eq_getElem (show 5 < ops_rk9.size by rw [size_rk9]; decide)) (by kernel_rfl) (by decide) (by kernel_rfl) (by kernel_rfl) (by kernel_rfl) (hQ _ _) (want_n (by kernel_rfl)) (fun hW w hS => rrun_fld (T := 32) (x := .tmp 2) (f := 1) (by kernel_rfl) (hF.ev 2 (ptr g 0) rfl) (by kernel_rfl)) hS (fun a hF => ?_)
  rw [show cond true (ptr g 1) undef = ptr g 1 from rfl] at hF
  refine hst (i := 6) (o := ops_rk9[6]'(show 6 < ops_rk9.size by rw [size_rk9]; decide)) hF 51 true (.slice (some ⟨b, f, none⟩) l.length c) (Array.getElem?_eq_getElem (show 6 < ops_rk9.size by rw [size_rk9]; decide)) (by kernel_rfl) (by decide) (by kernel_rfl) (by kernel_rfl) (by kernel_rfl) (hQ _ _) (want_n (by kernel_rfl)) (fun hW w hS => rrun_load (ty := 30) (x := .tmp 50) (by kernel_rfl) (hF.ev 50 (ptr g 1) rfl) (rld_nods (block_cell (hbox w hS) 1))) hS (fun a hF => ?_)
  rw [show cond true (.slice (some ⟨b, f, none⟩) l.length c) undef = .slice (some ⟨b, f, none⟩) l.length c from rfl] at hF
  refine hst (i := 7) (o := ops_rk9[7]'(show 7 < ops_rk9.size by rw [size_rk9]; decide)) hF 52 true (.int .i64 ((i : Nat) : Int)) (Array.getElem?_eq_getElem (show 7 < ops_rk9.size by rw [size_rk9]; decide)) (by kernel_rfl) (by decide) (by kernel_rfl) (by kernel_rfl) (by kernel_rfl) (hQ _ _) (want_n (by kernel_rfl)) (fun hW w hS => rrun_move (x := .tmp 6) (.inl (by kernel_rfl)) (hF.ev 6 (.int .i64 ((i : Nat) : Int)) rfl)) hS (fun a hF => ?_)
  rw [show cond true (.int .i64 ((i : Nat) : Int)) undef = .int .i64 ((i : Nat) : Int) from rfl] at hF
  refine hst (i := 8) (o := ops_rk9[8]'(show 8 < ops_rk9.size by rw [size_rk9]; decide)) hF 53 true (ptr b (f + i * 12)) (Array.getElem?_eq_getElem (show 8 < ops_rk9.size by rw [size_rk9]; decide)) (by kernel_rfl) (by decide) (by kernel_rfl) (by kernel_rfl) (by kernel_rfl) (hQ _ _) (want_n (by kernel_rfl)) (fun hW w hS => rrun_idx 12 (ty := 30) (x := .tmp 51) (y := .tmp 52) (by kernel_rfl) (hF.ev 51 (.slice (some ⟨b, f, none⟩) l.length c) rfl) (hF.ev 52 (.int .i64 ((i : Nat) : Int)) rfl) hil (ridx_nod _ _ _ _ _ hil (by omega) w)) hS (fun a hF => ?_)
  rw [show cond true (ptr b (f + i * 12)) undef = ptr b (f + i * 12) from rfl] at hF
  refine hst (i := 9) (o := ops_rk9[9]'(show 9 < ops_rk9.size by rw [size_rk9]; decide)) hF 54 true (.agg n.cells) (Array.getElem?_eq_getElem (show 9 < ops_rk9.size by rw [size_rk9]; decide)) (by kernel_rfl) (by decide) (by kernel_rfl) (by kernel_rfl) (by kernel_rfl) (hQ _ _) (want_n (by kernel_rfl)) (fun hW w hS => rrun_load (ty := 71) (x := .tmp 53) (by kernel_rfl) (hF.ev 53 (ptr b (f + i * 12)) rfl) (rld_node (hel w hS))) hS (fun a hF => ?_)
  rw [show cond true (.agg n.cells) undef = .agg n.cells from rfl] at hF
  refine wpAnyH_all (rs := [0, 10]) (by kernel_rfl) (by simp) fun j hj => ?_
  have hj2 : j = 0 ∨ j = 10 := by simpa using hj
  rcases hj2 with rfl | rfl
  · refine hdo (i := 0) (o := ops_rk9[0]'(show 0 < ops_rk9.size by rw [size_rk9]; decide)) hF 45 (.slice (some ⟨w.heap.size, 0, none⟩) 0 0) (w.alloc (.cells #[] 71)) (Array.getElem?_eq_getElem (show 0 < ops_rk9.size by rw [size_rk9]; decide)) (by kernel_rfl) (by decide) (want_n (by kernel_rfl)) (rrun_build0 (by kernel_rfl)) (fun a hF => ?_)
    have hS1 := hS.alloc hS.size (.cells #[] 71)
    have ho1 := own_monoK (own_empty w 71 12) hS.size
    have hlt1 : w.heap.size < (w.alloc (.cells #[] 71)).heap.size := by simp
    refine ⟨hS1, ?_⟩
    generalize w.alloc (.cells #[] 71) = w1 at hS1 ho1 hlt1 ⊢
    generalize w.heap.size = e0 at ho1 hF hlt1
    refine wpAnyH_all (rs := [4, 10]) (by kernel_rfl) (by simp) fun j hj => ?_
    have hj3 : j = 4 ∨ j = 10 := by simpa using hj
    rcases hj3 with rfl | rfl
    · refine rk9_app (w0 := w0) (k := k) (acc := acc) hF rfl rfl ho1 (hsub _ hS1) hS1 (by omega) (fun a a4 c4 w4 hF ho4 hg4 hS4 => ⟨hS4, ?_⟩)
      refine wpAnyH_all (rs := [10]) (by kernel_rfl) (by simp) fun j hj => ?_
      obtain rfl : j = 10 := by simpa using hj
      refine hdo (i := 10) (o := ops_rk9[10]'(show 10 < ops_rk9.size by rw [size_rk9]; decide)) hF 55 (.slice (some ⟨w4.heap.size, 0, none⟩) 1 1) (w4.alloc (.cells n.cells 71)) (Array.getElem?_eq_getElem (show 10 < ops_rk9.size by rw [size_rk9]; decide)) (by kernel_rfl) (by decide) (want_n (by kernel_rfl)) (rrun_build1 (x := .tmp 54) (by kernel_rfl) (hF.ev 54 _ rfl)) (fun a hF => ?_)
      refine ⟨hS4.alloc hS4.size _, ?_⟩
      exact rk9_fin (n := n) (e := w4.heap.size) hF rfl rfl (ho4.alloc _) (heap_alloc_new _ _) (hS4.alloc hS4.size _) (by omega) (by kernel_rfl) (by kernel_rfl) (by kernel_rfl) (by kernel_rfl) hQ (fun a w' a8 c8 hF hS ho => hE a w' a8 c8 (hF.sub ((8, .slice a8 (k + 1) c8) :: [(2, ptr g 0), (5, .slice oa m oc), (6, .int .i64 ((i : Nat) : Int)), (7, .int .i64 ((k : Nat) : Int)), (0, v0), (1, v1), (3, v3), (4, v4), (62, v62)]) ⟨rfl, rfl, rfl, rfl, rfl, rfl, rfl, rfl, rfl, rfl, trivial⟩) hS ho)
    · refine hdo (i := 10) (o := ops_rk9[10]'(show 10 < ops_rk9.size by rw [size_rk9]; decide)) hF 55 (.slice (some ⟨w1.heap.size, 0, none⟩) 1 1) (w1.alloc (.cells n.cells 71)) (Array.getElem?_eq_getElem (show 10 < ops_rk9.size by rw [size_rk9]; decide)) (by kernel_rfl) (by decide) (want_n (by kernel_rfl)) (rrun_build1 (x := .tmp 54) (by kernel_rfl) (hF.ev 54 _ rfl)) (fun a hF => ?_)
      have hS2 := hS1.alloc hS1.size (.cells n.cells 71)
      refine ⟨hS2, ?_⟩
      have ho2 := ho1.alloc (.cells n.cells 71)
      have hn2 := heap_alloc_new w1 (.cells n.cells 71)
      have hlt2 : w1.heap.size < (w1.alloc (.cells n.cells 71)).heap.size := by simp
      generalize w1.alloc (.cells n.cells 71) = w2 at hS2 ho2 hn2 hlt2 ⊢
      generalize w1.heap.size = e at hn2 hF hlt1 hlt2
      refine wpAnyH_all (rs := [4]) (by kernel_rfl) (by simp) fun j hj => ?_
      obtain rfl : j = 4 := by simpa using hj
      refine rk9_app (w0 := w0) (k := k) (acc := acc) hF rfl rfl ho2 (hsub _ hS2) hS2 (by omega) (fun a a4 c4 w4 hF ho4 hg4 hS4 => ⟨hS4, ?_⟩)
      have hn4 := (hg4.block e hlt2 (by simp; omega)).trans hn2
      exact rk9_fin (n := n) (e := e) hF rfl rfl ho4 hn4 hS4 (by omega) (by kernel_rfl) (by kernel_rfl) (by kernel_rfl) (by kernel_rfl) hQ (fun a w' a8 c8 hF hS ho => hE a w' a8 c8 (hF.sub ((8, .slice a8 (k + 1) c8) :: [(2, ptr g 0), (5, .slice oa m oc), (6, .int .i64 ((i : Nat) : Int)), (7, .int .i64 ((k : Nat) : Int)), (0, v0), (1, v1), (3, v3), (4, v4), (62, v62)]) ⟨rfl, rfl, rfl, rfl, rfl, rfl, rfl, rfl, rfl, rfl, trivial⟩) hS ho)
  · refine hdo (i := 10) (o := ops_rk9[10]'(show 10 < ops_rk9.size by rw [size_rk9]; decide)) hF 55 (.slice (some ⟨w.heap.size, 0, none⟩) 1 1) (w.alloc (.cells n.cells 71)) (Array.getElem?_eq_getElem (show 10 < ops_rk9.size by rw [size_rk9]; decide)) (by kernel_rfl) (by decide) (want_n (by kernel_rfl)) (rrun_build1 (x := .tmp 54) (by kernel_rfl) (hF.ev 54 _ rfl)) (fun a hF => ?_)
    have hS1 := hS.alloc hS.size (.cells n.cells 71)
    refine ⟨hS1, ?_⟩
    have hn1 := heap_alloc_new w (.cells n.cells 71)
    have hlt1 : w.heap.size < (w.alloc (.cells n.cells 71)).heap.size := by simp
    generalize w.alloc (.cells n.cells 71) = w1 at hS1 hn1 hlt1 ⊢
    generalize w.heap.size = e at hn1 hF hlt1
    refine wpAnyH_all (rs := [0]) (by kernel_rfl) (by simp) fun j hj => ?_
    obtain rfl : j = 0 := by simpa using hj
    refine hdo (i := 0) (o := ops_rk9[0]'(show 0 < ops_rk9.size by rw [size_rk9]; decide)) hF 45 (.slice (some ⟨w1.heap.size, 0, none⟩) 0 0) (w1.alloc (.cells #[] 71)) (Array.getElem?_eq_getElem (show 0 < ops_rk9.size by rw [size_rk9]; decide)) (by kernel_rfl) (by decide) (want_n (by kernel_rfl)) (rrun_build0 (by kernel_rfl)) (fun a hF => ?_)
    have hS2 := hS1.alloc hS1.size (.cells #[] 71)
    refine ⟨hS2, ?_⟩
    have ho2 := own_monoK (own_empty w1 71 12) hS1.size
    have hn2 := (heap_alloc_old w1 (.cells #[] 71) hlt1).trans hn1
    have hlt2 : e < (w1.alloc (.cells #[] 71)).heap.size := by simp; omega
    generalize w1.alloc (.cells #[] 71) = w2 at hS2 ho2 hn2 hlt2 ⊢
    generalize w1.heap.size = e0 at ho2 hF hlt1
    refine wpAnyH_all (rs := [4]) (by kernel_rfl) (by simp) fun j hj => ?_
    obtain rfl : j = 4 := by simpa using hj
    refine rk9_app (w0 := w0) (k := k) (acc := acc) hF rfl rfl ho2 (hsub _ hS2) hS2 (by omega) (fun a a4 c4 w4 hF ho4 hg4 hS4 => ⟨hS4, ?_⟩)
    have hn4 := (hg4.block e hlt2 (by simp; omega)).trans hn2
    exact rk9_fin (n := n) (e := e) hF rfl rfl ho4 hn4 hS4 (by omega) (by kernel_rfl) (by kernel_rfl) (by kernel_rfl) (by kernel_rfl) hQ (fun a w' a8 c8 hF hS ho => hE a w' a8 c8 (hF.sub ((8, .slice a8 (k + 1) c8) :: [(2, ptr g 0), (5, .slice oa m oc), (6, .int .i64 ((i : Nat) : Int)), (7, .int .i64 ((k : Nat) : Int)), (0, v0), (1, v1), (3, v3), (4, v4), (62, v62)]) ⟨rfl, rfl, rfl, rfl, rfl, rfl, rfl, rfl, rfl, rfl, trivial⟩) hS ho)
noncomputable def ops_rk10 : Array Oper := match Try.f73.body with | some c => (allOps' c).getD 9 #[] | none => #[]
noncomputable def l_rk10 : List Oper := ops_rk10.toList
theorem len_rk10 : l_rk10.length = 6 := by kernel_rfl
set_option maxHeartbeats 4000000 in
theorem rk10_all {g i k m oc c8 B : Nat} {oa a8 : Option Addr} {acc : List Nod} {n : Nod} {v0 v1 v3 v4 v62 : Value} {Q : Exit → Act → World → Prop} {a : Act} {w : World}
    (hacc : NodsAt w (.slice oa m oc) acc) (hm : m = acc.length) (hm1 : m ≤ 1000) (hkm : k ≤ m) (hoc : oc ≤ 9223372036854775807) (hmc : m ≤ oc)
    (ho8 : w.ownsRow B 71 12 (.slice a8 (k + 1) c8) (k + 1) (nodsL (acc.take k ++ [n]))) (hB : B ≤ w.heap.size) (hF : FrL 63 [(2, ptr g 0), (5, .slice oa m oc), (6, .int .i64 ((i : Nat) : Int)), (7, .int .i64 ((k : Nat) : Int)), (8, .slice a8 (k + 1) c8), (0, v0), (1, v1), (3, v3), (4, v4), (62, v62)] a)
    (hE : ∀ a w' a9 c9, FrL 63 [(2, ptr g 0), (5, .slice a9 (m + 1) c9), (6, .int .i64 ((i : Nat) : Int)), (7, .int .i64 ((k : Nat) : Int)), (8, .slice a8 (k + 1) c8), (0, v0), (1, v1), (3, v3), (4, v4), (62, v62)] a → w'.ownsRow B 71 12 (.slice a9 (m + 1) c9) (m + 1) (nodsL (insR acc n k)) → w.grownBy w' (Value.slice a8 (k + 1) c8).ownBlock → Q .normal a w') :
    wpList Try.prog ops_rk10 Q (l_rk10.drop 0) a w := by
  rw [List.drop_eq_getElem_cons (show 0 < l_rk10.length by rw [len_rk10]; decide)]
  refine st hF 57 (.slice a8 (k + 1) c8) (by kernel_rfl) (by decide) (by kernel_rfl) (rrun_move (x := .tmp 8) (.inl (by kernel_rfl)) (hF.ev 8 (.slice a8 (k + 1) c8) rfl)) (fun a hF => ?_)
  rw [List.drop_eq_getElem_cons (show 1 < l_rk10.length by rw [len_rk10]; decide)]
  refine st hF 58 (.slice oa m oc) (by kernel_rfl) (by decide) (by kernel_rfl) (rrun_move (x := .tmp 5) (.inl (by kernel_rfl)) (hF.ev 5 (.slice oa m oc) rfl)) (fun a hF => ?_)
  rw [List.drop_eq_getElem_cons (show 2 < l_rk10.length by rw [len_rk10]; decide)]
  refine st hF 59 (.int .i64 ((k : Nat) : Int)) (by kernel_rfl) (by decide) (by kernel_rfl) (rrun_move (x := .tmp 7) (.inl (by kernel_rfl)) (hF.ev 7 (.int .i64 ((k : Nat) : Int)) rfl)) (fun a hF => ?_)
  rw [List.drop_eq_getElem_cons (show 3 < l_rk10.length by rw [len_rk10]; decide)]
  refine st hF 60 (.slice (if oc = k then oa else oa.map (fun ad => ad.add (k * 12))) (m - k) (oc - k)) (by kernel_rfl) (by decide) (by kernel_rfl) (rrun_slc (t := 30) (lo := some (.tmp 59)) (hi := none) (mx := none) (by kernel_rfl) (by rw [hF.ev 58 (.slice oa m oc) rfl]; show (Instr.sliceAt _ _ (some (_ : Value)) none none).run _ _ = _; rw [hF.ev 59 (.int .i64 ((k : Nat) : Int)) rfl]; exact rslc_tail hkm hmc hoc)) (fun a hF => ?_)
  rw [List.drop_eq_getElem_cons (show 4 < l_rk10.length by rw [len_rk10]; decide)]
  have hsub : RowW w 12 (.slice (if oc = k then oa else oa.map (fun ad => ad.add (k * 12))) (m - k) (oc - k)) (m - k) (nodsL (acc.drop k)) := by
    subst hm
    exact hacc.drop hkm
  refine wpList_append_weak elemRN w (by kernel_rfl) (.tmp 57) (.tmp 60) (by kernel_rfl) B _ (k + 1) _ (hF.ev 57 _ rfl) ho8 _ (m - k) (nodsL (acc.drop k)) (hF.ev 60 _ rfl) hsub (nodsL_one _) (by unfold maxLen; omega) (by omega) hB (fun a9 c9 w9 h9 g9 => ?_)
  rw [← nodsL_append, show acc.take k ++ [n] ++ acc.drop k = insR acc n k by unfold insR; rw [List.append_assoc]; rfl, show k + 1 + (m - k) = m + 1 by omega] at h9
  rw [show k + 1 + (m - k) = m + 1 by omega, show (l_rk10[4]'(show 4 < l_rk10.length by rw [len_rk10]; decide)).dst = some 61 from by kernel_rfl]
  replace hF := hF.put 61 (.slice a9 (m + 1) c9) (by decide)
  generalize a.put (some 61) (.slice a9 (m + 1) c9) = a at hF ⊢
  rw [List.drop_eq_getElem_cons (show 5 < l_rk10.length by rw [len_rk10]; decide)]
  refine st hF 5 (.slice a9 (m + 1) c9) (by kernel_rfl) (by decide) (by kernel_rfl) (rrun_move (x := .tmp 61) (.inr (by kernel_rfl)) (hF.ev 61 _ rfl)) (fun a hF => ?_)
  rw [show l_rk10.drop 6 = [] from by kernel_rfl]
  exact hE _ _ _ _ (hF.sub [(2, ptr g 0), (5, .slice a9 (m + 1) c9), (6, .int .i64 ((i : Nat) : Int)), (7, .int .i64 ((k : Nat) : Int)), (8, .slice a8 (k + 1) c8), (0, v0), (1, v1), (3, v3), (4, v4), (62, v62)] ⟨rfl, rfl, rfl, rfl, rfl, rfl, rfl, rfl, rfl, rfl,  trivial⟩) h9 g9
end
end Go.Proofs.Ytpmlhmficmillaa

namespace Go.Proofs.Ytpmlhmficmillaa
section
open Go.RowKit
set_option maxRecDepth 100000
set_option linter.unusedVariables false

theorem gt_leS (a b : ByteArray) : (!Op.bytesLess a.toList b.toList && !(a.toList == b.toList)) = !leS a b := by
  unfold leS
  rw [bytesLess_eq, bytesLess_eq, Bool.not_not]
  rcases lt_tri a.toList b.toList with h | h | h
  · have h2 : ¬ b.toList < a.toList := fun h2 => List.lt_irrefl _ (List.lt_trans h h2)
    simp [h, h2]
  · rw [h]; simp [List.lt_irrefl]
  · have h2 : ¬ a.toList < b.toList := fun h2 => List.lt_irrefl _ (List.lt_trans h h2)
    have h3 : ¬ a.toList = b.toList := fun e => by rw [e] at h; exact List.lt_irrefl _ h
    simp [h, h2, h3]
def RKidsPost (w : World) (l : List Nod) (d : Nat) (e : Ending) (w' : World) : Prop := ∃ r ks, e = .returned r ∧ NodsAt w' r ks ∧ Below w.heap.size w w' ∧ (SortL l → Srt leNP ks) ∧ ks.Perm (kidsOf l d)
theorem rkids_take {l : List Nod} {k : Nat} (hk : k < l.length) (d : Nat) : kidsOf (l.take (k + 1)) d = kidsOf (l.take k) d ++ (if kidB d l[k] then [l[k]] else []) := by
  unfold kidsOf
  rw [List.take_succ_eq_append_getElem hk, List.filter_append]
  cases h : kidB d l[k] <;> simp [h]

set_option maxHeartbeats 6400000 in
theorem rkids_any (v : Value) (x : Nat) (l : List Nod) (d : Nat) (w : World) (hv : NodsAt w v l) (hl : l.length ≤ 1000) :
    Calls Try.prog 73 #[.agg #[.int .u64 (x : Int), v], .int .u64 (d : Int)] w (RKidsPost w l d) := by
  obtain ⟨a, c, rfl, g1, g2⟩ := hv.form
  unfold maxLen at g2
  have mixed : Try.prog.follows Departure.mixedOrders = true := by first | kernel_rfl | decide
  obtain ⟨W, hW⟩ : ∃ W, W = w.alloc (.cells #[.int .u64 (x : Int), .slice a l.length c] 32) := ⟨_, rfl⟩
  have hb0 : Below w.heap.size w W := by rw [hW]; exact (Below.refl w.heap.size w).alloc (Nat.le_refl _) _
  have hx0 := hid (show W.heap[w.heap.size]? = some (.cells #[.int .u64 (x : Int), .slice a l.length c] 32 (0, 0)) by rw [hW, heap_alloc_new])
  replace hv := hid hv
  replace hb0 := hid hb0
  go_enter Try.func73, Try.ntmps73
  go_wp2_with (rw [← hW]; replace hW := hid hW)
  try (rw [← hW]; replace hW := hid hW)
  go_loopw [5, 6] (fun ov kv wr => ∃ (i m : Nat) (acc : List Nod), i ≤ l.length ∧ kv = .int .i64 (i : Int) ∧ m = acc.length ∧ Hid (m ≤ i) ∧ Hid (acc.Perm (kidsOf (l.take i) d) ∧ (SortL l → Srt leNP acc)) ∧ Hid (wr.heap[w.heap.size]? = some (.cells #[.int .u64 (x : Int), .slice a l.length c] 32 (0, 0))) ∧ Hid (Below w.heap.size w wr) ∧ Hid (wr.ownsRow (w.heap.size + 1) 71 12 ov m (nodsL acc))) (fun _ kv _ => l.length - (intOf kv).toNat)
  case atStart => exact ⟨0, 0, [], by omega, rfl, rfl, hid (by omega), hid ⟨by simp [kidsOf], fun _ => List.Pairwise.nil⟩, hx0, hb0, hid (World.ownsRow_nil _ _ _ _)⟩
  case round =>
    obtain ⟨i, m, acc, hi, rfl, hm, hmi, hacc, hX0, hB, hown⟩ := hrel
    obtain ⟨oa, oc, rfl⟩ := own_form hown.out
    replace hm := hid hm
    have e1 := block_cell hX0.out 1
    by_cases hil : i < l.length
    · obtain ⟨b, o, ha, hr0⟩ := (hv.out.below hB.out).range i hil
      subst ha
      have hst := hid (rkids_take hil d)
      have hset := hid (fun (hs : SortL l) (q : Nod) (hq : q ∈ kidsOf (l.take i) d) => show q.path < l[i].path from by
        obtain ⟨j, hj, rfl⟩ := List.mem_iff_getElem.1 (List.mem_filter.1 hq).1
        rw [List.length_take] at hj
        rw [List.getElem_take]
        exact List.pairwise_iff_getElem.1 hs j i (by omega) (by omega) (by omega))
      generalize l[i] = n at *
      have hr := hid hr0
      clear hr0
      have hkc := hid (rkid_any n d wr)
      go_wp2_with (first
        | (refine wpList_load_cells (by rfl) 71 (.tmp 19) (by rfl) b (o + i * 12) (by rfl) n.cells _ hr.out Try.underlying71 (by rfl) (by kernel_rfl) ?_))
      refine hkc.out.mono ?_
      rintro e w4 ⟨rfl, hb4⟩
      have hB4 := hid (sn hB.out hb4)
      have hX4 := hid ((hb4.block _ (lt_of_block hX0.out)).trans hX0.out)
      have hown4 := hid (own_below hown.out hb4)
      have hr4 := hid (range_below hr.out (by rw [nod_cells]; simp) hb4)
      clear hb4 hkc hr hB hX0 hown e1
      rcases hkb : kidB d n with _ | _
      · have ha2 := hid (show acc.Perm (kidsOf (l.take (i + 1)) d) by rw [hst.out, hkb]; simpa using hacc.out.1)
        clear hkb hst
        go_wp2_with fail
        go_roundw
        case rel => exact ⟨i + 1, m, acc, by omega, by go_num, hm.out, hid (by have := hmi.out; omega), hid ⟨ha2.out, hacc.out.2⟩, hX4, hB4, hown4⟩
        case measure => simp [intOf]; omega
      · have ha2 := hid (show kidsOf (l.take (i + 1)) d = kidsOf (l.take i) d ++ [n] by rw [hst.out, hkb]; rfl)
        clear hkb hst
        go_wp2_with fail
        go_loopw [7] (fun kv wr => ∃ k : Nat, k ≤ m ∧ kv = .int .i64 (k : Int) ∧ Hid (∀ j q, k ≤ j → acc[j]? = some q → leS q.name n.name = false) ∧ Hid (wr.heap[w.heap.size]? = some (.cells #[.int .u64 (x : Int), .slice (some ⟨b, o, none⟩) l.length c] 32 (0, 0))) ∧ Hid (Below w.heap.size w wr) ∧ Hid (wr.ownsRow (w.heap.size + 1) 71 12 (.slice oa m oc) m (nodsL acc)) ∧ Hid (wr.rangeAt b (o + i * 12) n.cells.toList)) (fun kv _ => (intOf kv).toNat)
        case atStart => exact ⟨m, by omega, rfl, hid (fun j q hj hq => by have := (List.getElem?_eq_some_iff.1 hq).1; have := hm.out; omega), hX4, hB4, hown4, hr4⟩
        case round =>
          clear hX4 hB4 hown4 hr4
          obtain ⟨k, hk, rfl, hgt, hX0, hB, hown, hr⟩ := hrel
          --INNER
          have e1 := block_cell hX0.out 1
          rcases k with _ | k
          · have k0 : ¬ (0 : Int) < ((0 : Nat) : Int) := by omega
            go_wp2_with fail
            go_big_region_o
            replace hX0 : Hid ((wr.drew).heap[w.heap.size]? = _) := hX0
            replace hB := hid (hB.out.trans ((Below.refl wr.heap.size wr).drew.mono hB.out.size))
            replace hown := hid (own_below hown.out (Below.refl wr.heap.size wr).drew)
            replace hr := hid (range_below hr.out (by rw [nod_cells]; simp) (Below.refl wr.heap.size wr).drew)
            clear k0 e1
            have hBdr := hid hB.out
            have hX0d := hX0.out
            have hrd := hr.out
            have hownd := hown.out
            generalize wr.drew = wd at hX0d hrd hownd hBdr ⊢
            go_wp2_with fail
            go_cut [8] (fun s8 wx => ∃ a8 c8, s8 = .slice a8 (0 + 1) c8 ∧ Hid (Below wd.drew.heap.size wd.drew wx) ∧ Hid (wx.ownsRow wd.drew.heap.size 71 12 (.slice a8 (0 + 1) c8) (0 + 1) (nodsL (acc.take (0) ++ [n]))))
            case first => as_aux_lemma =>
              rename_i J K' hJ hK
              refine wp_region_noPanic ?_
              refine wp_region_held (S := Below wd.drew.heap.size wd.drew) mixed ?_
              refine (show wpAnyH Try.prog .any ops_rk9 _ _ _ _ _ _ → _ from fun h => h) ?_
              have hAt := NodsAt.of_own hownd
              obtain ⟨a', c', hv0, q1, q2⟩ := hAt.form
              simp only [Value.slice.injEq] at hv0
              rw [← hv0.2.2] at q1 q2
              unfold maxLen at q2
              refine rk9_all (w0 := wd.drew) (g := w.heap.size) (x := x) (b := b) (f := o) (c := c) (i := i) (k := 0) (m := m) (l := l) (acc := acc) (n := n) hX0d hrd hil hl hAt hm.out (by have := hmi.out; omega) hk (by have := hm.out; omega) (by omega) (fun _ _ _ _ _ h => h) (FrL.of_all (by rfl) rfl ⟨rfl, rfl, rfl, rfl, rfl, rfl, rfl, rfl, rfl, trivial⟩) (Below.refl _ _) (fun a w' a8 c8 hF hS8 ho8 => ?_)
              exact hK _ _ (Met.intro (hJ _ _ ⟨.slice a8 (0 + 1) c8, a.tmps.getD 9 undef, a.tmps.getD 10 undef, a.tmps.getD 11 undef, a.tmps.getD 12 undef, a.tmps.getD 13 undef, a.tmps.getD 14 undef, a.tmps.getD 15 undef, a.tmps.getD 16 undef, a.tmps.getD 17 undef, a.tmps.getD 18 undef, a.tmps.getD 19 undef, a.tmps.getD 20 undef, a.tmps.getD 21 undef, a.tmps.getD 22 undef, a.tmps.getD 23 undef, a.tmps.getD 24 undef, a.tmps.getD 25 undef, a.tmps.getD 26 undef, a.tmps.getD 27 undef, a.tmps.getD 28 undef, a.tmps.getD 29 undef, a.tmps.getD 30 undef, a.tmps.getD 31 undef, a.tmps.getD 32 undef, a.tmps.getD 33 undef, a.tmps.getD 34 undef, a.tmps.getD 35 undef, a.tmps.getD 36 undef, a.tmps.getD 37 undef, a.tmps.getD 38 undef, a.tmps.getD 39 undef, a.tmps.getD 40 undef, a.tmps.getD 41 undef, a.tmps.getD 42 undef, a.tmps.getD 43 undef, a.tmps.getD 44 undef, a.tmps.getD 45 undef, a.tmps.getD 46 undef, a.tmps.getD 47 undef, a.tmps.getD 48 undef, a.tmps.getD 49 undef, a.tmps.getD 50 undef, a.tmps.getD 51 undef, a.tmps.getD 52 undef, a.tmps.getD 53 undef, a.tmps.getD 54 undef, a.tmps.getD 55 undef, a.tmps.getD 56 undef, a.tmps.getD 57 undef, a.tmps.getD 58 undef, a.tmps.getD 59 undef, a.tmps.getD 60 undef, a.tmps.getD 61 undef, ⟨a8, c8, rfl, hid hS8, hid ho8⟩, frame_eq hF _ (by rfl) ⟨hF.get 0 _ rfl, hF.get 1 _ rfl, hF.get 2 _ rfl, hF.get 3 _ rfl, hF.get 4 _ rfl, hF.get 5 _ rfl, hF.get 6 _ rfl, hF.get 7 _ rfl, hF.get 8 _ rfl, hF.any 9 (by decide), hF.any 10 (by decide), hF.any 11 (by decide), hF.any 12 (by decide), hF.any 13 (by decide), hF.any 14 (by decide), hF.any 15 (by decide), hF.any 16 (by decide), hF.any 17 (by decide), hF.any 18 (by decide), hF.any 19 (by decide), hF.any 20 (by decide), hF.any 21 (by decide), hF.any 22 (by decide), hF.any 23 (by decide), hF.any 24 (by decide), hF.any 25 (by decide), hF.any 26 (by decide), hF.any 27 (by decide), hF.any 28 (by decide), hF.any 29 (by decide), hF.any 30 (by decide), hF.any 31 (by decide), hF.any 32 (by decide), hF.any 33 (by decide), hF.any 34 (by decide), hF.any 35 (by decide), hF.any 36 (by decide), hF.any 37 (by decide), hF.any 38 (by decide), hF.any 39 (by decide), hF.any 40 (by decide), hF.any 41 (by decide), hF.any 42 (by decide), hF.any 43 (by decide), hF.any 44 (by decide), hF.any 45 (by decide), hF.any 46 (by decide), hF.any 47 (by decide), hF.any 48 (by decide), hF.any 49 (by decide), hF.any 50 (by decide), hF.any 51 (by decide), hF.any 52 (by decide), hF.any 53 (by decide), hF.any 54 (by decide), hF.any 55 (by decide), hF.any 56 (by decide), hF.any 57 (by decide), hF.any 58 (by decide), hF.any 59 (by decide), hF.any 60 (by decide), hF.any 61 (by decide), hF.get 62 _ rfl, trivial⟩⟩))
            case rest =>
              obtain ⟨a8, c8, rfl, hB8, ho8⟩ := hcut
              have hX0e : wd.drew.heap[w.heap.size]? = some (.cells #[.int .u64 (x : Int), .slice (some ⟨b, o, none⟩) l.length c] 32 (0, 0)) := hX0d
              have hX8 := hid ((hB8.out.block _ (lt_of_block hX0e)).trans hX0e)
              have hownd' : wd.drew.ownsRow (w.heap.size + 1) 71 12 (.slice oa m oc) m (nodsL acc) := hownd
              have hown8 := hid (own_below hownd' hB8.out)
              have hge : w.heap.size + 1 ≤ wd.drew.heap.size := lt_of_block hX0e
              have hBd : Below w.heap.size w wd.drew := by have := hBdr.out; exact this.drew
              have hBge := hB8.out.size
              replace hge := hid hge
              replace hBge := hid hBge
              replace hBd := hid hBd
              clear hX0d hX0e hownd hownd' hrd
              generalize wd.drew = wd at *
              go_upto_region 10 with fail
              refine wp_region_list ?_
              refine (show wpList Try.prog ops_rk10 _ l_rk10 _ wc → _ from fun h => h) ?_
              have hAt := NodsAt.of_own hown8.out
              obtain ⟨a', c', hv0, q1, q2⟩ := hAt.form
              simp only [Value.slice.injEq] at hv0
              rw [← hv0.2.2] at q1 q2
              unfold maxLen at q2
              refine rk10_all (g := w.heap.size) (i := i) (k := 0) hAt hm.out (by have := hmi.out; omega) (by omega) (by omega) (by have := hm.out; omega) ho8.out hBge.out (FrL.of_all (by rfl) rfl ⟨rfl, rfl, rfl, rfl, rfl, rfl, rfl, rfl, rfl, rfl, trivial⟩) (fun a w9 a9 c9 hF h9 g9 => ?_)
              have he := frame_eq hF [.agg #[.int .u64 (x : Int), .slice (some ⟨b, o, none⟩) l.length c], .int .u64 (d : Int), .pointer (some ⟨w.heap.size, 0, none⟩), undef, .slice none 0 0, .slice a9 (m + 1) c9, .int .i64 (i : Int), a.tmps.getD 7 undef, a.tmps.getD 8 undef, a.tmps.getD 9 undef, a.tmps.getD 10 undef, a.tmps.getD 11 undef, a.tmps.getD 12 undef, a.tmps.getD 13 undef, a.tmps.getD 14 undef, a.tmps.getD 15 undef, a.tmps.getD 16 undef, a.tmps.getD 17 undef, a.tmps.getD 18 undef, a.tmps.getD 19 undef, a.tmps.getD 20 undef, a.tmps.getD 21 undef, a.tmps.getD 22 undef, a.tmps.getD 23 undef, a.tmps.getD 24 undef, a.tmps.getD 25 undef, a.tmps.getD 26 undef, a.tmps.getD 27 undef, a.tmps.getD 28 undef, a.tmps.getD 29 undef, a.tmps.getD 30 undef, a.tmps.getD 31 undef, a.tmps.getD 32 undef, a.tmps.getD 33 undef, a.tmps.getD 34 undef, a.tmps.getD 35 undef, a.tmps.getD 36 undef, a.tmps.getD 37 undef, a.tmps.getD 38 undef, a.tmps.getD 39 undef, a.tmps.getD 40 undef, a.tmps.getD 41 undef, a.tmps.getD 42 undef, a.tmps.getD 43 undef, a.tmps.getD 44 undef, a.tmps.getD 45 undef, a.tmps.getD 46 undef, a.tmps.getD 47 undef, a.tmps.getD 48 undef, a.tmps.getD 49 undef, a.tmps.getD 50 undef, a.tmps.getD 51 undef, a.tmps.getD 52 undef, a.tmps.getD 53 undef, a.tmps.getD 54 undef, a.tmps.getD 55 undef, a.tmps.getD 56 undef, a.tmps.getD 57 undef, a.tmps.getD 58 undef, a.tmps.getD 59 undef, a.tmps.getD 60 undef, a.tmps.getD 61 undef, undef] (by rfl) ⟨hF.get 0 _ rfl, hF.get 1 _ rfl, hF.get 2 _ rfl, hF.get 3 _ rfl, hF.get 4 _ rfl, hF.get 5 _ rfl, hF.get 6 _ rfl, hF.any 7 (by decide), hF.any 8 (by decide), hF.any 9 (by decide), hF.any 10 (by decide), hF.any 11 (by decide), hF.any 12 (by decide), hF.any 13 (by decide), hF.any 14 (by decide), hF.any 15 (by decide), hF.any 16 (by decide), hF.any 17 (by decide), hF.any 18 (by decide), hF.any 19 (by decide), hF.any 20 (by decide), hF.any 21 (by decide), hF.any 22 (by decide), hF.any 23 (by decide), hF.any 24 (by decide), hF.any 25 (by decide), hF.any 26 (by decide), hF.any 27 (by decide), hF.any 28 (by decide), hF.any 29 (by decide), hF.any 30 (by decide), hF.any 31 (by decide), hF.any 32 (by decide), hF.any 33 (by decide), hF.any 34 (by decide), hF.any 35 (by decide), hF.any 36 (by decide), hF.any 37 (by decide), hF.any 38 (by decide), hF.any 39 (by decide), hF.any 40 (by decide), hF.any 41 (by decide), hF.any 42 (by decide), hF.any 43 (by decide), hF.any 44 (by decide), hF.any 45 (by decide), hF.any 46 (by decide), hF.any 47 (by decide), hF.any 48 (by decide), hF.any 49 (by decide), hF.any 50 (by decide), hF.any 51 (by decide), hF.any 52 (by decide), hF.any 53 (by decide), hF.any 54 (by decide), hF.any 55 (by decide), hF.any 56 (by decide), hF.any 57 (by decide), hF.any 58 (by decide), hF.any 59 (by decide), hF.any 60 (by decide), hF.any 61 (by decide), hF.get 62 _ rfl, trivial⟩
              rw [he]
              clear he
              generalize a.tmps.getD 7 undef = u7
              generalize a.tmps.getD 8 undef = u8
              generalize a.tmps.getD 9 undef = u9
              generalize a.tmps.getD 10 undef = u10
              generalize a.tmps.getD 11 undef = u11
              generalize a.tmps.getD 12 undef = u12
              generalize a.tmps.getD 13 undef = u13
              generalize a.tmps.getD 14 undef = u14
              generalize a.tmps.getD 15 undef = u15
              generalize a.tmps.getD 16 undef = u16
              generalize a.tmps.getD 17 undef = u17
              generalize a.tmps.getD 18 undef = u18
              generalize a.tmps.getD 19 undef = u19
              generalize a.tmps.getD 20 undef = u20
              generalize a.tmps.getD 21 undef = u21
              generalize a.tmps.getD 22 undef = u22
              generalize a.tmps.getD 23 undef = u23
              generalize a.tmps.getD 24 undef = u24
              generalize a.tmps.getD 25 undef = u25
              generalize a.tmps.getD 26 undef = u26
              generalize a.tmps.getD 27 undef = u27
              generalize a.tmps.getD 28 undef = u28
              generalize a.tmps.getD 29 undef = u29
              generalize a.tmps.getD 30 undef = u30
              generalize a.tmps.getD 31 undef = u31
              generalize a.tmps.getD 32 undef = u32
              generalize a.tmps.getD 33 undef = u33
              generalize a.tmps.getD 34 undef = u34
              generalize a.tmps.getD 35 undef = u35
              generalize a.tmps.getD 36 undef = u36
              generalize a.tmps.getD 37 undef = u37
              generalize a.tmps.getD 38 undef = u38
              generalize a.tmps.getD 39 undef = u39
              generalize a.tmps.getD 40 undef = u40
              generalize a.tmps.getD 41 undef = u41
              generalize a.tmps.getD 42 undef = u42
              generalize a.tmps.getD 43 undef = u43
              generalize a.tmps.getD 44 undef = u44
              generalize a.tmps.getD 45 undef = u45
              generalize a.tmps.getD 46 undef = u46
              generalize a.tmps.getD 47 undef = u47
              generalize a.tmps.getD 48 undef = u48
              generalize a.tmps.getD 49 undef = u49
              generalize a.tmps.getD 50 undef = u50
              generalize a.tmps.getD 51 undef = u51
              generalize a.tmps.getD 52 undef = u52
              generalize a.tmps.getD 53 undef = u53
              generalize a.tmps.getD 54 undef = u54
              generalize a.tmps.getD 55 undef = u55
              generalize a.tmps.getD 56 undef = u56
              generalize a.tmps.getD 57 undef = u57
              generalize a.tmps.getD 58 undef = u58
              generalize a.tmps.getD 59 undef = u59
              generalize a.tmps.getD 60 undef = u60
              generalize a.tmps.getD 61 undef = u61
              clear hF hAt hv0 q1 q2 a
              have hm0 := hm.out
              have hb9 : Below wd.heap.size wd w9 := hB8.out.grown g9 hBge.out (fun j hj => (ho8.out.lt j hj).1)
              have hB9 := hid (sn hBd.out hb9)
              have hlt0 : w.heap.size < wd.heap.size := by have := hge.out; omega
              have hX9 := hid ((hb9.block _ hlt0).trans ((hB8.out.block _ hlt0).symm.trans hX8.out))
              have h9' := hid (own_monoK h9 hge.out)
              have hin : ∀ q ∈ acc, q ∈ kidsOf (l.take i) d := fun q hq => (hacc.out.1.mem_iff).1 hq
              have hacc9 := hid (show (insR acc n (0)).Perm (kidsOf (l.take (i + 1)) d) ∧ (SortL l → Srt leNP (insR acc n (0))) from
                ⟨by rw [ha2.out]; exact (insR_perm _ _ _).trans (hacc.out.1.append_right _), fun hs => insR_srt (hacc.out.2 hs) (fun q hq => Nat.le_of_lt (hset.out hs q (hin q hq))) (fun h0 => absurd h0 (by omega)) hgt.out (by omega)⟩)
              have hl9 := hid (show m + 1 = (insR acc n (0)).length by rw [insR_length, hm0])
              clear h9 g9 hb9 ho8 hB8 hX8 hown8 hBd hm0 hBge hin
              go_wp2_with fail
              go_roundw
              case rel => exact ⟨i + 1, m + 1, _, by omega, by go_num, hl9.out, hid (by have := hmi.out; omega), hacc9, hX9, hB9, h9'⟩
              case measure => simp [intOf]; omega
          · obtain ⟨q, hq⟩ : ∃ q, acc[k]? = some q := ⟨acc[k]'(by have := hm.out; omega), List.getElem?_eq_getElem _⟩
            obtain ⟨hkl, hqe⟩ := List.getElem?_eq_some_iff.1 hq
            obtain ⟨b2, o2, ha2', hr2⟩ := (show NodsAt wr (.slice oa m oc) acc from NodsAt.of_own hown.out).range k hkl
            subst ha2'
            rw [hqe] at hr2
            have f1 : wr.cell? ⟨b2, o2 + k * 12 + 5, none⟩ = some (.string q.name) := hr2 5 _ (by rw [nod_cells]; rfl)
            have f2 : wr.cell? ⟨b, o + i * 12 + 5, none⟩ = some (.string n.name) := hr.out 5 _ (by rw [nod_cells]; rfl)
            have k0 : (0 : Int) < ((k + 1 : Nat) : Int) := by omega
            have k1 : IntKind.i64.wrap (((k + 1 : Nat) : Int) - 1) = ((k : Nat) : Int) := by rw [show ((k : Nat) : Int) = ((k + 1 : Nat) : Int) - 1 by omega]; exact IntWalk.i64_in _ (by have := hmi.out; omega)
            have k1' : IntKind.i64.wrap ((k : Nat) : Int) = ((k : Nat) : Int) := IntWalk.i64_in _ (by have := hmi.out; omega)
            have k2 : (0 : Int) ≤ (k : Int) := by omega
            have k3 : (k : Int) < (m : Int) := by omega
            have k4 : (0 : Int) ≤ (i : Int) := by omega
            have k5 : (i : Int) < (l.length : Int) := by omega
            replace hq := hid hq
            replace hr2 := hid hr2
            clear hqe
            rcases hlt : leS q.name n.name with _ | _
            · have k6 : (!Op.bytesLess q.name.toList n.name.toList && !(q.name.toList == n.name.toList)) = true := by rw [gt_leS, hlt]; rfl
              have hgt2 := hid (show ∀ j p, k ≤ j → acc[j]? = some p → leS p.name n.name = false from fun j p hj hp => by
                rcases Nat.lt_or_ge k j with h | h
                · exact hgt.out j p h hp
                · obtain rfl : j = k := by omega
                  rw [hq.out] at hp; cases hp; exact hlt)
              clear hlt
              go_wp2_with fail
              have w1 : wr.drew.cell? ⟨w.heap.size, 1, none⟩ = some (.slice (some ⟨b, o, none⟩) l.length c) := e1
              have w2 : wr.drew.cell? ⟨b2, o2 + k * 12 + 5, none⟩ = some (.string q.name) := f1
              have w3 : wr.drew.cell? ⟨b, o + i * 12 + 5, none⟩ = some (.string n.name) := f2
              go_big_region_o
              replace hX0 : Hid ((wr.drew).heap[w.heap.size]? = _) := hX0
              replace hB := hid (hB.out.trans ((Below.refl wr.heap.size wr).drew.mono hB.out.size))
              replace hown := hid (own_below hown.out (Below.refl wr.heap.size wr).drew)
              replace hr := hid (range_below hr.out (by rw [nod_cells]; simp) (Below.refl wr.heap.size wr).drew)
              clear w1 w2 w3 f1 f2 e1
              go_wp2_with fail
              go_roundw
              case rel => exact ⟨k, by omega, by go_num, hgt2, hX0, hB, hown, hr⟩
              case measure => simp [intOf]
            · have k6 : (!Op.bytesLess q.name.toList n.name.toList && !(q.name.toList == n.name.toList)) = false := by rw [gt_leS, hlt]; rfl
              replace hlt := hid hlt
              go_wp2_with fail
              have w1 : wr.drew.cell? ⟨w.heap.size, 1, none⟩ = some (.slice (some ⟨b, o, none⟩) l.length c) := e1
              have w2 : wr.drew.cell? ⟨b2, o2 + k * 12 + 5, none⟩ = some (.string q.name) := f1
              have w3 : wr.drew.cell? ⟨b, o + i * 12 + 5, none⟩ = some (.string n.name) := f2
              go_big_region_o
              replace hX0 : Hid ((wr.drew).heap[w.heap.size]? = _) := hX0
              replace hB := hid (hB.out.trans ((Below.refl wr.heap.size wr).drew.mono hB.out.size))
              replace hown := hid (own_below hown.out (Below.refl wr.heap.size wr).drew)
              replace hr := hid (range_below hr.out (by rw [nod_cells]; simp) (Below.refl wr.heap.size wr).drew)
              clear w1 w2 w3 f1 f2 e1 k0 k1 k1' k2 k3 k4 k5 k6
              have hBdr := hid hB.out
              have hX0d := hX0.out
              have hrd := hr.out
              have hownd := hown.out
              generalize wr.drew = wd at hX0d hrd hownd hBdr ⊢
              go_wp2_with fail
              go_cut [8] (fun s8 wx => ∃ a8 c8, s8 = .slice a8 ((k + 1) + 1) c8 ∧ Hid (Below wd.drew.heap.size wd.drew wx) ∧ Hid (wx.ownsRow wd.drew.heap.size 71 12 (.slice a8 ((k + 1) + 1) c8) ((k + 1) + 1) (nodsL (acc.take ((k + 1)) ++ [n]))))
              case first => as_aux_lemma =>
                rename_i J K' hJ hK
                refine wp_region_noPanic ?_
                refine wp_region_held (S := Below wd.drew.heap.size wd.drew) mixed ?_
                refine (show wpAnyH Try.prog .any ops_rk9 _ _ _ _ _ _ → _ from fun h => h) ?_
                have hAt := NodsAt.of_own hownd
                obtain ⟨a', c', hv0, q1, q2⟩ := hAt.form
                simp only [Value.slice.injEq] at hv0
                rw [← hv0.2.2] at q1 q2
                unfold maxLen at q2
                refine rk9_all (w0 := wd.drew) (g := w.heap.size) (x := x) (b := b) (f := o) (c := c) (i := i) (k := (k + 1)) (m := m) (l := l) (acc := acc) (n := n) hX0d hrd hil hl hAt hm.out (by have := hmi.out; omega) hk (by have := hm.out; omega) (by omega) (fun _ _ _ _ _ h => h) (FrL.of_all (by rfl) rfl ⟨rfl, rfl, rfl, rfl, rfl, rfl, rfl, rfl, rfl, trivial⟩) (Below.refl _ _) (fun a w' a8 c8 hF hS8 ho8 => ?_)
                exact hK _ _ (Met.intro (hJ _ _ ⟨.slice a8 ((k + 1) + 1) c8, a.tmps.getD 9 undef, a.tmps.getD 10 undef, a.tmps.getD 11 undef, a.tmps.getD 12 undef, a.tmps.getD 13 undef, a.tmps.getD 14 undef, a.tmps.getD 15 undef, a.tmps.getD 16 undef, a.tmps.getD 17 undef, a.tmps.getD 18 undef, a.tmps.getD 19 undef, a.tmps.getD 20 undef, a.tmps.getD 21 undef, a.tmps.getD 22 undef, a.tmps.getD 23 undef, a.tmps.getD 24 undef, a.tmps.getD 25 undef, a.tmps.getD 26 undef, a.tmps.getD 27 undef, a.tmps.getD 28 undef, a.tmps.getD 29 undef, a.tmps.getD 30 undef, a.tmps.getD 31 undef, a.tmps.getD 32 undef, a.tmps.getD 33 undef, a.tmps.getD 34 undef, a.tmps.getD 35 undef, a.tmps.getD 36 undef, a.tmps.getD 37 undef, a.tmps.getD 38 undef, a.tmps.getD 39 undef, a.tmps.getD 40 undef, a.tmps.getD 41 undef, a.tmps.getD 42 undef, a.tmps.getD 43 undef, a.tmps.getD 44 undef, a.tmps.getD 45 undef, a.tmps.getD 46 undef, a.tmps.getD 47 undef, a.tmps.getD 48 undef, a.tmps.getD 49 undef, a.tmps.getD 50 undef, a.tmps.getD 51 undef, a.tmps.getD 52 undef, a.tmps.getD 53 undef, a.tmps.getD 54 undef, a.tmps.getD 55 undef, a.tmps.getD 56 undef, a.tmps.getD 57 undef, a.tmps.getD 58 undef, a.tmps.getD 59 undef, a.tmps.getD 60 undef, a.tmps.getD 61 undef, ⟨a8, c8, rfl, hid hS8, hid ho8⟩, frame_eq hF _ (by rfl) ⟨hF.get 0 _ rfl, hF.get 1 _ rfl, hF.get 2 _ rfl, hF.get 3 _ rfl, hF.get 4 _ rfl, hF.get 5 _ rfl, hF.get 6 _ rfl, hF.get 7 _ rfl, hF.get 8 _ rfl, hF.any 9 (by decide), hF.any 10 (by decide), hF.any 11 (by decide), hF.any 12 (by decide), hF.any 13 (by decide), hF.any 14 (by decide), hF.any 15 (by decide), hF.any 16 (by decide), hF.any 17 (by decide), hF.any 18 (by decide), hF.any 19 (by decide), hF.any 20 (by decide), hF.any 21 (by decide), hF.any 22 (by decide), hF.any 23 (by decide), hF.any 24 (by decide), hF.any 25 (by decide), hF.any 26 (by decide), hF.any 27 (by decide), hF.any 28 (by decide), hF.any 29 (by decide), hF.any 30 (by decide), hF.any 31 (by decide), hF.any 32 (by decide), hF.any 33 (by decide), hF.any 34 (by decide), hF.any 35 (by decide), hF.any 36 (by decide), hF.any 37 (by decide), hF.any 38 (by decide), hF.any 39 (by decide), hF.any 40 (by decide), hF.any 41 (by decide), hF.any 42 (by decide), hF.any 43 (by decide), hF.any 44 (by decide), hF.any 45 (by decide), hF.any 46 (by decide), hF.any 47 (by decide), hF.any 48 (by decide), hF.any 49 (by decide), hF.any 50 (by decide), hF.any 51 (by decide), hF.any 52 (by decide), hF.any 53 (by decide), hF.any 54 (by decide), hF.any 55 (by decide), hF.any 56 (by decide), hF.any 57 (by decide), hF.any 58 (by decide), hF.any 59 (by decide), hF.any 60 (by decide), hF.any 61 (by decide), hF.get 62 _ rfl, trivial⟩⟩))
              case rest =>
                obtain ⟨a8, c8, rfl, hB8, ho8⟩ := hcut
                have hX0e : wd.drew.heap[w.heap.size]? = some (.cells #[.int .u64 (x : Int), .slice (some ⟨b, o, none⟩) l.length c] 32 (0, 0)) := hX0d
                have hX8 := hid ((hB8.out.block _ (lt_of_block hX0e)).trans hX0e)
                have hownd' : wd.drew.ownsRow (w.heap.size + 1) 71 12 (.slice (some ⟨b2, o2, none⟩) m oc) m (nodsL acc) := hownd
                have hown8 := hid (own_below hownd' hB8.out)
                have hge : w.heap.size + 1 ≤ wd.drew.heap.size := lt_of_block hX0e
                have hBd : Below w.heap.size w wd.drew := by have := hBdr.out; exact this.drew
                have hBge := hB8.out.size
                replace hge := hid hge
                replace hBge := hid hBge
                replace hBd := hid hBd
                clear hX0d hX0e hownd hownd' hrd
                generalize wd.drew = wd at *
                go_upto_region 10 with fail
                refine wp_region_list ?_
                refine (show wpList Try.prog ops_rk10 _ l_rk10 _ wc → _ from fun h => h) ?_
                have hAt := NodsAt.of_own hown8.out
                obtain ⟨a', c', hv0, q1, q2⟩ := hAt.form
                simp only [Value.slice.injEq] at hv0
                rw [← hv0.2.2] at q1 q2
                unfold maxLen at q2
                refine rk10_all (g := w.heap.size) (i := i) (k := (k + 1)) hAt hm.out (by have := hmi.out; omega) (by omega) (by omega) (by have := hm.out; omega) ho8.out hBge.out (FrL.of_all (by rfl) rfl ⟨rfl, rfl, rfl, rfl, rfl, rfl, rfl, rfl, rfl, rfl, trivial⟩) (fun a w9 a9 c9 hF h9 g9 => ?_)
                have he := frame_eq hF [.agg #[.int .u64 (x : Int), .slice (some ⟨b, o, none⟩) l.length c], .int .u64 (d : Int), .pointer (some ⟨w.heap.size, 0, none⟩), undef, .slice none 0 0, .slice a9 (m + 1) c9, .int .i64 (i : Int), a.tmps.getD 7 undef, a.tmps.getD 8 undef, a.tmps.getD 9 undef, a.tmps.getD 10 undef, a.tmps.getD 11 undef, a.tmps.getD 12 undef, a.tmps.getD 13 undef, a.tmps.getD 14 undef, a.tmps.getD 15 undef, a.tmps.getD 16 undef, a.tmps.getD 17 undef, a.tmps.getD 18 undef, a.tmps.getD 19 undef, a.tmps.getD 20 undef, a.tmps.getD 21 undef, a.tmps.getD 22 undef, a.tmps.getD 23 undef, a.tmps.getD 24 undef, a.tmps.getD 25 undef, a.tmps.getD 26 undef, a.tmps.getD 27 undef, a.tmps.getD 28 undef, a.tmps.getD 29 undef, a.tmps.getD 30 undef, a.tmps.getD 31 undef, a.tmps.getD 32 undef, a.tmps.getD 33 undef, a.tmps.getD 34 undef, a.tmps.getD 35 undef, a.tmps.getD 36 undef, a.tmps.getD 37 undef, a.tmps.getD 38 undef, a.tmps.getD 39 undef, a.tmps.getD 40 undef, a.tmps.getD 41 undef, a.tmps.getD 42 undef, a.tmps.getD 43 undef, a.tmps.getD 44 undef, a.tmps.getD 45 undef, a.tmps.getD 46 undef, a.tmps.getD 47 undef, a.tmps.getD 48 undef, a.tmps.getD 49 undef, a.tmps.getD 50 undef, a.tmps.getD 51 undef, a.tmps.getD 52 undef, a.tmps.getD 53 undef, a.tmps.getD 54 undef, a.tmps.getD 55 undef, a.tmps.getD 56 undef, a.tmps.getD 57 undef, a.tmps.getD 58 undef, a.tmps.getD 59 undef, a.tmps.getD 60 undef, a.tmps.getD 61 undef, undef] (by rfl) ⟨hF.get 0 _ rfl, hF.get 1 _ rfl, hF.get 2 _ rfl, hF.get 3 _ rfl, hF.get 4 _ rfl, hF.get 5 _ rfl, hF.get 6 _ rfl, hF.any 7 (by decide), hF.any 8 (by decide), hF.any 9 (by decide), hF.any 10 (by decide), hF.any 11 (by decide), hF.any 12 (by decide), hF.any 13 (by decide), hF.any 14 (by decide), hF.any 15 (by decide), hF.any 16 (by decide), hF.any 17 (by decide), hF.any 18 (by decide), hF.any 19 (by decide), hF.any 20 (by decide), hF.any 21 (by decide), hF.any 22 (by decide), hF.any 23 (by decide), hF.any 24 (by decide), hF.any 25 (by decide), hF.any 26 (by decide), hF.any 27 (by decide), hF.any 28 (by decide), hF.any 29 (by decide), hF.any 30 (by decide), hF.any 31 (by decide), hF.any 32 (by decide), hF.any 33 (by decide), hF.any 34 (by decide), hF.any 35 (by decide), hF.any 36 (by decide), hF.any 37 (by decide), hF.any 38 (by decide), hF.any 39 (by decide), hF.any 40 (by decide), hF.any 41 (by decide), hF.any 42 (by decide), hF.any 43 (by decide), hF.any 44 (by decide), hF.any 45 (by decide), hF.any 46 (by decide), hF.any 47 (by decide), hF.any 48 (by decide), hF.any 49 (by decide), hF.any 50 (by decide), hF.any 51 (by decide), hF.any 52 (by decide), hF.any 53 (by decide), hF.any 54 (by decide), hF.any 55 (by decide), hF.any 56 (by decide), hF.any 57 (by decide), hF.any 58 (by decide), hF.any 59 (by decide), hF.any 60 (by decide), hF.any 61 (by decide), hF.get 62 _ rfl, trivial⟩
                rw [he]
                clear he
                generalize a.tmps.getD 7 undef = u7
                generalize a.tmps.getD 8 undef = u8
                generalize a.tmps.getD 9 undef = u9
                generalize a.tmps.getD 10 undef = u10
                generalize a.tmps.getD 11 undef = u11
                generalize a.tmps.getD 12 undef = u12
                generalize a.tmps.getD 13 undef = u13
                generalize a.tmps.getD 14 undef = u14
                generalize a.tmps.getD 15 undef = u15
                generalize a.tmps.getD 16 undef = u16
                generalize a.tmps.getD 17 undef = u17
                generalize a.tmps.getD 18 undef = u18
                generalize a.tmps.getD 19 undef = u19
                generalize a.tmps.getD 20 undef = u20
                generalize a.tmps.getD 21 undef = u21
                generalize a.tmps.getD 22 undef = u22
                generalize a.tmps.getD 23 undef = u23
                generalize a.tmps.getD 24 undef = u24
                generalize a.tmps.getD 25 undef = u25
                generalize a.tmps.getD 26 undef = u26
                generalize a.tmps.getD 27 undef = u27
                generalize a.tmps.getD 28 undef = u28
                generalize a.tmps.getD 29 undef = u29
                generalize a.tmps.getD 30 undef = u30
                generalize a.tmps.getD 31 undef = u31
                generalize a.tmps.getD 32 undef = u32
                generalize a.tmps.getD 33 undef = u33
                generalize a.tmps.getD 34 undef = u34
                generalize a.tmps.getD 35 undef = u35
                generalize a.tmps.getD 36 undef = u36
                generalize a.tmps.getD 37 undef = u37
                generalize a.tmps.getD 38 undef = u38
                generalize a.tmps.getD 39 undef = u39
                generalize a.tmps.getD 40 undef = u40
                generalize a.tmps.getD 41 undef = u41
                generalize a.tmps.getD 42 undef = u42
                generalize a.tmps.getD 43 undef = u43
                generalize a.tmps.getD 44 undef = u44
                generalize a.tmps.getD 45 undef = u45
                generalize a.tmps.getD 46 undef = u46
                generalize a.tmps.getD 47 undef = u47
                generalize a.tmps.getD 48 undef = u48
                generalize a.tmps.getD 49 undef = u49
                generalize a.tmps.getD 50 undef = u50
                generalize a.tmps.getD 51 undef = u51
                generalize a.tmps.getD 52 undef = u52
                generalize a.tmps.getD 53 undef = u53
                generalize a.tmps.getD 54 undef = u54
                generalize a.tmps.getD 55 undef = u55
                generalize a.tmps.getD 56 undef = u56
                generalize a.tmps.getD 57 undef = u57
                generalize a.tmps.getD 58 undef = u58
                generalize a.tmps.getD 59 undef = u59
                generalize a.tmps.getD 60 undef = u60
                generalize a.tmps.getD 61 undef = u61
                clear hF hAt hv0 q1 q2 a
                have hm0 := hm.out
                have hb9 : Below wd.heap.size wd w9 := hB8.out.grown g9 hBge.out (fun j hj => (ho8.out.lt j hj).1)
                have hB9 := hid (sn hBd.out hb9)
                have hlt0 : w.heap.size < wd.heap.size := by have := hge.out; omega
                have hX9 := hid ((hb9.block _ hlt0).trans ((hB8.out.block _ hlt0).symm.trans hX8.out))
                have h9' := hid (own_monoK h9 hge.out)
                have hin : ∀ q ∈ acc, q ∈ kidsOf (l.take i) d := fun q hq => (hacc.out.1.mem_iff).1 hq
                have hacc9 := hid (show (insR acc n ((k + 1))).Perm (kidsOf (l.take (i + 1)) d) ∧ (SortL l → Srt leNP (insR acc n ((k + 1)))) from
                  ⟨by rw [ha2.out]; exact (insR_perm _ _ _).trans (hacc.out.1.append_right _), fun hs => insR_srt (hacc.out.2 hs) (fun q hq => Nat.le_of_lt (hset.out hs q (hin q hq))) (fun _ q2 hq2 => by have : acc[k + 1 - 1]? = acc[k]? := rfl; rw [this, hq.out] at hq2; cases hq2; exact hlt.out) hgt.out (by omega)⟩)
                have hl9 := hid (show m + 1 = (insR acc n ((k + 1))).length by rw [insR_length, hm0])
                clear h9 g9 hb9 ho8 hB8 hX8 hown8 hBd hm0 hBge hin
                go_wp2_with fail
                go_roundw
                case rel => exact ⟨i + 1, m + 1, _, by omega, by go_num, hl9.out, hid (by have := hmi.out; omega), hacc9, hX9, hB9, h9'⟩
                case measure => simp [intOf]; omega
    --OUTER
    · obtain rfl : i = l.length := by omega
      have hp := hacc.out
      rw [List.take_length] at hp
      have hN := NodsAt.of_own hown.out
      replace hp := hid hp
      replace hN := hid hN
      go_wp2_with fail
      go_ret
      exact ⟨_, acc, rfl, hN.out, hB.out, hp.out.2, hp.out.1⟩
end
end Go.Proofs.Ytpmlhmficmillaa

namespace Go.Proofs.Ytpmlhmficmillaa
section
open Go.RowKit
set_option maxRecDepth 100000
set_option linter.unusedVariables false

theorem runlink_any (v : Value) (x : Nat) (l : List Nod) (p : Nat) (who : ByteArray) (now : Nat) (w : World) (hv : NodsAt w v l) (ht : TrOk l) (hne : l ≠ []) :
    Calls Try.prog 39 #[.agg #[.int .u64 (x : Int), v], .int .u64 (p : Int), .string who, .int .u32 (now : Int)] w (RErr w (unlinkT ⟨x, l⟩ p who now)) := by
  refine runlink_of v x l p who now w hv ht hne fun Z u hu => ?_
  refine (rkids_any u x l p Z hu (by have := ht.few; omega)).mono ?_
  rintro e w' ⟨r, ks, rfl, h1, h2, h3, h4⟩
  obtain ⟨a, c, rfl, _, _⟩ := h1.form
  exact ⟨a, c, by rw [h4.length_eq], h2⟩
end
end Go.Proofs.Ytpmlhmficmillaa
