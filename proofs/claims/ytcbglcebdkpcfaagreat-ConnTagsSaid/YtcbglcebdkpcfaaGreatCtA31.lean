/- A message whose texts are left out, in the reference (bare). Conditions: at most thirty names.
What Of of layers 3 and 4 return. No condition. -/
import Derived.Test.YtcbglcebdkpcfaaGreatCtA30
import Derived.Test.YtcbglcebdkpcfaaGreatCeA15
import Derived.Deep.DeepCutAuto
import Derived.Laws.CopyOwn
import Derived.Test.YtcbglcebdkpcfaaGreatCeA04
import Derived.Test.YtcbglcebdkpcfaaGreatCeA06
import Derived.BigQuiet
import Derived.Deep.QuietTactic
import Derived.Deep.RegionHeld3
namespace Go.Proofs.YtcbglcebdkpcfaaGreat
section
open Go.RowKit
set_option maxRecDepth 100000
set_option linter.unusedVariables false
def zeroR : Array Value := zeroM.rcells (.slice none 0 0) (.slice none 0 0) ⟨#[]⟩
theorem zeroR_lit : zeroR = #[.int .u8 0, .int .u16 0, .int .u32 0, .string ⟨#[]⟩, .int .u32 0, .int .u32 0, .int .u32 0, .string ⟨#[]⟩, .string ⟨#[]⟩, .string ⟨#[]⟩, .int .u16 0, .slice none 0 0, .slice none 0 0, .int .u8 0, .int .u32 0, .int .u64 0, .int .u32 0, .int .u8 0, .int .u32 0, .string ⟨#[]⟩, .int .u64 0, .int .u32 0, .string ⟨#[]⟩, .int .u16 0, .int .u32 0, .int .u8 0, .int .u32 0, .int .u64 0, .int .u32 0, .int .u32 0, .int .u32 0, .int .u64 0, .string ⟨#[]⟩, .string ⟨#[]⟩, .string ⟨#[]⟩, .string ⟨#[]⟩] := rfl
structure BareSt (w W : World) (cs : Array Value) : Prop where
  one : W.heap[w.heap.size]? = some (.cells cs 70 (0, 0))
  two : W.heap[w.heap.size + 1]? = some (.cells zeroR 70 (0, 0))
  bel : Below w.heap.size w W
theorem BareSt.start {w : World} {cs : Array Value} : BareSt w ((w.alloc (.cells cs 70)).alloc (.cells zeroR 70)) cs :=
  ⟨by rw [heap_alloc_old _ _ (by simp), heap_alloc_new], heap2 _ _ _, ((Below.refl w.heap.size w).alloc (Nat.le_refl _) _).alloc (by simp) _⟩
theorem BareSt.set {w W : World} {cs cs2 : Array Value} (h : BareSt w W cs) (i : Nat) (v : Value) (hc : cs.setIfInBounds i v = cs2) : BareSt w (W.setCell ⟨w.heap.size, i, none⟩ v) cs2 := by
  subst hc
  exact ⟨block_set h.one i v, (block_set_other (p := ⟨w.heap.size, i, none⟩) (u := v) (by show _ ≠ _; simp)).trans h.two, h.bel.setCell (p := ⟨w.heap.size, i, none⟩) (Nat.le_refl _) _⟩
theorem BareSt.up {w W W2 : World} {cs : Array Value} (h : BareSt w W cs) (hb : Below (w.heap.size + 2) W W2) : BareSt w W2 cs :=
  ⟨(hb.block _ (by omega)).trans h.one, (hb.block _ (by omega)).trans h.two, h.bel.trans (hb.mono (by omega))⟩

end
end Go.Proofs.YtcbglcebdkpcfaaGreat

namespace Go.Proofs.YtcbglcebdkpcfaaGreat
section
open Go.RowKit
set_option maxRecDepth 100000

set_option maxHeartbeats 400000 in
theorem qid_of_any (t v p : Int) (w : World) : Calls Tryz.prog 41 #[.agg #[.int .u8 t, .int .u32 v, .int .u64 p]] w fun e w' => e = .returned (.agg #[.int .u8 t, .int .u32 v, .int .u64 p]) ∧ Below w.heap.size w w' := by
  go_enter Tryz.func41, Tryz.ntmps41
  go_wp2
  refine bodyPost_ret (v := .agg #[.int .u8 t, .int .u32 v, .int .u64 p]) (by simp [results, Tryz.results41, go_sem]) rfl ⟨rfl, ?_⟩
  exact ((Below.refl _ _).alloc (Nat.le_refl _) _).alloc (by simp) _

theorem kc {w w' : World} {a : Addr} {u : Value} (hb : Below w.heap.size w w') (h : w.cell? a = some u) : w'.cell? a = some u := (Keeps.of_below hb).cells _ _ h

set_option maxHeartbeats 1600000 in
theorem of_any (s : Stat) (w : World) : Calls Tryz.prog 42 #[.agg s.cells] w fun e w' => e = .returned (.agg s.cells) ∧ Below w.heap.size w w' := by
  obtain ⟨kind, dev, qt, qv, qp, mode, atm, mtm, len, name, uid, gid, muid⟩ := s
  simp only [Stat.cells] at *
  go_enter Tryz.func42, Tryz.ntmps42
  go_wp2
  go_region_held3 (fun w' => w'.cell? ⟨w.heap.size, 0, none⟩ = some (.int .u16 (kind : Int)) ∧ w'.cell? ⟨w.heap.size, 1, none⟩ = some (.int .u32 (dev : Int))
    ∧ w'.cell? ⟨w.heap.size, 2, none⟩ = some (.int .u8 (qt : Int)) ∧ w'.cell? ⟨w.heap.size, 3, none⟩ = some (.int .u32 (qv : Int)) ∧ w'.cell? ⟨w.heap.size, 4, none⟩ = some (.int .u64 (qp : Int))
    ∧ w'.cell? ⟨w.heap.size, 5, none⟩ = some (.int .u32 (mode : Int)) ∧ w'.cell? ⟨w.heap.size, 6, none⟩ = some (.int .u32 (atm : Int)) ∧ w'.cell? ⟨w.heap.size, 7, none⟩ = some (.int .u32 (mtm : Int)) ∧ w'.cell? ⟨w.heap.size, 8, none⟩ = some (.int .u64 (len : Int))
    ∧ w'.cell? ⟨w.heap.size, 9, none⟩ = some (.string name) ∧ w'.cell? ⟨w.heap.size, 10, none⟩ = some (.string uid) ∧ w'.cell? ⟨w.heap.size, 11, none⟩ = some (.string gid) ∧ w'.cell? ⟨w.heap.size, 12, none⟩ = some (.string muid))
    (first | go_keep | (have hH := ‹World.cell? _ ⟨_, 0, none⟩ = some _ ∧ _›; exact ⟨kc hb5 hH.1, kc hb5 hH.2.1, kc hb5 hH.2.2.1, kc hb5 hH.2.2.2.1, kc hb5 hH.2.2.2.2.1, kc hb5 hH.2.2.2.2.2.1, kc hb5 hH.2.2.2.2.2.2.1, kc hb5 hH.2.2.2.2.2.2.2.1, kc hb5 hH.2.2.2.2.2.2.2.2.1, kc hb5 hH.2.2.2.2.2.2.2.2.2.1, kc hb5 hH.2.2.2.2.2.2.2.2.2.2.1, kc hb5 hH.2.2.2.2.2.2.2.2.2.2.2.1, kc hb5 hH.2.2.2.2.2.2.2.2.2.2.2.2⟩))
    ((go_at_call 41; refine (qid_of_any _ _ _ _).mono ?_; rintro e w5 ⟨rfl, hb5⟩; obtain ⟨hc5, hf5⟩ := bcell hb5; have hz5 : w.heap.size + 1 < w5.heap.size := by have := hb5.size; simp at this; omega))
  go_wp2_with fail
  have hbox : w5.heap[w.heap.size + 1]? = some (.cells #[.int .u16 0, .int .u32 0, .int .u8 0, .int .u32 0, .int .u64 0, .int .u32 0, .int .u32 0, .int .u32 0, .int .u64 0, .string ⟨#[]⟩, .string ⟨#[]⟩, .string ⟨#[]⟩, .string ⟨#[]⟩] 68 (0, 0)) := by
    rw [hb5.block _ (by simp)]
    exact heap2 w _ _
  refine bodyPost_ret (results_cell_row rfl _ _ (w.heap.size + 1) _ _ _ _ rfl (set13 hbox rfl) Tryz.underlying68 rfl (by kernel_rfl)) rfl ?_
  exact ⟨rfl, below13 (by omega) ((((Below.refl _ _).alloc (Nat.le_refl _) _).alloc (by simp) _).drew.trans (hb5.mono (by simp; omega)))⟩

end
end Go.Proofs.YtcbglcebdkpcfaaGreat
