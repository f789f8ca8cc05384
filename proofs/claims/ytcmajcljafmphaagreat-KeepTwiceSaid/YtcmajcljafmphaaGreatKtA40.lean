/- slices.Insert of nodes, in the middle: one node put into a row of one's own. Conditions: at most a thousand nodes.
keep.sector: bytes with 0 behind. Conditions: in the statements. -/
import Derived.Test.YtcmajcljafmphaaGreatKtA07
import Derived.Lib.AppendZerosOnto
import Derived.Lib.Overlaps
import Derived.Laws.Externs
import Derived.Laws.CopyRow
import Derived.Laws.CopyOwn
import Derived.Test.YtcmajcljafmphaaGreatKtA39
import Derived.Deep.WholeRow
import Derived.Laws.MakeOwn
namespace Go.Proofs.YtcmajcljafmphaaGreat
section
open Go.RowKit
set_option maxRecDepth 100000
set_option linter.unusedVariables false

theorem run_copy_rowk {P : Program} (w : World) (dT sT ty elem : TypeId) (k g o dLen dCap : Nat) (a : Addr) (sLen sCap : Nat) (cur : Array Value) (t : TypeId) (cs : List Value)
    (hu : P.underlying dT = some (.slice elem)) (hs : (P.info? elem).map (·.size) = some k)
    (hg : w.heap[g]? = some (.cells cur t (0, 0))) (hn : cs.length = Nat.min sLen dLen * k)
    (hsrc : ∀ j v, cs[j]? = some v → w.cell? (a.add j) = some v) (hfit : o + cs.length ≤ cur.size) (h1 : ∀ v ∈ cs, v.oneCell' = true) :
    (Builtin.copy_ #[dT, sT] ty #[.slice (some ⟨g, o, none⟩) dLen dCap, .slice (some a) sLen sCap]).run P w =
      .ok (goInt (Nat.min sLen dLen)) (w.setRow g (cur.toList.take o ++ cs ++ cur.toList.drop (o + cs.length)).toArray) := by
  have hl := run_loadCells_list (P := P) w a cs hsrc
  have hst := run_storeCells_at P g o t cs 0 cur w hg (by simpa using hfit) h1
  cases hq : P.info? elem with
  | none => simp [hq] at hs
  | some i =>
    have hi : i.size = k := by simpa [hq] using hs
    simp [Builtin.copy_, run_underlying hu, Builtin.lenOf, Builtin.firstCells, sizeOf, typeInfo, hq, hi, ← hn, hl, hst]
theorem NodsAt.pre {w : World} {g c : Nat} {cur : Array Value} {t : TypeId} {fr : Nat × Nat} {l : List Nod} (hg : w.heap[g]? = some (.cells cur t fr)) (hp : cur.toList.take (l.length * 12) = nodsL l) (hc : l.length ≤ c) (hm : c ≤ maxLen) : NodsAt w (.slice (some ⟨g, 0, none⟩) l.length c) l := by
  refine ⟨by rw [nodsL_length], _, _, rfl, hc, hm, (fun h => by cases h), fun i u hu => ⟨g, 0, rfl, ?_⟩⟩
  have h1 : (cur.toList.take (l.length * 12))[i]? = some u := by rw [hp]; exact hu
  have hi : i < l.length * 12 := by
    have := (List.getElem?_eq_some_iff.1 hu).1
    rw [nodsL_length] at this; exact this
  rw [List.getElem?_take_of_lt hi] at h1
  rw [Nat.zero_add]
  simp [World.cell?, hg]
  simpa using h1
end
end Go.Proofs.YtcmajcljafmphaaGreat

namespace Go.Proofs.YtcmajcljafmphaaGreat
section
open Go.RowKit
set_option maxRecDepth 100000
set_option linter.unusedVariables false

def sectL (l : List UInt8) : List UInt8 := l ++ List.replicate (256 - l.length) 0
set_option maxHeartbeats 800000 in
theorem ksector_any (v : Value) (l : List UInt8) (w : World) (hv : BytesAt w v l) (hl : l.length ≤ 256) : Calls Tryz.prog 57 #[v] w (RetNew w (sectL l)) := by
  obtain ⟨i0, hi, hz0, hz1, hz2⟩ := info_parts infoU8
  have hmk := run_makeSlice (P := Tryz.prog) (w := w) 53 5 i0 (.int .u8 0) Tryz.underlying53 hi hz0 .i64 .i64 256 256 (by decide) (by decide) (by rw [hz1]; decide) (by rw [hz2]; decide) (by decide)
  obtain ⟨rl, a, c, rfl, h1, h2, h3, h4, h5⟩ := id hv
  have hb0 : Below w.heap.size w (w.alloc (.cells (madeCells #[.int .u8 0] 256) 5)) := (Below.refl _ _).alloc (Nat.le_refl _) _
  have hinfo : (Tryz.prog.info? 5).map (·.size) = some 1 := by rw [hi]; simp [hz1]
  have hcopy : (Builtin.copy_ #[53, 53] 3 #[.slice (some ⟨w.heap.size, 0, none⟩) 256 256, .slice a l.length c]).run Tryz.prog (w.alloc (.cells (madeCells #[.int .u8 0] 256) 5)) = .ok (.int .i64 (l.length : Int)) (w.alloc (.cells ((sectL l).map byteV).toArray 5)) := by
    have hlist : (madeCells #[Value.int .u8 0] 256).toList = List.replicate 256 (.int .u8 0) := toList_madeCells_one _ _
    cases a with
    | none =>
      have hc := h3 rfl
      obtain rfl : l = [] := List.eq_nil_of_length_eq_zero (by omega)
      have e : madeCells #[Value.int .u8 0] 256 = ((sectL []).map byteV).toArray := by
        apply Array.toList_inj.1; rw [hlist]; rfl
      rw [← e]
      simp [Builtin.copy_, run_underlying Tryz.underlying53, Builtin.lenOf, Builtin.firstCells, sizeOf, typeInfo, hi, storeCells, goInt]
    | some ad =>
      obtain ⟨b, o, hab⟩ : ∃ b o, ad = ⟨b, o, none⟩ := ⟨ad.block, ad.off, by have := (h4 ad rfl).1; cases ad; simp_all⟩
      subst hab
      have hsrc : ∀ j u, (l.map byteV)[j]? = some u → (w.alloc (.cells (madeCells #[.int .u8 0] 256) 5)).cell? ((⟨b, o, none⟩ : Addr).add j) = some u := fun j u hu => by
        obtain ⟨b', o', e, hc⟩ := h5 j u hu
        cases e
        rw [add_plain']
        exact (hb0.cell (p := ⟨b, o + j, none⟩) (h4 _ rfl).2).trans hc
      have hr := run_copy_rowk (P := Tryz.prog) (w.alloc (.cells (madeCells #[.int .u8 0] 256) 5)) 53 53 3 5 1 w.heap.size 0 256 256 ⟨b, o, none⟩ l.length c _ 5 (l.map byteV) Tryz.underlying53 hinfo (heap_alloc_new _ _) (by rw [List.length_map, Nat.mul_one]; exact (Nat.min_eq_left hl).symm) hsrc (by rw [size_madeCells]; simp; omega) (bytes_oneCell l)
      rw [World.setRow_alloc_new, hlist] at hr
      rw [hr]
      have e1 : Nat.min l.length 256 = l.length := Nat.min_eq_left hl
      have e2 : (List.take 0 (List.replicate 256 (Value.int .u8 0)) ++ l.map byteV ++ List.drop (0 + (l.map byteV).length) (List.replicate 256 (Value.int .u8 0))) = (sectL l).map byteV := by
        rw [List.drop_replicate]; unfold sectL; simp only [List.take_zero, List.nil_append, List.map_append, List.map_replicate, Nat.zero_add, List.length_map]; rfl
      rw [e1, e2]; rfl
  replace hv := hid hv
  replace rl := hid rl
  replace h5 := hid h5
  go_enter Tryz.func57, Tryz.ntmps57
  go_wp2_with fail
  go_ret
  refine ⟨_, rfl, ⟨?_, fun k hk => by cases hk; exact Nat.le_refl _⟩, (Below.refl _ _).alloc (Nat.le_refl _) _⟩
  have e3 : (sectL l).length = 256 := by unfold sectL; simp; omega
  unfold BytesAt
  rw [e3]
  exact RowAt.of_block (n := 256) (k := 1) (cs := ((sectL l).map byteV).toArray) (fr := (0, 0)) (heap_alloc_new _ _) (by simp [e3]) (by decide)
end
end Go.Proofs.YtcmajcljafmphaaGreat
