/- What the methods of the reference In do, under bounds on lengths that each theorem names. No further condition.
What Num and Text of the reference return, under bounds on lengths that each theorem names. No further condition.
What the reference's QidBytes and StatBytes return, for every record whose texts are at most 200 bytes each. No further condition. -/
import Derived.Test.YtcbglcebdkpcfaaGreatCeA03
import Derived.Deep.QuietTactic
import Derived.BigQuiet
import Derived.Deep.RegionHeld3
import Derived.Test.YtcbglcebdkpcfaaGreatCeA07
import Derived.Test.YtcbglcebdkpcfaaGreatCeA04
import Derived.Test.YtcbglcebdkpcfaaGreatCeA19
namespace Go.Proofs.YtcbglcebdkpcfaaGreat
section
open Go.RowKit
set_option maxRecDepth 100000
end
end Go.Proofs.YtcbglcebdkpcfaaGreat

namespace Go.Proofs.YtcbglcebdkpcfaaGreat
section
open Go.RowKit
set_option maxRecDepth 100000

def RetOwn (w : World) (l : List UInt8) (e : Ending) (w' : World) : Prop := ∃ v', e = .returned v' ∧ w'.ownsRow w.heap.size 5 1 v' l.length (l.map byteV) ∧ Below w.heap.size w w'

set_option maxHeartbeats 1200000 in
theorem ref_num_any (n v : Nat) (w : World) (_hv : v < 18446744073709551616) (hn1 : 1 ≤ n) (hn : n ≤ 8) :
    Calls Tryz.prog 63 #[.int .i64 (n : Int), .int .u64 (v : Int)] w (RetOwn w (numBytes v n)) := by
  go_enter Tryz.func63, Tryz.ntmps63
  go_wp2_with fail
  go_loopw [5, 6] (fun x i wr => ∃ (k : Nat) (ys : List UInt8), k ≤ n ∧ i = .int .i64 (k : Int) ∧ wr.ownsRow w.heap.size 5 1 x ys.length (ys.map byteV) ∧ Hid (ys = numBytes v k) ∧ ys.length ≤ 8 ∧ Below w.heap.size w wr) (fun _ i _ => n - (intOf i).toNat)
  case atStart => exact ⟨0, [], by omega, rfl, World.ownsRow_nil _ _ _ _, hid rfl, by simp, Below.refl _ _⟩
  case round =>
    obtain ⟨k, ys, hk, rfl, hown, hys, hyl, hb⟩ := hrel
    by_cases hlt : k < n
    · have hbv : byteV (numAt v k) = .int .u8 (IntKind.u8.wrap ((v : Int) / 2 ^ (8 * k))) := byteV_numAt v k
      have hblk : ∀ o, (wr.alloc o).heap[wr.heap.size]? = some o := fun o => heap_alloc_new _ _
      replace hbv := hid hbv
      go_wp2_with (at_builtin; refine wpList_append_row elemU8 _ rfl (.tmp 19) (.tmp 26) rfl w.heap.size u5 ys.length (ys.map byteV) rfl (hown.alloc _) (.slice (some ⟨wr.heap.size, 0, none⟩) 1 1) 1 [.int .u8 (IntKind.u8.wrap ((v : Int) / 2 ^ (8 * k)))] rfl (RowAt.of_block (hblk _) (by simp) (by unfold maxLen; omega)) (by intro u hu; rw [List.mem_singleton] at hu; subst hu; rfl) (by unfold maxLen; omega) (by omega) (by have := hb.size; simp; omega) ?_)
      intro a' c' w' h2 h3
      have hb' : Below w.heap.size w w' := (hb.alloc hb.size _).grown h3 (by have := hb.size; simp; omega) (fun j hj => (hown.lt j hj).1)
      have h4 : w'.ownsRow w.heap.size 5 1 (.slice a' (ys.length + 1) c') (ys ++ [numAt v k]).length ((ys ++ [numAt v k]).map byteV) := by rw [← hbv.out] at h2; simpa using h2
      replace h4 := hid h4
      clear h2 h3
      go_wp2_with fail
      go_roundw
      case rel => exact ⟨k + 1, ys ++ [numAt v k], by omega, by go_num, h4.out, hid (by rw [hys.out]; rfl), by rw [hys.out, List.length_append, numBytes_length]; simp; omega, hb'⟩
      case measure => simp [intOf]; omega
    · obtain rfl : k = n := by omega
      go_wp2_with fail
      go_ret
      exact ⟨_, rfl, by rw [← hys.out]; exact hown, hb⟩
def RetBE (w : World) (l : List UInt8) (en : Nat) (e : Ending) (w' : World) : Prop := ∃ v', e = .returned (.tuple #[v', .int .i64 (en : Int)]) ∧ BytesAt w' v' l ∧ Below w.heap.size w w'


theorem u8info : ∃ i, Tryz.prog.info? 5 = some i ∧ i.zero = some (.int .u8 0) ∧ i.size = 1 ∧ i.bytes = 1 := by
  obtain ⟨i0, hi, hz0, hz1, hz2⟩ := info_parts infoU8
  exact ⟨i0, hi, hz0, hz1, hz2⟩

set_option maxHeartbeats 800000 in
theorem ref_text_any (s : ByteArray) (w : World) (hs : s.size ≤ 1000000) :
    Calls Tryz.prog 85 #[.string s] w (RetBE w (putTextR s) (mayN s)) := by
  have hml : s.size ≤ maxLen := by unfold maxLen; omega
  have E := mayN_eq s
  by_cases h64 : 64 < s.size
  · rw [if_pos h64] at E
    have hp := hid (putTextR_no (s := s) (by omega))
    replace E := hid E
    go_enter Tryz.func85, Tryz.ntmps85
    go_wp2_with fail
    go_ret2
    exact ⟨_, by rw [E.out]; rfl, by rw [hp.out]; exact RowAt.nil, Below.refl _ _⟩
  rw [if_neg h64] at E
  cases hv : validB s with
  | false =>
    rw [hv] at E
    have hp := hid (putTextR_no (s := s) (by rw [E]; simp))
    replace E := hid E
    replace hv := hid hv
    go_enter Tryz.func85, Tryz.ntmps85
    go_wp2_with fail
    refine (ref_valid_any s w hml).mono ?_
    rw [hv.out]
    rintro e w1 ⟨rfl, rfl⟩
    go_wp2_with fail
    go_ret2
    exact ⟨_, by rw [E.out]; rfl, by rw [hp.out]; exact RowAt.nil, Below.refl _ _⟩
  | true =>
    rw [hv] at E
    have hp := hid (putTextR_ok (s := s) E)
    replace E := hid E
    replace hv := hid hv
    obtain ⟨i0, hi, hz0, hz1, hz2⟩ := u8info
    go_enter Tryz.func85, Tryz.ntmps85
    go_wp2_with fail
    refine (ref_valid_any s w hml).mono ?_
    rw [hv.out]
    rintro e w1 ⟨rfl, rfl⟩
    go_wp2_with fail
    refine (ref_num_any 2 s.size w (by omega) (by omega) (by omega)).mono ?_
    rintro e w1 ⟨v1, rfl, hown, hb1⟩
    have hnl := numBytes_length s.size 2
    rw [hnl] at hown
    replace hnl := hid hnl
    go_wp2_with (at_builtin; refine Lib.wpList_append_own_string (P := Tryz.prog) _ rfl (.tmp 15) (.tmp 16) 29 9 rfl w.heap.size 5 i0 Tryz.underlying29 Tryz.underlying9 hi hz0 hz1 hz2 v1 2 ((numBytes s.size 2).map byteV) rfl hown s rfl (by unfold maxLen; omega) (by omega) hb1.size ?_)
    intro v2 w2 h2 h3 _
    have hb2 := hb1.grown h3 hb1.size (fun k hk => (hown.lt k hk).1)
    go_wp2_with fail
    go_ret2
    refine ⟨v2, by rw [E.out]; rfl, by rw [hp.out]; exact BytesAt.of_own h2 (by unfold putText Lib.strCells; rw [List.map_append]; rfl), hb2⟩
end
end Go.Proofs.YtcbglcebdkpcfaaGreat

namespace Go.Proofs.YtcbglcebdkpcfaaGreat
section
open Go.RowKit
set_option maxRecDepth 100000

theorem bsz {W w' : World} {k : Nat} (h : Below W.heap.size W w') (hk : k < W.heap.size) : k < w'.heap.size := Nat.lt_of_lt_of_le hk h.size

theorem own_mono {w : World} {b b' e k n : Nat} {v : Value} {xs : List Value} (h : w.ownsRow b e k v n xs) (hb : b' ≤ b) : w.ownsRow b' e k v n xs := by
  obtain ⟨h1, h2⟩ := h
  refine ⟨h1, ?_⟩
  rcases h2 with h2 | ⟨g, cap, cur, hv, hg, hr⟩
  · exact .inl h2
  · exact .inr ⟨g, cap, cur, hv, Nat.le_trans hb hg, hr⟩

theorem grown_cell {W w' : World} {b e k n : Nat} {v : Value} {xs : List Value} (hg : W.grownBy w' v.ownBlock) (h : W.ownsRow (b + 1) e k v n xs) {i : Nat} {u : Value} (hc : W.cell? ⟨b, i, none⟩ = some u) : w'.cell? ⟨b, i, none⟩ = some u := by
  rw [World.cell?_of_block (w := W) (hg.block b (World.block_lt_of_cell? W _ hc) (own_ne h))]; exact hc

structure RowSt (w w' : World) (cs : Array Value) (t : TypeId) (v : Value) (ys : List UInt8) : Prop where
  own : w'.ownsRow (w.heap.size + 1) 5 1 v ys.length (ys.map byteV)
  box : w'.heap[w.heap.size]? = some (.cells cs t (0, 0))
  below : Below w.heap.size w w'

theorem RowSt.lt {w w' : World} {cs : Array Value} {t : TypeId} {v : Value} {ys : List UInt8} (h : RowSt w w' cs t v ys) : w.heap.size < w'.heap.size := lt_of_block h.box
theorem RowSt.same {w w1 w2 : World} {cs : Array Value} {t : TypeId} {v : Value} {ys : List UInt8} (h : RowSt w w1 cs t v ys) (hb : Below w1.heap.size w1 w2) : RowSt w w2 cs t v ys :=
  ⟨own_below h.own hb, (hb.block _ (lt_of_block h.box)).trans h.box, sn h.below hb⟩
theorem RowSt.app {w w1 w2 : World} {cs : Array Value} {t : TypeId} {v v2 : Value} {n : Nat} {ys zs : List UInt8} {us : List Value} (h : RowSt w w1 cs t v ys) (h2 : w2.ownsRow (w.heap.size + 1) 5 1 v2 n us) (hus : us = (ys ++ zs).map byteV) (hg : w1.grownBy w2 v.ownBlock) :
    RowSt w w2 cs t v2 (ys ++ zs) := by
  subst hus
  obtain rfl : n = (ys ++ zs).length := by have := h2.1; simp at this; simp; omega
  refine ⟨h2, (hg.block _ h.lt (own_ne h.own)).trans h.box, h.below.grown hg (Nat.le_of_lt h.lt) (fun j hj => ?_)⟩
  have := (h.own.lt j hj).1; omega

theorem rnum1 (v : Nat) (w : World) (hv : v < 18446744073709551616) : Calls Tryz.prog 63 #[.int .i64 1, .int .u64 (v : Int)] w (RetOwn w (numBytes v 1)) := ref_num_any 1 v w hv (by omega) (by omega)
theorem rnum2 (v : Nat) (w : World) (hv : v < 18446744073709551616) : Calls Tryz.prog 63 #[.int .i64 2, .int .u64 (v : Int)] w (RetOwn w (numBytes v 2)) := ref_num_any 2 v w hv (by omega) (by omega)
theorem rnum4 (v : Nat) (w : World) (hv : v < 18446744073709551616) : Calls Tryz.prog 63 #[.int .i64 4, .int .u64 (v : Int)] w (RetOwn w (numBytes v 4)) := ref_num_any 4 v w hv (by omega) (by omega)
theorem rnum8 (v : Nat) (w : World) (hv : v < 18446744073709551616) : Calls Tryz.prog 63 #[.int .i64 8, .int .u64 (v : Int)] w (RetOwn w (numBytes v 8)) := ref_num_any 8 v w hv (by omega) (by omega)

set_option maxHeartbeats 1600000 in
theorem qidbytes_any (t v p : Nat) (w : World) (ht : t < 256) (hv : v < 4294967296) (hp : p < 18446744073709551616) :
    Calls Tryz.prog 86 #[.agg #[.int .u8 (t : Int), .int .u32 (v : Int), .int .u64 (p : Int)]] w (RetOwn w (qidBytes t v p)) := by
  have e1 : IntKind.u64.wrap (t : Int) = (t : Int) := IntWalk.u64_in _ (by omega)
  have e2 : IntKind.u64.wrap (v : Int) = (v : Int) := IntWalk.u64_in _ (by omega)
  have f0 := hid (((Below.refl w.heap.size w).alloc (Nat.le_refl _) (.cells #[.int .u8 (t : Int), .int .u32 (v : Int), .int .u64 (p : Int)] 66)).drew)
  have x0 := hid (show (w.alloc (.cells #[.int .u8 (t : Int), .int .u32 (v : Int), .int .u64 (p : Int)] 66)).drew.heap[w.heap.size]? = _ from heap_alloc_new w _)
  go_enter Tryz.func86, Tryz.ntmps86
  go_wp2
  go_region_held3 (fun w' => w'.cell? ⟨w.heap.size, 0, none⟩ = some (.int .u8 (t : Int)) ∧ w'.cell? ⟨w.heap.size, 1, none⟩ = some (.int .u32 (v : Int)))
    (first | go_keep | exact ⟨k0, k1⟩)
    (first
      | (go_at_call 63; (with_reducible refine (rnum1 t _ (by omega)).mono ?_); rintro e wn ⟨vn, rfl, hownA, hbA⟩; obtain ⟨an, cn, rfl⟩ := own_form hownA; obtain ⟨hcn, hfn⟩ := bcell hbA; have hzn : w.heap.size < wn.heap.size := bsz hbA (by first | assumption | simp); (try (have hownB' := own_below hownB hbA)))
      | (go_at_call 63; (with_reducible refine (rnum4 v _ (by omega)).mono ?_); rintro e wn ⟨vn, rfl, hownB, hbB⟩; obtain ⟨an, cn, rfl⟩ := own_form hownB; obtain ⟨hcn, hfn⟩ := bcell hbB; have hzn : w.heap.size < wn.heap.size := bsz hbB (by first | assumption | simp); (try (have hownA' := own_below hownA hbB)))
      | (have hO := own_mono (b' := w.heap.size + 1) (by first | exact hownA' | exact hownA) (by first | omega | simp); have hP := RowAt.of_own (by first | exact hownB' | exact hownB); refine step_append_row elemU8 _ (by rfl) (.tmp 7) (.tmp 11) (by rfl) (w.heap.size + 1) _ (numBytes t 1).length ((numBytes t 1).map byteV) (by rfl) hO _ (numBytes v 4).length ((numBytes v 4).map byteV) (by rfl) hP (bytes_oneCell _) (by unfold maxLen; simp [numBytes_length]) (by simp [numBytes_length]) (by omega) ?_; intro a' c' w' h2 h3; have hH := ‹World.cell? _ ⟨_, 0, none⟩ = some _ ∧ _›; have k0 := grown_cell h3 hO hH.1; have k1 := grown_cell h3 hO hH.2))
  all_goals
    have hst : RowSt w w' #[.int .u8 (t : Int), .int .u32 (v : Int), .int .u64 (p : Int)] 66 (.slice a' ((numBytes t 1).length + (numBytes v 4).length) c') (numBytes t 1 ++ numBytes v 4) :=
      RowSt.app (ys := numBytes t 1) ⟨hO, by first | exact (hbB.block _ (by first | assumption | simp)).trans ((hbA.block _ (by first | assumption | simp)).trans x0.out) | exact (hbA.block _ (by first | assumption | simp)).trans ((hbB.block _ (by first | assumption | simp)).trans x0.out),
        by first | exact sn (sn f0.out hbA) hbB | exact sn (sn f0.out hbB) hbA⟩ h2 (by simp) h3
    have l5 : (numBytes t 1).length + (numBytes v 4).length = (numBytes t 1 ++ numBytes v 4).length := by simp
    rw [l5] at hst ⊢
    have l6 : (numBytes t 1 ++ numBytes v 4).length ≤ 5 := by simp [numBytes_length]
    replace l5 := hid l5
    clear hO hP h2 h3 k0 k1 hH
    have c2 : w'.cell? ⟨w.heap.size, 0 + 2, none⟩ = some (.int .u64 (p : Int)) := block_cell hst.box 2
    generalize hys : numBytes t 1 ++ numBytes v 4 = ys at *
    replace hys := hid hys
    go_wp2_with fail
    refine (rnum8 p _ hp).mono ?_
    rintro e w4 ⟨v4, rfl, hown4, hb4⟩
    have st4 := hst.same hb4
    have l8 : (numBytes p 8).length ≤ 8 := by simp [numBytes_length]
    clear c2 hst
    go_wp2_with (at_builtin; refine wpList_append_row elemU8 _ rfl (.tmp 13) (.tmp 16) rfl (w.heap.size + 1) (.slice a' ys.length c') ys.length (ys.map byteV) rfl st4.own v4 (numBytes p 8).length ((numBytes p 8).map byteV) rfl (RowAt.of_own hown4) (bytes_oneCell _) (by unfold maxLen; omega) (by omega) st4.lt ?_)
    intro a6 c6 w6 h6 h7
    have st6 := RowSt.app (zs := numBytes p 8) st4 h6 (by simp) h7
    have l9 : ys.length + (numBytes p 8).length = (qidBytes t v p).length := by rw [← hys.out]; simp [qidBytes, Nat.add_assoc]
    have l10 : ys ++ numBytes p 8 = qidBytes t v p := by rw [← hys.out]; simp [qidBytes]
    rw [l10] at st6
    rw [l9] at st6 ⊢
    replace l9 := hid l9
    replace l10 := hid l10
    clear h6 h7
    go_wp2_with fail
    go_ret
    exact ⟨_, rfl, own_mono st6.own (by omega), st6.below⟩
end
end Go.Proofs.YtcbglcebdkpcfaaGreat
