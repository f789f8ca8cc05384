/- What Num and Text of the reference return, under bounds on lengths that each theorem names. No further condition. And the texts behind it. -/
import Derived.Test.YtlmojhlacfjmaaaGreatRefInZ
import Derived.Test.YtlmojhlacfjmaaaGreatOwnZ
import Derived.Test.YtlmojhlacfjmaaaGreatBunE
import Derived.Deep.RegionHeld3
namespace Go.Proofs.YtlmojhlacfjmaaaGreat
section
open Go.RowKit
set_option maxRecDepth 100000

def RetOwn (w : World) (l : List UInt8) (e : Ending) (w' : World) : Prop := ∃ v', e = .returned v' ∧ w'.ownsRow w.heap.size 5 1 v' l.length (l.map byteV) ∧ Below w.heap.size w w'

set_option maxHeartbeats 1200000 in
theorem ref_num_any (n v : Nat) (w : World) (_hv : v < 18446744073709551616) (hn1 : 1 ≤ n) (hn : n ≤ 8) :
  Calls Tryz.prog 44 #[.int .i64 (n : Int), .int .u64 (v : Int)] w (RetOwn w (numBytes v n)) := by
 go_enter Tryz.func44, Tryz.ntmps44
 go_wp2_with fail
 go_loopw [5, 6] (fun x i wr => ∃ (k : Nat) (ys : List UInt8), k ≤ n ∧ i = .int .i64 (k : Int) ∧ wr.ownsRow w.heap.size 5 1 x ys.length (ys.map byteV) ∧ Hid (ys = numBytes v k) ∧ ys.length ≤ 8 ∧ Below w.heap.size w wr) (fun _ i _ => n - (intOf i).toNat)
 case atStart => exact ⟨0, [], by omega, rfl, World.ownsRow_nil _ _ _ _, hid rfl, by simp, Below.refl _ _⟩
 case round =>
  obtain ⟨k, ys, hk, rfl, hown, hys, hyl, hb⟩ := hrel
  by_cases hlt : k < n
  ·have hbv : byteV (numAt v k) = .int .u8 (IntKind.u8.wrap ((v : Int) / 2 ^ (8 * k))) := byteV_numAt v k
   have hblk : ∀ o, (wr.alloc o).heap[wr.heap.size]? = some o := fun o => heap_alloc_new _ _
   replace hbv := hid hbv
   go_wp2_with (at_builtin; refine wpList_append_row elemU8 _ rfl (.tmp 19) (.tmp 26) rfl w.heap.size u5 ys.length (ys.map byteV) rfl (hown.alloc _) (.slice (some ⟨wr.heap.size, 0, none⟩) 1 1) 1 [.int .u8 (IntKind.u8.wrap ((v : Int) / 2 ^ (8 * k)))] rfl (RowAt.of_block (hblk _) (by simp) (by unfold maxLen; omega)) (by intro u hu; rw [List.mem_singleton] at hu; subst hu; rfl) (by unfold maxLen; omega) (by omega) (by have := hb.size; simp; omega) ?_)
   intro a' c' w' h2 h3
   have hb' : Below w.heap.size w w' := (hb.alloc hb.size _).grown h3 (by have := hb.size; simp; omega) (fun j hj => (hown.lt j hj).1)
   have h4 : w'.ownsRow w.heap.size 5 1 (.slice a' (ys.length + 1) c') (ys ++ [numAt v k]).length ((ys ++ [numAt v k]).map byteV) := by rw [← hbv.out] at h2; simpa using h2
   replace h4 := hid h4
   clear h2 h3
   go_wp2_with fail
   go_roundw
   case rel => exact ⟨k + 1, ys ++ [numAt v k], by omega, by go_num, h4.out, hid (by rw [hys.out]; rfl), by rw [hys.out, List.length_append, numBytes_length]; simp; omega, hb'⟩
   case measure => simp [intOf]; omega
  ·obtain rfl : k = n := by omega
   go_wp2_with fail
   go_ret
   exact ⟨_, rfl, by rw [← hys.out]; exact hown, hb⟩
def RetBE (w : World) (l : List UInt8) (en : Nat) (e : Ending) (w' : World) : Prop := ∃ v', e = .returned (.tuple #[v', .int .i64 (en : Int)]) ∧ BytesAt w' v' l ∧ Below w.heap.size w w'


theorem u8info : ∃ i, Tryz.prog.info? 5 = some i ∧ i.zero = some (.int .u8 0) ∧ i.size = 1 ∧ i.bytes = 1 := by
 obtain ⟨i0, hi, hz0, hz1, hz2⟩ := info_parts infoU8
 exact ⟨i0, hi, hz0, hz1, hz2⟩

set_option maxHeartbeats 800000 in
theorem ref_text_any (s : ByteArray) (w : World) (hs : s.size ≤ 1000000) :
  Calls Tryz.prog 54 #[.string s] w (RetBE w (putTextR s) (mayN s)) := by
 have hml : s.size ≤ maxLen := by unfold maxLen; omega
 have E := mayN_eq s
 by_cases h64 : 64 < s.size
 ·rw [if_pos h64] at E
  have hp := hid (putTextR_no (s := s) (by omega))
  replace E := hid E
  go_enter Tryz.func54, Tryz.ntmps54
  go_wp2_with fail
  go_ret2
  exact ⟨_, by rw [E.out]; rfl, by rw [hp.out]; exact RowAt.nil, Below.refl _ _⟩
 rw [if_neg h64] at E
 cases hv : validB s with
 | false =>
  rw [hv] at E
  have hp := hid (putTextR_no (s := s) (by rw [E]; simp))
  replace E := hid E
  replace hv := hid hv
  go_enter Tryz.func54, Tryz.ntmps54
  go_wp2_with fail
  refine (ref_valid_any s w hml).mono ?_
  rw [hv.out]
  rintro e w1 ⟨rfl, rfl⟩
  go_wp2_with fail
  go_ret2
  exact ⟨_, by rw [E.out]; rfl, by rw [hp.out]; exact RowAt.nil, Below.refl _ _⟩
 | true =>
  rw [hv] at E
  have hp := hid (putTextR_ok (s := s) E)
  replace E := hid E
  replace hv := hid hv
  obtain ⟨i0, hi, hz0, hz1, hz2⟩ := u8info
  go_enter Tryz.func54, Tryz.ntmps54
  go_wp2_with fail
  refine (ref_valid_any s w hml).mono ?_
  rw [hv.out]
  rintro e w1 ⟨rfl, rfl⟩
  go_wp2_with fail
  refine (ref_num_any 2 s.size w (by omega) (by omega) (by omega)).mono ?_
  rintro e w1 ⟨v1, rfl, hown, hb1⟩
  have hnl := numBytes_length s.size 2
  rw [hnl] at hown
  replace hnl := hid hnl
  go_wp2_with (at_builtin; refine Lib.wpList_append_own_string (P := Tryz.prog) _ rfl (.tmp 15) (.tmp 16) 29 9 rfl w.heap.size 5 i0 Tryz.underlying29 Tryz.underlying9 hi hz0 hz1 hz2 v1 2 ((numBytes s.size 2).map byteV) rfl hown s rfl (by unfold maxLen; omega) (by omega) hb1.size ?_)
  intro v2 w2 h2 h3 _
  have hb2 := hb1.grown h3 hb1.size (fun k hk => (hown.lt k hk).1)
  go_wp2_with fail
  go_ret2
  refine ⟨v2, by rw [E.out]; rfl, by rw [hp.out]; exact BytesAt.of_own h2 (by unfold putText Lib.strCells; rw [List.map_append]; rfl), hb2⟩
end
end Go.Proofs.YtlmojhlacfjmaaaGreat

namespace Go.Proofs.YtlmojhlacfjmaaaGreat
section
open Go.RowKit
theorem own_below {w w' : World} {base e k n : Nat} {v : Value} {xs : List Value} (h2 : w.ownsRow base e k v n xs) (hb : Below w.heap.size w w') : w'.ownsRow base e k v n xs := by
 refine ⟨h2.1, ?_⟩
 rcases h2.2 with h3 | ⟨g, cap, cur, hv, hg, hh, r⟩
 ·exact .inl h3
 ·exact .inr ⟨g, cap, cur, hv, hg, (hb.block g (lt_of_block hh)).trans hh, r⟩
end
end Go.Proofs.YtlmojhlacfjmaaaGreat

namespace Go.Proofs.YtlmojhlacfjmaaaGreat
section
open Go.RowKit
set_option maxRecDepth 100000

theorem bsz {W w' : World} {k : Nat} (h : Below W.heap.size W w') (hk : k < W.heap.size) : k < w'.heap.size := Nat.lt_of_lt_of_le hk h.size

theorem own_mono {w : World} {b b' e k n : Nat} {v : Value} {xs : List Value} (h : w.ownsRow b e k v n xs) (hb : b' ≤ b) : w.ownsRow b' e k v n xs := by
 obtain ⟨h1, h2⟩ := h
 refine ⟨h1, ?_⟩
 rcases h2 with h2 | ⟨g, cap, cur, hv, hg, hr⟩
 ·exact .inl h2
 ·exact .inr ⟨g, cap, cur, hv, Nat.le_trans hb hg, hr⟩

theorem grown_cell {W w' : World} {b e k n : Nat} {v : Value} {xs : List Value} (hg : W.grownBy w' v.ownBlock) (h : W.ownsRow (b + 1) e k v n xs) {i : Nat} {u : Value} (hc : W.cell? ⟨b, i, none⟩ = some u) : w'.cell? ⟨b, i, none⟩ = some u := by
 rw [World.cell?_of_block (w := W) (hg.block b (World.block_lt_of_cell? W _ hc) (own_ne h))]; exact hc

structure RowSt (w w' : World) (cs : Array Value) (t : TypeId) (v : Value) (ys : List UInt8) : Prop where
 own : w'.ownsRow (w.heap.size + 1) 5 1 v ys.length (ys.map byteV)
 box : w'.heap[w.heap.size]? = some (.cells cs t (0, 0))
 below : Below w.heap.size w w'

theorem RowSt.lt {w w' : World} {cs : Array Value} {t : TypeId} {v : Value} {ys : List UInt8} (h : RowSt w w' cs t v ys) : w.heap.size < w'.heap.size := lt_of_block h.box
theorem RowSt.same {w w1 w2 : World} {cs : Array Value} {t : TypeId} {v : Value} {ys : List UInt8} (h : RowSt w w1 cs t v ys) (hb : Below w1.heap.size w1 w2) : RowSt w w2 cs t v ys :=
 ⟨own_below h.own hb, (hb.block _ (lt_of_block h.box)).trans h.box, sn h.below hb⟩
theorem RowSt.app {w w1 w2 : World} {cs : Array Value} {t : TypeId} {v v2 : Value} {n : Nat} {ys zs : List UInt8} {us : List Value} (h : RowSt w w1 cs t v ys) (h2 : w2.ownsRow (w.heap.size + 1) 5 1 v2 n us) (hus : us = (ys ++ zs).map byteV) (hg : w1.grownBy w2 v.ownBlock) :
  RowSt w w2 cs t v2 (ys ++ zs) := by
 subst hus
 obtain rfl : n = (ys ++ zs).length := by have := h2.1; simp at this; simp; omega
 refine ⟨h2, (hg.block _ h.lt (own_ne h.own)).trans h.box, h.below.grown hg (Nat.le_of_lt h.lt) (fun j hj => ?_)⟩
 have := (h.own.lt j hj).1; omega

theorem rnum1 (v : Nat) (w : World) (hv : v < 18446744073709551616) : Calls Tryz.prog 44 #[.int .i64 1, .int .u64 (v : Int)] w (RetOwn w (numBytes v 1)) := ref_num_any 1 v w hv (by omega) (by omega)
theorem rnum2 (v : Nat) (w : World) (hv : v < 18446744073709551616) : Calls Tryz.prog 44 #[.int .i64 2, .int .u64 (v : Int)] w (RetOwn w (numBytes v 2)) := ref_num_any 2 v w hv (by omega) (by omega)
theorem rnum4 (v : Nat) (w : World) (hv : v < 18446744073709551616) : Calls Tryz.prog 44 #[.int .i64 4, .int .u64 (v : Int)] w (RetOwn w (numBytes v 4)) := ref_num_any 4 v w hv (by omega) (by omega)
theorem rnum8 (v : Nat) (w : World) (hv : v < 18446744073709551616) : Calls Tryz.prog 44 #[.int .i64 8, .int .u64 (v : Int)] w (RetOwn w (numBytes v 8)) := ref_num_any 8 v w hv (by omega) (by omega)

set_option maxHeartbeats 1600000 in
theorem qidbytes_any (t v p : Nat) (w : World) (ht : t < 256) (hv : v < 4294967296) (hp : p < 18446744073709551616) :
  Calls Tryz.prog 55 #[.agg #[.int .u8 (t : Int), .int .u32 (v : Int), .int .u64 (p : Int)]] w (RetOwn w (qidBytes t v p)) := by
 have e1 : IntKind.u64.wrap (t : Int) = (t : Int) := IntWalk.u64_in _ (by omega)
 have e2 : IntKind.u64.wrap (v : Int) = (v : Int) := IntWalk.u64_in _ (by omega)
 have f0 := hid (((Below.refl w.heap.size w).alloc (Nat.le_refl _) (.cells #[.int .u8 (t : Int), .int .u32 (v : Int), .int .u64 (p : Int)] 42)).drew)
 have x0 := hid (show (w.alloc (.cells #[.int .u8 (t : Int), .int .u32 (v : Int), .int .u64 (p : Int)] 42)).drew.heap[w.heap.size]? = _ from heap_alloc_new w _)
 go_enter Tryz.func55, Tryz.ntmps55
 go_wp2
 go_region_held3 (fun w' => w'.cell? ⟨w.heap.size, 0, none⟩ = some (.int .u8 (t : Int)) ∧ w'.cell? ⟨w.heap.size, 1, none⟩ = some (.int .u32 (v : Int)))
  (first | go_keep | exact ⟨k0, k1⟩)
  (first
   | (go_at_call 44; (with_reducible refine (rnum1 t _ (by omega)).mono ?_); rintro e wn ⟨vn, rfl, hownA, hbA⟩; obtain ⟨an, cn, rfl⟩ := own_form hownA; obtain ⟨hcn, hfn⟩ := bcell hbA; have hzn : w.heap.size < wn.heap.size := bsz hbA (by first | assumption | simp); (try (have hownB' := own_below hownB hbA)))
   | (go_at_call 44; (with_reducible refine (rnum4 v _ (by omega)).mono ?_); rintro e wn ⟨vn, rfl, hownB, hbB⟩; obtain ⟨an, cn, rfl⟩ := own_form hownB; obtain ⟨hcn, hfn⟩ := bcell hbB; have hzn : w.heap.size < wn.heap.size := bsz hbB (by first | assumption | simp); (try (have hownA' := own_below hownA hbB)))
   | (have hO := own_mono (b' := w.heap.size + 1) (by first | exact hownA' | exact hownA) (by first | omega | simp); have hP := RowAt.of_own (by first | exact hownB' | exact hownB); refine step_append_row elemU8 _ (by rfl) (.tmp 7) (.tmp 11) (by rfl) (w.heap.size + 1) _ (numBytes t 1).length ((numBytes t 1).map byteV) (by rfl) hO _ (numBytes v 4).length ((numBytes v 4).map byteV) (by rfl) hP (bytes_oneCell _) (by unfold maxLen; simp [numBytes_length]) (by simp [numBytes_length]) (by omega) ?_; intro a' c' w' h2 h3; have hH := ‹World.cell? _ ⟨_, 0, none⟩ = some _ ∧ _›; have k0 := grown_cell h3 hO hH.1; have k1 := grown_cell h3 hO hH.2))
 all_goals
  have hst : RowSt w w' #[.int .u8 (t : Int), .int .u32 (v : Int), .int .u64 (p : Int)] 42 (.slice a' ((numBytes t 1).length + (numBytes v 4).length) c') (numBytes t 1 ++ numBytes v 4) :=
   RowSt.app (ys := numBytes t 1) ⟨hO, by first | exact (hbB.block _ (by first | assumption | simp)).trans ((hbA.block _ (by first | assumption | simp)).trans x0.out) | exact (hbA.block _ (by first | assumption | simp)).trans ((hbB.block _ (by first | assumption | simp)).trans x0.out),
    by first | exact sn (sn f0.out hbA) hbB | exact sn (sn f0.out hbB) hbA⟩ h2 (by simp) h3
  have l5 : (numBytes t 1).length + (numBytes v 4).length = (numBytes t 1 ++ numBytes v 4).length := by simp
  rw [l5] at hst ⊢
  have l6 : (numBytes t 1 ++ numBytes v 4).length ≤ 5 := by simp [numBytes_length]
  replace l5 := hid l5
  clear hO hP h2 h3 k0 k1 hH
  have c2 : w'.cell? ⟨w.heap.size, 0 + 2, none⟩ = some (.int .u64 (p : Int)) := block_cell hst.box 2
  generalize hys : numBytes t 1 ++ numBytes v 4 = ys at *
  replace hys := hid hys
  go_wp2_with fail
  refine (rnum8 p _ hp).mono ?_
  rintro e w4 ⟨v4, rfl, hown4, hb4⟩
  have st4 := hst.same hb4
  have l8 : (numBytes p 8).length ≤ 8 := by simp [numBytes_length]
  clear c2 hst
  go_wp2_with (at_builtin; refine wpList_append_row elemU8 _ rfl (.tmp 13) (.tmp 16) rfl (w.heap.size + 1) (.slice a' ys.length c') ys.length (ys.map byteV) rfl st4.own v4 (numBytes p 8).length ((numBytes p 8).map byteV) rfl (RowAt.of_own hown4) (bytes_oneCell _) (by unfold maxLen; omega) (by omega) st4.lt ?_)
  intro a6 c6 w6 h6 h7
  have st6 := RowSt.app (zs := numBytes p 8) st4 h6 (by simp) h7
  have l9 : ys.length + (numBytes p 8).length = (qidBytes t v p).length := by rw [← hys.out]; simp [qidBytes, Nat.add_assoc]
  have l10 : ys ++ numBytes p 8 = qidBytes t v p := by rw [← hys.out]; simp [qidBytes]
  rw [l10] at st6
  rw [l9] at st6 ⊢
  replace l9 := hid l9
  replace l10 := hid l10
  clear h6 h7
  go_wp2_with fail
  go_ret
  exact ⟨_, rfl, own_mono st6.own (by omega), st6.below⟩
end
end Go.Proofs.YtlmojhlacfjmaaaGreat

namespace Go.Proofs.YtlmojhlacfjmaaaGreat
section
open Go.RowKit
set_option maxRecDepth 100000

theorem RowSt.appl {w w1 w2 : World} {cs : Array Value} {t : TypeId} {v v2 : Value} {n : Nat} {ys zs : List UInt8} {us : List Value} {q : Nat} (h : RowSt w w1 cs t v ys) (h2 : w2.ownsRow (w.heap.size + 1) 5 1 v2 n us) (hus : us = (ys ++ zs).map byteV) (hg : w1.grownBy w2 v.ownBlock)
  (h4 : ∀ k, v2.ownBlock = some k → v.ownBlock = some k ∨ w1.heap.size ≤ k) {o : Obj} (hq : w1.heap[q]? = some o) (hn : v.ownBlock ≠ some q) :
  RowSt w w2 cs t v2 (ys ++ zs) ∧ w2.heap[q]? = some o ∧ v2.ownBlock ≠ some q := by
 refine ⟨h.app h2 hus hg, (hg.block q (lt_of_block hq) (fun e => hn e.symm)).trans hq, fun e => ?_⟩
 rcases h4 q e with h5 | h5
 ·exact hn h5
 ·have := lt_of_block hq; omega

set_option maxHeartbeats 3200000 in
theorem statbytes_new (s : Stat) (w : World) (hok : StatOk s) (hf : Few s) : Calls Tryz.prog 56 #[.agg s.cells] w (EncNew w s) := by
 have hsize : 49 ≤ s.size ∧ s.size ≤ 849 := by obtain ⟨h1, h2, h3, h4⟩ := hf; unfold Stat.size; omega
 obtain ⟨o1, o2, o3, o4, o5, o6, o7, o8, o9, _, _, _, _⟩ := hok
 obtain ⟨f1, f2, f3, f4⟩ := hf
 have hE : Hid (s.err = textsErr s.texts) := hid rfl
 have hB : Hid (s.bytes = if s.err = 0 then numBytes (s.size - 2) 2 ++ s.head ++ textsBytes s.texts else []) := hid rfl
 have hH := hid (head_eq s)
 have hSz : Hid (s.size = 49 + s.name.size + s.uid.size + s.gid.size + s.muid.size) := hid rfl
 have e1 : IntKind.u64.wrap (s.kind : Int) = (s.kind : Int) := IntWalk.u64_in _ (by omega)
 have e2 : IntKind.u64.wrap (s.dev : Int) = (s.dev : Int) := IntWalk.u64_in _ (by omega)
 rw [cells_eq s]
 have f0 := hid (((Below.refl w.heap.size w).alloc (Nat.le_refl _) (.cells #[.int .u16 (s.kind : Int), .int .u32 (s.dev : Int), .int .u8 (s.qt : Int), .int .u32 (s.qv : Int), .int .u64 (s.qp : Int), .int .u32 (s.mode : Int), .int .u32 (s.atm : Int), .int .u32 (s.mtm : Int), .int .u64 (s.len : Int), .string s.name, .string s.uid, .string s.gid, .string s.muid] 44)).drew)
 have x0 := hid (show (w.alloc (.cells #[.int .u16 (s.kind : Int), .int .u32 (s.dev : Int), .int .u8 (s.qt : Int), .int .u32 (s.qv : Int), .int .u64 (s.qp : Int), .int .u32 (s.mode : Int), .int .u32 (s.atm : Int), .int .u32 (s.mtm : Int), .int .u64 (s.len : Int), .string s.name, .string s.uid, .string s.gid, .string s.muid] 44)).drew.heap[w.heap.size]? = _ from heap_alloc_new w _)
 go_enter Tryz.func56, Tryz.ntmps56
 go_wp2
 go_region_held3 (fun w' => w'.cell? ⟨w.heap.size, 0, none⟩ = some (.int .u16 (s.kind : Int)) ∧ w'.cell? ⟨w.heap.size, 1, none⟩ = some (.int .u32 (s.dev : Int)))
  (first | go_keep | exact ⟨k0, k1⟩)
  (first
   | (go_at_call 44; (with_reducible refine (rnum2 s.kind _ (by omega)).mono ?_); rintro e wn ⟨vn, rfl, hownA, hbA⟩; obtain ⟨an, cn, rfl⟩ := own_form hownA; obtain ⟨hcn, hfn⟩ := bcell hbA; have hzn : w.heap.size < wn.heap.size := bsz hbA (by first | assumption | simp); (try (have hownB' := own_below hownB hbA)))
   | (go_at_call 44; (with_reducible refine (rnum4 s.dev _ (by omega)).mono ?_); rintro e wn ⟨vn, rfl, hownB, hbB⟩; obtain ⟨an, cn, rfl⟩ := own_form hownB; obtain ⟨hcn, hfn⟩ := bcell hbB; have hzn : w.heap.size < wn.heap.size := bsz hbB (by first | assumption | simp); (try (have hownA' := own_below hownA hbB)))
   | (have hO := own_mono (b' := w.heap.size + 1) (by first | exact hownA' | exact hownA) (by first | omega | simp); have hP := RowAt.of_own (by first | exact hownB' | exact hownB); refine step_append_row elemU8 _ (by rfl) (.tmp 12) (.tmp 16) (by rfl) (w.heap.size + 1) _ (numBytes s.kind 2).length ((numBytes s.kind 2).map byteV) (by rfl) hO _ (numBytes s.dev 4).length ((numBytes s.dev 4).map byteV) (by rfl) hP (bytes_oneCell _) (by unfold maxLen; simp [numBytes_length]) (by simp [numBytes_length]) (by omega) ?_; intro a' c' w' h2 h3; have hH := ‹World.cell? _ ⟨_, 0, none⟩ = some _ ∧ _›; have k0 := grown_cell h3 hO hH.1; have k1 := grown_cell h3 hO hH.2))
 all_goals
  have hst : RowSt w w' #[.int .u16 (s.kind : Int), .int .u32 (s.dev : Int), .int .u8 (s.qt : Int), .int .u32 (s.qv : Int), .int .u64 (s.qp : Int), .int .u32 (s.mode : Int), .int .u32 (s.atm : Int), .int .u32 (s.mtm : Int), .int .u64 (s.len : Int), .string s.name, .string s.uid, .string s.gid, .string s.muid] 44 (.slice a' ((numBytes s.kind 2).length + (numBytes s.dev 4).length) c') (numBytes s.kind 2 ++ numBytes s.dev 4) :=
   RowSt.app (ys := numBytes s.kind 2) ⟨hO, by first | exact (hbB.block _ (by first | assumption | simp)).trans ((hbA.block _ (by first | assumption | simp)).trans x0.out) | exact (hbA.block _ (by first | assumption | simp)).trans ((hbB.block _ (by first | assumption | simp)).trans x0.out),
    by first | exact sn (sn f0.out hbA) hbB | exact sn (sn f0.out hbB) hbA⟩ h2 (by simp) h3
  have l5 : (numBytes s.kind 2).length + (numBytes s.dev 4).length = (numBytes s.kind 2 ++ numBytes s.dev 4).length := by simp
  rw [l5] at hst ⊢
  have lz0 : (numBytes s.kind 2 ++ numBytes s.dev 4).length = 6 := by simp [numBytes_length]
  replace l5 := hid l5
  obtain ⟨vv, hvv⟩ : ∃ vv : Value, vv = .slice a' (numBytes s.kind 2 ++ numBytes s.dev 4).length c' := ⟨_, rfl⟩
  rw [← hvv] at hst ⊢
  clear hO hP h2 h3 k0 k1 hH hvv hcn hfn hzn
  generalize hz0 : numBytes s.kind 2 ++ numBytes s.dev 4 = z0 at *
  replace hz0 := hid hz0
  have c2 : w'.cell? ⟨w.heap.size, 0 + 2, none⟩ = some (.int .u8 (s.qt : Int)) := block_cell hst.box 2
  have c3 : w'.cell? ⟨w.heap.size, 0 + 2 + 1, none⟩ = some (.int .u32 (s.qv : Int)) := block_cell hst.box 3
  have c4 : w'.cell? ⟨w.heap.size, 0 + 2 + 2, none⟩ = some (.int .u64 (s.qp : Int)) := block_cell hst.box 4
  go_wp2_with fail
  refine (qidbytes_any s.qt s.qv s.qp _ o3 o4 o5).mono ?_
  rintro e x0 ⟨v4, rfl, hown4, hb4⟩
  have st4 := hst.same hb4
  have lm : (qidBytes s.qt s.qv s.qp).length = 13 := by simp [qidBytes_length]
  have lm2 : (qidBytes s.qt s.qv s.qp).length ≤ 13 := by omega
  replace lm := hid lm
  have lzz : z0.length ≤ 6 := by omega
  replace lz0 := hid lz0
  clear c2 c3 c4 hst hb4
  go_wp2_with (at_builtin; refine wpList_append_row elemU8 _ rfl (.tmp 18) (.tmp 21) rfl (w.heap.size + 1) vv z0.length (z0.map byteV) rfl st4.own v4 (qidBytes s.qt s.qv s.qp).length ((qidBytes s.qt s.qv s.qp).map byteV) rfl (RowAt.of_own hown4) (bytes_oneCell _) (by unfold maxLen; omega) (by omega) st4.lt ?_)
  intro a6 c6 y0 h6 h7
  have st6 := RowSt.app (zs := qidBytes s.qt s.qv s.qp) st4 h6 (by simp) h7
  have l9 : z0.length + (qidBytes s.qt s.qv s.qp).length = (z0 ++ qidBytes s.qt s.qv s.qp).length := by simp
  rw [l9] at st6 ⊢
  have lz1 : (z0 ++ qidBytes s.qt s.qv s.qp).length = 19 := by rw [List.length_append, lz0.out, lm.out]
  replace l9 := hid l9
  obtain ⟨v10, hv10⟩ : ∃ vv : Value, vv = .slice a6 (z0 ++ qidBytes s.qt s.qv s.qp).length c6 := ⟨_, rfl⟩
  rw [← hv10] at st6 ⊢
  have st20 := st6
  clear h6 h7 hv10 st4 hown4 lm lm2 lzz st6
  generalize hz1 : z0 ++ qidBytes s.qt s.qv s.qp = z1 at *
  replace hz1 := hid hz1
  have c2 : y0.cell? ⟨w.heap.size, 0 + 5, none⟩ = some (.int .u32 (s.mode : Int)) := block_cell st20.box 5
  go_wp2_with fail
  refine (rnum4 s.mode _ (by omega)).mono ?_
  rintro e x1 ⟨v4, rfl, hown4, hb4⟩
  have st4 := st20.same hb4
  have lm : (numBytes s.mode 4).length = 4 := by simp [numBytes_length]
  have lm2 : (numBytes s.mode 4).length ≤ 4 := by omega
  replace lm := hid lm
  have lzz : z1.length ≤ 19 := by omega
  replace lz1 := hid lz1
  clear c2 st20 hb4
  go_wp2_with (at_builtin; refine wpList_append_row elemU8 _ rfl (.tmp 23) (.tmp 27) rfl (w.heap.size + 1) v10 z1.length (z1.map byteV) rfl st4.own v4 (numBytes s.mode 4).length ((numBytes s.mode 4).map byteV) rfl (RowAt.of_own hown4) (bytes_oneCell _) (by unfold maxLen; omega) (by omega) st4.lt ?_)
  intro a6 c6 y1 h6 h7
  have st6 := RowSt.app (zs := numBytes s.mode 4) st4 h6 (by simp) h7
  have l9 : z1.length + (numBytes s.mode 4).length = (z1 ++ numBytes s.mode 4).length := by simp
  rw [l9] at st6 ⊢
  have lz2 : (z1 ++ numBytes s.mode 4).length = 23 := by rw [List.length_append, lz1.out, lm.out]
  replace l9 := hid l9
  obtain ⟨v11, hv11⟩ : ∃ vv : Value, vv = .slice a6 (z1 ++ numBytes s.mode 4).length c6 := ⟨_, rfl⟩
  rw [← hv11] at st6 ⊢
  have st21 := st6
  clear h6 h7 hv11 st4 hown4 lm lm2 lzz st6
  generalize hz2 : z1 ++ numBytes s.mode 4 = z2 at *
  replace hz2 := hid hz2
  have c2 : y1.cell? ⟨w.heap.size, 0 + 6, none⟩ = some (.int .u32 (s.atm : Int)) := block_cell st21.box 6
  go_wp2_with fail
  refine (rnum4 s.atm _ (by omega)).mono ?_
  rintro e x2 ⟨v4, rfl, hown4, hb4⟩
  have st4 := st21.same hb4
  have lm : (numBytes s.atm 4).length = 4 := by simp [numBytes_length]
  have lm2 : (numBytes s.atm 4).length ≤ 4 := by omega
  replace lm := hid lm
  have lzz : z2.length ≤ 23 := by omega
  replace lz2 := hid lz2
  clear c2 st21 hb4
  go_wp2_with (at_builtin; refine wpList_append_row elemU8 _ rfl (.tmp 29) (.tmp 33) rfl (w.heap.size + 1) v11 z2.length (z2.map byteV) rfl st4.own v4 (numBytes s.atm 4).length ((numBytes s.atm 4).map byteV) rfl (RowAt.of_own hown4) (bytes_oneCell _) (by unfold maxLen; omega) (by omega) st4.lt ?_)
  intro a6 c6 y2 h6 h7
  have st6 := RowSt.app (zs := numBytes s.atm 4) st4 h6 (by simp) h7
  have l9 : z2.length + (numBytes s.atm 4).length = (z2 ++ numBytes s.atm 4).length := by simp
  rw [l9] at st6 ⊢
  have lz3 : (z2 ++ numBytes s.atm 4).length = 27 := by rw [List.length_append, lz2.out, lm.out]
  replace l9 := hid l9
  obtain ⟨v12, hv12⟩ : ∃ vv : Value, vv = .slice a6 (z2 ++ numBytes s.atm 4).length c6 := ⟨_, rfl⟩
  rw [← hv12] at st6 ⊢
  have st22 := st6
  clear h6 h7 hv12 st4 hown4 lm lm2 lzz st6
  generalize hz3 : z2 ++ numBytes s.atm 4 = z3 at *
  replace hz3 := hid hz3
  have c2 : y2.cell? ⟨w.heap.size, 0 + 7, none⟩ = some (.int .u32 (s.mtm : Int)) := block_cell st22.box 7
  go_wp2_with fail
  refine (rnum4 s.mtm _ (by omega)).mono ?_
  rintro e x3 ⟨v4, rfl, hown4, hb4⟩
  have st4 := st22.same hb4
  have lm : (numBytes s.mtm 4).length = 4 := by simp [numBytes_length]
  have lm2 : (numBytes s.mtm 4).length ≤ 4 := by omega
  replace lm := hid lm
  have lzz : z3.length ≤ 27 := by omega
  replace lz3 := hid lz3
  clear c2 st22 hb4
  go_wp2_with (at_builtin; refine wpList_append_row elemU8 _ rfl (.tmp 35) (.tmp 39) rfl (w.heap.size + 1) v12 z3.length (z3.map byteV) rfl st4.own v4 (numBytes s.mtm 4).length ((numBytes s.mtm 4).map byteV) rfl (RowAt.of_own hown4) (bytes_oneCell _) (by unfold maxLen; omega) (by omega) st4.lt ?_)
  intro a6 c6 y3 h6 h7
  have st6 := RowSt.app (zs := numBytes s.mtm 4) st4 h6 (by simp) h7
  have l9 : z3.length + (numBytes s.mtm 4).length = (z3 ++ numBytes s.mtm 4).length := by simp
  rw [l9] at st6 ⊢
  have lz4 : (z3 ++ numBytes s.mtm 4).length = 31 := by rw [List.length_append, lz3.out, lm.out]
  replace l9 := hid l9
  obtain ⟨v13, hv13⟩ : ∃ vv : Value, vv = .slice a6 (z3 ++ numBytes s.mtm 4).length c6 := ⟨_, rfl⟩
  rw [← hv13] at st6 ⊢
  have st23 := st6
  clear h6 h7 hv13 st4 hown4 lm lm2 lzz st6
  generalize hz4 : z3 ++ numBytes s.mtm 4 = z4 at *
  replace hz4 := hid hz4
  have c2 : y3.cell? ⟨w.heap.size, 0 + 8, none⟩ = some (.int .u64 (s.len : Int)) := block_cell st23.box 8
  go_wp2_with fail
  refine (rnum8 s.len _ (by omega)).mono ?_
  rintro e x4 ⟨v4, rfl, hown4, hb4⟩
  have st4 := st23.same hb4
  have lm : (numBytes s.len 8).length = 8 := by simp [numBytes_length]
  have lm2 : (numBytes s.len 8).length ≤ 8 := by omega
  replace lm := hid lm
  have lzz : z4.length ≤ 31 := by omega
  replace lz4 := hid lz4
  clear c2 st23 hb4
  go_wp2_with (at_builtin; refine wpList_append_row elemU8 _ rfl (.tmp 41) (.tmp 44) rfl (w.heap.size + 1) v13 z4.length (z4.map byteV) rfl st4.own v4 (numBytes s.len 8).length ((numBytes s.len 8).map byteV) rfl (RowAt.of_own hown4) (bytes_oneCell _) (by unfold maxLen; omega) (by omega) st4.lt ?_)
  intro a6 c6 y4 h6 h7
  have st6 := RowSt.app (zs := numBytes s.len 8) st4 h6 (by simp) h7
  have l9 : z4.length + (numBytes s.len 8).length = (z4 ++ numBytes s.len 8).length := by simp
  rw [l9] at st6 ⊢
  have lz5 : (z4 ++ numBytes s.len 8).length = 39 := by rw [List.length_append, lz4.out, lm.out]
  replace l9 := hid l9
  obtain ⟨v14, hv14⟩ : ∃ vv : Value, vv = .slice a6 (z4 ++ numBytes s.len 8).length c6 := ⟨_, rfl⟩
  rw [← hv14] at st6 ⊢
  have st24 := st6
  clear h6 h7 hv14 st4 hown4 lm lm2 lzz st6
  generalize hz5 : z4 ++ numBytes s.len 8 = z5 at *
  replace hz5 := hid hz5
  have hZ : Hid (z5 = s.head) := hid (by rw [← hz5.out, ← hz4.out, ← hz3.out, ← hz2.out, ← hz1.out, ← hz0.out]; unfold Stat.head; simp)
  have lz : z5.length ≤ 39 := by omega
  replace lz5 := hid lz5
  clear hz0 hz1 hz2 hz3 hz4 hz5
  have c9 : y4.cell? ⟨w.heap.size, 0 + 9, none⟩ = some (.string s.name) := block_cell st24.box 9
  have c10 : y4.cell? ⟨w.heap.size, 0 + 10, none⟩ = some (.string s.uid) := block_cell st24.box 10
  have c11 : y4.cell? ⟨w.heap.size, 0 + 11, none⟩ = some (.string s.gid) := block_cell st24.box 11
  have c12 : y4.cell? ⟨w.heap.size, 0 + 12, none⟩ = some (.string s.muid) := block_cell st24.box 12
  have hnb := heap_alloc_new y4 (.cells #[.string s.name, .string s.uid, .string s.gid, .string s.muid] 9)
  have st8 := st24.same ((Below.refl y4.heap.size y4).alloc (Nat.le_refl _) (.cells #[.string s.name, .string s.uid, .string s.gid, .string s.muid] 9))
  have hnv : v14.ownBlock ≠ some y4.heap.size := fun e => by have := (st24.own.lt _ e).2; omega
  replace hnb := hid hnb
  obtain ⟨TT, hT⟩ : ∃ TT, TT = s.texts := ⟨_, rfl⟩
  have hTl : TT.length = 4 := by rw [hT]; rfl
  have hTs : ∀ k (h : k < TT.length), TT[k].size ≤ 200 := by
   subst hT
   intro k h
   match k, h with
   | 0, _ => exact f1
   | 1, _ => exact f2
   | 2, _ => exact f3
   | 3, _ => exact f4
  have hTc : ∀ k (h : k < TT.length), (#[Value.string s.name, .string s.uid, .string s.gid, .string s.muid])[k]? = some (.string TT[k]) := by
   subst hT
   intro k h
   match k, h with
   | 0, _ => rfl
   | 1, _ => rfl
   | 2, _ => rfl
   | 3, _ => rfl
  have hTsum : ∀ k, k ≤ 4 → (textsBytes (TT.take k)).length ≤ k * 202 := by
   intro k
   induction k with
   | zero => intro _; simp [textsBytes]
   | succ k ih =>
    intro hk
    have hkl : k < TT.length := by omega
    rw [textsBytes_snoc TT k hkl, List.length_append, putText_length]
    have := hTs k hkl
    have := ih (by omega)
    omega
  replace hT := hid hT
  replace hTs := hid hTs
  replace hTc := hid hTc
  replace hTsum := hid hTsum
  have hTl2 : TT.length ≤ 4 := by omega
  have hTl4 := hid hTl
  clear hTl
  go_wp2_with fail
  go_loopw [4, 6] (fun bv i wr => ∃ k : Nat, k ≤ 4 ∧ i = .int .i64 (k : Int) ∧ RowSt w wr #[.int .u16 (s.kind : Int), .int .u32 (s.dev : Int), .int .u8 (s.qt : Int), .int .u32 (s.qv : Int), .int .u64 (s.qp : Int), .int .u32 (s.mode : Int), .int .u32 (s.atm : Int), .int .u32 (s.mtm : Int), .int .u64 (s.len : Int), .string s.name, .string s.uid, .string s.gid, .string s.muid] 44 bv (z5 ++ textsBytes (TT.take k)) ∧ bv.ownBlock ≠ some y4.heap.size ∧
    wr.heap[y4.heap.size]? = some (.cells #[.string s.name, .string s.uid, .string s.gid, .string s.muid] 9 (0, 0)) ∧ Hid (textsErr TT = textsErr (TT.drop k))) (fun _ i _ => 4 - (intOf i).toNat)
  case atStart => exact ⟨0, by omega, rfl, by simpa [textsBytes] using st8, hnv, hnb.out, hid rfl⟩
  case round =>
   obtain ⟨k, hk, rfl, st, hnv, hnb, hte⟩ := hrel
   by_cases hlt : k < 4
   ·have hlt2 : k < TT.length := by rw [hTl4.out]; exact hlt
    have hcell : wr.cell? ⟨y4.heap.size, k, none⟩ = some (.string TT[k]) := by rw [block_cell hnb k]; exact hTc.out k hlt2
    have hts := hTs.out k hlt2
    have hsn := hid (textsBytes_snoc TT k hlt2)
    have hed := hid (textsErr_drop TT k hlt2)
    have hll : (z5 ++ textsBytes (TT.take k)).length ≤ 900 := by rw [List.length_append]; have := hTsum.out k (by omega); omega
    generalize TT[k] = x at hcell hts hsn hed
    replace hnb := hid hnb
    generalize hgy : z5 ++ textsBytes (TT.take k) = ys at st hll
    replace hgy := hid hgy
    obtain ⟨oa, oc, rfl⟩ := own_form st.own
    go_wp2_with fail
    refine (ref_text_any x wr (by omega)).mono ?_
    rintro e w6 ⟨v6, rfl, hv6, hb6⟩
    have st6 := st.same hb6
    have hnb6 := hid ((hb6.block _ (lt_of_block hnb.out)).trans hnb.out)
    clear hb6 hcell st
    by_cases hm : mayN x = 0
    ·have hpt := hid (putTextR_ok hm)
     have k0 : ((mayN x : Int) != 0) = false := by simpa using hm
     have hed2 : Hid (textsErr TT = textsErr (TT.drop (k + 1))) := hid (by rw [hte.out, hed.out, if_pos hm])
     rw [hpt.out] at hv6
     have hpl : (putText x).length ≤ 202 := by rw [putText_length]; omega
     clear hm hed hte
     go_wp2_with (at_builtin; refine wpList_append_rowl elemU8 _ rfl (.tmp 70) (.tmp 71) rfl (w.heap.size + 1) (.slice oa ys.length oc) ys.length (ys.map byteV) rfl st6.own v6 (putText x).length ((putText x).map byteV) rfl hv6 (bytes_oneCell _) (by unfold maxLen; omega) (by omega) st6.lt ?_)
     intro a6 c6 y6 h6 h7 h8
     obtain ⟨st7, hnb7, hnv7⟩ := RowSt.appl (zs := putText x) st6 h6 (by simp) h7 h8 hnb6.out (by exact hnv)
     have l9 : ys.length + (putText x).length = (ys ++ putText x).length := by simp
     clear h6 h7 h8 st6 hv6 hnb6 hnb
     replace hnb7 := hid hnb7
     go_wp2_with fail
     go_roundw
     case rel => exact ⟨k + 1, by omega, by go_num, by rw [hsn.out, ← List.append_assoc, hgy.out]; exact st7, hnv7, hnb7.out, hed2⟩
     case measure => simp [intOf]; omega
    ·have hfin : s.err = mayN x := by rw [hE.out, ← hT.out, hte.out, hed.out, if_neg hm]
     have hfb : s.bytes = [] := by rw [hB.out, if_neg (by rw [hfin]; exact hm)]
     have k0 : ((mayN x : Int) != 0) = true := by simpa using hm
     replace hfin := hid hfin
     replace hfb := hid hfb
     clear hm
     go_wp2_with fail
     go_ret2
     exact ⟨_, by rw [hfin.out]; rfl, ⟨by rw [hfb.out]; exact RowAt.nil, fun k hk => by cases hk⟩, st6.below⟩
   ·obtain rfl : k = 4 := by omega
    have hfin : s.err = 0 := by rw [hE.out, ← hT.out, hte.out, List.drop_of_length_le hTl2]; rfl
    have hlen : (z5 ++ textsBytes (TT.take 4)).length = s.size - 2 := by
     rw [List.length_append, lz5.out, List.take_of_length_le hTl2, hT.out]
     unfold Stat.texts; simp only [textsBytes, List.length_append, putText_length, List.length_nil]
     rw [hSz.out]; omega
    have hfb : s.bytes = numBytes (s.size - 2) 2 ++ (z5 ++ textsBytes (TT.take 4)) := by rw [hB.out, if_pos hfin, hZ.out, List.take_of_length_le hTl2, hT.out, List.append_assoc]
    have hll : (z5 ++ textsBytes (TT.take 4)).length ≤ 900 := by omega
    replace hfin := hid hfin
    replace hfb := hid hfb
    generalize hgy : z5 ++ textsBytes (TT.take 4) = ys at st hll hlen
    replace hgy := hid hgy
    replace hlen := hid hlen
    obtain ⟨oa, oc, rfl⟩ := own_form st.own
    have hwr := st.below.size
    clear hnb hnv
    have e9 : IntKind.u64.wrap (ys.length : Int) = (ys.length : Int) := IntWalk.u64_in _ (by omega)
    go_wp2_with fail
    refine (rnum2 ys.length _ (by omega)).mono ?_
    rintro e w9 ⟨v9, rfl, hown9, hb9⟩
    have st9 := st.same hb9
    have l2 : (numBytes ys.length 2).length ≤ 2 := by simp [numBytes_length]
    clear st
    go_wp2_with (at_builtin; refine wpList_append_row elemU8 _ rfl (.tmp 76) (.tmp 77) rfl wr.heap.size v9 (numBytes ys.length 2).length ((numBytes ys.length 2).map byteV) rfl hown9 (.slice oa ys.length oc) ys.length (ys.map byteV) rfl (RowAt.of_own st9.own) (bytes_oneCell _) (by unfold maxLen; omega) (by omega) hb9.size ?_)
    intro a6 c6 y6 h6 h7
    have hbf := st9.below.grown h7 st9.below.size (fun j hj => by have := (hown9.lt j hj).1; omega)
    have hBB : BytesAt y6 (.slice a6 ((numBytes ys.length 2).length + ys.length) c6) s.bytes := by
     rw [hfb.out, hgy.out, ← hlen.out]
     exact BytesAt.of_own h6 (by simp)
    go_wp2_with fail
    go_ret2
    exact ⟨_, by rw [hfin.out]; rfl, ⟨hBB, fun k hk => Nat.le_trans hwr (h6.lt k hk).1⟩, hbf⟩
end
end Go.Proofs.YtlmojhlacfjmaaaGreat
