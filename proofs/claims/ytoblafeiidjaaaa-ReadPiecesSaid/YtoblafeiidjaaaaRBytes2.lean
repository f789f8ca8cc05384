/- What the reference's StatBytes returns, for every record whose texts are at most 200 bytes each. No further condition. -/
import Derived.Test.YtoblafeiidjaaaaRBytes
namespace Go.Proofs.Ytoblafeiidjaaaa
open Go.RowKit
set_option maxRecDepth 100000

theorem RowSt.appl {w w1 w2 : World} {cs : Array Value} {t : TypeId} {v v2 : Value} {n : Nat} {ys zs : List UInt8} {us : List Value} {q : Nat} (h : RowSt w w1 cs t v ys) (h2 : w2.ownsRow (w.heap.size + 1) 5 1 v2 n us) (hus : us = (ys ++ zs).map byteV) (hg : w1.grownBy w2 v.ownBlock)
    (h4 : ∀ k, v2.ownBlock = some k → v.ownBlock = some k ∨ w1.heap.size ≤ k) {o : Obj} (hq : w1.heap[q]? = some o) (hn : v.ownBlock ≠ some q) :
    RowSt w w2 cs t v2 (ys ++ zs) ∧ w2.heap[q]? = some o ∧ v2.ownBlock ≠ some q := by
  refine ⟨h.app h2 hus hg, (hg.block q (lt_of_block hq) (fun e => hn e.symm)).trans hq, fun e => ?_⟩
  rcases h4 q e with h5 | h5
  · exact hn h5
  · have := lt_of_block hq; omega

set_option maxHeartbeats 3200000 in
theorem statbytes_any (s : Stat) (w : World) (hok : StatOk s) (hf : Few s) : Calls Try.prog 40 #[.agg s.cells] w (EncPost w s) := by
  have hsize : 49 ≤ s.size ∧ s.size ≤ 849 := by obtain ⟨h1, h2, h3, h4⟩ := hf; unfold Stat.size; omega
  obtain ⟨o1, o2, o3, o4, o5, o6, o7, o8, o9, _, _, _, _⟩ := hok
  obtain ⟨f1, f2, f3, f4⟩ := hf
  have hE : Hid (s.err = textsErr s.texts) := hid rfl
  have hB : Hid (s.bytes = if s.err = 0 then numBytes (s.size - 2) 2 ++ s.head ++ textsBytes s.texts else []) := hid rfl
  have hH := hid (head_eq s)
  have hSz : Hid (s.size = 49 + s.name.size + s.uid.size + s.gid.size + s.muid.size) := hid rfl
  have e1 : IntKind.u64.wrap (s.kind : Int) = (s.kind : Int) := IntWalk.u64_in _ (by omega)
  have e2 : IntKind.u64.wrap (s.dev : Int) = (s.dev : Int) := IntWalk.u64_in _ (by omega)
  rw [cells_eq s]
  have f0 := hid (((Below.refl w.heap.size w).alloc (Nat.le_refl _) (.cells #[.int .u16 (s.kind : Int), .int .u32 (s.dev : Int), .int .u8 (s.qt : Int), .int .u32 (s.qv : Int), .int .u64 (s.qp : Int), .int .u32 (s.mode : Int), .int .u32 (s.atm : Int), .int .u32 (s.mtm : Int), .int .u64 (s.len : Int), .string s.name, .string s.uid, .string s.gid, .string s.muid] 77)).drew)
  have x0 := hid (show (w.alloc (.cells #[.int .u16 (s.kind : Int), .int .u32 (s.dev : Int), .int .u8 (s.qt : Int), .int .u32 (s.qv : Int), .int .u64 (s.qp : Int), .int .u32 (s.mode : Int), .int .u32 (s.atm : Int), .int .u32 (s.mtm : Int), .int .u64 (s.len : Int), .string s.name, .string s.uid, .string s.gid, .string s.muid] 77)).drew.heap[w.heap.size]? = _ from heap_alloc_new w _)
  go_enter Try.func40, Try.ntmps40
  go_wp2
  go_region_held3 (fun w' => w'.cell? ⟨w.heap.size, 0, none⟩ = some (.int .u16 (s.kind : Int)) ∧ w'.cell? ⟨w.heap.size, 1, none⟩ = some (.int .u32 (s.dev : Int)))
    (first | go_keep | exact ⟨k0, k1⟩)
    (first
      | (go_at_call 62; (with_reducible refine (rnum2 s.kind _ (by omega)).mono ?_); rintro e wn ⟨vn, rfl, hownA, hbA⟩; obtain ⟨an, cn, rfl⟩ := own_form hownA; obtain ⟨hcn, hfn⟩ := bcell hbA; have hzn : w.heap.size < wn.heap.size := bsz hbA (by first | assumption | simp); (try (have hownB' := own_below hownB hbA)))
      | (go_at_call 62; (with_reducible refine (rnum4 s.dev _ (by omega)).mono ?_); rintro e wn ⟨vn, rfl, hownB, hbB⟩; obtain ⟨an, cn, rfl⟩ := own_form hownB; obtain ⟨hcn, hfn⟩ := bcell hbB; have hzn : w.heap.size < wn.heap.size := bsz hbB (by first | assumption | simp); (try (have hownA' := own_below hownA hbB)))
      | (have hO := own_mono (b' := w.heap.size + 1) (by first | exact hownA' | exact hownA) (by first | omega | simp); have hP := RowAt.of_own (by first | exact hownB' | exact hownB); refine step_append_row elemU8 _ (by rfl) (.tmp 12) (.tmp 16) (by rfl) (w.heap.size + 1) _ (numBytes s.kind 2).length ((numBytes s.kind 2).map byteV) (by rfl) hO _ (numBytes s.dev 4).length ((numBytes s.dev 4).map byteV) (by rfl) hP (bytes_oneCell _) (by unfold maxLen; simp [numBytes_length]) (by simp [numBytes_length]) (by omega) ?_; intro a' c' w' h2 h3; have hH := ‹World.cell? _ ⟨_, 0, none⟩ = some _ ∧ _›; have k0 := grown_cell h3 hO hH.1; have k1 := grown_cell h3 hO hH.2))
  all_goals
    have hst : RowSt w w' #[.int .u16 (s.kind : Int), .int .u32 (s.dev : Int), .int .u8 (s.qt : Int), .int .u32 (s.qv : Int), .int .u64 (s.qp : Int), .int .u32 (s.mode : Int), .int .u32 (s.atm : Int), .int .u32 (s.mtm : Int), .int .u64 (s.len : Int), .string s.name, .string s.uid, .string s.gid, .string s.muid] 77 (.slice a' ((numBytes s.kind 2).length + (numBytes s.dev 4).length) c') (numBytes s.kind 2 ++ numBytes s.dev 4) :=
      RowSt.app (ys := numBytes s.kind 2) ⟨hO, by first | exact (hbB.block _ (by first | assumption | simp)).trans ((hbA.block _ (by first | assumption | simp)).trans x0.out) | exact (hbA.block _ (by first | assumption | simp)).trans ((hbB.block _ (by first | assumption | simp)).trans x0.out),
        by first | exact sn (sn f0.out hbA) hbB | exact sn (sn f0.out hbB) hbA⟩ h2 (by simp) h3
    have l5 : (numBytes s.kind 2).length + (numBytes s.dev 4).length = (numBytes s.kind 2 ++ numBytes s.dev 4).length := by simp
    rw [l5] at hst ⊢
    have lz0 : (numBytes s.kind 2 ++ numBytes s.dev 4).length = 6 := by simp [numBytes_length]
    replace l5 := hid l5
    obtain ⟨vv, hvv⟩ : ∃ vv : Value, vv = .slice a' (numBytes s.kind 2 ++ numBytes s.dev 4).length c' := ⟨_, rfl⟩
    rw [← hvv] at hst ⊢
    clear hO hP h2 h3 k0 k1 hH hvv hcn hfn hzn
    generalize hz0 : numBytes s.kind 2 ++ numBytes s.dev 4 = z0 at *
    replace hz0 := hid hz0
    have c2 : w'.cell? ⟨w.heap.size, 0 + 2, none⟩ = some (.int .u8 (s.qt : Int)) := block_cell hst.box 2
    have c3 : w'.cell? ⟨w.heap.size, 0 + 2 + 1, none⟩ = some (.int .u32 (s.qv : Int)) := block_cell hst.box 3
    have c4 : w'.cell? ⟨w.heap.size, 0 + 2 + 2, none⟩ = some (.int .u64 (s.qp : Int)) := block_cell hst.box 4
    go_wp2_with fail
    refine (qidbytes_any s.qt s.qv s.qp _ o3 o4 o5).mono ?_
    rintro e x0 ⟨v4, rfl, hown4, hb4⟩
    have st4 := hst.same hb4
    have lm : (qidBytes s.qt s.qv s.qp).length = 13 := by simp [qidBytes_length]
    have lm2 : (qidBytes s.qt s.qv s.qp).length ≤ 13 := by omega
    replace lm := hid lm
    have lzz : z0.length ≤ 6 := by omega
    replace lz0 := hid lz0
    clear c2 c3 c4 hst hb4
    go_wp2_with (at_builtin; refine wpList_append_row elemU8 _ rfl (.tmp 18) (.tmp 21) rfl (w.heap.size + 1) vv z0.length (z0.map byteV) rfl st4.own v4 (qidBytes s.qt s.qv s.qp).length ((qidBytes s.qt s.qv s.qp).map byteV) rfl (RowAt.of_own hown4) (bytes_oneCell _) (by unfold maxLen; omega) (by omega) st4.lt ?_)
    intro a6 c6 y0 h6 h7
    have st6 := RowSt.app (zs := qidBytes s.qt s.qv s.qp) st4 h6 (by simp) h7
    have l9 : z0.length + (qidBytes s.qt s.qv s.qp).length = (z0 ++ qidBytes s.qt s.qv s.qp).length := by simp
    rw [l9] at st6 ⊢
    have lz1 : (z0 ++ qidBytes s.qt s.qv s.qp).length = 19 := by rw [List.length_append, lz0.out, lm.out]
    replace l9 := hid l9
    obtain ⟨v10, hv10⟩ : ∃ vv : Value, vv = .slice a6 (z0 ++ qidBytes s.qt s.qv s.qp).length c6 := ⟨_, rfl⟩
    rw [← hv10] at st6 ⊢
    have st20 := st6
    clear h6 h7 hv10 st4 hown4 lm lm2 lzz st6
    generalize hz1 : z0 ++ qidBytes s.qt s.qv s.qp = z1 at *
    replace hz1 := hid hz1
    have c2 : y0.cell? ⟨w.heap.size, 0 + 5, none⟩ = some (.int .u32 (s.mode : Int)) := block_cell st20.box 5
    go_wp2_with fail
    refine (rnum4 s.mode _ (by omega)).mono ?_
    rintro e x1 ⟨v4, rfl, hown4, hb4⟩
    have st4 := st20.same hb4
    have lm : (numBytes s.mode 4).length = 4 := by simp [numBytes_length]
    have lm2 : (numBytes s.mode 4).length ≤ 4 := by omega
    replace lm := hid lm
    have lzz : z1.length ≤ 19 := by omega
    replace lz1 := hid lz1
    clear c2 st20 hb4
    go_wp2_with (at_builtin; refine wpList_append_row elemU8 _ rfl (.tmp 23) (.tmp 27) rfl (w.heap.size + 1) v10 z1.length (z1.map byteV) rfl st4.own v4 (numBytes s.mode 4).length ((numBytes s.mode 4).map byteV) rfl (RowAt.of_own hown4) (bytes_oneCell _) (by unfold maxLen; omega) (by omega) st4.lt ?_)
    intro a6 c6 y1 h6 h7
    have st6 := RowSt.app (zs := numBytes s.mode 4) st4 h6 (by simp) h7
    have l9 : z1.length + (numBytes s.mode 4).length = (z1 ++ numBytes s.mode 4).length := by simp
    rw [l9] at st6 ⊢
    have lz2 : (z1 ++ numBytes s.mode 4).length = 23 := by rw [List.length_append, lz1.out, lm.out]
    replace l9 := hid l9
    obtain ⟨v11, hv11⟩ : ∃ vv : Value, vv = .slice a6 (z1 ++ numBytes s.mode 4).length c6 := ⟨_, rfl⟩
    rw [← hv11] at st6 ⊢
    have st21 := st6
    clear h6 h7 hv11 st4 hown4 lm lm2 lzz st6
    generalize hz2 : z1 ++ numBytes s.mode 4 = z2 at *
    replace hz2 := hid hz2
    have c2 : y1.cell? ⟨w.heap.size, 0 + 6, none⟩ = some (.int .u32 (s.atm : Int)) := block_cell st21.box 6
    go_wp2_with fail
    refine (rnum4 s.atm _ (by omega)).mono ?_
    rintro e x2 ⟨v4, rfl, hown4, hb4⟩
    have st4 := st21.same hb4
    have lm : (numBytes s.atm 4).length = 4 := by simp [numBytes_length]
    have lm2 : (numBytes s.atm 4).length ≤ 4 := by omega
    replace lm := hid lm
    have lzz : z2.length ≤ 23 := by omega
    replace lz2 := hid lz2
    clear c2 st21 hb4
    go_wp2_with (at_builtin; refine wpList_append_row elemU8 _ rfl (.tmp 29) (.tmp 33) rfl (w.heap.size + 1) v11 z2.length (z2.map byteV) rfl st4.own v4 (numBytes s.atm 4).length ((numBytes s.atm 4).map byteV) rfl (RowAt.of_own hown4) (bytes_oneCell _) (by unfold maxLen; omega) (by omega) st4.lt ?_)
    intro a6 c6 y2 h6 h7
    have st6 := RowSt.app (zs := numBytes s.atm 4) st4 h6 (by simp) h7
    have l9 : z2.length + (numBytes s.atm 4).length = (z2 ++ numBytes s.atm 4).length := by simp
    rw [l9] at st6 ⊢
    have lz3 : (z2 ++ numBytes s.atm 4).length = 27 := by rw [List.length_append, lz2.out, lm.out]
    replace l9 := hid l9
    obtain ⟨v12, hv12⟩ : ∃ vv : Value, vv = .slice a6 (z2 ++ numBytes s.atm 4).length c6 := ⟨_, rfl⟩
    rw [← hv12] at st6 ⊢
    have st22 := st6
    clear h6 h7 hv12 st4 hown4 lm lm2 lzz st6
    generalize hz3 : z2 ++ numBytes s.atm 4 = z3 at *
    replace hz3 := hid hz3
    have c2 : y2.cell? ⟨w.heap.size, 0 + 7, none⟩ = some (.int .u32 (s.mtm : Int)) := block_cell st22.box 7
    go_wp2_with fail
    refine (rnum4 s.mtm _ (by omega)).mono ?_
    rintro e x3 ⟨v4, rfl, hown4, hb4⟩
    have st4 := st22.same hb4
    have lm : (numBytes s.mtm 4).length = 4 := by simp [numBytes_length]
    have lm2 : (numBytes s.mtm 4).length ≤ 4 := by omega
    replace lm := hid lm
    have lzz : z3.length ≤ 27 := by omega
    replace lz3 := hid lz3
    clear c2 st22 hb4
    go_wp2_with (at_builtin; refine wpList_append_row elemU8 _ rfl (.tmp 35) (.tmp 39) rfl (w.heap.size + 1) v12 z3.length (z3.map byteV) rfl st4.own v4 (numBytes s.mtm 4).length ((numBytes s.mtm 4).map byteV) rfl (RowAt.of_own hown4) (bytes_oneCell _) (by unfold maxLen; omega) (by omega) st4.lt ?_)
    intro a6 c6 y3 h6 h7
    have st6 := RowSt.app (zs := numBytes s.mtm 4) st4 h6 (by simp) h7
    have l9 : z3.length + (numBytes s.mtm 4).length = (z3 ++ numBytes s.mtm 4).length := by simp
    rw [l9] at st6 ⊢
    have lz4 : (z3 ++ numBytes s.mtm 4).length = 31 := by rw [List.length_append, lz3.out, lm.out]
    replace l9 := hid l9
    obtain ⟨v13, hv13⟩ : ∃ vv : Value, vv = .slice a6 (z3 ++ numBytes s.mtm 4).length c6 := ⟨_, rfl⟩
    rw [← hv13] at st6 ⊢
    have st23 := st6
    clear h6 h7 hv13 st4 hown4 lm lm2 lzz st6
    generalize hz4 : z3 ++ numBytes s.mtm 4 = z4 at *
    replace hz4 := hid hz4
    have c2 : y3.cell? ⟨w.heap.size, 0 + 8, none⟩ = some (.int .u64 (s.len : Int)) := block_cell st23.box 8
    go_wp2_with fail
    refine (rnum8 s.len _ (by omega)).mono ?_
    rintro e x4 ⟨v4, rfl, hown4, hb4⟩
    have st4 := st23.same hb4
    have lm : (numBytes s.len 8).length = 8 := by simp [numBytes_length]
    have lm2 : (numBytes s.len 8).length ≤ 8 := by omega
    replace lm := hid lm
    have lzz : z4.length ≤ 31 := by omega
    replace lz4 := hid lz4
    clear c2 st23 hb4
    go_wp2_with (at_builtin; refine wpList_append_row elemU8 _ rfl (.tmp 41) (.tmp 44) rfl (w.heap.size + 1) v13 z4.length (z4.map byteV) rfl st4.own v4 (numBytes s.len 8).length ((numBytes s.len 8).map byteV) rfl (RowAt.of_own hown4) (bytes_oneCell _) (by unfold maxLen; omega) (by omega) st4.lt ?_)
    intro a6 c6 y4 h6 h7
    have st6 := RowSt.app (zs := numBytes s.len 8) st4 h6 (by simp) h7
    have l9 : z4.length + (numBytes s.len 8).length = (z4 ++ numBytes s.len 8).length := by simp
    rw [l9] at st6 ⊢
    have lz5 : (z4 ++ numBytes s.len 8).length = 39 := by rw [List.length_append, lz4.out, lm.out]
    replace l9 := hid l9
    obtain ⟨v14, hv14⟩ : ∃ vv : Value, vv = .slice a6 (z4 ++ numBytes s.len 8).length c6 := ⟨_, rfl⟩
    rw [← hv14] at st6 ⊢
    have st24 := st6
    clear h6 h7 hv14 st4 hown4 lm lm2 lzz st6
    generalize hz5 : z4 ++ numBytes s.len 8 = z5 at *
    replace hz5 := hid hz5
    have hZ : Hid (z5 = s.head) := hid (by rw [← hz5.out, ← hz4.out, ← hz3.out, ← hz2.out, ← hz1.out, ← hz0.out]; unfold Stat.head; simp)
    have lz : z5.length ≤ 39 := by omega
    replace lz5 := hid lz5
    clear hz0 hz1 hz2 hz3 hz4 hz5
    have c9 : y4.cell? ⟨w.heap.size, 0 + 9, none⟩ = some (.string s.name) := block_cell st24.box 9
    have c10 : y4.cell? ⟨w.heap.size, 0 + 10, none⟩ = some (.string s.uid) := block_cell st24.box 10
    have c11 : y4.cell? ⟨w.heap.size, 0 + 11, none⟩ = some (.string s.gid) := block_cell st24.box 11
    have c12 : y4.cell? ⟨w.heap.size, 0 + 12, none⟩ = some (.string s.muid) := block_cell st24.box 12
    have hnb := heap_alloc_new y4 (.cells #[.string s.name, .string s.uid, .string s.gid, .string s.muid] 9)
    have st8 := st24.same ((Below.refl y4.heap.size y4).alloc (Nat.le_refl _) (.cells #[.string s.name, .string s.uid, .string s.gid, .string s.muid] 9))
    have hnv : v14.ownBlock ≠ some y4.heap.size := fun e => by have := (st24.own.lt _ e).2; omega
    replace hnb := hid hnb
    obtain ⟨TT, hT⟩ : ∃ TT, TT = s.texts := ⟨_, rfl⟩
    have hTl : TT.length = 4 := by rw [hT]; rfl
    have hTs : ∀ k (h : k < TT.length), TT[k].size ≤ 200 := by
      subst hT
      intro k h
      match k, h with
      | 0, _ => exact f1
      | 1, _ => exact f2
      | 2, _ => exact f3
      | 3, _ => exact f4
    have hTc : ∀ k (h : k < TT.length), (#[Value.string s.name, .string s.uid, .string s.gid, .string s.muid])[k]? = some (.string TT[k]) := by
      subst hT
      intro k h
      match k, h with
      | 0, _ => rfl
      | 1, _ => rfl
      | 2, _ => rfl
      | 3, _ => rfl
    have hTsum : ∀ k, k ≤ 4 → (textsBytes (TT.take k)).length ≤ k * 202 := by
      intro k
      induction k with
      | zero => intro _; simp [textsBytes]
      | succ k ih =>
        intro hk
        have hkl : k < TT.length := by omega
        rw [textsBytes_snoc TT k hkl, List.length_append, putText_length]
        have := hTs k hkl
        have := ih (by omega)
        omega
    replace hT := hid hT
    replace hTs := hid hTs
    replace hTc := hid hTc
    replace hTsum := hid hTsum
    have hTl2 : TT.length ≤ 4 := by omega
    have hTl4 := hid hTl
    clear hTl
    go_wp2_with fail
    go_loopw [4, 6] (fun bv i wr => ∃ k : Nat, k ≤ 4 ∧ i = .int .i64 (k : Int) ∧ RowSt w wr #[.int .u16 (s.kind : Int), .int .u32 (s.dev : Int), .int .u8 (s.qt : Int), .int .u32 (s.qv : Int), .int .u64 (s.qp : Int), .int .u32 (s.mode : Int), .int .u32 (s.atm : Int), .int .u32 (s.mtm : Int), .int .u64 (s.len : Int), .string s.name, .string s.uid, .string s.gid, .string s.muid] 77 bv (z5 ++ textsBytes (TT.take k)) ∧ bv.ownBlock ≠ some y4.heap.size ∧
        wr.heap[y4.heap.size]? = some (.cells #[.string s.name, .string s.uid, .string s.gid, .string s.muid] 9 (0, 0)) ∧ Hid (textsErr TT = textsErr (TT.drop k))) (fun _ i _ => 4 - (intOf i).toNat)
    case atStart => exact ⟨0, by omega, rfl, by simpa [textsBytes] using st8, hnv, hnb.out, hid rfl⟩
    case round =>
      obtain ⟨k, hk, rfl, st, hnv, hnb, hte⟩ := hrel
      by_cases hlt : k < 4
      · have hlt2 : k < TT.length := by rw [hTl4.out]; exact hlt
        have hcell : wr.cell? ⟨y4.heap.size, k, none⟩ = some (.string TT[k]) := by rw [block_cell hnb k]; exact hTc.out k hlt2
        have hts := hTs.out k hlt2
        have hsn := hid (textsBytes_snoc TT k hlt2)
        have hed := hid (textsErr_drop TT k hlt2)
        have hll : (z5 ++ textsBytes (TT.take k)).length ≤ 900 := by rw [List.length_append]; have := hTsum.out k (by omega); omega
        generalize TT[k] = x at hcell hts hsn hed
        replace hnb := hid hnb
        generalize hgy : z5 ++ textsBytes (TT.take k) = ys at st hll
        replace hgy := hid hgy
        obtain ⟨oa, oc, rfl⟩ := own_form st.own
        go_wp2_with fail
        refine (ref_text_any x wr (by omega)).mono ?_
        rintro e w6 ⟨v6, rfl, hv6, hb6⟩
        have st6 := st.same hb6
        have hnb6 := hid ((hb6.block _ (lt_of_block hnb.out)).trans hnb.out)
        clear hb6 hcell st
        by_cases hm : mayN x = 0
        · have hpt := hid (putTextR_ok hm)
          have k0 : ((mayN x : Int) != 0) = false := by simpa using hm
          have hed2 : Hid (textsErr TT = textsErr (TT.drop (k + 1))) := hid (by rw [hte.out, hed.out, if_pos hm])
          rw [hpt.out] at hv6
          have hpl : (putText x).length ≤ 202 := by rw [putText_length]; omega
          clear hm hed hte
          go_wp2_with (at_builtin; refine wpList_append_rowl elemU8 _ rfl (.tmp 70) (.tmp 71) rfl (w.heap.size + 1) (.slice oa ys.length oc) ys.length (ys.map byteV) rfl st6.own v6 (putText x).length ((putText x).map byteV) rfl hv6 (bytes_oneCell _) (by unfold maxLen; omega) (by omega) st6.lt ?_)
          intro a6 c6 y6 h6 h7 h8
          obtain ⟨st7, hnb7, hnv7⟩ := RowSt.appl (zs := putText x) st6 h6 (by simp) h7 h8 hnb6.out (by exact hnv)
          have l9 : ys.length + (putText x).length = (ys ++ putText x).length := by simp
          clear h6 h7 h8 st6 hv6 hnb6 hnb
          replace hnb7 := hid hnb7
          go_wp2_with fail
          go_roundw
          case rel => exact ⟨k + 1, by omega, by go_num, by rw [hsn.out, ← List.append_assoc, hgy.out]; exact st7, hnv7, hnb7.out, hed2⟩
          case measure => simp [intOf]; omega
        · have hfin : s.err = mayN x := by rw [hE.out, ← hT.out, hte.out, hed.out, if_neg hm]
          have hfb : s.bytes = [] := by rw [hB.out, if_neg (by rw [hfin]; exact hm)]
          have k0 : ((mayN x : Int) != 0) = true := by simpa using hm
          replace hfin := hid hfin
          replace hfb := hid hfb
          clear hm
          go_wp2_with fail
          go_ret2
          exact ⟨_, by rw [hfin.out]; rfl, by rw [hfb.out]; exact RowAt.nil, st6.below⟩
      · obtain rfl : k = 4 := by omega
        have hfin : s.err = 0 := by rw [hE.out, ← hT.out, hte.out, List.drop_of_length_le hTl2]; rfl
        have hlen : (z5 ++ textsBytes (TT.take 4)).length = s.size - 2 := by
          rw [List.length_append, lz5.out, List.take_of_length_le hTl2, hT.out]
          unfold Stat.texts; simp only [textsBytes, List.length_append, putText_length, List.length_nil]
          rw [hSz.out]; omega
        have hfb : s.bytes = numBytes (s.size - 2) 2 ++ (z5 ++ textsBytes (TT.take 4)) := by rw [hB.out, if_pos hfin, hZ.out, List.take_of_length_le hTl2, hT.out, List.append_assoc]
        have hll : (z5 ++ textsBytes (TT.take 4)).length ≤ 900 := by omega
        replace hfin := hid hfin
        replace hfb := hid hfb
        generalize hgy : z5 ++ textsBytes (TT.take 4) = ys at st hll hlen
        replace hgy := hid hgy
        replace hlen := hid hlen
        obtain ⟨oa, oc, rfl⟩ := own_form st.own
        have hwr := st.below.size
        clear hnb hnv
        have e9 : IntKind.u64.wrap (ys.length : Int) = (ys.length : Int) := IntWalk.u64_in _ (by omega)
        go_wp2_with fail
        refine (rnum2 ys.length _ (by omega)).mono ?_
        rintro e w9 ⟨v9, rfl, hown9, hb9⟩
        have st9 := st.same hb9
        have l2 : (numBytes ys.length 2).length ≤ 2 := by simp [numBytes_length]
        clear st
        go_wp2_with (at_builtin; refine wpList_append_row elemU8 _ rfl (.tmp 76) (.tmp 77) rfl wr.heap.size v9 (numBytes ys.length 2).length ((numBytes ys.length 2).map byteV) rfl hown9 (.slice oa ys.length oc) ys.length (ys.map byteV) rfl (RowAt.of_own st9.own) (bytes_oneCell _) (by unfold maxLen; omega) (by omega) hb9.size ?_)
        intro a6 c6 y6 h6 h7
        have hbf := st9.below.grown h7 st9.below.size (fun j hj => by have := (hown9.lt j hj).1; omega)
        have hBB : BytesAt y6 (.slice a6 ((numBytes ys.length 2).length + ys.length) c6) s.bytes := by
          rw [hfb.out, hgy.out, ← hlen.out]
          exact BytesAt.of_own h6 (by simp)
        go_wp2_with fail
        go_ret2
        exact ⟨_, by rw [hfin.out]; rfl, hBB, hbf⟩
    
    
end Go.Proofs.Ytoblafeiidjaaaa
