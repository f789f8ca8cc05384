/- What the reference's StatBytes returns, for every record whose texts are at most 200 bytes each. No further condition.
An out of the reference's messages: what num, text, qid, stat write into it, and what they leave as it was. Conditions: bounds on lengths, numbers in their types. -/
import Derived.Test.YtcbglcebdkpcfaaGreatCeA20
import Derived.Deep.DeepCutAuto
namespace Go.Proofs.YtcbglcebdkpcfaaGreat
section
open Go.RowKit
set_option maxRecDepth 100000

theorem RowSt.appl {w w1 w2 : World} {cs : Array Value} {t : TypeId} {v v2 : Value} {n : Nat} {ys zs : List UInt8} {us : List Value} {q : Nat} (h : RowSt w w1 cs t v ys) (h2 : w2.ownsRow (w.heap.size + 1) 5 1 v2 n us) (hus : us = (ys ++ zs).map byteV) (hg : w1.grownBy w2 v.ownBlock)
    (h4 : ∀ k, v2.ownBlock = some k → v.ownBlock = some k ∨ w1.heap.size ≤ k) {o : Obj} (hq : w1.heap[q]? = some o) (hn : v.ownBlock ≠ some q) :
    RowSt w w2 cs t v2 (ys ++ zs) ∧ w2.heap[q]? = some o ∧ v2.ownBlock ≠ some q := by
  refine ⟨h.app h2 hus hg, (hg.block q (lt_of_block hq) (fun e => hn e.symm)).trans hq, fun e => ?_⟩
  rcases h4 q e with h5 | h5
  · exact hn h5
  · have := lt_of_block hq; omega

set_option maxHeartbeats 3200000 in
theorem statbytes_new (s : Stat) (w : World) (hok : StatOk s) (hf : Few s) : Calls Tryz.prog 87 #[.agg s.cells] w (EncNew w s) := by
  have hsize : 49 ≤ s.size ∧ s.size ≤ 849 := by obtain ⟨h1, h2, h3, h4⟩ := hf; unfold Stat.size; omega
  obtain ⟨o1, o2, o3, o4, o5, o6, o7, o8, o9, _, _, _, _⟩ := hok
  obtain ⟨f1, f2, f3, f4⟩ := hf
  have hE : Hid (s.err = textsErr s.texts) := hid rfl
  have hB : Hid (s.bytes = if s.err = 0 then numBytes (s.size - 2) 2 ++ s.head ++ textsBytes s.texts else []) := hid rfl
  have hH := hid (head_eq s)
  have hSz : Hid (s.size = 49 + s.name.size + s.uid.size + s.gid.size + s.muid.size) := hid rfl
  have e1 : IntKind.u64.wrap (s.kind : Int) = (s.kind : Int) := IntWalk.u64_in _ (by omega)
  have e2 : IntKind.u64.wrap (s.dev : Int) = (s.dev : Int) := IntWalk.u64_in _ (by omega)
  rw [cells_eq s]
  have f0 := hid (((Below.refl w.heap.size w).alloc (Nat.le_refl _) (.cells #[.int .u16 (s.kind : Int), .int .u32 (s.dev : Int), .int .u8 (s.qt : Int), .int .u32 (s.qv : Int), .int .u64 (s.qp : Int), .int .u32 (s.mode : Int), .int .u32 (s.atm : Int), .int .u32 (s.mtm : Int), .int .u64 (s.len : Int), .string s.name, .string s.uid, .string s.gid, .string s.muid] 68)).drew)
  have x0 := hid (show (w.alloc (.cells #[.int .u16 (s.kind : Int), .int .u32 (s.dev : Int), .int .u8 (s.qt : Int), .int .u32 (s.qv : Int), .int .u64 (s.qp : Int), .int .u32 (s.mode : Int), .int .u32 (s.atm : Int), .int .u32 (s.mtm : Int), .int .u64 (s.len : Int), .string s.name, .string s.uid, .string s.gid, .string s.muid] 68)).drew.heap[w.heap.size]? = _ from heap_alloc_new w _)
  go_enter Tryz.func87, Tryz.ntmps87
  go_wp2
  go_region_held3 (fun w' => w'.cell? ⟨w.heap.size, 0, none⟩ = some (.int .u16 (s.kind : Int)) ∧ w'.cell? ⟨w.heap.size, 1, none⟩ = some (.int .u32 (s.dev : Int)))
    (first | go_keep | exact ⟨k0, k1⟩)
    (first
      | (go_at_call 63; (with_reducible refine (rnum2 s.kind _ (by omega)).mono ?_); rintro e wn ⟨vn, rfl, hownA, hbA⟩; obtain ⟨an, cn, rfl⟩ := own_form hownA; obtain ⟨hcn, hfn⟩ := bcell hbA; have hzn : w.heap.size < wn.heap.size := bsz hbA (by first | assumption | simp); (try (have hownB' := own_below hownB hbA)))
      | (go_at_call 63; (with_reducible refine (rnum4 s.dev _ (by omega)).mono ?_); rintro e wn ⟨vn, rfl, hownB, hbB⟩; obtain ⟨an, cn, rfl⟩ := own_form hownB; obtain ⟨hcn, hfn⟩ := bcell hbB; have hzn : w.heap.size < wn.heap.size := bsz hbB (by first | assumption | simp); (try (have hownA' := own_below hownA hbB)))
      | (have hO := own_mono (b' := w.heap.size + 1) (by first | exact hownA' | exact hownA) (by first | omega | simp); have hP := RowAt.of_own (by first | exact hownB' | exact hownB); refine step_append_row elemU8 _ (by rfl) (.tmp 12) (.tmp 16) (by rfl) (w.heap.size + 1) _ (numBytes s.kind 2).length ((numBytes s.kind 2).map byteV) (by rfl) hO _ (numBytes s.dev 4).length ((numBytes s.dev 4).map byteV) (by rfl) hP (bytes_oneCell _) (by unfold maxLen; simp [numBytes_length]) (by simp [numBytes_length]) (by omega) ?_; intro a' c' w' h2 h3; have hH := ‹World.cell? _ ⟨_, 0, none⟩ = some _ ∧ _›; have k0 := grown_cell h3 hO hH.1; have k1 := grown_cell h3 hO hH.2))
  all_goals
    have hst : RowSt w w' #[.int .u16 (s.kind : Int), .int .u32 (s.dev : Int), .int .u8 (s.qt : Int), .int .u32 (s.qv : Int), .int .u64 (s.qp : Int), .int .u32 (s.mode : Int), .int .u32 (s.atm : Int), .int .u32 (s.mtm : Int), .int .u64 (s.len : Int), .string s.name, .string s.uid, .string s.gid, .string s.muid] 68 (.slice a' ((numBytes s.kind 2).length + (numBytes s.dev 4).length) c') (numBytes s.kind 2 ++ numBytes s.dev 4) :=
      RowSt.app (ys := numBytes s.kind 2) ⟨hO, by first | exact (hbB.block _ (by first | assumption | simp)).trans ((hbA.block _ (by first | assumption | simp)).trans x0.out) | exact (hbA.block _ (by first | assumption | simp)).trans ((hbB.block _ (by first | assumption | simp)).trans x0.out),
        by first | exact sn (sn f0.out hbA) hbB | exact sn (sn f0.out hbB) hbA⟩ h2 (by simp) h3
    have l5 : (numBytes s.kind 2).length + (numBytes s.dev 4).length = (numBytes s.kind 2 ++ numBytes s.dev 4).length := by simp
    rw [l5] at hst ⊢
    have lz0 : (numBytes s.kind 2 ++ numBytes s.dev 4).length = 6 := by simp [numBytes_length]
    replace l5 := hid l5
    obtain ⟨vv, hvv⟩ : ∃ vv : Value, vv = .slice a' (numBytes s.kind 2 ++ numBytes s.dev 4).length c' := ⟨_, rfl⟩
    rw [← hvv] at hst ⊢
    clear hO hP h2 h3 k0 k1 hH hvv hcn hfn hzn
    generalize hz0 : numBytes s.kind 2 ++ numBytes s.dev 4 = z0 at *
    replace hz0 := hid hz0
    have c2 : w'.cell? ⟨w.heap.size, 0 + 2, none⟩ = some (.int .u8 (s.qt : Int)) := block_cell hst.box 2
    have c3 : w'.cell? ⟨w.heap.size, 0 + 2 + 1, none⟩ = some (.int .u32 (s.qv : Int)) := block_cell hst.box 3
    have c4 : w'.cell? ⟨w.heap.size, 0 + 2 + 2, none⟩ = some (.int .u64 (s.qp : Int)) := block_cell hst.box 4
    go_wp2_with fail
    refine (qidbytes_any s.qt s.qv s.qp _ o3 o4 o5).mono ?_
    rintro e x0 ⟨v4, rfl, hown4, hb4⟩
    have st4 := hst.same hb4
    have lm : (qidBytes s.qt s.qv s.qp).length = 13 := by simp [qidBytes_length]
    have lm2 : (qidBytes s.qt s.qv s.qp).length ≤ 13 := by omega
    replace lm := hid lm
    have lzz : z0.length ≤ 6 := by omega
    replace lz0 := hid lz0
    clear c2 c3 c4 hst hb4
    go_wp2_with (at_builtin; refine wpList_append_row elemU8 _ rfl (.tmp 18) (.tmp 21) rfl (w.heap.size + 1) vv z0.length (z0.map byteV) rfl st4.own v4 (qidBytes s.qt s.qv s.qp).length ((qidBytes s.qt s.qv s.qp).map byteV) rfl (RowAt.of_own hown4) (bytes_oneCell _) (by unfold maxLen; omega) (by omega) st4.lt ?_)
    intro a6 c6 y0 h6 h7
    have st6 := RowSt.app (zs := qidBytes s.qt s.qv s.qp) st4 h6 (by simp) h7
    have l9 : z0.length + (qidBytes s.qt s.qv s.qp).length = (z0 ++ qidBytes s.qt s.qv s.qp).length := by simp
    rw [l9] at st6 ⊢
    have lz1 : (z0 ++ qidBytes s.qt s.qv s.qp).length = 19 := by rw [List.length_append, lz0.out, lm.out]
    replace l9 := hid l9
    obtain ⟨v10, hv10⟩ : ∃ vv : Value, vv = .slice a6 (z0 ++ qidBytes s.qt s.qv s.qp).length c6 := ⟨_, rfl⟩
    rw [← hv10] at st6 ⊢
    have st20 := st6
    clear h6 h7 hv10 st4 hown4 lm lm2 lzz st6
    generalize hz1 : z0 ++ qidBytes s.qt s.qv s.qp = z1 at *
    replace hz1 := hid hz1
    have c2 : y0.cell? ⟨w.heap.size, 0 + 5, none⟩ = some (.int .u32 (s.mode : Int)) := block_cell st20.box 5
    go_wp2_with fail
    refine (rnum4 s.mode _ (by omega)).mono ?_
    rintro e x1 ⟨v4, rfl, hown4, hb4⟩
    have st4 := st20.same hb4
    have lm : (numBytes s.mode 4).length = 4 := by simp [numBytes_length]
    have lm2 : (numBytes s.mode 4).length ≤ 4 := by omega
    replace lm := hid lm
    have lzz : z1.length ≤ 19 := by omega
    replace lz1 := hid lz1
    clear c2 st20 hb4
    go_wp2_with (at_builtin; refine wpList_append_row elemU8 _ rfl (.tmp 23) (.tmp 27) rfl (w.heap.size + 1) v10 z1.length (z1.map byteV) rfl st4.own v4 (numBytes s.mode 4).length ((numBytes s.mode 4).map byteV) rfl (RowAt.of_own hown4) (bytes_oneCell _) (by unfold maxLen; omega) (by omega) st4.lt ?_)
    intro a6 c6 y1 h6 h7
    have st6 := RowSt.app (zs := numBytes s.mode 4) st4 h6 (by simp) h7
    have l9 : z1.length + (numBytes s.mode 4).length = (z1 ++ numBytes s.mode 4).length := by simp
    rw [l9] at st6 ⊢
    have lz2 : (z1 ++ numBytes s.mode 4).length = 23 := by rw [List.length_append, lz1.out, lm.out]
    replace l9 := hid l9
    obtain ⟨v11, hv11⟩ : ∃ vv : Value, vv = .slice a6 (z1 ++ numBytes s.mode 4).length c6 := ⟨_, rfl⟩
    rw [← hv11] at st6 ⊢
    have st21 := st6
    clear h6 h7 hv11 st4 hown4 lm lm2 lzz st6
    generalize hz2 : z1 ++ numBytes s.mode 4 = z2 at *
    replace hz2 := hid hz2
    have c2 : y1.cell? ⟨w.heap.size, 0 + 6, none⟩ = some (.int .u32 (s.atm : Int)) := block_cell st21.box 6
    go_wp2_with fail
    refine (rnum4 s.atm _ (by omega)).mono ?_
    rintro e x2 ⟨v4, rfl, hown4, hb4⟩
    have st4 := st21.same hb4
    have lm : (numBytes s.atm 4).length = 4 := by simp [numBytes_length]
    have lm2 : (numBytes s.atm 4).length ≤ 4 := by omega
    replace lm := hid lm
    have lzz : z2.length ≤ 23 := by omega
    replace lz2 := hid lz2
    clear c2 st21 hb4
    go_wp2_with (at_builtin; refine wpList_append_row elemU8 _ rfl (.tmp 29) (.tmp 33) rfl (w.heap.size + 1) v11 z2.length (z2.map byteV) rfl st4.own v4 (numBytes s.atm 4).length ((numBytes s.atm 4).map byteV) rfl (RowAt.of_own hown4) (bytes_oneCell _) (by unfold maxLen; omega) (by omega) st4.lt ?_)
    intro a6 c6 y2 h6 h7
    have st6 := RowSt.app (zs := numBytes s.atm 4) st4 h6 (by simp) h7
    have l9 : z2.length + (numBytes s.atm 4).length = (z2 ++ numBytes s.atm 4).length := by simp
    rw [l9] at st6 ⊢
    have lz3 : (z2 ++ numBytes s.atm 4).length = 27 := by rw [List.length_append, lz2.out, lm.out]
    replace l9 := hid l9
    obtain ⟨v12, hv12⟩ : ∃ vv : Value, vv = .slice a6 (z2 ++ numBytes s.atm 4).length c6 := ⟨_, rfl⟩
    rw [← hv12] at st6 ⊢
    have st22 := st6
    clear h6 h7 hv12 st4 hown4 lm lm2 lzz st6
    generalize hz3 : z2 ++ numBytes s.atm 4 = z3 at *
    replace hz3 := hid hz3
    have c2 : y2.cell? ⟨w.heap.size, 0 + 7, none⟩ = some (.int .u32 (s.mtm : Int)) := block_cell st22.box 7
    go_wp2_with fail
    refine (rnum4 s.mtm _ (by omega)).mono ?_
    rintro e x3 ⟨v4, rfl, hown4, hb4⟩
    have st4 := st22.same hb4
    have lm : (numBytes s.mtm 4).length = 4 := by simp [numBytes_length]
    have lm2 : (numBytes s.mtm 4).length ≤ 4 := by omega
    replace lm := hid lm
    have lzz : z3.length ≤ 27 := by omega
    replace lz3 := hid lz3
    clear c2 st22 hb4
    go_wp2_with (at_builtin; refine wpList_append_row elemU8 _ rfl (.tmp 35) (.tmp 39) rfl (w.heap.size + 1) v12 z3.length (z3.map byteV) rfl st4.own v4 (numBytes s.mtm 4).length ((numBytes s.mtm 4).map byteV) rfl (RowAt.of_own hown4) (bytes_oneCell _) (by unfold maxLen; omega) (by omega) st4.lt ?_)
    intro a6 c6 y3 h6 h7
    have st6 := RowSt.app (zs := numBytes s.mtm 4) st4 h6 (by simp) h7
    have l9 : z3.length + (numBytes s.mtm 4).length = (z3 ++ numBytes s.mtm 4).length := by simp
    rw [l9] at st6 ⊢
    have lz4 : (z3 ++ numBytes s.mtm 4).length = 31 := by rw [List.length_append, lz3.out, lm.out]
    replace l9 := hid l9
    obtain ⟨v13, hv13⟩ : ∃ vv : Value, vv = .slice a6 (z3 ++ numBytes s.mtm 4).length c6 := ⟨_, rfl⟩
    rw [← hv13] at st6 ⊢
    have st23 := st6
    clear h6 h7 hv13 st4 hown4 lm lm2 lzz st6
    generalize hz4 : z3 ++ numBytes s.mtm 4 = z4 at *
    replace hz4 := hid hz4
    have c2 : y3.cell? ⟨w.heap.size, 0 + 8, none⟩ = some (.int .u64 (s.len : Int)) := block_cell st23.box 8
    go_wp2_with fail
    refine (rnum8 s.len _ (by omega)).mono ?_
    rintro e x4 ⟨v4, rfl, hown4, hb4⟩
    have st4 := st23.same hb4
    have lm : (numBytes s.len 8).length = 8 := by simp [numBytes_length]
    have lm2 : (numBytes s.len 8).length ≤ 8 := by omega
    replace lm := hid lm
    have lzz : z4.length ≤ 31 := by omega
    replace lz4 := hid lz4
    clear c2 st23 hb4
    go_wp2_with (at_builtin; refine wpList_append_row elemU8 _ rfl (.tmp 41) (.tmp 44) rfl (w.heap.size + 1) v13 z4.length (z4.map byteV) rfl st4.own v4 (numBytes s.len 8).length ((numBytes s.len 8).map byteV) rfl (RowAt.of_own hown4) (bytes_oneCell _) (by unfold maxLen; omega) (by omega) st4.lt ?_)
    intro a6 c6 y4 h6 h7
    have st6 := RowSt.app (zs := numBytes s.len 8) st4 h6 (by simp) h7
    have l9 : z4.length + (numBytes s.len 8).length = (z4 ++ numBytes s.len 8).length := by simp
    rw [l9] at st6 ⊢
    have lz5 : (z4 ++ numBytes s.len 8).length = 39 := by rw [List.length_append, lz4.out, lm.out]
    replace l9 := hid l9
    obtain ⟨v14, hv14⟩ : ∃ vv : Value, vv = .slice a6 (z4 ++ numBytes s.len 8).length c6 := ⟨_, rfl⟩
    rw [← hv14] at st6 ⊢
    have st24 := st6
    clear h6 h7 hv14 st4 hown4 lm lm2 lzz st6
    generalize hz5 : z4 ++ numBytes s.len 8 = z5 at *
    replace hz5 := hid hz5
    have hZ : Hid (z5 = s.head) := hid (by rw [← hz5.out, ← hz4.out, ← hz3.out, ← hz2.out, ← hz1.out, ← hz0.out]; unfold Stat.head; simp)
    have lz : z5.length ≤ 39 := by omega
    replace lz5 := hid lz5
    clear hz0 hz1 hz2 hz3 hz4 hz5
    have c9 : y4.cell? ⟨w.heap.size, 0 + 9, none⟩ = some (.string s.name) := block_cell st24.box 9
    have c10 : y4.cell? ⟨w.heap.size, 0 + 10, none⟩ = some (.string s.uid) := block_cell st24.box 10
    have c11 : y4.cell? ⟨w.heap.size, 0 + 11, none⟩ = some (.string s.gid) := block_cell st24.box 11
    have c12 : y4.cell? ⟨w.heap.size, 0 + 12, none⟩ = some (.string s.muid) := block_cell st24.box 12
    have hnb := heap_alloc_new y4 (.cells #[.string s.name, .string s.uid, .string s.gid, .string s.muid] 9)
    have st8 := st24.same ((Below.refl y4.heap.size y4).alloc (Nat.le_refl _) (.cells #[.string s.name, .string s.uid, .string s.gid, .string s.muid] 9))
    have hnv : v14.ownBlock ≠ some y4.heap.size := fun e => by have := (st24.own.lt _ e).2; omega
    replace hnb := hid hnb
    obtain ⟨TT, hT⟩ : ∃ TT, TT = s.texts := ⟨_, rfl⟩
    have hTl : TT.length = 4 := by rw [hT]; rfl
    have hTs : ∀ k (h : k < TT.length), TT[k].size ≤ 200 := by
      subst hT
      intro k h
      match k, h with
      | 0, _ => exact f1
      | 1, _ => exact f2
      | 2, _ => exact f3
      | 3, _ => exact f4
    have hTc : ∀ k (h : k < TT.length), (#[Value.string s.name, .string s.uid, .string s.gid, .string s.muid])[k]? = some (.string TT[k]) := by
      subst hT
      intro k h
      match k, h with
      | 0, _ => rfl
      | 1, _ => rfl
      | 2, _ => rfl
      | 3, _ => rfl
    have hTsum : ∀ k, k ≤ 4 → (textsBytes (TT.take k)).length ≤ k * 202 := by
      intro k
      induction k with
      | zero => intro _; simp [textsBytes]
      | succ k ih =>
        intro hk
        have hkl : k < TT.length := by omega
        rw [textsBytes_snoc TT k hkl, List.length_append, putText_length]
        have := hTs k hkl
        have := ih (by omega)
        omega
    replace hT := hid hT
    replace hTs := hid hTs
    replace hTc := hid hTc
    replace hTsum := hid hTsum
    have hTl2 : TT.length ≤ 4 := by omega
    have hTl4 := hid hTl
    clear hTl
    go_wp2_with fail
    go_loopw [4, 6] (fun bv i wr => ∃ k : Nat, k ≤ 4 ∧ i = .int .i64 (k : Int) ∧ RowSt w wr #[.int .u16 (s.kind : Int), .int .u32 (s.dev : Int), .int .u8 (s.qt : Int), .int .u32 (s.qv : Int), .int .u64 (s.qp : Int), .int .u32 (s.mode : Int), .int .u32 (s.atm : Int), .int .u32 (s.mtm : Int), .int .u64 (s.len : Int), .string s.name, .string s.uid, .string s.gid, .string s.muid] 68 bv (z5 ++ textsBytes (TT.take k)) ∧ bv.ownBlock ≠ some y4.heap.size ∧
        wr.heap[y4.heap.size]? = some (.cells #[.string s.name, .string s.uid, .string s.gid, .string s.muid] 9 (0, 0)) ∧ Hid (textsErr TT = textsErr (TT.drop k))) (fun _ i _ => 4 - (intOf i).toNat)
    case atStart => exact ⟨0, by omega, rfl, by simpa [textsBytes] using st8, hnv, hnb.out, hid rfl⟩
    case round =>
      obtain ⟨k, hk, rfl, st, hnv, hnb, hte⟩ := hrel
      by_cases hlt : k < 4
      · have hlt2 : k < TT.length := by rw [hTl4.out]; exact hlt
        have hcell : wr.cell? ⟨y4.heap.size, k, none⟩ = some (.string TT[k]) := by rw [block_cell hnb k]; exact hTc.out k hlt2
        have hts := hTs.out k hlt2
        have hsn := hid (textsBytes_snoc TT k hlt2)
        have hed := hid (textsErr_drop TT k hlt2)
        have hll : (z5 ++ textsBytes (TT.take k)).length ≤ 900 := by rw [List.length_append]; have := hTsum.out k (by omega); omega
        generalize TT[k] = x at hcell hts hsn hed
        replace hnb := hid hnb
        generalize hgy : z5 ++ textsBytes (TT.take k) = ys at st hll
        replace hgy := hid hgy
        obtain ⟨oa, oc, rfl⟩ := own_form st.own
        go_wp2_with fail
        refine (ref_text_any x wr (by omega)).mono ?_
        rintro e w6 ⟨v6, rfl, hv6, hb6⟩
        have st6 := st.same hb6
        have hnb6 := hid ((hb6.block _ (lt_of_block hnb.out)).trans hnb.out)
        clear hb6 hcell st
        by_cases hm : mayN x = 0
        · have hpt := hid (putTextR_ok hm)
          have k0 : ((mayN x : Int) != 0) = false := by simpa using hm
          have hed2 : Hid (textsErr TT = textsErr (TT.drop (k + 1))) := hid (by rw [hte.out, hed.out, if_pos hm])
          rw [hpt.out] at hv6
          have hpl : (putText x).length ≤ 202 := by rw [putText_length]; omega
          clear hm hed hte
          go_wp2_with (at_builtin; refine wpList_append_rowl elemU8 _ rfl (.tmp 70) (.tmp 71) rfl (w.heap.size + 1) (.slice oa ys.length oc) ys.length (ys.map byteV) rfl st6.own v6 (putText x).length ((putText x).map byteV) rfl hv6 (bytes_oneCell _) (by unfold maxLen; omega) (by omega) st6.lt ?_)
          intro a6 c6 y6 h6 h7 h8
          obtain ⟨st7, hnb7, hnv7⟩ := RowSt.appl (zs := putText x) st6 h6 (by simp) h7 h8 hnb6.out (by exact hnv)
          have l9 : ys.length + (putText x).length = (ys ++ putText x).length := by simp
          clear h6 h7 h8 st6 hv6 hnb6 hnb
          replace hnb7 := hid hnb7
          go_wp2_with fail
          go_roundw
          case rel => exact ⟨k + 1, by omega, by go_num, by rw [hsn.out, ← List.append_assoc, hgy.out]; exact st7, hnv7, hnb7.out, hed2⟩
          case measure => simp [intOf]; omega
        · have hfin : s.err = mayN x := by rw [hE.out, ← hT.out, hte.out, hed.out, if_neg hm]
          have hfb : s.bytes = [] := by rw [hB.out, if_neg (by rw [hfin]; exact hm)]
          have k0 : ((mayN x : Int) != 0) = true := by simpa using hm
          replace hfin := hid hfin
          replace hfb := hid hfb
          clear hm
          go_wp2_with fail
          go_ret2
          exact ⟨_, by rw [hfin.out]; rfl, ⟨by rw [hfb.out]; exact RowAt.nil, fun k hk => by cases hk⟩, st6.below⟩
      · obtain rfl : k = 4 := by omega
        have hfin : s.err = 0 := by rw [hE.out, ← hT.out, hte.out, List.drop_of_length_le hTl2]; rfl
        have hlen : (z5 ++ textsBytes (TT.take 4)).length = s.size - 2 := by
          rw [List.length_append, lz5.out, List.take_of_length_le hTl2, hT.out]
          unfold Stat.texts; simp only [textsBytes, List.length_append, putText_length, List.length_nil]
          rw [hSz.out]; omega
        have hfb : s.bytes = numBytes (s.size - 2) 2 ++ (z5 ++ textsBytes (TT.take 4)) := by rw [hB.out, if_pos hfin, hZ.out, List.take_of_length_le hTl2, hT.out, List.append_assoc]
        have hll : (z5 ++ textsBytes (TT.take 4)).length ≤ 900 := by omega
        replace hfin := hid hfin
        replace hfb := hid hfb
        generalize hgy : z5 ++ textsBytes (TT.take 4) = ys at st hll hlen
        replace hgy := hid hgy
        replace hlen := hid hlen
        obtain ⟨oa, oc, rfl⟩ := own_form st.own
        have hwr := st.below.size
        clear hnb hnv
        have e9 : IntKind.u64.wrap (ys.length : Int) = (ys.length : Int) := IntWalk.u64_in _ (by omega)
        go_wp2_with fail
        refine (rnum2 ys.length _ (by omega)).mono ?_
        rintro e w9 ⟨v9, rfl, hown9, hb9⟩
        have st9 := st.same hb9
        have l2 : (numBytes ys.length 2).length ≤ 2 := by simp [numBytes_length]
        clear st
        go_wp2_with (at_builtin; refine wpList_append_row elemU8 _ rfl (.tmp 76) (.tmp 77) rfl wr.heap.size v9 (numBytes ys.length 2).length ((numBytes ys.length 2).map byteV) rfl hown9 (.slice oa ys.length oc) ys.length (ys.map byteV) rfl (RowAt.of_own st9.own) (bytes_oneCell _) (by unfold maxLen; omega) (by omega) hb9.size ?_)
        intro a6 c6 y6 h6 h7
        have hbf := st9.below.grown h7 st9.below.size (fun j hj => by have := (hown9.lt j hj).1; omega)
        have hBB : BytesAt y6 (.slice a6 ((numBytes ys.length 2).length + ys.length) c6) s.bytes := by
          rw [hfb.out, hgy.out, ← hlen.out]
          exact BytesAt.of_own h6 (by simp)
        go_wp2_with fail
        go_ret2
        exact ⟨_, by rw [hfin.out]; rfl, ⟨hBB, fun k hk => Nat.le_trans hwr (h6.lt k hk).1⟩, hbf⟩
end
end Go.Proofs.YtcbglcebdkpcfaaGreat

namespace Go.Proofs.YtcbglcebdkpcfaaGreat
section
open Go.RowKit
set_option maxRecDepth 100000
set_option linter.unusedVariables false

def ROut (w : World) (b : Nat) (xs : List UInt8) (e : Nat) : Prop :=
  ∃ v, w.heap[b]? = some (.cells #[v, .int .i64 (e : Int)] 121 (0, 0)) ∧ w.ownsRow (b + 1) 5 1 v xs.length (xs.map byteV)
structure RStep (b : Nat) (w w' : World) : Prop where
  below : Below b w w'
  block : ∀ k, k < w.heap.size → ¬ Foot w b k → w'.heap[k]? = w.heap[k]? ∧ ¬ Foot w' b k

theorem RStep.refl (b : Nat) (w : World) : RStep b w w := ⟨Below.refl _ _, fun _ _ h => ⟨rfl, h⟩⟩
theorem RStep.trans {b : Nat} {w w1 w2 : World} (h : RStep b w w1) (k : RStep b w1 w2) : RStep b w w2 :=
  ⟨h.below.trans k.below, fun j hj hn => by
    obtain ⟨e1, n1⟩ := h.block j hj hn
    obtain ⟨e2, n2⟩ := k.block j (Nat.lt_of_lt_of_le hj h.below.size) n1
    exact ⟨e2.trans e1, n2⟩⟩
theorem RStep.pure {b : Nat} {w w' : World} (hb : b < w.heap.size) (h : Below w.heap.size w w') : RStep b w w' :=
  have hf : ∀ k, Foot w' b k → Foot w b k := fun k hf => by
    rcases hf with hf | ⟨v, hv, hk⟩
    · exact .inl hf
    · exact .inr ⟨v, by rw [h.cell (p := ⟨b, 0, none⟩) hb] at hv; exact hv, hk⟩
  ⟨h.mono (Nat.le_of_lt hb), fun j hj hn => ⟨h.block j hj, fun h => hn (hf j h)⟩⟩
theorem ROut.lt {w : World} {b : Nat} {xs : List UInt8} {e : Nat} (h : ROut w b xs e) : b < w.heap.size := by
  obtain ⟨v, h1, _⟩ := h; exact lt_of_block h1
theorem ROut.below {w w' : World} {b : Nat} {xs : List UInt8} {e : Nat} (h : ROut w b xs e) (hb : Below w.heap.size w w') : ROut w' b xs e := by
  obtain ⟨v, h1, h2⟩ := h
  exact ⟨v, (hb.block _ (lt_of_block h1)).trans h1, own_below h2 hb⟩
theorem ROut.new {w : World} {b : Nat} {xs : List UInt8} {e : Nat} (h : ROut w b xs e) {w' : World} (hb : Below w.heap.size w w') {k : Nat} (hk : w.heap.size ≤ k) : ¬ Foot w' b k := by
  obtain ⟨v, h1, h2⟩ := h
  have hlt := lt_of_block h1
  rintro (he | ⟨u, hu, hku⟩)
  · omega
  · rw [hb.cell (p := ⟨b, 0, none⟩) hlt, block_cell h1 0] at hu
    cases hu
    have := (h2.lt _ hku).2
    omega
theorem ROut.other {w w' : World} {b c : Nat} {xs : List UInt8} {e : Nat} (h : ROut w b xs e) (hs : RStep c w w') (hn : ∀ k, Foot w b k → ¬ Foot w c k) : ROut w' b xs e := by
  obtain ⟨v, h1, h2⟩ := h
  refine ⟨v, ((hs.block b (lt_of_block h1) (hn b (.inl rfl))).1).trans h1, ?_⟩
  exact own_keep h2 fun k hk => (hs.block k (h2.lt _ hk).2 (hn k (.inr ⟨v, block_cell h1 0, hk⟩))).1

theorem rout_set {b n : Nat} {w W w' : World} {va v2 : Value} {e : Nat} {xs ys : List UInt8} {us : List Value}
    (hb : w.heap[b]? = some (.cells #[va, .int .i64 (e : Int)] 121 (0, 0))) (hown : w.ownsRow (b + 1) 5 1 va xs.length (xs.map byteV))
    (hbw : Below w.heap.size w W) (hg : W.grownBy w' va.ownBlock) (h2 : w'.ownsRow (b + 1) 5 1 v2 n us) (hus : us = (xs ++ ys).map byteV)
    (hlies : ∀ k, v2.ownBlock = some k → va.ownBlock = some k ∨ W.heap.size ≤ k) :
    w'.cell? ⟨b, 0, none⟩ = some va ∧ w'.frozen? ⟨b, 0, none⟩ = false ∧ ROut (w'.setCell ⟨b, 0, none⟩ v2) b (xs ++ ys) e ∧ RStep b w (w'.setCell ⟨b, 0, none⟩ v2) := by
  subst hus
  obtain rfl : n = (xs ++ ys).length := by have := h2.1; simp at this; simp; omega
  have hlt := lt_of_block hb
  have hne : some b ≠ va.ownBlock := fun he => by have := (hown.lt _ he.symm).1; omega
  have hb' : w'.heap[b]? = some (.cells #[va, .int .i64 (e : Int)] 121 (0, 0)) := (hg.block b (Nat.lt_of_lt_of_le hlt hbw.size) hne).trans ((hbw.block b hlt).trans hb)
  have hbo : ∀ k, va.ownBlock = some k → b ≤ k := fun k hk => by have := (hown.lt k hk).1; omega
  refine ⟨block_cell hb' 0, block_free hb' 0, ⟨v2, block_set hb' 0 v2, ownsRow_setCell_below h2 (by show b < b + 1; omega) _⟩, ⟨((hbw.mono (Nat.le_of_lt hlt)).grown hg (Nat.le_trans (Nat.le_of_lt hlt) hbw.size) hbo).setCell (Nat.le_refl _) _, fun k hk hn => ?_⟩⟩
  have hkb : k ≠ b := fun e => hn (.inl e)
  have hko : some k ≠ va.ownBlock := fun e => hn (.inr ⟨va, block_cell hb 0, e.symm⟩)
  refine ⟨?_, ?_⟩
  · rw [block_set_other hkb]
    exact (hg.block k (Nat.lt_of_lt_of_le hk hbw.size) hko).trans (hbw.block k hk)
  · rintro (he | ⟨u, hu, hk2⟩)
    · exact hkb he
    · rw [block_cell (block_set hb' 0 v2) 0] at hu
      cases hu
      rcases hlies k hk2 with h | h
      · exact hko h.symm
      · have := hbw.size; omega
theorem rout_bad {b : Nat} {w : World} {e e2 : Nat} {xs : List UInt8} (h : ROut w b xs e) : ROut (w.setCell ⟨b, 1, none⟩ (.int .i64 (e2 : Int))) b xs e2 ∧ RStep b w (w.setCell ⟨b, 1, none⟩ (.int .i64 (e2 : Int))) := by
  obtain ⟨v, h1, h2⟩ := h
  refine ⟨⟨v, block_set h1 1 _, ownsRow_setCell_below h2 (by show b < b + 1; omega) _⟩, (Below.refl b w).setCell (p := ⟨b, 1, none⟩) (Nat.le_refl _) _, fun k hk hn => ?_⟩
  have hkb : k ≠ b := fun e => hn (.inl e)
  refine ⟨block_set_other hkb, ?_⟩
  rintro (he | ⟨u, hu, hk2⟩)
  · exact hkb he
  · rw [block_cell (block_set h1 1 _) 0] at hu
    cases hu
    exact hn (.inr ⟨v, block_cell h1 0, hk2⟩)

theorem step_append_rowl {P : Program} {t e size bytes : Nat} (E : ElemOk P t e size bytes) {ops : Array Oper} {o : Oper} {a : Act} {K : Act → World → Prop} {Q : Exit → Act → World → Prop} {F : Prop} (w : World) (hgd : o.guard = none) (s x : Operand)
    (ho : o.op = .call { callee := .builtin .append, args := #[s, x], argTypes := #[t, t] })
    (base : Nat) (v : Value) (n : Nat) (xs : List Value) (hs : a.eval s = v) (hown : w.ownsRow base e size v n xs)
    (sv : Value) (m : Nat) (news : List Value) (hx : a.eval x = sv) (hsrc : RowAt w size sv m news) (h1 : ∀ u ∈ news, u.oneCell' = true)
    (h63 : n + m ≤ maxLen) (hbytes : (n + m) * bytes ≤ 140737488355328) (hbase : base ≤ w.heap.size)
    (h : ∀ a' c' w', w'.ownsRow base e size (.slice a' (n + m) c') (n + m) (xs ++ news) → w.grownBy w' v.ownBlock → (∀ k, (Value.slice a' (n + m) c').ownBlock = some k → v.ownBlock = some k ∨ w.heap.size ≤ k) → K (a.put o.dst (.slice a' (n + m) c')) w') :
    if Region.wanted o (yielded ops a.tmps) = true then Oper.wp P o a w K Q else F := by
  have hw : Region.wanted o (yielded ops a.tmps) = true := by simp [Region.wanted, hgd]
  rw [if_pos hw]
  obtain ⟨i, z, hi, hz, hsize, hby, hzs⟩ := E.hi
  refine wp_append_run s x t ho hs hx (R := fun v' w' => ∃ a' c', v' = .slice a' (n + m) c' ∧ w'.ownsRow base e size (.slice a' (n + m) c') (n + m) (xs ++ news) ∧ w.grownBy w' v.ownBlock ∧ (∀ k, (Value.slice a' (n + m) c').ownBlock = some k → v.ownBlock = some k ∨ w.heap.size ≤ k)) ?_ ?_
  · obtain ⟨a', c', w', hr, h2, h3, h4⟩ := run_append_rowl E w base o.type v n xs hown sv m news hsrc h1 h63 hbytes hbase
    exact ⟨_, w', hr, a', c', rfl, h2, h3, h4⟩
  · rintro _ w' ⟨a', c', rfl, h2, h3, h4⟩
    exact h a' c' w' h2 h3 h4

def RGood (b : Nat) (xs : List UInt8) (e : Nat) (w : World) (en : Ending) (w' : World) : Prop := en = .returned (.tuple #[]) ∧ ROut w' b xs e ∧ RStep b w w'

set_option maxHeartbeats 3200000 in
theorem rout_num (b : Nat) (xs : List UInt8) (e n v : Nat) (w : World) (hv : v < 18446744073709551616) (hn1 : 1 ≤ n) (hn : n ≤ 8) (hx : xs.length ≤ 1000000) (h : ROut w b xs e) :
    Calls Tryz.prog 61 #[.pointer (some ⟨b, 0, none⟩), .int .i64 (n : Int), .int .u64 (v : Int)] w (RGood b (xs ++ numBytes v n) e w) := by
  obtain ⟨va, hb, hown⟩ := h
  obtain ⟨aa, ca, rfl⟩ := own_form hown
  have hnum := hid (fun W => ref_num_any n v W hv hn1 hn)
  have hnl := hid (numBytes_length v n)
  have s1 : w.drew.cell? ⟨b, 0, none⟩ = some (.slice aa xs.length ca) := block_cell hb 0
  have hB := hid (show Below w.heap.size w w.drew from (Below.refl _ _).drew)
  replace hb := hid hb
  replace hown := hid hown
  go_enter Tryz.func61, Tryz.ntmps61
  go_wp2_with fail
  go_region_law (first | (refine step_append_rowl elemU8 _ rfl (.tmp 10) (.tmp 13) rfl (b + 1) (.slice aa xs.length ca) xs.length (xs.map byteV) rfl (own_below hown.out hbn.out) _ (numBytes v n).length ((numBytes v n).map byteV) rfl (RowAt.of_own hr.out) (bytes_oneCell _) (by have := hnl.out; unfold maxLen; omega) (by have := hnl.out; omega) (by have := lt_of_block hb.out; have := hbn.out.size; omega) ?_; intro a' c' w' h2 h3 h4; obtain ⟨k1, k2, k3, k4⟩ := rout_set (ys := numBytes v n) hb.out hown.out hbn.out h3 h2 (by simp) h4; replace k3 := hid k3; replace k4 := hid k4) | (go_simp; ((go_at_call 63); (with_reducible refine (hnum.out _).mono ?_); rintro e wn ⟨v', rfl, hr, hbm⟩; obtain ⟨a9, c9, rfl⟩ := own_form hr; replace s1 := (hbm.cell (p := ⟨b, 0, none⟩) (lt_of_block hb.out)).trans s1; have hbn := hid (sn hB.out hbm); replace hr := hid hr)))
  all_goals
    clear s1 k1 k2 h2 h3 h4 hbn hbm hr hb hown hnum hnl
    go_wp2_with fail
    go_end0
    exact ⟨rfl, k3.out, k4.out⟩

def firstE (e f : Nat) : Nat := if e = 0 then f else e
theorem firstE_zero (e : Nat) : firstE e 0 = e := by unfold firstE; split <;> simp_all
theorem firstE_new (f : Nat) : firstE 0 f = f := rfl
theorem firstE_old {e : Nat} (f : Nat) (h : e ≠ 0) : firstE e f = e := if_neg h
theorem mayN_ne {t : Nat} (h : t ≠ 0) : ((t : Int) != 0) = true := by simp; omega
theorem putTextR_len (s : ByteArray) : (putTextR s).length ≤ s.size + 2 := by
  unfold putTextR
  split
  · unfold putText; simp [numBytes_length]; omega
  · simp
theorem RowAt.none_in {w w' : World} {k : Nat} {v : Value} (h : RowAt w k v 0 []) (hsz : w.heap.size ≤ w'.heap.size) : RowAt w' k v 0 [] := by
  obtain ⟨hl, a, c, hv, h1, h2, h3, h5, h4⟩ := h
  exact ⟨hl, a, c, hv, h1, h2, h3, fun ad ha => ⟨(h5 ad ha).1, Nat.lt_of_lt_of_le (h5 ad ha).2 hsz⟩, fun i u hu => by simp at hu⟩
structure RBox (w : World) (b : Nat) (va : Value) (e : Nat) (xs : List UInt8) : Prop where
  blk : w.heap[b]? = some (.cells #[va, .int .i64 (e : Int)] 121 (0, 0))
  own : w.ownsRow (b + 1) 5 1 va xs.length (xs.map byteV)
theorem ROut.box {w : World} {b : Nat} {xs : List UInt8} {e : Nat} (h : ROut w b xs e) : ∃ a c, RBox w b (.slice a xs.length c) e xs := by
  obtain ⟨v, h1, h2⟩ := h
  obtain ⟨a, c, rfl⟩ := own_form h2
  exact ⟨a, c, h1, h2⟩

set_option maxHeartbeats 3200000 in
theorem rout_text (b : Nat) (xs : List UInt8) (e : Nat) (s : ByteArray) (w : World) (hs : s.size ≤ 1000000) (hx : xs.length ≤ 1000000) (h : ROut w b xs e) :
    Calls Tryz.prog 78 #[.pointer (some ⟨b, 0, none⟩), .string s] w (RGood b (xs ++ putTextR s) (firstE e (mayN s)) w) := by
  obtain ⟨t, ht⟩ : ∃ t, t = mayN s := ⟨_, rfl⟩
  have hc := hid (fun W => ref_text_any s W hs)
  have hll := hid (putTextR_len s)
  obtain ⟨l, hl⟩ : ∃ l, l = putTextR s := ⟨_, rfl⟩
  rw [← ht, ← hl] at hc
  rw [← hl] at hll
  have hz := hid (show t ≠ 0 → l = [] from fun h => by rw [hl]; exact putTextR_no (by rw [← ht]; exact h))
  rw [← ht, ← hl]
  clear ht hl
  replace h := hid h
  by_cases h0 : t = 0
  · subst h0
    rw [firstE_zero]
    go_enter Tryz.func78, Tryz.ntmps78
    go_wp2_with fail
    refine (hc.out _).mono ?_
    rintro en w1 ⟨v', rfl, hv, hb1⟩
    obtain ⟨aa, ca, hB⟩ := (h.out.below hb1).box
    have s0 : w1.cell? ⟨b, 0, none⟩ = some (.slice aa xs.length ca) := block_cell hB.blk 0
    replace hB := hid hB
    replace hv := hid hv
    replace hb1 := hid hb1
    go_wp2_with (refine wpList_append_rowl elemU8 _ rfl (.tmp 28) (.tmp 29) rfl (b + 1) (.slice aa xs.length ca) xs.length (xs.map byteV) rfl hB.out.own _ l.length (l.map byteV) rfl hv.out (bytes_oneCell _) (by have := hll.out; unfold maxLen; omega) (by have := hll.out; omega) (by have := lt_of_block hB.out.blk; omega) ?_; intro a' c' w' h2 h3 h4; obtain ⟨k1, k2, k3, k4⟩ := rout_set (ys := l) hB.out.blk hB.out.own (Below.refl _ _) h3 h2 (by simp) h4; replace k3 := hid k3; replace k4 := hid k4; clear h2 h3 h4 s0)
    go_end0
    exact ⟨rfl, k3.out, (RStep.pure h.out.lt hb1.out).trans k4.out⟩
  · have q0 := mayN_ne h0
    by_cases he : e = 0
    · subst he
      rw [firstE_new]
      go_enter Tryz.func78, Tryz.ntmps78
      go_wp2_with fail
      refine (hc.out _).mono ?_
      rintro en w1 ⟨v', rfl, hv, hb1⟩
      obtain ⟨aa, ca, hB⟩ := (h.out.below hb1).box
      have s1 : w1.cell? ⟨b, 1, none⟩ = some (.int .i64 0) := block_cell hB.blk 1
      have s2 : w1.frozen? ⟨b, 1, none⟩ = false := block_free hB.blk 1
      obtain ⟨r1, r2⟩ := rout_bad (e2 := t) ⟨_, hB.blk, hB.own⟩
      have hvs : BytesAt (w1.setCell ⟨b, 1, none⟩ (.int .i64 (t : Int))) v' l := by
        obtain rfl := hz.out h0
        exact RowAt.none_in hv r2.below.size
      obtain ⟨W, hW⟩ : ∃ W, W = w1.setCell ⟨b, 1, none⟩ (.int .i64 (t : Int)) := ⟨_, rfl⟩
      rw [← hW] at r1 r2 hvs
      obtain ⟨aa2, ca2, hB2⟩ := r1.box
      replace hv := hid hvs
      clear hvs
      replace hb1 := hid hb1
      replace r2 := hid r2
      clear hB r1
      go_upto_region 3 with (rw [← hW]; replace hW := hid hW)
      try (rw [← hW]; replace hW := hid hW)
      clear s1 s2
      have s0 : W.cell? ⟨b, 0, none⟩ = some (.slice aa2 xs.length ca2) := block_cell hB2.blk 0
      replace hB2 := hid hB2
      go_wp2_with (refine wpList_append_rowl elemU8 _ rfl (.tmp 28) (.tmp 29) rfl (b + 1) (.slice aa2 xs.length ca2) xs.length (xs.map byteV) rfl hB2.out.own _ l.length (l.map byteV) rfl hv.out (bytes_oneCell _) (by have := hll.out; unfold maxLen; omega) (by have := hll.out; omega) (by have := lt_of_block hB2.out.blk; omega) ?_; intro a' c' w' h2 h3 h4; obtain ⟨k1, k2, k3, k4⟩ := rout_set (ys := l) hB2.out.blk hB2.out.own (Below.refl _ _) h3 h2 (by simp) h4; replace k3 := hid k3; replace k4 := hid k4; clear h2 h3 h4 s0)
      go_end0
      exact ⟨rfl, k3.out, ((RStep.pure h.out.lt hb1.out).trans r2.out).trans k4.out⟩
    · rw [firstE_old _ he]
      have q1 : ((e : Int) == 0) = false := by simp; omega
      go_enter Tryz.func78, Tryz.ntmps78
      go_wp2_with fail
      refine (hc.out _).mono ?_
      rintro en w1 ⟨v', rfl, hv, hb1⟩
      obtain ⟨aa, ca, hB⟩ := (h.out.below hb1).box
      have s0 : w1.cell? ⟨b, 0, none⟩ = some (.slice aa xs.length ca) := block_cell hB.blk 0
      have s1 : w1.cell? ⟨b, 1, none⟩ = some (.int .i64 (e : Int)) := block_cell hB.blk 1
      replace hB := hid hB
      replace hv := hid hv
      replace hb1 := hid hb1
      go_wp2_with (refine wpList_append_rowl elemU8 _ rfl (.tmp 28) (.tmp 29) rfl (b + 1) (.slice aa xs.length ca) xs.length (xs.map byteV) rfl hB.out.own _ l.length (l.map byteV) rfl hv.out (bytes_oneCell _) (by have := hll.out; unfold maxLen; omega) (by have := hll.out; omega) (by have := lt_of_block hB.out.blk; omega) ?_; intro a' c' w' h2 h3 h4; obtain ⟨k1, k2, k3, k4⟩ := rout_set (ys := l) hB.out.blk hB.out.own (Below.refl _ _) h3 h2 (by simp) h4; replace k3 := hid k3; replace k4 := hid k4; clear h2 h3 h4 s0 s1)
      go_end0
      exact ⟨rfl, k3.out, (RStep.pure h.out.lt hb1.out).trans k4.out⟩
end
end Go.Proofs.YtcbglcebdkpcfaaGreat
