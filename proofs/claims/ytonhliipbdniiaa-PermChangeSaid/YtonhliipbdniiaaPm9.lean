/- What one may change of a file, in the reference (MayChange). Conditions: numbers in their types. -/
import Derived.Test.YtonhliipbdniiaaPm8
namespace Go.Proofs.Ytonhliipbdniiaa
open Go.RowKit
set_option maxRecDepth 100000
set_option linter.unusedVariables false

/-- The variables of a call, wherever it stands. -/
structure RcMid (w wx : World) (n : Nod) (s : Stat) (k : Nat) (uv gv : Value) (us : List ByteArray) (gs : List Grp) : Prop where
  box : wx.heap[k]? = some (.cells keepS.cells 56 (0, 0))
  usr : wx.heap[w.heap.size]? = some (.cells #[uv, gv] 31 (0, 0))
  nod : wx.heap[w.heap.size + 1]? = some (.cells n.cells 38 (0, 0))
  sta : wx.heap[w.heap.size + 2]? = some (.cells s.cells 56 (0, 0))
  tu : TxtsAt wx uv us
  tg : GrpsAt wx gv gs
  bel : Below w.heap.size w wx
theorem RcMid.below {w wx wy : World} {n : Nod} {s : Stat} {k : Nat} {uv gv : Value} {us : List ByteArray} {gs : List Grp} (h : RcMid w wx n s k uv gv us gs) (hb : Below wx.heap.size wx wy) : RcMid w wy n s k uv gv us gs :=
  ⟨(hb.block _ (lt_of_block h.box)).trans h.box, (hb.block _ (lt_of_block h.usr)).trans h.usr, (hb.block _ (lt_of_block h.nod)).trans h.nod, (hb.block _ (lt_of_block h.sta)).trans h.sta, h.tu.below hb, h.tg.below hb, sn h.bel hb⟩
theorem rc_mid {w W : World} {n : Nod} {s : Stat} {uv gv : Value} {us : List ByteArray} {gs : List Grp} {w1 : World} (h2 : TxtsAt w uv us) (h3 : GrpsAt w gv gs)
    (hW : W = ((w.alloc (.cells #[uv, gv] 31)).alloc (.cells n.cells 38)).alloc (.cells s.cells 56)) (hb : Below W.heap.size W w1) :
    RcMid w ((w1.alloc (.cells zero13 56)).setRow w1.heap.size keepS.cells) n s w1.heap.size uv gv us gs := by
  have hu : W.heap[w.heap.size]? = some (.cells #[uv, gv] 31 (0, 0)) := by rw [hW, heap_alloc_old _ _ (by simp; omega), heap_alloc_old _ _ (by simp), heap_alloc_new]
  have hx : W.heap[w.heap.size + 1]? = some (.cells n.cells 38 (0, 0)) := by rw [hW, heap_alloc_old _ _ (by simp)]; exact heap2 _ _ _
  have hy : W.heap[w.heap.size + 2]? = some (.cells s.cells 56 (0, 0)) := by rw [hW]; exact heap3 _ _ _ _
  have hb0 : Below w.heap.size w W := by rw [hW]; exact (((Below.refl w.heap.size w).alloc (Nat.le_refl _) _).alloc (by simp) _).alloc (by simp; omega) _
  have hz := hb.size
  have h1 : Below W.heap.size W ((w1.alloc (.cells zero13 56)).setRow w1.heap.size keepS.cells) := below_setRow (hb.alloc hz _) hz _
  exact ⟨setRow_heap _ _ _ _ _ _ (heap_alloc_new _ _), (h1.block _ (lt_of_block hu)).trans hu, (h1.block _ (lt_of_block hx)).trans hx, (h1.block _ (lt_of_block hy)).trans hy, (h2.below hb0).below h1, (h3.below hb0).below h1, sn hb0 h1⟩
theorem rc_qid {w wx w1 : World} {n : Nod} {s : Stat} {k : Nat} {uv gv : Value} {us : List ByteArray} {gs : List Grp} (h : RcMid w wx n s k uv gv us gs) (hb : Below wx.heap.size wx w1) :
    RcMid w ((w1.alloc (.cells #[.int .u8 0, .int .u32 0, .int .u64 0] 54)).setRow w1.heap.size (qidC n)) n s k uv gv us gs ∧ ((w1.alloc (.cells #[.int .u8 0, .int .u32 0, .int .u64 0] 54)).setRow w1.heap.size (qidC n)).heap[w1.heap.size]? = some (.cells (qidC n) 54 (0, 0)) :=
  ⟨h.below (below_setRow (hb.alloc hb.size _) hb.size _), setRow_heap _ _ _ _ _ _ (heap_alloc_new _ _)⟩

set_option maxHeartbeats 6000000 in
theorem rchange_any (uv gv : Value) (us : List ByteArray) (gs : List Grp) (who : ByteArray) (n : Nod) (s : Stat) (w : World) (h2 : TxtsAt w uv us) (h3 : GrpsAt w gv gs) (hl : UB us gs) (hn : NodOk n) (hs : StatOk s) :
    Calls Try.prog 22 #[.agg #[uv, gv], .string who, .agg n.cells, .agg s.cells] w fun e w' => e = .returned (.int .i64 (chN us gs who n s : Int)) ∧ Below w.heap.size w w' := by
  obtain ⟨au, cu, rfl, gu1, gu2⟩ := h2.form
  obtain ⟨ag, cg, rfl, gg1, gg2⟩ := h3.form
  obtain ⟨W, hW⟩ : ∃ W, W = ((w.alloc (.cells #[.slice au us.length cu, .slice ag gs.length cg] 31)).alloc (.cells n.cells 38)).alloc (.cells s.cells 56) := ⟨_, rfl⟩
  obtain ⟨bS, aS⟩ : ∃ b, Hid (b = stillB n s) := ⟨_, hid rfl⟩
  obtain ⟨bM, aM⟩ : ∃ b, b = modeQ s := ⟨_, rfl⟩
  obtain ⟨bL, aL⟩ : ∃ b, b = lenQ s := ⟨_, rfl⟩
  obtain ⟨bD, aD⟩ : ∃ b, b = turnB n s := ⟨_, rfl⟩
  obtain ⟨bB, aB⟩ : ∃ b, b = bitsB s.mode := ⟨_, rfl⟩
  obtain ⟨bN, aN⟩ : ∃ b, b = dirB n := ⟨_, rfl⟩
  obtain ⟨bZ, aZ⟩ : ∃ b, b = decide (s.len ≠ 0) := ⟨_, rfl⟩
  obtain ⟨bG, aG⟩ : ∃ b, b = decide (4096 < s.len) := ⟨_, rfl⟩
  obtain ⟨bV, aV⟩ : ∃ b, b = validB s.gid := ⟨_, rfl⟩
  obtain ⟨bW, aW⟩ : ∃ b, b = mayS (inB us gs who n.gid) (decide (who = n.uid)) n.mode 2 := ⟨_, rfl⟩
  obtain ⟨bT, aT⟩ : ∃ b, b = decide (s.mtm ≠ 4294967295) := ⟨_, rfl⟩
  obtain ⟨bU, aU⟩ : ∃ b, b = decide (who ≠ n.uid) := ⟨_, rfl⟩
  obtain ⟨bE, aE⟩ : ∃ b, b = decide (s.gid ≠ ⟨#[]⟩) := ⟨_, rfl⟩
  obtain ⟨bI, aI⟩ : ∃ b, b = inB us gs who s.gid := ⟨_, rfl⟩
  obtain ⟨c1, hc1⟩ : ∃ c, Hid (c = (!bS || (bM && (bD || !bB)) || (bL && bN && bZ))) := ⟨_, hid rfl⟩
  obtain ⟨c3, hc3⟩ : ∃ c, Hid (c = (bL && bG)) := ⟨_, hid rfl⟩
  obtain ⟨c6, hc6⟩ : ∃ c, Hid (c = (bL && !bW)) := ⟨_, hid rfl⟩
  obtain ⟨c7, hc7⟩ : ∃ c, Hid (c = ((bM || bT) && bU)) := ⟨_, hid rfl⟩
  obtain ⟨c8, hc8⟩ : ∃ c, Hid (c = (bE && (bU || !bI))) := ⟨_, hid rfl⟩
  have hN : Hid (chN us gs who n s = if c1 then 1 else if c3 then 3 else if !bV then 6 else if c6 || c7 || c8 then 5 else 0) := hid (by rw [hc1.out, hc3.out, hc6.out, hc7.out, hc8.out, aS.out, aM, aL, aD, aB, aN, aZ, aG, aV, aW, aT, aU, aE, aI]; rfl)
  have qM : ((s.mode : Int) != 4294967295) = bM := by rw [aM]; exact ne_dec _ 4294967295
  have qL : ((s.len : Int) != 18446744073709551615) = bL := by rw [aL]; exact ne_dec _ 18446744073709551615
  have qD : (bits .and .u32 (s.mode : Int) 2147483648 != bits .and .u32 (n.mode : Int) 2147483648) = bD := by rw [aD]; exact turn_bits n s hn.mode hs.mode
  have qZ : ((s.len : Int) != 0) = bZ := by rw [aZ]; exact ne_dec _ 0
  have qG : decide ((4096 : Int) < (s.len : Int)) = bG := by rw [aG, Bool.eq_iff_iff]; simp; omega
  have qT : ((s.mtm : Int) != 4294967295) = bT := by rw [aT]; exact ne_dec _ 4294967295
  have qU : (who.toList != n.uid.toList) = bU := by rw [aU]; exact str_ne _ _
  have qU' : (who.toList == n.uid.toList) = !bU := by rw [aU, str_beq]; simp
  have qE : (!s.gid.toList.isEmpty) = bE := by rw [aE]; exact str_ne_nil _
  have qE' : s.gid.toList.isEmpty = !bE := by rw [← qE, Bool.not_not]
  have hbt := hid (fun W => rbits_any s.mode W hs.mode)
  have hdr := hid (fun W => rdir_any n W hn)
  have hvd := hid (fun W => ref_valid_any s.gid W hs.gid)
  have hmy := hid (fun W h2 h3 => rmay_any (.slice au us.length cu) (.slice ag gs.length cg) us gs who n 2 W h2 h3 hl hn (by omega))
  have hin := hid (fun W h2 h3 => rin_any (.slice au us.length cu) (.slice ag gs.length cg) us gs who s.gid W h2 h3 hl)
  rw [← aB] at hbt
  rw [← aN] at hdr
  rw [← aV] at hvd
  rw [← aW] at hmy
  simp only [show ((2 : Nat) : Int) = 2 from rfl] at hmy
  rw [← aI] at hin
  rw [nod_cells] at hdr hmy
  clear aM aL aD aB aN aZ aG aV aW aT aU aE aI
  have hW' := hid hW
  replace h2 := hid h2
  replace h3 := hid h3
  have hq := hid (fun W => rqid18_any n W hn)
  rw [nod_cells] at hW hq ⊢
  simp only [Stat.cells] at hW ⊢
  replace hn := hid hn
  replace hs := hid hs
  go_enter Try.func22, Try.ntmps22
  go_upto_region 1 with (rw [← hW]; replace hW := hid hW)
  try (rw [← hW]; replace hW := hid hW)
  go_cut [9] (fun s9 wx => ∃ k : Nat, s9 = .pointer (some ⟨k, 0, none⟩) ∧ Hid (RcMid w wx n s k (.slice au us.length cu) (.slice ag gs.length cg) us gs))
  case first => as_aux_lemma =>
    go_wp2_with (first | (go_at_call 48; (with_reducible refine (ref_keep_any _).mono ?_); rintro e w1 ⟨rfl, hb1⟩; replace hb1 := hid hb1; have hnew := hid (heap_alloc_new w1 (.cells zero13 56))) | (refine wpList_store_row (by rfl) 56 (.tmp 9) (.tmp 14) (by rfl) w1.heap.size keepS.cells (by rfl) (by rfl) 56 _ hnew.out (by kernel_rfl) (by kernel_rfl) (by kernel_rfl) ?_))
    go_meet
    exact ⟨_, rfl, hid (rc_mid h2.out h3.out hW'.out hb1.out)⟩
  case rest =>
    obtain ⟨k, rfl, hM⟩ := hcut
    obtain ⟨d0, d1, d2, d3, d4, d5, d6, d7, d8, d9, d10, d11⟩ := nodS hM.out.nod
    clear hW hW' h2 h3
    go_upto_region 2 with (fail)
    go_cut [10] (fun s10 wx => ∃ k2 : Nat, s10 = .pointer (some ⟨k2, 0, none⟩) ∧ Hid (RcMid w wx n s k (.slice au us.length cu) (.slice ag gs.length cg) us gs) ∧ Hid (wx.heap[k2]? = some (.cells (qidC n) 54 (0, 0))))
    case first => as_aux_lemma =>
      go_wp2_with (first | (go_at_call 49; (with_reducible refine (hq.out _).mono ?_); rintro e w2 ⟨rfl, hb2⟩; replace hb2 := hid hb2; have hnew := hid (heap_alloc_new w2 (.cells #[.int .u8 0, .int .u32 0, .int .u64 0] 54))) | (refine wpList_store_row (by rfl) 54 (.tmp 10) (.tmp 16) (by rfl) w2.heap.size (qidC n) (by rfl) (by rfl) 54 _ hnew.out (by rfl) (by rfl) (by simp [qidC, Value.oneCell']) ?_))
      go_meet
      exact ⟨_, rfl, hid (rc_qid hM.out hb2.out).1, hid (rc_qid hM.out hb2.out).2⟩
    case rest =>
      obtain ⟨k2, rfl, hM, hQ⟩ := hcut
      clear d0 d1 d2 d3 d4 d5 d6 d7 d8 d9 d10 d11
      go_upto_region 3 with (fail)
      go_cut [11] (fun s11 wx => s11 = .bool bS ∧ Hid (RcMid w wx n s k (.slice au us.length cu) (.slice ag gs.length cg) us gs))
      case first => as_aux_lemma =>
        rename_i J K' hJ hK
        refine wp_region_list ?_
        refine (show wpList Try.prog ops_mc _ l_mc _ wc → _ from fun h => h) ?_
        refine mc_all (b6 := w.heap.size + 1) (b7 := w.heap.size + 2) (k9 := k) (k10 := k2) (n := n) (s := s) (FrL.of_all (by rfl) rfl ⟨rfl, rfl, rfl, rfl, rfl, rfl, rfl, rfl, rfl, rfl, rfl, rfl, rfl, rfl, rfl, rfl, rfl, rfl, rfl, trivial⟩) ⟨hM.out.box, hQ.out, hM.out.nod, hM.out.sta⟩ (fun a hF => ?_)
        rw [← aS.out] at hF
        refine hK _ _ (Met.intro (hJ _ _ ?_))
        exact ⟨.bool bS, a.tmps.getD 14 undef, a.tmps.getD 15 undef, a.tmps.getD 16 undef, a.tmps.getD 17 undef, a.tmps.getD 18 undef, a.tmps.getD 19 undef, a.tmps.getD 20 undef, a.tmps.getD 21 undef, a.tmps.getD 22 undef, a.tmps.getD 23 undef, a.tmps.getD 24 undef, a.tmps.getD 25 undef, a.tmps.getD 26 undef, a.tmps.getD 27 undef, a.tmps.getD 28 undef, a.tmps.getD 29 undef, a.tmps.getD 30 undef, a.tmps.getD 31 undef, a.tmps.getD 32 undef, a.tmps.getD 33 undef, a.tmps.getD 34 undef, a.tmps.getD 35 undef, a.tmps.getD 36 undef, a.tmps.getD 37 undef, a.tmps.getD 38 undef, a.tmps.getD 39 undef, a.tmps.getD 40 undef, a.tmps.getD 41 undef, a.tmps.getD 42 undef, a.tmps.getD 43 undef, a.tmps.getD 44 undef, a.tmps.getD 45 undef, a.tmps.getD 46 undef, a.tmps.getD 47 undef, a.tmps.getD 48 undef, a.tmps.getD 49 undef, a.tmps.getD 50 undef, a.tmps.getD 51 undef, a.tmps.getD 52 undef, a.tmps.getD 53 undef, a.tmps.getD 54 undef, a.tmps.getD 55 undef, a.tmps.getD 56 undef, a.tmps.getD 57 undef, a.tmps.getD 58 undef, a.tmps.getD 59 undef, a.tmps.getD 60 undef, a.tmps.getD 61 undef, a.tmps.getD 62 undef, a.tmps.getD 63 undef, a.tmps.getD 64 undef, a.tmps.getD 65 undef, a.tmps.getD 66 undef, a.tmps.getD 67 undef, a.tmps.getD 68 undef, a.tmps.getD 69 undef, a.tmps.getD 70 undef, a.tmps.getD 71 undef, a.tmps.getD 72 undef, a.tmps.getD 73 undef, a.tmps.getD 74 undef, a.tmps.getD 75 undef, a.tmps.getD 76 undef, a.tmps.getD 77 undef, a.tmps.getD 78 undef, a.tmps.getD 79 undef, a.tmps.getD 80 undef, a.tmps.getD 81 undef, a.tmps.getD 82 undef, a.tmps.getD 83 undef, a.tmps.getD 84 undef, a.tmps.getD 85 undef, a.tmps.getD 86 undef, a.tmps.getD 87 undef, a.tmps.getD 88 undef, a.tmps.getD 89 undef, a.tmps.getD 90 undef, a.tmps.getD 91 undef, a.tmps.getD 92 undef, a.tmps.getD 93 undef, a.tmps.getD 94 undef, a.tmps.getD 95 undef, a.tmps.getD 96 undef, a.tmps.getD 97 undef, a.tmps.getD 98 undef, a.tmps.getD 99 undef, a.tmps.getD 100 undef, a.tmps.getD 101 undef, a.tmps.getD 102 undef, a.tmps.getD 103 undef, a.tmps.getD 104 undef, a.tmps.getD 105 undef, a.tmps.getD 106 undef, a.tmps.getD 107 undef, a.tmps.getD 108 undef, a.tmps.getD 109 undef, a.tmps.getD 110 undef, a.tmps.getD 111 undef, a.tmps.getD 112 undef, a.tmps.getD 113 undef, a.tmps.getD 114 undef, a.tmps.getD 115 undef, a.tmps.getD 116 undef, a.tmps.getD 117 undef, a.tmps.getD 118 undef, a.tmps.getD 119 undef, a.tmps.getD 120 undef, a.tmps.getD 121 undef, a.tmps.getD 122 undef, a.tmps.getD 123 undef, a.tmps.getD 124 undef, a.tmps.getD 125 undef, a.tmps.getD 126 undef, a.tmps.getD 127 undef, a.tmps.getD 128 undef, a.tmps.getD 129 undef, a.tmps.getD 130 undef, a.tmps.getD 131 undef, a.tmps.getD 132 undef, a.tmps.getD 133 undef, a.tmps.getD 134 undef, a.tmps.getD 135 undef, a.tmps.getD 136 undef, a.tmps.getD 137 undef, a.tmps.getD 139 undef, a.tmps.getD 140 undef, a.tmps.getD 141 undef, a.tmps.getD 142 undef, a.tmps.getD 143 undef, a.tmps.getD 144 undef, a.tmps.getD 145 undef, a.tmps.getD 146 undef, a.tmps.getD 147 undef, a.tmps.getD 148 undef, a.tmps.getD 149 undef, a.tmps.getD 150 undef, a.tmps.getD 151 undef, a.tmps.getD 152 undef, a.tmps.getD 153 undef, a.tmps.getD 154 undef, a.tmps.getD 155 undef, a.tmps.getD 156 undef, a.tmps.getD 157 undef, a.tmps.getD 158 undef, a.tmps.getD 159 undef, a.tmps.getD 160 undef, a.tmps.getD 161 undef, a.tmps.getD 162 undef, a.tmps.getD 163 undef, a.tmps.getD 164 undef, a.tmps.getD 165 undef, a.tmps.getD 166 undef, a.tmps.getD 167 undef, a.tmps.getD 168 undef, a.tmps.getD 169 undef, a.tmps.getD 170 undef, a.tmps.getD 172 undef, a.tmps.getD 173 undef, a.tmps.getD 174 undef, a.tmps.getD 175 undef, a.tmps.getD 176 undef, a.tmps.getD 177 undef, a.tmps.getD 179 undef, a.tmps.getD 180 undef, a.tmps.getD 181 undef, a.tmps.getD 182 undef, a.tmps.getD 184 undef, a.tmps.getD 185 undef, a.tmps.getD 186 undef, a.tmps.getD 187 undef, a.tmps.getD 188 undef, a.tmps.getD 189 undef, a.tmps.getD 190 undef, a.tmps.getD 191 undef, a.tmps.getD 193 undef, a.tmps.getD 194 undef, a.tmps.getD 195 undef, a.tmps.getD 196 undef, a.tmps.getD 197 undef, a.tmps.getD 198 undef, a.tmps.getD 199 undef, a.tmps.getD 200 undef, a.tmps.getD 201 undef, a.tmps.getD 202 undef, a.tmps.getD 203 undef, a.tmps.getD 204 undef, a.tmps.getD 205 undef, a.tmps.getD 206 undef, a.tmps.getD 208 undef, a.tmps.getD 209 undef, a.tmps.getD 210 undef, a.tmps.getD 211 undef, a.tmps.getD 212 undef, a.tmps.getD 213 undef, a.tmps.getD 214 undef, a.tmps.getD 215 undef, a.tmps.getD 216 undef, a.tmps.getD 217 undef, a.tmps.getD 218 undef, a.tmps.getD 219 undef, a.tmps.getD 220 undef, a.tmps.getD 221 undef, a.tmps.getD 222 undef, a.tmps.getD 223 undef, a.tmps.getD 224 undef, ⟨rfl, hM⟩, frame_eq hF _ (by rfl) ⟨hF.get 0 _ rfl, hF.get 1 _ rfl, hF.get 2 _ rfl, hF.get 3 _ rfl, hF.get 4 _ rfl, hF.get 5 _ rfl, hF.get 6 _ rfl, hF.get 7 _ rfl, hF.get 8 _ rfl, hF.get 9 _ rfl, hF.get 10 _ rfl, hF.get 11 _ rfl, hF.get 12 _ rfl, hF.get 13 _ rfl, hF.any 14 (by decide), hF.any 15 (by decide), hF.any 16 (by decide), hF.any 17 (by decide), hF.any 18 (by decide), hF.any 19 (by decide), hF.any 20 (by decide), hF.any 21 (by decide), hF.any 22 (by decide), hF.any 23 (by decide), hF.any 24 (by decide), hF.any 25 (by decide), hF.any 26 (by decide), hF.any 27 (by decide), hF.any 28 (by decide), hF.any 29 (by decide), hF.any 30 (by decide), hF.any 31 (by decide), hF.any 32 (by decide), hF.any 33 (by decide), hF.any 34 (by decide), hF.any 35 (by decide), hF.any 36 (by decide), hF.any 37 (by decide), hF.any 38 (by decide), hF.any 39 (by decide), hF.any 40 (by decide), hF.any 41 (by decide), hF.any 42 (by decide), hF.any 43 (by decide), hF.any 44 (by decide), hF.any 45 (by decide), hF.any 46 (by decide), hF.any 47 (by decide), hF.any 48 (by decide), hF.any 49 (by decide), hF.any 50 (by decide), hF.any 51 (by decide), hF.any 52 (by decide), hF.any 53 (by decide), hF.any 54 (by decide), hF.any 55 (by decide), hF.any 56 (by decide), hF.any 57 (by decide), hF.any 58 (by decide), hF.any 59 (by decide), hF.any 60 (by decide), hF.any 61 (by decide), hF.any 62 (by decide), hF.any 63 (by decide), hF.any 64 (by decide), hF.any 65 (by decide), hF.any 66 (by decide), hF.any 67 (by decide), hF.any 68 (by decide), hF.any 69 (by decide), hF.any 70 (by decide), hF.any 71 (by decide), hF.any 72 (by decide), hF.any 73 (by decide), hF.any 74 (by decide), hF.any 75 (by decide), hF.any 76 (by decide), hF.any 77 (by decide), hF.any 78 (by decide), hF.any 79 (by decide), hF.any 80 (by decide), hF.any 81 (by decide), hF.any 82 (by decide), hF.any 83 (by decide), hF.any 84 (by decide), hF.any 85 (by decide), hF.any 86 (by decide), hF.any 87 (by decide), hF.any 88 (by decide), hF.any 89 (by decide), hF.any 90 (by decide), hF.any 91 (by decide), hF.any 92 (by decide), hF.any 93 (by decide), hF.any 94 (by decide), hF.any 95 (by decide), hF.any 96 (by decide), hF.any 97 (by decide), hF.any 98 (by decide), hF.any 99 (by decide), hF.any 100 (by decide), hF.any 101 (by decide), hF.any 102 (by decide), hF.any 103 (by decide), hF.any 104 (by decide), hF.any 105 (by decide), hF.any 106 (by decide), hF.any 107 (by decide), hF.any 108 (by decide), hF.any 109 (by decide), hF.any 110 (by decide), hF.any 111 (by decide), hF.any 112 (by decide), hF.any 113 (by decide), hF.any 114 (by decide), hF.any 115 (by decide), hF.any 116 (by decide), hF.any 117 (by decide), hF.any 118 (by decide), hF.any 119 (by decide), hF.any 120 (by decide), hF.any 121 (by decide), hF.any 122 (by decide), hF.any 123 (by decide), hF.any 124 (by decide), hF.any 125 (by decide), hF.any 126 (by decide), hF.any 127 (by decide), hF.any 128 (by decide), hF.any 129 (by decide), hF.any 130 (by decide), hF.any 131 (by decide), hF.any 132 (by decide), hF.any 133 (by decide), hF.any 134 (by decide), hF.any 135 (by decide), hF.any 136 (by decide), hF.any 137 (by decide), hF.get 138 _ rfl, hF.any 139 (by decide), hF.any 140 (by decide), hF.any 141 (by decide), hF.any 142 (by decide), hF.any 143 (by decide), hF.any 144 (by decide), hF.any 145 (by decide), hF.any 146 (by decide), hF.any 147 (by decide), hF.any 148 (by decide), hF.any 149 (by decide), hF.any 150 (by decide), hF.any 151 (by decide), hF.any 152 (by decide), hF.any 153 (by decide), hF.any 154 (by decide), hF.any 155 (by decide), hF.any 156 (by decide), hF.any 157 (by decide), hF.any 158 (by decide), hF.any 159 (by decide), hF.any 160 (by decide), hF.any 161 (by decide), hF.any 162 (by decide), hF.any 163 (by decide), hF.any 164 (by decide), hF.any 165 (by decide), hF.any 166 (by decide), hF.any 167 (by decide), hF.any 168 (by decide), hF.any 169 (by decide), hF.any 170 (by decide), hF.get 171 _ rfl, hF.any 172 (by decide), hF.any 173 (by decide), hF.any 174 (by decide), hF.any 175 (by decide), hF.any 176 (by decide), hF.any 177 (by decide), hF.get 178 _ rfl, hF.any 179 (by decide), hF.any 180 (by decide), hF.any 181 (by decide), hF.any 182 (by decide), hF.get 183 _ rfl, hF.any 184 (by decide), hF.any 185 (by decide), hF.any 186 (by decide), hF.any 187 (by decide), hF.any 188 (by decide), hF.any 189 (by decide), hF.any 190 (by decide), hF.any 191 (by decide), hF.get 192 _ rfl, hF.any 193 (by decide), hF.any 194 (by decide), hF.any 195 (by decide), hF.any 196 (by decide), hF.any 197 (by decide), hF.any 198 (by decide), hF.any 199 (by decide), hF.any 200 (by decide), hF.any 201 (by decide), hF.any 202 (by decide), hF.any 203 (by decide), hF.any 204 (by decide), hF.any 205 (by decide), hF.any 206 (by decide), hF.get 207 _ rfl, hF.any 208 (by decide), hF.any 209 (by decide), hF.any 210 (by decide), hF.any 211 (by decide), hF.any 212 (by decide), hF.any 213 (by decide), hF.any 214 (by decide), hF.any 215 (by decide), hF.any 216 (by decide), hF.any 217 (by decide), hF.any 218 (by decide), hF.any 219 (by decide), hF.any 220 (by decide), hF.any 221 (by decide), hF.any 222 (by decide), hF.any 223 (by decide), hF.any 224 (by decide), trivial⟩⟩
      case rest =>
        obtain ⟨rfl, hM⟩ := hcut
        clear hQ aS hq
        obtain ⟨_, _, _, _, _, e5, _, e7, e8, _⟩ := staS hM.out.box
        obtain ⟨d0, d1, d2, d3, d4, d5, d6, d7, d8, d9, d10, d11⟩ := nodS hM.out.nod
        obtain ⟨_, _, _, _, _, s5, _, s7, s8, _, _, s11, _⟩ := staS hM.out.sta
        simp only [keepS] at e5 e7 e8
        go_upto_region 6 with (fail)
        go_cut [138] (fun s138 wx => s138 = .bool c1 ∧ Hid (RcMid w wx n s k (.slice au us.length cu) (.slice ag gs.length cg) us gs))
        case first => as_aux_lemma =>
          have hcs : (bS = false) ∨ (bS = true ∧ bM = true ∧ bD = true) ∨ (bS = true ∧ bM = true ∧ bD = false ∧ bB = false) ∨ ((bS = true ∧ bM = false) ∨ (bS = true ∧ bM = true ∧ bD = false ∧ bB = true)) ∧ (bL = false ∨ (bL = true ∧ bN = false) ∨ (bL = true ∧ bN = true ∧ bZ = false) ∨ (bL = true ∧ bN = true ∧ bZ = true)) := by
            cases bS <;> cases bM <;> cases bD <;> cases bB <;> cases bL <;> cases bN <;> cases bZ <;> simp
          rcases hcs with rfl | ⟨rfl, rfl, rfl⟩ | ⟨rfl, rfl, rfl, rfl⟩ | ⟨⟨rfl, rfl⟩ | ⟨rfl, rfl, rfl, rfl⟩, rfl | ⟨rfl, rfl⟩ | ⟨rfl, rfl, rfl⟩ | ⟨rfl, rfl, rfl⟩⟩
          all_goals
            go_wp2_with (first | (go_at_call 50; (with_reducible refine (hbt.out _).mono ?_); rintro e w3 ⟨rfl, rfl⟩) | (go_at_call 43; (with_reducible refine (hdr.out _).mono ?_); rintro e w4 ⟨rfl, hb4⟩; replace hM := hid (hM.out.below hb4); obtain ⟨_, _, _, _, _, _, _, _, s8, _⟩ := staS hM.out.sta))
            go_meet
            exact ⟨by rw [hc1.out]; simp, hM⟩
        case rest =>
          obtain ⟨rfl, hM⟩ := hcut
          clear hbt hdr qD qZ qM qL hc1 e5 e7 e8 s5 s7 s8 s11 d0 d1 d2 d3 d4 d5 d6 d7 d8 d9 d10 d11
          cases c1 with
          | true =>
            go_wp2_with fail
            go_ret
            exact ⟨by rw [hN.out]; rfl, hM.out.bel⟩
          | false =>
            obtain ⟨_, _, _, _, _, _, _, _, s8, _⟩ := staS hM.out.sta
            go_upto_region 8 with (fail)
            go_cut [171] (fun s171 wx => s171 = .bool c3 ∧ Hid (RcMid w wx n s k (.slice au us.length cu) (.slice ag gs.length cg) us gs))
            case first => as_aux_lemma =>
              have hcs : bL = false ∨ (bL = true ∧ bG = false) ∨ (bL = true ∧ bG = true) := by cases bL <;> cases bG <;> simp
              rcases hcs with rfl | ⟨rfl, rfl⟩ | ⟨rfl, rfl⟩
              all_goals
                go_wp2_with fail
                go_meet
                exact ⟨by rw [hc3.out]; simp, hM⟩
            case rest =>
              obtain ⟨rfl, hM⟩ := hcut
              clear qG s8 hc3
              cases c3 with
              | true =>
                go_wp2_with fail
                go_ret
                exact ⟨by rw [hN.out]; rfl, hM.out.bel⟩
              | false =>
                obtain ⟨_, _, _, _, _, _, _, _, _, _, _, s11, _⟩ := staS hM.out.sta
                cases bV with
                | false =>
                  go_wp2_with (go_at_call 51; (with_reducible refine (hvd.out _).mono ?_); rintro e w5 ⟨rfl, rfl⟩)
                  go_ret
                  exact ⟨by rw [hN.out]; rfl, hM.out.bel⟩
                | true =>
                  go_upto_region 12 with (go_at_call 51; (with_reducible refine (hvd.out _).mono ?_); rintro e w5 ⟨rfl, rfl⟩)
                  clear s11 hvd
                  go_cut [183] (fun s183 wx => s183 = .bool c6 ∧ Hid (RcMid w wx n s k (.slice au us.length cu) (.slice ag gs.length cg) us gs))
                  case first => as_aux_lemma =>
                    obtain ⟨d0, d1, d2, d3, d4, d5, d6, d7, d8, d9, d10, d11⟩ := nodS hM.out.nod
                    have f0 : wc.cell? ⟨w.heap.size, 0, none⟩ = some (.slice au us.length cu) := block_cell hM.out.usr 0
                    have f1 : wc.cell? ⟨w.heap.size, 1, none⟩ = some (.slice ag gs.length cg) := block_cell hM.out.usr 1
                    have hcs : bL = false ∨ (bL = true ∧ bW = false) ∨ (bL = true ∧ bW = true) := by cases bL <;> cases bW <;> simp
                    rcases hcs with rfl | ⟨rfl, rfl⟩ | ⟨rfl, rfl⟩
                    all_goals
                      go_wp2_with (go_at_call 17; (with_reducible refine (hmy.out _ hM.out.tu hM.out.tg).mono ?_); rintro e w6 ⟨rfl, hb6⟩; replace hM := hid (hM.out.below hb6))
                      go_meet
                      exact ⟨by rw [hc6.out]; simp, hM⟩
                  case rest =>
                    obtain ⟨rfl, hM⟩ := hcut
                    clear hmy hc6
                    cases c6 with
                    | true =>
                      go_wp2_with fail
                      go_ret
                      exact ⟨by rw [hN.out]; rfl, hM.out.bel⟩
                    | false =>
                      obtain ⟨_, _, _, _, _, _, _, e7, _⟩ := staS hM.out.box
                      obtain ⟨_, _, _, _, _, _, d6, _⟩ := nodS hM.out.nod
                      obtain ⟨_, _, _, _, _, _, _, s7, _⟩ := staS hM.out.sta
                      simp only [keepS] at e7
                      go_upto_region 14 with (fail)
                      go_cut [192] (fun s192 wx => s192 = .bool c7 ∧ Hid (RcMid w wx n s k (.slice au us.length cu) (.slice ag gs.length cg) us gs))
                      case first => as_aux_lemma =>
                        have hcs : (bM = true ∧ bU = true) ∨ (bM = true ∧ bU = false) ∨ (bM = false ∧ bT = true ∧ bU = true) ∨ (bM = false ∧ bT = true ∧ bU = false) ∨ (bM = false ∧ bT = false) := by cases bM <;> cases bT <;> cases bU <;> simp
                        rcases hcs with ⟨rfl, rfl⟩ | ⟨rfl, rfl⟩ | ⟨rfl, rfl, rfl⟩ | ⟨rfl, rfl, rfl⟩ | ⟨rfl, rfl⟩
                        all_goals
                          go_wp2_with fail
                          go_meet
                          exact ⟨by rw [hc7.out]; simp, hM⟩
                      case rest =>
                        obtain ⟨rfl, hM⟩ := hcut
                        clear e7 d6 s7 hc7 qT
                        cases c7 with
                        | true =>
                          go_wp2_with fail
                          go_ret
                          exact ⟨by rw [hN.out]; rfl, hM.out.bel⟩
                        | false =>
                          obtain ⟨_, _, _, _, _, _, d6, _⟩ := nodS hM.out.nod
                          obtain ⟨_, _, _, _, _, _, _, _, _, _, _, s11, _⟩ := staS hM.out.sta
                          go_upto_region 16 with (fail)
                          go_cut [207] (fun s207 wx => s207 = .bool c8 ∧ Hid (RcMid w wx n s k (.slice au us.length cu) (.slice ag gs.length cg) us gs))
                          case first => as_aux_lemma =>
                            have f0 := block_cell hM.out.usr 0
                            have f1 := block_cell hM.out.usr 1
                            have hcs : bE = false ∨ (bE = true ∧ bU = true) ∨ (bE = true ∧ bU = false ∧ bI = true) ∨ (bE = true ∧ bU = false ∧ bI = false) := by cases bE <;> cases bU <;> cases bI <;> simp
                            rcases hcs with rfl | ⟨rfl, rfl⟩ | ⟨rfl, rfl, rfl⟩ | ⟨rfl, rfl, rfl⟩
                            all_goals
                              go_wp2_with (go_at_call 41; (with_reducible refine (hin.out _ hM.out.tu hM.out.tg).mono ?_); rintro e w7 ⟨rfl, hb7⟩; replace hM := hid (hM.out.below hb7))
                              go_meet
                              exact ⟨by rw [hc8.out]; simp, hM⟩
                          case rest =>
                            obtain ⟨rfl, hM⟩ := hcut
                            cases c8 with
                            | true =>
                              go_wp2_with fail
                              go_ret
                              exact ⟨by rw [hN.out]; rfl, hM.out.bel⟩
                            | false =>
                              go_wp2_with fail
                              go_ret
                              exact ⟨by rw [hN.out]; rfl, hM.out.bel⟩
end Go.Proofs.Ytonhliipbdniiaa
