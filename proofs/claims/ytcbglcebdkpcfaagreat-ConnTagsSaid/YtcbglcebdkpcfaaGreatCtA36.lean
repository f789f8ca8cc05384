/- What is known of layer 24. No condition.
A road is fed a Tclunk's frame. Conditions: sizes of the machine. -/
import Derived.Test.YtcbglcebdkpcfaaGreatCeA19
import Derived.Test.YtcbglcebdkpcfaaGreatCtA35
import Derived.Test.YtcbglcebdkpcfaaGreatCtA30
namespace Go.Proofs.YtcbglcebdkpcfaaGreat
section
open Go.RowKit
set_option maxRecDepth 100000
set_option linter.unusedVariables false

def load36 (a : Addr) : Sem (Array Value) := loadCellsFrom a 0 36 #[]
theorem load36_eq (a : Addr) : loadCellsFrom a 0 36 #[] = load36 a := rfl
theorem load36_at {P : Program} {w : World} {b o : Nat} {cs : Array Value} (hs : cs.size = 36) (h : ∀ j v, cs.toList[j]? = some v → w.cell? ⟨b, o + j, none⟩ = some v) : Sem.run P (load36 ⟨b, o, none⟩) w = .ok cs w := by
  have := run_loadCells_list (P := P) (w := w) ⟨b, o, none⟩ cs.toList (fun j v hv => by rw [Addr.add_mid]; exact h j v hv)
  rw [show cs.toList.length = 36 by simpa using hs] at this
  unfold load36
  simpa [loadCells] using this
theorem load36_block {P : Program} {w : World} {b : Nat} {e : TypeId} {cs : Array Value} (hs : cs.size = 36) (h : w.heap[b]? = some (.cells cs e (0, 0))) : Sem.run P (load36 ⟨b, 0, none⟩) w = .ok cs w :=
  load36_at hs fun j v hv => by
    rw [Nat.zero_add]
    rw [block_cell h j]
    simpa using hv
theorem RoadS.below {w w' : World} {n : Nat} {hv tv : Value} {l : List UInt8} {dead cl : Bool} {xs : List Nat} (h : RoadS w n hv tv l dead xs cl) (hb : Below w.heap.size w w') : RoadS w' n hv tv l dead xs cl :=
  ⟨(hb.block _ (lt_of_block h.blk)).trans h.blk, h.str.below hb, h.tab.below hb, h.hrow, h.trow⟩
theorem RoadS.answered {w w' : World} {n : Nat} {hv tv tv' : Value} {l : List UInt8} {dead cl : Bool} {xs xs' : List Nat} (h : RoadS w n hv tv l dead xs cl) (ho : Oth (fun j => j = n + 1 ∨ tv.ownBlock = some j) w w') (ht : TabS w' (n + 1) tv' xs') (hr : ∀ j, j < w.heap.size → tv.ownBlock ≠ some j → tv'.ownBlock ≠ some j) : RoadS w' n hv tv' l dead xs' cl := by
  have hn := lt_of_block h.blk
  have h2 : tv.ownBlock ≠ some (n + 2) := fun e => by have := h.trow _ e; omega
  refine ⟨(ho.keep _ hn (by rintro (e | e); omega; exact h2 e)).trans h.blk, ⟨(ho.keep n (by omega) (by rintro (e | e); omega; have := h.trow _ e; omega)).trans h.str.blk, RowAt.other h.str.row ho.size (fun j hj => ho.keep j (h.str.row.lt hj) (by rintro (e | e); have := (h.hrow j hj).1; omega; exact (h.hrow j hj).2 e)), h.str.own⟩, ht, fun j hj => ⟨(h.hrow j hj).1, hr j (h.str.row.lt hj) (h.hrow j hj).2⟩, fun j hj => ?_⟩
  have h3 := (ht.row hj).1
  have : j ≠ n + 2 := fun e => hr _ hn h2 (e ▸ hj)
  omega
noncomputable def K0 : List UInt8 := frmB (clunkM 120 3 1).bytes ++ [7, 0, 0, 0, 50, 9, 0]
noncomputable def KL : List (List UInt8) := [[120, 3, 0, 1, 0, 0, 0], [50, 9, 0]]
theorem k24_feed : feedF 1000 (([] ++ K0).length + 1) ([] ++ K0) = (KL, some []) := by kernel_rfl
theorem k24_asks : asksB [] KL = [clunkM 120 3 1] := by kernel_rfl
theorem k24_outs : outsB [] KL = [frmB (errM 9 2).bytes] := by kernel_rfl
theorem k24_tags : tagsB [] KL = [3] := by kernel_rfl
theorem k24_dead : feedF 1000 (([] ++ [1, 0, 0, 0]).length + 1) ([] ++ [1, 0, 0, 0]) = ([], none) := by kernel_rfl
theorem cfeed_post {w w' : World} {n : Nat} {tv : Value} {xs xs' : List Nat} {r : List (List UInt8) × Option (List UInt8)} {e : Ending} {L : List (List UInt8)} {o : Option (List UInt8)} {A : List M} {B : List (List UInt8)} (h : CFeedP w n tv xs r e w') (hr : r = (L, o)) (hA : asksB xs L = A) (hB : outsB xs L = B) (hx : tagsB xs L = xs') :
    ∃ va vo hv' tv', e = .returned (.tuple #[va, vo]) ∧ MsgsAt w' va A w.heap.size (offV tv') ∧ OutsAt w' vo B w.heap.size (offV tv') ∧ RoadS w' n hv' tv' (o.getD []) o.isNone xs' o.isNone ∧ (∀ j, j < w.heap.size → tv.ownBlock ≠ some j → tv'.ownBlock ≠ some j) ∧ Oth (fun j => (j = n ∨ j = n + 1 ∨ j = n + 2) ∨ tv.ownBlock = some j) w w' := by
  subst hr hA hB hx
  obtain ⟨va, vo, hv', tv', h1, h2, h3, h4, h5, _, h6⟩ := h
  exact ⟨va, vo, hv', tv', h1, h2, h3, h4, h5, h6⟩
theorem clunk_cells (ty t f : Nat) : (clunkM ty t f).cells (.slice none 0 0) (.slice none 0 0) (.slice none 0 0) = #[.int .u8 (ty : Int), .int .u16 (t : Int), .int .u32 0, .string ⟨#[]⟩, .int .u32 (f : Int), .int .u32 0, .int .u32 0, .string ⟨#[]⟩, .string ⟨#[]⟩, .string ⟨#[]⟩, .int .u16 0, .slice none 0 0, .slice none 0 0, .int .u8 0, .int .u32 0, .int .u64 0, .int .u32 0, .int .u8 0, .int .u32 0, .string ⟨#[]⟩, .int .u64 0, .int .u32 0, .slice none 0 0, .int .u16 0, .int .u32 0, .int .u8 0, .int .u32 0, .int .u64 0, .int .u32 0, .int .u32 0, .int .u32 0, .int .u64 0, .string ⟨#[]⟩, .string ⟨#[]⟩, .string ⟨#[]⟩, .string ⟨#[]⟩] := rfl
theorem ksize {t : Nat} : (clunkM 121 t 0).bytes.length ≤ 8188 := by
  have e : (clunkM 121 t 0).err = 0 := by kernel_rfl
  unfold M.bytes
  rw [if_pos e, show (outs (clunkM 121 t 0) (slots (clunkM 121 t 0).ty)).2 = [] from by kernel_rfl]
  simp [numBytes_length]
theorem kdone : doneF [3] 3 = [] := by kernel_rfl
theorem kans {w : World} {n : Nat} {hv tv : Value} {l : List UInt8} {dead : Bool} {xs : List Nat} (h : RoadS w n hv tv l dead xs false) (hx : xs.length ≤ 1000) (t : Nat) (ht : t < 65536) : Calls Tryz.prog 10 #[.pointer (some ⟨n + 2, 0, none⟩), .agg ((clunkM 121 t 0).cells (.slice none 0 0) (.slice none 0 0) (.slice none 0 0))] w fun e w' => ∃ a k c tv', e = .returned (.slice a k c) ∧ k = (if t ∈ xs then 1 else 0) ∧ RoadS w' n hv tv' l dead (doneF xs t) false ∧ (∀ j, j < w.heap.size → tv.ownBlock ≠ some j → tv'.ownBlock ≠ some j) ∧ Oth (fun j => (j = n ∨ j = n + 1 ∨ j = n + 2) ∨ tv.ownBlock = some j) w w' := by
  refine (answer_any w n hv tv l dead xs (clunkM 121 t 0) (.slice none 0 0) (.slice none 0 0) (.slice none 0 0) h hx (clunk_ok (by omega) ht (by omega)) (clunk_few _ _ _).few RowAt.nil RowAt.nil RowAt.nil (fun v hv j hj => by rcases hv with rfl | rfl | rfl <;> cases hj) (by kernel_rfl) ksize).mono ?_
  rintro e w' ⟨v, rfl, hF, ⟨tv', hT, hrow⟩, hO⟩
  obtain ⟨a, c, rfl, _⟩ := hF.form
  refine ⟨a, _, c, tv', rfl, ?_, h.answered hO hT hrow, hrow, hO.wide fun j hj => hj.elim (fun e => .inl (.inr (.inl e))) .inr⟩
  show (if t ∈ xs then [frmB (clunkM 121 t 0).bytes] else []).length = _
  split <;> rfl
theorem MsgsAt.one {w : World} {v : Value} {m : M} {B : Nat} {F : Nat → Prop} (h : MsgsAt w v [m] B F) : ∃ b o c vN vQ vD, v = .slice (some ⟨b, o, none⟩) 1 c ∧ 1 ≤ c ∧ c ≤ maxLen ∧ ∀ Z, Below w.heap.size w Z → (MV.mk m vN vQ vD).At Z ∧ ∀ P : Program, Sem.run P (load36 ⟨b, o, none⟩) Z = .ok (m.cells vN vQ vD) Z := by
  obtain ⟨rs, h1, h2, h3⟩ := h
  obtain ⟨r, rfl⟩ : ∃ r, rs = [r] := by
    have := h3.len
    match rs, this with
    | [r], _ => exact ⟨r, rfl⟩
  obtain ⟨hs, hM, _⟩ := h3.1
  obtain ⟨vN, vQ, vD, hv, hN, hQ, hD⟩ := id hM
  have hr : r = m.cells vN vQ vD := by cases hv; rfl
  subst hr
  have e : cellsOf [m.cells vN vQ vD] = (m.cells vN vQ vD).toList := by simp [cellsOf]
  rw [e] at h1
  have h1' : ∀ Z, Below w.heap.size w Z → RowAt Z 36 v 1 (m.cells vN vQ vD).toList := fun Z hZ => h1.below hZ
  obtain ⟨_, a, c, rfl, g1, g2, _, _, g4⟩ := h1
  obtain ⟨b, o, rfl, _⟩ := g4 0 _ rfl
  refine ⟨b, o, c, vN, vQ, vD, rfl, g1, g2, fun Z hZ => ⟨⟨RowAt.below hN.1 hZ, RowAt.below hQ.1 hZ, hD.1.below hZ⟩, fun P => ?_⟩⟩
  obtain ⟨_, a', c', hv', _, _, _, _, g4'⟩ := h1' Z hZ
  cases hv'
  refine load36_at rfl fun j u hu => ?_
  obtain ⟨b', o', hb', hc'⟩ := g4' j u hu
  cases hb'
  exact hc'
theorem OutsAt.one {w : World} {v : Value} {l : List UInt8} {B : Nat} {F : Nat → Prop} (h : OutsAt w v [l] B F) : ∃ b o c a n k, v = .slice (some ⟨b, o, none⟩) 1 c ∧ ∀ Z, Below w.heap.size w Z → Z.cell? ⟨b, o, none⟩ = some (.slice a n k) ∧ (convert 29 9 (.slice a n k)).run Tryz.prog Z = .ok (.string (strL l)) Z := by
  obtain ⟨vs, h1, h2, h3⟩ := h
  obtain ⟨u, rfl⟩ : ∃ r, vs = [r] := by
    have := h3.len
    match vs, this with
    | [r], _ => exact ⟨r, rfl⟩
  obtain ⟨hb, _⟩ := h3.1
  obtain ⟨a, k, rfl, _, _⟩ := hb.form
  have h1' : ∀ Z, Below w.heap.size w Z → RowAt Z 1 v 1 [.slice a l.length k] := fun Z hZ => h1.below hZ
  obtain ⟨_, ar, c, rfl, g1, g2, _, _, g4⟩ := h1
  obtain ⟨b, o, rfl, _⟩ := g4 0 _ rfl
  refine ⟨b, o, c, a, l.length, k, rfl, fun Z hZ => ⟨?_, conv_string _ _ _ (hb.below hZ)⟩⟩
  obtain ⟨_, a', c', hv', _, _, _, _, g4'⟩ := h1' Z hZ
  cases hv'
  obtain ⟨b', o', hb', hc'⟩ := g4' 0 _ rfl
  cases hb'
  exact hc'
theorem same_self {m : M} (hk : knownT m.ty = true) {vN vQ vD vN' vQ' vD' : Value} {Z : World} (ha : (MV.mk m vN vQ vD).At Z) (hb : (MV.mk m vN' vQ' vD').At Z) : Calls Tryz.prog 13 #[.agg (m.cells vN vQ vD), .agg (m.cells vN' vQ' vD')] Z (TestPost Z true) := by
  have h := same_any ⟨m, vN, vQ, vD⟩ ⟨m, vN', vQ', vD'⟩ Z ha hb hk hk
  rw [show sameB ⟨m, vN, vQ, vD⟩ ⟨m, vN', vQ', vD'⟩ = true from sameB_iff.2 rfl] at h
  exact h
theorem lframed_err (t e : Nat) (ht : t < 65536) (he : ErrN e) (Z : World) : Calls Tryz.prog 8 #[.agg ((errM t e).cells (.slice none 0 0) (.slice none 0 0) (.slice none 0 0))] Z fun en w' => ∃ b c, en = .returned (.slice (some ⟨b, 0, none⟩) (frmB (errM t e).bytes).length c) ∧ Below Z.heap.size Z w' ∧ ∀ Z', Below w'.heap.size w' Z' → (convert 29 9 (.slice (some ⟨b, 0, none⟩) (frmB (errM t e).bytes).length c)).run Tryz.prog Z' = .ok (.string (strL (frmB (errM t e).bytes))) Z' :=
  (lframed_any ⟨errM t e, .slice none 0 0, .slice none 0 0, .slice none 0 0⟩ Z ⟨RowAt.nil, RowAt.nil, RowAt.nil⟩ (errM_ok ht) ⟨errM_few he, by show 0 ≤ 30; omega, by show 0 ≤ 30; omega, by show 0 ≤ 10000; omega⟩ (errM_err he) (errM_len he)).mono fun en w' ⟨v, h1, h2, h3⟩ => by
    obtain ⟨g, c, rfl, _⟩ := h2.form
    exact ⟨g, c, h1, h3, fun Z' hZ => conv_string _ _ _ (h2.at.below hZ)⟩
structure K24 (w5 W : World) (n : Nat) (va vo tv : Value) : Prop where
  oth : Oth (fun j => j = n ∨ j = n + 1 ∨ j = n + 2) w5 W
  ms : MsgsAt W va [clunkM 120 3 1] w5.heap.size (offV tv)
  os : OutsAt W vo [frmB (errM 9 2).bytes] w5.heap.size (offV tv)
  tvn : ∀ j, tv.ownBlock = some j → w5.heap.size ≤ j
  lt : n + 2 < w5.heap.size
theorem K24.step {w5 W W' : World} {n : Nat} {va vo tv tv' : Value} (h : K24 w5 W n va vo tv) (ho : Oth (fun j => (j = n ∨ j = n + 1 ∨ j = n + 2) ∨ tv.ownBlock = some j) W W') (hr : ∀ j, j < W.heap.size → tv.ownBlock ≠ some j → tv'.ownBlock ≠ some j) : K24 w5 W' n va vo tv' := by
  have hz := h.oth.size
  have hlt := h.lt
  have hk : ∀ j, w5.heap.size ≤ j → j < W.heap.size → offV tv j → W'.heap[j]? = W.heap[j]? ∧ offV tv' j := fun j h1 h2 h3 => ⟨ho.keep j h2 (by rintro (e | e); omega; exact h3 e), hr j h2 h3⟩
  exact ⟨h.oth.trans2 ho (fun j hj hp => by rcases hp with e | e; exact e; have := h.tvn j e; omega), h.ms.keep ho.size hk (Nat.le_refl _), h.os.keep ho.size hk (Nat.le_refl _), fun j hj => by
    rcases Nat.lt_or_ge j w5.heap.size with hl | hl
    · exact absurd hj (hr j (by omega) (fun e => by have := h.tvn j e; omega))
    · exact hl, h.lt⟩
attribute [local go_sem ↓] load36_eq
set_option maxHeartbeats 6400000 in
theorem known24_any (w : World) : Calls Tryz.prog 5 #[] w fun e w' => e = .returned (.bool true) ∧ Below w.heap.size w w' := by
  have hc := hid (cnew_any w)
  obtain ⟨n, hn⟩ : ∃ n, n = w.heap.size := ⟨_, rfl⟩
  obtain ⟨W1, hW1⟩ : ∃ W, W = newRoad w := ⟨_, rfl⟩
  obtain ⟨hr1, hB1⟩ := newRoad_s w
  rw [← hW1] at hr1 hB1 hc
  rw [← hn] at hr1 hc
  replace hn := hid hn
  replace hr1 := hid hr1
  replace hB1 := hid hB1
  replace hW1 := hid hW1
  obtain ⟨k2, hk2⟩ : ∃ k, k = W1.heap.size := ⟨_, rfl⟩
  replace hk2 := hid hk2
  obtain ⟨X1, hX1⟩ : ∃ X, X = W1.alloc (.cells (zeroM.cells (.slice none 0 0) (.slice none 0 0) (.slice none 0 0)) 41) := ⟨_, rfl⟩
  have hnew := hid (show X1.heap[k2]? = some (.cells (zeroM.cells (.slice none 0 0) (.slice none 0 0) (.slice none 0 0)) 41 (0, 0)) by rw [hX1, hk2.out]; exact heap_alloc_new _ _)
  rw [nil_cells] at hnew hX1
  obtain ⟨C, hC⟩ : ∃ C, C = (clunkM 120 3 1).cells (.slice none 0 0) (.slice none 0 0) (.slice none 0 0) := ⟨_, rfl⟩
  obtain ⟨X2, hX2⟩ : ∃ X, X = X1.setRow k2 C := ⟨_, rfl⟩
  have hb2 := hid (show Below W1.heap.size W1 X2 by rw [hX2, hX1, hk2.out]; exact below_setRow ((Below.refl _ _).alloc (Nat.le_refl _) _) (Nat.le_refl _) _)
  have hm2 := hid (show X2.heap[k2]? = some (.cells C 41 (0, 0)) by rw [hX2]; exact setRow_heap _ _ _ _ _ _ hnew.out)
  have hs36 := hid (show C.size = 36 by rw [hC]; rfl)
  have hr2 := hid (hr1.out.below hb2.out)
  have hB2 := hid (sn hB1.out hb2.out)
  have hfr := hid (lframed_any ⟨clunkM 120 3 1, .slice none 0 0, .slice none 0 0, .slice none 0 0⟩ X2 ⟨RowAt.nil, RowAt.nil, RowAt.nil⟩ (clunk_ok (by omega) (by omega) (by omega)) (clunk_few _ _ _) (clunk_bytes 3 1).1 (by rw [clunk_len]; omega))
  rw [show (MV.mk (clunkM 120 3 1) (.slice none 0 0) (.slice none 0 0) (.slice none 0 0)).cells = C from hC.symm] at hfr
  replace hC := hid hC
  replace hX2 := hid hX2
  go_enter Tryz.func5, Tryz.ntmps5
  go_wp2_with fail
  refine hc.out.mono ?_
  rintro e w1 ⟨rfl, rfl⟩
  clear hc
  go_upto_region 5 with (first | (rw [← hX1]; replace hX1 := hid hX1) | (rw [← hk2.out]) | (refine wpList_store_row (by rfl) 41 (.tmp 2) (.tmp 12) (by rfl) k2 ((clunkM 120 3 1).cells (.slice none 0 0) (.slice none 0 0) (.slice none 0 0)) (by rfl) (by rfl) 41 _ hnew.out (by kernel_rfl) (by kernel_rfl) (by kernel_rfl) ?_; rw [← hC.out, ← hX2.out]))
  try rw [← hX2.out]
  clear hnew hX1
  go_wp2_with (refine wpList_load_row (by rfl) 41 (.tmp 2) (by rfl) k2 (by rfl) 41 C (0, 0) _ hm2.out Tryz.underlying41 (by rfl) (by rw [hs36.out]; kernel_rfl) ?_)
  refine hfr.out.mono ?_
  rintro e w3 ⟨v3, rfl, hv3, hb3⟩
  obtain ⟨W4, hW4⟩ : ∃ W, W = w3.alloc (.cells #[.int .u8 7, .int .u8 0, .int .u8 0, .int .u8 0, .int .u8 50, .int .u8 9, .int .u8 0] 5) := ⟨_, rfl⟩
  have hb4 : Below w3.heap.size w3 W4 := by rw [hW4]; exact (Below.refl _ _).alloc (Nat.le_refl _) _
  have hsr := hid (show BytesAt W4 (.slice (some ⟨w3.heap.size, 0, none⟩) 7 7) [7, 0, 0, 0, 50, 9, 0] by rw [hW4]; exact RowAt.of_new #[.int .u8 7, .int .u8 0, .int .u8 0, .int .u8 0, .int .u8 50, .int .u8 9, .int .u8 0] 7 1 rfl (by unfold maxLen; omega))
  have hv4 := hid (hv3.below hb4)
  have hb42 := sn hb3 hb4
  replace hb42 := hid hb42
  have hz4 := hid hb42.out.size
  have hfl : (frmB (clunkM 120 3 1).bytes).length = 11 := by kernel_rfl
  clear hv3 hb3 hb4 hfr
  go_wp2_with (first | (rw [← hW4]; replace hW4 := hid hW4) | (at_builtin; refine wpList_append_bytes _ rfl (.tmp 16) (.tmp 17) rfl X2.heap.size (frmB (clunkM 120 3 1).bytes) [7, 0, 0, 0, 50, 9, 0] rfl hv4.out rfl hsr.out (by rw [hfl]; decide) (by decide) hz4.out (fun v5 w5 h5 hb5 => ?_)))
  have hb5X := hb42.out.trans hb5
  have hr5 := hid (hr2.out.below hb5X)
  have hB5 := hid (sn hB2.out hb5X)
  have hm5 := hid ((hb5X.block k2 (lt_of_block hm2.out)).trans hm2.out)
  have hkn := hid (show n + 2 < k2 by have := lt_of_block hr1.out.blk; have := hk2.out; omega)
  have hKl : K0.length = 18 := by kernel_rfl
  have hf6 := hid (cfeed_any w5 n _ _ v5 [] K0 [] 1000 hr5.out (by decide) h5 (by rw [hKl]; decide) (by omega))
  clear h5 hb5 hb5X hr2 hB2 hb42 hz4 hfl hsr hv4 hKl
  refine hf6.out.mono ?_
  rintro e w6 hP
  obtain ⟨va, vo, hv6, tv6, rfl, hM6, hO6, hr6, ht6, ho6⟩ := cfeed_post hP k24_feed k24_asks k24_outs k24_tags
  clear hP hf6
  have hz5 := lt_of_block hr5.out.blk
  have hK6 : K24 w5 w6 n va vo tv6 := ⟨⟨ho6.size, fun j hj hn => ho6.keep j hj (by rintro (e | e); exact hn e; cases e), fun N h1 h2 => ho6.below N h1 (by rintro j (e | e); exact h2 j e; cases e)⟩, hM6, hO6, fun j hj => by
    rcases Nat.lt_or_ge j w5.heap.size with hl | hl
    · exact absurd hj (ht6 j hl (fun e => by cases e))
    · exact hl, hz5⟩
  have hr6 : RoadS w6 n hv6 tv6 [] false [3] false := hr6
  have ha7 := hid (kans hr6 (by decide) 3 (by omega))
  rw [clunk_cells] at ha7
  replace hK6 := hid hK6
  clear ho6 ht6 hM6 hO6 hz5 hr6
  go_wp2_with fail
  refine ha7.out.mono ?_
  rintro e w7 ⟨a7, k7, c7, tv7, rfl, rfl, hr7, ht7, ho7⟩
  rw [kdone] at hr7
  rw [if_pos (by decide)]
  have hK7 := hid (hK6.out.step ho7 ht7)
  have ha8 := hid (kans hr7 (by decide) 3 (by omega))
  rw [clunk_cells] at ha8
  clear ha7 hr7 ht7 ho7 hK6
  go_wp2_with fail
  refine ha8.out.mono ?_
  rintro e w8 ⟨a8, k8, c8, tv8, rfl, rfl, hr8, ht8, ho8⟩
  rw [if_neg (by decide)]
  have hK8 := hK7.out.step ho8 ht8
  obtain ⟨W8, hW8⟩ : ∃ W, W = w8.alloc (.cells #[.int .u8 1, .int .u8 0, .int .u8 0, .int .u8 0] 5) := ⟨_, rfl⟩
  have hb8 : Below w8.heap.size w8 W8 := by rw [hW8]; exact (Below.refl _ _).alloc (Nat.le_refl _) _
  have hs8 : BytesAt W8 (.slice (some ⟨w8.heap.size, 0, none⟩) 4 4) [1, 0, 0, 0] := by rw [hW8]; exact RowAt.of_new #[.int .u8 1, .int .u8 0, .int .u8 0, .int .u8 0] 4 1 rfl (by unfold maxLen; omega)
  have hr8 : RoadS W8 n hv6 tv8 [] false [] false := hr8.below hb8
  have hK8b := hid (hK8.step (tv' := tv8) (Oth.pure hb8 |>.wide fun j hj => hj) (fun j _ h => h))
  have hf9 := hid (cfeed_any W8 n _ _ _ [] [1, 0, 0, 0] [] 1000 hr8 (by decide) hs8 (by decide) (by omega))
  clear ha8 hr8 ht8 ho8 hK7 hK8 hb8 hs8
  go_wp2_with (rw [← hW8]; replace hW8 := hid hW8)
  try (rw [← hW8]; replace hW8 := hid hW8)
  refine hf9.out.mono ?_
  rintro e w9 hP
  obtain ⟨vx, vy, hv9, tv9, rfl, hM9, hO9, hr9, ht9, ho9⟩ := cfeed_post hP k24_dead (A := []) (B := []) (xs' := []) rfl rfl rfl
  have hK9 := hK8b.out.step ho9 ht9
  obtain ⟨_, h9, _, _⟩ := hM9
  obtain ⟨_, ax, cx, rfl, _⟩ := h9
  obtain ⟨_, h9, _, _⟩ := hO9
  obtain ⟨_, ay, cy, rfl, _⟩ := h9
  clear hP hf9 ho9 ht9 hK8b
  have hr9 : RoadS w9 n hv9 tv9 [] true [] true := hr9
  obtain ⟨bA, oA, cA, vN, vQ, vD, rfl, gA1, gA2, hl⟩ := hK9.ms.one
  obtain ⟨bO, oO, cO, ae, le, ce, rfl, hlo⟩ := hK9.os.one
  have hk9 := (hK9.oth.keep k2 (lt_of_block hm5.out) (by have := hkn.out; omega)).trans hm5.out
  have hBf := hid (hB5.out.trans (hK9.oth.below w.heap.size hB5.out.size (fun j hj => by have := hn.out; omega)))
  clear hK9
  go_upto_region 9 with fail
  obtain ⟨Cx, hCx⟩ : ∃ C, C = (clunkM 120 3 1).cells vN vQ vD := ⟨_, rfl⟩
  obtain ⟨st, hst⟩ : ∃ s, s = strL (frmB (errM 9 2).bytes) := ⟨_, rfl⟩
  have lx : Hid (∀ Z, Below w9.heap.size w9 Z → Sem.run Tryz.prog (load36 ⟨bA, oA, none⟩) Z = .ok Cx Z) := hid (fun Z hZ => by rw [hCx]; exact (hl Z hZ).2 Tryz.prog)
  have lm : Hid (∀ Z, Below w9.heap.size w9 Z → Sem.run Tryz.prog (load36 ⟨k2, 0, none⟩) Z = .ok C Z) := hid (fun Z hZ => load36_block hs36.out ((hZ.block _ (lt_of_block hk9)).trans hk9))
  have lo : Hid (∀ Z, Below w9.heap.size w9 Z → Z.cell? ⟨bO, oO, none⟩ = some (.slice ae le ce)) := hid (fun Z hZ => (hlo Z hZ).1)
  have lc : Hid (∀ Z, Below w9.heap.size w9 Z → (convert 29 9 (.slice ae le ce)).run Tryz.prog Z = .ok (.string st) Z) := hid (fun Z hZ => by rw [hst]; exact (hlo Z hZ).2)
  have qs : Hid (∀ Z, Below w9.heap.size w9 Z → Calls Tryz.prog 13 #[.agg Cx, .agg C] Z (TestPost Z true)) := hid (fun Z hZ => by
    rw [hCx, hC.out]
    exact same_self (by decide) (hl Z hZ).1 ⟨RowAt.nil, RowAt.nil, RowAt.nil⟩)
  have qe : ∀ Z, Calls Tryz.prog 9 #[.int .u16 9, .int .i64 2] Z fun en w' => en = .returned (.agg ((errM 9 2).cells (.slice none 0 0) (.slice none 0 0) (.slice none 0 0))) ∧ Below Z.heap.size Z w' := fun Z => merror_any 9 2 Z (by omega)
  have qf := fun Z => lframed_err 9 2 (by omega) (.inl rfl) Z
  obtain ⟨EC, hEC⟩ : ∃ E, E = (errM 9 2).cells (.slice none 0 0) (.slice none 0 0) (.slice none 0 0) := ⟨_, rfl⟩
  obtain ⟨fl, hfl⟩ : ∃ E, E = (frmB (errM 9 2).bytes).length := ⟨_, rfl⟩
  rw [← hEC] at qe qf
  rw [← hfl] at qf
  replace hEC := hid hEC
  replace hfl := hid hfl
  have qc := hid (fun Z (hZ : Below w9.heap.size w9 Z) => closed_any Z n _ _ _ (hr9.below hZ).blk)
  have qo := hid (fun Z (hZ : Below w9.heap.size w9 Z) => open_any (hr9.below hZ) (by decide))
  rw [← hst] at qf
  replace qe := hid qe
  replace qf := hid qf
  replace hst := hid hst
  replace hCx := hid hCx
  have hB0 := hid ((Below.refl w9.heap.size w9).drew)
  have hw0 : IntKind.i64.wrap 0 = 0 := by decide
  clear hl hlo hk9 hr9 hm5 hkn hm2 hs36 hX2 hr1 hB1 hW1 hk2 hb2 hW4 hr5 hB5 hr6 hr8 hW8 hC
  refine wp_region_held_drew (S := (fun W => Sem.run Tryz.prog (load36 ⟨bA, oA, none⟩) W = .ok Cx W ∧ Sem.run Tryz.prog (load36 ⟨k2, 0, none⟩) W = .ok C W ∧ W.cell? ⟨bO, oO, none⟩ = some (.slice ae le ce) ∧ (convert 29 9 (.slice ae le ce)).run Tryz.prog W = .ok (.string st) W)) (by kernel_rfl) ?_ (fun hHeld0 => ?_)
  · try dsimp only
    (first | exact ⟨lx.out _ hB0.out, lm.out _ hB0.out, lo.out _ hB0.out, lc.out _ hB0.out⟩ | exact ⟨⟨lx.out _ hB0.out, lm.out _ hB0.out, lo.out _ hB0.out, lc.out _ hB0.out⟩, hcv.out _ hBc.out⟩)
  refine wpAnyH_take (i := 0) (oi := _) (v := ?_) (take_list rfl) (by kernel_rfl) (by kernel_rfl) (by kernel_rfl) (fun _ _ _ h => h) (Or.inl ⟨by rfl, ?_⟩) (by assumption) ?_
  rotate_left
  · intro w hSw; (try dsimp only at hSw); go_simp; try (with_reducible rfl)
  try simp only [Act.put, List.setIfInBounds_toArray, List.set_cons_zero, List.set_cons_succ]
  refine wpAnyH_take (i := 1) (oi := _) (v := ?_) (take_list rfl) (by kernel_rfl) (by kernel_rfl) (by kernel_rfl) (fun _ _ _ h => h) (Or.inl ⟨by rfl, ?_⟩) (by assumption) ?_
  rotate_left
  · intro w hSw; (try dsimp only at hSw); go_simp; try (with_reducible rfl)
  try simp only [Act.put, List.setIfInBounds_toArray, List.set_cons_zero, List.set_cons_succ]
  refine wpAnyH_take (i := 2) (oi := _) (v := ?_) (take_list rfl) (by kernel_rfl) (by kernel_rfl) (by kernel_rfl) (fun _ _ _ h => h) (Or.inl ⟨by rfl, ?_⟩) (by assumption) ?_
  rotate_left
  · intro w hSw; (try dsimp only at hSw); go_simp; try (with_reducible rfl)
  try simp only [Act.put, List.setIfInBounds_toArray, List.set_cons_zero, List.set_cons_succ]
  refine wpAnyH_take (i := 3) (oi := _) (v := ?_) (take_list rfl) (by kernel_rfl) (by kernel_rfl) (by kernel_rfl) (fun _ _ _ h => h) (Or.inl ⟨by rfl, ?_⟩) (by assumption) ?_
  rotate_left
  · intro w hSw; (try dsimp only at hSw); go_simp; try (with_reducible rfl)
  try simp only [Act.put, List.setIfInBounds_toArray, List.set_cons_zero, List.set_cons_succ]
  refine wpAnyH_take (i := 4) (oi := _) (v := ?_) (take_list rfl) (by kernel_rfl) (by kernel_rfl) (by kernel_rfl) (fun _ _ _ h => h) (Or.inl ⟨by rfl, ?_⟩) (by assumption) ?_
  rotate_left
  · intro w hSw; (try dsimp only at hSw); go_simp; try (with_reducible rfl)
  try simp only [Act.put, List.setIfInBounds_toArray, List.set_cons_zero, List.set_cons_succ]
  refine wpAnyH_take (i := 5) (oi := _) (v := ?_) (take_list rfl) (by kernel_rfl) (by kernel_rfl) (by kernel_rfl) (fun _ _ _ h => h) (Or.inl ⟨by rfl, ?_⟩) (by assumption) ?_
  rotate_left
  · intro w hSw; (try dsimp only at hSw); go_simp; try (with_reducible rfl)
  try simp only [Act.put, List.setIfInBounds_toArray, List.set_cons_zero, List.set_cons_succ]
  refine wpAnyH_take (i := 6) (oi := _) (v := ?_) (take_list rfl) (by kernel_rfl) (by kernel_rfl) (by kernel_rfl) (fun _ _ _ h => h) (Or.inl ⟨by rfl, ?_⟩) (by assumption) ?_
  rotate_left
  · intro w hSw; (try dsimp only at hSw); go_simp; try (with_reducible rfl)
  try simp only [Act.put, List.setIfInBounds_toArray, List.set_cons_zero, List.set_cons_succ]
  refine wpAnyH_take (i := 7) (oi := _) (v := ?_) (take_list rfl) (by kernel_rfl) (by kernel_rfl) (by kernel_rfl) (fun _ _ _ h => h) (Or.inl ⟨by rfl, ?_⟩) (by assumption) ?_
  rotate_left
  · intro w hSw; (try dsimp only at hSw); go_simp; try (with_reducible rfl)
  try simp only [Act.put, List.setIfInBounds_toArray, List.set_cons_zero, List.set_cons_succ]
  refine wpAnyH_ready (rs := [8]) (by kernel_rfl) (by simp) ?_
  refine AllReadyH.cons (take_list rfl) (fun K hK => ?_) ?_
  go_simp
  (first
      | (go_at_call 13; (with_reducible refine (qs.out _ hB0.out).mono ?_); rintro e w10 ⟨rfl, hb10⟩; replace hB0 := hid (sn hB0.out hb10))
      | (go_at_call 9; (with_reducible refine (qe.out _).mono ?_); rintro e w11 ⟨rfl, hb11⟩; replace hB0 := hid (sn hB0.out hb11))
      | (go_at_call 8; (with_reducible refine (qf.out _).mono ?_); rintro e w12 ⟨b12, c12, rfl, hb12, hcv⟩; have hcv12 := hcv _ (Below.refl _ _); replace hcv := hid hcv; replace hB0 := hid (sn hB0.out hb12); replace hK := held_switch hK (S' := fun W => (Sem.run Tryz.prog (load36 ⟨bA, oA, none⟩) W = .ok Cx W ∧ Sem.run Tryz.prog (load36 ⟨k2, 0, none⟩) W = .ok C W ∧ W.cell? ⟨bO, oO, none⟩ = some (.slice ae le ce) ∧ (convert 29 9 (.slice ae le ce)).run Tryz.prog W = .ok (.string st) W) ∧ (convert 29 9 (.slice (some ⟨b12, 0, none⟩) fl c12)).run Tryz.prog W = .ok (.string st) W) (fun W h => h.1); have hBc := hid (Below.refl w12.heap.size w12))
      | (go_at_call 12; (with_reducible refine (qc.out _ hB0.out).mono ?_); rintro e w13 ⟨rfl, rfl⟩)
      | (go_at_call 11; (with_reducible refine (qo.out _ hB0.out).mono ?_); rintro e w14 ⟨v14, rfl, hv14, hb14⟩; obtain ⟨a14, c14, rfl, _⟩ := hv14.form; replace hB0 := hid (sn hB0.out hb14); replace hBc := hid (sn hBc.out hb14)))
  go_wp2_with fail
  refine hK.out _ _ ?_ (fun hHeld1 => ?_)
  · try dsimp only
    (first | exact ⟨lx.out _ hB0.out, lm.out _ hB0.out, lo.out _ hB0.out, lc.out _ hB0.out⟩ | exact ⟨⟨lx.out _ hB0.out, lm.out _ hB0.out, lo.out _ hB0.out, lc.out _ hB0.out⟩, hcv.out _ hBc.out⟩)
  clear hK K hHeld0
  try simp only [Act.put, List.setIfInBounds_toArray, List.set_cons_zero, List.set_cons_succ]
  refine wpAnyH_take (i := 9) (oi := _) (v := ?_) (take_list rfl) (by kernel_rfl) (by kernel_rfl) (by kernel_rfl) (fun _ _ _ h => h) (Or.inl ⟨by rfl, ?_⟩) (by assumption) ?_
  rotate_left
  · intro w hSw; (try dsimp only at hSw); go_simp; try (with_reducible rfl)
  try simp only [Act.put, List.setIfInBounds_toArray, List.set_cons_zero, List.set_cons_succ]
  refine wpAnyH_take (i := 10) (oi := _) (v := ?_) (take_list rfl) (by kernel_rfl) (by kernel_rfl) (by kernel_rfl) (fun _ _ _ h => h) (Or.inl ⟨by rfl, ?_⟩) (by assumption) ?_
  rotate_left
  · intro w hSw; (try dsimp only at hSw); go_simp; try (with_reducible rfl)
  try simp only [Act.put, List.setIfInBounds_toArray, List.set_cons_zero, List.set_cons_succ]
  refine wpAnyH_take (i := 11) (oi := _) (v := ?_) (take_list rfl) (by kernel_rfl) (by kernel_rfl) (by kernel_rfl) (fun _ _ _ h => h) (Or.inl ⟨by rfl, ?_⟩) (by assumption) ?_
  rotate_left
  · intro w hSw; (try dsimp only at hSw); go_simp; try (with_reducible rfl)
  try simp only [Act.put, List.setIfInBounds_toArray, List.set_cons_zero, List.set_cons_succ]
  refine wpAnyH_take (i := 12) (oi := _) (v := ?_) (take_list rfl) (by kernel_rfl) (by kernel_rfl) (by kernel_rfl) (fun _ _ _ h => h) (Or.inl ⟨by rfl, ?_⟩) (by assumption) ?_
  rotate_left
  · intro w hSw; (try dsimp only at hSw); go_simp; try (with_reducible rfl)
  try simp only [Act.put, List.setIfInBounds_toArray, List.set_cons_zero, List.set_cons_succ]
  refine wpAnyH_take (i := 13) (oi := _) (v := ?_) (take_list rfl) (by kernel_rfl) (by kernel_rfl) (by kernel_rfl) (fun _ _ _ h => h) (Or.inl ⟨by rfl, ?_⟩) (by assumption) ?_
  rotate_left
  · intro w hSw; (try dsimp only at hSw); go_simp; try (with_reducible rfl)
  try simp only [Act.put, List.setIfInBounds_toArray, List.set_cons_zero, List.set_cons_succ]
  refine wpAnyH_take (i := 14) (oi := _) (v := ?_) (take_list rfl) (by kernel_rfl) (by kernel_rfl) (by kernel_rfl) (fun _ _ _ h => h) (Or.inl ⟨by rfl, ?_⟩) (by assumption) ?_
  rotate_left
  · intro w hSw; (try dsimp only at hSw); go_simp; try (with_reducible rfl)
  try simp only [Act.put, List.setIfInBounds_toArray, List.set_cons_zero, List.set_cons_succ]
  refine wpAnyH_take (i := 15) (oi := _) (v := ?_) (take_list rfl) (by kernel_rfl) (by kernel_rfl) (by kernel_rfl) (fun _ _ _ h => h) (Or.inl ⟨by rfl, ?_⟩) (by assumption) ?_
  rotate_left
  · intro w hSw; (try dsimp only at hSw); go_simp; try (with_reducible rfl)
  try simp only [Act.put, List.setIfInBounds_toArray, List.set_cons_zero, List.set_cons_succ]
  refine wpAnyH_take (i := 16) (oi := _) (v := ?_) (take_list rfl) (by kernel_rfl) (by kernel_rfl) (by kernel_rfl) (fun _ _ _ h => h) (Or.inl ⟨by rfl, ?_⟩) (by assumption) ?_
  rotate_left
  · intro w hSw; (try dsimp only at hSw); go_simp; try (with_reducible rfl)
  try simp only [Act.put, List.setIfInBounds_toArray, List.set_cons_zero, List.set_cons_succ]
  refine wpAnyH_take (i := 17) (oi := _) (v := ?_) (take_list rfl) (by kernel_rfl) (by kernel_rfl) (by kernel_rfl) (fun _ _ _ h => h) (Or.inl ⟨by rfl, ?_⟩) (by assumption) ?_
  rotate_left
  · intro w hSw; (try dsimp only at hSw); go_simp; try (with_reducible rfl)
  try simp only [Act.put, List.setIfInBounds_toArray, List.set_cons_zero, List.set_cons_succ]
  refine wpAnyH_take (i := 18) (oi := _) (v := ?_) (take_list rfl) (by kernel_rfl) (by kernel_rfl) (by kernel_rfl) (fun _ _ _ h => h) (Or.inl ⟨by rfl, ?_⟩) (by assumption) ?_
  rotate_left
  · intro w hSw; (try dsimp only at hSw); go_simp; try (with_reducible rfl)
  try simp only [Act.put, List.setIfInBounds_toArray, List.set_cons_zero, List.set_cons_succ]
  refine wpAnyH_take (i := 19) (oi := _) (v := ?_) (take_list rfl) (by kernel_rfl) (by kernel_rfl) (by kernel_rfl) (fun _ _ _ h => h) (Or.inl ⟨by rfl, ?_⟩) (by assumption) ?_
  rotate_left
  · intro w hSw; (try dsimp only at hSw); go_simp; try (with_reducible rfl)
  try simp only [Act.put, List.setIfInBounds_toArray, List.set_cons_zero, List.set_cons_succ]
  refine wpAnyH_ready (rs := [20]) (by kernel_rfl) (by simp) ?_
  refine AllReadyH.cons (take_list rfl) (fun K hK => ?_) ?_
  go_simp
  (first
      | (go_at_call 13; (with_reducible refine (qs.out _ hB0.out).mono ?_); rintro e w10 ⟨rfl, hb10⟩; replace hB0 := hid (sn hB0.out hb10))
      | (go_at_call 9; (with_reducible refine (qe.out _).mono ?_); rintro e w11 ⟨rfl, hb11⟩; replace hB0 := hid (sn hB0.out hb11))
      | (go_at_call 8; (with_reducible refine (qf.out _).mono ?_); rintro e w12 ⟨b12, c12, rfl, hb12, hcv⟩; have hcv12 := hcv _ (Below.refl _ _); replace hcv := hid hcv; replace hB0 := hid (sn hB0.out hb12); replace hK := held_switch hK (S' := fun W => (Sem.run Tryz.prog (load36 ⟨bA, oA, none⟩) W = .ok Cx W ∧ Sem.run Tryz.prog (load36 ⟨k2, 0, none⟩) W = .ok C W ∧ W.cell? ⟨bO, oO, none⟩ = some (.slice ae le ce) ∧ (convert 29 9 (.slice ae le ce)).run Tryz.prog W = .ok (.string st) W) ∧ (convert 29 9 (.slice (some ⟨b12, 0, none⟩) fl c12)).run Tryz.prog W = .ok (.string st) W) (fun W h => h.1); have hBc := hid (Below.refl w12.heap.size w12))
      | (go_at_call 12; (with_reducible refine (qc.out _ hB0.out).mono ?_); rintro e w13 ⟨rfl, rfl⟩)
      | (go_at_call 11; (with_reducible refine (qo.out _ hB0.out).mono ?_); rintro e w14 ⟨v14, rfl, hv14, hb14⟩; obtain ⟨a14, c14, rfl, _⟩ := hv14.form; replace hB0 := hid (sn hB0.out hb14); replace hBc := hid (sn hBc.out hb14)))
  go_wp2_with fail
  refine hK.out _ _ ?_ (fun hHeld2 => ?_)
  · try dsimp only
    (first | exact ⟨lx.out _ hB0.out, lm.out _ hB0.out, lo.out _ hB0.out, lc.out _ hB0.out⟩ | exact ⟨⟨lx.out _ hB0.out, lm.out _ hB0.out, lo.out _ hB0.out, lc.out _ hB0.out⟩, hcv.out _ hBc.out⟩)
  clear hK K hHeld1
  try simp only [Act.put, List.setIfInBounds_toArray, List.set_cons_zero, List.set_cons_succ]
  refine wpAnyH_ready (rs := [21]) (by kernel_rfl) (by simp) ?_
  refine AllReadyH.cons (take_list rfl) (fun K hK => ?_) ?_
  go_simp
  (first
      | (go_at_call 13; (with_reducible refine (qs.out _ hB0.out).mono ?_); rintro e w10 ⟨rfl, hb10⟩; replace hB0 := hid (sn hB0.out hb10))
      | (go_at_call 9; (with_reducible refine (qe.out _).mono ?_); rintro e w11 ⟨rfl, hb11⟩; replace hB0 := hid (sn hB0.out hb11))
      | (go_at_call 8; (with_reducible refine (qf.out _).mono ?_); rintro e w12 ⟨b12, c12, rfl, hb12, hcv⟩; have hcv12 := hcv _ (Below.refl _ _); replace hcv := hid hcv; replace hB0 := hid (sn hB0.out hb12); replace hK := held_switch hK (S' := fun W => (Sem.run Tryz.prog (load36 ⟨bA, oA, none⟩) W = .ok Cx W ∧ Sem.run Tryz.prog (load36 ⟨k2, 0, none⟩) W = .ok C W ∧ W.cell? ⟨bO, oO, none⟩ = some (.slice ae le ce) ∧ (convert 29 9 (.slice ae le ce)).run Tryz.prog W = .ok (.string st) W) ∧ (convert 29 9 (.slice (some ⟨b12, 0, none⟩) fl c12)).run Tryz.prog W = .ok (.string st) W) (fun W h => h.1); have hBc := hid (Below.refl w12.heap.size w12))
      | (go_at_call 12; (with_reducible refine (qc.out _ hB0.out).mono ?_); rintro e w13 ⟨rfl, rfl⟩)
      | (go_at_call 11; (with_reducible refine (qo.out _ hB0.out).mono ?_); rintro e w14 ⟨v14, rfl, hv14, hb14⟩; obtain ⟨a14, c14, rfl, _⟩ := hv14.form; replace hB0 := hid (sn hB0.out hb14); replace hBc := hid (sn hBc.out hb14)))
  go_wp2_with fail
  refine hK.out _ _ ?_ (fun hHeld3 => ?_)
  · try dsimp only
    (first | exact ⟨lx.out _ hB0.out, lm.out _ hB0.out, lo.out _ hB0.out, lc.out _ hB0.out⟩ | exact ⟨⟨lx.out _ hB0.out, lm.out _ hB0.out, lo.out _ hB0.out, lc.out _ hB0.out⟩, hcv.out _ hBc.out⟩)
  clear hK K hHeld2
  try simp only [Act.put, List.setIfInBounds_toArray, List.set_cons_zero, List.set_cons_succ]
  refine wpAnyH_take (i := 22) (oi := _) (v := ?_) (take_list rfl) (by kernel_rfl) (by kernel_rfl) (by kernel_rfl) (fun _ _ _ h => h) (Or.inl ⟨by rfl, ?_⟩) (by assumption) ?_
  rotate_left
  · intro w hSw; (try dsimp only at hSw); go_simp; try (with_reducible rfl)
  try simp only [Act.put, List.setIfInBounds_toArray, List.set_cons_zero, List.set_cons_succ]
  refine wpAnyH_take (i := 23) (oi := _) (v := ?_) (take_list rfl) (by kernel_rfl) (by kernel_rfl) (by kernel_rfl) (fun _ _ _ h => h) (Or.inl ⟨by rfl, ?_⟩) (by assumption) ?_
  rotate_left
  · intro w hSw; (try dsimp only at hSw); go_simp; try (with_reducible rfl)
  try simp only [Act.put, List.setIfInBounds_toArray, List.set_cons_zero, List.set_cons_succ]
  refine wpAnyH_take (i := 24) (oi := _) (v := ?_) (take_list rfl) (by kernel_rfl) (by kernel_rfl) (by kernel_rfl) (fun _ _ _ h => h) (Or.inl ⟨by rfl, ?_⟩) (by assumption) ?_
  rotate_left
  · intro w hSw; (try dsimp only at hSw); go_simp; try (with_reducible rfl)
  try simp only [Act.put, List.setIfInBounds_toArray, List.set_cons_zero, List.set_cons_succ]
  refine wpAnyH_take (i := 25) (oi := _) (v := ?_) (take_list rfl) (by kernel_rfl) (by kernel_rfl) (by kernel_rfl) (fun _ _ _ h => h) (Or.inl ⟨by rfl, ?_⟩) (by assumption) ?_
  rotate_left
  · intro w hSw; (try dsimp only at hSw); go_simp; try (with_reducible rfl)
  try simp only [Act.put, List.setIfInBounds_toArray, List.set_cons_zero, List.set_cons_succ]
  refine wpAnyH_take (i := 26) (oi := _) (v := ?_) (take_list rfl) (by kernel_rfl) (by kernel_rfl) (by kernel_rfl) (fun _ _ _ h => h) (Or.inl ⟨by rfl, ?_⟩) (by assumption) ?_
  rotate_left
  · intro w hSw; (try dsimp only at hSw); go_simp; try (with_reducible rfl)
  try simp only [Act.put, List.setIfInBounds_toArray, List.set_cons_zero, List.set_cons_succ]
  refine wpAnyH_take (i := 27) (oi := _) (v := ?_) (take_list rfl) (by kernel_rfl) (by kernel_rfl) (by kernel_rfl) (fun _ _ _ h => h) (Or.inl ⟨by rfl, ?_⟩) (by assumption) ?_
  rotate_left
  · intro w hSw; (try dsimp only at hSw); go_simp; try (with_reducible rfl)
  try simp only [Act.put, List.setIfInBounds_toArray, List.set_cons_zero, List.set_cons_succ]
  refine wpAnyH_take (i := 28) (oi := _) (v := ?_) (take_list rfl) (by kernel_rfl) (by kernel_rfl) (by kernel_rfl) (fun _ _ _ h => h) (Or.inl ⟨by rfl, ?_⟩) (by assumption) ?_
  rotate_left
  · intro w hSw; (try dsimp only at hSw); go_simp; try (with_reducible rfl)
  try simp only [Act.put, List.setIfInBounds_toArray, List.set_cons_zero, List.set_cons_succ]
  refine wpAnyH_take (i := 29) (oi := _) (v := ?_) (take_list rfl) (by kernel_rfl) (by kernel_rfl) (by kernel_rfl) (fun _ _ _ h => h) (Or.inl ⟨by rfl, ?_⟩) (by assumption) ?_
  rotate_left
  · intro w hSw; (try dsimp only at hSw); go_simp; try (with_reducible rfl)
  try simp only [Act.put, List.setIfInBounds_toArray, List.set_cons_zero, List.set_cons_succ]
  refine wpAnyH_take (i := 30) (oi := _) (v := ?_) (take_list rfl) (by kernel_rfl) (by kernel_rfl) (by kernel_rfl) (fun _ _ _ h => h) (Or.inl ⟨by rfl, ?_⟩) (by assumption) ?_
  rotate_left
  · intro w hSw; (try dsimp only at hSw); go_simp; try (with_reducible rfl)
  try simp only [Act.put, List.setIfInBounds_toArray, List.set_cons_zero, List.set_cons_succ]
  refine wpAnyH_take (i := 31) (oi := _) (v := ?_) (take_list rfl) (by kernel_rfl) (by kernel_rfl) (by kernel_rfl) (fun _ _ _ h => h) (Or.inl ⟨by rfl, ?_⟩) (by assumption) ?_
  rotate_left
  · intro w hSw; (try dsimp only at hSw); go_simp; try (with_reducible rfl)
  try simp only [Act.put, List.setIfInBounds_toArray, List.set_cons_zero, List.set_cons_succ]
  refine wpAnyH_take (i := 32) (oi := _) (v := ?_) (take_list rfl) (by kernel_rfl) (by kernel_rfl) (by kernel_rfl) (fun _ _ _ h => h) (Or.inl ⟨by rfl, ?_⟩) (by assumption) ?_
  rotate_left
  · intro w hSw; (try dsimp only at hSw); go_simp; try (with_reducible rfl)
  try simp only [Act.put, List.setIfInBounds_toArray, List.set_cons_zero, List.set_cons_succ]
  refine wpAnyH_take (i := 33) (oi := _) (v := ?_) (take_list rfl) (by kernel_rfl) (by kernel_rfl) (by kernel_rfl) (fun _ _ _ h => h) (Or.inl ⟨by rfl, ?_⟩) (by assumption) ?_
  rotate_left
  · intro w hSw; (try dsimp only at hSw); go_simp; try (with_reducible rfl)
  try simp only [Act.put, List.setIfInBounds_toArray, List.set_cons_zero, List.set_cons_succ]
  refine wpAnyH_take (i := 34) (oi := _) (v := ?_) (take_list rfl) (by kernel_rfl) (by kernel_rfl) (by kernel_rfl) (fun _ _ _ h => h) (Or.inl ⟨by rfl, ?_⟩) (by assumption) ?_
  rotate_left
  · intro w hSw; (try dsimp only at hSw); go_simp; try (with_reducible rfl)
  try simp only [Act.put, List.setIfInBounds_toArray, List.set_cons_zero, List.set_cons_succ]
  refine wpAnyH_take (i := 35) (oi := _) (v := ?_) (take_list rfl) (by kernel_rfl) (by kernel_rfl) (by kernel_rfl) (fun _ _ _ h => h) (Or.inl ⟨by rfl, ?_⟩) (by assumption) ?_
  rotate_left
  · intro w hSw; (try dsimp only at hSw); go_simp; try (with_reducible rfl)
  try simp only [Act.put, List.setIfInBounds_toArray, List.set_cons_zero, List.set_cons_succ]
  refine wpAnyH_take (i := 36) (oi := _) (v := ?_) (take_list rfl) (by kernel_rfl) (by kernel_rfl) (by kernel_rfl) (fun _ _ _ h => h) (Or.inl ⟨by rfl, ?_⟩) (by assumption) ?_
  rotate_left
  · intro w hSw; (try dsimp only at hSw); go_simp; try (with_reducible rfl)
  try simp only [Act.put, List.setIfInBounds_toArray, List.set_cons_zero, List.set_cons_succ]
  refine wpAnyH_take (i := 37) (oi := _) (v := ?_) (take_list rfl) (by kernel_rfl) (by kernel_rfl) (by kernel_rfl) (fun _ _ _ h => h) (Or.inl ⟨by rfl, ?_⟩) (by assumption) ?_
  rotate_left
  · intro w hSw; (try dsimp only at hSw); go_simp; try (with_reducible rfl)
  try simp only [Act.put, List.setIfInBounds_toArray, List.set_cons_zero, List.set_cons_succ]
  refine wpAnyH_take (i := 38) (oi := _) (v := ?_) (take_list rfl) (by kernel_rfl) (by kernel_rfl) (by kernel_rfl) (fun _ _ _ h => h) (Or.inl ⟨by rfl, ?_⟩) (by assumption) ?_
  rotate_left
  · intro w hSw; (try dsimp only at hSw); go_simp; try (with_reducible rfl)
  try simp only [Act.put, List.setIfInBounds_toArray, List.set_cons_zero, List.set_cons_succ]
  refine wpAnyH_take (i := 39) (oi := _) (v := ?_) (take_list rfl) (by kernel_rfl) (by kernel_rfl) (by kernel_rfl) (fun _ _ _ h => h) (Or.inl ⟨by rfl, ?_⟩) (by assumption) ?_
  rotate_left
  · intro w hSw; (try dsimp only at hSw); go_simp; try (with_reducible rfl)
  try simp only [Act.put, List.setIfInBounds_toArray, List.set_cons_zero, List.set_cons_succ]
  refine wpAnyH_take (i := 40) (oi := _) (v := ?_) (take_list rfl) (by kernel_rfl) (by kernel_rfl) (by kernel_rfl) (fun _ _ _ h => h) (Or.inl ⟨by rfl, ?_⟩) (by assumption) ?_
  rotate_left
  · intro w hSw; (try dsimp only at hSw); go_simp; try (with_reducible rfl)
  try simp only [Act.put, List.setIfInBounds_toArray, List.set_cons_zero, List.set_cons_succ]
  refine wpAnyH_take (i := 41) (oi := _) (v := ?_) (take_list rfl) (by kernel_rfl) (by kernel_rfl) (by kernel_rfl) (fun _ _ _ h => h) (Or.inl ⟨by rfl, ?_⟩) (by assumption) ?_
  rotate_left
  · intro w hSw; (try dsimp only at hSw); go_simp; try (with_reducible rfl)
  try simp only [Act.put, List.setIfInBounds_toArray, List.set_cons_zero, List.set_cons_succ]
  refine wpAnyH_take (i := 42) (oi := _) (v := ?_) (take_list rfl) (by kernel_rfl) (by kernel_rfl) (by kernel_rfl) (fun _ _ _ h => h) (Or.inl ⟨by rfl, ?_⟩) (by assumption) ?_
  rotate_left
  · intro w hSw; (try dsimp only at hSw); go_simp; try (with_reducible rfl)
  try simp only [Act.put, List.setIfInBounds_toArray, List.set_cons_zero, List.set_cons_succ]
  refine wpAnyH_take (i := 43) (oi := _) (v := ?_) (take_list rfl) (by kernel_rfl) (by kernel_rfl) (by kernel_rfl) (fun _ _ _ h => h) (Or.inl ⟨by rfl, ?_⟩) (by assumption) ?_
  rotate_left
  · intro w hSw; (try dsimp only at hSw); go_simp; try (with_reducible rfl)
  try simp only [Act.put, List.setIfInBounds_toArray, List.set_cons_zero, List.set_cons_succ]
  refine wpAnyH_take (i := 44) (oi := _) (v := ?_) (take_list rfl) (by kernel_rfl) (by kernel_rfl) (by kernel_rfl) (fun _ _ _ h => h) (Or.inl ⟨by rfl, ?_⟩) (by assumption) ?_
  rotate_left
  · intro w hSw; (try dsimp only at hSw); go_simp; try (with_reducible rfl)
  try simp only [Act.put, List.setIfInBounds_toArray, List.set_cons_zero, List.set_cons_succ]
  refine wpAnyH_ready (rs := [45]) (by kernel_rfl) (by simp) ?_
  refine AllReadyH.cons (take_list rfl) (fun K hK => ?_) ?_
  go_simp
  (first
      | (go_at_call 13; (with_reducible refine (qs.out _ hB0.out).mono ?_); rintro e w10 ⟨rfl, hb10⟩; replace hB0 := hid (sn hB0.out hb10))
      | (go_at_call 9; (with_reducible refine (qe.out _).mono ?_); rintro e w11 ⟨rfl, hb11⟩; replace hB0 := hid (sn hB0.out hb11))
      | (go_at_call 8; (with_reducible refine (qf.out _).mono ?_); rintro e w12 ⟨b12, c12, rfl, hb12, hcv⟩; have hcv12 := hcv _ (Below.refl _ _); replace hcv := hid hcv; replace hB0 := hid (sn hB0.out hb12); replace hK := held_switch hK (S' := fun W => (Sem.run Tryz.prog (load36 ⟨bA, oA, none⟩) W = .ok Cx W ∧ Sem.run Tryz.prog (load36 ⟨k2, 0, none⟩) W = .ok C W ∧ W.cell? ⟨bO, oO, none⟩ = some (.slice ae le ce) ∧ (convert 29 9 (.slice ae le ce)).run Tryz.prog W = .ok (.string st) W) ∧ (convert 29 9 (.slice (some ⟨b12, 0, none⟩) fl c12)).run Tryz.prog W = .ok (.string st) W) (fun W h => h.1); have hBc := hid (Below.refl w12.heap.size w12))
      | (go_at_call 12; (with_reducible refine (qc.out _ hB0.out).mono ?_); rintro e w13 ⟨rfl, rfl⟩)
      | (go_at_call 11; (with_reducible refine (qo.out _ hB0.out).mono ?_); rintro e w14 ⟨v14, rfl, hv14, hb14⟩; obtain ⟨a14, c14, rfl, _⟩ := hv14.form; replace hB0 := hid (sn hB0.out hb14); replace hBc := hid (sn hBc.out hb14)))
  go_wp2_with fail
  refine hK.out _ _ ?_ (fun hHeld4 => ?_)
  · try dsimp only
    (first | exact ⟨lx.out _ hB0.out, lm.out _ hB0.out, lo.out _ hB0.out, lc.out _ hB0.out⟩ | exact ⟨⟨lx.out _ hB0.out, lm.out _ hB0.out, lo.out _ hB0.out, lc.out _ hB0.out⟩, hcv.out _ hBc.out⟩)
  clear hK K hHeld3
  try simp only [Act.put, List.setIfInBounds_toArray, List.set_cons_zero, List.set_cons_succ]
  refine wpAnyH_take (i := 46) (oi := _) (v := ?_) (take_list rfl) (by kernel_rfl) (by kernel_rfl) (by kernel_rfl) (fun _ _ _ h => h) (Or.inl ⟨by rfl, ?_⟩) (by assumption) ?_
  rotate_left
  · intro w hSw; (try dsimp only at hSw); go_simp; try (with_reducible rfl)
  try simp only [Act.put, List.setIfInBounds_toArray, List.set_cons_zero, List.set_cons_succ]
  refine wpAnyH_take (i := 47) (oi := _) (v := ?_) (take_list rfl) (by kernel_rfl) (by kernel_rfl) (by kernel_rfl) (fun _ _ _ h => h) (Or.inl ⟨by rfl, ?_⟩) (by assumption) ?_
  rotate_left
  · intro w hSw; (try dsimp only at hSw); go_simp; try (with_reducible rfl)
  try simp only [Act.put, List.setIfInBounds_toArray, List.set_cons_zero, List.set_cons_succ]
  refine wpAnyH_take (i := 48) (oi := _) (v := ?_) (take_list rfl) (by kernel_rfl) (by kernel_rfl) (by kernel_rfl) (fun _ _ _ h => h) (Or.inl ⟨by rfl, ?_⟩) (by assumption) ?_
  rotate_left
  · intro w hSw; (try dsimp only at hSw); go_simp; try (with_reducible rfl)
  try simp only [Act.put, List.setIfInBounds_toArray, List.set_cons_zero, List.set_cons_succ]
  refine wpAnyH_ready (rs := [49]) (by kernel_rfl) (by simp) ?_
  refine AllReadyH.cons (take_list rfl) (fun K hK => ?_) ?_
  go_simp
  (first
      | (go_at_call 13; (with_reducible refine (qs.out _ hB0.out).mono ?_); rintro e w10 ⟨rfl, hb10⟩; replace hB0 := hid (sn hB0.out hb10))
      | (go_at_call 9; (with_reducible refine (qe.out _).mono ?_); rintro e w11 ⟨rfl, hb11⟩; replace hB0 := hid (sn hB0.out hb11))
      | (go_at_call 8; (with_reducible refine (qf.out _).mono ?_); rintro e w12 ⟨b12, c12, rfl, hb12, hcv⟩; have hcv12 := hcv _ (Below.refl _ _); replace hcv := hid hcv; replace hB0 := hid (sn hB0.out hb12); replace hK := held_switch hK (S' := fun W => (Sem.run Tryz.prog (load36 ⟨bA, oA, none⟩) W = .ok Cx W ∧ Sem.run Tryz.prog (load36 ⟨k2, 0, none⟩) W = .ok C W ∧ W.cell? ⟨bO, oO, none⟩ = some (.slice ae le ce) ∧ (convert 29 9 (.slice ae le ce)).run Tryz.prog W = .ok (.string st) W) ∧ (convert 29 9 (.slice (some ⟨b12, 0, none⟩) fl c12)).run Tryz.prog W = .ok (.string st) W) (fun W h => h.1); have hBc := hid (Below.refl w12.heap.size w12))
      | (go_at_call 12; (with_reducible refine (qc.out _ hB0.out).mono ?_); rintro e w13 ⟨rfl, rfl⟩)
      | (go_at_call 11; (with_reducible refine (qo.out _ hB0.out).mono ?_); rintro e w14 ⟨v14, rfl, hv14, hb14⟩; obtain ⟨a14, c14, rfl, _⟩ := hv14.form; replace hB0 := hid (sn hB0.out hb14); replace hBc := hid (sn hBc.out hb14)))
  go_wp2_with fail
  refine hK.out _ _ ?_ (fun hHeld5 => ?_)
  · try dsimp only
    (first | exact ⟨lx.out _ hB0.out, lm.out _ hB0.out, lo.out _ hB0.out, lc.out _ hB0.out⟩ | exact ⟨⟨lx.out _ hB0.out, lm.out _ hB0.out, lo.out _ hB0.out, lc.out _ hB0.out⟩, hcv.out _ hBc.out⟩)
  clear hK K hHeld4
  try simp only [Act.put, List.setIfInBounds_toArray, List.set_cons_zero, List.set_cons_succ]
  refine wpAnyH_take (i := 50) (oi := _) (v := ?_) (take_list rfl) (by kernel_rfl) (by kernel_rfl) (by kernel_rfl) (fun _ _ _ h => h) (Or.inl ⟨by rfl, ?_⟩) (by assumption) ?_
  rotate_left
  · intro w hSw; (try dsimp only at hSw); go_simp; try (with_reducible rfl)
  try simp only [Act.put, List.setIfInBounds_toArray, List.set_cons_zero, List.set_cons_succ]
  refine wpAnyH_take (i := 51) (oi := _) (v := ?_) (take_list rfl) (by kernel_rfl) (by kernel_rfl) (by kernel_rfl) (fun _ _ _ h => h) (Or.inl ⟨by rfl, ?_⟩) (by assumption) ?_
  rotate_left
  · intro w hSw; (try dsimp only at hSw); go_simp; try (with_reducible rfl)
  try simp only [Act.put, List.setIfInBounds_toArray, List.set_cons_zero, List.set_cons_succ]
  refine wpAnyH_take (i := 52) (oi := _) (v := ?_) (take_list rfl) (by kernel_rfl) (by kernel_rfl) (by kernel_rfl) (fun _ _ _ h => h) (Or.inl ⟨by rfl, ?_⟩) (by assumption) ?_
  rotate_left
  · intro w hSw; (try dsimp only at hSw); go_simp; try (with_reducible rfl)
  try simp only [Act.put, List.setIfInBounds_toArray, List.set_cons_zero, List.set_cons_succ]
  refine wpAnyH_take (i := 53) (oi := _) (v := ?_) (take_list rfl) (by kernel_rfl) (by kernel_rfl) (by kernel_rfl) (fun _ _ _ h => h) (Or.inl ⟨by rfl, ?_⟩) (by assumption) ?_
  rotate_left
  · intro w hSw; (try dsimp only at hSw); go_simp; try (with_reducible rfl)
  try simp only [Act.put, List.setIfInBounds_toArray, List.set_cons_zero]
  refine wpAnyH_done (by kernel_rfl) ?_ _
  rotate_left
  exact AllReadyH.nil
  exact AllReadyH.nil
  exact AllReadyH.nil
  exact AllReadyH.nil
  exact AllReadyH.nil
  go_wp2_with fail
  go_ret
  exact ⟨rfl, sn hBf.out hB0.out⟩
end
end Go.Proofs.YtcbglcebdkpcfaaGreat

namespace Go.Proofs.YtcbglcebdkpcfaaGreat
section
open Go.RowKit
set_option maxRecDepth 100000
set_option linter.unusedVariables false

def CluP (w : World) (n : Nat) (tv : Value) (xs : List Nat) (t : Nat) (e : Ending) (w' : World) : Prop :=
  ∃ va ka ca vo ko co hv' tv', e = .returned (.tuple #[.slice va ka ca, .slice vo ko co]) ∧ ka = (if (askF xs t).1 = 0 then 1 else 0) ∧ ko = (if (askF xs t).1 = 0 then 0 else 1) ∧
    ((askF xs t).1 ≠ 0 → OutsAt w' (.slice vo ko co) [frmB (errM t (askF xs t).1).bytes] w.heap.size (offV tv')) ∧
    RoadS w' n hv' tv' [] false (askF xs t).2 false ∧ (∀ j, j < w.heap.size → tv.ownBlock ≠ some j → tv'.ownBlock ≠ some j) ∧ Oth (fun j => (j = n ∨ j = n + 1 ∨ j = n + 2) ∨ tv.ownBlock = some j) w w'
theorem feed_clunk {w : World} {n : Nat} {hv tv v : Value} {xs : List Nat} {t : Nat} (h : RoadS w n hv tv [] false xs false) (hx : xs.length ≤ 32) (ht : t < 65536) (hb : BytesAt w v (frmB (clunkM 120 t 0).bytes)) :
    Calls Tryz.prog 7 #[.pointer (some ⟨n + 2, 0, none⟩), v, .int .i64 1000] w (CluP w n tv xs t) := by
  have hlen := clunk_len t 0
  have hf : feedF 1000 (([] ++ frmB (clunkM 120 t 0).bytes).length + 1) ([] ++ frmB (clunkM 120 t 0).bytes) = ([(clunkM 120 t 0).bytes], some []) := by
    rw [List.nil_append]; exact feed_frame (by omega) (by omega) (by omega)
  have hfl : (frmB (clunkM 120 t 0).bytes).length = 11 := by simp [frmB, numBytes_length, hlen]
  obtain ⟨h1, h2⟩ := clunk_body xs t ht
  have h3 := (clunk_is t ht).2.2.2.2
  refine (cfeed_any w n hv tv v [] (frmB (clunkM 120 t 0).bytes) xs 1000 h hx hb (by rw [hfl]; decide) (by omega)).mono ?_
  intro e w' hP
  obtain ⟨va, vo, hv', tv', rfl, hM, hO, hR, hrow, ho⟩ := cfeed_post hP hf (A := if (askF xs t).1 = 0 then [decM (clunkM 120 t 0).bytes] else []) (B := if (askF xs t).1 = 0 then [] else [frmB (errM t (askF xs t).1).bytes]) (xs' := (askF xs t).2)
    (by simp only [asksB, ask1, h1, List.append_nil]) (by simp only [outsB, out1, h1, h3, List.append_nil]) (by simp only [tagsB, List.foldl_cons, List.foldl_nil, h2])
  obtain ⟨_, hm, _⟩ := id hM
  obtain ⟨_, ax, cx, rfl, _⟩ := hm
  obtain ⟨_, hm, _⟩ := id hO
  obtain ⟨_, ay, cy, rfl, _⟩ := hm
  refine ⟨ax, _, cx, ay, _, cy, hv', tv', rfl, ?_, ?_, ?_, hR, hrow, ho⟩
  · split <;> rfl
  · split <;> rfl
  · intro h0
    rw [if_neg h0] at hO ⊢
    exact hO
theorem framed_clunk (t : Nat) (ht : t < 65536) (Z : World) : Calls Tryz.prog 8 #[.agg ((clunkM 120 t 0).cells (.slice none 0 0) (.slice none 0 0) (.slice none 0 0))] Z fun e w' => ∃ v, e = .returned v ∧ BytesAt w' v (frmB (clunkM 120 t 0).bytes) ∧ Below Z.heap.size Z w' :=
  (lframed_any ⟨clunkM 120 t 0, .slice none 0 0, .slice none 0 0, .slice none 0 0⟩ Z ⟨RowAt.nil, RowAt.nil, RowAt.nil⟩ (clunk_ok (by omega) ht (by omega)) (clunk_few _ _ _) (clunk_bytes t 0).1 (by rw [clunk_len]; omega)).mono fun e w' ⟨v, h1, h2, h3⟩ => ⟨v, h1, h2.at, h3⟩
theorem askF_next {i : Nat} (h : i < 32) : askF (List.range i) i = (0, List.range (i + 1)) := by
  unfold askF
  rw [if_neg (by simp), if_neg (by simp; omega), List.range_succ]
theorem askF_full {i : Nat} (h : 32 ≤ i) : askF (List.range 32) i = (14, List.range 32) := by
  unfold askF
  rw [if_neg (by simp; omega), if_pos (by simp)]
theorem askF_again {k : Nat} (h : k < 32) : askF (List.range 32) k = (16, List.range 32) := by
  unfold askF
  rw [if_pos (by simp; omega)]
theorem done_len {k : Nat} (h : k < 32) : (doneF (List.range 32) k).length = 31 ∧ k ∉ doneF (List.range 32) k := by
  have : ∀ k : Fin 32, (doneF (List.range 32) k.val).length = 31 := by decide
  refine ⟨this ⟨k, h⟩, ?_⟩
  unfold doneF
  simp
theorem askF_back {k : Nat} (h : k < 32) : (askF (doneF (List.range 32) k) k).1 = 0 ∧ (askF (doneF (List.range 32) k) k).2.length = 32 := by
  obtain ⟨h1, h2⟩ := done_len h
  unfold askF
  rw [if_neg h2, if_neg (by omega)]
  exact ⟨rfl, by simp [h1]⟩
end
end Go.Proofs.YtcbglcebdkpcfaaGreat
