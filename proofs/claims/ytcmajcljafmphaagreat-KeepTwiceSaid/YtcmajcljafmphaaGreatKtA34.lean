/- Unlink of package tree. Conditions: what TrOk asks. And the texts behind it. -/
import Derived.Test.YtcmajcljafmphaaGreatKtA11
import Derived.Test.YtcmajcljafmphaaGreatKtA33
import Derived.Test.YtcmajcljafmphaaGreatKtA12
import Derived.Test.YtcmajcljafmphaaGreatKtA06
import Derived.Test.YtcmajcljafmphaaGreatKtA26
import Derived.Test.YtcmajcljafmphaaGreatKtA13
namespace Go.Proofs.YtcmajcljafmphaaGreat
section
open Go.RowKit
set_option maxRecDepth 100000
set_option linter.unusedVariables false
end
end Go.Proofs.YtcmajcljafmphaaGreat

namespace Go.Proofs.YtcmajcljafmphaaGreat
section
set_option maxRecDepth 100000
set_option linter.unusedVariables false
variable {V : ByteArray → Bool}

def Nods (l : List Nod) : Prop := ∀ n ∈ l, NodOk n
theorem Nods.set {l : List Nod} (h : Nods l) {y : Nod} (hy : NodOk y) : Nods (setL l y) := fun n hn => by
  rcases mem_setL.1 hn with e | ⟨h1, _⟩
  · rw [e]; exact hy
  · exact h n h1
theorem NodOk.touch {x : Nod} (h : NodOk x) {who : ByteArray} {now : Nat} (hw : who.size ≤ maxLen) (hn : now < 4294967296) : NodOk (touchN x who now) :=
  ⟨h.path, by show (x.vers + 1) % 4294967296 < _; omega, h.mode, h.atm, hn, h.name, h.uid, h.gid, hw, h.up, h.data⟩
theorem NodOk.gone {x : Nod} (h : NodOk x) : NodOk (goneN x) := ⟨h.path, h.vers, h.mode, h.atm, h.mtm, h.name, h.uid, h.gid, h.muid, by show 0 < _; omega, h.data⟩
structure GoodV (V : ByteArray → Bool) (t : Tr) : Prop where
  ok : OkV V t
  nod : Nods t.n
  next : t.next < 9223372036854775808
abbrev Good := GoodV validB
theorem GoodV.tr {t : Tr} (h : GoodV V t) : TrOk t.n :=
  ⟨h.ok.sort, by have := h.ok.few; omega, h.nod, fun n hn => (h.ok.low n hn).1, fun n hn => by have := h.ok.len n hn; omega⟩
theorem root_sort (uid : ByteArray) (now : Nat) : SortL [rootN uid now] := List.pairwise_singleton _ _
theorem root_dir (uid : ByteArray) (now : Nat) : dirB (rootN uid now) = true := by show (!decide ((2147484157 : Nat) &&& 2147483648 = 0)) = true; decide
theorem root_bits (uid : ByteArray) (now : Nat) : bitsB (rootN uid now).mode = true := by show bitsB 2147484157 = true; decide
theorem root_byt (uid : ByteArray) (now : Nat) : bytesL [rootN uid now] = 0 := by rfl
theorem root_name (uid : ByteArray) (now : Nat) : (rootN uid now).name.size ≤ maxLen := by show (1 : Nat) ≤ maxLen; unfold maxLen; omega
theorem root_nod (uid : ByteArray) (now : Nat) (h1 : uid.size ≤ maxLen) (hn : now < 4294967296) : NodOk (rootN uid now) :=
  ⟨by show (1 : Nat) < _; omega, by show (0 : Nat) < _; omega, by show (2147484157 : Nat) < _; omega, hn, hn, root_name uid now, h1, h1, h1, by show (1 : Nat) < _; omega, Nat.zero_le _⟩
theorem root_ok (uid : ByteArray) (now : Nat) (hu : V uid = true) : OkV V ⟨2, [rootN uid now]⟩ where
  sort := root_sort uid now
  root := ⟨rootN uid now, List.mem_singleton.2 rfl, rfl, root_dir uid now, rfl, rfl, rfl⟩
  low n hn := by rw [List.mem_singleton.1 hn]; exact ⟨Nat.le_refl 1, Nat.lt_succ_self 1⟩
  bits n hn := by rw [List.mem_singleton.1 hn]; exact root_bits uid now
  empt n hn _ := by rw [List.mem_singleton.1 hn]; rfl
  nam n hn h := by rw [List.mem_singleton.1 hn] at h; exact absurd rfl h
  ids n hn := by rw [List.mem_singleton.1 hn]; exact ⟨hu, hu, hu⟩
  len n hn := by rw [List.mem_singleton.1 hn]; exact Nat.zero_le _
  gon n hn h := by rw [List.mem_singleton.1 hn] at h; cases h
  par n hn _ := ⟨rootN uid now, List.mem_singleton.2 rfl, by rw [List.mem_singleton.1 hn]; rfl, root_dir uid now, rfl⟩
  uniq a ha b hb d _ _ _ := by rw [List.mem_singleton.1 ha, List.mem_singleton.1 hb]
  few := by simp
  byt := by rw [root_byt uid now]; omega
  way n hn _ := by rw [List.mem_singleton.1 hn]; exact .root
end
end Go.Proofs.YtcmajcljafmphaaGreat

namespace Go.Proofs.YtcmajcljafmphaaGreat
section
open Go.RowKit
set_option maxRecDepth 100000
set_option linter.unusedVariables false
end
end Go.Proofs.YtcmajcljafmphaaGreat

namespace Go.Proofs.YtcmajcljafmphaaGreat
section
open Go.RowKit
set_option maxRecDepth 100000
set_option linter.unusedVariables false

theorem nnod_ncmp2 (x y : Nod) (W : World) : (binOp .neq 68 (.agg x.cells) (.agg y.cells)).run Tryz.prog W = .ok (.bool (!eqN x y)) W := by
  have h1 : Tryz.prog.underlying 68 = some (.struct (Tryz.prog.fieldsOf 68)) := by kernel_rfl
  have h2 : Tryz.prog.stoodInHeld 68 = false := by kernel_rfl
  have h5 := Tryz.underlying4
  have h7 := Tryz.underlying35
  have h8 := Tryz.underlying30
  have h9 := Tryz.underlying9
  rw [run_neq_struct, run_equalIn_agg W _ _ _ _ h1 h2]
  have g2 := Tryz.underlying68
  clear h1
  by_cases h : eqN x y = true
  · obtain rfl := eqN_iff.1 h
    rw [h]
    simp [go_sem, h5, h7, h8, h9, g2, Nod.cells]
  · rw [Bool.eq_false_iff.2 h]
    simp [go_sem, h5, h7, h8, h9, g2, Nod.cells]
    have hx : x.path = y.path → x.vers = y.vers → x.mode = y.mode → x.atm = y.atm → x.mtm = y.mtm → x.name.toList = y.name.toList → x.uid.toList = y.uid.toList → x.gid.toList = y.gid.toList → x.muid.toList = y.muid.toList → x.up = y.up → x.gone = y.gone → x.data.toList = y.data.toList → False :=
      fun a1 a2 a3 a4 a5 a6 a7 a8 a9 a10 a11 a12 => h (decide_eq_true ⟨a1, a2, a3, a4, a5, toListInj a6, toListInj a7, toListInj a8, toListInj a9, a10, a11, toListInj a12⟩)
    clear h2 h5 h7 h8 h9 g2 h
    intro a1 a2 a3 a4 a5 a6 a7 a8 a9 a10 a11 a12
    exact hx (by omega) (by omega) (by omega) (by omega) (by omega) a6 a7 a8 a9 (by omega) a11 a12

noncomputable def ops_eq6 : Array Oper := match Tryz.f39.body with | some c => (allOps' c).getD 6 #[] | none => #[]
theorem size_eq6 : ops_eq6.size = 9 := by kernel_rfl
set_option maxHeartbeats 4000000 in
theorem eq6_all {w1 : World} {b f c b2 f2 c2 k N1 N2 : Nat} {n p : Nod} (hN1 : N1 ≤ 1000) (hN2 : N2 ≤ 1000) (hk1 : k < N1) (hk2 : k < N2) (hr1 : w1.rangeAt b (f + k * 12) n.cells.toList) (hr2 : w1.rangeAt b2 (f2 + k * 12) p.cells.toList)  {v2 v3 v4 v6 v7 v8 v9 v10 v11 v12 v13 : Value} {Q : Exit → Act → World → Prop} {a : Act} {w : World} (hQ : ∀ d u c a w, Q (.panic c) (a.put d u) w → Q (.panic c) a w) (hF : FrL 26 [(0, .slice (some ⟨b, f, none⟩) N1 c), (1, .slice (some ⟨b2, f2, none⟩) N2 c2), (5, .int .i64 ((k : Nat) : Int)), (2, v2), (3, v3), (4, v4), (6, v6), (7, v7), (8, v8), (9, v9), (10, v10), (11, v11), (12, v12), (13, v13)] a) (hS : (fun w' => w' = w1) w) (hE : ∀ a w', FrL 26 ((24, .bool (!eqN n p)) :: [(0, .slice (some ⟨b, f, none⟩) N1 c), (1, .slice (some ⟨b2, f2, none⟩) N2 c2), (5, .int .i64 ((k : Nat) : Int)), (2, v2), (3, v3), (4, v4), (6, v6), (7, v7), (8, v8), (9, v9), (10, v10), (11, v11), (12, v12), (13, v13)]) a → (fun w' => w' = w1) w' → Q .normal a w') : wpAnyH Tryz.prog .any ops_eq6 Q ((fun w' => w' = w1)) 9 (Array.replicate 9 false) a w := by
  refine hst (i := 0) (o := ops_eq6[0]'(show 0 < ops_eq6.size by rw [size_eq6]; decide)) hF 16 true (.slice (some ⟨b, f, none⟩) N1 c) (Array.getElem?_eq_getElem (show 0 < ops_eq6.size by rw [size_eq6]; decide)) (by kernel_rfl) (by decide) (by kernel_rfl) (by kernel_rfl) (by kernel_rfl) (hQ _ _) (want_n (by kernel_rfl)) (fun hW w hS => rrun_move (x := .tmp 0) (.inl (by kernel_rfl)) (hF.ev 0 (.slice (some ⟨b, f, none⟩) N1 c) rfl)) hS (fun a hF => ?_)
  rw [show cond true (.slice (some ⟨b, f, none⟩) N1 c) undef = .slice (some ⟨b, f, none⟩) N1 c from rfl] at hF
  refine hst (i := 1) (o := ops_eq6[1]'(show 1 < ops_eq6.size by rw [size_eq6]; decide)) hF 17 true (.int .i64 ((k : Nat) : Int)) (Array.getElem?_eq_getElem (show 1 < ops_eq6.size by rw [size_eq6]; decide)) (by kernel_rfl) (by decide) (by kernel_rfl) (by kernel_rfl) (by kernel_rfl) (hQ _ _) (want_n (by kernel_rfl)) (fun hW w hS => rrun_move (x := .tmp 5) (.inl (by kernel_rfl)) (hF.ev 5 (.int .i64 ((k : Nat) : Int)) rfl)) hS (fun a hF => ?_)
  rw [show cond true (.int .i64 ((k : Nat) : Int)) undef = .int .i64 ((k : Nat) : Int) from rfl] at hF
  refine hst (i := 2) (o := ops_eq6[2]'(show 2 < ops_eq6.size by rw [size_eq6]; decide)) hF 18 true (ptr b (f + k * 12)) (Array.getElem?_eq_getElem (show 2 < ops_eq6.size by rw [size_eq6]; decide)) (by kernel_rfl) (by decide) (by kernel_rfl) (by kernel_rfl) (by kernel_rfl) (hQ _ _) (want_n (by kernel_rfl)) (fun hW w hS => rrun_idx 12 (ty := 31) (x := .tmp 16) (y := .tmp 17) (by kernel_rfl) (hF.ev 16 (.slice (some ⟨b, f, none⟩) N1 c) rfl) (hF.ev 17 (.int .i64 ((k : Nat) : Int)) rfl) hk1 (ridx_nodP _ _ _ _ _ hk1 (by omega) w)) hS (fun a hF => ?_)
  rw [show cond true (ptr b (f + k * 12)) undef = ptr b (f + k * 12) from rfl] at hF
  refine hst (i := 3) (o := ops_eq6[3]'(show 3 < ops_eq6.size by rw [size_eq6]; decide)) hF 19 true (.agg n.cells) (Array.getElem?_eq_getElem (show 3 < ops_eq6.size by rw [size_eq6]; decide)) (by kernel_rfl) (by decide) (by kernel_rfl) (by kernel_rfl) (by kernel_rfl) (hQ _ _) (want_n (by kernel_rfl)) (fun hW w hS => rrun_load (ty := 68) (x := .tmp 18) (by kernel_rfl) (hF.ev 18 (ptr b (f + k * 12)) rfl) (rld_nnode (by rw [show w = w1 from hS]; exact hr1))) hS (fun a hF => ?_)
  rw [show cond true (.agg n.cells) undef = .agg n.cells from rfl] at hF
  refine hst (i := 4) (o := ops_eq6[4]'(show 4 < ops_eq6.size by rw [size_eq6]; decide)) hF 20 true (.slice (some ⟨b2, f2, none⟩) N2 c2) (Array.getElem?_eq_getElem (show 4 < ops_eq6.size by rw [size_eq6]; decide)) (by kernel_rfl) (by decide) (by kernel_rfl) (by kernel_rfl) (by kernel_rfl) (hQ _ _) (want_n (by kernel_rfl)) (fun hW w hS => rrun_move (x := .tmp 1) (.inl (by kernel_rfl)) (hF.ev 1 (.slice (some ⟨b2, f2, none⟩) N2 c2) rfl)) hS (fun a hF => ?_)
  rw [show cond true (.slice (some ⟨b2, f2, none⟩) N2 c2) undef = .slice (some ⟨b2, f2, none⟩) N2 c2 from rfl] at hF
  refine hst (i := 5) (o := ops_eq6[5]'(show 5 < ops_eq6.size by rw [size_eq6]; decide)) hF 21 true (.int .i64 ((k : Nat) : Int)) (Array.getElem?_eq_getElem (show 5 < ops_eq6.size by rw [size_eq6]; decide)) (by kernel_rfl) (by decide) (by kernel_rfl) (by kernel_rfl) (by kernel_rfl) (hQ _ _) (want_n (by kernel_rfl)) (fun hW w hS => rrun_move (x := .tmp 5) (.inl (by kernel_rfl)) (hF.ev 5 (.int .i64 ((k : Nat) : Int)) rfl)) hS (fun a hF => ?_)
  rw [show cond true (.int .i64 ((k : Nat) : Int)) undef = .int .i64 ((k : Nat) : Int) from rfl] at hF
  refine hst (i := 6) (o := ops_eq6[6]'(show 6 < ops_eq6.size by rw [size_eq6]; decide)) hF 22 true (ptr b2 (f2 + k * 12)) (Array.getElem?_eq_getElem (show 6 < ops_eq6.size by rw [size_eq6]; decide)) (by kernel_rfl) (by decide) (by kernel_rfl) (by kernel_rfl) (by kernel_rfl) (hQ _ _) (want_n (by kernel_rfl)) (fun hW w hS => rrun_idx 12 (ty := 31) (x := .tmp 20) (y := .tmp 21) (by kernel_rfl) (hF.ev 20 (.slice (some ⟨b2, f2, none⟩) N2 c2) rfl) (hF.ev 21 (.int .i64 ((k : Nat) : Int)) rfl) hk2 (ridx_nodP _ _ _ _ _ hk2 (by omega) w)) hS (fun a hF => ?_)
  rw [show cond true (ptr b2 (f2 + k * 12)) undef = ptr b2 (f2 + k * 12) from rfl] at hF
  refine hst (i := 7) (o := ops_eq6[7]'(show 7 < ops_eq6.size by rw [size_eq6]; decide)) hF 23 true (.agg p.cells) (Array.getElem?_eq_getElem (show 7 < ops_eq6.size by rw [size_eq6]; decide)) (by kernel_rfl) (by decide) (by kernel_rfl) (by kernel_rfl) (by kernel_rfl) (hQ _ _) (want_n (by kernel_rfl)) (fun hW w hS => rrun_load (ty := 68) (x := .tmp 22) (by kernel_rfl) (hF.ev 22 (ptr b2 (f2 + k * 12)) rfl) (rld_nnode (by rw [show w = w1 from hS]; exact hr2))) hS (fun a hF => ?_)
  rw [show cond true (.agg p.cells) undef = .agg p.cells from rfl] at hF
  refine hst (i := 8) (o := ops_eq6[8]'(show 8 < ops_eq6.size by rw [size_eq6]; decide)) hF 24 true (.bool (!eqN n p)) (Array.getElem?_eq_getElem (show 8 < ops_eq6.size by rw [size_eq6]; decide)) (by kernel_rfl) (by decide) (by kernel_rfl) (by kernel_rfl) (by kernel_rfl) (hQ _ _) (want_n (by kernel_rfl)) (fun hW w hS => rrun_bin (op := .neq) (ty := 68) (ty2 := 68) (x := .tmp 19) (y := .tmp 23) (u := .agg n.cells) (v := .agg p.cells) (by kernel_rfl) (hF.ev 19 (.agg n.cells) rfl) (hF.ev 23 (.agg p.cells) rfl) (by kernel_rfl) (nnod_ncmp2 n p w)) hS (fun a hF => ?_)
  rw [show cond true (.bool (!eqN n p)) undef = .bool (!eqN n p) from rfl] at hF
  exact wpAnyH_done (by kernel_rfl) (hE _ _ (hF.sub ((24, .bool (!eqN n p)) :: [(0, .slice (some ⟨b, f, none⟩) N1 c), (1, .slice (some ⟨b2, f2, none⟩) N2 c2), (5, .int .i64 ((k : Nat) : Int)), (2, v2), (3, v3), (4, v4), (6, v6), (7, v7), (8, v8), (9, v9), (10, v10), (11, v11), (12, v12), (13, v13)]) ⟨rfl, rfl, rfl, rfl, rfl, rfl, rfl, rfl, rfl, rfl, rfl, rfl, rfl, rfl, rfl, trivial⟩) hS) _
end
end Go.Proofs.YtcmajcljafmphaaGreat
