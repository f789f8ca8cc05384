/- Whether all is so already that may not change (perm.still). Conditions: numbers in their types. -/
import Derived.Test.YtonhliipbdniiaaPm5
import Derived.Test.YtonhliipbdniiaaPmO
import Derived.Laws.CopyOwn
import Derived.Deep.DeepCutAuto
import Derived.BigGuard
namespace Go.Proofs.Ytonhliipbdniiaa
open Go.RowKit
set_option maxRecDepth 100000
set_option linter.unusedVariables false

/-- A whole struct that is stored into a variable of its own. -/
theorem run_cells_row {P : Program} (w : World) (k : Nat) (cs old : Array Value) (t : TypeId) (h : w.heap[k]? = some (.cells old t (0, 0))) (hs : cs.size = old.size) (h1 : ∀ v ∈ cs.toList, v.oneCell' = true) :
    Sem.run P (storeCells ⟨k, 0, none⟩ cs.toList) w = .ok () (w.setRow k cs) := by
  have := run_storeCells_from (P := P) k t cs.toList 0 old w h (by simp [hs]) h1
  simpa using this
theorem keep_one : ∀ v ∈ keepS.cells.toList, v.oneCell' = true := by
  intro v hv
  simp [keepS, Stat.cells] at hv
  rcases hv with rfl | rfl | rfl | rfl | rfl | rfl | rfl | rfl <;> rfl
theorem qidC_one (n : Nod) : ∀ v ∈ (qidC n).toList, v.oneCell' = true := by
  intro v hv
  simp [qidC] at hv
  rcases hv with rfl | rfl | rfl <;> rfl

def askN (v k i : Nat) : Bool := decide (v ≠ k) && decide (v ≠ i)
def askS (v k i : ByteArray) : Bool := decide (v ≠ k) && decide (v ≠ i)
/-- Is all so already that may not change? -/
def stillB (n : Nod) (s : Stat) : Bool := !askN s.kind 65535 0 && !askN s.dev 4294967295 0 && !askN s.qt 255 (typeN n.mode) && !askN s.qv 4294967295 n.vers && !askN s.qp 18446744073709551615 n.path && !askN s.atm 4294967295 n.atm && !askS s.uid ⟨#[]⟩ n.uid && !askS s.muid ⟨#[]⟩ n.muid

/-- The variables behind the calls. -/
structure StMid (w wx : World) (n : Nod) (s : Stat) (k5 k6 : Nat) : Prop where
  box5 : wx.heap[k5]? = some (.cells keepS.cells 50 (0, 0))
  box6 : wx.heap[k6]? = some (.cells (qidC n) 48 (0, 0))
  nod : wx.heap[w.heap.size]? = some (.cells n.cells 27 (0, 0))
  sta : wx.heap[w.heap.size + 1]? = some (.cells s.cells 50 (0, 0))
  bel : Below w.heap.size w wx

def zero13 : Array Value := #[.int .u16 0, .int .u32 0, .int .u8 0, .int .u32 0, .int .u64 0, .int .u32 0, .int .u32 0, .int .u32 0, .int .u64 0, .string ⟨#[]⟩, .string ⟨#[]⟩, .string ⟨#[]⟩, .string ⟨#[]⟩]
theorem st_mid {w W wa : World} {n : Nod} {s : Stat} {k5 k6 : Nat} (hx : W.heap[w.heap.size]? = some (.cells n.cells 27 (0, 0))) (hy : W.heap[w.heap.size + 1]? = some (.cells s.cells 50 (0, 0)))
    (hb0 : Below w.heap.size w W) (hb : Below W.heap.size W wa) (h5 : wa.heap[k5]? = some (.cells zero13 50 (0, 0))) (h6 : wa.heap[k6]? = some (.cells #[.int .u8 0, .int .u32 0, .int .u64 0] 48 (0, 0))) (h56 : k5 ≠ k6) (l5 : W.heap.size ≤ k5) (l6 : W.heap.size ≤ k6) :
    StMid w ((wa.setRow k5 keepS.cells).setRow k6 (qidC n)) n s k5 k6 := by
  have hbb : Below W.heap.size W ((wa.setRow k5 keepS.cells).setRow k6 (qidC n)) := below_setRow (below_setRow hb l5 _) l6 _
  have q5 := setRow_heap wa k5 _ keepS.cells _ _ h5
  have q6 := setRow_heap (wa.setRow k5 keepS.cells) k6 _ (qidC n) _ _ ((setRow_other wa k5 k6 keepS.cells (fun e => h56 e.symm)).trans h6)
  exact ⟨(setRow_other _ k6 k5 _ h56).trans q5, q6, (hbb.block _ (lt_of_block hx)).trans hx, (hbb.block _ (lt_of_block hy)).trans hy, sn hb0 hbb⟩

theorem heap_drew' (X : World) : X.drew.heap = X.heap := rfl
theorem nodS {n : Nod} {X : World} {k : Nat} {T : TypeId} {fr : Nat × Nat} (h : X.heap[k]? = some (.cells n.cells T fr)) : X.cell? ⟨k, 0, none⟩ = some (.int .u64 (n.path : Int)) ∧ X.cell? ⟨k, 1, none⟩ = some (.int .u32 (n.vers : Int)) ∧ X.cell? ⟨k, 2, none⟩ = some (.int .u32 (n.mode : Int)) ∧ X.cell? ⟨k, 3, none⟩ = some (.int .u32 (n.atm : Int)) ∧ X.cell? ⟨k, 4, none⟩ = some (.int .u32 (n.mtm : Int)) ∧ X.cell? ⟨k, 5, none⟩ = some (.string n.name) ∧ X.cell? ⟨k, 6, none⟩ = some (.string n.uid) ∧ X.cell? ⟨k, 7, none⟩ = some (.string n.gid) ∧ X.cell? ⟨k, 8, none⟩ = some (.string n.muid) ∧ X.cell? ⟨k, 9, none⟩ = some (.int .u64 (n.up : Int)) ∧ X.cell? ⟨k, 10, none⟩ = some (.bool n.gone) ∧ X.cell? ⟨k, 11, none⟩ = some (.string n.data) :=
  ⟨block_cell h 0, block_cell h 1, block_cell h 2, block_cell h 3, block_cell h 4, block_cell h 5, block_cell h 6, block_cell h 7, block_cell h 8, block_cell h 9, block_cell h 10, block_cell h 11⟩

set_option maxHeartbeats 3200000 in
theorem still_any (n : Nod) (s : Stat) (w : World) (hn : NodOk n) (hs : StatOk s) :
    Calls Try.prog 45 #[.agg n.cells, .agg s.cells] w fun e w' => e = .returned (.bool (stillB n s)) ∧ Below w.heap.size w w' := by
  obtain ⟨W, hW⟩ : ∃ W, W = (w.alloc (.cells n.cells 27)).alloc (.cells s.cells 50) := ⟨_, rfl⟩
  have hx : W.heap[w.heap.size]? = some (.cells n.cells 27 (0, 0)) := by rw [hW, heap_alloc_old _ _ (by simp), heap_alloc_new]
  have hy : W.heap[w.heap.size + 1]? = some (.cells s.cells 50 (0, 0)) := by rw [hW]; exact heap2 _ _ _
  have hb0 : Below w.heap.size w W := by rw [hW]; exact ((Below.refl w.heap.size w).alloc (Nat.le_refl _) _).alloc (by simp) _
  have hnq := hid (fun W => nqid_any n W hn)
  have hx' := hid hx
  have hy' := hid hy
  rw [nod_cells] at hnq hx hW ⊢
  have hz0 : w.heap.size + 1 < W.heap.size := lt_of_block hy
  simp only [Stat.cells] at hW ⊢
  replace hx := hid hx
  replace hy := hid hy
  replace hb0 := hid hb0
  replace hn := hid hn
  replace hs := hid hs
  go_enter Try.func45, Try.ntmps45
  go_upto_region 1 with (rw [← hW]; replace hW := hid hW)
  try (rw [← hW]; replace hW := hid hW)
  go_cut [5, 6] (fun s5 s6 wx => ∃ k5 k6 : Nat, s5 = .pointer (some ⟨k5, 0, none⟩) ∧ s6 = .pointer (some ⟨k6, 0, none⟩) ∧ Hid (StMid w wx n s k5 k6))
  case first =>
    go_region_held3 (fun w' => w'.cell? ⟨w.heap.size, 0, none⟩ = some (.int .u64 (n.path : Int)) ∧ w'.cell? ⟨w.heap.size, 1, none⟩ = some (.int .u32 (n.vers : Int)) ∧ w'.cell? ⟨w.heap.size, 2, none⟩ = some (.int .u32 (n.mode : Int)) ∧ w'.cell? ⟨w.heap.size, 3, none⟩ = some (.int .u32 (n.atm : Int)) ∧ w'.cell? ⟨w.heap.size, 4, none⟩ = some (.int .u32 (n.mtm : Int)) ∧ w'.cell? ⟨w.heap.size, 5, none⟩ = some (.string n.name) ∧ w'.cell? ⟨w.heap.size, 6, none⟩ = some (.string n.uid) ∧ w'.cell? ⟨w.heap.size, 7, none⟩ = some (.string n.gid) ∧ w'.cell? ⟨w.heap.size, 8, none⟩ = some (.string n.muid) ∧ w'.cell? ⟨w.heap.size, 9, none⟩ = some (.int .u64 (n.up : Int)) ∧ w'.cell? ⟨w.heap.size, 10, none⟩ = some (.bool n.gone) ∧ w'.cell? ⟨w.heap.size, 11, none⟩ = some (.string n.data))
      ((refine nodS (n := n) (T := 27) (fr := (0, 0)) ?_; (repeat (first | exact hx'.out | rw [heap_drew'] | exact heap_alloc_new _ _ | exact heap2 _ _ _ | rw [heap_alloc_old _ _ (by first | omega | (simp; done) | (simp; omega))] | rw [hb2.block _ (by first | omega | (simp; done) | (simp; omega))] | rw [hb1.block _ (by first | omega | (simp; done) | (simp; omega))] | rw [setRow_other _ _ _ _ (by first | omega | (simp; done) | (simp; omega))]))))
      (first | ((go_at_call 24; (with_reducible refine (keep_any _).mono ?_); rintro e w1 ⟨rfl, hb1⟩; have z1 := hb1.size; (try simp at z1))) | ((go_at_call 70; (with_reducible refine (hnq.out _).mono ?_); rintro e w2 ⟨rfl, hb2⟩; have z2 := hb2.size; (try simp at z2))) | (rw [run_cells_row _ _ keepS.cells zero13 50 ?hq rfl keep_one]; case hq => ((repeat (first | exact hx'.out | rw [heap_drew'] | exact heap_alloc_new _ _ | exact heap2 _ _ _ | rw [heap_alloc_old _ _ (by first | omega | (simp; done) | (simp; omega))] | rw [hb2.block _ (by first | omega | (simp; done) | (simp; omega))] | rw [hb1.block _ (by first | omega | (simp; done) | (simp; omega))] | rw [setRow_other _ _ _ _ (by first | omega | (simp; done) | (simp; omega))])))) | (rw [run_cells_row _ _ (qidC n) #[.int .u8 0, .int .u32 0, .int .u64 0] 48 ?hq rfl (qidC_one n)]; case hq => ((repeat (first | exact hx'.out | rw [heap_drew'] | exact heap_alloc_new _ _ | exact heap2 _ _ _ | rw [heap_alloc_old _ _ (by first | omega | (simp; done) | (simp; omega))] | rw [hb2.block _ (by first | omega | (simp; done) | (simp; omega))] | rw [hb1.block _ (by first | omega | (simp; done) | (simp; omega))] | rw [setRow_other _ _ _ _ (by first | omega | (simp; done) | (simp; omega))])))))
    all_goals (go_wp2_with fail; go_meet; refine ⟨_, _, rfl, rfl, hid (st_mid hx'.out hy'.out hb0.out ?_ ?_ ?_ ?_ ?_ ?_)⟩)
    all_goals first | omega | ((repeat (first | exact Below.refl _ _ | (refine Below.drew ?_) | (refine Below.trans ?_ (hb2.mono (by first | omega | (simp; done) | (simp; omega)))) | (refine Below.trans ?_ (hb1.mono (by first | omega | (simp; done) | (simp; omega)))) | (refine Below.alloc ?_ (by first | omega | (simp; done) | (simp; omega)) _))); done) | ((repeat (first | exact hx'.out | rw [heap_drew'] | exact heap_alloc_new _ _ | exact heap2 _ _ _ | rw [heap_alloc_old _ _ (by first | omega | (simp; done) | (simp; omega))] | rw [hb2.block _ (by first | omega | (simp; done) | (simp; omega))] | rw [hb1.block _ (by first | omega | (simp; done) | (simp; omega))] | rw [setRow_other _ _ _ _ (by first | omega | (simp; done) | (simp; omega))])); done)
  case rest =>
    obtain ⟨k5, k6, rfl, rfl, hM⟩ := hcut
    obtain ⟨x5, x6, xn, xs, xb⟩ := hM.out
    have e0 : wc.cell? ⟨k5, 0, none⟩ = some (.int .u16 65535) := block_cell x5 0
    have e1 : wc.cell? ⟨k5, 1, none⟩ = some (.int .u32 4294967295) := block_cell x5 1
    have e2 : wc.cell? ⟨k5, 2, none⟩ = some (.int .u8 255) := block_cell x5 2
    have e3 : wc.cell? ⟨k5, 3, none⟩ = some (.int .u32 4294967295) := block_cell x5 3
    have e4 : wc.cell? ⟨k5, 4, none⟩ = some (.int .u64 18446744073709551615) := block_cell x5 4
    have e6 : wc.cell? ⟨k5, 6, none⟩ = some (.int .u32 4294967295) := block_cell x5 6
    have e10 : wc.cell? ⟨k5, 10, none⟩ = some (.string ⟨#[]⟩) := block_cell x5 10
    have e12 : wc.cell? ⟨k5, 12, none⟩ = some (.string ⟨#[]⟩) := block_cell x5 12
    have g0 : wc.cell? ⟨k6, 0, none⟩ = some (.int .u8 (typeN n.mode : Int)) := block_cell x6 0
    have g1 : wc.cell? ⟨k6, 1, none⟩ = some (.int .u32 (n.vers : Int)) := block_cell x6 1
    have g2 : wc.cell? ⟨k6, 2, none⟩ = some (.int .u64 (n.path : Int)) := block_cell x6 2
    have d3 : wc.cell? ⟨w.heap.size, 3, none⟩ = some (.int .u32 (n.atm : Int)) := block_cell xn 3
    have d6 : wc.cell? ⟨w.heap.size, 6, none⟩ = some (.string n.uid) := block_cell xn 6
    have d8 : wc.cell? ⟨w.heap.size, 8, none⟩ = some (.string n.muid) := block_cell xn 8
    have s0 : wc.cell? ⟨w.heap.size + 1, 0, none⟩ = some (.int .u16 (s.kind : Int)) := block_cell xs 0
    have s1 : wc.cell? ⟨w.heap.size + 1, 1, none⟩ = some (.int .u32 (s.dev : Int)) := block_cell xs 1
    have s2 : wc.cell? ⟨w.heap.size + 1, 2, none⟩ = some (.int .u8 (s.qt : Int)) := block_cell xs 2
    have s3 : wc.cell? ⟨w.heap.size + 1, 3, none⟩ = some (.int .u32 (s.qv : Int)) := block_cell xs 3
    have s4 : wc.cell? ⟨w.heap.size + 1, 4, none⟩ = some (.int .u64 (s.qp : Int)) := block_cell xs 4
    have s6 : wc.cell? ⟨w.heap.size + 1, 6, none⟩ = some (.int .u32 (s.atm : Int)) := block_cell xs 6
    have s10 : wc.cell? ⟨w.heap.size + 1, 10, none⟩ = some (.string s.uid) := block_cell xs 10
    have s12 : wc.cell? ⟨w.heap.size + 1, 12, none⟩ = some (.string s.muid) := block_cell xs 12
    replace xb := hid xb
    clear x5 x6 xn xs hM
    obtain ⟨b1, a1⟩ : ∃ b, b = askN s.kind 65535 0 := ⟨_, rfl⟩
    obtain ⟨b2, a2⟩ : ∃ b, b = askN s.dev 4294967295 0 := ⟨_, rfl⟩
    obtain ⟨b3, a3⟩ : ∃ b, b = askN s.qt 255 (typeN n.mode) := ⟨_, rfl⟩
    obtain ⟨b4, a4⟩ : ∃ b, b = askN s.qv 4294967295 n.vers := ⟨_, rfl⟩
    obtain ⟨b5, a5⟩ : ∃ b, b = askN s.qp 18446744073709551615 n.path := ⟨_, rfl⟩
    obtain ⟨b6, a6⟩ : ∃ b, b = askN s.atm 4294967295 n.atm := ⟨_, rfl⟩
    obtain ⟨b7, a7⟩ : ∃ b, b = askS s.uid ⟨#[]⟩ n.uid := ⟨_, rfl⟩
    obtain ⟨b8, a8⟩ : ∃ b, b = askS s.muid ⟨#[]⟩ n.muid := ⟨_, rfl⟩
    have hE : Hid (stillB n s = (!b1 && !b2 && !b3 && !b4 && !b5 && !b6 && !b7 && !b8)) := hid (by rw [a1, a2, a3, a4, a5, a6, a7, a8]; rfl)
    have h1 : Hid (∀ W, Calls Try.prog 71 #[.int .u16 (s.kind : Int), .int .u16 65535, .int .u16 0] W fun e w' => e = .returned (.bool b1) ∧ w' = W) := hid (fun W => by rw [a1]; exact asks_u16 s.kind 65535 0 W)
    have h2 : Hid (∀ W, Calls Try.prog 72 #[.int .u32 (s.dev : Int), .int .u32 4294967295, .int .u32 0] W fun e w' => e = .returned (.bool b2) ∧ w' = W) := hid (fun W => by rw [a2]; exact asks_u32 s.dev 4294967295 0 W)
    have h3 : Hid (∀ W, Calls Try.prog 73 #[.int .u8 (s.qt : Int), .int .u8 255, .int .u8 (typeN n.mode : Int)] W fun e w' => e = .returned (.bool b3) ∧ w' = W) := hid (fun W => by rw [a3]; exact asks_u8 s.qt 255 (typeN n.mode) W)
    have h4 : Hid (∀ W, Calls Try.prog 72 #[.int .u32 (s.qv : Int), .int .u32 4294967295, .int .u32 (n.vers : Int)] W fun e w' => e = .returned (.bool b4) ∧ w' = W) := hid (fun W => by rw [a4]; exact asks_u32 s.qv 4294967295 n.vers W)
    have h5 : Hid (∀ W, Calls Try.prog 74 #[.int .u64 (s.qp : Int), .int .u64 18446744073709551615, .int .u64 (n.path : Int)] W fun e w' => e = .returned (.bool b5) ∧ w' = W) := hid (fun W => by rw [a5]; exact asks_u64 s.qp 18446744073709551615 n.path W)
    have h6 : Hid (∀ W, Calls Try.prog 72 #[.int .u32 (s.atm : Int), .int .u32 4294967295, .int .u32 (n.atm : Int)] W fun e w' => e = .returned (.bool b6) ∧ w' = W) := hid (fun W => by rw [a6]; exact asks_u32 s.atm 4294967295 n.atm W)
    have h7 : Hid (∀ W, Calls Try.prog 75 #[.string s.uid, .string ⟨#[]⟩, .string n.uid] W fun e w' => e = .returned (.bool b7) ∧ w' = W) := hid (fun W => by rw [a7]; exact asks_str s.uid ⟨#[]⟩ n.uid W)
    have h8 : Hid (∀ W, Calls Try.prog 75 #[.string s.muid, .string ⟨#[]⟩, .string n.muid] W fun e w' => e = .returned (.bool b8) ∧ w' = W) := hid (fun W => by rw [a8]; exact asks_str s.muid ⟨#[]⟩ n.muid W)
    clear a1 a2 a3 a4 a5 a6 a7 a8
    have hcs : b1 = true ∨ b1 = false ∧ (b2 = true ∨ b2 = false ∧ (b3 = true ∨ b3 = false ∧ (b4 = true ∨ b4 = false ∧ (b5 = true ∨ b5 = false ∧ (b6 = true ∨ b6 = false ∧ (b7 = true ∨ b7 = false ∧ (b8 = true ∨ b8 = false))))))) := by
      cases b1 <;> cases b2 <;> cases b3 <;> cases b4 <;> cases b5 <;> cases b6 <;> cases b7 <;> cases b8 <;> simp
    rcases hcs with rfl | ⟨rfl, rfl | ⟨rfl, rfl | ⟨rfl, rfl | ⟨rfl, rfl | ⟨rfl, rfl | ⟨rfl, rfl | ⟨rfl, rfl | rfl⟩⟩⟩⟩⟩⟩⟩
    all_goals
      go_wp2_with fail
      (with_reducible refine (h1.out _).mono ?_); rintro e w1 ⟨rfl, rfl⟩
      simp only []
      go_step
      simp only [List.append_eq, List.cons_append, List.nil_append]
      go_wp2_with (first | (go_at_call 71; (with_reducible refine (h1.out _).mono ?_); rintro e w1 ⟨rfl, rfl⟩) | (go_at_call 72; (with_reducible refine (h2.out _).mono ?_); rintro e w2 ⟨rfl, rfl⟩) | (go_at_call 72; (with_reducible refine (h4.out _).mono ?_); rintro e w4 ⟨rfl, rfl⟩) | (go_at_call 72; (with_reducible refine (h6.out _).mono ?_); rintro e w6 ⟨rfl, rfl⟩) | (go_at_call 73; (with_reducible refine (h3.out _).mono ?_); rintro e w3 ⟨rfl, rfl⟩) | (go_at_call 74; (with_reducible refine (h5.out _).mono ?_); rintro e w5 ⟨rfl, rfl⟩) | (go_at_call 75; (with_reducible refine (h7.out _).mono ?_); rintro e w7 ⟨rfl, rfl⟩) | (go_at_call 75; (with_reducible refine (h8.out _).mono ?_); rintro e w8 ⟨rfl, rfl⟩))
      go_ret
      exact ⟨ret_bool (by rw [hE.out]; simp), xb.out⟩
end Go.Proofs.Ytonhliipbdniiaa
