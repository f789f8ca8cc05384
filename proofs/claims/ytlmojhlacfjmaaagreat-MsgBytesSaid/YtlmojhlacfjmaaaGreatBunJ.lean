/- Which types are known and which ask; what is deferred in msg. No condition.
What msg.Encode returns, for any message whose texts are not too long. Conditions: texts of at most a thousand bytes each. -/
import Derived.Test.YtlmojhlacfjmaaaGreatBunY
import Derived.Test.YtlmojhlacfjmaaaGreatBunE
namespace Go.Proofs.YtlmojhlacfjmaaaGreat
section
open Go.RowKit
set_option maxRecDepth 100000
set_option linter.unusedVariables false

theorem known_any (t : Nat) (w : World) (ht : t < 256) : Calls Tryz.prog 17 #[.int .u8 (t : Int)] w fun e w' => e = .returned (.bool (knownT t)) ∧ w = w' := by
 by_cases h1 : 100 ≤ t
 ·by_cases h2 : t ≤ 127
  ·have hk : Hid (knownT t = decide (t ≠ 106)) := hid (by unfold knownT; simp [h1, h2])
   go_enter Tryz.func17, Tryz.ntmps17
   go_wp2
   all_goals
    go_ret
    rw [hk.out]
    refine ⟨ret_bool ?_, rfl⟩
    first | omega | (simp; omega) | (by_cases h : t = 106 <;> simp [h] <;> omega)
  ·have hk : Hid (knownT t = false) := hid (by unfold knownT; simp [h2])
   go_enter Tryz.func17, Tryz.ntmps17
   go_wp2
   all_goals
    go_ret
    rw [hk.out]
    exact ⟨rfl, rfl⟩
 ·have hk : Hid (knownT t = false) := hid (by unfold knownT; simp [h1])
  go_enter Tryz.func17, Tryz.ntmps17
  go_wp2
  all_goals
   go_ret
   rw [hk.out]
   exact ⟨rfl, rfl⟩

theorem mcaught_panicking (k : Nat) (e0 : Int) (e : Nat) (w : World) (h : w.heap[k]? = some (.cells #[.int .i64 e0] 36 (0, 0))) :
  CallsD Tryz.prog 20 #[.pointer (some ⟨k, 0, none⟩)] (.panicking (errChain e)) w fun en u' w' =>
   en = .returned (.tuple #[]) ∧ u' = .panicking (errChainR e) ∧ w' = w.setCell ⟨k, 0, none⟩ (.int .i64 (e : Int)) := by
 have hc1 : w.cell? ⟨k, 0, none⟩ = some (.int .i64 e0) := block_cell h 0
 have hf1 : w.frozen? ⟨k, 0, none⟩ = false := block_free h 0
 clear h
 have hta := assert_errno
 refine callsD_of_wpS Tryz.func20 rfl fun c₀ cs hu => ?_
 apply wpS_seq
 apply wpS_region
 simp [wpOpsS, go_sem, recoverD, hu, errChain, Tryz.ntmps20, Exit.thenS, Array.replicate_succ]
 apply wpS_body
 go_wp2
 go_end0
 exact ⟨rfl, rfl, rfl⟩
theorem mcaught_idle (k : Nat) (w : World) :
  CallsD Tryz.prog 20 #[.pointer (some ⟨k, 0, none⟩)] .returning w fun en u' w' => en = .returned (.tuple #[]) ∧ u' = .returning ∧ w = w' := by
 refine callsD_of_wpS Tryz.func20 rfl fun c₀ cs hu => ?_
 apply wpS_seq
 apply wpS_region
 simp [wpOpsS, go_sem, recoverD, hu, Tryz.ntmps20, Exit.thenS, Array.replicate_succ]
 rw [show c₀ = { c₀ with mode := .returning } from by cases c₀; simp_all]
 apply wpS_body
 go_wp2
 go_end0
 exact ⟨rfl, rfl⟩
end
end Go.Proofs.YtlmojhlacfjmaaaGreat

namespace Go.Proofs.YtlmojhlacfjmaaaGreat
section
open Go.RowKit
set_option maxRecDepth 100000
set_option linter.unusedVariables false

def M.err (m : M) : Nat := if knownT m.ty then (outs m (slots m.ty)).1 else 2
def M.bytes (m : M) : List UInt8 := if m.err = 0 then numBytes m.ty 1 ++ numBytes m.tag 2 ++ (outs m (slots m.ty)).2 else []
def EncM (w : World) (m : M) (e : Ending) (w' : World) : Prop := ∃ v', e = .returned (.tuple #[v', .int .i64 (m.err : Int)]) ∧ (BytesAt w' v' m.bytes ∧ ∀ k, v'.ownBlock = some k → w.heap.size ≤ k) ∧ Below w.heap.size w w'

theorem outs_len {m : M} (hf : MFew m) : ∀ ss : List Slot, (outs m ss).1 = 0 → (outs m ss).2.length ≤ 20000 * ss.length
 | [], _ => by simp [outs]
 | s :: ss, h => by
  by_cases he : (s.o m).1 = 0
  ·rw [outs_ok he] at h ⊢
   have := outs_len hf ss h
   have := slot_len hf s he
   simp only [List.length_append, List.length_cons] at *
   omega
  ·rw [outs_bad he] at h
   exact absurd h he
theorem slots_four (t : Nat) : (slots t).length ≤ 4 := by
 unfold slots; split <;> simp

theorem enc_results {tmps : Array Value} {w : World} {k : Nat} {v : Value} {e : Int} (h2 : tmps.getD 2 undef = v) (h4 : tmps.getD 3 undef = .pointer (some ⟨k, 0, none⟩))
  (hk : w.cell? ⟨k, 0, none⟩ = some (.int .i64 e)) : (results Tryz.f8 tmps).run Tryz.prog w = .ok (.tuple #[v, .int .i64 e]) w := by
 have h2' : tmps[2]?.getD undef = v := by simpa using h2
 have h4' : tmps[3]?.getD undef = .pointer (some ⟨k, 0, none⟩) := by simpa using h4
 have hkv : (loadVar 36 ⟨k, 0, none⟩).run Tryz.prog w = .ok (.int .i64 e) w := by simp [go_sem, hk]
 simp [results, Tryz.results8, h2', h4', asAddr, hkv]

set_option maxHeartbeats 1600000 in
theorem mencode_any (m : M) (vN vQ vD : Value) (w : World) (hm : MOk m) (hf : MFew m) (hN : StrsAt w vN m.names) (hQ : QidsAt w vQ m.qids) (hD : BytesAt w vD m.data) :
  Calls Tryz.prog 8 #[.agg (m.cells vN vQ vD)] w (EncM w m) := by
 obtain ⟨cs, hcs⟩ : ∃ cs, cs = m.cells vN vQ vD := ⟨_, rfl⟩
 have hlt : m.ty < 256 := hm.ty
 have hx0 : cs[0]? = some (.int .u8 (m.ty : Int)) := by rw [hcs]; rfl
 have hb0 := ((Below.refl w.heap.size w).alloc (Nat.le_refl _) (.cells cs 33)).alloc (by simp) (.cells #[.int .i64 0] 36)
 have hkn := hid (fun W => known_any m.ty W hlt)
 by_cases hk : knownT m.ty = true
 case neg =>
  have hE : Hid (m.err = 2) := hid (by unfold M.err; rw [if_neg hk])
  have hk2 : knownT m.ty = false := by simpa using hk
  rw [← hcs]
  replace hcs := hid hcs
  rw [hk2] at hkn
  clear hk hk2
  go_enter_defers Tryz.func8, Tryz.ntmps8
  go_wp2_with fail
  refine (hkn.out _).mono ?_
  rintro e w1 ⟨rfl, rfl⟩
  go_wp2_with fail
  simp only [bodyPostD, Leaves]
  refine ⟨_, enc_results rfl rfl (block_cell (heap2 _ _ _) 0), .slice none 0 0, by rw [hE.out]; rfl, ⟨?_, fun k hk => by cases hk⟩, ((Below.refl w.heap.size w).alloc (Nat.le_refl _) _).alloc (by simp) _⟩
  rw [show m.bytes = [] from by unfold M.bytes; rw [hE.out]; rfl]
  exact RowAt.nil
 have hE : Hid (m.err = (outs m (slots m.ty)).1) := hid (by unfold M.err; rw [if_pos hk])
 have hkk := hid hk
 rw [hk] at hkn
 rw [← hcs]
 replace hcs := hid hcs
 clear hk
 have hbb := hb0.alloc (by simp; omega) (.cells #[.slice none 0 0] 64)
 obtain ⟨W0, hW0⟩ : ∃ W, W = ((w.alloc (.cells cs 33)).alloc (.cells #[.int .i64 0] 36)).alloc (.cells #[.slice none 0 0] 64) := ⟨_, rfl⟩
 have hq0 : W0.heap[w.heap.size]? = some (.cells cs 33 (0, 0)) := by rw [hW0, heap_alloc_old _ _ (by simp; omega), heap_alloc_old _ _ (by simp), heap_alloc_new]
 have hb2 : W0.heap[w.heap.size + 1 + 1]? = some (.cells #[.slice none 0 0] 64 (0, 0)) := by rw [hW0]; exact heap3 _ _ _ _
 have he1 : W0.heap[w.heap.size + 1]? = some (.cells #[.int .i64 0] 36 (0, 0)) := by rw [hW0, heap_alloc_old _ _ (by simp)]; exact heap2 _ _ _
 rw [← hW0] at hbb
 have hnofoot : ∀ k, k < w.heap.size + 1 + 1 → ¬ Foot W0 (w.heap.size + 1 + 1) k := by
  rintro k hk (rfl | ⟨u, hu, hk2⟩)
  ·omega
  ·rw [block_cell hb2 0] at hu
   cases hu
   cases hk2
 have st0 : OA W0 W0 (w.heap.size + 1 + 1) w.heap.size m vN vQ vD [] :=
  ⟨⟨_, _, hb2, World.ownsRow_nil _ _ _ _⟩, by rw [hq0, hcs.out], hnofoot _ (by omega), RowAt.below hN hbb, fun k hk => hnofoot k (by have := RowAt.blk hN hk; omega), RowAt.below hQ hbb, fun k hk => hnofoot k (by have := RowAt.blk hQ hk; omega),
   RowAt.below hD hbb, fun k hk => hnofoot k (by have := RowAt.blk hD hk; omega), OStep.refl _ _⟩
 have hty := hid (out_u8_any (w.heap.size + 1 + 1) w.heap.size 0 m.ty [] W0 (by omega) (by simp) st0.out st0.foot (st0.cell 0))
 replace hm := hid hm
 replace hf := hid hf
 clear hN hQ hD hq0 hb2 hnofoot
 go_enter_defers Tryz.func8, Tryz.ntmps8
 go_wp2_with fail
 refine (hkn.out _).mono ?_
 rintro e w1 ⟨rfl, rfl⟩
 go_wp2_with fail
 rw [← hW0]
 refine hty.out.mono ?_
 rintro e w1 ⟨rfl, ho1, hs1⟩
 have st1 := st0.step ho1 hs1
 clear hs1 ho1
 replace hW0 := hid hW0
 replace he1 := hid he1
 go_wp2_with fail
 refine (out_u16_any _ _ 1 m.tag _ _ hm.out.tag (by simp [numBytes_length]) st1.out st1.foot (st1.cell 1)).mono ?_
 rintro e w2 ⟨rfl, ho2, hs2⟩
 have st2 := st1.step ho2 hs2
 clear hs2 ho2 st1
 go_wp2_with fail
 refine (out_fields_any _ _ m vN vQ vD _ W0 _ st2 hm.out hf.out (by simp [numBytes_length]) hkk.out).mono ?_
 rintro e w3 (⟨h1, rfl, st3⟩ | ⟨h1, rfl, hs3⟩)
 ·have hlen := outs_len hf.out _ h1
  have h4 := slots_four m.ty
  replace h1 := hid h1
  clear st2
  go_wp2_with fail
  refine (out_bytes_new _ _ _ ?_ st3.out).mono ?_
  ·simp [numBytes_length]; omega
  rintro e w4 ⟨v4, rfl, ⟨hv4, hnew4⟩, hb4⟩
  have he3 := (st3.st.below.block (w.heap.size + 1) (by omega)).trans he1.out
  have he4 := (hb4.block (w.heap.size + 1) (lt_of_block he3)).trans he3
  have hsz3 : w.heap.size ≤ w3.heap.size := by have := lt_of_block he3; omega
  have hbB := hid (hbb.trans ((st3.st.below.mono (B' := w.heap.size) (by omega)).trans (hb4.mono hsz3)))
  have ce : w4.cell? ⟨w.heap.size + 1, 0, none⟩ = some (.int .i64 0) := block_cell he4 0
  have fe : w4.frozen? ⟨w.heap.size + 1, 0, none⟩ = false := block_free he4 0
  obtain ⟨a4, c4, rfl, _, _, _⟩ := hv4.form
  have hv5 := hid (hv4.setCell (p := ⟨w.heap.size + 1, 0, none⟩) (.int .i64 0) (fun e => by have h9 : w3.heap.size ≤ w.heap.size + 1 := hnew4 _ e; have := lt_of_block he3; omega))
  have hnew5 : Hid (∀ k, (Value.slice a4 ([] ++ numBytes m.ty 1 ++ numBytes m.tag 2 ++ (outs m (slots m.ty)).2).length c4).ownBlock = some k → w.heap.size ≤ k) := hid fun k hk => Nat.le_trans hsz3 (hnew4 k hk)
  have he0 : Hid (m.err = 0) := hid (by rw [hE.out, h1.out])
  have hby : Hid (m.bytes = [] ++ numBytes m.ty 1 ++ numBytes m.tag 2 ++ (outs m (slots m.ty)).2) := hid (by unfold M.bytes; rw [if_pos he0.out]; rfl)
  replace he4 := hid he4
  clear st3 hv4 hnew4 hb4 he3
  generalize ([] ++ numBytes m.ty 1 ++ numBytes m.tag 2 ++ (outs m (slots m.ty)).2) = ys at *
  go_wp2_with fail
  refine leaves_cons (f := 20) (args := #[.pointer (some ⟨w.heap.size + 1, 0, none⟩)]) (by simp) (by simp [go_sem]) ?_
  refine (mcaught_idle (w.heap.size + 1) _).mono ?_
  rintro en u' w'' ⟨rfl, rfl, rfl⟩
  simp only [settle]
  refine ⟨_, enc_results rfl rfl (block_cell (block_set he4.out 0 _) 0), _, by rw [he0.out]; rfl, ⟨?_, hnew5.out⟩, hbB.out.setCell (by simp) _⟩
  rw [hby.out]; exact hv5.out
 ·have he3 := (hs3.below.block (w.heap.size + 1) (by omega)).trans he1.out
  have hbB := hid (hbb.trans (hs3.below.mono (B' := w.heap.size) (by omega)))
  have he0 : Hid (m.err = (outs m (slots m.ty)).1) := hE
  replace he3 := hid he3
  clear st2 hs3
  generalize (outs m (slots m.ty)).1 = er at *
  replace h1 := hid h1
  go_wp2_with fail
  refine leaves_cons (f := 20) (args := #[.pointer (some ⟨w.heap.size + 1, 0, none⟩)]) (by simp) (by simp [go_sem]) ?_
  refine (mcaught_panicking (w.heap.size + 1) 0 er _ he3.out).mono ?_
  rintro en u' w'' ⟨rfl, rfl, rfl⟩
  simp only [settle, errChainR]
  refine ⟨_, enc_results rfl rfl (block_cell (block_set he3.out 0 _) 0), _, by rw [he0.out], ⟨?_, fun k hk => by cases hk⟩, hbB.out.setCell (by simp) _⟩
  rw [show m.bytes = [] from by unfold M.bytes; rw [if_neg (by rw [he0.out]; exact h1.out)]]
  exact RowAt.nil
end
end Go.Proofs.YtlmojhlacfjmaaaGreat
