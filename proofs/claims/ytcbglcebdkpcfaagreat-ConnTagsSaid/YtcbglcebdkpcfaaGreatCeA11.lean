/- What msg.Encode returns, for any message whose texts are not too long. Conditions: texts of at most a thousand bytes each. And the texts behind it. -/
import Derived.Test.YtcbglcebdkpcfaaGreatCeA10
import Derived.Test.YtcbglcebdkpcfaaGreatCeA08
import Derived.Test.YtcbglcebdkpcfaaGreatCeA07
import Derived.Deep.AppendLies
namespace Go.Proofs.YtcbglcebdkpcfaaGreat
section
open Go.RowKit
set_option maxRecDepth 100000
set_option linter.unusedVariables false

def M.err (m : M) : Nat := if knownT m.ty then (outs m (slots m.ty)).1 else 2
def M.bytes (m : M) : List UInt8 := if m.err = 0 then numBytes m.ty 1 ++ numBytes m.tag 2 ++ (outs m (slots m.ty)).2 else []
def EncM (w : World) (m : M) (e : Ending) (w' : World) : Prop := ∃ v', e = .returned (.tuple #[v', .int .i64 (m.err : Int)]) ∧ (BytesAt w' v' m.bytes ∧ ∀ k, v'.ownBlock = some k → w.heap.size ≤ k) ∧ Below w.heap.size w w'

theorem outs_len {m : M} (hf : MFew m) : ∀ ss : List Slot, (outs m ss).1 = 0 → (outs m ss).2.length ≤ 20000 * ss.length
  | [], _ => by simp [outs]
  | s :: ss, h => by
    by_cases he : (s.o m).1 = 0
    · rw [outs_ok he] at h ⊢
      have := outs_len hf ss h
      have := slot_len hf s he
      simp only [List.length_append, List.length_cons] at *
      omega
    · rw [outs_bad he] at h
      exact absurd h he
theorem slots_four (t : Nat) : (slots t).length ≤ 4 := by
  unfold slots; split <;> simp

theorem enc_results {tmps : Array Value} {w : World} {k : Nat} {v : Value} {e : Int} (h2 : tmps.getD 2 undef = v) (h4 : tmps.getD 3 undef = .pointer (some ⟨k, 0, none⟩))
    (hk : w.cell? ⟨k, 0, none⟩ = some (.int .i64 e)) : (results Tryz.f48 tmps).run Tryz.prog w = .ok (.tuple #[v, .int .i64 e]) w := by
  have h2' : tmps[2]?.getD undef = v := by simpa using h2
  have h4' : tmps[3]?.getD undef = .pointer (some ⟨k, 0, none⟩) := by simpa using h4
  have hkv : (loadVar 43 ⟨k, 0, none⟩).run Tryz.prog w = .ok (.int .i64 e) w := by simp [go_sem, hk]
  simp [results, Tryz.results48, h2', h4', asAddr, hkv]

set_option maxHeartbeats 1600000 in
theorem mencode_any (m : M) (vN vQ vD : Value) (w : World) (hm : MOk m) (hf : MFew m) (hN : StrsAt w vN m.names) (hQ : QidsAt w vQ m.qids) (hD : BytesAt w vD m.data) :
    Calls Tryz.prog 48 #[.agg (m.cells vN vQ vD)] w (EncM w m) := by
  obtain ⟨cs, hcs⟩ : ∃ cs, cs = m.cells vN vQ vD := ⟨_, rfl⟩
  have hlt : m.ty < 256 := hm.ty
  have hx0 : cs[0]? = some (.int .u8 (m.ty : Int)) := by rw [hcs]; rfl
  have hb0 := ((Below.refl w.heap.size w).alloc (Nat.le_refl _) (.cells cs 41)).alloc (by simp) (.cells #[.int .i64 0] 43)
  have hkn := hid (fun W => known_any m.ty W hlt)
  by_cases hk : knownT m.ty = true
  case neg =>
    have hE : Hid (m.err = 2) := hid (by unfold M.err; rw [if_neg hk])
    have hk2 : knownT m.ty = false := by simpa using hk
    rw [← hcs]
    replace hcs := hid hcs
    rw [hk2] at hkn
    clear hk hk2
    go_enter_defers Tryz.func48, Tryz.ntmps48
    go_wp2_with fail
    refine (hkn.out _).mono ?_
    rintro e w1 ⟨rfl, rfl⟩
    go_wp2_with fail
    simp only [bodyPostD, Leaves]
    refine ⟨_, enc_results rfl rfl (block_cell (heap2 _ _ _) 0), .slice none 0 0, by rw [hE.out]; rfl, ⟨?_, fun k hk => by cases hk⟩, ((Below.refl w.heap.size w).alloc (Nat.le_refl _) _).alloc (by simp) _⟩
    rw [show m.bytes = [] from by unfold M.bytes; rw [hE.out]; rfl]
    exact RowAt.nil
  have hE : Hid (m.err = (outs m (slots m.ty)).1) := hid (by unfold M.err; rw [if_pos hk])
  have hkk := hid hk
  rw [hk] at hkn
  rw [← hcs]
  replace hcs := hid hcs
  clear hk
  have hbb := hb0.alloc (by simp; omega) (.cells #[.slice none 0 0] 135)
  obtain ⟨W0, hW0⟩ : ∃ W, W = ((w.alloc (.cells cs 41)).alloc (.cells #[.int .i64 0] 43)).alloc (.cells #[.slice none 0 0] 135) := ⟨_, rfl⟩
  have hq0 : W0.heap[w.heap.size]? = some (.cells cs 41 (0, 0)) := by rw [hW0, heap_alloc_old _ _ (by simp; omega), heap_alloc_old _ _ (by simp), heap_alloc_new]
  have hb2 : W0.heap[w.heap.size + 1 + 1]? = some (.cells #[.slice none 0 0] 135 (0, 0)) := by rw [hW0]; exact heap3 _ _ _ _
  have he1 : W0.heap[w.heap.size + 1]? = some (.cells #[.int .i64 0] 43 (0, 0)) := by rw [hW0, heap_alloc_old _ _ (by simp)]; exact heap2 _ _ _
  rw [← hW0] at hbb
  have hnofoot : ∀ k, k < w.heap.size + 1 + 1 → ¬ Foot W0 (w.heap.size + 1 + 1) k := by
    rintro k hk (rfl | ⟨u, hu, hk2⟩)
    · omega
    · rw [block_cell hb2 0] at hu
      cases hu
      cases hk2
  have st0 : OA W0 W0 (w.heap.size + 1 + 1) w.heap.size m vN vQ vD [] :=
    ⟨⟨_, _, hb2, World.ownsRow_nil _ _ _ _⟩, by rw [hq0, hcs.out], hnofoot _ (by omega), RowAt.below hN hbb, fun k hk => hnofoot k (by have := RowAt.blk hN hk; omega), RowAt.below hQ hbb, fun k hk => hnofoot k (by have := RowAt.blk hQ hk; omega),
      RowAt.below hD hbb, fun k hk => hnofoot k (by have := RowAt.blk hD hk; omega), OStep.refl _ _⟩
  have hty := hid (out_u8_any (w.heap.size + 1 + 1) w.heap.size 0 m.ty [] W0 (by omega) (by simp) st0.out st0.foot (st0.cell 0))
  replace hm := hid hm
  replace hf := hid hf
  clear hN hQ hD hq0 hb2 hnofoot
  go_enter_defers Tryz.func48, Tryz.ntmps48
  go_wp2_with fail
  refine (hkn.out _).mono ?_
  rintro e w1 ⟨rfl, rfl⟩
  go_wp2_with fail
  rw [← hW0]
  refine hty.out.mono ?_
  rintro e w1 ⟨rfl, ho1, hs1⟩
  have st1 := st0.step ho1 hs1
  clear hs1 ho1
  replace hW0 := hid hW0
  replace he1 := hid he1
  go_wp2_with fail
  refine (out_u16_any _ _ 1 m.tag _ _ hm.out.tag (by simp [numBytes_length]) st1.out st1.foot (st1.cell 1)).mono ?_
  rintro e w2 ⟨rfl, ho2, hs2⟩
  have st2 := st1.step ho2 hs2
  clear hs2 ho2 st1
  go_wp2_with fail
  refine (out_fields_any _ _ m vN vQ vD _ W0 _ st2 hm.out hf.out (by simp [numBytes_length]) hkk.out).mono ?_
  rintro e w3 (⟨h1, rfl, st3⟩ | ⟨h1, rfl, hs3⟩)
  · have hlen := outs_len hf.out _ h1
    have h4 := slots_four m.ty
    replace h1 := hid h1
    clear st2
    go_wp2_with fail
    refine (out_bytes_new _ _ _ ?_ st3.out).mono ?_
    · simp [numBytes_length]; omega
    rintro e w4 ⟨v4, rfl, ⟨hv4, hnew4⟩, hb4⟩
    have he3 := (st3.st.below.block (w.heap.size + 1) (by omega)).trans he1.out
    have he4 := (hb4.block (w.heap.size + 1) (lt_of_block he3)).trans he3
    have hsz3 : w.heap.size ≤ w3.heap.size := by have := lt_of_block he3; omega
    have hbB := hid (hbb.trans ((st3.st.below.mono (B' := w.heap.size) (by omega)).trans (hb4.mono hsz3)))
    have ce : w4.cell? ⟨w.heap.size + 1, 0, none⟩ = some (.int .i64 0) := block_cell he4 0
    have fe : w4.frozen? ⟨w.heap.size + 1, 0, none⟩ = false := block_free he4 0
    obtain ⟨a4, c4, rfl, _, _, _⟩ := hv4.form
    have hv5 := hid (hv4.setCell (p := ⟨w.heap.size + 1, 0, none⟩) (.int .i64 0) (fun e => by have h9 : w3.heap.size ≤ w.heap.size + 1 := hnew4 _ e; have := lt_of_block he3; omega))
    have hnew5 : Hid (∀ k, (Value.slice a4 ([] ++ numBytes m.ty 1 ++ numBytes m.tag 2 ++ (outs m (slots m.ty)).2).length c4).ownBlock = some k → w.heap.size ≤ k) := hid fun k hk => Nat.le_trans hsz3 (hnew4 k hk)
    have he0 : Hid (m.err = 0) := hid (by rw [hE.out, h1.out])
    have hby : Hid (m.bytes = [] ++ numBytes m.ty 1 ++ numBytes m.tag 2 ++ (outs m (slots m.ty)).2) := hid (by unfold M.bytes; rw [if_pos he0.out]; rfl)
    replace he4 := hid he4
    clear st3 hv4 hnew4 hb4 he3
    generalize ([] ++ numBytes m.ty 1 ++ numBytes m.tag 2 ++ (outs m (slots m.ty)).2) = ys at *
    go_wp2_with fail
    refine leaves_cons (f := 68) (args := #[.pointer (some ⟨w.heap.size + 1, 0, none⟩)]) (by simp) (by simp [go_sem]) ?_
    refine (mcaught_idle (w.heap.size + 1) _).mono ?_
    rintro en u' w'' ⟨rfl, rfl, rfl⟩
    simp only [settle]
    refine ⟨_, enc_results rfl rfl (block_cell (block_set he4.out 0 _) 0), _, by rw [he0.out]; rfl, ⟨?_, hnew5.out⟩, hbB.out.setCell (by simp) _⟩
    rw [hby.out]; exact hv5.out
  · have he3 := (hs3.below.block (w.heap.size + 1) (by omega)).trans he1.out
    have hbB := hid (hbb.trans (hs3.below.mono (B' := w.heap.size) (by omega)))
    have he0 : Hid (m.err = (outs m (slots m.ty)).1) := hE
    replace he3 := hid he3
    clear st2 hs3
    generalize (outs m (slots m.ty)).1 = er at *
    replace h1 := hid h1
    go_wp2_with fail
    refine leaves_cons (f := 68) (args := #[.pointer (some ⟨w.heap.size + 1, 0, none⟩)]) (by simp) (by simp [go_sem]) ?_
    refine (mcaught_panicking (w.heap.size + 1) 0 er _ he3.out).mono ?_
    rintro en u' w'' ⟨rfl, rfl, rfl⟩
    simp only [settle, errChainR]
    refine ⟨_, enc_results rfl rfl (block_cell (block_set he3.out 0 _) 0), _, by rw [he0.out], ⟨?_, fun k hk => by cases hk⟩, hbB.out.setCell (by simp) _⟩
    rw [show m.bytes = [] from by unfold M.bytes; rw [if_neg (by rw [he0.out]; exact h1.out)]]
    exact RowAt.nil
end
end Go.Proofs.YtcbglcebdkpcfaaGreat

namespace Go.Proofs.YtcbglcebdkpcfaaGreat
section
open Go.RowKit
set_option maxRecDepth 100000
set_option linter.unusedVariables false
def daE (p : List UInt8 × Nat) : Nat := if (rd 4 p).2 ≠ 0 then (rd 4 p).2 else if 8192 < tv 4 p then 2 else (rd (tv 4 p) (rd 4 p)).2
def daB (p : List UInt8 × Nat) : List UInt8 := rawL (tv 4 p) (rd 4 p).1 (rd 4 p).2
def daR (p : List UInt8 × Nat) : List UInt8 × Nat := rd (tv 4 p) (rd 4 p)
def InBytes (w : World) (b q i : Nat) (p : List UInt8 × Nat) (l : List UInt8) (e : Ending) (w' : World) : Prop :=
  e = .returned (.tuple #[]) ∧ ∃ v w1, OStep b w w1 ∧ InAt w1 b p ∧ BytesAt w1 v l ∧ (∀ k, v.ownBlock = some k → w.heap.size ≤ k) ∧ w' = w1.setCell ⟨q, i, none⟩ v

set_option maxHeartbeats 1200000 in
theorem in_data_ok (b q i : Nat) (u : Value) (p : List UInt8 × Nat) (w : World) (hl : p.1.length ≤ 1000000000) (h : InAt w b p) (he : daE p = 0) (hf : ¬ Foot w b q) (hc : w.cell? ⟨q, i, none⟩ = some u) (hz : w.frozen? ⟨q, i, none⟩ = false) :
    Calls Tryz.prog 148 #[.agg #[.pointer (some ⟨b, 0, none⟩)], .pointer (some ⟨q, i, none⟩)] w (InBytes w b q i (daR p) (daB p)) := by
  obtain ⟨e1, e2, e3⟩ : (rd 4 p).2 = 0 ∧ tv 4 p ≤ 8192 ∧ (rd (tv 4 p) (rd 4 p)).2 = 0 := by
    unfold daE at he
    by_cases h1 : (rd 4 p).2 = 0
    · by_cases h2 : 8192 < tv 4 p
      · rw [if_neg (by simp [h1]), if_pos h2] at he; omega
      · rw [if_neg (by simp [h1]), if_neg h2] at he; exact ⟨h1, by omega, he⟩
    · rw [if_pos h1] at he; exact absurd he h1
  have hb0 := (Below.refl w.heap.size w).alloc (Nat.le_refl _) (.cells #[.pointer (some ⟨b, 0, none⟩)] 170)
  have ha := h.below hb0
  have st0 := OStep.pure h.lt hb0
  have hnf := hid (h.new (.cells #[.pointer (some ⟨b, 0, none⟩)] 170))
  have hq := hid (heap_alloc_new w (.cells #[.pointer (some ⟨b, 0, none⟩)] 170))
  have hlt := World.block_lt_of_cell? w _ hc
  have hf' := hid hf
  have hnum := hid (fun W (h : InAt W b p) => in_number_ok b 4 p W (by omega) (by omega) hl h e1)
  have hraw := hid (fun W (h : InAt W b (rd 4 p)) => in_raw_new b (tv 4 p) (rd 4 p).1 (rd 4 p).2 W (by omega) (by have := rd_le 4 p; omega) h)
  replace e1 := hid e1
  replace e3 := hid e3
  clear he hf
  have hlw : w.heap.size ≤ (w.alloc (.cells #[.pointer (some ⟨b, 0, none⟩)] 170)).heap.size := by simp
  replace hlw := hid hlw
  go_enter Tryz.func148, Tryz.ntmps148
  go_wp2_with fail
  refine (hnum.out _ ha).mono ?_
  rintro e w1 ⟨rfl, ha1, hs1⟩
  have hq1 := hid (((hs1.block w.heap.size (by simp) hnf.out).1).trans hq.out)
  have hnf1 := hid ((hs1.block w.heap.size (by simp) hnf.out).2)
  have c1 : w1.cell? ⟨w.heap.size, 0, none⟩ = some (.pointer (some ⟨b, 0, none⟩)) := block_cell hq1.out 0
  have hz1 := lt_of_block hq1.out
  go_wp2_with fail
  refine (hraw.out _ ha1).mono ?_
  rintro e w2 ⟨v2, rfl, ⟨hv2, hnew⟩, ha2, hs2⟩
  have ha2' : InAt w2 b (daR p) := ha2
  have hq2 := hid (((hs2.block w.heap.size hz1 hnf1.out).1).trans hq1.out)
  have hst := (st0.trans hs1).trans hs2
  have c1 := hst.cell hf'.out hc
  have f1 : w2.frozen? ⟨q, i, none⟩ = false := (World.frozen?_of_block (w := w) ((hst.block q hlt hf'.out).1)).trans hz
  have c2 : w2.cell? ⟨w.heap.size, 0, none⟩ = some (.pointer (some ⟨b, 0, none⟩)) := block_cell hq2.out 0
  have hne : w.heap.size ≠ q := by omega
  have ha3 := ha2'.store (a := ⟨q, i, none⟩) v2 ((hst.block q hlt hf'.out).2)
  have hnew2 : Hid (∀ k, v2.ownBlock = some k → w.heap.size ≤ k) := hid fun k hk => Nat.le_trans (Nat.le_of_lt hz1) (hnew k hk)
  obtain ⟨a2, k2, rfl, _, _, _⟩ := hv2.form
  replace ha2 := hid ha2
  clear hc hz hnew
  go_wp2_with fail
  refine (err_at b _ _ ha3).mono ?_
  rintro e w4 ⟨rfl, rfl⟩
  rw [show (daR p).2 = 0 from e3.out]
  go_wp2_with fail
  refine (mmust_ok _).mono ?_
  rintro e w4 ⟨rfl, rfl⟩
  go_wp2_with fail
  go_end0
  exact ⟨rfl, _, _, hst, ha2.out, hv2, hnew2.out, rfl⟩
set_option maxHeartbeats 1200000 in
theorem in_data_bad (b q i : Nat) (u : Value) (p : List UInt8 × Nat) (w : World) (hl : p.1.length ≤ 1000000000) (h : InAt w b p) (he : daE p ≠ 0) (hf : ¬ Foot w b q) (hc : w.cell? ⟨q, i, none⟩ = some u) (hz : w.frozen? ⟨q, i, none⟩ = false) :
    Calls Tryz.prog 148 #[.agg #[.pointer (some ⟨b, 0, none⟩)], .pointer (some ⟨q, i, none⟩)] w fun e w' => (∃ err, err ≠ 0 ∧ e = .panicked (errChain err)) ∧ ∀ m, m ≤ b → m ≤ q → Below m w w' := by
  have hb0 := (Below.refl w.heap.size w).alloc (Nat.le_refl _) (.cells #[.pointer (some ⟨b, 0, none⟩)] 170)
  have ha := h.below hb0
  have st0 := OStep.pure h.lt hb0
  have hnf := hid (h.new (.cells #[.pointer (some ⟨b, 0, none⟩)] 170))
  have hq := hid (heap_alloc_new w (.cells #[.pointer (some ⟨b, 0, none⟩)] 170))
  have hlt := World.block_lt_of_cell? w _ hc
  have hf' := hid hf
  have hlw : w.heap.size ≤ (w.alloc (.cells #[.pointer (some ⟨b, 0, none⟩)] 170)).heap.size := by simp
  replace hlw := hid hlw
  by_cases e1 : (rd 4 p).2 = 0
  case neg =>
    have hnum := hid (fun W (h : InAt W b p) => in_number_bad b 4 p W (by omega) (by omega) hl h e1)
    replace e1 := hid e1
    clear he hf
    go_enter Tryz.func148, Tryz.ntmps148
    go_wp2_with fail
    refine (hnum.out _ ha).mono ?_
    rintro e w1 ⟨rfl, hs1⟩
    go_wp2_with fail
    exact ⟨rfl, ⟨_, e1.out, rfl⟩, fun m h1 _ => (st0.trans hs1).below.mono h1⟩
  have hnum := hid (fun W (h : InAt W b p) => in_number_ok b 4 p W (by omega) (by omega) hl h e1)
  by_cases e2 : 8192 < tv 4 p
  · have htv := tv_lt 4 p (by omega)
    replace e1 := hid e1
    clear he hf
    go_enter Tryz.func148, Tryz.ntmps148
    go_wp2_with fail
    refine (hnum.out _ ha).mono ?_
    rintro e w1 ⟨rfl, ha1, hs1⟩
    go_wp2_with fail
    exact ⟨rfl, ⟨2, by omega, rfl⟩, fun m h1 _ => (st0.trans hs1).below.mono h1⟩
  have e3 : (rd (tv 4 p) (rd 4 p)).2 ≠ 0 := by
    unfold daE at he
    rwa [if_neg (by simp [e1]), if_neg e2] at he
  have hraw := hid (fun W (h : InAt W b (rd 4 p)) => in_raw_new b (tv 4 p) (rd 4 p).1 (rd 4 p).2 W (by omega) (by have := rd_le 4 p; omega) h)
  have hmb := hid (fun W => mmust_bad (rd (tv 4 p) (rd 4 p)).2 e3 W)
  replace e1 := hid e1
  replace e3 := hid e3
  clear he hf
  go_enter Tryz.func148, Tryz.ntmps148
  go_wp2_with fail
  refine (hnum.out _ ha).mono ?_
  rintro e w1 ⟨rfl, ha1, hs1⟩
  have hq1 := hid (((hs1.block w.heap.size (by simp) hnf.out).1).trans hq.out)
  have hnf1 := hid ((hs1.block w.heap.size (by simp) hnf.out).2)
  have c1 : w1.cell? ⟨w.heap.size, 0, none⟩ = some (.pointer (some ⟨b, 0, none⟩)) := block_cell hq1.out 0
  have hz1 := lt_of_block hq1.out
  go_wp2_with fail
  refine (hraw.out _ ha1).mono ?_
  rintro e w2 ⟨v2, rfl, ⟨hv2, hnew⟩, ha2, hs2⟩
  have ha2' : InAt w2 b (rd (tv 4 p) (rd 4 p)) := ha2
  have hq2 := hid (((hs2.block w.heap.size hz1 hnf1.out).1).trans hq1.out)
  have hst := (st0.trans hs1).trans hs2
  have c1 := hst.cell hf'.out hc
  have f1 : w2.frozen? ⟨q, i, none⟩ = false := (World.frozen?_of_block (w := w) ((hst.block q hlt hf'.out).1)).trans hz
  have c2 : w2.cell? ⟨w.heap.size, 0, none⟩ = some (.pointer (some ⟨b, 0, none⟩)) := block_cell hq2.out 0
  have hne : w.heap.size ≠ q := by omega
  have ha3 := ha2'.store (a := ⟨q, i, none⟩) v2 ((hst.block q hlt hf'.out).2)
  obtain ⟨a2, k2, rfl, _, _, _⟩ := hv2.form
  replace ha2 := hid ha2
  clear hc hz hnew
  go_wp2_with fail
  refine (err_at b _ _ ha3).mono ?_
  rintro e w4 ⟨rfl, rfl⟩
  go_wp2_with fail
  refine (hmb.out _).mono ?_
  rintro e w4 ⟨rfl, rfl⟩
  go_wp2_with fail
  exact ⟨rfl, ⟨_, e3.out, rfl⟩, fun m h1 h2 => (hst.below.mono h1).setCell (p := ⟨q, i, none⟩) h2 _⟩

def stB (p : List UInt8 × Nat) : List UInt8 := rawL (tv 2 p) (rd 2 p).1 (rd 2 p).2
def stR (p : List UInt8 × Nat) : List UInt8 × Nat := rd (tv 2 p) (rd 2 p)
def stE (p : List UInt8 × Nat) : Nat := if (rd 2 p).2 ≠ 0 then (rd 2 p).2 else if (stR p).2 ≠ 0 then (stR p).2 else if decE (stB p) ≠ 0 then decE (stB p) else if decN (stB p) ≠ (stB p).length then 2 else 0
theorem stE_ok {p : List UInt8 × Nat} (he : stE p = 0) : (rd 2 p).2 = 0 ∧ (stR p).2 = 0 ∧ decE (stB p) = 0 ∧ decN (stB p) = (stB p).length := by
  unfold stE at he
  by_cases h1 : (rd 2 p).2 = 0
  · rw [if_neg (by simp [h1])] at he
    by_cases h2 : (stR p).2 = 0
    · rw [if_neg (by simp [h2])] at he
      by_cases h3 : decE (stB p) = 0
      · rw [if_neg (by simp [h3])] at he
        by_cases h4 : decN (stB p) = (stB p).length
        · exact ⟨h1, h2, h3, h4⟩
        · rw [if_pos h4] at he; omega
      · rw [if_pos h3] at he; exact absurd he h3
    · rw [if_pos h2] at he; exact absurd he h2
  · rw [if_pos h1] at he; exact absurd he h1

def put13 (w : World) (q i : Nat) (s : Stat) : World := ((((((((((((w.setCell ⟨q, i, none⟩ (.int .u16 (s.kind : Int))).setCell ⟨q, i + 1, none⟩ (.int .u32 (s.dev : Int))).setCell ⟨q, i + 2, none⟩ (.int .u8 (s.qt : Int))).setCell ⟨q, i + 3, none⟩ (.int .u32 (s.qv : Int))).setCell ⟨q, i + 4, none⟩ (.int .u64 (s.qp : Int))).setCell ⟨q, i + 5, none⟩ (.int .u32 (s.mode : Int))).setCell ⟨q, i + 6, none⟩ (.int .u32 (s.atm : Int))).setCell ⟨q, i + 7, none⟩ (.int .u32 (s.mtm : Int))).setCell ⟨q, i + 8, none⟩ (.int .u64 (s.len : Int))).setCell ⟨q, i + 9, none⟩ (.string s.name)).setCell ⟨q, i + 10, none⟩ (.string s.uid)).setCell ⟨q, i + 11, none⟩ (.string s.gid)).setCell ⟨q, i + 12, none⟩ (.string s.muid)
def InStat (w : World) (b q i : Nat) (p : List UInt8 × Nat) (s : Stat) (e : Ending) (w' : World) : Prop :=
  e = .returned (.tuple #[]) ∧ ∃ w1 o, OStep b w w1 ∧ InAt w1 b p ∧ w' = (put13 w1 q i s).alloc o

set_option maxHeartbeats 1600000 in
theorem in_stat_ok (b q i : Nat) (p : List UInt8 × Nat) (cs : Array Value) (w : World) (hl : p.1.length ≤ 1000000000) (h : InAt w b p) (he : stE p = 0) (hf : ¬ Foot w b q) (hc : w.heap[q]? = some (.cells cs 41 (0, 0))) (hsz : i + 13 ≤ cs.size) :
    Calls Tryz.prog 151 #[.agg #[.pointer (some ⟨b, 0, none⟩)], .pointer (some ⟨q, i, none⟩)] w (InStat w b q i (stR p) (decS (stB p))) := by
  obtain ⟨e1, e2, e3, e4⟩ := stE_ok he
  have hb0 := (Below.refl w.heap.size w).alloc (Nat.le_refl _) (.cells #[.pointer (some ⟨b, 0, none⟩)] 170)
  have ha := h.below hb0
  have st0 := OStep.pure h.lt hb0
  have hnf := hid (h.new (.cells #[.pointer (some ⟨b, 0, none⟩)] 170))
  have hq := hid (heap_alloc_new w (.cells #[.pointer (some ⟨b, 0, none⟩)] 170))
  have hlt := lt_of_block hc
  have hf' := hid hf
  have htv := tv_lt 2 p (by omega)
  have hBL : (stB p).length ≤ 1000000000 := by have := rawL_le (tv 2 p) (rd 2 p).1 (rd 2 p).2; have := rd_le 2 p; unfold stB; omega
  have hnum := hid (fun W (h : InAt W b p) => in_number_ok b 2 p W (by omega) (by omega) hl h e1)
  have hraw := hid (fun W (h : InAt W b (rd 2 p)) => in_raw_new b (tv 2 p) (rd 2 p).1 (rd 2 p).2 W (by omega) (by have := rd_le 2 p; omega) h)
  have haD := hid (ha.below (Below.refl _ _).drew)
  have hnfD := hid (show ¬ Foot (w.alloc (.cells #[.pointer (some ⟨b, 0, none⟩)] 170)).drew b w.heap.size from hnf.out)
  have hqD := hid (show (w.alloc (.cells #[.pointer (some ⟨b, 0, none⟩)] 170)).drew.heap[w.heap.size]? = some (.cells #[.pointer (some ⟨b, 0, none⟩)] 170) from hq.out)
  have hszD : Hid (w.heap.size < (w.alloc (.cells #[.pointer (some ⟨b, 0, none⟩)] 170)).drew.heap.size) := hid (lt_of_block hqD.out)
  have stD : OStep b w (w.alloc (.cells #[.pointer (some ⟨b, 0, none⟩)] 170)).drew := st0.trans (OStep.pure ha.lt (Below.refl _ _).drew)
  have hcv : IntKind.i64.wrap (tv 2 p : Int) = (tv 2 p : Int) := IntWalk.i64_in _ (by omega)
  replace e1 := hid e1
  replace e2 := hid e2
  replace e3 := hid e3
  replace e4 := hid e4
  clear he hf
  go_enter Tryz.func151, Tryz.ntmps151
  go_wp2_with fail
  go_region_held3 (fun w' => w'.cell? ⟨w.heap.size, 0, none⟩ = some (.pointer (some ⟨b, 0, none⟩)))
    (first | exact k0 | exact k1 | go_keep)
    (first
      | (go_at_call 88; refine (hnum.out _ haD.out).mono ?_; rintro e w1 ⟨rfl, ha1, hs1⟩; have hq1 := hid (((hs1.block w.heap.size hszD.out hnfD.out).1).trans hqD.out); have hnf1 := hid ((hs1.block w.heap.size hszD.out hnfD.out).2); have k0 : w1.cell? ⟨w.heap.size, 0, none⟩ = some (.pointer (some ⟨b, 0, none⟩)) := block_cell hq1.out 0)
      | (go_at_call 156; refine (hraw.out _ ha1).mono ?_; rintro e w2 ⟨v2, rfl, ⟨hv2, hnew⟩, ha2, hs2⟩; have k1 : w2.cell? ⟨w.heap.size, 0, none⟩ = some (.pointer (some ⟨b, 0, none⟩)) := block_cell (((hs2.block w.heap.size (lt_of_block hq1.out) hnf1.out).1).trans hq1.out) 0))
  have hst := (stD.trans hs1).trans hs2
  have ha2' : InAt w2 b (stR p) := ha2
  have hv2' : BytesAt w2 v2 (stB p) := hv2
  have hsz2 : w.heap.size ≤ w2.heap.size := hst.below.size
  have hnew2 : Hid (∀ k, v2.ownBlock = some k → w.heap.size ≤ k) := hid fun k hk => Nat.le_trans (Nat.le_of_lt (lt_of_block hq1.out)) (hnew k hk)
  have hblk := hid (hst.block q hlt hf'.out)
  clear ha2 hv2 hs1 hs2 ha1 k0 hnew stD haD hnfD hqD hszD hq1 hnf1
  go_wp2_with fail
  refine (err_at b _ _ ha2').mono ?_
  rintro e w4 ⟨rfl, rfl⟩
  rw [e2.out]
  go_wp2_with fail
  refine (mmust_ok _).mono ?_
  rintro e w4 ⟨rfl, rfl⟩
  go_wp2_with fail
  refine (decode_any v2 (stB p) _ hv2' hBL).mono ?_
  rintro e w3 ⟨rfl, hb3⟩
  rw [e3.out, e4.out]
  obtain ⟨a2, k2, rfl, hk2, hk3, _⟩ := hv2'.form
  unfold maxLen at hk3
  have ha3 := ha2'.below hb3
  have hst3 := hst.trans (OStep.pure ha2'.lt hb3)
  have hblk3 := hst3.block q hlt hf'.out
  have hq3 := hblk3.1.trans hc
  have hql := lt_of_block hq3
  have c0 : w3.cell? ⟨q, i, none⟩ = some (cs[i]'(by omega)) := by rw [block_cell hq3]; exact Array.getElem?_eq_getElem (by omega)
  have f0 : w3.frozen? ⟨q, i, none⟩ = false := block_free hq3 _
  have c1 : w3.cell? ⟨q, i + 1, none⟩ = some (cs[i + 1]'(by omega)) := by rw [block_cell hq3]; exact Array.getElem?_eq_getElem (by omega)
  have f1 : w3.frozen? ⟨q, i + 1, none⟩ = false := block_free hq3 _
  have c2 : w3.cell? ⟨q, i + 2, none⟩ = some (cs[i + 2]'(by omega)) := by rw [block_cell hq3]; exact Array.getElem?_eq_getElem (by omega)
  have f2 : w3.frozen? ⟨q, i + 2, none⟩ = false := block_free hq3 _
  have c3 : w3.cell? ⟨q, i + 3, none⟩ = some (cs[i + 3]'(by omega)) := by rw [block_cell hq3]; exact Array.getElem?_eq_getElem (by omega)
  have f3 : w3.frozen? ⟨q, i + 3, none⟩ = false := block_free hq3 _
  have c4 : w3.cell? ⟨q, i + 4, none⟩ = some (cs[i + 4]'(by omega)) := by rw [block_cell hq3]; exact Array.getElem?_eq_getElem (by omega)
  have f4 : w3.frozen? ⟨q, i + 4, none⟩ = false := block_free hq3 _
  have c5 : w3.cell? ⟨q, i + 5, none⟩ = some (cs[i + 5]'(by omega)) := by rw [block_cell hq3]; exact Array.getElem?_eq_getElem (by omega)
  have f5 : w3.frozen? ⟨q, i + 5, none⟩ = false := block_free hq3 _
  have c6 : w3.cell? ⟨q, i + 6, none⟩ = some (cs[i + 6]'(by omega)) := by rw [block_cell hq3]; exact Array.getElem?_eq_getElem (by omega)
  have f6 : w3.frozen? ⟨q, i + 6, none⟩ = false := block_free hq3 _
  have c7 : w3.cell? ⟨q, i + 7, none⟩ = some (cs[i + 7]'(by omega)) := by rw [block_cell hq3]; exact Array.getElem?_eq_getElem (by omega)
  have f7 : w3.frozen? ⟨q, i + 7, none⟩ = false := block_free hq3 _
  have c8 : w3.cell? ⟨q, i + 8, none⟩ = some (cs[i + 8]'(by omega)) := by rw [block_cell hq3]; exact Array.getElem?_eq_getElem (by omega)
  have f8 : w3.frozen? ⟨q, i + 8, none⟩ = false := block_free hq3 _
  have c9 : w3.cell? ⟨q, i + 9, none⟩ = some (cs[i + 9]'(by omega)) := by rw [block_cell hq3]; exact Array.getElem?_eq_getElem (by omega)
  have f9 : w3.frozen? ⟨q, i + 9, none⟩ = false := block_free hq3 _
  have c10 : w3.cell? ⟨q, i + 10, none⟩ = some (cs[i + 10]'(by omega)) := by rw [block_cell hq3]; exact Array.getElem?_eq_getElem (by omega)
  have f10 : w3.frozen? ⟨q, i + 10, none⟩ = false := block_free hq3 _
  have c11 : w3.cell? ⟨q, i + 11, none⟩ = some (cs[i + 11]'(by omega)) := by rw [block_cell hq3]; exact Array.getElem?_eq_getElem (by omega)
  have f11 : w3.frozen? ⟨q, i + 11, none⟩ = false := block_free hq3 _
  have c12 : w3.cell? ⟨q, i + 12, none⟩ = some (cs[i + 12]'(by omega)) := by rw [block_cell hq3]; exact Array.getElem?_eq_getElem (by omega)
  have f12 : w3.frozen? ⟨q, i + 12, none⟩ = false := block_free hq3 _
  have hne3 : w3.heap.size ≠ q := by omega
  have hne4 : q ≠ w3.heap.size := by omega
  generalize hS : decS (stB p) = S
  replace hS := hid hS
  generalize hN : (stB p).length = N at *
  replace hN := hid hN
  replace hblk3 := hid hblk3
  replace hq3 := hid hq3
  rw [cells_eq S]
  go_wp2_with fail
  refine (mmust_ok _).mono ?_
  rintro e w4 ⟨rfl, rfl⟩
  go_wp2_with fail
  go_end0
  exact ⟨rfl, w3, _, hst3, ha3, by rw [hS.out]; rfl⟩
end
end Go.Proofs.YtcbglcebdkpcfaaGreat

namespace Go.Proofs.YtcbglcebdkpcfaaGreat
section
open Go.RowKit
set_option maxRecDepth 100000
set_option linter.unusedVariables false

theorem decN_le (l : List UInt8) : decN l ≤ 2 + l.length := by
  unfold decN
  split
  · have := rawL_le (tv 2 (l, 0)) (rd 2 (l, 0)).1 (rd 2 (l, 0)).2; have := rd_le 2 (l, 0); unfold bodyL; simp at *; omega
  · omega

set_option maxHeartbeats 1600000 in
theorem in_stat_bad (b q i : Nat) (p : List UInt8 × Nat) (cs : Array Value) (w : World) (hl : p.1.length ≤ 1000000000) (h : InAt w b p) (he : stE p ≠ 0) (hf : ¬ Foot w b q) (hc : w.heap[q]? = some (.cells cs 41 (0, 0))) (hsz : i + 13 ≤ cs.size) :
    Calls Tryz.prog 151 #[.agg #[.pointer (some ⟨b, 0, none⟩)], .pointer (some ⟨q, i, none⟩)] w fun e w' => (∃ err, err ≠ 0 ∧ e = .panicked (errChain err)) ∧ OStep b w w' := by
  have hb0 := (Below.refl w.heap.size w).alloc (Nat.le_refl _) (.cells #[.pointer (some ⟨b, 0, none⟩)] 170)
  have ha := h.below hb0
  have st0 := OStep.pure h.lt hb0
  have hnf := hid (h.new (.cells #[.pointer (some ⟨b, 0, none⟩)] 170))
  have hq := hid (heap_alloc_new w (.cells #[.pointer (some ⟨b, 0, none⟩)] 170))
  have hlt := lt_of_block hc
  have hf' := hid hf
  have htv := tv_lt 2 p (by omega)
  have hBL : (stB p).length ≤ 1000000000 := by have := rawL_le (tv 2 p) (rd 2 p).1 (rd 2 p).2; have := rd_le 2 p; unfold stB; omega
  have haD := hid (ha.below (Below.refl _ _).drew)
  have hnfD := hid (show ¬ Foot (w.alloc (.cells #[.pointer (some ⟨b, 0, none⟩)] 170)).drew b w.heap.size from hnf.out)
  have hqD := hid (show (w.alloc (.cells #[.pointer (some ⟨b, 0, none⟩)] 170)).drew.heap[w.heap.size]? = some (.cells #[.pointer (some ⟨b, 0, none⟩)] 170) from hq.out)
  have hszD : Hid (w.heap.size < (w.alloc (.cells #[.pointer (some ⟨b, 0, none⟩)] 170)).drew.heap.size) := hid (lt_of_block hqD.out)
  have stD : OStep b w (w.alloc (.cells #[.pointer (some ⟨b, 0, none⟩)] 170)).drew := st0.trans (OStep.pure ha.lt (Below.refl _ _).drew)
  have hcv : IntKind.i64.wrap (tv 2 p : Int) = (tv 2 p : Int) := IntWalk.i64_in _ (by omega)
  by_cases e1 : (rd 2 p).2 = 0
  case neg =>
    have hnum := hid (fun W (h : InAt W b p) => in_number_bad b 2 p W (by omega) (by omega) hl h e1)
    replace e1 := hid e1
    clear he hf
    go_enter Tryz.func151, Tryz.ntmps151
    go_wp2_with fail
    go_region_with (go_at_call 88; refine (hnum.out _ haD.out).mono ?_; rintro e w1 ⟨rfl, hs1⟩; refine fakeAny ⟨rfl, ⟨_, e1.out, rfl⟩, stD.trans hs1⟩ ?_)
    all_goals trivial
  have hnum := hid (fun W (h : InAt W b p) => in_number_ok b 2 p W (by omega) (by omega) hl h e1)
  have hraw := hid (fun W (h : InAt W b (rd 2 p)) => in_raw_new b (tv 2 p) (rd 2 p).1 (rd 2 p).2 W (by omega) (by have := rd_le 2 p; omega) h)
  by_cases e2 : (stR p).2 = 0
  case neg =>
    have hmb := hid (fun W => mmust_bad (stR p).2 e2 W)
    replace e1 := hid e1
    replace e2 := hid e2
    clear he hf
    go_enter Tryz.func151, Tryz.ntmps151
    go_wp2_with fail
    go_region_held3 (fun w' => w'.cell? ⟨w.heap.size, 0, none⟩ = some (.pointer (some ⟨b, 0, none⟩)))
      (first | exact k0 | exact k1 | go_keep)
      (first
        | (go_at_call 88; refine (hnum.out _ haD.out).mono ?_; rintro e w1 ⟨rfl, ha1, hs1⟩; have hq1 := hid (((hs1.block w.heap.size hszD.out hnfD.out).1).trans hqD.out); have hnf1 := hid ((hs1.block w.heap.size hszD.out hnfD.out).2); have k0 : w1.cell? ⟨w.heap.size, 0, none⟩ = some (.pointer (some ⟨b, 0, none⟩)) := block_cell hq1.out 0)
        | (go_at_call 156; refine (hraw.out _ ha1).mono ?_; rintro e w2 ⟨v2, rfl, ⟨hv2, hnew⟩, ha2, hs2⟩; have k1 : w2.cell? ⟨w.heap.size, 0, none⟩ = some (.pointer (some ⟨b, 0, none⟩)) := block_cell (((hs2.block w.heap.size (lt_of_block hq1.out) hnf1.out).1).trans hq1.out) 0))
    have hst := (stD.trans hs1).trans hs2
    have ha2' : InAt w2 b (stR p) := ha2
    have hv2' : BytesAt w2 v2 (stB p) := hv2
    have hsz2 : w.heap.size ≤ w2.heap.size := hst.below.size
    have hnew2 : Hid (∀ k, v2.ownBlock = some k → w.heap.size ≤ k) := hid fun k hk => Nat.le_trans (Nat.le_of_lt (lt_of_block hq1.out)) (hnew k hk)
    have hblk := hid (hst.block q hlt hf'.out)
    clear ha2 hv2 hs1 hs2 ha1 k0 hnew stD haD hnfD hqD hszD hq1 hnf1
    go_wp2_with fail
    refine (err_at b _ _ ha2').mono ?_
    rintro e w4 ⟨rfl, rfl⟩
    go_wp2_with fail
    refine (hmb.out _).mono ?_
    rintro e w4 ⟨rfl, rfl⟩
    go_wp2_with fail
    exact ⟨rfl, ⟨_, e2.out, rfl⟩, hst⟩
  by_cases e3 : decE (stB p) = 0
  case neg =>
    have hmb := hid (fun W => mmust_bad (decE (stB p)) e3 W)
    replace e1 := hid e1
    replace e2 := hid e2
    replace e3 := hid e3
    clear he hf
    go_enter Tryz.func151, Tryz.ntmps151
    go_wp2_with fail
    go_region_held3 (fun w' => w'.cell? ⟨w.heap.size, 0, none⟩ = some (.pointer (some ⟨b, 0, none⟩)))
      (first | exact k0 | exact k1 | go_keep)
      (first
        | (go_at_call 88; refine (hnum.out _ haD.out).mono ?_; rintro e w1 ⟨rfl, ha1, hs1⟩; have hq1 := hid (((hs1.block w.heap.size hszD.out hnfD.out).1).trans hqD.out); have hnf1 := hid ((hs1.block w.heap.size hszD.out hnfD.out).2); have k0 : w1.cell? ⟨w.heap.size, 0, none⟩ = some (.pointer (some ⟨b, 0, none⟩)) := block_cell hq1.out 0)
        | (go_at_call 156; refine (hraw.out _ ha1).mono ?_; rintro e w2 ⟨v2, rfl, ⟨hv2, hnew⟩, ha2, hs2⟩; have k1 : w2.cell? ⟨w.heap.size, 0, none⟩ = some (.pointer (some ⟨b, 0, none⟩)) := block_cell (((hs2.block w.heap.size (lt_of_block hq1.out) hnf1.out).1).trans hq1.out) 0))
    have hst := (stD.trans hs1).trans hs2
    have ha2' : InAt w2 b (stR p) := ha2
    have hv2' : BytesAt w2 v2 (stB p) := hv2
    have hsz2 : w.heap.size ≤ w2.heap.size := hst.below.size
    have hnew2 : Hid (∀ k, v2.ownBlock = some k → w.heap.size ≤ k) := hid fun k hk => Nat.le_trans (Nat.le_of_lt (lt_of_block hq1.out)) (hnew k hk)
    have hblk := hid (hst.block q hlt hf'.out)
    clear ha2 hv2 hs1 hs2 ha1 k0 hnew stD haD hnfD hqD hszD hq1 hnf1
    go_wp2_with fail
    refine (err_at b _ _ ha2').mono ?_
    rintro e w4 ⟨rfl, rfl⟩
    rw [e2.out]
    go_wp2_with fail
    refine (mmust_ok _).mono ?_
    rintro e w4 ⟨rfl, rfl⟩
    go_wp2_with fail
    refine (decode_any v2 (stB p) _ hv2' hBL).mono ?_
    rintro e w3 ⟨rfl, hb3⟩
    have hst3 := hst.trans (OStep.pure ha2'.lt hb3)
    generalize decS (stB p) = S
    generalize hE : decE (stB p) = E at *
    generalize decN (stB p) = N
    rw [cells_eq S]
    go_wp2_with fail
    refine (hmb.out _).mono ?_
    rintro e w4 ⟨rfl, rfl⟩
    go_wp2_with fail
    exact ⟨rfl, ⟨_, e3.out, rfl⟩, hst3.trans (OStep.pure (hst3.below.size |> fun h => Nat.lt_of_lt_of_le ha2'.lt hb3.size) ((Below.refl _ _).alloc (Nat.le_refl _) _))⟩
  have e4 : decN (stB p) ≠ (stB p).length := by
    intro e4
    unfold stE at he
    rw [if_neg (by simp [e1]), if_neg (by simp [e2]), if_neg (by simp [e3]), if_neg (by simp [e4])] at he
    exact he rfl
  have hnl : decN (stB p) ≤ 1000000010 := by have := decN_le (stB p); omega
  replace e1 := hid e1
  replace e2 := hid e2
  replace e3 := hid e3
  clear he hf
  go_enter Tryz.func151, Tryz.ntmps151
  go_wp2_with fail
  go_region_held3 (fun w' => w'.cell? ⟨w.heap.size, 0, none⟩ = some (.pointer (some ⟨b, 0, none⟩)))
    (first | exact k0 | exact k1 | go_keep)
    (first
      | (go_at_call 88; refine (hnum.out _ haD.out).mono ?_; rintro e w1 ⟨rfl, ha1, hs1⟩; have hq1 := hid (((hs1.block w.heap.size hszD.out hnfD.out).1).trans hqD.out); have hnf1 := hid ((hs1.block w.heap.size hszD.out hnfD.out).2); have k0 : w1.cell? ⟨w.heap.size, 0, none⟩ = some (.pointer (some ⟨b, 0, none⟩)) := block_cell hq1.out 0)
      | (go_at_call 156; refine (hraw.out _ ha1).mono ?_; rintro e w2 ⟨v2, rfl, ⟨hv2, hnew⟩, ha2, hs2⟩; have k1 : w2.cell? ⟨w.heap.size, 0, none⟩ = some (.pointer (some ⟨b, 0, none⟩)) := block_cell (((hs2.block w.heap.size (lt_of_block hq1.out) hnf1.out).1).trans hq1.out) 0))
  have hst := (stD.trans hs1).trans hs2
  have ha2' : InAt w2 b (stR p) := ha2
  have hv2' : BytesAt w2 v2 (stB p) := hv2
  have hsz2 : w.heap.size ≤ w2.heap.size := hst.below.size
  have hnew2 : Hid (∀ k, v2.ownBlock = some k → w.heap.size ≤ k) := hid fun k hk => Nat.le_trans (Nat.le_of_lt (lt_of_block hq1.out)) (hnew k hk)
  have hblk := hid (hst.block q hlt hf'.out)
  clear ha2 hv2 hs1 hs2 ha1 k0 hnew stD haD hnfD hqD hszD hq1 hnf1
  go_wp2_with fail
  refine (err_at b _ _ ha2').mono ?_
  rintro e w4 ⟨rfl, rfl⟩
  rw [e2.out]
  go_wp2_with fail
  refine (mmust_ok _).mono ?_
  rintro e w4 ⟨rfl, rfl⟩
  go_wp2_with fail
  refine (decode_any v2 (stB p) _ hv2' hBL).mono ?_
  rintro e w3 ⟨rfl, hb3⟩
  rw [e3.out]
  obtain ⟨a2, k2, rfl, hk2, hk3, _⟩ := hv2'.form
  unfold maxLen at hk3
  have hst3 := hst.trans (OStep.pure ha2'.lt hb3)
  generalize decS (stB p) = S
  generalize hN : decN (stB p) = N at *
  generalize hM : (stB p).length = M at *
  clear hN hM
  rw [cells_eq S]
  go_wp2_with fail
  refine (mmust_ok _).mono ?_
  rintro e w4 ⟨rfl, rfl⟩
  go_wp2_with fail
  exact ⟨rfl, ⟨2, by omega, rfl⟩, hst3.trans (OStep.pure (hst3.below.size |> fun h => Nat.lt_of_lt_of_le ha2'.lt hb3.size) ((Below.refl _ _).alloc (Nat.le_refl _) _))⟩
end
end Go.Proofs.YtcbglcebdkpcfaaGreat

namespace Go.Proofs.YtcbglcebdkpcfaaGreat
section
open Go.RowKit
set_option maxRecDepth 100000
set_option linter.unusedVariables false

theorem RowAt.clip {w : World} {k n c : Nat} {a : Option Addr} {xs : List Value} (h : RowAt w k (.slice a n c) n xs) : RowAt w k (.slice a n n) n xs := by
  obtain ⟨hl, a', c', hv, h1, h2, h3, h5, h4⟩ := h
  cases hv
  exact ⟨hl, a, n, rfl, Nat.le_refl _, by omega, fun h => by have := h3 h; omega, h5, h4⟩
theorem InAt.two {w : World} {b : Nat} {p : List UInt8 × Nat} (h : InAt w b p) : TwoAt w b := InIs.two h
theorem InAt.foot_lt {w : World} {b k : Nat} {p : List UInt8 × Nat} (h : InAt w b p) (hf : Foot w b k) : k < w.heap.size := InIs.foot_lt h hf

structure TxAt (w wr : World) (b q i B E sz : Nat) (cs : Array Value) (p : List UInt8 × Nat) (v : Value) (n : Nat) (vs : List Value) : Prop where
  inn : InAt wr b p
  blk : wr.heap[q]? = some (.cells (cs.setIfInBounds i v) 41 (0, 0))
  foot : ¬ Foot wr b q
  rows : ∀ k, Foot wr b k → k < B
  own : wr.ownsRow B E sz v n vs
  box : wr.heap[w.heap.size]? = some (.cells #[.pointer (some ⟨b, 0, none⟩)] 170 (0, 0))
  boxf : ¬ Foot wr b w.heap.size
  size : B ≤ wr.heap.size
  lt : q < w.heap.size ∧ w.heap.size < B
  below : ∀ m, m ≤ b → m ≤ q → Below m w wr
  keep : ∀ x, x < w.heap.size → x ≠ q → ¬ Foot w b x → wr.heap[x]? = w.heap[x]? ∧ ¬ Foot wr b x

theorem TxAt.step {w wr w2 : World} {b q i B E sz n : Nat} {cs : Array Value} {p p2 : List UInt8 × Nat} {v : Value} {vs : List Value} (h : TxAt w wr b q i B E sz cs p v n vs) (hi : InAt w2 b p2) (hs : OStep b wr w2) : TxAt w w2 b q i B E sz cs p2 v n vs := by
  have hq := hs.block q (lt_of_block h.blk) h.foot
  have hx := hs.block w.heap.size (lt_of_block h.box) h.boxf
  have ht := hs.two h.inn.two
  exact ⟨hi, hq.1.trans h.blk, hq.2, fun k hk => h.rows k (ht.2 k hk), own_keep h.own (fun j hj => (hs.block j (h.own.lt j hj).2 (fun hf => by have := h.rows j hf; have := (h.own.lt j hj).1; omega)).1),
    hx.1.trans h.box, hx.2, Nat.le_trans h.size hs.below.size, h.lt, fun m h1 h2 => (h.below m h1 h2).trans (hs.below.mono h1), fun x hx hxq hf => by
      obtain ⟨a1, a2⟩ := h.keep x hx hxq hf
      obtain ⟨c1, c2⟩ := hs.block x (by have := h.lt; have := h.size; omega) a2
      exact ⟨c1.trans a1, c2⟩⟩
theorem TxAt.same {w wr w2 : World} {b q i B E sz n : Nat} {cs : Array Value} {p : List UInt8 × Nat} {v : Value} {vs : List Value} (h : TxAt w wr b q i B E sz cs p v n vs) (hb : Below wr.heap.size wr w2) : TxAt w w2 b q i B E sz cs p v n vs :=
  h.step (h.inn.below hb) (OStep.pure h.inn.lt hb)
theorem TxAt.store {w wr : World} {b q i B E sz n : Nat} {cs : Array Value} {p : List UInt8 × Nat} {v : Value} {vs : List Value} (h : TxAt w wr b q i B E sz cs p v n vs) (a : Addr) (u : Value) (ha : B ≤ a.block) (hv : v.ownBlock ≠ some a.block) : TxAt w (wr.setCell a u) b q i B E sz cs p v n vs := by
  have hnf : ¬ Foot wr b a.block := fun hf => by have := h.rows _ hf; omega
  have hne : a.block ≠ b := fun e => hnf (.inl e)
  have l1 := h.lt
  exact ⟨h.inn.store u hnf, (block_set_other (by omega)).trans h.blk, Foot.store hne h.foot, fun k hk => Classical.byContradiction fun hc => Foot.store (u := u) hne (fun hf => hc (h.rows k hf)) hk,
    ownsRow_setCell_other h.own hv u, (block_set_other (by omega)).trans h.box, Foot.store hne h.boxf, by simpa using h.size, h.lt, fun m h1 h2 => (h.below m h1 h2).setCell (by omega) _, fun x hx hxq hf => by
      obtain ⟨a1, a2⟩ := h.keep x hx hxq hf
      exact ⟨(block_set_other (by omega)).trans a1, Foot.store hne a2⟩⟩
theorem TxAt.push {w wr w' : World} {b q i B E sz n n2 g cap : Nat} {cs : Array Value} {p : List UInt8 × Nat} {v : Value} {vs ws : List Value} {o : Obj} (h : TxAt w wr b q i B E sz cs p v n vs)
    (h2 : w'.ownsRow B E sz (.slice (some ⟨g, 0, none⟩) n2 cap) n2 ws) (hg : (wr.drew.alloc o).grownBy w' v.ownBlock) :
    TxAt w (w'.setCell ⟨q, i, none⟩ (.slice (some ⟨g, 0, none⟩) n2 cap)) b q i B E sz cs p (.slice (some ⟨g, 0, none⟩) n2 cap) n2 ws := by
  have l1 := h.lt
  have hkeep : ∀ k X, k < B → wr.heap[k]? = some X → w'.heap[k]? = some X := fun k X hk hX => kept_da hX hg (fun e => by have := (h.own.lt k e.symm).1; omega)
  have hfoot : ∀ k, Foot w' b k → Foot wr b k := fun k hf => by
    obtain ⟨cs2, t2, fr2, hc2, _⟩ := h.inn.two
    have hb2 := hkeep b _ (h.rows b (.inl rfl)) hc2
    rcases hf with hf | ⟨u, hu, hk⟩
    · exact .inl hf
    · exact .inr ⟨u, by rw [block_cell hb2 0] at hu; rw [block_cell hc2 0]; exact hu, hk⟩
  have hin : InAt w' b p := by
    obtain ⟨u, hb, hl, hne⟩ := h.inn
    have hsz : wr.heap.size ≤ w'.heap.size := by have := hg.size; simp at this; omega
    refine ⟨u, hkeep b _ (h.rows b (.inl rfl)) hb, RowAt.other hl hsz fun j hj => ?_, hne⟩
    have hjB : j < B := h.rows j (.inr ⟨u, block_cell hb 0, hj⟩)
    have hjl := hl.lt hj
    obtain ⟨X, hX⟩ : ∃ X, wr.heap[j]? = some X := ⟨_, Array.getElem?_eq_getElem hjl⟩
    rw [hX]; exact hkeep j X hjB hX
  have hqb : q ≠ b := fun e => h.foot (.inl e)
  have hB := h.size
  have hsz : B ≤ w'.heap.size := by have := hg.size; simp at this; omega
  refine ⟨hin.store (a := ⟨q, i, none⟩) _ (fun hf => h.foot (hfoot q hf)), ?_, Foot.store (p := ⟨q, i, none⟩) hqb (fun hf => h.foot (hfoot q hf)),
    fun k hk => Classical.byContradiction fun hc => Foot.store (p := ⟨q, i, none⟩) hqb (fun hf => hc (h.rows k (hfoot k hf))) hk,
    ownsRow_setCell_other h2 (fun e => by have h9 : B ≤ q := (h2.lt _ e).1; omega) _, (block_set_other (by show w.heap.size ≠ q; omega)).trans (hkeep _ _ l1.2 h.box), Foot.store (p := ⟨q, i, none⟩) hqb (fun hf => h.boxf (hfoot _ hf)), by simpa using hsz, h.lt, fun m h1 h3 => ?_, fun x hx hxq hf => ?_⟩
  · rw [block_set (hkeep q _ (by omega) h.blk) i _]; simp
  · exact (below_da (h.below m h1 h3) (by omega) hg (fun k hk => by have := (h.own.lt k hk).1; omega)).setCell h3 _
  · obtain ⟨a1, a2⟩ := h.keep x hx hxq hf
    have hxw : x < wr.heap.size := by omega
    have hX : wr.heap[x]? = some wr.heap[x] := Array.getElem?_eq_getElem hxw
    exact ⟨(block_set_other (by show x ≠ q; omega)).trans (((hkeep x _ (by omega) hX).trans hX.symm).trans a1), Foot.store (p := ⟨q, i, none⟩) hqb (fun h => a2 (hfoot x h))⟩

def textsIn : Nat → List UInt8 × Nat → Nat × (List UInt8 × Nat) × List ByteArray
  | 0, p => (0, p, [])
  | n + 1, p => if te p ≠ 0 then (te p, tr p, []) else ((textsIn n (tr p)).1, (textsIn n (tr p)).2.1, ts p :: (textsIn n (tr p)).2.2)
def glue {α : Type} (L : List α) (r : Nat × (List UInt8 × Nat) × List α) : Nat × (List UInt8 × Nat) × List α := (r.1, r.2.1, L ++ r.2.2)
theorem glue_text {L : List ByteArray} {n : Nat} {p : List UInt8 × Nat} (h : te p = 0) : glue L (textsIn (n + 1) p) = glue (L ++ [ts p]) (textsIn n (tr p)) := by simp [textsIn, glue, h]
def txE (p : List UInt8 × Nat) : Nat := if (rd 2 p).2 ≠ 0 then (rd 2 p).2 else if 16 < tv 2 p then 2 else (textsIn (tv 2 p) (rd 2 p)).1
def txR (p : List UInt8 × Nat) : List UInt8 × Nat := (textsIn (tv 2 p) (rd 2 p)).2.1
def txL (p : List UInt8 × Nat) : List ByteArray := (textsIn (tv 2 p) (rd 2 p)).2.2
def InRow (w : World) (b q i sz : Nat) (cs : Array Value) (p : List UInt8 × Nat) (n : Nat) (vs : List Value) (e : Ending) (w' : World) : Prop :=
  e = .returned (.tuple #[]) ∧ ∃ v, InAt w' b p ∧ w'.heap[q]? = some (.cells (cs.setIfInBounds i v) 41 (0, 0)) ∧ ¬ Foot w' b q ∧ RowAt w' sz v n vs ∧ (∀ k, v.ownBlock = some k → w.heap.size ≤ k) ∧ (∀ m, m ≤ b → m ≤ q → Below m w w') ∧ ∀ x, x < w.heap.size → x ≠ q → ¬ Foot w b x → w'.heap[x]? = w.heap[x]? ∧ ¬ Foot w' b x
theorem TxAt.done {w wr : World} {b q i B E sz n c : Nat} {cs : Array Value} {p : List UInt8 × Nat} {a : Option Addr} {vs : List Value} (h : TxAt w wr b q i B E sz cs p (.slice a n c) n vs) : InRow w b q i sz cs p n vs (.returned (.tuple #[])) (wr.setCell ⟨q, i, none⟩ (.slice a n n)) := by
  have l1 := h.lt
  have hqb : q ≠ b := fun e => h.foot (.inl e)
  have hob : ∀ k, (Value.slice a n n).ownBlock = some k → B ≤ k := fun k hk => (h.own.lt k (by cases a <;> exact hk)).1
  refine ⟨rfl, .slice a n n, h.inn.store (a := ⟨q, i, none⟩) _ h.foot, by rw [block_set h.blk i _]; simp, Foot.store (p := ⟨q, i, none⟩) hqb h.foot, ?_, fun k hk => by have := hob k hk; omega, fun m h1 h2 => (h.below m h1 h2).setCell h2 _, fun x hx hxq hf => by
    obtain ⟨a1, a2⟩ := h.keep x hx hxq hf
    exact ⟨(block_set_other (by show x ≠ q; omega)).trans a1, Foot.store (p := ⟨q, i, none⟩) hqb a2⟩⟩
  exact (RowAt.clip (RowAt.of_own h.own)).other (by simp) (fun j hj => block_set_other (by have := hob j hj; show j ≠ q; omega))

theorem sclip_at (a : Option Addr) (n c : Nat) (w : World) (_hn : n ≤ c) (_hc : c ≤ maxLen) :
    Calls Tryz.prog 162 #[.slice a n c] w fun e w' => e = .returned (.slice a n n) ∧ w = w' := by
  unfold maxLen at _hc
  go_enter Tryz.func162, Tryz.ntmps162
  go_wp2
  go_ret
  exact ⟨rfl, rfl⟩
theorem qclip_at (a : Option Addr) (n c : Nat) (w : World) (_hn : n ≤ c) (_hc : c ≤ maxLen) :
    Calls Tryz.prog 159 #[.slice a n c] w fun e w' => e = .returned (.slice a n n) ∧ w = w' := by
  unfold maxLen at _hc
  go_enter Tryz.func159, Tryz.ntmps159
  go_wp2
  go_ret
  exact ⟨rfl, rfl⟩
theorem infoStr : (Tryz.prog.info? 9).map (fun i => (i.zero, i.size, i.bytes)) = some (some (.string ⟨#[]⟩), 1, 16) := by kernel_rfl
theorem infoQid : (Tryz.prog.info? 37).map (fun i => (i.zero, i.size, i.bytes)) = some (some (.agg #[.int .u8 0, .int .u32 0, .int .u64 0]), 3, 16) := by kernel_rfl

end
end Go.Proofs.YtcbglcebdkpcfaaGreat
