/- What stat.Decode returns, for any bytes. Conditions: the length is at most a thousand million. -/
import Derived.Test.YtoblafeiidjaaaaStatRd
namespace Go.Proofs.Ytoblafeiidjaaaa
open Go.RowKit
set_option maxRecDepth 100000

theorem ecaught_panicking (k : Nat) (e0 : Int) (e : Nat) (w : World) (h : w.heap[k]? = some (.cells #[.int .i64 e0] 24 (0, 0))) :
    CallsD Try.prog 71 #[.pointer (some ⟨k, 0, none⟩)] (.panicking (errChain e)) w fun en u' w' =>
      en = .returned (.tuple #[]) ∧ u' = .panicking (errChainR e) ∧ w' = w.setCell ⟨k, 0, none⟩ (.int .i64 (e : Int)) := by
  have hc1 : w.cell? ⟨k, 0, none⟩ = some (.int .i64 e0) := block_cell h 0
  have hf1 : w.frozen? ⟨k, 0, none⟩ = false := block_free h 0
  clear h
  have hta := assert_errno
  refine callsD_of_wpS Try.func71 rfl fun c₀ cs hu => ?_
  apply wpS_seq
  apply wpS_region
  simp [wpOpsS, go_sem, recoverD, hu, errChain, Try.ntmps71, Exit.thenS, Array.replicate_succ]
  apply wpS_body
  go_wp2
  go_end0
  exact ⟨rfl, rfl, rfl⟩
theorem ecaught_idle (k : Nat) (w : World) :
    CallsD Try.prog 71 #[.pointer (some ⟨k, 0, none⟩)] .returning w fun en u' w' => en = .returned (.tuple #[]) ∧ u' = .returning ∧ w = w' := by
  refine callsD_of_wpS Try.func71 rfl fun c₀ cs hu => ?_
  apply wpS_seq
  apply wpS_region
  simp [wpOpsS, go_sem, recoverD, hu, Try.ntmps71, Exit.thenS, Array.replicate_succ]
  rw [show c₀ = { c₀ with mode := .returning } from by cases c₀; simp_all]
  apply wpS_body
  go_wp2
  go_end0
  exact ⟨rfl, rfl⟩

def bodyL (l : List UInt8) : List UInt8 := rawL (tv 2 (l, 0)) (rd 2 (l, 0)).1 (rd 2 (l, 0)).2
def decE (l : List UInt8) : Nat := if (rd (tv 2 (l, 0)) (rd 2 (l, 0))).2 ≠ 0 then 4 else if readE (bodyL l) then 0 else 2
def zeroS : Stat := ⟨0, 0, 0, 0, 0, 0, 0, 0, 0, ⟨#[]⟩, ⟨#[]⟩, ⟨#[]⟩, ⟨#[]⟩⟩
def decS (l : List UInt8) : Stat := if decE l = 0 then readS (bodyL l) else zeroS
def decN (l : List UInt8) : Nat := if decE l = 0 then 2 + (bodyL l).length else 0
def DecPost (w : World) (l : List UInt8) (e : Ending) (w' : World) : Prop := e = .returned (.tuple #[.agg (decS l).cells, .int .i64 (decN l : Int), .int .i64 (decE l : Int)]) ∧ Below w.heap.size w w'

theorem dec_results {tmps : Array Value} {w : World} {g k : Nat} {cs : Array Value} {x : Value} {e : Int} (h2 : tmps.getD 2 undef = .pointer (some ⟨g, 0, none⟩)) (h3 : tmps.getD 3 undef = x) (h4 : tmps.getD 4 undef = .pointer (some ⟨k, 0, none⟩))
    (hg : w.heap[g]? = some (.cells cs 37 (0, 0))) (hs : cs.size = 13) (hk : w.cell? ⟨k, 0, none⟩ = some (.int .i64 e)) : (results Try.f43 tmps).run Try.prog w = .ok (.tuple #[.agg cs, x, .int .i64 e]) w := by
  have hi : (Try.prog.info? 37).map (·.size) = some cs.size := by rw [hs]; kernel_rfl
  have h2' : tmps[2]?.getD undef = .pointer (some ⟨g, 0, none⟩) := by simpa using h2
  have h3' : tmps[3]?.getD undef = x := by simpa using h3
  have h4' : tmps[4]?.getD undef = .pointer (some ⟨k, 0, none⟩) := by simpa using h4
  have hkv : (loadVar 24 ⟨k, 0, none⟩).run Try.prog w = .ok (.int .i64 e) w := by simp [go_sem, hk]
  simp [results, Try.results43, h2', h3', h4', asAddr, run_loadVar_row w g 37 37 cs (0, 0) _ hg Try.underlying37 rfl hi, hkv]

theorem dec_bad {l : List UInt8} {e : Nat} (h : decE l = e) (he : e ≠ 0) {w w' : World} {v : Value} (hv : v = .tuple #[.agg zeroS.cells, .int .i64 0, .int .i64 (e : Int)]) (hb : Below w.heap.size w w') : DecPost w l (.returned v) w' := by
  refine ⟨?_, hb⟩
  rw [hv, h]
  unfold decS decN
  rw [if_neg (by rw [h]; exact he), if_neg (by rw [h]; exact he)]
  rfl
theorem dec_good {l : List UInt8} (h : decE l = 0) {w w' : World} {v : Value} (hv : v = .tuple #[.agg (readS (bodyL l)).cells, .int .i64 (2 + ((bodyL l).length : Int)), .int .i64 0]) (hb : Below w.heap.size w w') : DecPost w l (.returned v) w' := by
  refine ⟨?_, hb⟩
  rw [hv, h]
  unfold decS decN
  rw [if_pos h, if_pos h, show ((2 + (bodyL l).length : Nat) : Int) = 2 + ((bodyL l).length : Int) from by omega]
  rfl

theorem cells_eq (s : Stat) : s.cells = #[.int .u16 (s.kind : Int), .int .u32 (s.dev : Int), .int .u8 (s.qt : Int), .int .u32 (s.qv : Int), .int .u64 (s.qp : Int), .int .u32 (s.mode : Int), .int .u32 (s.atm : Int), .int .u32 (s.mtm : Int), .int .u64 (s.len : Int), .string s.name, .string s.uid, .string s.gid, .string s.muid] := rfl

set_option maxHeartbeats 1600000 in
theorem decode_any (v : Value) (l : List UInt8) (w : World) (hv : BytesAt w v l) (hl : l.length ≤ 1000000000) : Calls Try.prog 43 #[v] w (DecPost w l) := by
  obtain ⟨a, c, rfl, _, _, _⟩ := hv.form
  have hb0 := ((Below.refl w.heap.size w).alloc (Nat.le_refl _) (.cells #[.int .u16 0, .int .u32 0, .int .u8 0, .int .u32 0, .int .u64 0, .int .u32 0, .int .u32 0, .int .u32 0, .int .u64 0, .string ⟨#[]⟩, .string ⟨#[]⟩, .string ⟨#[]⟩, .string ⟨#[]⟩] 37)).alloc (by simp) (.cells #[.int .i64 0] 24)
  have hv0 := hv.below hb0
  have htv := tv_lt 2 (l, 0) (by omega)
  go_enter_defers Try.func43, Try.ntmps43
  go_wp2_with fail
  refine (in_of_any _ l _ hv0 (by omega)).mono ?_
  rintro e w1 ⟨b, rfl, hge, hi1, hb1⟩
  have ha1 : InAt w1 b (l, 0) := hi1
  go_wp2_with fail
  refine (take_at b 2 (l, 0) _ (by omega) (by omega) (by omega) ha1).mono ?_
  rintro e w2 ⟨rfl, ha2, hs2⟩
  have l2 : (rd 2 (l, 0)).1.length ≤ l.length := rd_le 2 (l, 0)
  go_wp2_with fail
  refine (in_raw_step b (tv 2 (l, 0)) (rd 2 (l, 0)).1 (rd 2 (l, 0)).2 _ (by omega) (by omega) ha2).mono ?_
  rintro e w3 ⟨v3, rfl, hv3, hi3, hs3⟩
  have ha3 : InAt w3 b (rd (tv 2 (l, 0)) (rd 2 (l, 0))) := hi3
  have f3 := hb1.trans ((hs2.trans hs3).below.mono hge)
  go_wp2_with fail
  refine (err_at b _ _ ha3).mono ?_
  rintro e w4 ⟨rfl, rfl⟩
  obtain ⟨hcR, hfR⟩ := bcell f3
  have hR := f3.block w.heap.size (by simp; omega)
  have hK := f3.block (w.heap.size + 1) (by simp)
  rw [heap2] at hK
  rw [heap_alloc_old _ _ (by simp), heap_alloc_new] at hR
  have hz := f3.size
  have hz1 : w.heap.size + 1 < w3.heap.size := by simp at hz; omega
  have hz2 : w.heap.size < w3.heap.size := by omega
  have hbb := hid (hb0.trans (f3.mono (by simp; omega)))
  replace hR := hid hR
  replace hK := hid hK
  clear hs2 hs3 ha1 ha2 hi1 hi3 hb1
  by_cases hE4 : (rd (tv 2 (l, 0)) (rd 2 (l, 0))).2 = 0
  case neg =>
    have k0 : (((rd (tv 2 (l, 0)) (rd 2 (l, 0))).2 : Int) != 0) = true := by simpa using hE4
    have hD : Hid (decE l = 4) := hid (by unfold decE; rw [if_pos hE4])
    clear hE4
    go_wp2_with fail
    simp only [bodyPostD, Leaves]
    refine ⟨_, dec_results rfl rfl rfl ((block_set_other (by show _ ≠ _; simp)).trans (set13 hR.out rfl)) rfl (block_cell (block_set ((other13 (by omega)).trans hK.out) 0 _) 0), ?_⟩
    exact dec_bad hD.out (by omega) rfl ((below13 (Nat.le_refl _) hbb.out).setCell (by simp) _)
  have k0 : (((rd (tv 2 (l, 0)) (rd 2 (l, 0))).2 : Int) != 0) = false := by simpa using hE4
  have hD : Hid (decE l = if readE (bodyL l) then 0 else 2) := hid (by unfold decE; rw [if_neg (by simp [hE4])])
  clear hE4
  go_wp2_with fail
  refine (read_any _ _ _ hv3 (by have := rawL_le (tv 2 (l, 0)) (rd 2 (l, 0)).1 (rd 2 (l, 0)).2; omega)).mono ?_
  rintro e w5 ⟨he, hb5⟩
  have hR5 := (hb5.block w.heap.size (by omega)).trans hR.out
  have hK5 := (hb5.block (w.heap.size + 1) (by omega)).trans hK.out
  have hbb5 := hid (sn hbb.out hb5)
  have hz5 : w.heap.size + 1 < w5.heap.size := Nat.lt_of_lt_of_le hz1 hb5.size
  have hz6 : w.heap.size < w5.heap.size := by omega
  obtain ⟨hc5, hf5⟩ := bcell hb5
  replace hR5 := hid hR5
  replace hK5 := hid hK5
  by_cases hrE : readE (bodyL l) = true
  · have hD0 : Hid (decE l = 0) := hid (by rw [hD.out, if_pos hrE])
    have he2 := hid he
    rw [show readE (rawL (tv 2 (l, 0)) (rd 2 (l, 0)).1 (rd 2 (l, 0)).2) = true from hrE, if_pos rfl] at he
    clear he2 hrE
    subst he
    have hSS : Hid (readS (rawL (tv 2 (l, 0)) (rd 2 (l, 0)).1 (rd 2 (l, 0)).2) = readS (bodyL l)) := hid rfl
    rw [hSS.out]
    have hlen : Hid ((rawL (tv 2 (l, 0)) (rd 2 (l, 0)).1 (rd 2 (l, 0)).2).length = (bodyL l).length) := hid rfl
    obtain ⟨a3, c3, rfl, hc3, hc3', _⟩ := hv3.form
    rw [hlen.out] at hc3 ⊢
    have hdg := @dec_good l hD0.out
    replace hdg : Hid (∀ {w w' : World} {v : Value}, v = .tuple #[.agg (readS (bodyL l)).cells, .int .i64 (2 + ((bodyL l).length : Int)), .int .i64 0] → Below w.heap.size w w' → DecPost w l (.returned v) w') := hid hdg
    have hBL : (bodyL l).length ≤ 1000000000 := by have := rawL_le (tv 2 (l, 0)) (rd 2 (l, 0)).1 (rd 2 (l, 0)).2; unfold bodyL; omega
    generalize readS (bodyL l) = S at *
    rw [cells_eq S]
    unfold maxLen at hc3'
    go_wp2_with fail
    refine leaves_cons (f := 71) (args := #[.pointer (some ⟨w.heap.size + 1, 0, none⟩)]) (by simp) (by simp [go_sem]) ?_
    refine (ecaught_idle (w.heap.size + 1) _).mono ?_
    rintro en u' w'' ⟨rfl, rfl, rfl⟩
    simp only [settle]
    have hsz : ∀ (W : World) (o : Obj) (b : Nat) (x : Obj), W.heap[b]? = some x → (W.alloc o).heap[b]? = some x := fun W o b x h => (heap_alloc_old W o (lt_of_block h)).trans h
    refine ⟨_, dec_results rfl rfl rfl (hsz _ _ _ _ ((block_set_other (by show _ ≠ _; simp)).trans (set13 hR5.out rfl))) rfl (block_cell (hsz _ _ _ _ (block_set ((other13 (by omega)).trans hK5.out) 0 _)) 0), ?_⟩
    refine hdg.out rfl ?_
    exact ((below13 (Nat.le_refl _) hbb5.out).setCell (by simp) _).alloc (by simp [World.setCell]; omega) _
  · have hD0 : Hid (decE l = 2) := hid (by rw [hD.out, if_neg hrE])
    rw [show readE (rawL (tv 2 (l, 0)) (rd 2 (l, 0)).1 (rd 2 (l, 0)).2) = false from Bool.eq_false_iff.2 hrE] at he
    clear hrE
    simp only [Bool.false_eq_true, if_false] at he
    subst he
    go_wp2_with fail
    refine leaves_cons (f := 71) (args := #[.pointer (some ⟨w.heap.size + 1, 0, none⟩)]) (by simp) (by simp [go_sem]) ?_
    refine (ecaught_panicking (w.heap.size + 1) 0 2 _ hK5.out).mono ?_
    rintro en u' w'' ⟨rfl, rfl, rfl⟩
    simp only [settle, errChainR]
    refine ⟨_, dec_results rfl rfl rfl ((block_set_other (by show _ ≠ _; simp)).trans hR5.out) rfl (block_cell (block_set hK5.out 0 _) 0), ?_⟩
    exact dec_bad hD0.out (by omega) rfl (hbb5.out.setCell (by simp) _)
end Go.Proofs.Ytoblafeiidjaaaa
