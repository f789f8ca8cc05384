/- What the functions of dread do, for every records whose texts are at most 200 bytes each. No further condition. -/
import Derived.Test.YtoblafeiidjaaaaDread0
namespace Go.Proofs.Ytoblafeiidjaaaa
open Go.RowKit
set_option maxRecDepth 100000

theorem head_len (s : Stat) : s.head.length = 39 := by unfold Stat.head; simp [numBytes_length, qidBytes_length]
theorem bytes_len (s : Stat) : s.bytes.length = if s.err = 0 then s.size else 0 := by
  unfold Stat.bytes
  split
  · rw [List.length_append, List.length_append, head_len, numBytes_length]
    unfold Stat.texts Stat.size
    simp only [textsBytes, List.length_append, putText_length, List.length_nil]
    omega
  · rfl
theorem bytes_le (s : Stat) (h : Few s) : s.bytes.length ≤ 849 := by
  rw [bytes_len]
  obtain ⟨h1, h2, h3, h4⟩ := h
  unfold Stat.size
  split <;> omega

theorem row_store {w' : World} {r m n most err : Nat} {va v2 : Value} {xs : List UInt8} {vs : List Value} (hb : w'.heap[r]? = some (.cells #[va, .int .i64 (n : Int), .int .u64 (most : Int), .int .i64 (err : Int)] 95 (0, 0)))
    (h2 : w'.ownsRow (r + 1) 5 1 v2 m vs) (hvs : vs = xs.map byteV) : RowIs (w'.setCell ⟨r, 0, none⟩ v2) r xs n most err := by
  subst hvs
  have hn : m = xs.length := by have := h2.1; simp at this; exact this.symm
  subst hn
  exact ⟨v2, block_set hb 0 _, ownsRow_setCell_below h2 (by show r < r + 1; omega) _⟩

set_option maxHeartbeats 1600000 in
theorem fill_any (r most : Nat) (L : List Stat) (v : Value) (w0 w : World) (hL : StatsAt w0 v L) (h0 : Below w0.heap.size w0 w) (hr : w0.heap.size ≤ r) (_hm : most < 18446744073709551616)
    (hok : ∀ s ∈ L, StatOk s ∧ Few s) (hlen : L.length ≤ 1000) (ho : RowIs w r [] 0 most 0) :
    Calls Try.prog 50 #[.pointer (some ⟨r, 0, none⟩), v] w fun e w' => e = .returned (.tuple #[]) ∧ RowIs w' r (fillS most L [] 0).1 (fillS most L [] 0).2.1 most (fillS most L [] 0).2.2 ∧ Below r w w' := by
  obtain ⟨a, c, rfl, hc1, hc2⟩ := hL.form
  go_enter_defers Try.func50, Try.ntmps50
  go_wp2_with fail
  go_loopw [11] (fun i wr => ∃ (k : Nat) (ys : List UInt8), k ≤ L.length ∧ i = .int .i64 (k : Int) ∧ RowIs wr r ys k most 0 ∧ Below r w wr ∧ ys.length ≤ k * 900 ∧ Hid (fillS most L [] 0 = fillS most (L.drop k) ys k)) (fun i _ => L.length - (intOf i).toNat)
  case atStart => exact ⟨0, [], by omega, rfl, ho, Below.refl _ _, by simp, hid rfl⟩
  case round =>
    obtain ⟨k, ys, hk, rfl, ho, hbl, hyl, hfs⟩ := hrel
    by_cases hlt : k < L.length
    · have hbw : Below w0.heap.size w0 wr := h0.trans (hbl.mono hr)
      obtain ⟨bb, o, rfl, hcell⟩ := (hL.below hbw).cells k hlt
      have hst := hok L[k] (List.getElem_mem hlt)
      have hfs2 : fillS most (L.drop k) ys k = if (L[k]).err ≠ 0 then (ys, k, (L[k]).err) else if most < ys.length + (L[k]).bytes.length then (ys, k, 0) else fillS most (L.drop (k + 1)) (ys ++ (L[k]).bytes) (k + 1) := by
        rw [List.drop_eq_getElem_cons hlt]; rfl
      replace hfs2 := hid (hfs.out.trans hfs2)
      clear hfs
      generalize L[k] = s at hcell hst hfs2
      obtain ⟨q0, q1, q2, q3, q4, q5, q6, q7, q8, q9, q10, q11, q12⟩ := hcell
      obtain ⟨va, hb, hown⟩ := ho
      have hblt := lt_of_block hb
      have hlen3 := bytes_le s hst.2
      have ho := hid (show RowIs wr r ys k most 0 from ⟨va, hb, hown⟩)
      clear hb hown
      go_wp2_with fail
      refine (encode_any s _ hst.1 hst.2).mono ?_
      rintro e w1 ⟨v1, rfl, hv1, hb1⟩
      have hbx := ((Below.refl wr.heap.size wr).alloc (Nat.le_refl _) (.cells s.cells 37)).trans (hb1.mono (by simp))
      have ho1 := ho.out.below hbx
      have hbl1 := hbl.trans (hbx.mono (Nat.le_of_lt hblt))
      clear hb1 hbx ho
      obtain ⟨a1, c1, rfl, hc1', hd1', _⟩ := hv1.form
      clear q0 q1 q2 q3 q4 q5 q6 q7 q8 q9 q10 q11 q12
      by_cases he : s.err = 0
      · have k0 : ((s.err : Int) != 0) = false := by simpa using he
        obtain ⟨va, hb, hown⟩ := ho1
        have hsum : IntKind.i64.wrap ((ys.length : Int) + (s.bytes.length : Int)) = ((ys.length + s.bytes.length : Nat) : Int) := by rw [IntWalk.i64_in _ (by omega)]; omega
        have hconv : IntKind.u64.wrap ((ys.length + s.bytes.length : Nat) : Int) = ((ys.length + s.bytes.length : Nat) : Int) := by rw [IntWalk.u64_in _ (by omega)]
        have hc0 : w1.cell? ⟨r, 0, none⟩ = some va := block_cell hb 0
        have hc2 : w1.cell? ⟨r, 0 + 2, none⟩ = some (.int .u64 (most : Int)) := block_cell hb 2
        obtain ⟨a2, c2, rfl⟩ := own_form hown
        have hob := hid (show RowIs w1 r ys k most 0 from ⟨_, hb, hown⟩)
        replace hb := hid hb
        have hbl2 : ∀ nq, Below r w (w1.drewN nq) := fun nq => bdrewN hbl1 nq
        by_cases hfull : most < ys.length + s.bytes.length
        · have k1 : decide ((most : Int) < (ys.length : Int) + (s.bytes.length : Int)) = true := by simp; omega
          have hfin := hid (hfs2.out.trans (by rw [if_neg (by simpa using he), if_pos hfull]))
          replace hfull := hid hfull
          go_wp2_with fail
          go_quiet (fail)
          go_wp2_with fail
          refine leaves_cons (f := 74) (args := #[.pointer (some ⟨r, 0, none⟩)]) (by simp) (by simp [go_sem]) ?_
          refine (row_caught_full r _).mono ?_
          rintro en u' w'' ⟨rfl, rfl, rfl⟩
          simp only [settle, fullChainR]
          exact ⟨_, results_none rfl _ _ _, rfl, by rw [hfin.out]; exact hob.out, hbl2 _⟩
        · have k1 : decide ((most : Int) < (ys.length : Int) + (s.bytes.length : Int)) = false := by simp; omega
          have hfin := hid (hfs2.out.trans (by rw [if_neg (by simpa using he), if_neg hfull]))
          replace hfull := hid hfull
          go_wp2_with fail
          go_quiet (fail)
          have hownD : (w1.drewN nq).ownsRow (r + 1) 5 1 (.slice a2 ys.length c2) ys.length (ys.map byteV) := hown
          have hvD : RowAt (w1.drewN nq) 1 (.slice a1 s.bytes.length c1) s.bytes.length (s.bytes.map byteV) := hv1
          have hbD : (w1.drewN nq).heap[r]? = some (.cells #[.slice a2 ys.length c2, .int .i64 (k : Int), .int .u64 (most : Int), .int .i64 ((0 : Nat) : Int)] 95 (0, 0)) := hb.out
          have hltD := lt_of_block hbD
          replace hbD := hid hbD
          have hb2D := hbl2 nq
          generalize w1.drewN nq = wd at hownD hvD hbD hltD hb2D
          have hcD : wd.cell? ⟨r, 0, none⟩ = some (.slice a2 ys.length c2) := block_cell hbD.out 0
          go_wp2_with (at_builtin; refine wpList_append_rowl elemU8 _ rfl (.tmp 44) (.tmp 45) rfl (r + 1) (.slice a2 ys.length c2) ys.length (ys.map byteV) rfl hownD (.slice a1 s.bytes.length c1) s.bytes.length (s.bytes.map byteV) rfl hvD (bytes_oneCell s.bytes) (by unfold maxLen; omega) (by omega) (by omega) ?_)
          intro a' c' w2 h2 h3 h4
          have hb' := (h3.block r hltD (own_ne hownD)).trans hbD.out
          have hc' : w2.cell? ⟨r, 0, none⟩ = some (.slice a2 ys.length c2) := block_cell hb' 0
          have hf' : w2.frozen? ⟨r, 0, none⟩ = false := block_free hb' 0
          have hst := row_store (xs := ys ++ s.bytes) hb' h2 (by simp)
          have hbs := (hb2D.grown h3 (Nat.le_of_lt hltD) (fun j hj => by have := (hownD.lt j hj).1; omega)).setCell (p := ⟨r, 0, none⟩) (Nat.le_refl _) (.slice a' (ys.length + s.bytes.length) c')
          replace hb' := hid hb'
          clear h2 h3 h4
          have hc1' : (w2.setCell ⟨r, 0, none⟩ (.slice a' (ys.length + s.bytes.length) c')).cell? ⟨r, 0 + 1, none⟩ = some (.int .i64 (k : Int)) := by obtain ⟨_, hh, _⟩ := hst; exact block_cell hh 1
          have hf1' : (w2.setCell ⟨r, 0, none⟩ (.slice a' (ys.length + s.bytes.length) c')).frozen? ⟨r, 0 + 1, none⟩ = false := by obtain ⟨_, hh, _⟩ := hst; exact block_free hh 1
          have hst2 := row_set_n (k := k + 1) hst
          have hbs2 := hbs.setCell (p := ⟨r, 0 + 1, none⟩) (Nat.le_refl _) (.int .i64 ((k + 1 : Nat) : Int))
          have hcast : (((k + 1 : Nat) : Int)) = (k : Int) + 1 := by omega
          rw [hcast] at hbs2 hst2
          go_wp2_with fail
          exact ⟨⟨k + 1, ys ++ s.bytes, by omega, by go_num, hst2, hbs2, by rw [List.length_append]; omega, hfin⟩, by simp [intOf]; omega⟩
      · have k0 : ((s.err : Int) != 0) = true := by simpa using he
        have hfin := hid (hfs2.out.trans (by rw [if_pos (by simpa using he)]))
        replace he := hid he
        go_wp2_with fail
        refine leaves_cons (f := 74) (args := #[.pointer (some ⟨r, 0, none⟩)]) (by simp) (by simp [go_sem]) ?_
        refine (row_caught_err r ys k most 0 s.err _ ho1).mono ?_
        rintro en u' w'' ⟨rfl, rfl, hi, hbb⟩
        simp only [settle, errChainR]
        exact ⟨_, results_none rfl _ _ _, rfl, by rw [hfin.out]; exact hi, hbl1.trans hbb⟩
    · obtain rfl : k = L.length := by omega
      have hfin := hid (hfs.out.trans (by rw [List.drop_length, fillS]))
      go_wp2_with fail
      refine leaves_cons (f := 74) (args := #[.pointer (some ⟨r, 0, none⟩)]) (by simp) (by simp [go_sem]) ?_
      refine (row_caught_idle r _).mono ?_
      rintro en u' w'' ⟨rfl, rfl, rfl⟩
      simp only [settle]
      exact ⟨_, results_none rfl _ _ _, rfl, by rw [hfin.out]; exact ho, hbl⟩
end Go.Proofs.Ytoblafeiidjaaaa
