/- What the body of the law ReadOne returns, for every arguments under the bounds that it names. No further condition. -/
import Derived.Test.YtoblafeiidjaaaaLawRead2
namespace Go.Proofs.Ytoblafeiidjaaaa
open Go.RowKit
set_option maxRecDepth 100000

theorem StatsAt.take {w : World} {a : Option Addr} {n c : Nat} {l : List Stat} (h : StatsAt w (.slice a n c) l) (k : Nat) (hk : k ≤ l.length) : StatsAt w (.slice a k c) (l.take k) := by
  obtain ⟨_, a', c', hv, h1, h2, h3, h5, h4⟩ := h
  cases hv
  have hfl : ∀ m : List Stat, (m.flatMap fun s => s.cells.toList).length = m.length * 13 := fun m => by
    induction m with
    | nil => rfl
    | cons s m ih => rw [List.flatMap_cons, List.length_append, ih]; simp [Stat.cells]; omega
  have hsplit : (l.flatMap fun s => s.cells.toList) = (l.take k).flatMap (fun s => s.cells.toList) ++ (l.drop k).flatMap (fun s => s.cells.toList) := by
    rw [← List.flatMap_append, List.take_append_drop]
  refine ⟨hfl _, a, c, by rw [List.length_take, Nat.min_eq_left hk], by rw [List.length_take]; omega, h2, h3, h5, fun i u hu => ?_⟩
  have hi : i < ((l.take k).flatMap fun s => s.cells.toList).length := by
    rcases Nat.lt_or_ge i ((l.take k).flatMap fun s => s.cells.toList).length with h | h
    · exact h
    · rw [List.getElem?_eq_none h] at hu; cases hu
  exact h4 i u (by rw [hsplit, List.getElem?_append_left hi]; exact hu)

theorem fit_one (s : Stat) (he : s.err = 0) (n k : Nat) (hn : s.bytes.length ≤ n) : fitB n [s] = s.bytes ∧ fitK n [s] k = k + 1 ∧ fitE n [s] = 0 := by
  have h : fillS n [s] [] 0 = (s.bytes, 1, 0) := by
    have : ¬ n < ([] : List UInt8).length + s.bytes.length := by simp; omega
    simp only [fillS]
    rw [if_neg (by simpa using he), if_neg this]; rfl
  unfold fitB fitK fitE
  rw [h]
  exact ⟨rfl, rfl, rfl⟩
theorem fit_none (s : Stat) (he : s.err = 0) (n k : Nat) (hn : n < s.bytes.length) : fitB n [s] = [] ∧ fitK n [s] k = k ∧ fitE n [s] = 0 := by
  have h : fillS n [s] [] 0 = ([], 0, 0) := by
    have : n < ([] : List UInt8).length + s.bytes.length := by simp; omega
    simp only [fillS]
    rw [if_neg (by simpa using he), if_pos this]
  unfold fitB fitK fitE
  rw [h]
  exact ⟨rfl, rfl, rfl⟩

theorem StatCells.below {w w' : World} {b o : Nat} {s : Stat} (h : StatCells w b o s) (hb : Below w.heap.size w w') (hlt : b < w.heap.size) : StatCells w' b o s := by
  unfold StatCells at h ⊢
  have hc : ∀ i, w'.cell? ⟨b, i, none⟩ = w.cell? ⟨b, i, none⟩ := fun i => hb.cell (p := ⟨b, i, none⟩) hlt
  simp only [hc]
  exact h
theorem StatCells.lt {w : World} {b o : Nat} {s : Stat} (h : StatCells w b o s) : b < w.heap.size := by
  have h0 := h.1
  rcases Nat.lt_or_ge b w.heap.size with h | h
  · exact h
  · simp [World.cell?, Array.getElem?_eq_none h] at h0

theorem few_of {L : List Stat} (h : few22 L = true) : L.length ≤ 40 ∧ ∀ s ∈ L, Few s := by
  simp only [few22, Bool.and_eq_true, decide_eq_true_eq, List.all_eq_true, fewB] at h
  exact h

theorem one_drop (L : List Stat) (k : Nat) (h : k < L.length) : (L.take (k + 1)).drop k = [L[k]] := by
  rw [List.take_succ_eq_append_getElem h, List.drop_append_of_le_length (by rw [List.length_take]; omega)]
  rw [List.drop_eq_nil_of_le (by rw [List.length_take]; omega)]
  rfl

set_option maxHeartbeats 1600000 in
theorem law_ReadOne (L : List Stat) (v : Value) (n : Nat) (w : World) (hL : StatsAt w v L) (hok : ∀ s ∈ L, StatOk s) (hn : n < 256) :
    Calls Try.prog 4 #[v, .int .u8 (n : Int)] w fun e w' => e = .returned (.bool true) ∧ Below w.heap.size w w' := by
  obtain ⟨a, c, rfl, hc1, hc2⟩ := hL.form
  unfold maxLen at hc2
  go_enter Try.func4, Try.ntmps4
  go_wp2_with fail
  refine (known22_any _).mono ?_
  rintro e w1 ⟨rfl, hb1⟩
  go_wp2_with fail
  refine (few22_any L _ _ (hL.below hb1) hok).mono ?_
  rintro e w2 ⟨rfl, hb2⟩
  have fb2 := hb1.trans (hb2.mono hb1.size)
  clear hb1 hb2
  by_cases hf : few22 L = true
  · obtain ⟨h40, hfew⟩ := few_of hf
    rw [hf]
    clear hf
    by_cases h0 : L.length = 0
    · have k0 : ((L.length : Int) == 0) = true := by simp [h0]
      go_wp2_with fail
      go_ret
      exact ⟨rfl, fb2⟩
    · have k0 : ((L.length : Int) == 0) = false := by simp; intro h; subst h; simp at h0
      obtain ⟨k, hkk⟩ : ∃ k, k = n % L.length := ⟨_, rfl⟩
      have hmod : (n : Int) % (L.length : Int) = (k : Int) := by rw [hkk]; rfl
      have hlt : k < L.length := by rw [hkk]; exact Nat.mod_lt _ (by omega)
      have hd := one_drop L k hlt
      have hst := hok L[k] (List.getElem_mem hlt)
      have hfs := hfew L[k] (List.getElem_mem hlt)
      replace hkk := hid hkk
      have hLt := hL.take (k + 1) (by omega)
      have hokt : ∀ s ∈ L.take (k + 1), StatOk s ∧ Few s := fun s hs => ⟨hok s (List.mem_of_mem_take hs), hfew s (List.mem_of_mem_take hs)⟩
      have hlt1 : (L.take (k + 1)).length = k + 1 := by rw [List.length_take]; omega
      obtain ⟨bb, o, rfl, hq⟩ := (hL.below fb2).cells k hlt
      generalize L[k] = s at hd hst hfs hq
      have hql := hq.lt
      have hqh := hid hq
      obtain ⟨q0, q1, q2, q3, q4, q5, q6, q7, q8, q9, q10, q11, q12⟩ := hq
      replace hd := hid hd
      replace hlt1 := hid hlt1
      go_wp2_with fail
      refine (encode_any s _ hst hfs).mono ?_
      rintro e w3 ⟨v3, rfl, hv3, hb3⟩
      obtain ⟨a3, c3, rfl, _, _, _⟩ := hv3.form
      by_cases he : s.err = 0
      · have fb3 := fb2.trans (hb3.mono fb2.size)
        have hq3 := hqh.out.below hb3 hql
        clear q0 q1 q2 q3 q4 q5 q6 q7 q8 q9 q10 q11 q12 hqh hb3
        obtain ⟨q0, q1, q2, q3, q4, q5, q6, q7, q8, q9, q10, q11, q12⟩ := hq3
        have hbl := bytes_len s
        rw [if_pos he] at hbl
        have hs49 : 49 ≤ s.size ∧ s.size ≤ 849 := by obtain ⟨h1, h2, h3, h4⟩ := hfs; unfold Stat.size; omega
        have hf1 := hid (fit_one s he s.size k (by omega))
        have hf2 := hid (fit_none s he (s.size - 1) k (by omega))
        have he0 : (s.err : Int) = 0 := by omega
        rw [he0]
        rw [hbl] at hv3 ⊢
        clear he0
        replace he := hid he
        replace hbl := hid hbl
        go_wp2_with fail
        refine (size_any s _ hfs).mono ?_
        rintro e w4 ⟨rfl, hb4⟩
        have fb4 := fb3.trans (hb4.mono fb3.size)
        have hv4 := hv3.below hb4
        clear q0 q1 q2 q3 q4 q5 q6 q7 q8 q9 q10 q11 q12 hb4
        have hc1 := fit_in (L.take (k + 1)) _ k s.size w4 (hLt.below fb4) (by rw [hlt1.out]; omega) (by omega) hokt (by rw [hlt1.out]; omega)
        rw [hd.out, hf1.out.1, hf1.out.2.1, hf1.out.2.2] at hc1
        replace hc1 := hid hc1
        go_wp2_with fail
        refine hc1.out.mono ?_
        rintro e w5 ⟨v5, rfl, hv5, hb5⟩
        have fb5 := fb4.trans (hb5.mono fb4.size)
        have hc2 := fit_in (L.take (k + 1)) _ k (s.size - 1) w5 (hLt.below fb5) (by rw [hlt1.out]; omega) (by omega) hokt (by rw [hlt1.out]; omega)
        rw [hd.out, hf2.out.1, hf2.out.2.1, hf2.out.2.2, show ((s.size - 1 : Nat) : Int) = (s.size : Int) - 1 by omega] at hc2
        replace hc2 := hid hc2
        replace hv4 := hv4.below hb5
        clear hb5 hc1
        go_wp2_with fail
        refine hc2.out.mono ?_
        rintro e w6 ⟨v6, rfl, hv6, hb6⟩
        have fb6 := fb5.trans (hb6.mono fb5.size)
        replace hv4 := hv4.below hb6
        replace hv5 := hv5.below hb6
        clear hb6 hc2
        have hv4' : BytesAt w6 (.slice a3 s.bytes.length c3) s.bytes := by rw [hbl.out]; exact hv4
        have cv4 := conv_string w6 _ _ hv4
        have cv5 := conv_string w6 _ _ hv5
        obtain ⟨a6, c6, rfl, _, _, _⟩ := hv6.form
        go_wp2_with fail
        go_ret
        exact ⟨ret_bool (by simp), fb6⟩
      · have k1 : ((s.err : Int) != 0) = true := by simpa using he
        have fb3 := fb2.trans (hb3.mono fb2.size)
        replace he := hid he
        go_wp2_with fail
        go_ret
        exact ⟨rfl, fb3⟩
  · have hf2 : few22 L = false := by simpa using hf
    rw [hf2]
    clear hf hf2
    go_wp2_with fail
    go_ret
    exact ⟨rfl, fb2⟩
end Go.Proofs.Ytoblafeiidjaaaa
