/- Cut of package tree. Conditions: what TrOk asks.
Put of package tree. Conditions: what TrOk asks.
Reap of package tree. Conditions: what TrOk asks. -/
import Derived.Test.YtkefjeabckainaaGreatFaB09
namespace Go.Proofs.YtkefjeabckainaaGreat
section
open Go.RowKit
set_option maxRecDepth 100000
set_option linter.unusedVariables false

structure TrOk (l : List Nod) : Prop where
  sort : SortL l
  few : l.length ≤ 80
  ok : ∀ n ∈ l, NodOk n
  low : ∀ n ∈ l, 1 ≤ n.path
  len : ∀ n ∈ l, n.data.size ≤ 5000
theorem bytes_mem {l : List Nod} {n : Nod} (h : n ∈ l) : n.data.size ≤ bytesL l := by
  induction l with
  | nil => cases h
  | cons a l ih =>
    rw [bytes_cons]
    rcases List.mem_cons.1 h with e | e
    · rw [e]; omega
    · have := ih e; omega

set_option maxHeartbeats 6400000 in
theorem tcut_any (v : Value) (x : Nat) (l : List Nod) (p size : Nat) (who : ByteArray) (now : Nat) (w : World) (hv : NodsAt w v l) (ht : TrOk l) (hsz : size < 18446744073709551616) :
    Calls Tryz.prog 60 #[.agg #[.int .u64 (x : Int), v], .int .u64 (p : Int), .int .u64 (size : Int), .string who, .int .u32 (now : Int)] w (TreeErr w (cutT ⟨x, l⟩ p size who now)) := by
  obtain ⟨a, c, rfl, g1, g2⟩ := hv.form
  unfold maxLen at g2
  obtain ⟨W, hW⟩ : ∃ W, W = (w.alloc (.cells #[.int .u64 (x : Int), .slice a l.length c] 30)).alloc (.cells #[.int .u64 0, .slice none 0 0] 30) := ⟨_, rfl⟩
  have hb0 : Below w.heap.size w W := by rw [hW]; exact ((Below.refl w.heap.size w).alloc (Nat.le_refl _) _).alloc (by simp) _
  have hx0 : W.heap[w.heap.size]? = some (.cells #[.int .u64 (x : Int), .slice a l.length c] 30 (0, 0)) := by rw [hW, heap_alloc_old _ _ (by simp), heap_alloc_new]
  have hy0 : W.heap[w.heap.size + 1]? = some (.cells #[.int .u64 0, .slice none 0 0] 30 (0, 0)) := by rw [hW]; exact heap2 _ _ _
  have hfi := hid (file_any _ x l p W (hv.below hb0) ht.sort (by have := ht.few; omega) ht.ok)
  have hap := hid (fun X (h : NodsAt X (.slice a l.length c) l) => apart_any _ x l X h (by have := ht.few; omega) ht.low)
  have e0 := block_cell hx0 0
  have e1 := block_cell hx0 1
  have hv0 := hid (hv.below hb0)
  replace hb0 := hid hb0
  replace hx0 := hid hx0
  replace hy0 := hid hy0
  go_enter Tryz.func60, Tryz.ntmps60
  go_upto_region 1 with (rw [← hW]; replace hW := hid hW)
  try (rw [← hW]; replace hW := hid hW)
  go_wp2_with fail
  refine hfi.out.mono ?_
  rintro e w2 ⟨rfl, hb2⟩
  have hB2 := hid (sn hb0.out hb2)
  have hs2 := hid (lt_of_block ((hb2.block _ (lt_of_block hy0.out)).trans hy0.out))
  obtain ⟨n, hn⟩ : ∃ n, n = getN l p := ⟨_, rfl⟩
  have hnew := hid (heap_alloc_new w2 (.cells zeroNod.cells 89))
  obtain ⟨X, hX⟩ : ∃ W, W = boxN w2 n := ⟨_, rfl⟩
  have hbX : Below w2.heap.size w2 X := by rw [hX]; exact boxN_below _ _
  have hBX := hid (sn hB2.out hbX)
  have hA : TrSt w.heap.size w2.heap.size (w.heap.size + 1) x (.slice a l.length c) l n X :=
    ⟨(hbX.block _ (by have := hs2.out; omega)).trans ((hb2.block _ (lt_of_block hx0.out)).trans hx0.out), by rw [hX]; exact boxN_heap _ _, (hbX.block _ hs2.out).trans ((hb2.block _ (lt_of_block hy0.out)).trans hy0.out), (hv0.out.below hb2).below hbX⟩
  have hapc := hid (hap.out X hA.row)
  have q0 := hA.t0
  have q1 := hA.t1
  unfold boxN at hX
  rw [zeroNod_cells] at hX hnew
  rw [← hn]
  clear hb2 hbX hfi hap e0 e1 hB2 hx0 hy0 hv0 hb0
  replace hA := hid hA
  replace hn := hid hn
  go_upto_region 2 with (first
    | (rw [← hX]; replace hX := hid hX)
    | (refine wpList_store_row (by rfl) 89 (.tmp 12) (.tmp 18) (by rfl) w2.heap.size n.cells (by rfl) (by rfl) 89 _ hnew.out (by kernel_rfl) (by kernel_rfl) (nod_one n) ?_))
  try (rw [← hX]; replace hX := hid hX)
  clear hnew
  generalize w2.heap.size = z at *
  cases hg : getL l p with
  | none =>
    have hdE := hid (show cutT ⟨x, l⟩ p size who now = (⟨x, l⟩, 6) by unfold cutT; rw [hg])
    have hfe : fileE l p = 6 := by unfold fileE; rw [hg]
    rw [hfe]
    clear hfe hg
    go_wp2_with fail
    refine hapc.out.mono ?_
    rintro e w9 ⟨v9, rfl, hv9, hf9, hb9⟩
    have hres := hid (hA.out.below hb9).res
    have hB9 := hid (sn hBX.out hb9)
    have hsz := hid hBX.out.size
    have hlt := hid (lt_of_block hA.out.res)
    have hN := hid (NodsAt.other (w' := w9.setRow (w.heap.size + 1) #[.int .u64 (x : Int), v9]) hv9 (w.heap.size + 1) (fun e => by have := hf9 _ e; have := hlt.out; omega) (by simp) (fun k hk => setRow_other _ _ _ _ hk))
    have hF := hid (show ∀ k, v9.ownBlock = some k → w.heap.size ≤ k from fun k hk => Nat.le_trans hsz.out (hf9 k hk))
    obtain ⟨a9, c9, rfl, _, _⟩ := hv9.form
    clear hb9 hv9 hf9 hapc q0 q1
    go_wp2_with (refine wpList_store_row (by rfl) 30 (.tmp 10) (.tmp 29) (by rfl) (w.heap.size + 1) #[.int .u64 (x : Int), .slice a9 l.length c9] (by rfl) (by rfl) 30 _ hres.out (by kernel_rfl) (by kernel_rfl) (by kernel_rfl) ?_)
    refine bodyPost_ret (results_cs rfl _ _ (w.heap.size + 1) _ _ _ _ _ rfl rfl (setRow_heap _ _ _ #[.int .u64 (x : Int), .slice a9 l.length c9] _ _ hres.out) Tryz.underlying30 rfl (by kernel_rfl)) rfl ?_
    refine ⟨.slice a9 l.length c9, ?_, ?_, hF.out, below_setRow hB9.out (by omega) _⟩
    · rw [hdE.out]; rfl
    · rw [hdE.out]; exact hN.out
  | some y =>
    have hny : n = y := by rw [hn.out]; unfold getN; rw [hg]; rfl
    subst hny
    obtain ⟨hmem, hpath⟩ := getL_some hg
    cases hdb : dirB n with
    | true =>
      have hdE := hid (show cutT ⟨x, l⟩ p size who now = (⟨x, l⟩, 12) by unfold cutT; rw [hg]; simp only; rw [hdb]; rfl)
      have hfe : fileE l p = 12 := by unfold fileE; rw [hg]; simp only; rw [hdb]; rfl
      rw [hfe]
      clear hfe hg hdb
      go_wp2_with fail
      refine hapc.out.mono ?_
      rintro e w9 ⟨v9, rfl, hv9, hf9, hb9⟩
      have hres := hid (hA.out.below hb9).res
      have hB9 := hid (sn hBX.out hb9)
      have hsz := hid hBX.out.size
      have hlt := hid (lt_of_block hA.out.res)
      have hN := hid (NodsAt.other (w' := w9.setRow (w.heap.size + 1) #[.int .u64 (x : Int), v9]) hv9 (w.heap.size + 1) (fun e => by have := hf9 _ e; have := hlt.out; omega) (by simp) (fun k hk => setRow_other _ _ _ _ hk))
      have hF := hid (show ∀ k, v9.ownBlock = some k → w.heap.size ≤ k from fun k hk => Nat.le_trans hsz.out (hf9 k hk))
      obtain ⟨a9, c9, rfl, _, _⟩ := hv9.form
      clear hb9 hv9 hf9 hapc q0 q1
      go_wp2_with (refine wpList_store_row (by rfl) 30 (.tmp 10) (.tmp 29) (by rfl) (w.heap.size + 1) #[.int .u64 (x : Int), .slice a9 l.length c9] (by rfl) (by rfl) 30 _ hres.out (by kernel_rfl) (by kernel_rfl) (by kernel_rfl) ?_)
      refine bodyPost_ret (results_cs rfl _ _ (w.heap.size + 1) _ _ _ _ _ rfl rfl (setRow_heap _ _ _ #[.int .u64 (x : Int), .slice a9 l.length c9] _ _ hres.out) Tryz.underlying30 rfl (by kernel_rfl)) rfl ?_
      refine ⟨.slice a9 l.length c9, ?_, ?_, hF.out, below_setRow hB9.out (by omega) _⟩
      · rw [hdE.out]; rfl
      · rw [hdE.out]; exact hN.out
    | false =>
      have hfe : fileE l p = 0 := by unfold fileE; rw [hg]; simp only; rw [hdb]; rfl
      have hdT := hid (show cutT ⟨x, l⟩ p size who now = if 4096 < size then (⟨x, l⟩, 3) else dataT ⟨x, l⟩ n (strL (padL n.data.data.toList size)) who now by unfold cutT; rw [hg]; simp only; rw [hdb]; rfl)
      rw [hfe]
      by_cases h4 : 4096 < size
      · have hdE := hid (show cutT ⟨x, l⟩ p size who now = (⟨x, l⟩, 3) by rw [hdT.out, if_pos h4])
        have h5 : (4096 : Int) < (size : Int) := by omega
        clear hfe hg hdb
        go_wp2_with fail
        refine hapc.out.mono ?_
        rintro e w9 ⟨v9, rfl, hv9, hf9, hb9⟩
        have hres := hid (hA.out.below hb9).res
        have hB9 := hid (sn hBX.out hb9)
        have hsz := hid hBX.out.size
        have hlt := hid (lt_of_block hA.out.res)
        have hN := hid (NodsAt.other (w' := w9.setRow (w.heap.size + 1) #[.int .u64 (x : Int), v9]) hv9 (w.heap.size + 1) (fun e => by have := hf9 _ e; have := hlt.out; omega) (by simp) (fun k hk => setRow_other _ _ _ _ hk))
        have hF := hid (show ∀ k, v9.ownBlock = some k → w.heap.size ≤ k from fun k hk => Nat.le_trans hsz.out (hf9 k hk))
        obtain ⟨a9, c9, rfl, _, _⟩ := hv9.form
        clear hb9 hv9 hf9 hapc q0 q1
        go_wp2_with (refine wpList_store_row (by rfl) 30 (.tmp 10) (.tmp 29) (by rfl) (w.heap.size + 1) #[.int .u64 (x : Int), .slice a9 l.length c9] (by rfl) (by rfl) 30 _ hres.out (by kernel_rfl) (by kernel_rfl) (by kernel_rfl) ?_)
        refine bodyPost_ret (results_cs rfl _ _ (w.heap.size + 1) _ _ _ _ _ rfl rfl (setRow_heap _ _ _ #[.int .u64 (x : Int), .slice a9 l.length c9] _ _ hres.out) Tryz.underlying30 rfl (by kernel_rfl)) rfl ?_
        refine ⟨.slice a9 l.length c9, ?_, ?_, hF.out, below_setRow hB9.out (by omega) _⟩
        · rw [hdE.out]; rfl
        · rw [hdE.out]; exact hN.out
      · have hdE := hid (show cutT ⟨x, l⟩ p size who now = dataT ⟨x, l⟩ n (strL (padL n.data.data.toList size)) who now by rw [hdT.out, if_neg h4])
        have h5 : (size : Int) ≤ 4096 := by omega
        have h6 : ¬ (4096 : Int) < (size : Int) := by omega
        have hnok := ht.ok n hmem
        have hnl := ht.len n hmem
        have hfil := hid (fun Z => filled_any n.data size Z (by omega) (by omega))
        have hdat : Hid (∀ Z b, NodsAt Z (.slice a l.length c) l → b.size ≤ 1000000 → Calls Tryz.prog 96 #[.agg #[.int .u64 (x : Int), .slice a l.length c], .agg #[.int .u64 (n.path : Int), .int .u32 (n.vers : Int), .int .u32 (n.mode : Int), .int .u32 (n.atm : Int), .int .u32 (n.mtm : Int), .string n.name, .string n.uid, .string n.gid, .string n.muid, .int .u64 (n.up : Int), .bool n.gone, .string n.data], .string b, .string who, .int .u32 (now : Int)] Z (TreeErr Z (dataT ⟨x, l⟩ n b who now))) := hid (fun Z b h hb => data_any _ x l n b who now Z h ht.sort (by have := ht.few; omega) ht.ok hnok ht.low (fun m hm => by have := ht.len m hm; omega) (by rw [hpath, hg]; rfl) (bytes_mem hmem) hb)
        clear hfe hdb hapc hdT hg
        have hbs : (strL (padL n.data.data.toList size)).size ≤ 1000000 := by rw [strL_size, padL_length]; omega
        obtain ⟨nb, hnb⟩ : ∃ nb, nb = strL (padL n.data.data.toList size) := ⟨_, rfl⟩
        rw [← hnb] at hfil hdE hbs
        obtain ⟨r, hr⟩ : ∃ r, r = dataT ⟨x, l⟩ n nb who now := ⟨_, rfl⟩
        replace hdat := hid (fun Z (h : NodsAt Z (.slice a l.length c) l) => hdat.out Z nb h hbs)
        rw [← hr] at hdE hdat
        replace hr := hid hr
        replace hbs := hid hbs
        replace hnb := hid hnb
        replace hmem := hid hmem
        replace hpath := hid hpath
        replace ht := hid ht
        replace hv := hid hv
        replace hnok := hid hnok
        have ksz : IntKind.i64.wrap (size : Int) = (size : Int) := IntWalk.i64_in _ (by omega)
        go_wp2_with fail
        clear h4 h5 h6 q0 q1
        have hzX := hid (lt_of_block hA.out.res)
        have hA := hA.out.below ((Below.refl X.heap.size X).drew)
        have q0 := hA.t0
        have q1 := hA.t1
        obtain ⟨d0, d1, d2, d3, d4, d5, d6, d7, d8, d9, d10, d11⟩ := nodS hA.nd
        have hBd := hid (sn hBX.out ((Below.refl X.heap.size X).drew))
        go_region_held3 (fun w' => w'.cell? ⟨w.heap.size, 0, none⟩ = some (.int .u64 (x : Int)) ∧ w'.cell? ⟨w.heap.size, 1, none⟩ = some (.slice a l.length c) ∧ w'.cell? ⟨z, 0, none⟩ = some (.int .u64 (n.path : Int)) ∧ w'.cell? ⟨z, 1, none⟩ = some (.int .u32 (n.vers : Int)) ∧ w'.cell? ⟨z, 2, none⟩ = some (.int .u32 (n.mode : Int)) ∧ w'.cell? ⟨z, 3, none⟩ = some (.int .u32 (n.atm : Int)) ∧ w'.cell? ⟨z, 4, none⟩ = some (.int .u32 (n.mtm : Int)) ∧ w'.cell? ⟨z, 5, none⟩ = some (.string n.name) ∧ w'.cell? ⟨z, 6, none⟩ = some (.string n.uid) ∧ w'.cell? ⟨z, 7, none⟩ = some (.string n.gid) ∧ w'.cell? ⟨z, 8, none⟩ = some (.string n.muid) ∧ w'.cell? ⟨z, 9, none⟩ = some (.int .u64 (n.up : Int)) ∧ w'.cell? ⟨z, 10, none⟩ = some (.bool n.gone) ∧ w'.cell? ⟨z, 11, none⟩ = some (.string n.data))
          (first | exact ⟨hA.t0, hA.t1, nodS hA.nd⟩ | exact ⟨(b0b1 (hA.two (by omega) (by have := hs2.out; omega) 0 1 _ _).1).1, (b0b1 (hA.two (by omega) (by have := hs2.out; omega) 0 1 _ _).1).2, nodS (hA.two (by omega) (by have := hs2.out; omega) 0 1 _ _).2⟩ | go_keep)
          (first
            | (go_at_call 97; (with_reducible refine (hfil.out _).mono ?_); rintro e w4 ⟨rfl, hb2⟩; replace hA := hA.below hb2)
            | (go_at_call 96; (with_reducible refine (hdat.out _ hA.row).mono ?_); rintro e w3 ⟨v3, rfl, hv3, hf3, hb3⟩; obtain ⟨a3, c3, rfl, _, _⟩ := hv3.form; replace hA := hA.below hb3; have g0 := block_cell hA.res 0; have g1 := block_cell hA.res 1; have e0 := block_free hA.res 0; have e1 := block_free hA.res 1))
        all_goals
          have hzz := hid (block_set (block_set hA.res 0 (.int .u64 (r.1.next : Int))) 1 (.slice a3 r.1.n.length c3))
          have hs3 := hb2.size
          have hB3 := hid (sn (sn hBd.out hb2) hb3)
          have hB4 := hid ((hB3.out.setCell (p := ⟨w.heap.size + 1, 0, none⟩) (by show w.heap.size ≤ w.heap.size + 1; omega) (.int .u64 (r.1.next : Int))).setCell (p := ⟨w.heap.size + 1, 1, none⟩) (by show w.heap.size ≤ w.heap.size + 1; omega) (.slice a3 r.1.n.length c3))
          have hN := hid (NodsAt.other (w' := (w3.setCell ⟨w.heap.size + 1, 0, none⟩ (.int .u64 (r.1.next : Int))).setCell ⟨w.heap.size + 1, 1, none⟩ (.slice a3 r.1.n.length c3)) hv3 (w.heap.size + 1) (fun e => by have := hf3 _ e; have := hzX.out; simp at hs3; omega) (by simp) (fun k hk => (block_set_other (by show k ≠ _; exact hk)).trans (block_set_other (by show k ≠ _; exact hk))))
          have hF := hid (show ∀ k, (Value.slice a3 r.1.n.length c3).ownBlock = some k → w.heap.size ≤ k from fun k hk => by have := hf3 k hk; have := hzX.out; simp at hs3; omega)
          clear q0 q1 d0 d1 d2 d3 d4 d5 d6 d7 d8 d9 d10 d11 hb2 hb3 hv3 hf3 hA
          go_wp2_with fail
          refine bodyPost_ret (results_cs rfl _ _ (w.heap.size + 1) _ _ _ _ _ rfl rfl hzz.out Tryz.underlying30 rfl (by kernel_rfl)) rfl ?_
          refine ⟨.slice a3 r.1.n.length c3, ?_, ?_, hF.out, hB4.out⟩
          · rw [hdE.out]; rfl
          · rw [hdE.out]; exact hN.out
end
end Go.Proofs.YtkefjeabckainaaGreat

namespace Go.Proofs.YtkefjeabckainaaGreat
section
open Go.RowKit
set_option maxRecDepth 100000
set_option linter.unusedVariables false

theorem app_mode (m : Nat) (h : m < 4294967296) : (bits .and .u32 (m : Int) 1073741824 != 0) = !decide (m &&& 1073741824 = 0) := by
  rw [show (1073741824 : Int) = ((1073741824 : Nat) : Int) from rfl, u32_and_nat _ _ h (by omega)]
  by_cases h0 : m &&& 1073741824 = 0
  · simp [h0]
  · simp [h0]
theorem putD_eq (d b : ByteArray) (o m : Nat) (hm : m = min (o + b.size) d.size) : strL (padL d.data.toList o) ++ b ++ d.extract m d.size = putD d o b := by
  refine strL_ext ?_
  have hl : d.data.toList.length = d.size := rfl
  have e : (d.extract m d.size).data.toList = d.data.toList.drop (o + b.size) := by
    rw [S.data_extract, hm]
    by_cases h : o + b.size ≤ d.size
    · rw [Nat.min_eq_left h]
    · rw [Nat.min_eq_right (by omega), List.drop_of_length_le (by omega), List.drop_of_length_le (by omega)]
  show (strL (padL d.data.toList o) ++ b ++ d.extract m d.size).data.toList = _
  rw [ByteArray.data_append, ByteArray.data_append, Array.toList_append, Array.toList_append, e]
  rfl

set_option maxHeartbeats 6400000 in
theorem tput_any (v : Value) (x : Nat) (l : List Nod) (p off : Nat) (b who : ByteArray) (now : Nat) (w : World) (hv : NodsAt w v l) (ht : TrOk l) (hoff : off < 18446744073709551616) (hbs0 : b.size ≤ 1000000) :
    Calls Tryz.prog 46 #[.agg #[.int .u64 (x : Int), v], .int .u64 (p : Int), .int .u64 (off : Int), .string b, .string who, .int .u32 (now : Int)] w (TreeErr w (putT ⟨x, l⟩ p off b who now)) := by
  obtain ⟨a, c, rfl, g1, g2⟩ := hv.form
  unfold maxLen at g2
  obtain ⟨W, hW⟩ : ∃ W, W = (w.alloc (.cells #[.int .u64 (x : Int), .slice a l.length c] 30)).alloc (.cells #[.int .u64 0, .slice none 0 0] 30) := ⟨_, rfl⟩
  have hb0 : Below w.heap.size w W := by rw [hW]; exact ((Below.refl w.heap.size w).alloc (Nat.le_refl _) _).alloc (by simp) _
  have hx0 : W.heap[w.heap.size]? = some (.cells #[.int .u64 (x : Int), .slice a l.length c] 30 (0, 0)) := by rw [hW, heap_alloc_old _ _ (by simp), heap_alloc_new]
  have hy0 : W.heap[w.heap.size + 1]? = some (.cells #[.int .u64 0, .slice none 0 0] 30 (0, 0)) := by rw [hW]; exact heap2 _ _ _
  have hfi := hid (file_any _ x l p W (hv.below hb0) ht.sort (by have := ht.few; omega) ht.ok)
  have hap := hid (fun X (h : NodsAt X (.slice a l.length c) l) => apart_any _ x l X h (by have := ht.few; omega) ht.low)
  have e0 := block_cell hx0 0
  have e1 := block_cell hx0 1
  have hv0 := hid (hv.below hb0)
  replace hb0 := hid hb0
  replace hx0 := hid hx0
  replace hy0 := hid hy0
  go_enter Tryz.func46, Tryz.ntmps46
  go_upto_region 1 with (rw [← hW]; replace hW := hid hW)
  try (rw [← hW]; replace hW := hid hW)
  go_wp2_with fail
  refine hfi.out.mono ?_
  rintro e w2 ⟨rfl, hb2⟩
  have hB2 := hid (sn hb0.out hb2)
  have hs2 := hid (lt_of_block ((hb2.block _ (lt_of_block hy0.out)).trans hy0.out))
  obtain ⟨n, hn⟩ : ∃ n, n = getN l p := ⟨_, rfl⟩
  have hnew := hid (heap_alloc_new w2 (.cells zeroNod.cells 89))
  obtain ⟨X, hX⟩ : ∃ W, W = boxN w2 n := ⟨_, rfl⟩
  have hbX : Below w2.heap.size w2 X := by rw [hX]; exact boxN_below _ _
  have hBX := hid (sn hB2.out hbX)
  have hA : TrSt w.heap.size w2.heap.size (w.heap.size + 1) x (.slice a l.length c) l n X :=
    ⟨(hbX.block _ (by have := hs2.out; omega)).trans ((hb2.block _ (lt_of_block hx0.out)).trans hx0.out), by rw [hX]; exact boxN_heap _ _, (hbX.block _ hs2.out).trans ((hb2.block _ (lt_of_block hy0.out)).trans hy0.out), (hv0.out.below hb2).below hbX⟩
  have hapc := hid (hap.out X hA.row)
  have q0 := hA.t0
  have q1 := hA.t1
  unfold boxN at hX
  rw [zeroNod_cells] at hX hnew
  rw [← hn]
  clear hb2 hbX hfi hap e0 e1 hB2 hx0 hy0 hv0 hb0
  replace hA := hid hA
  replace hn := hid hn
  go_upto_region 2 with (first
    | (rw [← hX]; replace hX := hid hX)
    | (refine wpList_store_row (by rfl) 89 (.tmp 14) (.tmp 21) (by rfl) w2.heap.size n.cells (by rfl) (by rfl) 89 _ hnew.out (by kernel_rfl) (by kernel_rfl) (nod_one n) ?_))
  try (rw [← hX]; replace hX := hid hX)
  clear hnew
  generalize w2.heap.size = z at *
  cases hg : getL l p with
  | none =>
    have hdE := hid (show putT ⟨x, l⟩ p off b who now = (⟨x, l⟩, 6) by unfold putT; rw [hg])
    have hfe : fileE l p = 6 := by unfold fileE; rw [hg]
    rw [hfe]
    clear hfe hg
    go_wp2_with fail
    refine hapc.out.mono ?_
    rintro e w9 ⟨v9, rfl, hv9, hf9, hb9⟩
    have hres := hid (hA.out.below hb9).res
    have hB9 := hid (sn hBX.out hb9)
    have hsz := hid hBX.out.size
    have hlt := hid (lt_of_block hA.out.res)
    have hN := hid (NodsAt.other (w' := w9.setRow (w.heap.size + 1) #[.int .u64 (x : Int), v9]) hv9 (w.heap.size + 1) (fun e => by have := hf9 _ e; have := hlt.out; omega) (by simp) (fun k hk => setRow_other _ _ _ _ hk))
    have hF := hid (show ∀ k, v9.ownBlock = some k → w.heap.size ≤ k from fun k hk => Nat.le_trans hsz.out (hf9 k hk))
    obtain ⟨a9, c9, rfl, _, _⟩ := hv9.form
    clear hb9 hv9 hf9 hapc q0 q1
    go_wp2_with (refine wpList_store_row (by rfl) 30 (.tmp 12) (.tmp 26) (by rfl) (w.heap.size + 1) #[.int .u64 (x : Int), .slice a9 l.length c9] (by rfl) (by rfl) 30 _ hres.out (by kernel_rfl) (by kernel_rfl) (by kernel_rfl) ?_)
    refine bodyPost_ret (results_cs rfl _ _ (w.heap.size + 1) _ _ _ _ _ rfl rfl (setRow_heap _ _ _ #[.int .u64 (x : Int), .slice a9 l.length c9] _ _ hres.out) Tryz.underlying30 rfl (by kernel_rfl)) rfl ?_
    refine ⟨.slice a9 l.length c9, ?_, ?_, hF.out, below_setRow hB9.out (by omega) _⟩
    · rw [hdE.out]; rfl
    · rw [hdE.out]; exact hN.out
  | some y =>
    have hny : n = y := by rw [hn.out]; unfold getN; rw [hg]; rfl
    subst hny
    obtain ⟨hmem, hpath⟩ := getL_some hg
    cases hdb : dirB n with
    | true =>
      have hdE := hid (show putT ⟨x, l⟩ p off b who now = (⟨x, l⟩, 12) by unfold putT; rw [hg]; simp only; rw [hdb]; rfl)
      have hfe : fileE l p = 12 := by unfold fileE; rw [hg]; simp only; rw [hdb]; rfl
      rw [hfe]
      clear hfe hg hdb
      go_wp2_with fail
      refine hapc.out.mono ?_
      rintro e w9 ⟨v9, rfl, hv9, hf9, hb9⟩
      have hres := hid (hA.out.below hb9).res
      have hB9 := hid (sn hBX.out hb9)
      have hsz := hid hBX.out.size
      have hlt := hid (lt_of_block hA.out.res)
      have hN := hid (NodsAt.other (w' := w9.setRow (w.heap.size + 1) #[.int .u64 (x : Int), v9]) hv9 (w.heap.size + 1) (fun e => by have := hf9 _ e; have := hlt.out; omega) (by simp) (fun k hk => setRow_other _ _ _ _ hk))
      have hF := hid (show ∀ k, v9.ownBlock = some k → w.heap.size ≤ k from fun k hk => Nat.le_trans hsz.out (hf9 k hk))
      obtain ⟨a9, c9, rfl, _, _⟩ := hv9.form
      clear hb9 hv9 hf9 hapc q0 q1
      go_wp2_with (refine wpList_store_row (by rfl) 30 (.tmp 12) (.tmp 26) (by rfl) (w.heap.size + 1) #[.int .u64 (x : Int), .slice a9 l.length c9] (by rfl) (by rfl) 30 _ hres.out (by kernel_rfl) (by kernel_rfl) (by kernel_rfl) ?_)
      refine bodyPost_ret (results_cs rfl _ _ (w.heap.size + 1) _ _ _ _ _ rfl rfl (setRow_heap _ _ _ #[.int .u64 (x : Int), .slice a9 l.length c9] _ _ hres.out) Tryz.underlying30 rfl (by kernel_rfl)) rfl ?_
      refine ⟨.slice a9 l.length c9, ?_, ?_, hF.out, below_setRow hB9.out (by omega) _⟩
      · rw [hdE.out]; rfl
      · rw [hdE.out]; exact hN.out
    | false =>
      have hfe : fileE l p = 0 := by unfold fileE; rw [hg]; simp only; rw [hdb]; rfl
      obtain ⟨o, ho⟩ : ∃ o, o = if appB n then n.data.size else off := ⟨_, rfl⟩
      have hdT := hid (show putT ⟨x, l⟩ p off b who now = if 4096 < o ∨ 4096 - o < b.size then (⟨x, l⟩, 3) else if b.size = 0 then (⟨x, l⟩, 0) else dataT ⟨x, l⟩ n (putD n.data o b) who now by rw [ho]; unfold putT; rw [hg]; simp only; rw [hdb]; rfl)
      rw [hfe]
      have hnok := ht.ok n hmem
      have hnl := ht.len n hmem
      have q2 : X.cell? ⟨z, 2, none⟩ = some (.int .u32 (n.mode : Int)) := block_cell hA.out.nd 2
      have q11 : X.cell? ⟨z, 11, none⟩ = some (.string n.data) := block_cell hA.out.nd 11
      have hap2 := app_mode n.mode hnok.mode
      have hab : Hid (appB n = !decide (n.mode &&& 1073741824 = 0)) := hid rfl
      have hkon : IntKind.u64.wrap (n.data.size : Int) = (n.data.size : Int) := IntWalk.u64_in _ (by omega)
      generalize decide (n.mode &&& 1073741824 = 0) = ab at *
      have hoB : o < 18446744073709551616 := by rw [ho]; split <;> omega
      cases ab with
      | true =>
        have hoo : o = off := by rw [ho, hab.out]; rfl
        rw [← hoo]
        have hmode : (bits .and .u32 (n.mode : Int) 1073741824 != 0) = false := hap2
        replace hoo := hid hoo
        clear ho hap2 hab
        by_cases h1 : 4096 < o
        · have hdE := hid (show putT ⟨x, l⟩ p off b who now = (⟨x, l⟩, 3) by rw [hdT.out, if_pos (.inl h1)])
          have h2 : (4096 : Int) < (o : Int) := by omega
          clear hdT hfe hg hdb
          go_wp2_with fail
          refine hapc.out.mono ?_
          rintro e w9 ⟨v9, rfl, hv9, hf9, hb9⟩
          have hres := hid (hA.out.below hb9).res
          have hB9 := hid (sn hBX.out hb9)
          have hsz := hid hBX.out.size
          have hlt := hid (lt_of_block hA.out.res)
          have hN := hid (NodsAt.other (w' := w9.setRow (w.heap.size + 1) #[.int .u64 (x : Int), v9]) hv9 (w.heap.size + 1) (fun e => by have := hf9 _ e; have := hlt.out; omega) (by simp) (fun k hk => setRow_other _ _ _ _ hk))
          have hF := hid (show ∀ k, v9.ownBlock = some k → w.heap.size ≤ k from fun k hk => Nat.le_trans hsz.out (hf9 k hk))
          obtain ⟨a9, c9, rfl, _, _⟩ := hv9.form
          clear hb9 hv9 hf9 hapc q0 q1
          go_wp2_with (refine wpList_store_row (by rfl) 30 (.tmp 12) (.tmp 47) (by rfl) (w.heap.size + 1) #[.int .u64 (x : Int), .slice a9 l.length c9] (by rfl) (by rfl) 30 _ hres.out (by kernel_rfl) (by kernel_rfl) (by kernel_rfl) ?_)
          refine bodyPost_ret (results_cs rfl _ _ (w.heap.size + 1) _ _ _ _ _ rfl rfl (setRow_heap _ _ _ #[.int .u64 (x : Int), .slice a9 l.length c9] _ _ hres.out) Tryz.underlying30 rfl (by kernel_rfl)) rfl ?_
          refine ⟨.slice a9 l.length c9, ?_, ?_, hF.out, below_setRow hB9.out (by omega) _⟩
          · rw [hdE.out]; rfl
          · rw [hdE.out]; exact hN.out
        by_cases h3 : 4096 - o < b.size
        · have hdE := hid (show putT ⟨x, l⟩ p off b who now = (⟨x, l⟩, 3) by rw [hdT.out, if_pos (.inr h3)])
          have h2 : ¬ (4096 : Int) < (o : Int) := by omega
          have h4 : (o : Int) ≤ 4096 := by omega
          have h5 : (4096 : Int) - (o : Int) < (b.size : Int) := by omega
          have ksz : IntKind.i64.wrap (o : Int) = (o : Int) := IntWalk.i64_in _ (by omega)
          clear hdT hfe hg hdb
          go_wp2_with fail
          refine hapc.out.mono ?_
          rintro e w9 ⟨v9, rfl, hv9, hf9, hb9⟩
          have hres := hid (hA.out.below hb9).res
          have hB9 := hid (sn hBX.out hb9)
          have hsz := hid hBX.out.size
          have hlt := hid (lt_of_block hA.out.res)
          have hN := hid (NodsAt.other (w' := w9.setRow (w.heap.size + 1) #[.int .u64 (x : Int), v9]) hv9 (w.heap.size + 1) (fun e => by have := hf9 _ e; have := hlt.out; omega) (by simp) (fun k hk => setRow_other _ _ _ _ hk))
          have hF := hid (show ∀ k, v9.ownBlock = some k → w.heap.size ≤ k from fun k hk => Nat.le_trans hsz.out (hf9 k hk))
          obtain ⟨a9, c9, rfl, _, _⟩ := hv9.form
          clear hb9 hv9 hf9 hapc q0 q1
          go_wp2_with (refine wpList_store_row (by rfl) 30 (.tmp 12) (.tmp 47) (by rfl) (w.heap.size + 1) #[.int .u64 (x : Int), .slice a9 l.length c9] (by rfl) (by rfl) 30 _ hres.out (by kernel_rfl) (by kernel_rfl) (by kernel_rfl) ?_)
          refine bodyPost_ret (results_cs rfl _ _ (w.heap.size + 1) _ _ _ _ _ rfl rfl (setRow_heap _ _ _ #[.int .u64 (x : Int), .slice a9 l.length c9] _ _ hres.out) Tryz.underlying30 rfl (by kernel_rfl)) rfl ?_
          refine ⟨.slice a9 l.length c9, ?_, ?_, hF.out, below_setRow hB9.out (by omega) _⟩
          · rw [hdE.out]; rfl
          · rw [hdE.out]; exact hN.out
        have h2 : ¬ (4096 : Int) < (o : Int) := by omega
        have h4 : (o : Int) ≤ 4096 := by omega
        have h5 : ¬ (4096 : Int) - (o : Int) < (b.size : Int) := by omega
        have h6 : (b.size : Int) ≤ (4096 : Int) - (o : Int) := by omega
        have ksz : IntKind.i64.wrap (o : Int) = (o : Int) := IntWalk.i64_in _ (by omega)
        by_cases h7 : b.size = 0
        · have hdE := hid (show putT ⟨x, l⟩ p off b who now = (⟨x, l⟩, 0) by rw [hdT.out, if_neg (by omega), if_pos h7])
          obtain ⟨z1, z2⟩ := str_empty h7
          clear hdT hfe hg hdb h7
          go_wp2_with fail
          refine hapc.out.mono ?_
          rintro e w9 ⟨v9, rfl, hv9, hf9, hb9⟩
          have hres := hid (hA.out.below hb9).res
          have hB9 := hid (sn hBX.out hb9)
          have hsz := hid hBX.out.size
          have hlt := hid (lt_of_block hA.out.res)
          have hN := hid (NodsAt.other (w' := w9.setRow (w.heap.size + 1) #[.int .u64 (x : Int), v9]) hv9 (w.heap.size + 1) (fun e => by have := hf9 _ e; have := hlt.out; omega) (by simp) (fun k hk => setRow_other _ _ _ _ hk))
          have hF := hid (show ∀ k, v9.ownBlock = some k → w.heap.size ≤ k from fun k hk => Nat.le_trans hsz.out (hf9 k hk))
          obtain ⟨a9, c9, rfl, _, _⟩ := hv9.form
          clear hb9 hv9 hf9 hapc q0 q1
          go_wp2_with (refine wpList_store_row (by rfl) 30 (.tmp 12) (.tmp 51) (by rfl) (w.heap.size + 1) #[.int .u64 (x : Int), .slice a9 l.length c9] (by rfl) (by rfl) 30 _ hres.out (by kernel_rfl) (by kernel_rfl) (by kernel_rfl) ?_)
          refine bodyPost_ret (results_cs rfl _ _ (w.heap.size + 1) _ _ _ _ _ rfl rfl (setRow_heap _ _ _ #[.int .u64 (x : Int), .slice a9 l.length c9] _ _ hres.out) Tryz.underlying30 rfl (by kernel_rfl)) rfl ?_
          refine ⟨.slice a9 l.length c9, ?_, ?_, hF.out, below_setRow hB9.out (by omega) _⟩
          · rw [hdE.out]; rfl
          · rw [hdE.out]; exact hN.out
        have hdE := hid (show putT ⟨x, l⟩ p off b who now = dataT ⟨x, l⟩ n (putD n.data o b) who now by rw [hdT.out, if_neg (by omega), if_neg h7])
        obtain ⟨z1, z2⟩ := str_full (show 0 < b.size by omega)
        have hfil := hid (fun Z => filled_any n.data o Z (by omega) (by omega))
        clear hdT hfe hdb hapc
        have hfs : (strL (padL n.data.data.toList o)).size = o := by rw [strL_size, padL_length]
        obtain ⟨fb, hfb⟩ : ∃ fb, fb = strL (padL n.data.data.toList o) := ⟨_, rfl⟩
        rw [← hfb] at hfil hfs
        replace hfb := hid hfb
        obtain ⟨E, hE⟩ : ∃ E, E = o + b.size := ⟨_, rfl⟩
        have kq : (o : Int) + (b.size : Int) = (E : Int) := by omega
        obtain ⟨fb2, hfb2⟩ : ∃ s, s = fb ++ b := ⟨_, rfl⟩
        have hf2s : fb2.size = fb.size + b.size := by rw [hfb2]; exact ByteArray.size_append
        obtain ⟨m, hm⟩ : ∃ m, m = min E n.data.size := ⟨_, rfl⟩
        have kmn : min (E : Int) (n.data.size : Int) = (m : Int) := by omega
        have kml : (m : Int) ≤ (n.data.size : Int) := by omega
        obtain ⟨tl, htl⟩ : ∃ s, s = n.data.extract m n.data.size := ⟨_, rfl⟩
        obtain ⟨nb, hnb⟩ : ∃ s, s = fb2 ++ tl := ⟨_, rfl⟩
        have htls : tl.size ≤ n.data.size := by rw [htl, ByteArray.size_extract]; omega
        have ks1 : ¬ 9223372036854775807 < fb.size + b.size := by omega
        have ks2 : ¬ 9223372036854775807 < fb2.size + tl.size := by omega
        have ec1 : fb ++ b = fb2 := hfb2.symm
        have ec2 : fb2 ++ tl = nb := hnb.symm
        have ec3 : n.data.extract m n.data.size = tl := htl.symm
        have hput : nb = putD n.data o b := by
          rw [hnb, hfb2, htl, hfb.out]
          exact putD_eq n.data b o m (by omega)
        rw [← hput] at hdE
        obtain ⟨r, hr⟩ : ∃ r, r = dataT ⟨x, l⟩ n nb who now := ⟨_, rfl⟩
        have hnbs : nb.size ≤ 1000000 := by rw [hput, putD_size]; omega
        have hdat := hid (fun Z (h : NodsAt Z (.slice a l.length c) l) => show Calls Tryz.prog 96 #[.agg #[.int .u64 (x : Int), .slice a l.length c], .agg #[.int .u64 (n.path : Int), .int .u32 (n.vers : Int), .int .u32 (n.mode : Int), .int .u32 (n.atm : Int), .int .u32 (n.mtm : Int), .string n.name, .string n.uid, .string n.gid, .string n.muid, .int .u64 (n.up : Int), .bool n.gone, .string n.data], .string nb, .string who, .int .u32 (now : Int)] Z (TreeErr Z (dataT ⟨x, l⟩ n nb who now)) from data_any _ x l n nb who now Z h ht.sort (by have := ht.few; omega) ht.ok hnok ht.low (fun m hm => by have := ht.len m hm; omega) (by rw [hpath, hg]; rfl) (bytes_mem hmem) hnbs)
        rw [← hr] at hdE hdat
        replace hr := hid hr
        replace hput := hid hput
        replace hf2s := hid hf2s
        replace htls := hid htls
        replace hfs := hid hfs
        replace hfb2 := hid hfb2
        replace htl := hid htl
        replace hnb := hid hnb
        replace hE := hid hE
        replace hm := hid hm
        replace hnbs := hid hnbs
        replace hmem := hid hmem
        replace hpath := hid hpath
        replace hg := hid hg
        replace ht := hid ht
        replace hv := hid hv
        replace hnok := hid hnok
        go_wp2_with fail
        clear q0 q1 q2 q11 h1 h2 h3 h4 h5 h6 h7 z1 z2
        have hzX := hid (lt_of_block hA.out.res)
        have hA := hA.out.below ((Below.refl X.heap.size X).drew)
        have q0 := hA.t0
        have q1 := hA.t1
        obtain ⟨d0, d1, d2, d3, d4, d5, d6, d7, d8, d9, d10, d11⟩ := nodS hA.nd
        have hBd := hid (sn hBX.out ((Below.refl X.heap.size X).drew))
        go_region_held3 (fun w' => w'.cell? ⟨w.heap.size, 0, none⟩ = some (.int .u64 (x : Int)) ∧ w'.cell? ⟨w.heap.size, 1, none⟩ = some (.slice a l.length c) ∧ w'.cell? ⟨z, 0, none⟩ = some (.int .u64 (n.path : Int)) ∧ w'.cell? ⟨z, 1, none⟩ = some (.int .u32 (n.vers : Int)) ∧ w'.cell? ⟨z, 2, none⟩ = some (.int .u32 (n.mode : Int)) ∧ w'.cell? ⟨z, 3, none⟩ = some (.int .u32 (n.atm : Int)) ∧ w'.cell? ⟨z, 4, none⟩ = some (.int .u32 (n.mtm : Int)) ∧ w'.cell? ⟨z, 5, none⟩ = some (.string n.name) ∧ w'.cell? ⟨z, 6, none⟩ = some (.string n.uid) ∧ w'.cell? ⟨z, 7, none⟩ = some (.string n.gid) ∧ w'.cell? ⟨z, 8, none⟩ = some (.string n.muid) ∧ w'.cell? ⟨z, 9, none⟩ = some (.int .u64 (n.up : Int)) ∧ w'.cell? ⟨z, 10, none⟩ = some (.bool n.gone) ∧ w'.cell? ⟨z, 11, none⟩ = some (.string n.data))
          (first | exact ⟨hA.t0, hA.t1, nodS hA.nd⟩ | exact ⟨(b0b1 (hA.two (by omega) (by have := hs2.out; omega) 0 1 _ _).1).1, (b0b1 (hA.two (by omega) (by have := hs2.out; omega) 0 1 _ _).1).2, nodS (hA.two (by omega) (by have := hs2.out; omega) 0 1 _ _).2⟩ | go_keep)
          (first
            | (go_at_call 97; (with_reducible refine (hfil.out _).mono ?_); rintro e w4 ⟨rfl, hb2⟩; replace hA := hA.below hb2)
            | (go_at_call 96; (with_reducible refine (hdat.out _ hA.row).mono ?_); rintro e w3 ⟨v3, rfl, hv3, hf3, hb3⟩; obtain ⟨a3, c3, rfl, _, _⟩ := hv3.form; replace hA := hA.below hb3; have g0 := block_cell hA.res 0; have g1 := block_cell hA.res 1; have e0 := block_free hA.res 0; have e1 := block_free hA.res 1))
        all_goals
          have hzz := hid (block_set (block_set hA.res 0 (.int .u64 (r.1.next : Int))) 1 (.slice a3 r.1.n.length c3))
          have hs3 := hb2.size
          have hB3 := hid (sn (sn hBd.out hb2) hb3)
          have hB4 := hid ((hB3.out.setCell (p := ⟨w.heap.size + 1, 0, none⟩) (by show w.heap.size ≤ w.heap.size + 1; omega) (.int .u64 (r.1.next : Int))).setCell (p := ⟨w.heap.size + 1, 1, none⟩) (by show w.heap.size ≤ w.heap.size + 1; omega) (.slice a3 r.1.n.length c3))
          have hN := hid (NodsAt.other (w' := (w3.setCell ⟨w.heap.size + 1, 0, none⟩ (.int .u64 (r.1.next : Int))).setCell ⟨w.heap.size + 1, 1, none⟩ (.slice a3 r.1.n.length c3)) hv3 (w.heap.size + 1) (fun e => by have := hf3 _ e; have := hzX.out; simp at hs3; omega) (by simp) (fun k hk => (block_set_other (by show k ≠ _; exact hk)).trans (block_set_other (by show k ≠ _; exact hk))))
          have hF := hid (show ∀ k, (Value.slice a3 r.1.n.length c3).ownBlock = some k → w.heap.size ≤ k from fun k hk => by have := hf3 k hk; have := hzX.out; simp at hs3; omega)
          clear q0 q1 d0 d1 d2 d3 d4 d5 d6 d7 d8 d9 d10 d11 hb2 hb3 hv3 hf3 hA
          go_wp2_with fail
          refine bodyPost_ret (results_cs rfl _ _ (w.heap.size + 1) _ _ _ _ _ rfl rfl hzz.out Tryz.underlying30 rfl (by kernel_rfl)) rfl ?_
          refine ⟨.slice a3 r.1.n.length c3, ?_, ?_, hF.out, hB4.out⟩
          · rw [hdE.out]; rfl
          · rw [hdE.out]; exact hN.out
      | false =>
        have hoo : o = n.data.size := by rw [ho, hab.out]; rfl
        have hmode : (bits .and .u32 (n.mode : Int) 1073741824 != 0) = true := hap2
        clear ho hap2 hab
        subst hoo
        by_cases h1 : 4096 < n.data.size
        · have hdE := hid (show putT ⟨x, l⟩ p off b who now = (⟨x, l⟩, 3) by rw [hdT.out, if_pos (.inl h1)])
          have h2 : (4096 : Int) < (n.data.size : Int) := by omega
          clear hdT hfe hg hdb
          go_wp2_with fail
          refine hapc.out.mono ?_
          rintro e w9 ⟨v9, rfl, hv9, hf9, hb9⟩
          have hres := hid (hA.out.below hb9).res
          have hB9 := hid (sn hBX.out hb9)
          have hsz := hid hBX.out.size
          have hlt := hid (lt_of_block hA.out.res)
          have hN := hid (NodsAt.other (w' := w9.setRow (w.heap.size + 1) #[.int .u64 (x : Int), v9]) hv9 (w.heap.size + 1) (fun e => by have := hf9 _ e; have := hlt.out; omega) (by simp) (fun k hk => setRow_other _ _ _ _ hk))
          have hF := hid (show ∀ k, v9.ownBlock = some k → w.heap.size ≤ k from fun k hk => Nat.le_trans hsz.out (hf9 k hk))
          obtain ⟨a9, c9, rfl, _, _⟩ := hv9.form
          clear hb9 hv9 hf9 hapc q0 q1
          go_wp2_with (refine wpList_store_row (by rfl) 30 (.tmp 12) (.tmp 47) (by rfl) (w.heap.size + 1) #[.int .u64 (x : Int), .slice a9 l.length c9] (by rfl) (by rfl) 30 _ hres.out (by kernel_rfl) (by kernel_rfl) (by kernel_rfl) ?_)
          refine bodyPost_ret (results_cs rfl _ _ (w.heap.size + 1) _ _ _ _ _ rfl rfl (setRow_heap _ _ _ #[.int .u64 (x : Int), .slice a9 l.length c9] _ _ hres.out) Tryz.underlying30 rfl (by kernel_rfl)) rfl ?_
          refine ⟨.slice a9 l.length c9, ?_, ?_, hF.out, below_setRow hB9.out (by omega) _⟩
          · rw [hdE.out]; rfl
          · rw [hdE.out]; exact hN.out
        by_cases h3 : 4096 - n.data.size < b.size
        · have hdE := hid (show putT ⟨x, l⟩ p off b who now = (⟨x, l⟩, 3) by rw [hdT.out, if_pos (.inr h3)])
          have h2 : ¬ (4096 : Int) < (n.data.size : Int) := by omega
          have h4 : (n.data.size : Int) ≤ 4096 := by omega
          have h5 : (4096 : Int) - (n.data.size : Int) < (b.size : Int) := by omega
          have ksz : IntKind.i64.wrap (n.data.size : Int) = (n.data.size : Int) := IntWalk.i64_in _ (by omega)
          clear hdT hfe hg hdb
          go_wp2_with fail
          refine hapc.out.mono ?_
          rintro e w9 ⟨v9, rfl, hv9, hf9, hb9⟩
          have hres := hid (hA.out.below hb9).res
          have hB9 := hid (sn hBX.out hb9)
          have hsz := hid hBX.out.size
          have hlt := hid (lt_of_block hA.out.res)
          have hN := hid (NodsAt.other (w' := w9.setRow (w.heap.size + 1) #[.int .u64 (x : Int), v9]) hv9 (w.heap.size + 1) (fun e => by have := hf9 _ e; have := hlt.out; omega) (by simp) (fun k hk => setRow_other _ _ _ _ hk))
          have hF := hid (show ∀ k, v9.ownBlock = some k → w.heap.size ≤ k from fun k hk => Nat.le_trans hsz.out (hf9 k hk))
          obtain ⟨a9, c9, rfl, _, _⟩ := hv9.form
          clear hb9 hv9 hf9 hapc q0 q1
          go_wp2_with (refine wpList_store_row (by rfl) 30 (.tmp 12) (.tmp 47) (by rfl) (w.heap.size + 1) #[.int .u64 (x : Int), .slice a9 l.length c9] (by rfl) (by rfl) 30 _ hres.out (by kernel_rfl) (by kernel_rfl) (by kernel_rfl) ?_)
          refine bodyPost_ret (results_cs rfl _ _ (w.heap.size + 1) _ _ _ _ _ rfl rfl (setRow_heap _ _ _ #[.int .u64 (x : Int), .slice a9 l.length c9] _ _ hres.out) Tryz.underlying30 rfl (by kernel_rfl)) rfl ?_
          refine ⟨.slice a9 l.length c9, ?_, ?_, hF.out, below_setRow hB9.out (by omega) _⟩
          · rw [hdE.out]; rfl
          · rw [hdE.out]; exact hN.out
        have h2 : ¬ (4096 : Int) < (n.data.size : Int) := by omega
        have h4 : (n.data.size : Int) ≤ 4096 := by omega
        have h5 : ¬ (4096 : Int) - (n.data.size : Int) < (b.size : Int) := by omega
        have h6 : (b.size : Int) ≤ (4096 : Int) - (n.data.size : Int) := by omega
        have ksz : IntKind.i64.wrap (n.data.size : Int) = (n.data.size : Int) := IntWalk.i64_in _ (by omega)
        by_cases h7 : b.size = 0
        · have hdE := hid (show putT ⟨x, l⟩ p off b who now = (⟨x, l⟩, 0) by rw [hdT.out, if_neg (by omega), if_pos h7])
          obtain ⟨z1, z2⟩ := str_empty h7
          clear hdT hfe hg hdb h7
          go_wp2_with fail
          refine hapc.out.mono ?_
          rintro e w9 ⟨v9, rfl, hv9, hf9, hb9⟩
          have hres := hid (hA.out.below hb9).res
          have hB9 := hid (sn hBX.out hb9)
          have hsz := hid hBX.out.size
          have hlt := hid (lt_of_block hA.out.res)
          have hN := hid (NodsAt.other (w' := w9.setRow (w.heap.size + 1) #[.int .u64 (x : Int), v9]) hv9 (w.heap.size + 1) (fun e => by have := hf9 _ e; have := hlt.out; omega) (by simp) (fun k hk => setRow_other _ _ _ _ hk))
          have hF := hid (show ∀ k, v9.ownBlock = some k → w.heap.size ≤ k from fun k hk => Nat.le_trans hsz.out (hf9 k hk))
          obtain ⟨a9, c9, rfl, _, _⟩ := hv9.form
          clear hb9 hv9 hf9 hapc q0 q1
          go_wp2_with (refine wpList_store_row (by rfl) 30 (.tmp 12) (.tmp 51) (by rfl) (w.heap.size + 1) #[.int .u64 (x : Int), .slice a9 l.length c9] (by rfl) (by rfl) 30 _ hres.out (by kernel_rfl) (by kernel_rfl) (by kernel_rfl) ?_)
          refine bodyPost_ret (results_cs rfl _ _ (w.heap.size + 1) _ _ _ _ _ rfl rfl (setRow_heap _ _ _ #[.int .u64 (x : Int), .slice a9 l.length c9] _ _ hres.out) Tryz.underlying30 rfl (by kernel_rfl)) rfl ?_
          refine ⟨.slice a9 l.length c9, ?_, ?_, hF.out, below_setRow hB9.out (by omega) _⟩
          · rw [hdE.out]; rfl
          · rw [hdE.out]; exact hN.out
        have hdE := hid (show putT ⟨x, l⟩ p off b who now = dataT ⟨x, l⟩ n (putD n.data n.data.size b) who now by rw [hdT.out, if_neg (by omega), if_neg h7])
        obtain ⟨z1, z2⟩ := str_full (show 0 < b.size by omega)
        have hfil := hid (fun Z => filled_any n.data n.data.size Z (by omega) (by omega))
        clear hdT hfe hdb hapc
        have hfs : (strL (padL n.data.data.toList n.data.size)).size = n.data.size := by rw [strL_size, padL_length]
        obtain ⟨fb, hfb⟩ : ∃ fb, fb = strL (padL n.data.data.toList n.data.size) := ⟨_, rfl⟩
        rw [← hfb] at hfil hfs
        replace hfb := hid hfb
        obtain ⟨E, hE⟩ : ∃ E, E = n.data.size + b.size := ⟨_, rfl⟩
        have kq : (n.data.size : Int) + (b.size : Int) = (E : Int) := by omega
        obtain ⟨fb2, hfb2⟩ : ∃ s, s = fb ++ b := ⟨_, rfl⟩
        have hf2s : fb2.size = fb.size + b.size := by rw [hfb2]; exact ByteArray.size_append
        obtain ⟨m, hm⟩ : ∃ m, m = min E n.data.size := ⟨_, rfl⟩
        have kmn : min (E : Int) (n.data.size : Int) = (m : Int) := by omega
        have kml : (m : Int) ≤ (n.data.size : Int) := by omega
        obtain ⟨tl, htl⟩ : ∃ s, s = n.data.extract m n.data.size := ⟨_, rfl⟩
        obtain ⟨nb, hnb⟩ : ∃ s, s = fb2 ++ tl := ⟨_, rfl⟩
        have htls : tl.size ≤ n.data.size := by rw [htl, ByteArray.size_extract]; omega
        have ks1 : ¬ 9223372036854775807 < fb.size + b.size := by omega
        have ks2 : ¬ 9223372036854775807 < fb2.size + tl.size := by omega
        have ec1 : fb ++ b = fb2 := hfb2.symm
        have ec2 : fb2 ++ tl = nb := hnb.symm
        have ec3 : n.data.extract m n.data.size = tl := htl.symm
        have hput : nb = putD n.data n.data.size b := by
          rw [hnb, hfb2, htl, hfb.out]
          exact putD_eq n.data b n.data.size m (by omega)
        rw [← hput] at hdE
        obtain ⟨r, hr⟩ : ∃ r, r = dataT ⟨x, l⟩ n nb who now := ⟨_, rfl⟩
        have hnbs : nb.size ≤ 1000000 := by rw [hput, putD_size]; omega
        have hdat := hid (fun Z (h : NodsAt Z (.slice a l.length c) l) => show Calls Tryz.prog 96 #[.agg #[.int .u64 (x : Int), .slice a l.length c], .agg #[.int .u64 (n.path : Int), .int .u32 (n.vers : Int), .int .u32 (n.mode : Int), .int .u32 (n.atm : Int), .int .u32 (n.mtm : Int), .string n.name, .string n.uid, .string n.gid, .string n.muid, .int .u64 (n.up : Int), .bool n.gone, .string n.data], .string nb, .string who, .int .u32 (now : Int)] Z (TreeErr Z (dataT ⟨x, l⟩ n nb who now)) from data_any _ x l n nb who now Z h ht.sort (by have := ht.few; omega) ht.ok hnok ht.low (fun m hm => by have := ht.len m hm; omega) (by rw [hpath, hg]; rfl) (bytes_mem hmem) hnbs)
        rw [← hr] at hdE hdat
        replace hr := hid hr
        replace hput := hid hput
        replace hf2s := hid hf2s
        replace htls := hid htls
        replace hfs := hid hfs
        replace hfb2 := hid hfb2
        replace htl := hid htl
        replace hnb := hid hnb
        replace hE := hid hE
        replace hm := hid hm
        replace hnbs := hid hnbs
        replace hmem := hid hmem
        replace hpath := hid hpath
        replace hg := hid hg
        replace ht := hid ht
        replace hv := hid hv
        replace hnok := hid hnok
        go_wp2_with fail
        clear q0 q1 q2 q11 h1 h2 h3 h4 h5 h6 h7 z1 z2
        have hzX := hid (lt_of_block hA.out.res)
        have hA := hA.out.below ((Below.refl X.heap.size X).drew)
        have q0 := hA.t0
        have q1 := hA.t1
        obtain ⟨d0, d1, d2, d3, d4, d5, d6, d7, d8, d9, d10, d11⟩ := nodS hA.nd
        have hBd := hid (sn hBX.out ((Below.refl X.heap.size X).drew))
        go_region_held3 (fun w' => w'.cell? ⟨w.heap.size, 0, none⟩ = some (.int .u64 (x : Int)) ∧ w'.cell? ⟨w.heap.size, 1, none⟩ = some (.slice a l.length c) ∧ w'.cell? ⟨z, 0, none⟩ = some (.int .u64 (n.path : Int)) ∧ w'.cell? ⟨z, 1, none⟩ = some (.int .u32 (n.vers : Int)) ∧ w'.cell? ⟨z, 2, none⟩ = some (.int .u32 (n.mode : Int)) ∧ w'.cell? ⟨z, 3, none⟩ = some (.int .u32 (n.atm : Int)) ∧ w'.cell? ⟨z, 4, none⟩ = some (.int .u32 (n.mtm : Int)) ∧ w'.cell? ⟨z, 5, none⟩ = some (.string n.name) ∧ w'.cell? ⟨z, 6, none⟩ = some (.string n.uid) ∧ w'.cell? ⟨z, 7, none⟩ = some (.string n.gid) ∧ w'.cell? ⟨z, 8, none⟩ = some (.string n.muid) ∧ w'.cell? ⟨z, 9, none⟩ = some (.int .u64 (n.up : Int)) ∧ w'.cell? ⟨z, 10, none⟩ = some (.bool n.gone) ∧ w'.cell? ⟨z, 11, none⟩ = some (.string n.data))
          (first | exact ⟨hA.t0, hA.t1, nodS hA.nd⟩ | exact ⟨(b0b1 (hA.two (by omega) (by have := hs2.out; omega) 0 1 _ _).1).1, (b0b1 (hA.two (by omega) (by have := hs2.out; omega) 0 1 _ _).1).2, nodS (hA.two (by omega) (by have := hs2.out; omega) 0 1 _ _).2⟩ | go_keep)
          (first
            | (go_at_call 97; (with_reducible refine (hfil.out _).mono ?_); rintro e w4 ⟨rfl, hb2⟩; replace hA := hA.below hb2)
            | (go_at_call 96; (with_reducible refine (hdat.out _ hA.row).mono ?_); rintro e w3 ⟨v3, rfl, hv3, hf3, hb3⟩; obtain ⟨a3, c3, rfl, _, _⟩ := hv3.form; replace hA := hA.below hb3; have g0 := block_cell hA.res 0; have g1 := block_cell hA.res 1; have e0 := block_free hA.res 0; have e1 := block_free hA.res 1))
        all_goals
          have hzz := hid (block_set (block_set hA.res 0 (.int .u64 (r.1.next : Int))) 1 (.slice a3 r.1.n.length c3))
          have hs3 := hb2.size
          have hB3 := hid (sn (sn hBd.out hb2) hb3)
          have hB4 := hid ((hB3.out.setCell (p := ⟨w.heap.size + 1, 0, none⟩) (by show w.heap.size ≤ w.heap.size + 1; omega) (.int .u64 (r.1.next : Int))).setCell (p := ⟨w.heap.size + 1, 1, none⟩) (by show w.heap.size ≤ w.heap.size + 1; omega) (.slice a3 r.1.n.length c3))
          have hN := hid (NodsAt.other (w' := (w3.setCell ⟨w.heap.size + 1, 0, none⟩ (.int .u64 (r.1.next : Int))).setCell ⟨w.heap.size + 1, 1, none⟩ (.slice a3 r.1.n.length c3)) hv3 (w.heap.size + 1) (fun e => by have := hf3 _ e; have := hzX.out; simp at hs3; omega) (by simp) (fun k hk => (block_set_other (by show k ≠ _; exact hk)).trans (block_set_other (by show k ≠ _; exact hk))))
          have hF := hid (show ∀ k, (Value.slice a3 r.1.n.length c3).ownBlock = some k → w.heap.size ≤ k from fun k hk => by have := hf3 k hk; have := hzX.out; simp at hs3; omega)
          clear q0 q1 d0 d1 d2 d3 d4 d5 d6 d7 d8 d9 d10 d11 hb2 hb3 hv3 hf3 hA
          go_wp2_with fail
          refine bodyPost_ret (results_cs rfl _ _ (w.heap.size + 1) _ _ _ _ _ rfl rfl hzz.out Tryz.underlying30 rfl (by kernel_rfl)) rfl ?_
          refine ⟨.slice a3 r.1.n.length c3, ?_, ?_, hF.out, hB4.out⟩
          · rw [hdE.out]; rfl
          · rw [hdE.out]; exact hN.out
end
end Go.Proofs.YtkefjeabckainaaGreat

namespace Go.Proofs.YtkefjeabckainaaGreat
section
open Go.RowKit
set_option maxRecDepth 100000
set_option linter.unusedVariables false

def TreeBool (w : World) (r : Tr × Bool) (e : Ending) (w' : World) : Prop := ∃ v', e = .returned (.tuple #[.agg #[.int .u64 (r.1.next : Int), v'], .bool r.2]) ∧ NodsAt w' v' r.1.n ∧ (∀ k, v'.ownBlock = some k → w.heap.size ≤ k) ∧ Below w.heap.size w w'
set_option maxHeartbeats 3200000 in
theorem treap_any (v : Value) (x : Nat) (l : List Nod) (p : Nat) (w : World) (hv : NodsAt w v l) (ht : TrOk l) :
    Calls Tryz.prog 98 #[.agg #[.int .u64 (x : Int), v], .int .u64 (p : Int)] w (TreeBool w (reapT ⟨x, l⟩ p)) := by
  obtain ⟨a, c, rfl, g1, g2⟩ := hv.form
  unfold maxLen at g2
  obtain ⟨W, hW⟩ : ∃ W, W = (w.alloc (.cells #[.int .u64 (x : Int), .slice a l.length c] 30)).alloc (.cells #[.int .u64 0, .slice none 0 0] 30) := ⟨_, rfl⟩
  have hb0 : Below w.heap.size w W := by rw [hW]; exact ((Below.refl w.heap.size w).alloc (Nat.le_refl _) _).alloc (by simp) _
  have hx0 : W.heap[w.heap.size]? = some (.cells #[.int .u64 (x : Int), .slice a l.length c] 30 (0, 0)) := by rw [hW, heap_alloc_old _ _ (by simp), heap_alloc_new]
  have hy0 : W.heap[w.heap.size + 1]? = some (.cells #[.int .u64 0, .slice none 0 0] 30 (0, 0)) := by rw [hW]; exact heap2 _ _ _
  have hfi := hid (get_any _ x l p W (hv.below hb0) ht.sort (by have := ht.few; omega))
  have hap := hid (fun X (h : NodsAt X (.slice a l.length c) l) => apart_any _ x l X h (by have := ht.few; omega) ht.low)
  have e0 := block_cell hx0 0
  have e1 := block_cell hx0 1
  have hv0 := hid (hv.below hb0)
  replace hb0 := hid hb0
  replace hx0 := hid hx0
  replace hy0 := hid hy0
  go_enter Tryz.func98, Tryz.ntmps98
  go_upto_region 1 with (rw [← hW]; replace hW := hid hW)
  try (rw [← hW]; replace hW := hid hW)
  go_wp2_with fail
  refine hfi.out.mono ?_
  rintro e w2 ⟨rfl, hb2⟩
  have hB2 := hid (sn hb0.out hb2)
  have hs2 := hid (lt_of_block ((hb2.block _ (lt_of_block hy0.out)).trans hy0.out))
  obtain ⟨n, hn⟩ : ∃ n, n = getN l p := ⟨_, rfl⟩
  have hnew := hid (heap_alloc_new w2 (.cells zeroNod.cells 89))
  obtain ⟨X, hX⟩ : ∃ W, W = boxN w2 n := ⟨_, rfl⟩
  have hbX : Below w2.heap.size w2 X := by rw [hX]; exact boxN_below _ _
  have hBX := hid (sn hB2.out hbX)
  have hA : TrSt w.heap.size w2.heap.size (w.heap.size + 1) x (.slice a l.length c) l n X :=
    ⟨(hbX.block _ (by have := hs2.out; omega)).trans ((hb2.block _ (lt_of_block hx0.out)).trans hx0.out), by rw [hX]; exact boxN_heap _ _, (hbX.block _ hs2.out).trans ((hb2.block _ (lt_of_block hy0.out)).trans hy0.out), (hv0.out.below hb2).below hbX⟩
  have hapc := hid (hap.out X hA.row)
  have q0 := hA.t0
  have q1 := hA.t1
  unfold boxN at hX
  rw [zeroNod_cells] at hX hnew
  rw [← hn]
  clear hb2 hbX hfi hap e0 e1 hB2 hx0 hy0 hv0 hb0
  replace hA := hid hA
  replace hn := hid hn
  go_upto_region 2 with (first
    | (rw [← hX]; replace hX := hid hX)
    | (refine wpList_store_row (by rfl) 89 (.tmp 6) (.tmp 12) (by rfl) w2.heap.size n.cells (by rfl) (by rfl) 89 _ hnew.out (by kernel_rfl) (by kernel_rfl) (nod_one n) ?_))
  try (rw [← hX]; replace hX := hid hX)
  clear hnew
  generalize w2.heap.size = z at *
  have q10 : X.cell? ⟨z, 10, none⟩ = some (.bool n.gone) := block_cell hA.out.nd 10
  cases hg : getL l p with
  | none =>
    have hdE := hid (show reapT ⟨x, l⟩ p = (⟨x, l⟩, false) by unfold reapT; rw [hg])
    simp only [Option.isSome_none]
    clear hg
    go_wp2_with fail
    refine hapc.out.mono ?_
    rintro e w9 ⟨v9, rfl, hv9, hf9, hb9⟩
    have hres := hid (hA.out.below hb9).res
    have hB9 := hid (sn hBX.out hb9)
    have hsz := hid hBX.out.size
    have hlt := hid (lt_of_block hA.out.res)
    have hN := hid (NodsAt.other (w' := w9.setRow (w.heap.size + 1) #[.int .u64 (x : Int), v9]) hv9 (w.heap.size + 1) (fun e => by have := hf9 _ e; have := hlt.out; omega) (by simp) (fun k hk => setRow_other _ _ _ _ hk))
    have hF := hid (show ∀ k, v9.ownBlock = some k → w.heap.size ≤ k from fun k hk => Nat.le_trans hsz.out (hf9 k hk))
    obtain ⟨a9, c9, rfl, _, _⟩ := hv9.form
    clear hb9 hv9 hf9 hapc q0 q1 q10
    go_wp2_with (refine wpList_store_row (by rfl) 30 (.tmp 4) (.tmp 22) (by rfl) (w.heap.size + 1) #[.int .u64 (x : Int), .slice a9 l.length c9] (by rfl) (by rfl) 30 _ hres.out (by kernel_rfl) (by kernel_rfl) (by kernel_rfl) ?_)
    refine bodyPost_ret (results_cs rfl _ _ (w.heap.size + 1) _ _ _ _ _ rfl rfl (setRow_heap _ _ _ #[.int .u64 (x : Int), .slice a9 l.length c9] _ _ hres.out) Tryz.underlying30 rfl (by kernel_rfl)) rfl ?_
    refine ⟨.slice a9 l.length c9, ?_, ?_, hF.out, below_setRow hB9.out (by omega) _⟩
    · rw [hdE.out]; rfl
    · rw [hdE.out]; exact hN.out
  | some y =>
    have hny : n = y := by rw [hn.out]; unfold getN; rw [hg]; rfl
    subst hny
    simp only [Option.isSome_some]
    cases hgn : n.gone with
    | false =>
      have hdE := hid (show reapT ⟨x, l⟩ p = (⟨x, l⟩, false) by unfold reapT; rw [hg]; simp only; rw [hgn]; rfl)
      rw [hgn] at q10
      clear hg hgn
      go_wp2_with fail
      refine hapc.out.mono ?_
      rintro e w9 ⟨v9, rfl, hv9, hf9, hb9⟩
      have hres := hid (hA.out.below hb9).res
      have hB9 := hid (sn hBX.out hb9)
      have hsz := hid hBX.out.size
      have hlt := hid (lt_of_block hA.out.res)
      have hN := hid (NodsAt.other (w' := w9.setRow (w.heap.size + 1) #[.int .u64 (x : Int), v9]) hv9 (w.heap.size + 1) (fun e => by have := hf9 _ e; have := hlt.out; omega) (by simp) (fun k hk => setRow_other _ _ _ _ hk))
      have hF := hid (show ∀ k, v9.ownBlock = some k → w.heap.size ≤ k from fun k hk => Nat.le_trans hsz.out (hf9 k hk))
      obtain ⟨a9, c9, rfl, _, _⟩ := hv9.form
      clear hb9 hv9 hf9 hapc q0 q1 q10
      go_wp2_with (refine wpList_store_row (by rfl) 30 (.tmp 4) (.tmp 22) (by rfl) (w.heap.size + 1) #[.int .u64 (x : Int), .slice a9 l.length c9] (by rfl) (by rfl) 30 _ hres.out (by kernel_rfl) (by kernel_rfl) (by kernel_rfl) ?_)
      refine bodyPost_ret (results_cs rfl _ _ (w.heap.size + 1) _ _ _ _ _ rfl rfl (setRow_heap _ _ _ #[.int .u64 (x : Int), .slice a9 l.length c9] _ _ hres.out) Tryz.underlying30 rfl (by kernel_rfl)) rfl ?_
      refine ⟨.slice a9 l.length c9, ?_, ?_, hF.out, below_setRow hB9.out (by omega) _⟩
      · rw [hdE.out]; rfl
      · rw [hdE.out]; exact hN.out
    | true =>
      have hdE := hid (show reapT ⟨x, l⟩ p = (⟨x, dropL l p⟩, true) by unfold reapT; rw [hg]; simp only; rw [hgn]; rfl)
      rw [hgn] at q10
      have hdrp := hid (ndrop_any _ x l p X hA.out.row (by have := ht.few; omega))
      clear hg hgn hapc
      go_wp2_with fail
      refine hdrp.out.mono ?_
      rintro e w9 ⟨v9, rfl, hv9, hf9, hb9⟩
      have hres := hid (hA.out.below hb9).res
      have hB9 := hid (sn hBX.out hb9)
      have hsz := hid hBX.out.size
      have hlt := hid (lt_of_block hA.out.res)
      have hN := hid (NodsAt.other (w' := w9.setRow (w.heap.size + 1) #[.int .u64 (x : Int), v9]) hv9 (w.heap.size + 1) (fun e => by have := hf9 _ e; have := hlt.out; omega) (by simp) (fun k hk => setRow_other _ _ _ _ hk))
      have hF := hid (show ∀ k, v9.ownBlock = some k → w.heap.size ≤ k from fun k hk => Nat.le_trans hsz.out (hf9 k hk))
      obtain ⟨a9, c9, rfl, _, _⟩ := hv9.form
      clear hb9 hv9 hf9 hdrp q0 q1 q10
      go_wp2_with (refine wpList_store_row (by rfl) 30 (.tmp 4) (.tmp 25) (by rfl) (w.heap.size + 1) #[.int .u64 (x : Int), .slice a9 (dropL l p).length c9] (by rfl) (by rfl) 30 _ hres.out (by kernel_rfl) (by kernel_rfl) (by kernel_rfl) ?_)
      refine bodyPost_ret (results_cs rfl _ _ (w.heap.size + 1) _ _ _ _ _ rfl rfl (setRow_heap _ _ _ #[.int .u64 (x : Int), .slice a9 (dropL l p).length c9] _ _ hres.out) Tryz.underlying30 rfl (by kernel_rfl)) rfl ?_
      refine ⟨.slice a9 (dropL l p).length c9, ?_, ?_, hF.out, below_setRow hB9.out (by omega) _⟩
      · rw [hdE.out]; rfl
      · rw [hdE.out]; exact hN.out
end
end Go.Proofs.YtkefjeabckainaaGreat
