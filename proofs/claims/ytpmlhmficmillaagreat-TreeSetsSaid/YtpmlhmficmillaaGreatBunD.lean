/- What the methods of num.In and text.Take leave as it was, block by block, under bounds on lengths that each theorem names. No further condition.
A row of stores into one block: what the block then holds, and what stays. No condition. -/
import Derived.Test.YtpmlhmficmillaaGreatBunN2
import Derived.Test.YtpmlhmficmillaaGreatBunOW
namespace Go.Proofs.YtpmlhmficmillaaGreat
section
open Go.RowKit
set_option maxRecDepth 100000

theorem ostep_cell {b : Nat} {w : World} {cs : Array Value} {t : TypeId} {fr : Nat × Nat} (hb : w.heap[b]? = some (.cells cs t fr)) (i : Nat) (u : Value) (hu : i = 0 → ∀ v, cs[0]? = some v → u.ownBlock = v.ownBlock) :
    OStep b w (w.setCell ⟨b, i, none⟩ u) := by
  have hfoot : ∀ k, Foot (w.setCell ⟨b, i, none⟩ u) b k → Foot w b k := by
    rintro k (he | ⟨v, hv, hk2⟩)
    · exact .inl he
    · have h1 := block_cell (block_set hb i u) 0
      rw [h1] at hv
      by_cases hi : i = 0
      · subst hi
        cases hc : cs[0]? with
        | none => 
          have : cs.size ≤ 0 := by simpa using hc
          rw [Array.getElem?_eq_none (by simpa using this)] at hv; cases hv
        | some v0 =>
          have hlt : 0 < cs.size := by
            rcases Nat.lt_or_ge 0 cs.size with h | h
            · exact h
            · rw [Array.getElem?_eq_none h] at hc; cases hc
          rw [Array.getElem?_setIfInBounds_self_of_lt hlt] at hv
          cases hv
          exact .inr ⟨v0, by rw [block_cell hb 0]; exact hc, by rw [← hu rfl v0 hc]; exact hk2⟩
      · rw [Array.getElem?_setIfInBounds_ne hi] at hv
        exact .inr ⟨v, by rw [block_cell hb 0]; exact hv, hk2⟩
  refine ⟨(Below.refl b w).setCell (p := ⟨b, i, none⟩) (Nat.le_refl _) _, fun k hk hn => ⟨block_set_other fun e => hn (.inl e), fun h => hn (hfoot k h)⟩, ?_⟩
  rintro ⟨cs', t', fr', hc, hs⟩
  rw [hb] at hc
  cases hc
  exact ⟨⟨_, _, _, block_set hb i u, by simpa using hs⟩, hfoot⟩
theorem ostep_cell0 {b : Nat} {w : World} {v : Value} {l : List Value} {t : TypeId} {fr : Nat × Nat} (hb : w.heap[b]? = some (.cells ⟨v :: l⟩ t fr)) (u : Value) (hu : u.ownBlock = v.ownBlock) :
    OStep b w (w.setCell ⟨b, 0, none⟩ u) := ostep_cell hb 0 u (by rintro - _ h; cases h; exact hu)

theorem OStep.store {b : Nat} {w w1 : World} {p : Addr} (h : OStep b w w1) (hp : w.heap.size ≤ p.block) (_hf : ¬ Foot w1 b p.block) (hb : b < w.heap.size) (u : Value) : OStep b w (w1.setCell p u) :=
  have hc0 : (w1.setCell p u).cell? ⟨b, 0, none⟩ = w1.cell? ⟨b, 0, none⟩ := World.cell?_of_block (w := w1) (block_set_other (by show b ≠ p.block; omega))
  have hfoot : ∀ k, Foot (w1.setCell p u) b k → Foot w1 b k := by
    rintro k (he | ⟨v, hv, hk2⟩)
    · exact .inl he
    · rw [hc0] at hv; exact .inr ⟨v, hv, hk2⟩
  ⟨h.below.setCell (by omega) _, fun k hk hn => by
    obtain ⟨e1, n1⟩ := h.block k hk hn
    exact ⟨(block_set_other (by omega)).trans e1, fun hf => n1 (hfoot k hf)⟩, fun ht => by
    obtain ⟨⟨cs, t, fr, hc, hs⟩, f1⟩ := h.two ht
    exact ⟨⟨cs, t, fr, (block_set_other (by show b ≠ p.block; omega)).trans hc, hs⟩, fun k hk => f1 k (hfoot k hk)⟩⟩
theorem Foot.store {b k : Nat} {w : World} {p : Addr} {u : Value} (hp : p.block ≠ b) (hf : ¬ Foot w b k) : ¬ Foot (w.setCell p u) b k := by
  rintro (he | ⟨v, hv, hk2⟩)
  · exact hf (.inl he)
  · have : (w.setCell p u).cell? ⟨b, 0, none⟩ = w.cell? ⟨b, 0, none⟩ := World.cell?_of_block (w := w) (block_set_other (by show b ≠ p.block; omega))
    rw [this] at hv
    exact hf (.inr ⟨v, hv, hk2⟩)
theorem InIs.store {w : World} {b : Nat} {l : List UInt8} {e : Nat} (h : InIs w b l e) {p : Addr} (u : Value) (hf : ¬ Foot w b p.block) : InIs (w.setCell p u) b l e := by
  obtain ⟨v, hb, hl, hne⟩ := h
  have hpb : b ≠ p.block := fun e => hf (.inl e.symm)
  exact ⟨v, (block_set_other hpb).trans hb, hl.setCell _ (fun e => hf (.inr ⟨v, block_cell hb 0, e⟩)), hne⟩
theorem InIs.two {w : World} {b : Nat} {l : List UInt8} {e : Nat} (h : InIs w b l e) : TwoAt w b := by
  obtain ⟨v, hb, _⟩ := h
  exact ⟨_, _, _, hb, rfl⟩
theorem InIs.foot_lt {w : World} {b k : Nat} {l : List UInt8} {e : Nat} (h : InIs w b l e) (hf : Foot w b k) : k < w.heap.size := by
  obtain ⟨v, hb, hl, hne⟩ := h
  rcases hf with rfl | ⟨v', hv, hk⟩
  · exact lt_of_block hb
  · rw [block_cell hb 0] at hv
    cases hv
    exact hl.lt hk
theorem InIs.new {w : World} {b : Nat} {l : List UInt8} {e : Nat} (h : InIs w b l e) (o : Obj) : ¬ Foot (w.alloc o) b w.heap.size := by
  intro hf
  refine Nat.lt_irrefl w.heap.size (h.foot_lt ?_)
  rcases hf with he | ⟨v, hv, hk⟩
  · exact .inl he
  · right
    obtain ⟨v0, hb, hl, hne⟩ := h
    have : (w.alloc o).cell? ⟨b, 0, none⟩ = w.cell? ⟨b, 0, none⟩ := World.cell?_of_block (w := w) (heap_alloc_old w o (lt_of_block hb))
    rw [this] at hv
    exact ⟨v, hv, hk⟩

theorem caught_panicking2 (b : Nat) (l : List UInt8) (e0 e : Nat) (w : World) (h : InIs w b l e0) :
    CallsD Tryz.prog 93 #[.pointer (some ⟨b, 0, none⟩)] (.panicking (errChain e)) w fun en u' w' =>
      en = .returned (.tuple #[]) ∧ u' = .panicking (errChainR e) ∧ InIs w' b l e ∧ OStep b w w' := by
  obtain ⟨v, hb, hl, hne⟩ := h
  have hc1 : w.cell? ⟨b, 0 + 1, none⟩ = some (.int .i64 (e0 : Int)) := block_cell hb 1
  have hf1 : w.frozen? ⟨b, 0 + 1, none⟩ = false := block_free hb 1
  have hst : InIs (w.setCell ⟨b, 0 + 1, none⟩ (.int .i64 (e : Int))) b l e := ⟨v, block_set hb 1 _, hl.setCell _ hne, hne⟩
  have hbs := ostep_cell hb 1 (.int .i64 (e : Int)) (by intro h; cases h)
  clear hb
  have hta := assert_errno
  refine callsD_of_wpS Tryz.func93 rfl fun c₀ cs hu => ?_
  apply wpS_seq
  apply wpS_region
  simp [wpOpsS, go_sem, recoverD, hu, errChain, Tryz.ntmps93, Exit.thenS, Array.replicate_succ]
  apply wpS_body
  go_wp2
  go_end0
  exact ⟨rfl, rfl, hst, hbs⟩

def CutPost2 (w : World) (b : Nat) (l : List UInt8) (n e : Nat) (en : Ending) (w' : World) : Prop :=
  ∃ v', en = .returned v' ∧ BytesAt w' v' (l.take n) ∧ InIs w' b (l.drop n) e ∧ OStep b w w'

set_option maxHeartbeats 800000 in
theorem cut_ok2 (b n : Nat) (l : List UInt8) (e : Nat) (w : World) (hn : n ≤ l.length) (_hl : l.length ≤ 1000000008) (h : InIs w b l e) :
    Calls Tryz.prog 94 #[.pointer (some ⟨b, 0, none⟩), .int .i64 (n : Int)] w (CutPost2 w b l n e) := by
  obtain ⟨v, hb, hv, hne⟩ := h
  obtain ⟨a, c, rfl, hc1, hc2, hc3⟩ := hv.form
  have hc0 := block_cell hb 0
  have hf0 := block_free hb 0
  simp at hc0
  unfold maxLen at hc2
  replace hb := hid hb
  by_cases hcn : c = n
  · have hst : InIs (w.setCell ⟨b, 0, none⟩ (.slice a (l.length - n) 0)) b (l.drop n) e :=
      ⟨_, block_set hb.out 0 _, (hv.drop0 hcn).setCell _ (by rw [ownBlock_same]; exact hne), by rw [ownBlock_same]; exact hne⟩
    have htk := (hv.take n n hn (Nat.le_refl _) (by omega)).setCell (p := ⟨b, 0, none⟩) (.slice a (l.length - n) 0) (by rw [ownBlock_same]; exact hne)
    have hbs := ostep_cell0 hb.out (.slice a (l.length - n) 0) (by rw [ownBlock_same])
    go_enter Tryz.func94, Tryz.ntmps94
    go_wp2
    go_ret
    exact ⟨_, rfl, htk, hst, hbs⟩
  · have hst : InIs (w.setCell ⟨b, 0, none⟩ (.slice (Option.map (fun x => x.add n) a) (l.length - n) (c - n))) b (l.drop n) e :=
      ⟨_, block_set hb.out 0 _, (hv.drop1 n hn).setCell _ (by rw [ownBlock_map]; exact hne), by rw [ownBlock_map]; exact hne⟩
    have htk := (hv.take n c hn (by omega) (Nat.le_refl _)).setCell (p := ⟨b, 0, none⟩) (.slice (Option.map (fun x => x.add n) a) (l.length - n) (c - n)) (by rw [ownBlock_same]; exact hne)
    have hbs := ostep_cell0 hb.out (.slice (Option.map (fun x => x.add n) a) (l.length - n) (c - n)) (by rw [ownBlock_map])
    go_enter Tryz.func94, Tryz.ntmps94
    go_wp2
    go_ret
    exact ⟨_, rfl, htk, hst, hbs⟩

set_option maxHeartbeats 1200000 in
theorem in_take_step (b n : Nat) (l : List UInt8) (e : Nat) (w : World) (hn1 : 1 ≤ n) (hn8 : n ≤ 8) (hl : l.length ≤ 1000000008) (h : InIs w b l e) :
    Calls Tryz.prog 81 #[.pointer (some ⟨b, 0, none⟩), .int .i64 (n : Int)] w fun en w' => en = .returned (.int .u64 (takeV n l e : Int)) ∧ InIs w' b (restL n l e) (restE n l e) ∧ OStep b w w' := by
  obtain ⟨v, h0, h1, hv⟩ := h.parts
  by_cases he : e = 0
  · subst he
    by_cases hs : l.length < n
    · have E1 := hid (show takeV n l 0 = 0 by simp [takeV, hs])
      have E2 := hid (show restL n l 0 = l by simp [restL, hs])
      have E3 := hid (show restE n l 0 = 4 by simp [restE, hs])
      go_enter_defers Tryz.func81, Tryz.ntmps81
      go_wp2_with fail
      refine (cut_short b n l 0 w hs h).mono ?_
      rintro en w' ⟨rfl, rfl⟩
      go_wp2_with fail
      refine leaves_cons (f := 93) (args := #[.pointer (some ⟨b, 0, none⟩)]) (by simp) (by simp [go_sem]) ?_
      refine (caught_panicking2 b l 0 4 _ h).mono ?_
      rintro en u' w'' ⟨rfl, rfl, hi, hbb⟩
      simp only [settle, errChainR]
      exact ⟨_, results_tmp rfl _ _ _, by rw [E1.out]; rfl, by rw [E2.out, E3.out]; exact hi, hbb⟩
    · have E1 := hid (show takeV n l 0 = leN (l.take n) by simp [takeV, hs])
      have E2 := hid (show restL n l 0 = l.drop n by simp [restL, hs])
      have E3 := hid (show restE n l 0 = 0 by simp [restE, hs])
      have hle : n ≤ l.length := by omega
      go_enter_defers Tryz.func81, Tryz.ntmps81
      go_wp2_with fail
      refine (cut_ok2 b n l 0 w hle hl h).mono ?_
      rintro en w1 ⟨v1, rfl, hv1, hi1, hb1⟩
      have hlen : (l.take n).length = n := by simp; omega
      obtain ⟨a1, c1, rfl, hc1, hc2, hc3⟩ := hv1.form
      have HL := hid hlen
      clear hlen
      go_wp2_with fail
      generalize hLL : l.take n = L at *
      replace hLL := hid hLL
      obtain rfl : n = L.length := HL.out.symm
      go_loop [4, 24] (fun x i => ∃ k : Nat, k ≤ L.length ∧ i = .int .i64 (k : Int) ∧ x = .int .u64 (leN (L.take k) : Int)) (fun _ i => L.length - (intOf i).toNat)
      case atStart => exact ⟨0, by omega, rfl, rfl⟩
      case round =>
        obtain ⟨k, hk, rfl, rfl⟩ := hrel
        by_cases hlt : k < L.length
        · obtain ⟨bb, o, rfl, hcell⟩ := hv1.cell k hlt
          have hsn : L.take (k + 1) = L.take k ++ [L[k]] := List.take_succ_eq_append_getElem hlt
          have hkl : (L.take k).length = k := by simp; omega
          have hb0 := leN_lt (L.take k)
          rw [hkl] at hb0
          have hor := hid (or_take' hb0 L[k].toNat_lt (show k < 8 by omega))
          have hfin : Hid (leN (L.take (k + 1)) = leN (L.take k) + L[k].toNat * 256 ^ k) := hid (by rw [hsn, leN_snoc, hkl])
          clear hsn hkl hb0
          go_wp2
          go_round
          case rel => exact ⟨k + 1, by omega, by go_num, by rw [hor.out, hfin.out]⟩
          case measure => simp [intOf]; omega
        · obtain rfl : k = L.length := by omega
          rw [List.take_length]
          go_wp2
          refine leaves_cons (f := 93) (args := #[.pointer (some ⟨b, 0, none⟩)]) (by simp) (by simp [go_sem]) ?_
          refine (caught_idle b _).mono ?_
          rintro en u' w'' ⟨rfl, rfl, rfl⟩
          simp only [settle]
          exact ⟨_, results_tmp rfl _ _ _, by rw [E1.out]; rfl, by rw [E2.out, E3.out]; exact hi1, hb1⟩

  · have E1 := hid (show takeV n l e = 0 by simp [takeV, he])
    have E2 := hid (show restL n l e = l by simp [restL, he])
    have E3 := hid (show restE n l e = e by simp [restE, he])
    have k0 : ((e : Int) != 0) = true := by simpa using he
    clear he
    go_enter_defers Tryz.func81, Tryz.ntmps81
    go_wp2_with fail
    simp only [bodyPostD, Leaves]
    exact ⟨_, results_tmp rfl _ _ _, by rw [E1.out]; rfl, by rw [E2.out, E3.out]; exact h, OStep.refl _ _⟩

def RawNew (w : World) (b : Nat) (l : List UInt8) (n e : Nat) (en : Ending) (w' : World) : Prop :=
  ∃ v', en = .returned v' ∧ (BytesAt w' v' (rawL n l e) ∧ ∀ k, v'.ownBlock = some k → w.heap.size ≤ k) ∧ InIs w' b (restL n l e) (restE n l e) ∧ OStep b w w'

set_option maxHeartbeats 1200000 in
theorem in_raw_new (b n : Nat) (l : List UInt8) (e : Nat) (w : World) (hn : n < 9223372036854775808) (hl : l.length ≤ 1000000008) (h : InIs w b l e) :
    Calls Tryz.prog 96 #[.pointer (some ⟨b, 0, none⟩), .int .i64 (n : Int)] w (RawNew w b l n e) := by
  obtain ⟨v, h0, h1, hv⟩ := h.parts
  by_cases he : e = 0
  · subst he
    by_cases hs : l.length < n
    · have E1 := hid (show rawL n l 0 = [] by simp [rawL, hs])
      have E2 := hid (show restL n l 0 = l by simp [restL, hs])
      have E3 := hid (show restE n l 0 = 4 by simp [restE, hs])
      go_enter_defers Tryz.func96, Tryz.ntmps96
      go_wp2_with fail
      refine (cut_short b n l 0 w hs h).mono ?_
      rintro en w' ⟨rfl, rfl⟩
      go_wp2_with fail
      refine leaves_cons (f := 93) (args := #[.pointer (some ⟨b, 0, none⟩)]) (by simp) (by simp [go_sem]) ?_
      refine (caught_panicking2 b l 0 4 _ h).mono ?_
      rintro en u' w'' ⟨rfl, rfl, hi, hbb⟩
      simp only [settle, errChainR]
      exact ⟨_, results_tmp rfl _ _ _, _, rfl, ⟨by rw [E1.out]; exact RowAt.nil, fun k hk => by cases hk⟩, by rw [E2.out, E3.out]; exact hi, hbb⟩
    · have E1 := hid (show rawL n l 0 = l.take n by simp [rawL, hs])
      have E2 := hid (show restL n l 0 = l.drop n by simp [restL, hs])
      have E3 := hid (show restE n l 0 = 0 by simp [restE, hs])
      have hle : n ≤ l.length := by omega
      go_enter_defers Tryz.func96, Tryz.ntmps96
      go_wp2_with fail
      refine (cut_ok2 b n l 0 w hle hl h).mono ?_
      rintro en w1 ⟨v1, rfl, hv1, hi1, hb1⟩
      go_wp2_with fail
      refine (clone_new v1 (l.take n) w1 hv1 (by simp; omega)).mono ?_
      rintro en w2 ⟨v2, rfl, hv2, hb2⟩
      obtain ⟨hv2, hnw⟩ := hv2
      obtain ⟨a2, c2, rfl, g1, g2, _⟩ := hv2.form
      replace hnw := hid hnw
      go_wp2_with fail
      have hln : (l.take n).length = n := by simp; omega
      replace hln := hid hln
      refine (clip_at a2 n c2 w2 (by rw [← hln.out]; exact g1) g2).mono ?_
      rintro en w3 ⟨rfl, rfl⟩
      have hv3 : BytesAt w2 (.slice a2 n n) (l.take n) := by have := hv2.take (l.take n).length (l.take n).length (Nat.le_refl _) (Nat.le_refl _) g1; rw [List.take_length] at this; rwa [hln.out] at this
      have hsz1 := hb1.below.size
      go_wp2_with fail
      refine leaves_cons (f := 93) (args := #[.pointer (some ⟨b, 0, none⟩)]) (by simp) (by simp [go_sem]) ?_
      refine (caught_idle b _).mono ?_
      rintro en u' w'' ⟨rfl, rfl, rfl⟩
      simp only [settle]
      exact ⟨_, results_tmp rfl _ _ _, _, rfl, ⟨by rw [E1.out]; exact hv3, fun k hk => Nat.le_trans hsz1 (hnw.out k (by cases a2 <;> exact hk))⟩, by rw [E2.out, E3.out]; exact hi1.below hb2, hb1.trans (OStep.pure hi1.lt hb2)⟩
  · have E1 := hid (show rawL n l e = [] by simp [rawL, he])
    have E2 := hid (show restL n l e = l by simp [restL, he])
    have E3 := hid (show restE n l e = e by simp [restE, he])
    have k0 : ((e : Int) != 0) = true := by simpa using he
    clear he
    go_enter_defers Tryz.func96, Tryz.ntmps96
    go_wp2_with fail
    simp only [bodyPostD, Leaves]
    exact ⟨_, results_tmp rfl _ _ _, _, rfl, ⟨by rw [E1.out]; exact RowAt.nil, fun k hk => by cases hk⟩, by rw [E2.out, E3.out]; exact h, OStep.refl _ _⟩

def RawPost2 (w : World) (b : Nat) (l : List UInt8) (n e : Nat) (en : Ending) (w' : World) : Prop :=
  ∃ v', en = .returned v' ∧ BytesAt w' v' (rawL n l e) ∧ InIs w' b (restL n l e) (restE n l e) ∧ OStep b w w'
theorem in_raw_step (b n : Nat) (l : List UInt8) (e : Nat) (w : World) (hn : n < 9223372036854775808) (hl : l.length ≤ 1000000008) (h : InIs w b l e) :
    Calls Tryz.prog 96 #[.pointer (some ⟨b, 0, none⟩), .int .i64 (n : Int)] w (RawPost2 w b l n e) := (in_raw_new b n l e w hn hl h).mono fun _ _ ⟨v', h1, h2, h3⟩ => ⟨v', h1, h2.1, h3⟩

end
end Go.Proofs.YtpmlhmficmillaaGreat

namespace Go.Proofs.YtpmlhmficmillaaGreat
section
open Go.RowKit
set_option maxRecDepth 100000
end
end Go.Proofs.YtpmlhmficmillaaGreat
