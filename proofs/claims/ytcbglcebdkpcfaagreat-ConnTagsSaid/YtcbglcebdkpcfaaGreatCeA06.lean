/- A tag that is answered; all tags. Conditions: sizes of the machine. And the texts behind it. -/
import Derived.Test.YtcbglcebdkpcfaaGreatCeA05
import Derived.Test.YtcbglcebdkpcfaaGreatCeA03
namespace Go.Proofs.YtcbglcebdkpcfaaGreat
section
open Go.RowKit
set_option maxRecDepth 100000
set_option linter.unusedVariables false

theorem done1_any (b x : Nat) (r : Option Nat) (w : World) (hb : w.heap[b]? = some (.cells #[.int .u16 (x : Int)] 31 (0, 0))) (hr : r ≠ some b) :
    TestsT 45 #[.pointer (some ⟨b, 0, none⟩)] r w (fun n => decide (n = x)) := by
  intro n w' hk
  have c0 := block_cell ((hk b hr).trans hb) 0
  clear hb hk
  show Calls _ _ _ _ fun e w2 => e = .returned (.bool (decide (n = x))) ∧ w2 = w'
  obtain ⟨q, hq⟩ : ∃ q, q = decide (n = x) := ⟨_, rfl⟩
  rw [← hq]
  by_cases h : n = x
  · subst h
    obtain rfl : q = true := by simpa using hq
    clear hq
    go_enter Tryz.func45, Tryz.ntmps45
    go_wp2
    go_ret
    simp
  · have h1 : ((n : Int) == (x : Int)) = false := by rw [beq_eq_false_iff_ne]; omega
    obtain rfl : q = false := by rw [hq]; exact decide_eq_false h
    clear h hq
    go_enter Tryz.func45, Tryz.ntmps45
    go_wp2
    go_ret
    simp
theorem tdelw_nil (w : World) (f : Value) : Calls Tryz.prog 46 #[.slice none 0 0, f] w fun e w' => e = .returned (.slice none 0 0) ∧ w' = w := by
  have hi : Calls Tryz.prog 67 #[.slice none 0 0, f] w fun e w' => e = .returned (.int .i64 (-1)) ∧ w' = w := by
    go_enter Tryz.func67, Tryz.ntmps67
    go_wp2_with fail
    go_loopw [8] (fun s8 wr => s8 = .int .i64 0 ∧ wr = w) (fun _ _ => 0)
    case atStart => exact ⟨rfl, rfl⟩
    case round =>
      obtain ⟨rfl, rfl⟩ := hrel
      go_wp2_with fail
      go_ret
      exact ⟨rfl, rfl⟩
  replace hi := hid hi
  go_enter Tryz.func46, Tryz.ntmps46
  go_wp2_with fail
  refine hi.out.mono ?_
  rintro e w1 ⟨rfl, rfl⟩
  go_wp2_with fail
  go_ret
  exact ⟨rfl, rfl⟩
def doneF (xs : List Nat) (x : Nat) : List Nat := xs.filter fun n => !decide (n = x)
theorem doneF_none {xs : List Nat} {x : Nat} (h : x ∉ xs) : doneF xs x = xs := List.filter_eq_self.2 fun n hn => by
  have : n ≠ x := fun e => h (e ▸ hn)
  simp [this]
section
variable {w : World} {t : Nat} {v : Value} {xs : List Nat} {x : Nat}
set_option maxHeartbeats 1600000 in
theorem tdone_any (h : TabS w t v xs) (hl : xs.length ≤ 1000) : Calls Tryz.prog 24 #[.pointer (some ⟨t, 0, none⟩), .int .u16 (x : Int)] w (TabP w t v (.bool (decide (x ∈ xs))) (doneF xs x)) := by
  obtain ⟨W, hW⟩ : ∃ W, W = w.alloc (.cells #[.int .u16 (x : Int)] 31) := ⟨_, rfl⟩
  have hB : Below w.heap.size w W := by rw [hW]; exact (Below.refl _ _).alloc (Nat.le_refl _) _
  have hS := h.below hB
  have hb : W.heap[w.heap.size]? = some (.cells #[.int .u16 (x : Int)] 31 (0, 0)) := by rw [hW]; exact heap_alloc_new _ _
  have hne : v.ownBlock ≠ some w.heap.size := fun e => by have := (h.row e).2; omega
  have hh := hid (thas_any (x := x) hS hl)
  have hd := hid (tdel_any v xs _ _ (t + 1) _ W hS.own hl (done1_any w.heap.size x _ W hb hne) (fun args W => rfl))
  have cb := block_cell hb 0
  have c0 := block_cell hS.blk 0
  have f0 := block_free hS.blk 0
  obtain ⟨a, c, rfl, _⟩ := h.own.at.form
  have hlt := hid h.lt
  replace hS := hid hS
  replace hB := hid hB
  replace h := hid h
  clear hb
  go_enter Tryz.func24, Tryz.ntmps24
  go_wp2_with (rw [← hW]; replace hW := hid hW)
  try (rw [← hW]; replace hW := hid hW)
  refine hh.out.mono ?_
  rintro e w1 ⟨rfl, hw1⟩
  obtain rfl := hw1.symm
  by_cases hx : x ∈ xs
  · rw [decide_eq_true hx]
    have hx' := hid hx
    clear hx hh
    go_wp2_with fail
    refine hd.out.mono ?_
    rintro e w2 ⟨v2, rfl, ho2, hb2, hz2, hk2, hv2⟩
    have hT2 := hid ((hk2 t (fun e => by have := (h.out.row e).1; omega)).trans hS.out.blk)
    obtain ⟨n2, hn2⟩ : ∃ n, n = (xs.filter fun n => !decide (n = x)).length := ⟨_, rfl⟩
    obtain ⟨a2, c2, hve, _⟩ := ho2.at.form
    rw [← hn2] at hve
    obtain rfl := hve
    have e0 := block_cell hT2.out 0
    have e1 := block_cell hT2.out 1
    have g0 := block_free hT2.out 0
    have g1 := block_free hT2.out 1
    have hT3 := hid (block_set hT2.out 0 (.slice a2 n2 c2))
    have i1 := block_cell hT3.out 1
    have k1 := block_free hT3.out 1
    have hT4 := hid (block_set hT3.out 1 (.slice none 0 0))
    replace ho2 := hid ho2
    replace hb2 := hid hb2
    replace hk2 := hid hk2
    have hdw := hid (fun w f => tdelw_nil w f)
    have ho2' := ho2.out
    unfold TagsOwn at ho2'
    rw [← hn2] at ho2'
    replace ho2' := hid ho2'
    replace hv2 := hid hv2
    replace hn2 := hid hn2
    replace hz2 := hid hz2
    clear hd c0 f0 cb
    go_wp2_with fail
    refine (hdw.out _ _).mono ?_
    rintro e w3 ⟨rfl, rfl⟩
    go_wp2_with fail
    go_ret
    have hzW := hid hB.out.size
    refine ⟨_, by rw [decide_eq_true hx'.out]; rfl, ⟨hT4.out, ?_⟩, ⟨?_, fun j hj h1 h2 => ?_, fun j hj h1 => ?_, ?_⟩⟩
    · unfold TagsOwn doneF
      rw [← hn2.out]
      have hgt : ∀ j, (Value.slice a2 n2 c2).ownBlock = some j → t < j := fun j hj => by have := (ho2'.out.lt j hj).1; omega
      exact ownsRow_setCell_other (ownsRow_setCell_other ho2'.out (fun e => by have := hgt _ e; simp at this) _) (fun e => by have := hgt _ e; simp at this) _
    · have := hz2.out; have := hzW.out; simp [World.setCell]; omega
    · exact (block_set_other h1).trans ((block_set_other h1).trans ((hk2.out j h2).trans (hB.out.block j hj)))
    · rw [hv2.out]; exact h1
    · exact (((show Below t _ _ from (hB.out.mono (by have := hlt.out; omega)).trans (hb2.out.mono (by omega))).setCell (p := ⟨t, 0, none⟩) (Nat.le_refl _) _).setCell (p := ⟨t, 1, none⟩) (Nat.le_refl _) _)
  · have hn := hid (doneF_none hx)
    rw [decide_eq_false hx]
    have hx' := hid hx
    clear hx hh hd
    go_wp2_with fail
    go_ret
    rw [hn.out]
    exact ⟨_, by rw [decide_eq_false hx'.out]; rfl, hS.out, hB.out.size, fun j hj _ _ => hB.out.block j hj, fun j _ h => h, hB.out.mono (by have := hlt.out; omega)⟩
end
end
end Go.Proofs.YtcbglcebdkpcfaaGreat

namespace Go.Proofs.YtcbglcebdkpcfaaGreat
section
open Go.RowKit
set_option maxRecDepth 100000

theorem ostep_cell {b : Nat} {w : World} {cs : Array Value} {t : TypeId} {fr : Nat × Nat} (hb : w.heap[b]? = some (.cells cs t fr)) (i : Nat) (u : Value) (hu : i = 0 → ∀ v, cs[0]? = some v → u.ownBlock = v.ownBlock) :
    OStep b w (w.setCell ⟨b, i, none⟩ u) := by
  have hfoot : ∀ k, Foot (w.setCell ⟨b, i, none⟩ u) b k → Foot w b k := by
    rintro k (he | ⟨v, hv, hk2⟩)
    · exact .inl he
    · have h1 := block_cell (block_set hb i u) 0
      rw [h1] at hv
      by_cases hi : i = 0
      · subst hi
        cases hc : cs[0]? with
        | none => 
          have : cs.size ≤ 0 := by simpa using hc
          rw [Array.getElem?_eq_none (by simpa using this)] at hv; cases hv
        | some v0 =>
          have hlt : 0 < cs.size := by
            rcases Nat.lt_or_ge 0 cs.size with h | h
            · exact h
            · rw [Array.getElem?_eq_none h] at hc; cases hc
          rw [Array.getElem?_setIfInBounds_self_of_lt hlt] at hv
          cases hv
          exact .inr ⟨v0, by rw [block_cell hb 0]; exact hc, by rw [← hu rfl v0 hc]; exact hk2⟩
      · rw [Array.getElem?_setIfInBounds_ne hi] at hv
        exact .inr ⟨v, by rw [block_cell hb 0]; exact hv, hk2⟩
  refine ⟨(Below.refl b w).setCell (p := ⟨b, i, none⟩) (Nat.le_refl _) _, fun k hk hn => ⟨block_set_other fun e => hn (.inl e), fun h => hn (hfoot k h)⟩, ?_⟩
  rintro ⟨cs', t', fr', hc, hs⟩
  rw [hb] at hc
  cases hc
  exact ⟨⟨_, _, _, block_set hb i u, by simpa using hs⟩, hfoot⟩
theorem ostep_cell0 {b : Nat} {w : World} {v : Value} {l : List Value} {t : TypeId} {fr : Nat × Nat} (hb : w.heap[b]? = some (.cells ⟨v :: l⟩ t fr)) (u : Value) (hu : u.ownBlock = v.ownBlock) :
    OStep b w (w.setCell ⟨b, 0, none⟩ u) := ostep_cell hb 0 u (by rintro - _ h; cases h; exact hu)

theorem OStep.store {b : Nat} {w w1 : World} {p : Addr} (h : OStep b w w1) (hp : w.heap.size ≤ p.block) (_hf : ¬ Foot w1 b p.block) (hb : b < w.heap.size) (u : Value) : OStep b w (w1.setCell p u) :=
  have hc0 : (w1.setCell p u).cell? ⟨b, 0, none⟩ = w1.cell? ⟨b, 0, none⟩ := World.cell?_of_block (w := w1) (block_set_other (by show b ≠ p.block; omega))
  have hfoot : ∀ k, Foot (w1.setCell p u) b k → Foot w1 b k := by
    rintro k (he | ⟨v, hv, hk2⟩)
    · exact .inl he
    · rw [hc0] at hv; exact .inr ⟨v, hv, hk2⟩
  ⟨h.below.setCell (by omega) _, fun k hk hn => by
    obtain ⟨e1, n1⟩ := h.block k hk hn
    exact ⟨(block_set_other (by omega)).trans e1, fun hf => n1 (hfoot k hf)⟩, fun ht => by
    obtain ⟨⟨cs, t, fr, hc, hs⟩, f1⟩ := h.two ht
    exact ⟨⟨cs, t, fr, (block_set_other (by show b ≠ p.block; omega)).trans hc, hs⟩, fun k hk => f1 k (hfoot k hk)⟩⟩
theorem Foot.store {b k : Nat} {w : World} {p : Addr} {u : Value} (hp : p.block ≠ b) (hf : ¬ Foot w b k) : ¬ Foot (w.setCell p u) b k := by
  rintro (he | ⟨v, hv, hk2⟩)
  · exact hf (.inl he)
  · have : (w.setCell p u).cell? ⟨b, 0, none⟩ = w.cell? ⟨b, 0, none⟩ := World.cell?_of_block (w := w) (block_set_other (by show b ≠ p.block; omega))
    rw [this] at hv
    exact hf (.inr ⟨v, hv, hk2⟩)
theorem InIs.store {w : World} {b : Nat} {l : List UInt8} {e : Nat} (h : InIs w b l e) {p : Addr} (u : Value) (hf : ¬ Foot w b p.block) : InIs (w.setCell p u) b l e := by
  obtain ⟨v, hb, hl, hne⟩ := h
  have hpb : b ≠ p.block := fun e => hf (.inl e.symm)
  exact ⟨v, (block_set_other hpb).trans hb, hl.setCell _ (fun e => hf (.inr ⟨v, block_cell hb 0, e⟩)), hne⟩
theorem InIs.two {w : World} {b : Nat} {l : List UInt8} {e : Nat} (h : InIs w b l e) : TwoAt w b := by
  obtain ⟨v, hb, _⟩ := h
  exact ⟨_, _, _, hb, rfl⟩
theorem InIs.foot_lt {w : World} {b k : Nat} {l : List UInt8} {e : Nat} (h : InIs w b l e) (hf : Foot w b k) : k < w.heap.size := by
  obtain ⟨v, hb, hl, hne⟩ := h
  rcases hf with rfl | ⟨v', hv, hk⟩
  · exact lt_of_block hb
  · rw [block_cell hb 0] at hv
    cases hv
    exact hl.lt hk
theorem InIs.new {w : World} {b : Nat} {l : List UInt8} {e : Nat} (h : InIs w b l e) (o : Obj) : ¬ Foot (w.alloc o) b w.heap.size := by
  intro hf
  refine Nat.lt_irrefl w.heap.size (h.foot_lt ?_)
  rcases hf with he | ⟨v, hv, hk⟩
  · exact .inl he
  · right
    obtain ⟨v0, hb, hl, hne⟩ := h
    have : (w.alloc o).cell? ⟨b, 0, none⟩ = w.cell? ⟨b, 0, none⟩ := World.cell?_of_block (w := w) (heap_alloc_old w o (lt_of_block hb))
    rw [this] at hv
    exact ⟨v, hv, hk⟩

theorem caught_panicking2 (b : Nat) (l : List UInt8) (e0 e : Nat) (w : World) (h : InIs w b l e0) :
    CallsD Tryz.prog 75 #[.pointer (some ⟨b, 0, none⟩)] (.panicking (errChain e)) w fun en u' w' =>
      en = .returned (.tuple #[]) ∧ u' = .panicking (errChainR e) ∧ InIs w' b l e ∧ OStep b w w' := by
  obtain ⟨v, hb, hl, hne⟩ := h
  have hc1 : w.cell? ⟨b, 0 + 1, none⟩ = some (.int .i64 (e0 : Int)) := block_cell hb 1
  have hf1 : w.frozen? ⟨b, 0 + 1, none⟩ = false := block_free hb 1
  have hst : InIs (w.setCell ⟨b, 0 + 1, none⟩ (.int .i64 (e : Int))) b l e := ⟨v, block_set hb 1 _, hl.setCell _ hne, hne⟩
  have hbs := ostep_cell hb 1 (.int .i64 (e : Int)) (by intro h; cases h)
  clear hb
  have hta := assert_errno
  refine callsD_of_wpS Tryz.func75 rfl fun c₀ cs hu => ?_
  apply wpS_seq
  apply wpS_region
  simp [wpOpsS, go_sem, recoverD, hu, errChain, Tryz.ntmps75, Exit.thenS, Array.replicate_succ]
  apply wpS_body
  go_wp2
  go_end0
  exact ⟨rfl, rfl, hst, hbs⟩

def CutPost2 (w : World) (b : Nat) (l : List UInt8) (n e : Nat) (en : Ending) (w' : World) : Prop :=
  ∃ v', en = .returned v' ∧ BytesAt w' v' (l.take n) ∧ InIs w' b (l.drop n) e ∧ OStep b w w'

set_option maxHeartbeats 800000 in
theorem cut_ok2 (b n : Nat) (l : List UInt8) (e : Nat) (w : World) (hn : n ≤ l.length) (_hl : l.length ≤ 1000000008) (h : InIs w b l e) :
    Calls Tryz.prog 76 #[.pointer (some ⟨b, 0, none⟩), .int .i64 (n : Int)] w (CutPost2 w b l n e) := by
  obtain ⟨v, hb, hv, hne⟩ := h
  obtain ⟨a, c, rfl, hc1, hc2, hc3⟩ := hv.form
  have hc0 := block_cell hb 0
  have hf0 := block_free hb 0
  simp at hc0
  unfold maxLen at hc2
  replace hb := hid hb
  by_cases hcn : c = n
  · have hst : InIs (w.setCell ⟨b, 0, none⟩ (.slice a (l.length - n) 0)) b (l.drop n) e :=
      ⟨_, block_set hb.out 0 _, (hv.drop0 hcn).setCell _ (by rw [ownBlock_same]; exact hne), by rw [ownBlock_same]; exact hne⟩
    have htk := (hv.take n n hn (Nat.le_refl _) (by omega)).setCell (p := ⟨b, 0, none⟩) (.slice a (l.length - n) 0) (by rw [ownBlock_same]; exact hne)
    have hbs := ostep_cell0 hb.out (.slice a (l.length - n) 0) (by rw [ownBlock_same])
    go_enter Tryz.func76, Tryz.ntmps76
    go_wp2
    go_ret
    exact ⟨_, rfl, htk, hst, hbs⟩
  · have hst : InIs (w.setCell ⟨b, 0, none⟩ (.slice (Option.map (fun x => x.add n) a) (l.length - n) (c - n))) b (l.drop n) e :=
      ⟨_, block_set hb.out 0 _, (hv.drop1 n hn).setCell _ (by rw [ownBlock_map]; exact hne), by rw [ownBlock_map]; exact hne⟩
    have htk := (hv.take n c hn (by omega) (Nat.le_refl _)).setCell (p := ⟨b, 0, none⟩) (.slice (Option.map (fun x => x.add n) a) (l.length - n) (c - n)) (by rw [ownBlock_same]; exact hne)
    have hbs := ostep_cell0 hb.out (.slice (Option.map (fun x => x.add n) a) (l.length - n) (c - n)) (by rw [ownBlock_map])
    go_enter Tryz.func76, Tryz.ntmps76
    go_wp2
    go_ret
    exact ⟨_, rfl, htk, hst, hbs⟩

set_option maxHeartbeats 1200000 in
theorem in_take_step (b n : Nat) (l : List UInt8) (e : Nat) (w : World) (hn1 : 1 ≤ n) (hn8 : n ≤ 8) (hl : l.length ≤ 1000000008) (h : InIs w b l e) :
    Calls Tryz.prog 55 #[.pointer (some ⟨b, 0, none⟩), .int .i64 (n : Int)] w fun en w' => en = .returned (.int .u64 (takeV n l e : Int)) ∧ InIs w' b (restL n l e) (restE n l e) ∧ OStep b w w' := by
  obtain ⟨v, h0, h1, hv⟩ := h.parts
  by_cases he : e = 0
  · subst he
    by_cases hs : l.length < n
    · have E1 := hid (show takeV n l 0 = 0 by simp [takeV, hs])
      have E2 := hid (show restL n l 0 = l by simp [restL, hs])
      have E3 := hid (show restE n l 0 = 4 by simp [restE, hs])
      go_enter_defers Tryz.func55, Tryz.ntmps55
      go_wp2_with fail
      refine (cut_short b n l 0 w hs h).mono ?_
      rintro en w' ⟨rfl, rfl⟩
      go_wp2_with fail
      refine leaves_cons (f := 75) (args := #[.pointer (some ⟨b, 0, none⟩)]) (by simp) (by simp [go_sem]) ?_
      refine (caught_panicking2 b l 0 4 _ h).mono ?_
      rintro en u' w'' ⟨rfl, rfl, hi, hbb⟩
      simp only [settle, errChainR]
      exact ⟨_, results_tmp rfl _ _ _, by rw [E1.out]; rfl, by rw [E2.out, E3.out]; exact hi, hbb⟩
    · have E1 := hid (show takeV n l 0 = leN (l.take n) by simp [takeV, hs])
      have E2 := hid (show restL n l 0 = l.drop n by simp [restL, hs])
      have E3 := hid (show restE n l 0 = 0 by simp [restE, hs])
      have hle : n ≤ l.length := by omega
      go_enter_defers Tryz.func55, Tryz.ntmps55
      go_wp2_with fail
      refine (cut_ok2 b n l 0 w hle hl h).mono ?_
      rintro en w1 ⟨v1, rfl, hv1, hi1, hb1⟩
      have hlen : (l.take n).length = n := by simp; omega
      obtain ⟨a1, c1, rfl, hc1, hc2, hc3⟩ := hv1.form
      have HL := hid hlen
      clear hlen
      go_wp2_with fail
      generalize hLL : l.take n = L at *
      replace hLL := hid hLL
      obtain rfl : n = L.length := HL.out.symm
      go_loop [4, 24] (fun x i => ∃ k : Nat, k ≤ L.length ∧ i = .int .i64 (k : Int) ∧ x = .int .u64 (leN (L.take k) : Int)) (fun _ i => L.length - (intOf i).toNat)
      case atStart => exact ⟨0, by omega, rfl, rfl⟩
      case round =>
        obtain ⟨k, hk, rfl, rfl⟩ := hrel
        by_cases hlt : k < L.length
        · obtain ⟨bb, o, rfl, hcell⟩ := hv1.cell k hlt
          have hsn : L.take (k + 1) = L.take k ++ [L[k]] := List.take_succ_eq_append_getElem hlt
          have hkl : (L.take k).length = k := by simp; omega
          have hb0 := leN_lt (L.take k)
          rw [hkl] at hb0
          have hor := hid (or_take' hb0 L[k].toNat_lt (show k < 8 by omega))
          have hfin : Hid (leN (L.take (k + 1)) = leN (L.take k) + L[k].toNat * 256 ^ k) := hid (by rw [hsn, leN_snoc, hkl])
          clear hsn hkl hb0
          go_wp2
          go_round
          case rel => exact ⟨k + 1, by omega, by go_num, by rw [hor.out, hfin.out]⟩
          case measure => simp [intOf]; omega
        · obtain rfl : k = L.length := by omega
          rw [List.take_length]
          go_wp2
          refine leaves_cons (f := 75) (args := #[.pointer (some ⟨b, 0, none⟩)]) (by simp) (by simp [go_sem]) ?_
          refine (caught_idle b _).mono ?_
          rintro en u' w'' ⟨rfl, rfl, rfl⟩
          simp only [settle]
          exact ⟨_, results_tmp rfl _ _ _, by rw [E1.out]; rfl, by rw [E2.out, E3.out]; exact hi1, hb1⟩

  · have E1 := hid (show takeV n l e = 0 by simp [takeV, he])
    have E2 := hid (show restL n l e = l by simp [restL, he])
    have E3 := hid (show restE n l e = e by simp [restE, he])
    have k0 : ((e : Int) != 0) = true := by simpa using he
    clear he
    go_enter_defers Tryz.func55, Tryz.ntmps55
    go_wp2_with fail
    simp only [bodyPostD, Leaves]
    exact ⟨_, results_tmp rfl _ _ _, by rw [E1.out]; rfl, by rw [E2.out, E3.out]; exact h, OStep.refl _ _⟩

def RawNew (w : World) (b : Nat) (l : List UInt8) (n e : Nat) (en : Ending) (w' : World) : Prop :=
  ∃ v', en = .returned v' ∧ (BytesAt w' v' (rawL n l e) ∧ ∀ k, v'.ownBlock = some k → w.heap.size ≤ k) ∧ InIs w' b (restL n l e) (restE n l e) ∧ OStep b w w'

set_option maxHeartbeats 1200000 in
theorem in_raw_new (b n : Nat) (l : List UInt8) (e : Nat) (w : World) (hn : n < 9223372036854775808) (hl : l.length ≤ 1000000008) (h : InIs w b l e) :
    Calls Tryz.prog 156 #[.pointer (some ⟨b, 0, none⟩), .int .i64 (n : Int)] w (RawNew w b l n e) := by
  obtain ⟨v, h0, h1, hv⟩ := h.parts
  by_cases he : e = 0
  · subst he
    by_cases hs : l.length < n
    · have E1 := hid (show rawL n l 0 = [] by simp [rawL, hs])
      have E2 := hid (show restL n l 0 = l by simp [restL, hs])
      have E3 := hid (show restE n l 0 = 4 by simp [restE, hs])
      go_enter_defers Tryz.func156, Tryz.ntmps156
      go_wp2_with fail
      refine (cut_short b n l 0 w hs h).mono ?_
      rintro en w' ⟨rfl, rfl⟩
      go_wp2_with fail
      refine leaves_cons (f := 75) (args := #[.pointer (some ⟨b, 0, none⟩)]) (by simp) (by simp [go_sem]) ?_
      refine (caught_panicking2 b l 0 4 _ h).mono ?_
      rintro en u' w'' ⟨rfl, rfl, hi, hbb⟩
      simp only [settle, errChainR]
      exact ⟨_, results_tmp rfl _ _ _, _, rfl, ⟨by rw [E1.out]; exact RowAt.nil, fun k hk => by cases hk⟩, by rw [E2.out, E3.out]; exact hi, hbb⟩
    · have E1 := hid (show rawL n l 0 = l.take n by simp [rawL, hs])
      have E2 := hid (show restL n l 0 = l.drop n by simp [restL, hs])
      have E3 := hid (show restE n l 0 = 0 by simp [restE, hs])
      have hle : n ≤ l.length := by omega
      go_enter_defers Tryz.func156, Tryz.ntmps156
      go_wp2_with fail
      refine (cut_ok2 b n l 0 w hle hl h).mono ?_
      rintro en w1 ⟨v1, rfl, hv1, hi1, hb1⟩
      go_wp2_with fail
      refine (clone_new v1 (l.take n) w1 hv1 (by simp; omega)).mono ?_
      rintro en w2 ⟨v2, rfl, hv2, hb2⟩
      obtain ⟨hv2, hnw⟩ := hv2
      obtain ⟨a2, c2, rfl, g1, g2, _⟩ := hv2.form
      replace hnw := hid hnw
      go_wp2_with fail
      have hln : (l.take n).length = n := by simp; omega
      replace hln := hid hln
      refine (clip_at a2 n c2 w2 (by rw [← hln.out]; exact g1) g2).mono ?_
      rintro en w3 ⟨rfl, rfl⟩
      have hv3 : BytesAt w2 (.slice a2 n n) (l.take n) := by have := hv2.take (l.take n).length (l.take n).length (Nat.le_refl _) (Nat.le_refl _) g1; rw [List.take_length] at this; rwa [hln.out] at this
      have hsz1 := hb1.below.size
      go_wp2_with fail
      refine leaves_cons (f := 75) (args := #[.pointer (some ⟨b, 0, none⟩)]) (by simp) (by simp [go_sem]) ?_
      refine (caught_idle b _).mono ?_
      rintro en u' w'' ⟨rfl, rfl, rfl⟩
      simp only [settle]
      exact ⟨_, results_tmp rfl _ _ _, _, rfl, ⟨by rw [E1.out]; exact hv3, fun k hk => Nat.le_trans hsz1 (hnw.out k (by cases a2 <;> exact hk))⟩, by rw [E2.out, E3.out]; exact hi1.below hb2, hb1.trans (OStep.pure hi1.lt hb2)⟩
  · have E1 := hid (show rawL n l e = [] by simp [rawL, he])
    have E2 := hid (show restL n l e = l by simp [restL, he])
    have E3 := hid (show restE n l e = e by simp [restE, he])
    have k0 : ((e : Int) != 0) = true := by simpa using he
    clear he
    go_enter_defers Tryz.func156, Tryz.ntmps156
    go_wp2_with fail
    simp only [bodyPostD, Leaves]
    exact ⟨_, results_tmp rfl _ _ _, _, rfl, ⟨by rw [E1.out]; exact RowAt.nil, fun k hk => by cases hk⟩, by rw [E2.out, E3.out]; exact h, OStep.refl _ _⟩

def RawPost2 (w : World) (b : Nat) (l : List UInt8) (n e : Nat) (en : Ending) (w' : World) : Prop :=
  ∃ v', en = .returned v' ∧ BytesAt w' v' (rawL n l e) ∧ InIs w' b (restL n l e) (restE n l e) ∧ OStep b w w'
theorem in_raw_step (b n : Nat) (l : List UInt8) (e : Nat) (w : World) (hn : n < 9223372036854775808) (hl : l.length ≤ 1000000008) (h : InIs w b l e) :
    Calls Tryz.prog 156 #[.pointer (some ⟨b, 0, none⟩), .int .i64 (n : Int)] w (RawPost2 w b l n e) := (in_raw_new b n l e w hn hl h).mono fun _ _ ⟨v', h1, h2, h3⟩ => ⟨v', h1, h2.1, h3⟩

set_option maxHeartbeats 800000 in
theorem text_take_step (b : Nat) (l : List UInt8) (e : Nat) (w : World) (hl : l.length ≤ 1000000000) (h : InIs w b l e) :
    Calls Tryz.prog 161 #[.pointer (some ⟨b, 0, none⟩)] w fun en w' => en = .returned (.tuple #[.string (tkStr l e), .int .i64 (tkErr l e : Int)]) ∧ InIs w' b (tkL l e) (tkE l e) ∧ OStep b w w' := by
  have hv := takeV_lt 2 l e (by omega)
  go_enter Tryz.func161, Tryz.ntmps161
  go_wp2_with fail
  refine (in_take_step b 2 l e w (by omega) (by omega) (by omega) h).mono ?_
  rintro en w1 ⟨rfl, h1, hb1⟩
  go_wp2_with fail
  have hl1 := restL_le 2 l e
  refine (in_raw_step b (takeV 2 l e) (restL 2 l e) (restE 2 l e) w1 (by omega) (by omega) h1).mono ?_
  rintro en w2 ⟨v2, rfl, hv2, h2, hb2⟩
  have hcv := conv_string w2 v2 _ hv2
  replace h2 : InIs w2 b (tkL l e) (tkE l e) := h2
  go_wp2_with fail
  refine (in_err_any b (tkL l e) (tkE l e) w2 h2).mono ?_
  rintro en w3 ⟨rfl, rfl⟩
  have D1 : Hid (tkErr l e = if tkE l e ≠ 0 then tkE l e else mayN (strL (rawL (takeV 2 l e) (restL 2 l e) (restE 2 l e)))) := hid rfl
  have D2 : Hid (tkStr l e = if tkErr l e ≠ 0 then ByteArray.empty else strL (rawL (takeV 2 l e) (restL 2 l e) (restE 2 l e))) := hid rfl
  have hrl := rawL_le (takeV 2 l e) (restL 2 l e) (restE 2 l e)
  have hb := hb1.trans hb2
  clear hv2 hb2 hb1 h1 h hv hcv
  generalize rawL (takeV 2 l e) (restL 2 l e) (restE 2 l e) = r at *
  generalize hE2 : tkE l e = e2 at *
  replace hE2 := hid hE2
  by_cases he : e2 = 0
  · subst he
    rw [if_neg (by simp)] at D1
    by_cases hm : mayN (strL r) = 0
    · have hm' := hid hm
      replace D1 := hid (D1.out.trans hm)
      have D3 := D2.out
      rw [D1.out, if_neg (by simp)] at D3
      replace D3 := hid D3
      clear D2 hm
      go_wp2_with fail
      refine (may_any (strL r) w2 (by rw [strL_size]; unfold maxLen; omega)).mono ?_
      rw [hm'.out]
      rintro en w3 ⟨rfl, hb3⟩
      go_wp2_with fail
      go_ret2
      exact ⟨by rw [D1.out, D3.out]; rfl, by rw [hE2.out]; exact h2.below hb3, hb.trans (OStep.pure h2.lt hb3)⟩
    · have D3 := D2.out
      rw [if_pos (by rw [D1.out]; exact hm)] at D3
      replace D3 := hid D3
      have k0 : ((mayN (strL r) : Int) != 0) = true := by simpa using hm
      clear D2 hm
      go_wp2_with fail
      refine (may_any (strL r) w2 (by rw [strL_size]; unfold maxLen; omega)).mono ?_
      rintro en w3 ⟨rfl, hb3⟩
      go_wp2_with fail
      go_ret2
      exact ⟨by rw [D1.out, D3.out]; rfl, by rw [hE2.out]; exact h2.below hb3, hb.trans (OStep.pure h2.lt hb3)⟩
  · have D4 := D1.out
    rw [if_pos he] at D4
    have D3 := D2.out
    rw [if_pos (by rw [D4]; exact he)] at D3
    replace D3 := hid D3
    replace D4 := hid D4
    have k0 : ((e2 : Int) != 0) = true := by simpa using he
    clear D2 D1 he
    go_wp2_with fail
    go_ret2
    exact ⟨by rw [D4.out, D3.out]; rfl, by rw [hE2.out]; exact h2, hb⟩
end
end Go.Proofs.YtcbglcebdkpcfaaGreat

namespace Go.Proofs.YtcbglcebdkpcfaaGreat
section
open Go.RowKit
set_option maxRecDepth 100000

def tv (n : Nat) (p : List UInt8 × Nat) : Nat := takeV n p.1 p.2
def rd (n : Nat) (p : List UInt8 × Nat) : List UInt8 × Nat := (restL n p.1 p.2, restE n p.1 p.2)
def ts (p : List UInt8 × Nat) : ByteArray := tkStr p.1 p.2
def te (p : List UInt8 × Nat) : Nat := tkErr p.1 p.2
def tr (p : List UInt8 × Nat) : List UInt8 × Nat := (tkL p.1 p.2, tkE p.1 p.2)
def lt (p : List UInt8 × Nat) : Nat := leftN p.1 p.2

def qr (p : List UInt8 × Nat) : List UInt8 × Nat := rd 8 (rd 4 (rd 1 p))
def qvT (p : List UInt8 × Nat) : Nat := if (qr p).2 ≠ 0 then 0 else tv 1 p
def qvV (p : List UInt8 × Nat) : Nat := if (qr p).2 ≠ 0 then 0 else tv 4 (rd 1 p)
def qvP (p : List UInt8 × Nat) : Nat := if (qr p).2 ≠ 0 then 0 else tv 8 (rd 4 (rd 1 p))

def r2 (x : List UInt8) : List UInt8 × Nat := rd 4 (rd 2 (x, 0))
def r5 (x : List UInt8) : List UInt8 × Nat := qr (r2 x)
def r8 (x : List UInt8) : List UInt8 × Nat := rd 4 (rd 4 (rd 4 (r5 x)))
def r9 (x : List UInt8) : List UInt8 × Nat := rd 8 (r8 x)
def readS (x : List UInt8) : Stat :=
  ⟨tv 2 (x, 0), tv 4 (rd 2 (x, 0)), qvT (r2 x), qvV (r2 x), qvP (r2 x), tv 4 (r5 x), tv 4 (rd 4 (r5 x)), tv 4 (rd 4 (rd 4 (r5 x))), tv 8 (r8 x), ts (r9 x), ts (tr (r9 x)), ts (tr (tr (r9 x))), ts (tr (tr (tr (r9 x))))⟩
def readE (x : List UInt8) : Bool := te (r9 x) == 0 && te (tr (r9 x)) == 0 && te (tr (tr (r9 x))) == 0 && te (tr (tr (tr (r9 x)))) == 0 && lt (tr (tr (tr (tr (r9 x))))) == 0

def InAt (w : World) (b : Nat) (p : List UInt8 × Nat) : Prop := InIs w b p.1 p.2
theorem InAt.below {w w' : World} {b : Nat} {p : List UInt8 × Nat} (h : InAt w b p) (hb : Below w.heap.size w w') : InAt w' b p := InIs.below h hb
theorem InAt.lt {w : World} {b : Nat} {p : List UInt8 × Nat} (h : InAt w b p) : b < w.heap.size := InIs.lt h
theorem InAt.new {w : World} {b : Nat} {p : List UInt8 × Nat} (h : InAt w b p) (o : Obj) : ¬ Foot (w.alloc o) b w.heap.size := InIs.new h o
theorem InAt.store {w : World} {b : Nat} {p : List UInt8 × Nat} (h : InAt w b p) {a : Addr} (u : Value) (hf : ¬ Foot w b a.block) : InAt (w.setCell a u) b p := InIs.store h u hf
theorem InAt.store3 {w : World} {b q : Nat} {p : List UInt8 × Nat} (h : InAt w b p) (hf : ¬ Foot w b q) (i0 i1 i2 : Nat) (u0 u1 u2 : Value) :
    InAt (((w.setCell ⟨q, i0, none⟩ u0).setCell ⟨q, i1, none⟩ u1).setCell ⟨q, i2, none⟩ u2) b p := by
  have hq : q ≠ b := fun e => hf (.inl e)
  exact ((h.store (a := ⟨q, i0, none⟩) u0 hf).store (a := ⟨q, i1, none⟩) u1 (Foot.store hq hf)).store (a := ⟨q, i2, none⟩) u2 (Foot.store hq (Foot.store hq hf))
theorem OStep.store3 {b q : Nat} {w w1 : World} (h : OStep b w w1) (hp : w.heap.size ≤ q) (hf : ¬ Foot w1 b q) (hb : b < w.heap.size) (i0 i1 i2 : Nat) (u0 u1 u2 : Value) :
    OStep b w (((w1.setCell ⟨q, i0, none⟩ u0).setCell ⟨q, i1, none⟩ u1).setCell ⟨q, i2, none⟩ u2) := by
  have hq : q ≠ b := fun e => hf (.inl e)
  exact ((h.store (p := ⟨q, i0, none⟩) hp hf hb u0).store (p := ⟨q, i1, none⟩) hp (Foot.store hq hf) hb u1).store (p := ⟨q, i2, none⟩) hp (Foot.store hq (Foot.store hq hf)) hb u2
theorem rd_le (n : Nat) (p : List UInt8 × Nat) : (rd n p).1.length ≤ p.1.length := restL_le _ _ _
theorem tr_le (p : List UInt8 × Nat) : (tr p).1.length ≤ p.1.length := Nat.le_trans (restL_le _ _ _) (restL_le _ _ _)
theorem qr_le (p : List UInt8 × Nat) : (qr p).1.length ≤ p.1.length := Nat.le_trans (rd_le _ _) (Nat.le_trans (rd_le _ _) (rd_le _ _))
theorem tv_lt (n : Nat) (p : List UInt8 × Nat) (hn : n ≤ 8) : tv n p < 256 ^ n := takeV_lt n p.1 p.2 hn

theorem take_at (b n : Nat) (p : List UInt8 × Nat) (w : World) (hn1 : 1 ≤ n) (hn8 : n ≤ 8) (hl : p.1.length ≤ 1000000000) (h : InAt w b p) :
    Calls Tryz.prog 55 #[.pointer (some ⟨b, 0, none⟩), .int .i64 (n : Int)] w fun e w' => e = .returned (.int .u64 (tv n p : Int)) ∧ InAt w' b (rd n p) ∧ OStep b w w' :=
  in_take_step b n p.1 p.2 w hn1 hn8 (by omega) h
theorem err_at (b : Nat) (p : List UInt8 × Nat) (w : World) (h : InAt w b p) :
    Calls Tryz.prog 91 #[.pointer (some ⟨b, 0, none⟩)] w fun e w' => e = .returned (.int .i64 (p.2 : Int)) ∧ w = w' := in_err_any b p.1 p.2 w h
theorem left_at (b : Nat) (p : List UInt8 × Nat) (w : World) (h : InAt w b p) :
    Calls Tryz.prog 84 #[.pointer (some ⟨b, 0, none⟩)] w fun e w' => e = .returned (.int .i64 (lt p : Int)) ∧ w = w' := in_left_any b p.1 p.2 w h
end
end Go.Proofs.YtcbglcebdkpcfaaGreat

namespace Go.Proofs.YtcbglcebdkpcfaaGreat
section
open Go.RowKit
set_option maxRecDepth 100000

theorem put_foot {b q k : Nat} (hq : q ≠ b) : ∀ (us : List Value) (i : Nat) (w : World), ¬ Foot w b k → ¬ Foot (put w q i us) b k
  | [], _, _, h => h
  | u :: us, i, w, h => by simp only [put]; exact put_foot hq us _ _ (Foot.store (p := ⟨q, i, none⟩) hq h)
theorem put_in {b q e : Nat} {l : List UInt8} : ∀ (us : List Value) (i : Nat) (w : World), ¬ Foot w b q → InIs w b l e → InIs (put w q i us) b l e
  | [], _, _, _, h => h
  | u :: us, i, w, hf, h => by
    have hq : q ≠ b := fun e => hf (.inl e)
    simp only [put]; exact put_in us _ _ (Foot.store (p := ⟨q, i, none⟩) hq hf) (h.store (p := ⟨q, i, none⟩) u hf)
theorem put_step' {b q : Nat} {w : World} (hb : b < w.heap.size) (hp : w.heap.size ≤ q) : ∀ (us : List Value) (i : Nat) (w1 : World), ¬ Foot w1 b q → OStep b w w1 → OStep b w (put w1 q i us)
  | [], _, _, _, h => h
  | u :: us, i, w1, hf, h => by
    have hq : q ≠ b := fun e => hf (.inl e)
    simp only [put]; exact put_step' hb hp us _ _ (Foot.store (p := ⟨q, i, none⟩) hq hf) (h.store (p := ⟨q, i, none⟩) hp hf hb u)
theorem in3 {b q e : Nat} {l : List UInt8} {w : World} (hf : ¬ Foot w b q) (h : InIs w b l e) {u0 u1 u2 : Value} :
    InIs (((w.setCell ⟨q, 0, none⟩ u0).setCell ⟨q, 1, none⟩ u1).setCell ⟨q, 2, none⟩ u2) b l e := put_in [u0, u1, u2] 0 w hf h
theorem step3 {b q : Nat} {w0 w : World} (hb : b < w0.heap.size) (hp : w0.heap.size ≤ q) (hf : ¬ Foot w b q) (h : OStep b w0 w) {u0 u1 u2 : Value} :
    OStep b w0 (((w.setCell ⟨q, 0, none⟩ u0).setCell ⟨q, 1, none⟩ u1).setCell ⟨q, 2, none⟩ u2) := put_step' hb hp [u0, u1, u2] 0 w hf h
end
end Go.Proofs.YtcbglcebdkpcfaaGreat

namespace Go.Proofs.YtcbglcebdkpcfaaGreat
section
open Go.RowKit
set_option maxRecDepth 100000

def qidAgg (p : List UInt8 × Nat) : Value := .agg #[.int .u8 (qvT p : Int), .int .u32 (qvV p : Int), .int .u64 (qvP p : Int)]

set_option maxHeartbeats 800000 in
theorem qid_take_any (b : Nat) (p : List UInt8 × Nat) (w : World) (hl : p.1.length ≤ 1000000000) (h : InAt w b p) :
    Calls Tryz.prog 157 #[.pointer (some ⟨b, 0, none⟩)] w fun e w' => e = .returned (qidAgg p) ∧ InAt w' b (qr p) ∧ OStep b w w' := by
  have hlt := h.lt
  have h1 := tv_lt 1 p (by omega)
  have h2 := tv_lt 4 (rd 1 p) (by omega)
  have c1 : IntKind.u8.wrap (tv 1 p : Int) = (tv 1 p : Int) := IntWalk.u8_in _ (by omega)
  have c2 : IntKind.u32.wrap (tv 4 (rd 1 p) : Int) = (tv 4 (rd 1 p) : Int) := IntWalk.u32_in _ (by omega)
  have hb0 := (Below.refl w.heap.size w).alloc (Nat.le_refl _) (.cells #[.int .u8 0, .int .u32 0, .int .u64 0] 37)
  have ha := h.below hb0
  have hnf := hid (h.new (.cells #[.int .u8 0, .int .u32 0, .int .u64 0] 37))
  go_enter Tryz.func157, Tryz.ntmps157
  go_wp2_with fail
  have st0 := OStep.pure hlt hb0
  have hc0 := heap_alloc_new w (.cells #[.int .u8 0, .int .u32 0, .int .u64 0] 37)
  replace hc0 := hid hc0
  refine (take_at b 1 p _ (by omega) (by omega) hl ha).mono ?_
  rintro e w1 ⟨rfl, ha1, hb1⟩
  go_wp2_with fail
  refine (take_at b 4 (rd 1 p) _ (by omega) (by omega) (Nat.le_trans (rd_le _ _) hl) ha1).mono ?_
  rintro e w2 ⟨rfl, ha2, hb2⟩
  go_wp2_with fail
  refine (take_at b 8 (rd 4 (rd 1 p)) _ (by omega) (by omega) (Nat.le_trans (rd_le _ _) (Nat.le_trans (rd_le _ _) hl)) ha2).mono ?_
  rintro e w3 ⟨rfl, ha3, hb3⟩
  have st3 := ((hb1.trans hb2).trans hb3)
  obtain ⟨e3, n3⟩ := st3.block w.heap.size (by simp) hnf.out
  have hc3 := e3.trans hc0.out
  clear e3
  have fst := st0.trans st3
  have hlt3 := ha3.lt
  clear hb1 hb2 hb3 st3 st0
  have hlc := lt_of_block hc3
  have hb4 := (Below.refl w3.heap.size w3).alloc (Nat.le_refl _) (.cells #[.int .u8 (tv 1 p : Int), .int .u32 (tv 4 (rd 1 p) : Int), .int .u64 (tv 8 (rd 4 (rd 1 p)) : Int)] 37)
  have ha4 := ha3.below hb4
  have fst4 := fst.trans (OStep.pure hlt3 hb4)
  have n4 := hid ((OStep.pure hlt3 hb4).block w.heap.size hlc n3).2
  clear n3
  have hc4 := (hb4.block w.heap.size hlc).trans hc3
  replace hc4 := hid hc4
  replace hc3 := hid hc3
  go_wp2_with fail
  refine (err_at b _ _ ha4).mono ?_
  rintro e w5 ⟨rfl, rfl⟩
  have hne : w.heap.size ≠ w3.heap.size := by omega
  have hn3 := heap_alloc_new w3 (.cells #[.int .u8 (tv 1 p : Int), .int .u32 (tv 4 (rd 1 p) : Int), .int .u64 (tv 8 (rd 4 (rd 1 p)) : Int)] 37)
  generalize (w3.alloc (.cells #[.int .u8 (tv 1 p : Int), .int .u32 (tv 4 (rd 1 p) : Int), .int .u64 (tv 8 (rd 4 (rd 1 p)) : Int)] 37)) = w4 at *
  have f0 : w4.frozen? ⟨w.heap.size, 0, none⟩ = false := block_free hc4.out 0
  have f1 : w4.frozen? ⟨w.heap.size, 0 + 1, none⟩ = false := block_free hc4.out 1
  have f2 : w4.frozen? ⟨w.heap.size, 0 + 2, none⟩ = false := block_free hc4.out 2
  have q0 : w4.cell? ⟨w.heap.size, 0, none⟩ = some (.int .u8 0) := block_cell hc4.out 0
  have q1 : w4.cell? ⟨w.heap.size, 0 + 1, none⟩ = some (.int .u32 0) := block_cell hc4.out 1
  have q2 : w4.cell? ⟨w.heap.size, 0 + 2, none⟩ = some (.int .u64 0) := block_cell hc4.out 2
  have g0 : w4.cell? ⟨w3.heap.size, 0, none⟩ = some (.int .u8 (tv 1 p : Int)) := block_cell hn3 0
  have g1 : w4.cell? ⟨w3.heap.size, 0 + 1, none⟩ = some (.int .u32 (tv 4 (rd 1 p) : Int)) := block_cell hn3 1
  have g2 : w4.cell? ⟨w3.heap.size, 0 + 2, none⟩ = some (.int .u64 (tv 8 (rd 4 (rd 1 p)) : Int)) := block_cell hn3 2
  replace hn3 := hid hn3
  have hq := hid (show (qr p).2 = (rd 8 (rd 4 (rd 1 p))).2 from rfl)
  by_cases he : (rd 8 (rd 4 (rd 1 p))).2 = 0
  · have k0 : (((rd 8 (rd 4 (rd 1 p))).2 : Int) != 0) = false := by simpa using he
    have hA := hid (show qidAgg p = .agg #[.int .u8 (tv 1 p : Int), .int .u32 (tv 4 (rd 1 p) : Int), .int .u64 (tv 8 (rd 4 (rd 1 p)) : Int)] by unfold qidAgg qvT qvV qvP; rw [hq.out, if_neg (by simp [he]), if_neg (by simp [he]), if_neg (by simp [he])])
    have hfin := block_set (block_set (block_set hc4.out 0 (.int .u8 (tv 1 p : Int))) 1 (.int .u32 (tv 4 (rd 1 p) : Int))) 2 (.int .u64 (tv 8 (rd 4 (rd 1 p)) : Int))
    have hafin := ha4.store3 n4.out 0 1 2 (.int .u8 (tv 1 p : Int)) (.int .u32 (tv 4 (rd 1 p) : Int)) (.int .u64 (tv 8 (rd 4 (rd 1 p)) : Int))
    have hsfin := fst4.store3 (Nat.le_refl _) n4.out hlt 0 1 2 (.int .u8 (tv 1 p : Int)) (.int .u32 (tv 4 (rd 1 p) : Int)) (.int .u64 (tv 8 (rd 4 (rd 1 p)) : Int))
    replace hfin := hid hfin
    go_wp2_with fail
    refine bodyPost_ret (results_cell_row rfl _ _ w.heap.size _ _ _ _ rfl hfin.out Tryz.underlying37 rfl (by kernel_rfl)) rfl ?_
    exact ⟨by rw [hA.out]; rfl, hafin, hsfin⟩
  · have k0 : (((rd 8 (rd 4 (rd 1 p))).2 : Int) != 0) = true := by simpa using he
    go_wp2_with fail
    have hA := hid (show qidAgg p = .agg #[.int .u8 0, .int .u32 0, .int .u64 0] by unfold qidAgg qvT qvV qvP; rw [hq.out, if_pos he, if_pos he, if_pos he]; rfl)
    refine bodyPost_ret (results_cell_row rfl _ _ w.heap.size _ _ _ _ rfl (set3 hc4.out rfl) Tryz.underlying37 rfl (by kernel_rfl)) rfl ?_
    exact ⟨by rw [hA.out], in3 n4.out ha4, step3 hlt (Nat.le_refl _) n4.out fst4⟩

theorem must_ok (b : Nat) (p : List UInt8 × Nat) (w : World) (hl : p.1.length ≤ 1000000000) (h : InAt w b p) (he : te p = 0) :
    Calls Tryz.prog 165 #[.pointer (some ⟨b, 0, none⟩)] w fun e w' => e = .returned (.string (ts p)) ∧ InAt w' b (tr p) ∧ OStep b w w' := by
  have k0 : ((tkErr p.1 p.2 : Int) != 0) = false := by simpa [te] using he
  clear he
  go_enter Tryz.func165, Tryz.ntmps165
  go_wp2_with fail
  refine (text_take_step b p.1 p.2 w hl h).mono ?_
  rintro e w1 ⟨rfl, h1, hb1⟩
  go_wp2_with fail
  go_ret
  exact ⟨rfl, h1, hb1⟩
theorem must_bad (b : Nat) (p : List UInt8 × Nat) (w : World) (hl : p.1.length ≤ 1000000000) (h : InAt w b p) (he : te p ≠ 0) :
    Calls Tryz.prog 165 #[.pointer (some ⟨b, 0, none⟩)] w fun e w' => e = .panicked (errChain 2) ∧ OStep b w w' := by
  have k0 : ((tkErr p.1 p.2 : Int) != 0) = true := by simpa [te] using he
  clear he
  go_enter Tryz.func165, Tryz.ntmps165
  go_wp2_with fail
  refine (text_take_step b p.1 p.2 w hl h).mono ?_
  rintro e w1 ⟨rfl, h1, hb1⟩
  go_wp2_with fail
  exact ⟨rfl, rfl, hb1⟩
end
end Go.Proofs.YtcbglcebdkpcfaaGreat
