/- What Put and Raw of num.Out and text.Put leave as it was, block by block, under bounds on lengths that each theorem names. No further condition. And the texts behind it. -/
import Derived.Test.YtcmajcljafmphaaGreatKtA03
import Derived.Test.YtcmajcljafmphaaGreatKtA01
import Derived.Laws.BitsAllLaws
import Derived.Laws.CopyOwn
namespace Go.Proofs.YtcmajcljafmphaaGreat
section
open Go.RowKit
set_option maxRecDepth 100000

theorem run_append_rowl {P : Program} {t e size bytes : Nat} (E : ElemOk P t e size bytes) (w : World) (base : Nat) (ty : TypeId)
    (v : Value) (n : Nat) (xs : List Value) (hown : w.ownsRow base e size v n xs)
    (sv : Value) (m : Nat) (news : List Value) (hsrc : RowAt w size sv m news) (h1 : ∀ u ∈ news, u.oneCell' = true)
    (h63 : n + m ≤ maxLen) (hbytes : (n + m) * bytes ≤ 140737488355328) (hbase : base ≤ w.heap.size) :
    ∃ a' c' w', (Builtin.append_ #[t, t] ty #[v, sv]).run P w = .ok (.slice a' (n + m) c') w' ∧ w'.ownsRow base e size (.slice a' (n + m) c') (n + m) (xs ++ news) ∧ w.grownBy w' v.ownBlock ∧
      (∀ k, (Value.slice a' (n + m) c').ownBlock = some k → v.ownBlock = some k ∨ w.heap.size ≤ k) := by
  obtain ⟨i, z, hi, hz, hsize, hby, hzs⟩ := E.hi
  have ht := E.ht
  have hsz := E.hsz
  obtain ⟨hl, a, c, rfl, hc1, hc2, hc3, _, hcell⟩ := hsrc
  cases a with
  | some ad =>
    have hnews : ∀ j u, news[j]? = some u → w.cell? (ad.add j) = some u := fun j u hu => by
      obtain ⟨b, o, hb, hcc⟩ := hcell j u hu
      cases hb
      rw [add_plain']; exact hcc
    obtain ⟨v', w', hr, ho, hg, _, h5⟩ := run_append_own_at (P := P) w base t ty e i z size bytes ht hi hz hsize hby hzs hsz v n xs hown ad m c news hl hnews h1 h63 hbytes hbase
    obtain ⟨a', c', rfl⟩ := own_form ho
    refine ⟨a', c', w', hr, ho, hg, fun k hk => ?_⟩
    rcases h5 with h5 | h5
    · left; rw [h5] at hk; exact hk
    · right; rw [h5] at hk; cases hk; exact Nat.le_refl _
  | none =>
    have hc0 := hc3 rfl
    obtain rfl : c = 0 := hc0
    obtain rfl : m = 0 := by omega
    have : news = [] := List.eq_nil_of_length_eq_zero (by simpa using hl)
    subst this
    obtain ⟨a', c', rfl⟩ := own_form hown
    refine ⟨a', c', w, ?_, by simpa using hown, ⟨rfl, rfl, rfl, Nat.le_refl _, fun _ _ _ => rfl⟩, fun k hk => .inl hk⟩
    subst hsize
    rcases hown.2 with ⟨he, _⟩ | ⟨g, cap, cur, he, _, _, hnc, _⟩
    · cases he
      simp [Builtin.append_, run_underlying ht, sizeOf, typeInfo, hi, Builtin.lenOf, Builtin.firstCells]
    · cases he
      simp [Builtin.append_, run_underlying ht, sizeOf, typeInfo, hi, Builtin.lenOf, Builtin.firstCells, loadCells, storeCells, hnc]

theorem wpList_append_rowl {P : Program} {t e size bytes : Nat} (E : ElemOk P t e size bytes) {ops : Array Oper} {rest : List Oper} {o : Oper} {a : Act} {Q : Exit → Act → World → Prop} (w : World) (hgd : o.guard = none) (s x : Operand)
    (ho : o.op = .call { callee := .builtin .append, args := #[s, x], argTypes := #[t, t] })
    (base : Nat) (v : Value) (n : Nat) (xs : List Value) (hs : a.eval s = v) (hown : w.ownsRow base e size v n xs)
    (sv : Value) (m : Nat) (news : List Value) (hx : a.eval x = sv) (hsrc : RowAt w size sv m news) (h1 : ∀ u ∈ news, u.oneCell' = true)
    (h63 : n + m ≤ maxLen) (hbytes : (n + m) * bytes ≤ 140737488355328) (hbase : base ≤ w.heap.size)
    (h : ∀ a' c' w', w'.ownsRow base e size (.slice a' (n + m) c') (n + m) (xs ++ news) → w.grownBy w' v.ownBlock → (∀ k, (Value.slice a' (n + m) c').ownBlock = some k → v.ownBlock = some k ∨ w.heap.size ≤ k) → wpList P ops Q rest (a.put o.dst (.slice a' (n + m) c')) w') : wpList P ops Q (o :: rest) a w :=
  wpList_plain hgd fun K hK => by
    refine wp_append_run s x t ho hs hx (R := fun v' w' => ∃ a' c', v' = .slice a' (n + m) c' ∧ w'.ownsRow base e size (.slice a' (n + m) c') (n + m) (xs ++ news) ∧ w.grownBy w' v.ownBlock ∧ (∀ k, (Value.slice a' (n + m) c').ownBlock = some k → v.ownBlock = some k ∨ w.heap.size ≤ k)) ?_ ?_
    · obtain ⟨a', c', w', hr, h2, h3, h4⟩ := run_append_rowl E w base o.type v n xs hown sv m news hsrc h1 h63 hbytes hbase
      exact ⟨_, w', hr, a', c', rfl, h2, h3, h4⟩
    · rintro _ w' ⟨a', c', rfl, h2, h3, h4⟩
      exact hK _ _ (h a' c' w' h2 h3 h4)

def Foot (w : World) (b k : Nat) : Prop := k = b ∨ ∃ v, w.cell? ⟨b, 0, none⟩ = some v ∧ v.ownBlock = some k

def TwoAt (w : World) (b : Nat) : Prop := ∃ (cs : Array Value) (t : TypeId) (fr : Nat × Nat), w.heap[b]? = some (.cells cs t fr) ∧ cs.size = 2
structure OStep (b : Nat) (w w' : World) : Prop where
  below : Below b w w'
  block : ∀ k, k < w.heap.size → ¬ Foot w b k → w'.heap[k]? = w.heap[k]? ∧ ¬ Foot w' b k
  two : TwoAt w b → TwoAt w' b ∧ ∀ k, Foot w' b k → Foot w b k

theorem OStep.refl (b : Nat) (w : World) : OStep b w w := ⟨Below.refl _ _, fun _ _ h => ⟨rfl, h⟩, fun h => ⟨h, fun _ h => h⟩⟩
theorem OStep.trans {b : Nat} {w w1 w2 : World} (h : OStep b w w1) (k : OStep b w1 w2) : OStep b w w2 :=
  ⟨h.below.trans k.below, fun j hj hn => by
    obtain ⟨e1, n1⟩ := h.block j hj hn
    obtain ⟨e2, n2⟩ := k.block j (Nat.lt_of_lt_of_le hj h.below.size) n1
    exact ⟨e2.trans e1, n2⟩, fun ht => by
    obtain ⟨t1, f1⟩ := h.two ht
    obtain ⟨t2, f2⟩ := k.two t1
    exact ⟨t2, fun j hj => f1 j (f2 j hj)⟩⟩
theorem OStep.pure {b : Nat} {w w' : World} (hb : b < w.heap.size) (h : Below w.heap.size w w') : OStep b w w' :=
  have hf : ∀ k, Foot w' b k → Foot w b k := fun k hf => by
    rcases hf with hf | ⟨v, hv, hk⟩
    · exact .inl hf
    · exact .inr ⟨v, by rw [h.cell (p := ⟨b, 0, none⟩) hb] at hv; exact hv, hk⟩
  ⟨h.mono (Nat.le_of_lt hb), fun j hj hn => ⟨h.block j hj, fun h => hn (hf j h)⟩, fun ⟨cs, t, fr, hc, hs⟩ => ⟨⟨cs, t, fr, (h.block b hb).trans hc, hs⟩, hf⟩⟩

theorem OutIs.new {w : World} {b : Nat} {xs : List UInt8} (h : OutIs w b xs) (o : Obj) : ¬ Foot (w.alloc o) b w.heap.size := by
  obtain ⟨v, ot, h1, h2⟩ := h
  have hlt := lt_of_block h1
  rintro (he | ⟨u, hu, hk⟩)
  · omega
  · have h1' : (w.alloc o).heap[b]? = some (.cells #[v] ot (0, 0)) := (heap_alloc_old w o hlt).trans h1
    rw [cell_of_one h1'] at hu
    cases hu
    have := (h2.lt _ hk).2
    omega

theorem ostep_store {ot : TypeId} {b n : Nat} {w w' : World} {va v2 : Value} {W : World} (hb : w.heap[b]? = some (.cells #[va] ot (0, 0))) (hbw : Below w.heap.size w W) (hg : W.grownBy w' va.ownBlock)
    (hne : some b ≠ va.ownBlock) (hbo : ∀ k, va.ownBlock = some k → b ≤ k) (hlies : ∀ k, v2.ownBlock = some k → va.ownBlock = some k ∨ w.heap.size ≤ k) (_hn : n = 0) : OStep b w (w'.setCell ⟨b, 0, none⟩ v2) := by
  have hlt := lt_of_block hb
  have hb' : w'.heap[b]? = some (.cells #[va] ot (0, 0)) := (hg.block b (Nat.lt_of_lt_of_le hlt hbw.size) hne).trans ((hbw.block b hlt).trans hb)
  refine ⟨((hbw.mono (Nat.le_of_lt hlt)).grown hg (Nat.le_trans (Nat.le_of_lt hlt) hbw.size) hbo).setCell (Nat.le_refl _) _, fun k hk hn => ?_, fun ⟨cs, t, fr, hc, hs⟩ => by rw [hb] at hc; cases hc; simp at hs⟩
  have hkb : k ≠ b := fun e => hn (.inl e)
  have hko : some k ≠ va.ownBlock := fun e => hn (.inr ⟨va, cell_of_one hb, e.symm⟩)
  refine ⟨?_, ?_⟩
  · rw [block_set_other hkb]
    exact (hg.block k (Nat.lt_of_lt_of_le hk hbw.size) hko).trans (hbw.block k hk)
  · rintro (he | ⟨u, hu, hk2⟩)
    · exact hkb he
    · rw [cell_of_one (one_setCell hb')] at hu
      cases hu
      rcases hlies k hk2 with h | h
      · exact hko h.symm
      · omega

set_option maxHeartbeats 800000 in
theorem put_step (b : Nat) (xs : List UInt8) (n v : Nat) (w : World) (_hv : v < 18446744073709551616) (hn1 : 1 ≤ n) (hn : n ≤ 8) (hx : xs.length ≤ 1000000000) (ho : OutIs w b xs) :
    Calls Tryz.prog 59 #[.pointer (some ⟨b, 0, none⟩), .int .i64 (n : Int), .int .u64 (v : Int)] w fun e w' => e = .returned (.tuple #[]) ∧ OutIs w' b (xs ++ numBytes v n) ∧ OStep b w w' := by
  obtain ⟨va, ot, hb, hown⟩ := ho
  obtain ⟨i0, hi, hz0, hz1, hz2⟩ := info_parts infoU8
  go_enter Tryz.func59, Tryz.ntmps59
  go_wp2_with fail
  go_loopw [6, 14] (fun _ i wr => ∃ (k : Nat) (ys : List UInt8), k ≤ n ∧ i = .int .i64 (k : Int) ∧ OutIs wr b ys ∧ Hid (ys = xs ++ numBytes v k) ∧ OStep b w wr) (fun _ i _ => n - (intOf i).toNat)
  case atStart => exact ⟨0, xs, by omega, rfl, ⟨va, ot, hb, hown⟩, hid (by simp [numBytes]), OStep.refl _ _⟩
  case round =>
    obtain ⟨k, ys, hk, rfl, ⟨va, ot, hb, hown⟩, hys, hbl⟩ := hrel
    have hlen2 : ys.length ≤ 1000000008 := by rw [hys.out, List.length_append, numBytes_length]; omega
    by_cases hlt : k < n
    · have hc : wr.cell? ⟨b, 0, none⟩ = some va := cell_of_one hb
      have hf : wr.frozen? ⟨b, 0, none⟩ = false := free_of_one hb
      have hblt := lt_of_block hb
      have hb := hid hb
      go_wp2_with fail
      have hsh : ∀ W, (Op.shift BinOp.shr .u64 (v : Int) .i64 (IntKind.i64.wrap (8 * (k : Int)))).run Tryz.prog W = .ok (.int .u64 ((v / 2 ^ (8 * k) : Nat) : Int)) W := by
        intro W
        rw [IntWalk.i64_in _ (by omega), shift_shr .u64 .i64 _ _ (by omega) (by simp only [IntKind.bits]; omega), Sem.run_pure]
        rw [show ((8 * (k : Int)).toNat) = 8 * k from by omega]
        congr 2
      have e1 : ∀ o, (wr.drew.alloc o).heap[wr.heap.size]? = some o := fun o => heap_alloc_new _ _
      go_region_law (refine step_append_lies (P := Tryz.prog) _ rfl (.tmp 21) (.tmp 27) 53 rfl (b + 1) 5 i0 (.int .u8 0) 1 1 Tryz.underlying53 hi hz0 hz1 hz2 rfl (by decide) va ys.length (ys.map byteV) ?_ ?_ ⟨wr.heap.size, 0, none⟩ 1 1 [.int .u8 (IntKind.u8.wrap ((v : Int) / 2 ^ (8 * k)))] ?_ rfl ?_ (by intro u hu; rw [List.mem_singleton] at hu; subst hu; rfl) (by omega) (by unfold maxLen; omega) (by omega) ?_ (wr.heap.size + 1) ?_ (fun g cap w' h2 h3 h4 h5 => ?_); rfl; exact hown.drew.alloc _; rfl; exact World.news_of_block (e1 _); (simp; omega); simp; (have hb' := kept_da hb.out h3 (own_ne hown); have hc' := cell_of_one hb'; have hf' := free_of_one hb'; replace hb' := hid hb'))
      all_goals
        have hst := out_store hb'.out h2 (xs := ys ++ [numAt v k]) (by simp [byteV_numAt])
        have hbs := ostep_store (v2 := .slice (some ⟨g, 0, none⟩) (ys.length + 1) cap) hb.out (W := wr.drew.alloc _) ((Below.refl wr.heap.size wr).drew.alloc (Nat.le_refl _) _) h3 (own_ne hown) (fun j hj => by have := (hown.lt j hj).1; omega) (fun j hj => by
          cases hj
          rcases h4 with h4 | h4
          · exact .inl h4
          · right; show wr.heap.size ≤ g; omega) rfl
        clear h2 h3 h4 h5 hc' hf' hb'
        go_wp2
        go_roundw
        case rel => exact ⟨k + 1, _, by omega, by go_num, hst, hid (by rw [hys.out]; simp [numBytes]), hbl.trans hbs⟩
        case measure => simp [intOf]; omega
    · obtain rfl : k = n := by omega
      go_wp2_with fail
      go_end0
      exact ⟨rfl, by rw [← hys.out]; exact ⟨va, ot, hb, hown⟩, hbl⟩

set_option maxHeartbeats 800000 in
theorem raw_step (b : Nat) (xs l : List UInt8) (v : Value) (w : World) (hl : BytesAt w v l) (hx : xs.length + l.length ≤ 1000000000) (ho : OutIs w b xs) :
    Calls Tryz.prog 83 #[.pointer (some ⟨b, 0, none⟩), v] w fun e w' => e = .returned (.tuple #[]) ∧ OutIs w' b (xs ++ l) ∧ OStep b w w' := by
  obtain ⟨va, ot, hb, hown⟩ := ho
  have hc := cell_of_one hb
  have hf := free_of_one hb
  have hblt := lt_of_block hb
  replace hb := hid hb
  go_enter Tryz.func83, Tryz.ntmps83
  go_wp2_with (at_builtin; refine wpList_append_rowl elemU8 _ rfl (.tmp 8) (.tmp 9) rfl (b + 1) va xs.length (xs.map byteV) rfl hown v l.length (l.map byteV) rfl hl (bytes_oneCell l) (by unfold maxLen; omega) (by omega) (by omega) ?_)
  intro a' c' w' h2 h3 h4
  have hb' : w'.heap[b]? = some (.cells #[va] ot (0, 0)) := (h3.block b hblt (own_ne hown)).trans hb.out
  have hc' := cell_of_one hb'
  have hf' := free_of_one hb'
  have hst := out_store hb' h2 (xs := xs ++ l) (by simp)
  have hbs := ostep_store (v2 := .slice a' (xs.length + l.length) c') hb.out (Below.refl _ _) h3 (own_ne hown) (fun j hj => by have := (hown.lt j hj).1; omega) h4 rfl
  clear h2 h3 hb' h4
  go_wp2
  go_end0
  exact ⟨rfl, hst, hbs⟩

end
end Go.Proofs.YtcmajcljafmphaaGreat

namespace Go.Proofs.YtcmajcljafmphaaGreat
section
open Go.RowKit
set_option maxRecDepth 100000

theorem ostep_cell {b : Nat} {w : World} {cs : Array Value} {t : TypeId} {fr : Nat × Nat} (hb : w.heap[b]? = some (.cells cs t fr)) (i : Nat) (u : Value) (hu : i = 0 → ∀ v, cs[0]? = some v → u.ownBlock = v.ownBlock) :
    OStep b w (w.setCell ⟨b, i, none⟩ u) := by
  have hfoot : ∀ k, Foot (w.setCell ⟨b, i, none⟩ u) b k → Foot w b k := by
    rintro k (he | ⟨v, hv, hk2⟩)
    · exact .inl he
    · have h1 := block_cell (block_set hb i u) 0
      rw [h1] at hv
      by_cases hi : i = 0
      · subst hi
        cases hc : cs[0]? with
        | none => 
          have : cs.size ≤ 0 := by simpa using hc
          rw [Array.getElem?_eq_none (by simpa using this)] at hv; cases hv
        | some v0 =>
          have hlt : 0 < cs.size := by
            rcases Nat.lt_or_ge 0 cs.size with h | h
            · exact h
            · rw [Array.getElem?_eq_none h] at hc; cases hc
          rw [Array.getElem?_setIfInBounds_self_of_lt hlt] at hv
          cases hv
          exact .inr ⟨v0, by rw [block_cell hb 0]; exact hc, by rw [← hu rfl v0 hc]; exact hk2⟩
      · rw [Array.getElem?_setIfInBounds_ne hi] at hv
        exact .inr ⟨v, by rw [block_cell hb 0]; exact hv, hk2⟩
  refine ⟨(Below.refl b w).setCell (p := ⟨b, i, none⟩) (Nat.le_refl _) _, fun k hk hn => ⟨block_set_other fun e => hn (.inl e), fun h => hn (hfoot k h)⟩, ?_⟩
  rintro ⟨cs', t', fr', hc, hs⟩
  rw [hb] at hc
  cases hc
  exact ⟨⟨_, _, _, block_set hb i u, by simpa using hs⟩, hfoot⟩
theorem ostep_cell0 {b : Nat} {w : World} {v : Value} {l : List Value} {t : TypeId} {fr : Nat × Nat} (hb : w.heap[b]? = some (.cells ⟨v :: l⟩ t fr)) (u : Value) (hu : u.ownBlock = v.ownBlock) :
    OStep b w (w.setCell ⟨b, 0, none⟩ u) := ostep_cell hb 0 u (by rintro - _ h; cases h; exact hu)

theorem OStep.store {b : Nat} {w w1 : World} {p : Addr} (h : OStep b w w1) (hp : w.heap.size ≤ p.block) (_hf : ¬ Foot w1 b p.block) (hb : b < w.heap.size) (u : Value) : OStep b w (w1.setCell p u) :=
  have hc0 : (w1.setCell p u).cell? ⟨b, 0, none⟩ = w1.cell? ⟨b, 0, none⟩ := World.cell?_of_block (w := w1) (block_set_other (by show b ≠ p.block; omega))
  have hfoot : ∀ k, Foot (w1.setCell p u) b k → Foot w1 b k := by
    rintro k (he | ⟨v, hv, hk2⟩)
    · exact .inl he
    · rw [hc0] at hv; exact .inr ⟨v, hv, hk2⟩
  ⟨h.below.setCell (by omega) _, fun k hk hn => by
    obtain ⟨e1, n1⟩ := h.block k hk hn
    exact ⟨(block_set_other (by omega)).trans e1, fun hf => n1 (hfoot k hf)⟩, fun ht => by
    obtain ⟨⟨cs, t, fr, hc, hs⟩, f1⟩ := h.two ht
    exact ⟨⟨cs, t, fr, (block_set_other (by show b ≠ p.block; omega)).trans hc, hs⟩, fun k hk => f1 k (hfoot k hk)⟩⟩
theorem Foot.store {b k : Nat} {w : World} {p : Addr} {u : Value} (hp : p.block ≠ b) (hf : ¬ Foot w b k) : ¬ Foot (w.setCell p u) b k := by
  rintro (he | ⟨v, hv, hk2⟩)
  · exact hf (.inl he)
  · have : (w.setCell p u).cell? ⟨b, 0, none⟩ = w.cell? ⟨b, 0, none⟩ := World.cell?_of_block (w := w) (block_set_other (by show b ≠ p.block; omega))
    rw [this] at hv
    exact hf (.inr ⟨v, hv, hk2⟩)
theorem InIs.store {w : World} {b : Nat} {l : List UInt8} {e : Nat} (h : InIs w b l e) {p : Addr} (u : Value) (hf : ¬ Foot w b p.block) : InIs (w.setCell p u) b l e := by
  obtain ⟨v, hb, hl, hne⟩ := h
  have hpb : b ≠ p.block := fun e => hf (.inl e.symm)
  exact ⟨v, (block_set_other hpb).trans hb, hl.setCell _ (fun e => hf (.inr ⟨v, block_cell hb 0, e⟩)), hne⟩
theorem InIs.two {w : World} {b : Nat} {l : List UInt8} {e : Nat} (h : InIs w b l e) : TwoAt w b := by
  obtain ⟨v, hb, _⟩ := h
  exact ⟨_, _, _, hb, rfl⟩
theorem InIs.foot_lt {w : World} {b k : Nat} {l : List UInt8} {e : Nat} (h : InIs w b l e) (hf : Foot w b k) : k < w.heap.size := by
  obtain ⟨v, hb, hl, hne⟩ := h
  rcases hf with rfl | ⟨v', hv, hk⟩
  · exact lt_of_block hb
  · rw [block_cell hb 0] at hv
    cases hv
    exact hl.lt hk
theorem InIs.new {w : World} {b : Nat} {l : List UInt8} {e : Nat} (h : InIs w b l e) (o : Obj) : ¬ Foot (w.alloc o) b w.heap.size := by
  intro hf
  refine Nat.lt_irrefl w.heap.size (h.foot_lt ?_)
  rcases hf with he | ⟨v, hv, hk⟩
  · exact .inl he
  · right
    obtain ⟨v0, hb, hl, hne⟩ := h
    have : (w.alloc o).cell? ⟨b, 0, none⟩ = w.cell? ⟨b, 0, none⟩ := World.cell?_of_block (w := w) (heap_alloc_old w o (lt_of_block hb))
    rw [this] at hv
    exact ⟨v, hv, hk⟩

theorem caught_panicking2 (b : Nat) (l : List UInt8) (e0 e : Nat) (w : World) (h : InIs w b l e0) :
    CallsD Tryz.prog 81 #[.pointer (some ⟨b, 0, none⟩)] (.panicking (errChain e)) w fun en u' w' =>
      en = .returned (.tuple #[]) ∧ u' = .panicking (errChainR e) ∧ InIs w' b l e ∧ OStep b w w' := by
  obtain ⟨v, hb, hl, hne⟩ := h
  have hc1 : w.cell? ⟨b, 0 + 1, none⟩ = some (.int .i64 (e0 : Int)) := block_cell hb 1
  have hf1 : w.frozen? ⟨b, 0 + 1, none⟩ = false := block_free hb 1
  have hst : InIs (w.setCell ⟨b, 0 + 1, none⟩ (.int .i64 (e : Int))) b l e := ⟨v, block_set hb 1 _, hl.setCell _ hne, hne⟩
  have hbs := ostep_cell hb 1 (.int .i64 (e : Int)) (by intro h; cases h)
  clear hb
  have hta := assert_errno
  refine callsD_of_wpS Tryz.func81 rfl fun c₀ cs hu => ?_
  apply wpS_seq
  apply wpS_region
  simp [wpOpsS, go_sem, recoverD, hu, errChain, Tryz.ntmps81, Exit.thenS, Array.replicate_succ]
  apply wpS_body
  go_wp2
  go_end0
  exact ⟨rfl, rfl, hst, hbs⟩

def CutPost2 (w : World) (b : Nat) (l : List UInt8) (n e : Nat) (en : Ending) (w' : World) : Prop :=
  ∃ v', en = .returned v' ∧ BytesAt w' v' (l.take n) ∧ InIs w' b (l.drop n) e ∧ OStep b w w'

set_option maxHeartbeats 800000 in
theorem cut_ok2 (b n : Nat) (l : List UInt8) (e : Nat) (w : World) (hn : n ≤ l.length) (_hl : l.length ≤ 1000000008) (h : InIs w b l e) :
    Calls Tryz.prog 82 #[.pointer (some ⟨b, 0, none⟩), .int .i64 (n : Int)] w (CutPost2 w b l n e) := by
  obtain ⟨v, hb, hv, hne⟩ := h
  obtain ⟨a, c, rfl, hc1, hc2, hc3⟩ := hv.form
  have hc0 := block_cell hb 0
  have hf0 := block_free hb 0
  simp at hc0
  unfold maxLen at hc2
  replace hb := hid hb
  by_cases hcn : c = n
  · have hst : InIs (w.setCell ⟨b, 0, none⟩ (.slice a (l.length - n) 0)) b (l.drop n) e :=
      ⟨_, block_set hb.out 0 _, (hv.drop0 hcn).setCell _ (by rw [ownBlock_same]; exact hne), by rw [ownBlock_same]; exact hne⟩
    have htk := (hv.take n n hn (Nat.le_refl _) (by omega)).setCell (p := ⟨b, 0, none⟩) (.slice a (l.length - n) 0) (by rw [ownBlock_same]; exact hne)
    have hbs := ostep_cell0 hb.out (.slice a (l.length - n) 0) (by rw [ownBlock_same])
    go_enter Tryz.func82, Tryz.ntmps82
    go_wp2
    go_ret
    exact ⟨_, rfl, htk, hst, hbs⟩
  · have hst : InIs (w.setCell ⟨b, 0, none⟩ (.slice (Option.map (fun x => x.add n) a) (l.length - n) (c - n))) b (l.drop n) e :=
      ⟨_, block_set hb.out 0 _, (hv.drop1 n hn).setCell _ (by rw [ownBlock_map]; exact hne), by rw [ownBlock_map]; exact hne⟩
    have htk := (hv.take n c hn (by omega) (Nat.le_refl _)).setCell (p := ⟨b, 0, none⟩) (.slice (Option.map (fun x => x.add n) a) (l.length - n) (c - n)) (by rw [ownBlock_same]; exact hne)
    have hbs := ostep_cell0 hb.out (.slice (Option.map (fun x => x.add n) a) (l.length - n) (c - n)) (by rw [ownBlock_map])
    go_enter Tryz.func82, Tryz.ntmps82
    go_wp2
    go_ret
    exact ⟨_, rfl, htk, hst, hbs⟩

set_option maxHeartbeats 1200000 in
theorem in_take_step (b n : Nat) (l : List UInt8) (e : Nat) (w : World) (hn1 : 1 ≤ n) (hn8 : n ≤ 8) (hl : l.length ≤ 1000000008) (h : InIs w b l e) :
    Calls Tryz.prog 52 #[.pointer (some ⟨b, 0, none⟩), .int .i64 (n : Int)] w fun en w' => en = .returned (.int .u64 (takeV n l e : Int)) ∧ InIs w' b (restL n l e) (restE n l e) ∧ OStep b w w' := by
  obtain ⟨v, h0, h1, hv⟩ := h.parts
  by_cases he : e = 0
  · subst he
    by_cases hs : l.length < n
    · have E1 := hid (show takeV n l 0 = 0 by simp [takeV, hs])
      have E2 := hid (show restL n l 0 = l by simp [restL, hs])
      have E3 := hid (show restE n l 0 = 4 by simp [restE, hs])
      go_enter_defers Tryz.func52, Tryz.ntmps52
      go_wp2_with fail
      refine (cut_short b n l 0 w hs h).mono ?_
      rintro en w' ⟨rfl, rfl⟩
      go_wp2_with fail
      refine leaves_cons (f := 81) (args := #[.pointer (some ⟨b, 0, none⟩)]) (by simp) (by simp [go_sem]) ?_
      refine (caught_panicking2 b l 0 4 _ h).mono ?_
      rintro en u' w'' ⟨rfl, rfl, hi, hbb⟩
      simp only [settle, errChainR]
      exact ⟨_, results_tmp rfl _ _ _, by rw [E1.out]; rfl, by rw [E2.out, E3.out]; exact hi, hbb⟩
    · have E1 := hid (show takeV n l 0 = leN (l.take n) by simp [takeV, hs])
      have E2 := hid (show restL n l 0 = l.drop n by simp [restL, hs])
      have E3 := hid (show restE n l 0 = 0 by simp [restE, hs])
      have hle : n ≤ l.length := by omega
      go_enter_defers Tryz.func52, Tryz.ntmps52
      go_wp2_with fail
      refine (cut_ok2 b n l 0 w hle hl h).mono ?_
      rintro en w1 ⟨v1, rfl, hv1, hi1, hb1⟩
      have hlen : (l.take n).length = n := by simp; omega
      obtain ⟨a1, c1, rfl, hc1, hc2, hc3⟩ := hv1.form
      have HL := hid hlen
      clear hlen
      go_wp2_with fail
      generalize hLL : l.take n = L at *
      replace hLL := hid hLL
      obtain rfl : n = L.length := HL.out.symm
      go_loop [4, 24] (fun x i => ∃ k : Nat, k ≤ L.length ∧ i = .int .i64 (k : Int) ∧ x = .int .u64 (leN (L.take k) : Int)) (fun _ i => L.length - (intOf i).toNat)
      case atStart => exact ⟨0, by omega, rfl, rfl⟩
      case round =>
        obtain ⟨k, hk, rfl, rfl⟩ := hrel
        by_cases hlt : k < L.length
        · obtain ⟨bb, o, rfl, hcell⟩ := hv1.cell k hlt
          have hsn : L.take (k + 1) = L.take k ++ [L[k]] := List.take_succ_eq_append_getElem hlt
          have hkl : (L.take k).length = k := by simp; omega
          have hb0 := leN_lt (L.take k)
          rw [hkl] at hb0
          have hor := hid (or_take' hb0 L[k].toNat_lt (show k < 8 by omega))
          have hfin : Hid (leN (L.take (k + 1)) = leN (L.take k) + L[k].toNat * 256 ^ k) := hid (by rw [hsn, leN_snoc, hkl])
          clear hsn hkl hb0
          go_wp2
          go_round
          case rel => exact ⟨k + 1, by omega, by go_num, by rw [hor.out, hfin.out]⟩
          case measure => simp [intOf]; omega
        · obtain rfl : k = L.length := by omega
          rw [List.take_length]
          go_wp2
          refine leaves_cons (f := 81) (args := #[.pointer (some ⟨b, 0, none⟩)]) (by simp) (by simp [go_sem]) ?_
          refine (caught_idle b _).mono ?_
          rintro en u' w'' ⟨rfl, rfl, rfl⟩
          simp only [settle]
          exact ⟨_, results_tmp rfl _ _ _, by rw [E1.out]; rfl, by rw [E2.out, E3.out]; exact hi1, hb1⟩

  · have E1 := hid (show takeV n l e = 0 by simp [takeV, he])
    have E2 := hid (show restL n l e = l by simp [restL, he])
    have E3 := hid (show restE n l e = e by simp [restE, he])
    have k0 : ((e : Int) != 0) = true := by simpa using he
    clear he
    go_enter_defers Tryz.func52, Tryz.ntmps52
    go_wp2_with fail
    simp only [bodyPostD, Leaves]
    exact ⟨_, results_tmp rfl _ _ _, by rw [E1.out]; rfl, by rw [E2.out, E3.out]; exact h, OStep.refl _ _⟩

def RawNew (w : World) (b : Nat) (l : List UInt8) (n e : Nat) (en : Ending) (w' : World) : Prop :=
  ∃ v', en = .returned v' ∧ (BytesAt w' v' (rawL n l e) ∧ ∀ k, v'.ownBlock = some k → w.heap.size ≤ k) ∧ InIs w' b (restL n l e) (restE n l e) ∧ OStep b w w'

set_option maxHeartbeats 1200000 in
theorem in_raw_new (b n : Nat) (l : List UInt8) (e : Nat) (w : World) (hn : n < 9223372036854775808) (hl : l.length ≤ 1000000008) (h : InIs w b l e) :
    Calls Tryz.prog 119 #[.pointer (some ⟨b, 0, none⟩), .int .i64 (n : Int)] w (RawNew w b l n e) := by
  obtain ⟨v, h0, h1, hv⟩ := h.parts
  by_cases he : e = 0
  · subst he
    by_cases hs : l.length < n
    · have E1 := hid (show rawL n l 0 = [] by simp [rawL, hs])
      have E2 := hid (show restL n l 0 = l by simp [restL, hs])
      have E3 := hid (show restE n l 0 = 4 by simp [restE, hs])
      go_enter_defers Tryz.func119, Tryz.ntmps119
      go_wp2_with fail
      refine (cut_short b n l 0 w hs h).mono ?_
      rintro en w' ⟨rfl, rfl⟩
      go_wp2_with fail
      refine leaves_cons (f := 81) (args := #[.pointer (some ⟨b, 0, none⟩)]) (by simp) (by simp [go_sem]) ?_
      refine (caught_panicking2 b l 0 4 _ h).mono ?_
      rintro en u' w'' ⟨rfl, rfl, hi, hbb⟩
      simp only [settle, errChainR]
      exact ⟨_, results_tmp rfl _ _ _, _, rfl, ⟨by rw [E1.out]; exact RowAt.nil, fun k hk => by cases hk⟩, by rw [E2.out, E3.out]; exact hi, hbb⟩
    · have E1 := hid (show rawL n l 0 = l.take n by simp [rawL, hs])
      have E2 := hid (show restL n l 0 = l.drop n by simp [restL, hs])
      have E3 := hid (show restE n l 0 = 0 by simp [restE, hs])
      have hle : n ≤ l.length := by omega
      go_enter_defers Tryz.func119, Tryz.ntmps119
      go_wp2_with fail
      refine (cut_ok2 b n l 0 w hle hl h).mono ?_
      rintro en w1 ⟨v1, rfl, hv1, hi1, hb1⟩
      go_wp2_with fail
      refine (clone_new v1 (l.take n) w1 hv1 (by simp; omega)).mono ?_
      rintro en w2 ⟨v2, rfl, hv2, hb2⟩
      obtain ⟨hv2, hnw⟩ := hv2
      obtain ⟨a2, c2, rfl, g1, g2, _⟩ := hv2.form
      replace hnw := hid hnw
      go_wp2_with fail
      have hln : (l.take n).length = n := by simp; omega
      replace hln := hid hln
      refine (clip_at a2 n c2 w2 (by rw [← hln.out]; exact g1) g2).mono ?_
      rintro en w3 ⟨rfl, rfl⟩
      have hv3 : BytesAt w2 (.slice a2 n n) (l.take n) := by have := hv2.take (l.take n).length (l.take n).length (Nat.le_refl _) (Nat.le_refl _) g1; rw [List.take_length] at this; rwa [hln.out] at this
      have hsz1 := hb1.below.size
      go_wp2_with fail
      refine leaves_cons (f := 81) (args := #[.pointer (some ⟨b, 0, none⟩)]) (by simp) (by simp [go_sem]) ?_
      refine (caught_idle b _).mono ?_
      rintro en u' w'' ⟨rfl, rfl, rfl⟩
      simp only [settle]
      exact ⟨_, results_tmp rfl _ _ _, _, rfl, ⟨by rw [E1.out]; exact hv3, fun k hk => Nat.le_trans hsz1 (hnw.out k (by cases a2 <;> exact hk))⟩, by rw [E2.out, E3.out]; exact hi1.below hb2, hb1.trans (OStep.pure hi1.lt hb2)⟩
  · have E1 := hid (show rawL n l e = [] by simp [rawL, he])
    have E2 := hid (show restL n l e = l by simp [restL, he])
    have E3 := hid (show restE n l e = e by simp [restE, he])
    have k0 : ((e : Int) != 0) = true := by simpa using he
    clear he
    go_enter_defers Tryz.func119, Tryz.ntmps119
    go_wp2_with fail
    simp only [bodyPostD, Leaves]
    exact ⟨_, results_tmp rfl _ _ _, _, rfl, ⟨by rw [E1.out]; exact RowAt.nil, fun k hk => by cases hk⟩, by rw [E2.out, E3.out]; exact h, OStep.refl _ _⟩

def RawPost2 (w : World) (b : Nat) (l : List UInt8) (n e : Nat) (en : Ending) (w' : World) : Prop :=
  ∃ v', en = .returned v' ∧ BytesAt w' v' (rawL n l e) ∧ InIs w' b (restL n l e) (restE n l e) ∧ OStep b w w'
theorem in_raw_step (b n : Nat) (l : List UInt8) (e : Nat) (w : World) (hn : n < 9223372036854775808) (hl : l.length ≤ 1000000008) (h : InIs w b l e) :
    Calls Tryz.prog 119 #[.pointer (some ⟨b, 0, none⟩), .int .i64 (n : Int)] w (RawPost2 w b l n e) := (in_raw_new b n l e w hn hl h).mono fun _ _ ⟨v', h1, h2, h3⟩ => ⟨v', h1, h2.1, h3⟩

end
end Go.Proofs.YtcmajcljafmphaaGreat

namespace Go.Proofs.YtcmajcljafmphaaGreat
section
open Go.RowKit
set_option maxRecDepth 100000
end
end Go.Proofs.YtcmajcljafmphaaGreat

namespace Go.Proofs.YtcmajcljafmphaaGreat
section
open Go.RowKit
set_option maxRecDepth 100000
set_option linter.unusedVariables false

theorem nodS {n : Nod} {X : World} {k : Nat} {T : TypeId} {fr : Nat × Nat} (h : X.heap[k]? = some (.cells n.cells T fr)) : X.cell? ⟨k, 0, none⟩ = some (.int .u64 (n.path : Int)) ∧ X.cell? ⟨k, 1, none⟩ = some (.int .u32 (n.vers : Int)) ∧ X.cell? ⟨k, 2, none⟩ = some (.int .u32 (n.mode : Int)) ∧ X.cell? ⟨k, 3, none⟩ = some (.int .u32 (n.atm : Int)) ∧ X.cell? ⟨k, 4, none⟩ = some (.int .u32 (n.mtm : Int)) ∧ X.cell? ⟨k, 5, none⟩ = some (.string n.name) ∧ X.cell? ⟨k, 6, none⟩ = some (.string n.uid) ∧ X.cell? ⟨k, 7, none⟩ = some (.string n.gid) ∧ X.cell? ⟨k, 8, none⟩ = some (.string n.muid) ∧ X.cell? ⟨k, 9, none⟩ = some (.int .u64 (n.up : Int)) ∧ X.cell? ⟨k, 10, none⟩ = some (.bool n.gone) ∧ X.cell? ⟨k, 11, none⟩ = some (.string n.data) :=
  ⟨block_cell h 0, block_cell h 1, block_cell h 2, block_cell h 3, block_cell h 4, block_cell h 5, block_cell h 6, block_cell h 7, block_cell h 8, block_cell h 9, block_cell h 10, block_cell h 11⟩
def dirB (n : Nod) : Bool := !decide (n.mode &&& 2147483648 = 0)
theorem dir_mode (m : Nat) (h : m < 4294967296) : (bits .and .u32 (m : Int) 2147483648 != 0) = !decide (m &&& 2147483648 = 0) := by
  rw [show (2147483648 : Int) = ((2147483648 : Nat) : Int) from rfl, u32_and_nat _ _ h (by omega)]
  by_cases h0 : m &&& 2147483648 = 0
  · simp [h0]
  · simp [h0]
theorem rdir_any (n : Nod) (w : World) (hn : NodOk n) :
    Calls Tryz.prog 46 #[.agg n.cells] w fun e w' => e = .returned (.bool (dirB n)) ∧ Below w.heap.size w w' := by
  have hb := (Below.refl w.heap.size w).alloc (Nat.le_refl _) (.cells n.cells 83)
  have hdm := dir_mode n.mode hn.mode
  have hm := hn.mode
  have hE : Hid (dirB n = !decide (n.mode &&& 2147483648 = 0)) := hid rfl
  rw [nod_cells] at hb ⊢
  replace hb := hid hb
  replace hn := hid hn
  replace hdm := hid hdm
  go_enter Tryz.func46, Tryz.ntmps46
  go_wp2_with fail
  go_ret
  exact ⟨ret_bool (by rw [hE.out, ← hdm.out]), hb.out⟩

def bitsB (m : Nat) : Bool := decide (m &&& 536870400 = 0) && (decide (m &&& 2147483648 = 0) || decide (m &&& 1610612736 = 0))
theorem dec_int (a b : Nat) : ((a : Int) == (b : Int)) = decide (a = b) := by
  by_cases h : a = b
  · simp [h]
  · simp only [h, decide_false]
    simp; omega
theorem bits_p1 (m : Nat) (h : m < 4294967296) : (bits .andNot .u32 (m : Int) 3758096895 == 0) = decide (m &&& 536870400 = 0) := by
  rw [show (3758096895 : Int) = ((3758096895 : Nat) : Int) from rfl, u32_andNot_nat _ _ h (by omega)]
  exact dec_int _ 0
theorem bits_p2 (m : Nat) (h : m < 4294967296) : (bits .and .u32 (m : Int) 2147483648 == 0) = decide (m &&& 2147483648 = 0) := by
  rw [show (2147483648 : Int) = ((2147483648 : Nat) : Int) from rfl, u32_and_nat _ _ h (by omega)]
  exact dec_int _ 0
theorem bits_p3 (m : Nat) (h : m < 4294967296) : (bits .and .u32 (m : Int) 1610612736 == 0) = decide (m &&& 1610612736 = 0) := by
  rw [show (1610612736 : Int) = ((1610612736 : Nat) : Int) from rfl, u32_and_nat _ _ h (by omega)]
  exact dec_int _ 0
theorem bits_r1 (m : Nat) (h : m < 4294967296) : bits .andNot .u32 (m : Int) 511 = ((m &&& 4294966784 : Nat) : Int) := by
  rw [show (511 : Int) = ((511 : Nat) : Int) from rfl, u32_andNot_nat _ _ h (by omega)]
theorem bits_r2 (m : Nat) : (((m &&& 4294966784 : Nat) : Int) == 2147483648) = decide (m &&& 4294966784 = 2147483648) := dec_int _ 2147483648
theorem bits_r3 (m : Nat) (h : m < 4294967296) : (bits .andNot .u32 ((m &&& 4294966784 : Nat) : Int) 1610612736 == 0) = decide (m &&& 2684354048 = 0) := by
  rw [show (1610612736 : Int) = ((1610612736 : Nat) : Int) from rfl, u32_andNot_nat _ _ (Nat.lt_of_le_of_lt Nat.and_le_left h) (by omega), Nat.and_assoc]
  exact dec_int _ 0
theorem bit31 (m : Nat) : m &&& 2147483648 = 0 ∨ m &&& 2147483648 = 2147483648 := by
  rw [nat_bit31]
  have : m / 2147483648 % 2 = 0 ∨ m / 2147483648 % 2 = 1 := by omega
  rcases this with h | h <;> rw [h] <;> decide
theorem bits_eq (m : Nat) : (decide (m &&& 4294966784 = 2147483648) || decide (m &&& 2684354048 = 0)) = bitsB m := by
  unfold bitsB
  have e1 : m &&& 4294966784 = (m &&& 536870400) ||| (m &&& 2147483648) ||| (m &&& 1610612736) := by
    rw [← Nat.and_or_distrib_left, ← Nat.and_or_distrib_left]
    exact congrArg (m &&& ·) (by decide)
  have e2 : m &&& 2684354048 = (m &&& 536870400) ||| (m &&& 2147483648) := by
    rw [← Nat.and_or_distrib_left]
    exact congrArg (m &&& ·) (by decide)
  rw [Bool.eq_iff_iff]
  simp only [Bool.or_eq_true, Bool.and_eq_true, decide_eq_true_eq]
  constructor
  · rintro (h | h)
    · have h1 : (m &&& 4294966784) &&& 536870400 = 2147483648 &&& 536870400 := by rw [h]
      have h2 : (m &&& 4294966784) &&& 1610612736 = 2147483648 &&& 1610612736 := by rw [h]
      rw [Nat.and_assoc] at h1 h2
      exact ⟨h1, .inr h2⟩
    · rw [e2, Nat.or_eq_zero_iff] at h
      exact ⟨h.1, .inl h.2⟩
  · rintro ⟨h1, h | h⟩
    · right; rw [e2, h1, h]; rfl
    · rcases bit31 m with hb | hb
      · right; rw [e2, h1, hb]; rfl
      · left; rw [e1, h1, h, hb]; rfl

theorem nbits_any (m : Nat) (w : World) (hm : m < 4294967296) :
    Calls Tryz.prog 69 #[.int .u32 (m : Int)] w fun e w' => e = .returned (.bool (bitsB m)) ∧ w' = w := by
  have p1 := bits_p1 m hm
  have p2 := bits_p2 m hm
  have p3 := bits_p3 m hm
  have hE : Hid (bitsB m = (decide (m &&& 536870400 = 0) && (decide (m &&& 2147483648 = 0) || decide (m &&& 1610612736 = 0)))) := hid rfl
  generalize decide (m &&& 536870400 = 0) = b1 at *
  generalize decide (m &&& 2147483648 = 0) = b2 at *
  generalize decide (m &&& 1610612736 = 0) = b3 at *
  cases b1 <;> cases b2 <;> cases b3
  all_goals
    go_enter Tryz.func69, Tryz.ntmps69
    go_wp2_with fail
    go_ret
    exact ⟨ret_bool (by rw [hE.out]; rfl), rfl⟩

theorem rbits_any (m : Nat) (w : World) (hm : m < 4294967296) :
    Calls Tryz.prog 76 #[.int .u32 (m : Int)] w fun e w' => e = .returned (.bool (bitsB m)) ∧ w' = w := by
  have p1 := bits_r1 m hm
  have p2 := bits_r2 m
  have p3 := bits_r3 m hm
  have hE : Hid (bitsB m = (decide (m &&& 4294966784 = 2147483648) || decide (m &&& 2684354048 = 0))) := hid (bits_eq m).symm
  generalize decide (m &&& 4294966784 = 2147483648) = b1 at *
  generalize decide (m &&& 2684354048 = 0) = b2 at *
  cases b1 <;> cases b2
  all_goals
    go_enter Tryz.func76, Tryz.ntmps76
    go_wp2_with fail
    go_ret
    exact ⟨ret_bool (by rw [hE.out]; rfl), rfl⟩
def zeroNode : Array Value := #[.int .u64 0, .int .u32 0, .int .u32 0, .int .u32 0, .int .u32 0, .string ⟨#[]⟩, .string ⟨#[]⟩, .string ⟨#[]⟩, .string ⟨#[]⟩, .int .u64 0, .bool false, .string ⟨#[]⟩]
set_option maxHeartbeats 1600000 in
theorem ofnode_any (n : Nod) (w : World) : Calls Tryz.prog 43 #[.agg n.cells] w fun e w' => e = .returned (.agg n.cells) ∧ Below w.heap.size w w' := by
  obtain ⟨W, hW⟩ : ∃ W, W = (w.alloc (.cells n.cells 68)).alloc (.cells zeroNode 83) := ⟨_, rfl⟩
  have hx : W.heap[w.heap.size]? = some (.cells n.cells 68 (0, 0)) := by rw [hW, heap_alloc_old _ _ (by simp), heap_alloc_new]
  have hy : W.heap[w.heap.size + 1]? = some (.cells zeroNode 83 (0, 0)) := by rw [hW]; exact heap2 _ _ _
  have hb0 : Below w.heap.size w W := by rw [hW]; exact ((Below.refl w.heap.size w).alloc (Nat.le_refl _) _).alloc (by simp) _
  have hbS : Hid (Below w.heap.size w (W.setRow (w.heap.size + 1) n.cells)) := hid (below_setRow hb0 (by omega) _)
  have hrow : Hid ((W.setRow (w.heap.size + 1) n.cells).heap[w.heap.size + 1]? = some (.cells n.cells 83 (0, 0))) := hid (setRow_heap _ _ _ _ _ _ hy)
  obtain ⟨d0, d1, d2, d3, d4, d5, d6, d7, d8, d9, d10, d11⟩ := nodS hx
  replace hy := hid hy
  replace hx := hid hx
  replace hb0 := hid hb0
  rw [nod_cells] at hW hbS hrow ⊢
  simp only [zeroNode] at hW
  go_enter Tryz.func43, Tryz.ntmps43
  go_wp2_with (first | (rw [← hW]; replace hW := hid hW) | (refine wpList_store_row (by rfl) 83 (.tmp 2) (.tmp 27) (by rfl) (w.heap.size + 1) n.cells (by rfl) (by rfl) 83 _ hy.out (by rfl) (by rfl) (nod_one n) ?_))
  refine bodyPost_ret (results_cell_row rfl _ _ (w.heap.size + 1) _ _ _ _ rfl hrow.out Tryz.underlying83 rfl (by kernel_rfl)) rfl ?_
  exact ⟨rfl, hbS.out⟩

end
end Go.Proofs.YtcmajcljafmphaaGreat
