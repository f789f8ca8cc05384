/- What texts of msg.in reads and stores, or that it raises an error. Conditions: bounds on lengths.
What qids of msg.in reads and stores, or that it raises an error. Conditions: bounds on lengths.
The state along a reader of msg, and what each field makes of it. Conditions: bounds on lengths. -/
import Derived.Test.YtcbglcebdkpcfaaGreatCeA11
import Derived.Test.YtcbglcebdkpcfaaGreatCeA09
namespace Go.Proofs.YtcbglcebdkpcfaaGreat
section
open Go.RowKit
set_option maxRecDepth 100000
set_option linter.unusedVariables false

def InList (w : World) (b q i sz : Nat) (cs : Array Value) (err : Nat) (p : List UInt8 × Nat) (n : Nat) (vs : List Value) (e : Ending) (w' : World) : Prop :=
  (err = 0 ∧ InRow w b q i sz cs p n vs e w') ∨ (err ≠ 0 ∧ (∃ er, er ≠ 0 ∧ e = .panicked (errChain er)) ∧ ∀ m, m ≤ b → m ≤ q → Below m w w')

set_option maxHeartbeats 1600000 in
theorem in_texts_run (b q i : Nat) (p : List UInt8 × Nat) (cs : Array Value) (w : World) (hl : p.1.length ≤ 1000000000) (h : InAt w b p) (e1 : (rd 2 p).2 = 0) (e2 : tv 2 p ≤ 16) (hf : ¬ Foot w b q) (hc : w.heap[q]? = some (.cells cs 41 (0, 0))) (hi : cs[i]? = some (.slice none 0 0)) :
    Calls Tryz.prog 153 #[.agg #[.pointer (some ⟨b, 0, none⟩)], .pointer (some ⟨q, i, none⟩)] w (InList w b q i 1 cs (textsIn (tv 2 p) (rd 2 p)).1 (txR p) (txL p).length (List.map Value.string (txL p))) := by
  obtain ⟨i0, hi0, hz0, hz1, hz2⟩ := info_parts infoStr
  have hb0 := (Below.refl w.heap.size w).alloc (Nat.le_refl _) (.cells #[.pointer (some ⟨b, 0, none⟩)] 170)
  have ha := h.below hb0
  have st0 := OStep.pure h.lt hb0
  have hnf := hid (h.new (.cells #[.pointer (some ⟨b, 0, none⟩)] 170))
  have hq := hid (heap_alloc_new w (.cells #[.pointer (some ⟨b, 0, none⟩)] 170))
  have hlt := lt_of_block hc
  have hf' := hid hf
  have hmany := hid (fun W (h : InAt W b p) => in_many_ok b p W hl h e1 e2)
  have hcsz : i < cs.size := by
    rcases Nat.lt_or_ge i cs.size with h | h
    · exact h
    · rw [Array.getElem?_eq_none h] at hi; cases hi
  have hself : Hid (cs.setIfInBounds i (.slice none 0 0) = cs) := hid (by
    apply Array.ext (by simp)
    intro j h1 h2
    rw [Array.getElem_setIfInBounds h2]
    split
    · next e => subst e; rw [Array.getElem?_eq_getElem hcsz] at hi; exact (Option.some.inj hi).symm
    · rfl)
  have hl2 := rd_le 2 p
  replace e1 := hid e1
  replace hi := hid hi
  clear hf
  go_enter Tryz.func153, Tryz.ntmps153
  go_wp2_with fail
  refine (hmany.out _ ha).mono ?_
  rintro e w1 ⟨rfl, ha1, hs1⟩
  have hst := st0.trans hs1
  have hx1 := hs1.block w.heap.size (by simp) hnf.out
  have hq1 := hst.block q hlt hf'.out
  have hszB : w.heap.size < w1.heap.size := lt_of_block (hx1.1.trans hq.out)
  have st : TxAt w w1 b q i w1.heap.size 9 1 cs (rd 2 p) (.slice none 0 0) 0 [] :=
    ⟨ha1, by rw [hself.out]; exact hq1.1.trans hc, hq1.2, fun k hk => ha1.foot_lt hk, World.ownsRow_nil _ _ _ _, hx1.1.trans hq.out, hx1.2, Nat.le_refl _, ⟨hlt, hszB⟩, fun m h1 h2 => hst.below.mono h1, fun x hx _ hf => hst.block x hx hf⟩
  clear hc
  go_wp2_with fail
  go_loopw [7] (fun kv wr => ∃ (k : Nat) (pk : List UInt8 × Nat) (L : List ByteArray) (v : Value), k ≤ tv 2 p ∧ L.length = k ∧ kv = .int .i64 (k : Int) ∧ pk.1.length ≤ 1000000000 ∧ TxAt w wr b q i w1.heap.size 9 1 cs pk v k (List.map Value.string L) ∧ Hid (textsIn (tv 2 p) (rd 2 p) = glue L (textsIn (tv 2 p - k) pk))) (fun kv _ => tv 2 p - (intOf kv).toNat)
  case atStart => exact ⟨0, _, [], _, by omega, rfl, rfl, by omega, st, hid rfl⟩
  case round =>
    obtain ⟨k, pk, L, v, hk, hLk, rfl, hpl, hT, hg⟩ := hrel
    by_cases hkl : k < tv 2 p
    · have hT1 := hT.same ((Below.refl wr.heap.size wr).alloc (Nat.le_refl _) (.cells #[.string ⟨#[]⟩] 9))
      have hblk := heap_alloc_new wr (.cells #[.string ⟨#[]⟩] 9)
      have hvk : v.ownBlock ≠ some wr.heap.size := fun e => by have := (hT.own.lt _ e).2; omega
      have hnfk := hT.inn.new (.cells #[.string ⟨#[]⟩] 9)
      have cb : (wr.alloc (.cells #[.string ⟨#[]⟩] 9)).cell? ⟨w.heap.size, 0, none⟩ = some (.pointer (some ⟨b, 0, none⟩)) := block_cell hT1.box 0
      by_cases hte : te pk = 0
      case neg =>
        have hbad : Hid ((textsIn (tv 2 p) (rd 2 p)).1 ≠ 0) := hid (by
          rw [hg.out, show tv 2 p - k = (tv 2 p - k - 1) + 1 from by omega]
          simp [glue, textsIn, hte])
        have htx := hid (in_text_bad b wr.heap.size 0 pk _ hpl hT1.inn hte)
        have hbl := hid hT1.below
        replace hblk := hid hblk
        replace hte := hid hte
        clear hT hT1 hnfk
        go_wp2_with fail
        refine htx.out.mono ?_
        rintro e w2 ⟨rfl, hs3⟩
        go_wp2_with fail
        exact ⟨rfl, .inr ⟨hbad.out, ⟨_, hte.out, rfl⟩, fun m h1 h2 => (hbl.out m h1 h2).trans (hs3.below.mono h1)⟩⟩
      have htx := hid (in_text_ok b wr.heap.size 0 (.string ⟨#[]⟩) pk _ hpl hT1.inn hte hnfk (block_cell hblk 0) (block_free hblk 0))
      have hstep : Hid (textsIn (tv 2 p) (rd 2 p) = glue (L ++ [ts pk]) (textsIn (tv 2 p - (k + 1)) (tr pk))) := hid (by
        rw [hg.out, show tv 2 p - k = (tv 2 p - (k + 1)) + 1 from by omega, glue_text hte])
      replace hblk := hid hblk
      replace hte := hid hte
      replace hT1 := hid hT1
      have hvk' := hid hvk
      have hsB := hid hT.size
      have hBk := hid (Nat.lt_of_lt_of_le hT.lt.2 hT.size)
      clear hT hnfk
      go_wp2_with fail
      refine htx.out.mono ?_
      rintro e w2 ⟨rfl, w3, hs3, ha3, rfl⟩
      have hT3 := (hT1.out.step ha3 hs3).store ⟨wr.heap.size, 0, none⟩ (.string (ts pk)) hsB.out hvk'.out
      have hxk := hid (((hs3.block wr.heap.size (lt_of_block hblk.out) (fun hf => by have := hT1.out.rows _ hf; have := hsB.out; omega)).1).trans hblk.out)
      obtain ⟨W3, hW3⟩ : ∃ W, W = w3.setCell ⟨wr.heap.size, 0, none⟩ (.string (ts pk)) := ⟨_, rfl⟩
      have cs3 : W3.cell? ⟨wr.heap.size, 0, none⟩ = some (.string (ts pk)) := by rw [hW3, block_cell (block_set hxk.out 0 _) 0]; rfl
      rw [← hW3] at hT3 ⊢
      have cq3 : W3.cell? ⟨q, i, none⟩ = some v := by rw [block_cell hT3.blk i]; simp [hcsz]
      have fq3 : W3.frozen? ⟨q, i, none⟩ = false := block_free hT3.blk i
      have hlk := lt_of_block hblk.out
      have hltk : wr.heap.size < W3.heap.size := by rw [hW3]; simpa using lt_of_block hxk.out
      have hltq : q < W3.heap.size := lt_of_block hT3.blk
      have hown3 := hid hT3.own
      have hsz3 := hid hT3.size
      have e1' : ∀ o, (W3.drew.alloc o).heap[W3.heap.size]? = some o := fun o => heap_alloc_new _ _
      have hneq := hid (show some q ≠ v.ownBlock from fun e => by have := (hT3.own.lt q e.symm).1; have := hT3.lt; omega)
      clear hW3 hs3 ha3 hxk
      replace hT3 := hid hT3
      go_wp2_with fail
      go_region_law (refine step_append_lies (P := Tryz.prog) _ rfl (.tmp 14) (.tmp 16) 33 rfl w1.heap.size 9 i0 (.string ⟨#[]⟩) 1 16 Tryz.underlying33 hi0 hz0 hz1 hz2 rfl (by decide) v k (List.map Value.string L) ?_ ?_ ⟨W3.heap.size, 0, none⟩ 1 1 [.string (ts pk)] ?_ rfl ?_ (by intro u hu; simp at hu; subst hu; rfl) (by omega) (by unfold maxLen; omega) (by omega) ?_ (W3.heap.size + 1) ?_ (fun g cap w' h2 h3 h4 h5 => ?_); rfl; exact hown3.out.drew.alloc _; rfl; exact World.news_of_block (e1' _); (simp; have := hsz3.out; omega); simp; (have hq4 := hid (kept_da hT3.out.blk h3 hneq.out); have cq4 : w'.cell? ⟨q, i, none⟩ = some v := (by rw [block_cell hq4.out i]; simp [hcsz]); have fq4 : w'.frozen? ⟨q, i, none⟩ = false := block_free hq4.out i; have hT4 := hid (hT3.out.push h2 h3)))
      all_goals
        clear h2 h3 h4 h5
        go_wp2_with fail
        go_roundw
        case rel => exact ⟨k + 1, tr pk, L ++ [ts pk], _, by omega, by simp [hLk], by go_num, Nat.le_trans (tr_le pk) hpl, by simpa using hT4.out, hstep⟩
        case measure => simp [intOf]; omega
    · obtain rfl : k = tv 2 p := by omega
      have hgl : txL p = L ∧ txR p = pk ∧ (textsIn (tv 2 p) (rd 2 p)).1 = 0 := by
        unfold txL txR
        rw [hg.out, Nat.sub_self]
        simp [textsIn, glue]
      obtain ⟨a2, c2, rfl⟩ := own_form hT.own
      have hrow := RowAt.of_own hT.own
      obtain ⟨_, a3, c3, hv3, hn3, hm3, _⟩ := hrow
      cases hv3
      have cq3 : wr.cell? ⟨q, i, none⟩ = some (.slice a2 (tv 2 p) c2) := by rw [block_cell hT.blk i]; simp [hcsz]
      have fq3 : wr.frozen? ⟨q, i, none⟩ = false := block_free hT.blk i
      have hD := hid hT.done
      replace hgl := hid hgl
      replace hLk := hid hLk
      clear hT
      go_wp2_with fail
      refine (sclip_at a2 (tv 2 p) c2 _ hn3 hm3).mono ?_
      rintro e w4 ⟨rfl, rfl⟩
      go_wp2_with fail
      go_end0
      rw [hgl.out.1, hgl.out.2.1, hLk.out]
      exact .inl ⟨hgl.out.2.2, hD.out⟩

theorem in_texts_any (b q i : Nat) (p : List UInt8 × Nat) (cs : Array Value) (w : World) (hl : p.1.length ≤ 1000000000) (h : InAt w b p) (hf : ¬ Foot w b q) (hc : w.heap[q]? = some (.cells cs 41 (0, 0))) (hi : cs[i]? = some (.slice none 0 0)) :
    Calls Tryz.prog 153 #[.agg #[.pointer (some ⟨b, 0, none⟩)], .pointer (some ⟨q, i, none⟩)] w (InList w b q i 1 cs (txE p) (txR p) (txL p).length (List.map Value.string (txL p))) := by
  by_cases e1 : (rd 2 p).2 = 0
  · by_cases e2 : tv 2 p ≤ 16
    · have := in_texts_run b q i p cs w hl h e1 e2 hf hc hi
      rwa [show txE p = (textsIn (tv 2 p) (rd 2 p)).1 from by unfold txE; rw [if_neg (by simp [e1]), if_neg (by omega)]]
    · have hE : Hid (txE p = 2) := hid (by unfold txE; rw [if_neg (by simp [e1]), if_pos (by omega)])
      have hb0 := (Below.refl w.heap.size w).alloc (Nat.le_refl _) (.cells #[.pointer (some ⟨b, 0, none⟩)] 170)
      have ha := h.below hb0
      have st0 := OStep.pure h.lt hb0
      have hmany := hid (fun W (h : InAt W b p) => in_many_long b p W hl h e1 (by omega))
      replace e1 := hid e1
      clear hc hf hi
      go_enter Tryz.func153, Tryz.ntmps153
      go_wp2_with fail
      refine (hmany.out _ ha).mono ?_
      rintro e w1 ⟨rfl, hs1⟩
      go_wp2_with fail
      exact ⟨rfl, .inr ⟨by rw [hE.out]; omega, ⟨2, by omega, rfl⟩, fun m h1 h2 => (st0.trans hs1).below.mono h1⟩⟩
  · have hE : Hid (txE p = (rd 2 p).2) := hid (by unfold txE; rw [if_pos e1])
    have hb0 := (Below.refl w.heap.size w).alloc (Nat.le_refl _) (.cells #[.pointer (some ⟨b, 0, none⟩)] 170)
    have ha := h.below hb0
    have st0 := OStep.pure h.lt hb0
    have hmany := hid (fun W (h : InAt W b p) => in_many_bad b p W hl h e1)
    replace e1 := hid e1
    clear hc hf hi
    go_enter Tryz.func153, Tryz.ntmps153
    go_wp2_with fail
    refine (hmany.out _ ha).mono ?_
    rintro e w1 ⟨rfl, hs1⟩
    go_wp2_with fail
    exact ⟨rfl, .inr ⟨by rw [hE.out]; exact e1.out, ⟨_, e1.out, rfl⟩, fun m h1 h2 => (st0.trans hs1).below.mono h1⟩⟩
end
end Go.Proofs.YtcbglcebdkpcfaaGreat

namespace Go.Proofs.YtcbglcebdkpcfaaGreat
section
open Go.RowKit
set_option maxRecDepth 100000
set_option linter.unusedVariables false

def qvR (p : List UInt8 × Nat) : QidV := ⟨qvT p, qvV p, qvP p⟩
def qidsIn : Nat → List UInt8 × Nat → Nat × (List UInt8 × Nat) × List QidV
  | 0, p => (0, p, [])
  | n + 1, p => if (qr p).2 ≠ 0 then ((qr p).2, qr p, []) else ((qidsIn n (qr p)).1, (qidsIn n (qr p)).2.1, qvR p :: (qidsIn n (qr p)).2.2)
theorem glue_qid {L : List QidV} {n : Nat} {p : List UInt8 × Nat} (h : (qr p).2 = 0) : glue L (qidsIn (n + 1) p) = glue (L ++ [qvR p]) (qidsIn n (qr p)) := by simp [qidsIn, glue, h]
def qsE (p : List UInt8 × Nat) : Nat := if (rd 2 p).2 ≠ 0 then (rd 2 p).2 else if 16 < tv 2 p then 2 else (qidsIn (tv 2 p) (rd 2 p)).1
def qsR (p : List UInt8 × Nat) : List UInt8 × Nat := (qidsIn (tv 2 p) (rd 2 p)).2.1
def qsL (p : List UInt8 × Nat) : List QidV := (qidsIn (tv 2 p) (rd 2 p)).2.2

set_option maxHeartbeats 1600000 in
theorem in_qids_run (b q i : Nat) (p : List UInt8 × Nat) (cs : Array Value) (w : World) (hl : p.1.length ≤ 1000000000) (h : InAt w b p) (e1 : (rd 2 p).2 = 0) (e2 : tv 2 p ≤ 16) (hf : ¬ Foot w b q) (hc : w.heap[q]? = some (.cells cs 41 (0, 0))) (hi : cs[i]? = some (.slice none 0 0)) :
    Calls Tryz.prog 150 #[.agg #[.pointer (some ⟨b, 0, none⟩)], .pointer (some ⟨q, i, none⟩)] w (InList w b q i 3 cs (qidsIn (tv 2 p) (rd 2 p)).1 (qsR p) (qsL p).length (List.flatMap (fun q : QidV => q.cells.toList) (qsL p))) := by
  obtain ⟨i0, hi0, hz0, hz1, hz2⟩ := info_parts infoQid
  have hb0 := (Below.refl w.heap.size w).alloc (Nat.le_refl _) (.cells #[.pointer (some ⟨b, 0, none⟩)] 170)
  have ha := h.below hb0
  have st0 := OStep.pure h.lt hb0
  have hnf := hid (h.new (.cells #[.pointer (some ⟨b, 0, none⟩)] 170))
  have hq := hid (heap_alloc_new w (.cells #[.pointer (some ⟨b, 0, none⟩)] 170))
  have hlt := lt_of_block hc
  have hf' := hid hf
  have hmany := hid (fun W (h : InAt W b p) => in_many_ok b p W hl h e1 e2)
  have hcsz : i < cs.size := by
    rcases Nat.lt_or_ge i cs.size with h | h
    · exact h
    · rw [Array.getElem?_eq_none h] at hi; cases hi
  have hself : Hid (cs.setIfInBounds i (.slice none 0 0) = cs) := hid (by
    apply Array.ext (by simp)
    intro j h1 h2
    rw [Array.getElem_setIfInBounds h2]
    split
    · next e => subst e; rw [Array.getElem?_eq_getElem hcsz] at hi; exact (Option.some.inj hi).symm
    · rfl)
  have hl2 := rd_le 2 p
  replace e1 := hid e1
  replace hi := hid hi
  clear hf
  go_enter Tryz.func150, Tryz.ntmps150
  go_wp2_with fail
  refine (hmany.out _ ha).mono ?_
  rintro e w1 ⟨rfl, ha1, hs1⟩
  have hst := st0.trans hs1
  have hx1 := hs1.block w.heap.size (by simp) hnf.out
  have hq1 := hst.block q hlt hf'.out
  have hszB : w.heap.size < w1.heap.size := lt_of_block (hx1.1.trans hq.out)
  have st : TxAt w w1 b q i w1.heap.size 37 3 cs (rd 2 p) (.slice none 0 0) 0 [] :=
    ⟨ha1, by rw [hself.out]; exact hq1.1.trans hc, hq1.2, fun k hk => ha1.foot_lt hk, World.ownsRow_nil _ _ _ _, hx1.1.trans hq.out, hx1.2, Nat.le_refl _, ⟨hlt, hszB⟩, fun m h1 h2 => hst.below.mono h1, fun x hx _ hf => hst.block x hx hf⟩
  clear hc
  go_wp2_with fail
  go_loopw [7] (fun kv wr => ∃ (k : Nat) (pk : List UInt8 × Nat) (L : List QidV) (v : Value), k ≤ tv 2 p ∧ L.length = k ∧ kv = .int .i64 (k : Int) ∧ pk.1.length ≤ 1000000000 ∧ TxAt w wr b q i w1.heap.size 37 3 cs pk v k (List.flatMap (fun q : QidV => q.cells.toList) L) ∧ Hid (qidsIn (tv 2 p) (rd 2 p) = glue L (qidsIn (tv 2 p - k) pk))) (fun kv _ => tv 2 p - (intOf kv).toNat)
  case atStart => exact ⟨0, _, [], _, by omega, rfl, rfl, by omega, st, hid rfl⟩
  case round =>
    obtain ⟨k, pk, L, v, hk, hLk, rfl, hpl, hT, hg⟩ := hrel
    by_cases hkl : k < tv 2 p
    · have hT1 := hT.same ((Below.refl wr.heap.size wr).alloc (Nat.le_refl _) (.cells #[.int .u8 0, .int .u32 0, .int .u64 0] 37))
      have hblk := heap_alloc_new wr (.cells #[.int .u8 0, .int .u32 0, .int .u64 0] 37)
      have hvk : v.ownBlock ≠ some wr.heap.size := fun e => by have := (hT.own.lt _ e).2; omega
      have hnfk := hT.inn.new (.cells #[.int .u8 0, .int .u32 0, .int .u64 0] 37)
      have cb : (wr.alloc (.cells #[.int .u8 0, .int .u32 0, .int .u64 0] 37)).cell? ⟨w.heap.size, 0, none⟩ = some (.pointer (some ⟨b, 0, none⟩)) := block_cell hT1.box 0
      have hBq := hid (show q ≤ wr.heap.size from by have := hT.lt; have := hT.size; omega)
      by_cases hte : (qr pk).2 = 0
      case neg =>
        have hbad : Hid ((qidsIn (tv 2 p) (rd 2 p)).1 ≠ 0) := hid (by
          rw [hg.out, show tv 2 p - k = (tv 2 p - k - 1) + 1 from by omega]
          simp [glue, qidsIn, hte])
        have htx := hid (in_qid_bad b wr.heap.size 0 _ _ _ pk _ hpl hT1.inn hte hnfk (block_cell hblk 0) (block_cell hblk 1) (block_cell hblk 2) (block_free hblk 0) (block_free hblk 1) (block_free hblk 2))
        have hbl := hid hT1.below
        replace hblk := hid hblk
        replace hte := hid hte
        clear hT hT1 hnfk
        go_wp2_with fail
        refine htx.out.mono ?_
        rintro e w2 ⟨rfl, hs3⟩
        go_wp2_with fail
        exact ⟨rfl, .inr ⟨hbad.out, ⟨_, hte.out, rfl⟩, fun m h1 h2 => (hbl.out m h1 h2).trans (hs3 m h1 (by have := hBq.out; omega))⟩⟩
      have htx := hid (in_qid_ok b wr.heap.size 0 _ _ _ pk _ hpl hT1.inn hte hnfk (block_cell hblk 0) (block_cell hblk 1) (block_cell hblk 2) (block_free hblk 0) (block_free hblk 1) (block_free hblk 2))
      have hstep : Hid (qidsIn (tv 2 p) (rd 2 p) = glue (L ++ [qvR pk]) (qidsIn (tv 2 p - (k + 1)) (qr pk))) := hid (by
        rw [hg.out, show tv 2 p - k = (tv 2 p - (k + 1)) + 1 from by omega, glue_qid hte])
      replace hblk := hid hblk
      replace hte := hid hte
      replace hT1 := hid hT1
      have hvk' := hid hvk
      have hsB := hid hT.size
      have hBk := hid (Nat.lt_of_lt_of_le hT.lt.2 hT.size)
      clear hT hnfk
      go_wp2_with fail
      refine htx.out.mono ?_
      rintro e w2 ⟨rfl, w3, hs3, ha3, rfl⟩
      have hT3 := (((hT1.out.step ha3 hs3).store ⟨wr.heap.size, 0, none⟩ (.int .u8 (qvT pk : Int)) hsB.out hvk'.out).store ⟨wr.heap.size, 0 + 1, none⟩ (.int .u32 (qvV pk : Int)) hsB.out hvk'.out).store ⟨wr.heap.size, 0 + 2, none⟩ (.int .u64 (qvP pk : Int)) hsB.out hvk'.out
      have hxk := hid (((hs3.block wr.heap.size (lt_of_block hblk.out) (fun hf => by have := hT1.out.rows _ hf; have := hsB.out; omega)).1).trans hblk.out)
      obtain ⟨W3, hW3⟩ : ∃ W, W = ((w3.setCell ⟨wr.heap.size, 0, none⟩ (.int .u8 (qvT pk : Int))).setCell ⟨wr.heap.size, 0 + 1, none⟩ (.int .u32 (qvV pk : Int))).setCell ⟨wr.heap.size, 0 + 2, none⟩ (.int .u64 (qvP pk : Int)) := ⟨_, rfl⟩
      have cs3a : W3.cell? ⟨wr.heap.size, 0, none⟩ = some (.int .u8 (qvT pk : Int)) := by rw [hW3, block_cell (block_set (block_set (block_set hxk.out 0 _) 1 _) 2 _) 0]; rfl
      have cs3b : W3.cell? ⟨wr.heap.size, 1, none⟩ = some (.int .u32 (qvV pk : Int)) := by rw [hW3, block_cell (block_set (block_set (block_set hxk.out 0 _) 1 _) 2 _) 1]; rfl
      have cs3c : W3.cell? ⟨wr.heap.size, 2, none⟩ = some (.int .u64 (qvP pk : Int)) := by rw [hW3, block_cell (block_set (block_set (block_set hxk.out 0 _) 1 _) 2 _) 2]; rfl
      rw [← hW3] at hT3 ⊢
      have cq3 : W3.cell? ⟨q, i, none⟩ = some v := by rw [block_cell hT3.blk i]; simp [hcsz]
      have fq3 : W3.frozen? ⟨q, i, none⟩ = false := block_free hT3.blk i
      have hlk := lt_of_block hblk.out
      have hltk : wr.heap.size < W3.heap.size := by rw [hW3]; simpa using lt_of_block hxk.out
      have hltq : q < W3.heap.size := lt_of_block hT3.blk
      have hown3 := hid hT3.own
      have hsz3 := hid hT3.size
      have e1' : ∀ o, (W3.drew.alloc o).heap[W3.heap.size]? = some o := fun o => heap_alloc_new _ _
      have hneq := hid (show some q ≠ v.ownBlock from fun e => by have := (hT3.own.lt q e.symm).1; have := hT3.lt; omega)
      clear hW3 hs3 ha3 hxk
      replace hT3 := hid hT3
      go_wp2_with fail
      go_region_law (refine step_append_lies (P := Tryz.prog) _ rfl (.tmp 14) (.tmp 16) 34 rfl w1.heap.size 37 i0 (.agg #[.int .u8 0, .int .u32 0, .int .u64 0]) 3 16 Tryz.underlying34 hi0 hz0 hz1 hz2 rfl (by decide) v k (List.flatMap (fun q : QidV => q.cells.toList) L) ?_ ?_ ⟨W3.heap.size, 0, none⟩ 1 1 [.int .u8 (qvT pk : Int), .int .u32 (qvV pk : Int), .int .u64 (qvP pk : Int)] ?_ rfl ?_ (by intro u hu; simp at hu; rcases hu with rfl | rfl | rfl <;> rfl) (by omega) (by unfold maxLen; omega) (by omega) ?_ (W3.heap.size + 1) ?_ (fun g cap w' h2 h3 h4 h5 => ?_); rfl; exact hown3.out.drew.alloc _; rfl; exact World.news_of_block (e1' _); (simp; have := hsz3.out; omega); simp; (have hq4 := hid (kept_da hT3.out.blk h3 hneq.out); have cq4 : w'.cell? ⟨q, i, none⟩ = some v := (by rw [block_cell hq4.out i]; simp [hcsz]); have fq4 : w'.frozen? ⟨q, i, none⟩ = false := block_free hq4.out i; have hT4 := hid (hT3.out.push h2 h3)))
      all_goals
        clear h2 h3 h4 h5
        go_wp2_with fail
        go_roundw
        case rel => exact ⟨k + 1, qr pk, L ++ [qvR pk], _, by omega, by simp [hLk], by go_num, Nat.le_trans (qr_le pk) hpl, by simpa [QidV.cells, qvR] using hT4.out, hstep⟩
        case measure => simp [intOf]; omega
    · obtain rfl : k = tv 2 p := by omega
      have hgl : qsL p = L ∧ qsR p = pk ∧ (qidsIn (tv 2 p) (rd 2 p)).1 = 0 := by
        unfold qsL qsR
        rw [hg.out, Nat.sub_self]
        simp [qidsIn, glue]
      obtain ⟨a2, c2, rfl⟩ := own_form hT.own
      have hrow := RowAt.of_own hT.own
      obtain ⟨_, a3, c3, hv3, hn3, hm3, _⟩ := hrow
      cases hv3
      have cq3 : wr.cell? ⟨q, i, none⟩ = some (.slice a2 (tv 2 p) c2) := by rw [block_cell hT.blk i]; simp [hcsz]
      have fq3 : wr.frozen? ⟨q, i, none⟩ = false := block_free hT.blk i
      have hD := hid hT.done
      replace hgl := hid hgl
      replace hLk := hid hLk
      clear hT
      go_wp2_with fail
      refine (qclip_at a2 (tv 2 p) c2 _ hn3 hm3).mono ?_
      rintro e w4 ⟨rfl, rfl⟩
      go_wp2_with fail
      go_end0
      rw [hgl.out.1, hgl.out.2.1, hLk.out]
      exact .inl ⟨hgl.out.2.2, hD.out⟩

theorem in_qids_any (b q i : Nat) (p : List UInt8 × Nat) (cs : Array Value) (w : World) (hl : p.1.length ≤ 1000000000) (h : InAt w b p) (hf : ¬ Foot w b q) (hc : w.heap[q]? = some (.cells cs 41 (0, 0))) (hi : cs[i]? = some (.slice none 0 0)) :
    Calls Tryz.prog 150 #[.agg #[.pointer (some ⟨b, 0, none⟩)], .pointer (some ⟨q, i, none⟩)] w (InList w b q i 3 cs (qsE p) (qsR p) (qsL p).length (List.flatMap (fun q : QidV => q.cells.toList) (qsL p))) := by
  by_cases e1 : (rd 2 p).2 = 0
  · by_cases e2 : tv 2 p ≤ 16
    · have := in_qids_run b q i p cs w hl h e1 e2 hf hc hi
      rwa [show qsE p = (qidsIn (tv 2 p) (rd 2 p)).1 from by unfold qsE; rw [if_neg (by simp [e1]), if_neg (by omega)]]
    · have hE : Hid (qsE p = 2) := hid (by unfold qsE; rw [if_neg (by simp [e1]), if_pos (by omega)])
      have hb0 := (Below.refl w.heap.size w).alloc (Nat.le_refl _) (.cells #[.pointer (some ⟨b, 0, none⟩)] 170)
      have ha := h.below hb0
      have st0 := OStep.pure h.lt hb0
      have hmany := hid (fun W (h : InAt W b p) => in_many_long b p W hl h e1 (by omega))
      replace e1 := hid e1
      clear hc hf hi
      go_enter Tryz.func150, Tryz.ntmps150
      go_wp2_with fail
      refine (hmany.out _ ha).mono ?_
      rintro e w1 ⟨rfl, hs1⟩
      go_wp2_with fail
      exact ⟨rfl, .inr ⟨by rw [hE.out]; omega, ⟨2, by omega, rfl⟩, fun m h1 h2 => (st0.trans hs1).below.mono h1⟩⟩
  · have hE : Hid (qsE p = (rd 2 p).2) := hid (by unfold qsE; rw [if_pos e1])
    have hb0 := (Below.refl w.heap.size w).alloc (Nat.le_refl _) (.cells #[.pointer (some ⟨b, 0, none⟩)] 170)
    have ha := h.below hb0
    have st0 := OStep.pure h.lt hb0
    have hmany := hid (fun W (h : InAt W b p) => in_many_bad b p W hl h e1)
    replace e1 := hid e1
    clear hc hf hi
    go_enter Tryz.func150, Tryz.ntmps150
    go_wp2_with fail
    refine (hmany.out _ ha).mono ?_
    rintro e w1 ⟨rfl, hs1⟩
    go_wp2_with fail
    exact ⟨rfl, .inr ⟨by rw [hE.out]; exact e1.out, ⟨_, e1.out, rfl⟩, fun m h1 h2 => (st0.trans hs1).below.mono h1⟩⟩
end
end Go.Proofs.YtcbglcebdkpcfaaGreat

namespace Go.Proofs.YtcbglcebdkpcfaaGreat
section
open Go.RowKit
set_option maxRecDepth 100000
set_option linter.unusedVariables false

def Slot.i (p : List UInt8 × Nat) (m : M) : Slot → Nat × (List UInt8 × Nat) × M
  | .msize => ((rd 4 p).2, rd 4 p, { m with msize := tv 4 p })
  | .version => (te p, tr p, { m with version := ts p })
  | .fid => ((rd 4 p).2, rd 4 p, { m with fid := tv 4 p })
  | .afid => ((rd 4 p).2, rd 4 p, { m with afid := tv 4 p })
  | .new => ((rd 4 p).2, rd 4 p, { m with new := tv 4 p })
  | .uname => (te p, tr p, { m with uname := ts p })
  | .aname => (te p, tr p, { m with aname := ts p })
  | .ename => (te p, tr p, { m with ename := ts p })
  | .old => ((rd 2 p).2, rd 2 p, { m with old := tv 2 p })
  | .names => (txE p, txR p, { m with names := txL p })
  | .qids => (qsE p, qsR p, { m with qids := qsL p })
  | .qid => ((qr p).2, qr p, { m with qid := qvR p })
  | .iounit => ((rd 4 p).2, rd 4 p, { m with iounit := tv 4 p })
  | .mode => ((rd 1 p).2, rd 1 p, { m with mode := tv 1 p })
  | .perm => ((rd 4 p).2, rd 4 p, { m with perm := tv 4 p })
  | .name => (te p, tr p, { m with name := ts p })
  | .offset => ((rd 8 p).2, rd 8 p, { m with offset := tv 8 p })
  | .count => ((rd 4 p).2, rd 4 p, { m with count := tv 4 p })
  | .data => (daE p, daR p, { m with data := daB p })
  | .stat => (stE p, stR p, { m with stat := decS (stB p) })
def ins : List Slot → List UInt8 × Nat → M → Nat × (List UInt8 × Nat) × M
  | [], p, m => (0, p, m)
  | s :: ss, p, m => if (s.i p m).1 ≠ 0 then s.i p m else ins ss (s.i p m).2.1 (s.i p m).2.2
theorem ins_ok {p : List UInt8 × Nat} {m : M} {s : Slot} {ss : List Slot} (h : (s.i p m).1 = 0) : ins (s :: ss) p m = ins ss (s.i p m).2.1 (s.i p m).2.2 := by
  simp only [ins]; rw [if_neg (by simpa using h)]
theorem ins_bad {p : List UInt8 × Nat} {m : M} {s : Slot} {ss : List Slot} (h : (s.i p m).1 ≠ 0) : ins (s :: ss) p m = s.i p m := by
  simp only [ins]; rw [if_pos h]

structure IA (B x : Nat) (X : Obj) (w0 w : World) (b q : Nat) (m : M) (p : List UInt8 × Nat) : Prop where
  inn : InAt w b p
  blk : w.heap[q]? = some (.cells (m.cells (.slice none 0 0) (.slice none 0 0) (.slice none 0 0)) 41 (0, 0))
  foot : ¬ Foot w b q
  nn : m.names = [] ∧ m.qids = [] ∧ m.data = []
  len : p.1.length ≤ 1000000000
  le : B ≤ b ∧ B ≤ q
  below : Below B w0 w
  box : w.heap[x]? = some X
  xf : ¬ Foot w b x
  xq : x ≠ q
def IE (B x : Nat) (X : Obj) (w0 w : World) (b q : Nat) (m : M) (p : List UInt8 × Nat) : Prop :=
  ∃ vN vQ vD, InAt w b p ∧ w.heap[q]? = some (.cells (m.cells vN vQ vD) 41 (0, 0)) ∧ (StrsAt w vN m.names ∧ ∀ k, vN.ownBlock = some k → B ≤ k) ∧ (QidsAt w vQ m.qids ∧ ∀ k, vQ.ownBlock = some k → B ≤ k) ∧ (BytesAt w vD m.data ∧ ∀ k, vD.ownBlock = some k → B ≤ k) ∧ p.1.length ≤ 1000000000 ∧ Below B w0 w ∧ w.heap[x]? = some X

theorem IA.done {B x : Nat} {X : Obj} {w0 w : World} {b q : Nat} {m : M} {p : List UInt8 × Nat} (h : IA B x X w0 w b q m p) : IE B x X w0 w b q m p := by
  obtain ⟨n1, n2, n3⟩ := h.nn
  refine ⟨_, _, _, h.inn, h.blk, ⟨?_, fun k hk => by cases hk⟩, ⟨?_, fun k hk => by cases hk⟩, ⟨?_, fun k hk => by cases hk⟩, h.len, h.below, h.box⟩
  · rw [n1]; exact RowAt.nil
  · rw [n2]; exact RowAt.nil
  · rw [n3]; exact RowAt.nil
theorem IA.drew {B x : Nat} {X : Obj} {w0 w : World} {b q : Nat} {m : M} {p : List UInt8 × Nat} (h : IA B x X w0 w b q m p) : IA B x X w0 w.drew b q m p :=
  ⟨h.inn.below (Below.refl _ _).drew, h.blk, h.foot, h.nn, h.len, h.le, h.below.drew, h.box, h.xf, h.xq⟩
theorem IA.cell {B x : Nat} {X : Obj} {w0 w : World} {b q : Nat} {m : M} {p : List UInt8 × Nat} (h : IA B x X w0 w b q m p) (i : Nat) : w.cell? ⟨q, i, none⟩ = (m.cells (.slice none 0 0) (.slice none 0 0) (.slice none 0 0))[i]? := block_cell h.blk i
theorem IA.free {B x : Nat} {X : Obj} {w0 w : World} {b q : Nat} {m : M} {p : List UInt8 × Nat} (h : IA B x X w0 w b q m p) (i : Nat) : w.frozen? ⟨q, i, none⟩ = false := block_free h.blk i
theorem IA.step {B x : Nat} {X : Obj} {w0 w w2 : World} {b q : Nat} {m : M} {p p2 : List UInt8 × Nat} (h : IA B x X w0 w b q m p) (hi : InAt w2 b p2) (hs : OStep b w w2) (hl : p2.1.length ≤ p.1.length) : IA B x X w0 w2 b q m p2 :=
  have hq := hs.block q (lt_of_block h.blk) h.foot
  have hx := hs.block x (lt_of_block h.box) h.xf
  ⟨hi, hq.1.trans h.blk, hq.2, h.nn, Nat.le_trans hl h.len, h.le, h.below.trans (hs.below.mono h.le.1), hx.1.trans h.box, hx.2, h.xq⟩
theorem IA.set {B x : Nat} {X : Obj} {w0 w : World} {b q : Nat} {m m2 : M} {p : List UInt8 × Nat} (h : IA B x X w0 w b q m p) (i : Nat) (u : Value)
    (hc : (m.cells (.slice none 0 0) (.slice none 0 0) (.slice none 0 0)).setIfInBounds i u = m2.cells (.slice none 0 0) (.slice none 0 0) (.slice none 0 0)) (hn : m2.names = m.names ∧ m2.qids = m.qids ∧ m2.data = m.data) : IA B x X w0 (w.setCell ⟨q, i, none⟩ u) b q m2 p :=
  ⟨h.inn.store (a := ⟨q, i, none⟩) u h.foot, by rw [block_set h.blk i u, hc], Foot.store (p := ⟨q, i, none⟩) (fun e => h.foot (.inl e)) h.foot, by rw [hn.1, hn.2.1, hn.2.2]; exact h.nn, h.len, h.le, h.below.setCell h.le.2 _, (block_set_other h.xq).trans h.box, Foot.store (p := ⟨q, i, none⟩) (fun e => h.foot (.inl e)) h.xf, h.xq⟩

def IGood (B x : Nat) (X : Obj) (w0 : World) (b q : Nat) (r : Nat × (List UInt8 × Nat) × M) (e : Ending) (w' : World) : Prop := e = .returned (.tuple #[]) ∧ IA B x X w0 w' b q r.2.2 r.2.1
def ILast (B x : Nat) (X : Obj) (w0 : World) (b q : Nat) (r : Nat × (List UInt8 × Nat) × M) (e : Ending) (w' : World) : Prop := e = .returned (.tuple #[]) ∧ IE B x X w0 w' b q r.2.2 r.2.1
def IBad (B : Nat) (w0 : World) (e : Ending) (w' : World) : Prop := (∃ err, err ≠ 0 ∧ e = .panicked (errChain err)) ∧ Below B w0 w'

theorem qsR_le : ∀ (n : Nat) (p : List UInt8 × Nat), (qidsIn n p).2.1.1.length ≤ p.1.length
  | 0, _ => Nat.le_refl _
  | n + 1, p => by
    simp only [qidsIn]
    split
    · exact qr_le p
    · exact Nat.le_trans (qsR_le n (qr p)) (qr_le p)
theorem txR_le : ∀ (n : Nat) (p : List UInt8 × Nat), (textsIn n p).2.1.1.length ≤ p.1.length
  | 0, _ => Nat.le_refl _
  | n + 1, p => by
    simp only [textsIn]
    split
    · exact tr_le p
    · exact Nat.le_trans (txR_le n (tr p)) (tr_le p)
theorem i_msize (B x : Nat) (X : Obj) (b q : Nat) (m : M) (p : List UInt8 × Nat) (w0 w : World) (hA : IA B x X w0 w b q m p) (he : (Slot.i p m .msize).1 = 0) :
    Calls Tryz.prog 154 #[.agg #[.pointer (some ⟨b, 0, none⟩)], .pointer (some ⟨q, 2, none⟩)] w (IGood B x X w0 b q (Slot.i p m .msize)) := by
  refine (in_u32_ok b q 2 _ p w hA.len hA.inn he hA.foot (hA.cell 2) (hA.free 2)).mono ?_
  rintro e w2 ⟨rfl, w1, hs1, ha1, rfl⟩
  exact ⟨rfl, (hA.step ha1 hs1 (rd_le _ p)).set 2 _ rfl ⟨rfl, rfl, rfl⟩⟩
theorem i_msize_bad (B x : Nat) (X : Obj) (b q : Nat) (m : M) (p : List UInt8 × Nat) (w0 w : World) (hA : IA B x X w0 w b q m p) (he : (Slot.i p m .msize).1 ≠ 0) :
    Calls Tryz.prog 154 #[.agg #[.pointer (some ⟨b, 0, none⟩)], .pointer (some ⟨q, 2, none⟩)] w (IBad B w0) := by
  refine (in_u32_bad b q 2 p w hA.len hA.inn he).mono ?_
  rintro e w2 ⟨rfl, hs1⟩
  exact ⟨⟨_, he, rfl⟩, hA.below.trans (hs1.below.mono hA.le.1)⟩
theorem i_version (B x : Nat) (X : Obj) (b q : Nat) (m : M) (p : List UInt8 × Nat) (w0 w : World) (hA : IA B x X w0 w b q m p) (he : (Slot.i p m .version).1 = 0) :
    Calls Tryz.prog 152 #[.agg #[.pointer (some ⟨b, 0, none⟩)], .pointer (some ⟨q, 3, none⟩)] w (IGood B x X w0 b q (Slot.i p m .version)) := by
  refine (in_text_ok b q 3 _ p w hA.len hA.inn he hA.foot (hA.cell 3) (hA.free 3)).mono ?_
  rintro e w2 ⟨rfl, w1, hs1, ha1, rfl⟩
  exact ⟨rfl, (hA.step ha1 hs1 (tr_le p)).set 3 _ rfl ⟨rfl, rfl, rfl⟩⟩
theorem i_version_bad (B x : Nat) (X : Obj) (b q : Nat) (m : M) (p : List UInt8 × Nat) (w0 w : World) (hA : IA B x X w0 w b q m p) (he : (Slot.i p m .version).1 ≠ 0) :
    Calls Tryz.prog 152 #[.agg #[.pointer (some ⟨b, 0, none⟩)], .pointer (some ⟨q, 3, none⟩)] w (IBad B w0) := by
  refine (in_text_bad b q 3 p w hA.len hA.inn he).mono ?_
  rintro e w2 ⟨rfl, hs1⟩
  exact ⟨⟨_, he, rfl⟩, hA.below.trans (hs1.below.mono hA.le.1)⟩
theorem i_fid (B x : Nat) (X : Obj) (b q : Nat) (m : M) (p : List UInt8 × Nat) (w0 w : World) (hA : IA B x X w0 w b q m p) (he : (Slot.i p m .fid).1 = 0) :
    Calls Tryz.prog 154 #[.agg #[.pointer (some ⟨b, 0, none⟩)], .pointer (some ⟨q, 4, none⟩)] w (IGood B x X w0 b q (Slot.i p m .fid)) := by
  refine (in_u32_ok b q 4 _ p w hA.len hA.inn he hA.foot (hA.cell 4) (hA.free 4)).mono ?_
  rintro e w2 ⟨rfl, w1, hs1, ha1, rfl⟩
  exact ⟨rfl, (hA.step ha1 hs1 (rd_le _ p)).set 4 _ rfl ⟨rfl, rfl, rfl⟩⟩
theorem i_fid_bad (B x : Nat) (X : Obj) (b q : Nat) (m : M) (p : List UInt8 × Nat) (w0 w : World) (hA : IA B x X w0 w b q m p) (he : (Slot.i p m .fid).1 ≠ 0) :
    Calls Tryz.prog 154 #[.agg #[.pointer (some ⟨b, 0, none⟩)], .pointer (some ⟨q, 4, none⟩)] w (IBad B w0) := by
  refine (in_u32_bad b q 4 p w hA.len hA.inn he).mono ?_
  rintro e w2 ⟨rfl, hs1⟩
  exact ⟨⟨_, he, rfl⟩, hA.below.trans (hs1.below.mono hA.le.1)⟩
theorem i_afid (B x : Nat) (X : Obj) (b q : Nat) (m : M) (p : List UInt8 × Nat) (w0 w : World) (hA : IA B x X w0 w b q m p) (he : (Slot.i p m .afid).1 = 0) :
    Calls Tryz.prog 154 #[.agg #[.pointer (some ⟨b, 0, none⟩)], .pointer (some ⟨q, 5, none⟩)] w (IGood B x X w0 b q (Slot.i p m .afid)) := by
  refine (in_u32_ok b q 5 _ p w hA.len hA.inn he hA.foot (hA.cell 5) (hA.free 5)).mono ?_
  rintro e w2 ⟨rfl, w1, hs1, ha1, rfl⟩
  exact ⟨rfl, (hA.step ha1 hs1 (rd_le _ p)).set 5 _ rfl ⟨rfl, rfl, rfl⟩⟩
theorem i_afid_bad (B x : Nat) (X : Obj) (b q : Nat) (m : M) (p : List UInt8 × Nat) (w0 w : World) (hA : IA B x X w0 w b q m p) (he : (Slot.i p m .afid).1 ≠ 0) :
    Calls Tryz.prog 154 #[.agg #[.pointer (some ⟨b, 0, none⟩)], .pointer (some ⟨q, 5, none⟩)] w (IBad B w0) := by
  refine (in_u32_bad b q 5 p w hA.len hA.inn he).mono ?_
  rintro e w2 ⟨rfl, hs1⟩
  exact ⟨⟨_, he, rfl⟩, hA.below.trans (hs1.below.mono hA.le.1)⟩
theorem i_new (B x : Nat) (X : Obj) (b q : Nat) (m : M) (p : List UInt8 × Nat) (w0 w : World) (hA : IA B x X w0 w b q m p) (he : (Slot.i p m .new).1 = 0) :
    Calls Tryz.prog 154 #[.agg #[.pointer (some ⟨b, 0, none⟩)], .pointer (some ⟨q, 6, none⟩)] w (IGood B x X w0 b q (Slot.i p m .new)) := by
  refine (in_u32_ok b q 6 _ p w hA.len hA.inn he hA.foot (hA.cell 6) (hA.free 6)).mono ?_
  rintro e w2 ⟨rfl, w1, hs1, ha1, rfl⟩
  exact ⟨rfl, (hA.step ha1 hs1 (rd_le _ p)).set 6 _ rfl ⟨rfl, rfl, rfl⟩⟩
theorem i_new_bad (B x : Nat) (X : Obj) (b q : Nat) (m : M) (p : List UInt8 × Nat) (w0 w : World) (hA : IA B x X w0 w b q m p) (he : (Slot.i p m .new).1 ≠ 0) :
    Calls Tryz.prog 154 #[.agg #[.pointer (some ⟨b, 0, none⟩)], .pointer (some ⟨q, 6, none⟩)] w (IBad B w0) := by
  refine (in_u32_bad b q 6 p w hA.len hA.inn he).mono ?_
  rintro e w2 ⟨rfl, hs1⟩
  exact ⟨⟨_, he, rfl⟩, hA.below.trans (hs1.below.mono hA.le.1)⟩
theorem i_uname (B x : Nat) (X : Obj) (b q : Nat) (m : M) (p : List UInt8 × Nat) (w0 w : World) (hA : IA B x X w0 w b q m p) (he : (Slot.i p m .uname).1 = 0) :
    Calls Tryz.prog 152 #[.agg #[.pointer (some ⟨b, 0, none⟩)], .pointer (some ⟨q, 7, none⟩)] w (IGood B x X w0 b q (Slot.i p m .uname)) := by
  refine (in_text_ok b q 7 _ p w hA.len hA.inn he hA.foot (hA.cell 7) (hA.free 7)).mono ?_
  rintro e w2 ⟨rfl, w1, hs1, ha1, rfl⟩
  exact ⟨rfl, (hA.step ha1 hs1 (tr_le p)).set 7 _ rfl ⟨rfl, rfl, rfl⟩⟩
theorem i_uname_bad (B x : Nat) (X : Obj) (b q : Nat) (m : M) (p : List UInt8 × Nat) (w0 w : World) (hA : IA B x X w0 w b q m p) (he : (Slot.i p m .uname).1 ≠ 0) :
    Calls Tryz.prog 152 #[.agg #[.pointer (some ⟨b, 0, none⟩)], .pointer (some ⟨q, 7, none⟩)] w (IBad B w0) := by
  refine (in_text_bad b q 7 p w hA.len hA.inn he).mono ?_
  rintro e w2 ⟨rfl, hs1⟩
  exact ⟨⟨_, he, rfl⟩, hA.below.trans (hs1.below.mono hA.le.1)⟩
theorem i_aname (B x : Nat) (X : Obj) (b q : Nat) (m : M) (p : List UInt8 × Nat) (w0 w : World) (hA : IA B x X w0 w b q m p) (he : (Slot.i p m .aname).1 = 0) :
    Calls Tryz.prog 152 #[.agg #[.pointer (some ⟨b, 0, none⟩)], .pointer (some ⟨q, 8, none⟩)] w (IGood B x X w0 b q (Slot.i p m .aname)) := by
  refine (in_text_ok b q 8 _ p w hA.len hA.inn he hA.foot (hA.cell 8) (hA.free 8)).mono ?_
  rintro e w2 ⟨rfl, w1, hs1, ha1, rfl⟩
  exact ⟨rfl, (hA.step ha1 hs1 (tr_le p)).set 8 _ rfl ⟨rfl, rfl, rfl⟩⟩
theorem i_aname_bad (B x : Nat) (X : Obj) (b q : Nat) (m : M) (p : List UInt8 × Nat) (w0 w : World) (hA : IA B x X w0 w b q m p) (he : (Slot.i p m .aname).1 ≠ 0) :
    Calls Tryz.prog 152 #[.agg #[.pointer (some ⟨b, 0, none⟩)], .pointer (some ⟨q, 8, none⟩)] w (IBad B w0) := by
  refine (in_text_bad b q 8 p w hA.len hA.inn he).mono ?_
  rintro e w2 ⟨rfl, hs1⟩
  exact ⟨⟨_, he, rfl⟩, hA.below.trans (hs1.below.mono hA.le.1)⟩
theorem i_ename (B x : Nat) (X : Obj) (b q : Nat) (m : M) (p : List UInt8 × Nat) (w0 w : World) (hA : IA B x X w0 w b q m p) (he : (Slot.i p m .ename).1 = 0) :
    Calls Tryz.prog 152 #[.agg #[.pointer (some ⟨b, 0, none⟩)], .pointer (some ⟨q, 9, none⟩)] w (IGood B x X w0 b q (Slot.i p m .ename)) := by
  refine (in_text_ok b q 9 _ p w hA.len hA.inn he hA.foot (hA.cell 9) (hA.free 9)).mono ?_
  rintro e w2 ⟨rfl, w1, hs1, ha1, rfl⟩
  exact ⟨rfl, (hA.step ha1 hs1 (tr_le p)).set 9 _ rfl ⟨rfl, rfl, rfl⟩⟩
theorem i_ename_bad (B x : Nat) (X : Obj) (b q : Nat) (m : M) (p : List UInt8 × Nat) (w0 w : World) (hA : IA B x X w0 w b q m p) (he : (Slot.i p m .ename).1 ≠ 0) :
    Calls Tryz.prog 152 #[.agg #[.pointer (some ⟨b, 0, none⟩)], .pointer (some ⟨q, 9, none⟩)] w (IBad B w0) := by
  refine (in_text_bad b q 9 p w hA.len hA.inn he).mono ?_
  rintro e w2 ⟨rfl, hs1⟩
  exact ⟨⟨_, he, rfl⟩, hA.below.trans (hs1.below.mono hA.le.1)⟩
theorem i_old (B x : Nat) (X : Obj) (b q : Nat) (m : M) (p : List UInt8 × Nat) (w0 w : World) (hA : IA B x X w0 w b q m p) (he : (Slot.i p m .old).1 = 0) :
    Calls Tryz.prog 83 #[.agg #[.pointer (some ⟨b, 0, none⟩)], .pointer (some ⟨q, 10, none⟩)] w (IGood B x X w0 b q (Slot.i p m .old)) := by
  refine (in_u16_ok b q 10 _ p w hA.len hA.inn he hA.foot (hA.cell 10) (hA.free 10)).mono ?_
  rintro e w2 ⟨rfl, w1, hs1, ha1, rfl⟩
  exact ⟨rfl, (hA.step ha1 hs1 (rd_le _ p)).set 10 _ rfl ⟨rfl, rfl, rfl⟩⟩
theorem i_old_bad (B x : Nat) (X : Obj) (b q : Nat) (m : M) (p : List UInt8 × Nat) (w0 w : World) (hA : IA B x X w0 w b q m p) (he : (Slot.i p m .old).1 ≠ 0) :
    Calls Tryz.prog 83 #[.agg #[.pointer (some ⟨b, 0, none⟩)], .pointer (some ⟨q, 10, none⟩)] w (IBad B w0) := by
  refine (in_u16_bad b q 10 p w hA.len hA.inn he).mono ?_
  rintro e w2 ⟨rfl, hs1⟩
  exact ⟨⟨_, he, rfl⟩, hA.below.trans (hs1.below.mono hA.le.1)⟩
theorem i_names (B x : Nat) (X : Obj) (b q : Nat) (m : M) (p : List UInt8 × Nat) (w0 w : World) (hA : IA B x X w0 w b q m p) (he : (Slot.i p m .names).1 = 0) :
    Calls Tryz.prog 153 #[.agg #[.pointer (some ⟨b, 0, none⟩)], .pointer (some ⟨q, 11, none⟩)] w (ILast B x X w0 b q (Slot.i p m .names)) := by
  refine (in_texts_any b q 11 p _ w hA.len hA.inn hA.foot hA.blk rfl).mono ?_
  rintro e w2 (⟨_, rfl, v, hi, hb, hf, hr, hnew, hbl, hkp⟩ | ⟨h0, _⟩)
  case inr => exact absurd he h0
  obtain ⟨n1, n2, n3⟩ := hA.nn
  have hlt := lt_of_block hA.blk
  refine ⟨rfl, v, _, _, hi, hb, ⟨hr, fun k hk => ?_⟩, ⟨?_, fun k hk => by cases hk⟩, ⟨?_, fun k hk => by cases hk⟩, Nat.le_trans (Nat.le_trans (txR_le _ _) (rd_le 2 p)) hA.len, hA.below.trans (hbl B hA.le.1 hA.le.2), (hkp x (lt_of_block hA.box) hA.xq hA.xf).1.trans hA.box⟩
  · have := hnew k hk; have := hA.le; omega
  · show QidsAt _ _ m.qids; rw [n2]; exact RowAt.nil
  · show BytesAt _ _ m.data; rw [n3]; exact RowAt.nil
theorem i_names_bad (B x : Nat) (X : Obj) (b q : Nat) (m : M) (p : List UInt8 × Nat) (w0 w : World) (hA : IA B x X w0 w b q m p) (he : (Slot.i p m .names).1 ≠ 0) :
    Calls Tryz.prog 153 #[.agg #[.pointer (some ⟨b, 0, none⟩)], .pointer (some ⟨q, 11, none⟩)] w (IBad B w0) := by
  refine (in_texts_any b q 11 p _ w hA.len hA.inn hA.foot hA.blk rfl).mono ?_
  rintro e w2 (⟨h0, _⟩ | ⟨_, h1, hbl⟩)
  · exact absurd h0 he
  · exact ⟨h1, hA.below.trans (hbl B hA.le.1 hA.le.2)⟩
theorem i_qids (B x : Nat) (X : Obj) (b q : Nat) (m : M) (p : List UInt8 × Nat) (w0 w : World) (hA : IA B x X w0 w b q m p) (he : (Slot.i p m .qids).1 = 0) :
    Calls Tryz.prog 150 #[.agg #[.pointer (some ⟨b, 0, none⟩)], .pointer (some ⟨q, 12, none⟩)] w (ILast B x X w0 b q (Slot.i p m .qids)) := by
  refine (in_qids_any b q 12 p _ w hA.len hA.inn hA.foot hA.blk rfl).mono ?_
  rintro e w2 (⟨_, rfl, v, hi, hb, hf, hr, hnew, hbl, hkp⟩ | ⟨h0, _⟩)
  case inr => exact absurd he h0
  obtain ⟨n1, n2, n3⟩ := hA.nn
  have hlt := lt_of_block hA.blk
  refine ⟨rfl, _, v, _, hi, hb, ⟨?_, fun k hk => by cases hk⟩, ⟨hr, fun k hk => ?_⟩, ⟨?_, fun k hk => by cases hk⟩, Nat.le_trans (Nat.le_trans (qsR_le _ _) (rd_le 2 p)) hA.len, hA.below.trans (hbl B hA.le.1 hA.le.2), (hkp x (lt_of_block hA.box) hA.xq hA.xf).1.trans hA.box⟩
  · show StrsAt _ _ m.names; rw [n1]; exact RowAt.nil
  · have := hnew k hk; have := hA.le; omega
  · show BytesAt _ _ m.data; rw [n3]; exact RowAt.nil
theorem i_qids_bad (B x : Nat) (X : Obj) (b q : Nat) (m : M) (p : List UInt8 × Nat) (w0 w : World) (hA : IA B x X w0 w b q m p) (he : (Slot.i p m .qids).1 ≠ 0) :
    Calls Tryz.prog 150 #[.agg #[.pointer (some ⟨b, 0, none⟩)], .pointer (some ⟨q, 12, none⟩)] w (IBad B w0) := by
  refine (in_qids_any b q 12 p _ w hA.len hA.inn hA.foot hA.blk rfl).mono ?_
  rintro e w2 (⟨h0, _⟩ | ⟨_, h1, hbl⟩)
  · exact absurd h0 he
  · exact ⟨h1, hA.below.trans (hbl B hA.le.1 hA.le.2)⟩
theorem i_qid (B x : Nat) (X : Obj) (b q : Nat) (m : M) (p : List UInt8 × Nat) (w0 w : World) (hA : IA B x X w0 w b q m p) (he : (Slot.i p m .qid).1 = 0) :
    Calls Tryz.prog 149 #[.agg #[.pointer (some ⟨b, 0, none⟩)], .pointer (some ⟨q, 13, none⟩)] w (IGood B x X w0 b q (Slot.i p m .qid)) := by
  refine (in_qid_ok b q 13 _ _ _ p w hA.len hA.inn he hA.foot (hA.cell 13) (hA.cell 14) (hA.cell 15) (hA.free 13) (hA.free 14) (hA.free 15)).mono ?_
  rintro e w2 ⟨rfl, w1, hs1, ha1, rfl⟩
  exact ⟨rfl, (((hA.step ha1 hs1 (qr_le p)).set (m2 := { m with qid := ⟨qvT p, m.qid.v, m.qid.p⟩ }) 13 _ rfl ⟨rfl, rfl, rfl⟩).set (m2 := { m with qid := ⟨qvT p, qvV p, m.qid.p⟩ }) 14 _ rfl ⟨rfl, rfl, rfl⟩).set 15 _ rfl ⟨rfl, rfl, rfl⟩⟩
theorem i_qid_bad (B x : Nat) (X : Obj) (b q : Nat) (m : M) (p : List UInt8 × Nat) (w0 w : World) (hA : IA B x X w0 w b q m p) (he : (Slot.i p m .qid).1 ≠ 0) :
    Calls Tryz.prog 149 #[.agg #[.pointer (some ⟨b, 0, none⟩)], .pointer (some ⟨q, 13, none⟩)] w (IBad B w0) := by
  refine (in_qid_bad b q 13 _ _ _ p w hA.len hA.inn he hA.foot (hA.cell 13) (hA.cell 14) (hA.cell 15) (hA.free 13) (hA.free 14) (hA.free 15)).mono ?_
  rintro e w2 ⟨rfl, hb⟩
  exact ⟨⟨_, he, rfl⟩, hA.below.trans (hb B hA.le.1 hA.le.2)⟩
theorem i_iounit (B x : Nat) (X : Obj) (b q : Nat) (m : M) (p : List UInt8 × Nat) (w0 w : World) (hA : IA B x X w0 w b q m p) (he : (Slot.i p m .iounit).1 = 0) :
    Calls Tryz.prog 154 #[.agg #[.pointer (some ⟨b, 0, none⟩)], .pointer (some ⟨q, 16, none⟩)] w (IGood B x X w0 b q (Slot.i p m .iounit)) := by
  refine (in_u32_ok b q 16 _ p w hA.len hA.inn he hA.foot (hA.cell 16) (hA.free 16)).mono ?_
  rintro e w2 ⟨rfl, w1, hs1, ha1, rfl⟩
  exact ⟨rfl, (hA.step ha1 hs1 (rd_le _ p)).set 16 _ rfl ⟨rfl, rfl, rfl⟩⟩
theorem i_iounit_bad (B x : Nat) (X : Obj) (b q : Nat) (m : M) (p : List UInt8 × Nat) (w0 w : World) (hA : IA B x X w0 w b q m p) (he : (Slot.i p m .iounit).1 ≠ 0) :
    Calls Tryz.prog 154 #[.agg #[.pointer (some ⟨b, 0, none⟩)], .pointer (some ⟨q, 16, none⟩)] w (IBad B w0) := by
  refine (in_u32_bad b q 16 p w hA.len hA.inn he).mono ?_
  rintro e w2 ⟨rfl, hs1⟩
  exact ⟨⟨_, he, rfl⟩, hA.below.trans (hs1.below.mono hA.le.1)⟩
theorem i_mode (B x : Nat) (X : Obj) (b q : Nat) (m : M) (p : List UInt8 × Nat) (w0 w : World) (hA : IA B x X w0 w b q m p) (he : (Slot.i p m .mode).1 = 0) :
    Calls Tryz.prog 82 #[.agg #[.pointer (some ⟨b, 0, none⟩)], .pointer (some ⟨q, 17, none⟩)] w (IGood B x X w0 b q (Slot.i p m .mode)) := by
  refine (in_u8_ok b q 17 _ p w hA.len hA.inn he hA.foot (hA.cell 17) (hA.free 17)).mono ?_
  rintro e w2 ⟨rfl, w1, hs1, ha1, rfl⟩
  exact ⟨rfl, (hA.step ha1 hs1 (rd_le _ p)).set 17 _ rfl ⟨rfl, rfl, rfl⟩⟩
theorem i_mode_bad (B x : Nat) (X : Obj) (b q : Nat) (m : M) (p : List UInt8 × Nat) (w0 w : World) (hA : IA B x X w0 w b q m p) (he : (Slot.i p m .mode).1 ≠ 0) :
    Calls Tryz.prog 82 #[.agg #[.pointer (some ⟨b, 0, none⟩)], .pointer (some ⟨q, 17, none⟩)] w (IBad B w0) := by
  refine (in_u8_bad b q 17 p w hA.len hA.inn he).mono ?_
  rintro e w2 ⟨rfl, hs1⟩
  exact ⟨⟨_, he, rfl⟩, hA.below.trans (hs1.below.mono hA.le.1)⟩
theorem i_perm (B x : Nat) (X : Obj) (b q : Nat) (m : M) (p : List UInt8 × Nat) (w0 w : World) (hA : IA B x X w0 w b q m p) (he : (Slot.i p m .perm).1 = 0) :
    Calls Tryz.prog 154 #[.agg #[.pointer (some ⟨b, 0, none⟩)], .pointer (some ⟨q, 18, none⟩)] w (IGood B x X w0 b q (Slot.i p m .perm)) := by
  refine (in_u32_ok b q 18 _ p w hA.len hA.inn he hA.foot (hA.cell 18) (hA.free 18)).mono ?_
  rintro e w2 ⟨rfl, w1, hs1, ha1, rfl⟩
  exact ⟨rfl, (hA.step ha1 hs1 (rd_le _ p)).set 18 _ rfl ⟨rfl, rfl, rfl⟩⟩
theorem i_perm_bad (B x : Nat) (X : Obj) (b q : Nat) (m : M) (p : List UInt8 × Nat) (w0 w : World) (hA : IA B x X w0 w b q m p) (he : (Slot.i p m .perm).1 ≠ 0) :
    Calls Tryz.prog 154 #[.agg #[.pointer (some ⟨b, 0, none⟩)], .pointer (some ⟨q, 18, none⟩)] w (IBad B w0) := by
  refine (in_u32_bad b q 18 p w hA.len hA.inn he).mono ?_
  rintro e w2 ⟨rfl, hs1⟩
  exact ⟨⟨_, he, rfl⟩, hA.below.trans (hs1.below.mono hA.le.1)⟩
theorem i_name (B x : Nat) (X : Obj) (b q : Nat) (m : M) (p : List UInt8 × Nat) (w0 w : World) (hA : IA B x X w0 w b q m p) (he : (Slot.i p m .name).1 = 0) :
    Calls Tryz.prog 152 #[.agg #[.pointer (some ⟨b, 0, none⟩)], .pointer (some ⟨q, 19, none⟩)] w (IGood B x X w0 b q (Slot.i p m .name)) := by
  refine (in_text_ok b q 19 _ p w hA.len hA.inn he hA.foot (hA.cell 19) (hA.free 19)).mono ?_
  rintro e w2 ⟨rfl, w1, hs1, ha1, rfl⟩
  exact ⟨rfl, (hA.step ha1 hs1 (tr_le p)).set 19 _ rfl ⟨rfl, rfl, rfl⟩⟩
theorem i_name_bad (B x : Nat) (X : Obj) (b q : Nat) (m : M) (p : List UInt8 × Nat) (w0 w : World) (hA : IA B x X w0 w b q m p) (he : (Slot.i p m .name).1 ≠ 0) :
    Calls Tryz.prog 152 #[.agg #[.pointer (some ⟨b, 0, none⟩)], .pointer (some ⟨q, 19, none⟩)] w (IBad B w0) := by
  refine (in_text_bad b q 19 p w hA.len hA.inn he).mono ?_
  rintro e w2 ⟨rfl, hs1⟩
  exact ⟨⟨_, he, rfl⟩, hA.below.trans (hs1.below.mono hA.le.1)⟩
theorem i_offset (B x : Nat) (X : Obj) (b q : Nat) (m : M) (p : List UInt8 × Nat) (w0 w : World) (hA : IA B x X w0 w b q m p) (he : (Slot.i p m .offset).1 = 0) :
    Calls Tryz.prog 155 #[.agg #[.pointer (some ⟨b, 0, none⟩)], .pointer (some ⟨q, 20, none⟩)] w (IGood B x X w0 b q (Slot.i p m .offset)) := by
  refine (in_u64_ok b q 20 _ p w hA.len hA.inn he hA.foot (hA.cell 20) (hA.free 20)).mono ?_
  rintro e w2 ⟨rfl, w1, hs1, ha1, rfl⟩
  exact ⟨rfl, (hA.step ha1 hs1 (rd_le _ p)).set 20 _ rfl ⟨rfl, rfl, rfl⟩⟩
theorem i_offset_bad (B x : Nat) (X : Obj) (b q : Nat) (m : M) (p : List UInt8 × Nat) (w0 w : World) (hA : IA B x X w0 w b q m p) (he : (Slot.i p m .offset).1 ≠ 0) :
    Calls Tryz.prog 155 #[.agg #[.pointer (some ⟨b, 0, none⟩)], .pointer (some ⟨q, 20, none⟩)] w (IBad B w0) := by
  refine (in_u64_bad b q 20 p w hA.len hA.inn he).mono ?_
  rintro e w2 ⟨rfl, hs1⟩
  exact ⟨⟨_, he, rfl⟩, hA.below.trans (hs1.below.mono hA.le.1)⟩
theorem i_count (B x : Nat) (X : Obj) (b q : Nat) (m : M) (p : List UInt8 × Nat) (w0 w : World) (hA : IA B x X w0 w b q m p) (he : (Slot.i p m .count).1 = 0) :
    Calls Tryz.prog 154 #[.agg #[.pointer (some ⟨b, 0, none⟩)], .pointer (some ⟨q, 21, none⟩)] w (IGood B x X w0 b q (Slot.i p m .count)) := by
  refine (in_u32_ok b q 21 _ p w hA.len hA.inn he hA.foot (hA.cell 21) (hA.free 21)).mono ?_
  rintro e w2 ⟨rfl, w1, hs1, ha1, rfl⟩
  exact ⟨rfl, (hA.step ha1 hs1 (rd_le _ p)).set 21 _ rfl ⟨rfl, rfl, rfl⟩⟩
theorem i_count_bad (B x : Nat) (X : Obj) (b q : Nat) (m : M) (p : List UInt8 × Nat) (w0 w : World) (hA : IA B x X w0 w b q m p) (he : (Slot.i p m .count).1 ≠ 0) :
    Calls Tryz.prog 154 #[.agg #[.pointer (some ⟨b, 0, none⟩)], .pointer (some ⟨q, 21, none⟩)] w (IBad B w0) := by
  refine (in_u32_bad b q 21 p w hA.len hA.inn he).mono ?_
  rintro e w2 ⟨rfl, hs1⟩
  exact ⟨⟨_, he, rfl⟩, hA.below.trans (hs1.below.mono hA.le.1)⟩
theorem i_data (B x : Nat) (X : Obj) (b q : Nat) (m : M) (p : List UInt8 × Nat) (w0 w : World) (hA : IA B x X w0 w b q m p) (he : (Slot.i p m .data).1 = 0) :
    Calls Tryz.prog 148 #[.agg #[.pointer (some ⟨b, 0, none⟩)], .pointer (some ⟨q, 22, none⟩)] w (ILast B x X w0 b q (Slot.i p m .data)) := by
  refine (in_data_ok b q 22 _ p w hA.len hA.inn he hA.foot (hA.cell 22) (hA.free 22)).mono ?_
  rintro e w2 ⟨rfl, v, w1, hs1, ha1, hv, hnew, rfl⟩
  obtain ⟨n1, n2, n3⟩ := hA.nn
  have h1 := hA.step ha1 hs1 (Nat.le_trans (rd_le _ _) (rd_le _ _))
  have hlt := lt_of_block hA.blk
  refine ⟨rfl, _, _, v, h1.inn.store (a := ⟨q, 22, none⟩) _ h1.foot, block_set h1.blk 22 _, ⟨?_, fun k hk => by cases hk⟩, ⟨?_, fun k hk => by cases hk⟩, ⟨hv.setCell _ (fun e => ?_), fun k hk => ?_⟩, h1.len, h1.below.setCell h1.le.2 _, (block_set_other h1.xq).trans h1.box⟩
  · show StrsAt _ _ m.names; rw [n1]; exact RowAt.nil
  · show QidsAt _ _ m.qids; rw [n2]; exact RowAt.nil
  · have h9 : w.heap.size ≤ q := hnew _ e; omega
  · have := hnew k hk; have := hA.le; omega
theorem i_data_bad (B x : Nat) (X : Obj) (b q : Nat) (m : M) (p : List UInt8 × Nat) (w0 w : World) (hA : IA B x X w0 w b q m p) (he : (Slot.i p m .data).1 ≠ 0) :
    Calls Tryz.prog 148 #[.agg #[.pointer (some ⟨b, 0, none⟩)], .pointer (some ⟨q, 22, none⟩)] w (IBad B w0) := by
  refine (in_data_bad b q 22 _ p w hA.len hA.inn he hA.foot (hA.cell 22) (hA.free 22)).mono ?_
  rintro e w2 ⟨h1, hb⟩
  exact ⟨h1, hA.below.trans (hb B hA.le.1 hA.le.2)⟩
theorem i_stat (B x : Nat) (X : Obj) (b q : Nat) (m : M) (p : List UInt8 × Nat) (w0 w : World) (hA : IA B x X w0 w b q m p) (he : (Slot.i p m .stat).1 = 0) :
    Calls Tryz.prog 151 #[.agg #[.pointer (some ⟨b, 0, none⟩)], .pointer (some ⟨q, 23, none⟩)] w (IGood B x X w0 b q (Slot.i p m .stat)) := by
  refine (in_stat_ok b q 23 p _ w hA.len hA.inn he hA.foot hA.blk (by show 23 + 13 ≤ 36; omega)).mono ?_
  rintro e w2 ⟨rfl, w1, o, hs1, ha1, rfl⟩
  have h1 := hA.step ha1 hs1 (Nat.le_trans (rd_le _ _) (rd_le _ _))
  have h2 : IA B x X w0 (put13 w1 q 23 (decS (stB p))) b q { m with stat := decS (stB p) } (stR p) := by
    generalize decS (stB p) = s
    have e1 : put13 w1 q 23 s = put w1 q 23 [.int .u16 (s.kind : Int), .int .u32 (s.dev : Int), .int .u8 (s.qt : Int), .int .u32 (s.qv : Int), .int .u64 (s.qp : Int), .int .u32 (s.mode : Int), .int .u32 (s.atm : Int), .int .u32 (s.mtm : Int), .int .u64 (s.len : Int), .string s.name, .string s.uid, .string s.gid, .string s.muid] := rfl
    rw [e1]
    exact ⟨put_in _ _ _ h1.foot h1.inn, put_block _ 23 _ _ h1.blk rfl, put_foot (fun e => h1.foot (.inl e)) _ _ _ h1.foot, h1.nn, h1.len, h1.le, put_below h1.le.2 _ _ _ _ h1.below, (put_other h1.xq _ _ _).trans h1.box, put_foot (fun e => h1.foot (.inl e)) _ _ _ h1.xf, h1.xq⟩
  have hb := (Below.refl _ (put13 w1 q 23 (decS (stB p)))).alloc (Nat.le_refl _) o
  exact ⟨rfl, h2.step (h2.inn.below hb) (OStep.pure h2.inn.lt hb) (Nat.le_refl _)⟩
theorem i_stat_bad (B x : Nat) (X : Obj) (b q : Nat) (m : M) (p : List UInt8 × Nat) (w0 w : World) (hA : IA B x X w0 w b q m p) (he : (Slot.i p m .stat).1 ≠ 0) :
    Calls Tryz.prog 151 #[.agg #[.pointer (some ⟨b, 0, none⟩)], .pointer (some ⟨q, 23, none⟩)] w (IBad B w0) := by
  refine (in_stat_bad b q 23 p _ w hA.len hA.inn he hA.foot hA.blk (by show 23 + 13 ≤ 36; omega)).mono ?_
  rintro e w2 ⟨h1, hs⟩
  exact ⟨h1, hA.below.trans (hs.below.mono hA.le.1)⟩

def IDo (B x : Nat) (X : Obj) (w0 : World) (b q : Nat) (r : Nat × (List UInt8 × Nat) × M) (e : Ending) (w' : World) : Prop :=
  (r.1 = 0 ∧ ILast B x X w0 b q r e w') ∨ (r.1 ≠ 0 ∧ IBad B w0 e w')
theorem IDo_nil {B x : Nat} {X : Obj} {w0 w' : World} {b q : Nat} {m : M} {p : List UInt8 × Nat} {e : Ending} (h : e = .returned (.tuple #[])) (h2 : IA B x X w0 w' b q m p) : IDo B x X w0 b q (ins [] p m) e w' := .inl ⟨rfl, h, h2.done⟩
theorem IDo_last {B x : Nat} {X : Obj} {w0 w' : World} {b q : Nat} {m : M} {p : List UInt8 × Nat} {s : Slot} {e : Ending} (he : (s.i p m).1 = 0) (h : ILast B x X w0 b q (s.i p m) e w') : IDo B x X w0 b q (ins [s] p m) e w' := by
  rw [ins_ok he]; exact .inl ⟨rfl, h⟩
theorem IDo_cons {B x : Nat} {X : Obj} {w0 w' : World} {b q : Nat} {m : M} {p : List UInt8 × Nat} {s : Slot} {ss : List Slot} {e : Ending} (he : (s.i p m).1 = 0) (h : IDo B x X w0 b q (ins ss (s.i p m).2.1 (s.i p m).2.2) e w') : IDo B x X w0 b q (ins (s :: ss) p m) e w' := by
  rw [ins_ok he]; exact h
theorem IDo_bad {B x : Nat} {X : Obj} {w0 w' : World} {b q : Nat} {m : M} {p : List UInt8 × Nat} {s : Slot} {ss : List Slot} {e : Ending} (he : (s.i p m).1 ≠ 0) (h : IBad B w0 e w') : IDo B x X w0 b q (ins (s :: ss) p m) e w' := by
  rw [ins_bad he]; exact .inr ⟨he, h⟩
end
end Go.Proofs.YtcbglcebdkpcfaaGreat
