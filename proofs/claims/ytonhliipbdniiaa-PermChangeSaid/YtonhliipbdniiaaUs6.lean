/- A group is put into the table, where that is allowed. Conditions: as the document allows it. -/
import Derived.Test.YtonhliipbdniiaaUs5
namespace Go.Proofs.Ytonhliipbdniiaa
open Go.RowKit
set_option maxRecDepth 100000
set_option linter.unusedVariables false

theorem MemAt.keep {w w' : World} {v : Value} {l : List ByteArray} (h : MemAt w v l) (hk : ∀ (b : Nat) (cs : Array Value), w.heap[b]? = some (Obj.cells cs 9 (0, 0)) → w'.heap[b]? = w.heap[b]?) (hz : w.heap.size ≤ w'.heap.size) : MemAt w' v l := by
  obtain ⟨⟨hl, a, c, hv, h1, h2, h3, h4⟩, hb⟩ := h
  refine ⟨⟨hl, a, c, hv, h1, h2, h3, fun i u hu => ?_⟩, fun ad n c' hv' => ?_⟩
  · obtain ⟨b, o, ha, hc⟩ := h4 i u hu
    subst ha
    obtain ⟨cs, hcs⟩ := hb _ _ _ hv
    exact ⟨b, o, rfl, by simpa [World.cell?, hk b cs hcs] using hc⟩
  · obtain ⟨cs, hcs⟩ := hb _ _ _ hv'
    exact ⟨cs, (hk _ _ hcs).trans hcs⟩

/-- The table while groups are put. -/
def GAtV (w : World) (p : Nat) (uv gv : Value) (us : List ByteArray) (gs : List Grp) : Prop :=
  w.heap[p]? = some (.cells #[uv, gv] 114 (0, 0)) ∧ MemAt w uv us ∧ w.ownsRow (p + 1) 78 2 gv gs.length (gs.flatMap Grp.cells) ∧ ∀ g ∈ gs, MemAt w g.mv g.mem
def GAt (w : World) (p : Nat) (us : List ByteArray) (gs : List Grp) : Prop := ∃ uv gv, GAtV w p uv gv us gs
theorem GAt.tab {w : World} {p : Nat} {us : List ByteArray} {gs : List Grp} (h : GAt w p us gs) : TabAt w p us gs := by
  obtain ⟨uv, gv, h1, h2, h3, h4⟩ := h
  exact ⟨uv, gv, h1, h2.1, (RowAt.of_own h3).weak, fun g hg => (h4 g hg).1⟩
theorem GAtV.below {w w' : World} {p : Nat} {uv gv : Value} {us : List ByteArray} {gs : List Grp} (h : GAtV w p uv gv us gs) (hb : Below w.heap.size w w') : GAtV w' p uv gv us gs := by
  obtain ⟨h1, h2, h3, h4⟩ := h
  have hk : ∀ (b : Nat) (cs : Array Value), w.heap[b]? = some (Obj.cells cs 9 (0, 0)) → w'.heap[b]? = w.heap[b]? := fun b cs h => hb.block b (lt_of_block h)
  exact ⟨(hb.block p (lt_of_block h1)).trans h1, h2.keep hk hb.size, own_keep h3 (fun j hj => hb.block j (h3.lt j hj).2), fun g hg => (h4 g hg).keep hk hb.size⟩

theorem group1_any (x : Grp) (bx : Nat) (nm : ByteArray) (v : Value) (w : World) (h1 : w.heap[bx]? = some (.cells #[.string nm, v] 78 (0, 0))) :
    Calls Try.prog 90 #[.agg #[.string x.name, x.mv], .pointer (some ⟨bx, 0, none⟩)] w fun e w' => e = .returned (.bool (decide (x.name = nm))) ∧ Below w.heap.size w w' := by
  have hb0 := (Below.refl w.heap.size w).alloc (Nat.le_refl _) (.cells #[.string x.name, x.mv] 78)
  have c1 : (w.alloc (.cells #[.string x.name, x.mv] 78)).cell? ⟨bx, 0, none⟩ = some (.string nm) := block_cell ((hb0.block bx (lt_of_block h1)).trans h1) 0
  have hq := hid (str_beq x.name nm)
  replace hb0 := hid hb0
  replace h1 := hid h1
  by_cases hn : x.name = nm
  · have hq2 : (x.name.toList == nm.toList) = true := by rw [hq.out]; exact decide_eq_true hn
    have hr := hid (decide_eq_true hn)
    clear hn
    go_enter Try.func90, Try.ntmps90
    go_wp2_with fail
    go_ret
    exact ⟨ret_bool (by rw [hr.out]), hb0.out⟩
  · have hq2 : (x.name.toList == nm.toList) = false := by rw [hq.out]; exact decide_eq_false hn
    have hr := hid (decide_eq_false hn)
    clear hn
    go_enter Try.func90, Try.ntmps90
    go_wp2_with fail
    go_ret
    exact ⟨ret_bool (by rw [hr.out]), hb0.out⟩

/-- May a group be put behind others? -/
structure GOk (us : List ByteArray) (gs : List Grp) (g : Grp) : Prop where
  name : calledB g.name = true
  new : gs.any (fun x => decide (x.name = g.name)) = false
  mems : ∀ k (h : k < g.mem.length), k < g.mem.length → hasS us g.mem[k] = true ∧ hasS (g.mem.take k) g.mem[k] = false

theorem infoGrp : (Try.prog.info? 78).map (fun i => (i.zero, i.size, i.bytes)) = some (some (.agg #[.string ⟨#[]⟩, .slice none 0 0]), 2, 40) := by kernel_rfl
theorem elemGrp : ElemOk Try.prog 23 78 2 40 := elemOk_of Try.underlying23 infoGrp rfl (by decide)

/-- The world in which a new group has been laid, ahead of the append. -/
structure GMid (wD wA : World) (p s : Nat) (uv gv : Value) (us : List ByteArray) (gs : List Grp) (nm : ByteArray) (v : Value) (mem : List ByteArray) : Prop where
  blk : wA.heap[p]? = some (.cells #[uv, gv] 114 (0, 0))
  users : MemAt wA uv us
  own : wA.ownsRow (p + 1) 78 2 gv gs.length (gs.flatMap Grp.cells)
  mems : ∀ g ∈ gs, MemAt wA g.mv g.mem
  new : MemAt wA v mem
  src : RowAt wA 2 (.slice (some ⟨s, 0, none⟩) 1 1) 1 [.string nm, v]
  below : Below p wD wA
theorem grp_mid {w0 wD wm : World} {p : Nat} {uv gv v : Value} {us : List ByteArray} {gs : List Grp} {nm : ByteArray} {mem : List ByteArray}
    (q1 : wD.heap[p]? = some (.cells #[uv, gv] 114 (0, 0))) (q2 : MemAt wD uv us) (q3 : wD.ownsRow (p + 1) 78 2 gv gs.length (gs.flatMap Grp.cells)) (q4 : ∀ g ∈ gs, MemAt wD g.mv g.mem)
    (hbm : Below wD.heap.size wD wm) (hv : MemAt wm v mem) (hB : Below p w0 wD) : GMid w0 (wm.alloc (.cells #[.string nm, v] 78)) p wm.heap.size uv gv us gs nm v mem := by
  have hA := (Below.refl wm.heap.size wm).alloc (Nat.le_refl _) (.cells #[.string nm, v] 78)
  have hbA : Below wD.heap.size wD (wm.alloc (.cells #[.string nm, v] 78)) := hbm.trans (hA.mono hbm.size)
  have hk : ∀ (b : Nat) (cs : Array Value), wD.heap[b]? = some (Obj.cells cs 9 (0, 0)) → (wm.alloc (.cells #[.string nm, v] 78)).heap[b]? = wD.heap[b]? := fun b cs h => hbA.block b (lt_of_block h)
  exact ⟨(hbA.block p (lt_of_block q1)).trans q1, q2.keep hk hbA.size, own_keep q3 (fun j hj => hbA.block j (q3.lt j hj).2), fun g hg => (q4 g hg).keep hk hbA.size,
    hv.keep (fun b cs h => hA.block b (lt_of_block h)) hA.size, RowAt.of_block (n := 1) (heap_alloc_new _ _) rfl (by unfold maxLen; omega), hB.trans (hbA.mono (Nat.le_of_lt (lt_of_block q1)))⟩
theorem grp_done {wD wA w' : World} {p s : Nat} {uv gv v : Value} {us : List ByteArray} {gs : List Grp} {nm : ByteArray} {mem : List ByteArray} {a' : Option Addr} {c' : Nat}
    (h : GMid wD wA p s uv gv us gs nm v mem) (h2 : w'.ownsRow (p + 1) 78 2 (.slice a' (gs.length + 1) c') (gs.length + 1) (gs.flatMap Grp.cells ++ [.string nm, v])) (h3 : wA.grownBy w' gv.ownBlock) :
    w'.cell? ⟨p, 1, none⟩ = some gv ∧ w'.frozen? ⟨p, 1, none⟩ = false ∧ GAt (w'.setCell ⟨p, 1, none⟩ (.slice a' (gs.length + 1) c')) p us (gs ++ [⟨nm, v, mem⟩]) ∧ Below p wD (w'.setCell ⟨p, 1, none⟩ (.slice a' (gs.length + 1) c')) := by
  have hpA := lt_of_block h.blk
  have hneq : some p ≠ gv.ownBlock := fun e => by have := (h.own.lt _ e.symm).1; omega
  have hb' := (h3.block p hpA hneq).trans h.blk
  have hset := block_set hb' 1 (.slice a' (gs.length + 1) c')
  have hk : ∀ (b : Nat) (cs : Array Value), wA.heap[b]? = some (Obj.cells cs 9 (0, 0)) → (w'.setCell ⟨p, 1, none⟩ (.slice a' (gs.length + 1) c')).heap[b]? = wA.heap[b]? := fun b cs hb => by
    have hbp : b ≠ p := fun e => by
      subst e
      rw [h.blk] at hb
      simp at hb
    have hbg : some b ≠ gv.ownBlock := fun e => by
      rcases h.own.2 with ⟨e1, e2⟩ | ⟨g, cap, cur, hv, hg1, hg2, r⟩
      · rw [e1] at e; cases e
      · rw [hv] at e
        cases e
        rw [hg2] at hb
        simp at hb
    exact (block_set_other (by show _ ≠ _; exact hbp)).trans (h3.block b (lt_of_block hb) hbg)
  have hz : wA.heap.size ≤ (w'.setCell ⟨p, 1, none⟩ (.slice a' (gs.length + 1) c')).heap.size := by have := h3.size; simpa [World.setCell] using this
  refine ⟨block_cell hb' 1, block_free hb' 1, ⟨uv, _, hset, h.users.keep hk hz, ?_, ?_⟩, (h.below.grown h3 (Nat.le_of_lt hpA) (fun j hj => by have := (h.own.lt j hj).1; omega)).setCell (Nat.le_refl _) _⟩
  · have := ownsRow_setCell_below h2 (a := ⟨p, 1, none⟩) (by show p < p + 1; omega) (.slice a' (gs.length + 1) c')
    rw [show (gs ++ [(⟨nm, v, mem⟩ : Grp)]).length = gs.length + 1 by simp, show (gs ++ [(⟨nm, v, mem⟩ : Grp)]).flatMap Grp.cells = gs.flatMap Grp.cells ++ [.string nm, v] by simp [Grp.cells]]
    exact this
  · intro x hx
    rcases List.mem_append.1 hx with hx | hx
    · exact (h.mems x hx).keep hk hz
    · simp only [List.mem_singleton] at hx
      subst hx
      exact h.new.keep hk hz

set_option maxHeartbeats 3200000 in
theorem tgroup_any (p : Nat) (us : List ByteArray) (gs : List Grp) (g : Grp) (w : World) (h : GAt w p us gs) (hm : TxtsAt w g.mv g.mem) (hlu : us.length ≤ 1000) (hlg : gs.length ≤ 1000) (hlm : g.mem.length ≤ 1000) (hs : g.name.size ≤ maxLen) (hok : GOk us gs g) :
    Calls Try.prog 65 #[.pointer (some ⟨p, 0, none⟩), .agg #[.string g.name, g.mv]] w fun e w' => e = .returned (.tuple #[]) ∧ (∃ v, GAt w' p us (gs ++ [⟨g.name, v, g.mem⟩])) ∧ Below p w w' := by
  obtain ⟨uv, gv, h⟩ := h
  have hpl : p < w.heap.size := lt_of_block h.1
  have hgl : Hid (∀ j, gv.ownBlock = some j → j < w.heap.size) := hid (fun j hj => (h.2.2.1.lt j hj).2)
  have hbW := (Below.refl w.heap.size w).alloc (Nat.le_refl _) (.cells #[.string g.name, g.mv] 78)
  obtain ⟨W, hW⟩ : ∃ W, W = w.alloc (.cells #[.string g.name, g.mv] 78) := ⟨_, rfl⟩
  have hx : W.heap[w.heap.size]? = some (.cells #[.string g.name, g.mv] 78 (0, 0)) := by rw [hW, heap_alloc_new]
  rw [← hW] at hbW
  have hW1 := h.below hbW
  have hmW := hid (hm.below hbW)
  have hname := hid (uname_any g.name W hs)
  rw [hok.name] at hname
  have hmf : ∀ (fn : Fn) (first cap : Array Value) (w : World), (Instr.makeFunc fn first cap).run Try.prog w = .ok (.func fn first cap) w := fun _ _ _ _ => rfl
  have d0 : W.cell? ⟨w.heap.size, 0, none⟩ = some (.string g.name) := block_cell hx 0
  have hBp : Hid (Below p w W) := hid (hbW.mono (Nat.le_of_lt hpl))
  obtain ⟨am, cm, hmv, gm1, gm2⟩ := hm.form
  unfold maxLen at gm2
  have hzW : w.heap.size < W.heap.size := lt_of_block hx
  replace hW1 := hid hW1
  replace hbW := hid hbW
  replace hx := hid hx
  replace hok := hid hok
  replace hmv := hid hmv
  replace hpl := hid hpl
  replace hzW := hid hzW
  clear h hm
  go_enter Try.func65, Try.ntmps65
  go_wp2_with (rw [← hW]; replace hW := hid hW)
  refine hname.out.mono ?_
  rintro e w1 ⟨rfl, hb1⟩
  have hW2 := hW1.out.below hb1
  have hm2 := hmW.out.below hb1
  have hx2 := (hb1.block _ hzW.out).trans hx.out
  have hBp2 := hid (hBp.out.trans (hb1.mono (Nat.le_of_lt (Nat.lt_trans hpl.out hzW.out))))
  have hm6 := hid (umust_ok 6 w1)
  obtain ⟨q1, q2, q3, q4⟩ := hW2
  have d1 : w1.cell? ⟨p, 1, none⟩ = some gv := block_cell q1 1
  have hcf := hid (cfunc_any gv gs 90 #[.pointer (some ⟨w.heap.size, 0, none⟩)] (fun x => decide (x.name = g.name)) w1 ⟨(RowAt.of_own q3).weak, fun g hg => (q4 g hg).1⟩ (by omega)
    (fun x hx w' hw => group1_any x w.heap.size g.name g.mv w' ((hw.block _ (lt_of_block hx2)).trans hx2)) enter_group1)
  rw [hok.out.new] at hcf
  have hW2 : Hid (GAtV w1 p uv gv us gs) := hid ⟨q1, q2, q3, q4⟩
  replace hm2 := hid hm2
  replace hx2 := hid hx2
  clear q1 q2 q3 q4 hb1 hmW hW1 hname
  go_wp2_with fail
  refine hm6.out.mono ?_
  rintro e w2 ⟨rfl, rfl⟩
  go_wp2_with fail
  refine hcf.out.mono ?_
  rintro e w3 ⟨rfl, hb3⟩
  have hm7 := hid (umust_ok 7 w3)
  have hW3 := hid (hW2.out.below hb3)
  have hm3 := hid (hm2.out.below hb3)
  have hx3 := hid ((hb3.block _ (lt_of_block hx2.out)).trans hx2.out)
  have hBp3 := hid (hBp2.out.trans (hb3.mono (Nat.le_of_lt (Nat.lt_of_lt_of_le (Nat.lt_trans hpl.out (lt_of_block hx2.out)) (Nat.le_refl _)))))
  have e0 : w3.cell? ⟨w.heap.size, 0, none⟩ = some (.string g.name) := block_cell hx3.out 0
  have e1 : w3.cell? ⟨w.heap.size, 1, none⟩ = some (.slice am g.mem.length cm) := by have := block_cell hx3.out 1; rw [this]; simp [hmv.out]
  rw [hmv.out] at hm3
  clear hb3 hcf hW2 hm2 hx2 hBp2 d1 d0 hm6 hmf
  go_wp2_with fail
  refine hm7.out.mono ?_
  rintro e w4 ⟨rfl, rfl⟩
  go_wp2_with fail
  go_loopw [21] (fun kv wr => ∃ k : Nat, k ≤ g.mem.length ∧ kv = .int .i64 (k : Int) ∧ wr = w4) (fun kv _ => g.mem.length - (intOf kv).toNat)
  case atStart => exact ⟨0, by omega, rfl, rfl⟩
  case round =>
    obtain ⟨k, hk, rfl, rfl⟩ := hrel
    by_cases hkl : k < g.mem.length
    · obtain ⟨b1, o1, ha1, hc1⟩ := TxtsAt.cell hm3.out k hkl
      subst ha1
      obtain ⟨t1, t2⟩ := hok.out.mems k hkl hkl
      have hhas := hid (has_any p us gs g.mem[k] wr (GAt.tab ⟨uv, gv, hW3.out⟩) (by omega))
      rw [t1] at hhas
      have hcon := hid (scontains_any (.slice (some ⟨b1, o1, none⟩) k cm) (g.mem.take k) g.mem[k] wr (hm3.out.take k cm (by omega) (by omega) (Nat.le_refl _)) (by rw [List.length_take]; omega))
      rw [t2] at hcon
      have n6 := hid (umust_ok 6 wr)
      have n7 := hid (umust_ok 7 wr)
      replace t1 := hid t1
      replace t2 := hid t2
      generalize hs1 : g.mem[k] = s1 at *
      replace hs1 := hid hs1
      go_wp2_with fail
      refine hhas.out.mono ?_
      rintro e w5 ⟨rfl, rfl⟩
      go_wp2_with fail
      refine n6.out.mono ?_
      rintro e w6 ⟨rfl, rfl⟩
      go_wp2_with fail
      refine hcon.out.mono ?_
      rintro e w7 ⟨rfl, rfl⟩
      go_wp2_with fail
      refine n7.out.mono ?_
      rintro e w8 ⟨rfl, rfl⟩
      go_wp2_with fail
      go_roundw
      case rel => exact ⟨k + 1, by omega, by go_num, by first | rfl | trivial⟩
      case measure => simp [intOf]; omega
    · obtain rfl : k = g.mem.length := by omega
      clear hok hm7 hW hbW hpl hzW hBp hx
      have hbd := (Below.refl wr.heap.size wr).drew
      have hG := hW3.out.below hbd
      have hM := hm3.out.below hbd
      have hBd := hBp3.out.drew
      obtain ⟨q1, q2, q3, q4⟩ := hG
      obtain ⟨ag, cg, rfl⟩ := own_form q3
      have s1 : wr.drew.cell? ⟨p, 1, none⟩ = some (.slice ag gs.length cg) := block_cell q1 1
      have s2 : wr.drew.cell? ⟨w.heap.size, 0, none⟩ = some (.string g.name) := e0
      have s3 : wr.drew.cell? ⟨w.heap.size, 1, none⟩ = some (.slice am g.mem.length cm) := e1
      replace q1 := hid q1
      replace q2 := hid q2
      replace q3 := hid q3
      replace q4 := hid q4
      replace hM := hid hM
      replace hBd := hid hBd
      have hx3' : Hid (wr.drew.heap[w.heap.size]? = some (.cells #[.string g.name, g.mv] 78 (0, 0))) := hx3
      clear hW3 hm3 hBp3
      go_wp2_with fail
      go_region_law (first | (refine step_append_row elemGrp _ rfl (.tmp 43) (.tmp 50) rfl (p + 1) (.slice ag gs.length cg) gs.length _ rfl hmid.out.own _ 1 [.string g.name, .slice a9 g.mem.length c9] rfl hmid.out.src (by intro u hu; simp at hu; rcases hu with rfl | rfl <;> rfl) (by unfold maxLen; omega) (by omega) (by have := lt_of_block hmid.out.blk; omega) ?_; intro a' c' w' h2 h3; obtain ⟨k2, k3, k4, k5⟩ := grp_done hmid.out h2 h3; replace k4 := hid k4; replace k5 := hid k5) | (go_simp; ((go_at_call 91); (with_reducible refine (sclone_any _ _ _ hM.out hlm).mono ?_); rintro e wm ⟨v', rfl, hv', hbm⟩; obtain ⟨a9, c9, rfl, g91, g92⟩ := hv'.1.form; have hmid := hid (grp_mid (nm := g.name) q1.out q2.out q3.out q4.out hbm hv' hBd.out); have k1 : (wm.alloc (.cells #[.string g.name, .slice a9 g.mem.length c9] 78)).cell? ⟨p, 1, none⟩ = some (.slice ag gs.length cg) := block_cell hmid.out.blk 1; replace s1 := (hbm.cell (p := ⟨p, 1, none⟩) (lt_of_block q1.out)).trans s1; replace s2 := (hbm.cell (p := ⟨w.heap.size, 0, none⟩) (lt_of_block hx3'.out)).trans s2; replace s3 := (hbm.cell (p := ⟨w.heap.size, 1, none⟩) (lt_of_block hx3'.out)).trans s3)))
      all_goals
        clear s1 s2 s3 k1 k2 k3 h2 h3 hbm hv' hmid q1 q2 q3 q4 hM hBd hx3' hx3 e0 e1 hbd
        go_wp2_with fail
        go_end0
        exact ⟨rfl, ⟨_, k4.out⟩, k5.out⟩
end Go.Proofs.Ytonhliipbdniiaa
