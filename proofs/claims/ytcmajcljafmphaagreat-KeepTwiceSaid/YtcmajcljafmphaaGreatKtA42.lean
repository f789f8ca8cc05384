/- The disk's Read, nothing pending. Conditions: in the statements. And the texts behind it. -/
import Derived.Test.YtcmajcljafmphaaGreatKtA41
import Derived.Test.YtcmajcljafmphaaGreatKtA39
import Derived.Test.YtcmajcljafmphaaGreatKtA40
namespace Go.Proofs.YtcmajcljafmphaaGreat
section
open Go.RowKit Go.Maps
set_option maxRecDepth 100000
set_option linter.unusedVariables false

theorem dresults_tc {P : Program} {fn : Func} {p q : Tmp} {ty2 : TypeId} (h : fn.results = #[.tmp p, .cell q ty2]) (tmps : Array Value) (w : World) (g2 : Nat) (v x : Value)
    (hp : tmps.getD p undef = v) (hq : tmps.getD q undef = .pointer (some ⟨g2, 0, none⟩)) (hx : (loadVar ty2 ⟨g2, 0, none⟩).run P w = .ok x w) :
    (results fn tmps).run P w = .ok (.tuple #[v, x]) w := by
  have hp' : tmps[p]?.getD undef = v := by simpa using hp
  have hq' : tmps[q]?.getD undef = .pointer (some ⟨g2, 0, none⟩) := by simpa using hq
  simp [results, h, hp', hq', asAddr, hx]
theorem DSt.sector {w : World} {zs : List Nat} {d g m cap : Nat} {us : List Value} {ps : List (Nat × Value)} {bv : Value} {s : DskV} (h : DSt w zs d g m cap us ps bv s) (i : Nat) (hi : i < s.kept.length) :
    ∃ a c, w.cell? ⟨g, i, none⟩ = some (.slice a s.kept[i].length c) ∧ BytesAt w (.slice a s.kept[i].length c) s.kept[i] := by
  have hb := h.kept i hi
  obtain ⟨a, c, e, _, _, _⟩ := hb.form
  have hr := RowAt.of_own h.own
  obtain ⟨hl, a2, c2, e2, _, _, _, _, h5⟩ := hr
  cases e2
  have hiu : i < us.length := by rw [h.klen]; exact hi
  obtain ⟨b, o, e3, hc⟩ := h5 i (us[i]) (List.getElem?_eq_getElem hiu)
  cases e3
  have eu : us.getD i undef = us[i] := by rw [List.getD_eq_getElem?_getD, List.getElem?_eq_getElem hiu]; rfl
  rw [eu] at hb e
  rw [Nat.zero_add] at hc
  rw [e] at hb hc
  exact ⟨a, c, hc, hb⟩
def DReadP (w : World) (l : List UInt8) (e : Ending) (w' : World) : Prop := ∃ v, e = .returned (.tuple #[v, .int .i64 0]) ∧ BytesAt w' v l ∧ (∀ j, v.ownBlock = some j → w.heap.size ≤ j) ∧ Below w.heap.size w w'
set_option maxHeartbeats 1600000 in
theorem dread_any {w : World} {zs : List Nat} {d g m cap : Nat} {us : List Value} {bv : Value} {s : DskV} (h : DSt w zs d g m cap us [] bv s) (hoff : s.off = false) (i : Nat) (hi : i < s.kept.length) (hk : s.kept.length ≤ 100000) (hlen : s.kept[i].length ≤ 100000) :
    Calls Tryz.prog 32 #[.pointer (some ⟨d, 0, none⟩), .int .i64 (i : Int)] w (DReadP w s.kept[i]) := by
  obtain ⟨W, hW⟩ : ∃ W, W = w.alloc (.cells #[.int .i64 0] 24) := ⟨_, rfl⟩
  have hb0 : Below w.heap.size w W := by rw [hW]; exact (Below.refl _ _).alloc (Nat.le_refl _) _
  have hK0 := hid (show W.heap[w.heap.size]? = some (.cells #[.int .i64 0] 24 (0, 0)) by rw [hW]; exact heap_alloc_new _ _)
  have hWs : W.heap.size = w.heap.size + 1 := by rw [hW]; simp
  have hD0 := hid (h.below hb0)
  have hon := hid (don_ok d W (by have := block_cell hD0.out.blk 3; simpa [dCells, hoff] using this))
  have hinn := hid (din_any d g cap s.kept.length (i : Int) W (block_cell hD0.out.blk 1))
  have k1 : (decide (0 ≤ (i : Int)) && decide ((i : Int) < (s.kept.length : Int))) = true := by simp; omega
  have hrow := hid (drow_any d m [] W (block_cell hD0.out.blk 2) hD0.out.map)
  obtain ⟨a, c, hcell, hby⟩ := hD0.out.sector i hi
  have e1 : W.cell? ⟨d, 1, none⟩ = some (.slice (some ⟨g, 0, none⟩) s.kept.length cap) := block_cell hD0.out.blk 1
  have hiz : (i : Int) < (s.kept.length : Int) := by omega
  obtain ⟨_, _, e, hc1, hc2, _⟩ := hby.form
  cases e
  replace hby := hid hby
  replace hWs := hid hWs
  replace hb0 := hid hb0
  replace hoff := hid hoff
  clear h
  generalize s.kept[i] = l at *
  generalize s.kept.length = n at *
  go_enter_defers Tryz.func32, Tryz.ntmps32
  go_wp2_with (rw [← hW]; replace hW := hid hW)
  try (rw [← hW]; replace hW := hid hW)
  refine hon.out.mono ?_
  rintro e w1 ⟨rfl, hw1⟩
  rw [hw1]; clear hw1
  clear hon
  go_wp2_with (go_at_call 63; refine hinn.out.mono ?_; rintro e w1 ⟨rfl, hw1⟩; rw [hw1]; clear hw1; rw [k1])
  try (refine hrow.out.mono ?_)
  rintro e w2 ⟨v2, rfl, hv2, hb2, hn2⟩
  obtain ⟨a2, c2, e2, hm2⟩ : ∃ a2 c2, v2 = .slice a2 0 c2 ∧ c2 ≤ maxLen := by obtain ⟨_, a2, c2, e2, _, hm2, _⟩ := hv2; exact ⟨a2, c2, e2, hm2⟩
  subst e2
  unfold maxLen at hm2
  clear hrow
  have hcl := hid (clone_new _ l w2 (RowAt.below hby.out hb2) (by omega))
  replace hb2 := hid hb2
  replace hn2 := hid hn2
  go_wp2_with fail
  go_loopw [6, 25] (fun v s wr => v = .slice a l.length c ∧ s = .int .i64 0 ∧ wr = w2) (fun _ _ _ => 0)
  case atStart => exact ⟨rfl, rfl, rfl⟩
  case round =>
    obtain ⟨rfl, rfl, rfl⟩ := hrel
    go_wp2_with (first
      | (go_at_call 45; refine hcl.out.mono ?_; rintro e w3 ⟨v3, rfl, hv3, hb3⟩; obtain ⟨a3, c3, rfl, hc31, hc32, _⟩ := hv3.1.form; have hcp := hid (clip_at a3 l.length c3 w3 hc31 hc32); have hK3 := (hb3.block w.heap.size (by have := hb2.out.size; have := hWs.out; omega)).trans ((hb2.out.block _ (by have := hWs.out; omega)).trans hK0.out); have c0 := block_cell hK3 0; have f0 := block_free hK3 0; replace hK3 := hid hK3; replace hv3 := hid hv3; replace hb3 := hid hb3)
      | (go_at_call 65; refine hcp.out.mono ?_; rintro e w4 ⟨rfl, hw4⟩; rw [← hw4]; clear hw4))
    have hB := hb0.out.trans ((hb2.out.trans (hb3.out.mono hb2.out.size)).mono (by have := hWs.out; omega))
    refine dend_ok (by simp [go_sem]) ⟨_, dresults_tc rfl _ _ w.heap.size _ _ rfl rfl (drld_errno (block_cell (block_set hK3.out 0 _) 0)), _, rfl, ?_⟩
    have hz : w3.heap.size ≤ (w3.setCell ⟨w.heap.size, 0, none⟩ (.int .i64 0)).heap.size := by simp [World.setCell]
    have hk := hv3.out.2
    have hne : ∀ j, (Value.slice a3 l.length l.length).ownBlock = some j → w.heap.size < j := fun j hj => by have := hk j (by rw [← hj]; exact ownBlock_same); have := hb2.out.size; have := hWs.out; omega
    have hv4 := hv3.out.1.take l.length l.length (Nat.le_refl _) (Nat.le_refl _) (by omega)
    rw [List.take_length] at hv4
    exact ⟨RowAt.other hv4 hz (fun j hj => block_set_other (by have := hne j hj; show j ≠ w.heap.size; omega)), fun j hj => Nat.le_of_lt (hne j hj), hB.setCell (p := ⟨w.heap.size, 0, none⟩) (Nat.le_refl _) _⟩
end
end Go.Proofs.YtcmajcljafmphaaGreat

namespace Go.Proofs.YtcmajcljafmphaaGreat
section
open Go.RowKit Go.Maps
set_option maxRecDepth 100000
set_option linter.unusedVariables false

def Dk (base : Nat) (zs : List Nat) (d : Nat) (s : DskV) (w : World) : Prop := ∃ g m cap us ps bv, base ≤ d ∧ base ≤ g ∧ base ≤ m ∧ DSt w zs d g m cap us ps bv s
structure Fr (base : Nat) (zs : List Nat) (w w' : World) : Prop where
  below : Below base w w'
  keep : ∀ z ∈ zs, w'.heap[z]? = w.heap[z]?
theorem Fr.refl (base : Nat) (zs : List Nat) (w : World) : Fr base zs w w := ⟨Below.refl _ _, fun _ _ => rfl⟩
theorem Fr.trans {base : Nat} {zs : List Nat} {a b c : World} (h : Fr base zs a b) (k : Fr base zs b c) : Fr base zs a c := ⟨h.below.trans k.below, fun z hz => (k.keep z hz).trans (h.keep z hz)⟩
theorem Fr.sub {base : Nat} {zs zs' : List Nat} {a b : World} (h : Fr base zs a b) (hs : ∀ z ∈ zs', z ∈ zs) : Fr base zs' a b := ⟨h.below, fun z hz => h.keep z (hs z hz)⟩
theorem Fr.pure {base : Nat} {zs : List Nat} {w w' : World} (h : Below w.heap.size w w') (hb : base ≤ w.heap.size) (hz : ∀ z ∈ zs, z < w.heap.size) : Fr base zs w w' := ⟨h.mono hb, fun z hm => h.block z (hz z hm)⟩
theorem Dk.base {base : Nat} {zs : List Nat} {d : Nat} {s : DskV} {w : World} (h : Dk base zs d s w) : base ≤ d ∧ d < w.heap.size := by
  obtain ⟨g, m, cap, us, ps, bv, h1, h2, h3, h4⟩ := h
  exact ⟨h1, lt_of_block h4.blk⟩
theorem Dk.zlt {base : Nat} {zs : List Nat} {d : Nat} {s : DskV} {w : World} (h : Dk base zs d s w) : ∀ z ∈ zs, z < w.heap.size := by
  obtain ⟨g, m, cap, us, ps, bv, h1, h2, h3, h4⟩ := h
  exact fun z hz => (h4.far z hz).2.2.2
theorem Dk.fr {base : Nat} {zs : List Nat} {d : Nat} {s : DskV} {w w' : World} (h : Dk base zs d s w) (hb : Below w.heap.size w w') : Fr base zs w w' :=
  Fr.pure hb (by have := h.base; omega) h.zlt
theorem Dk.pure {base : Nat} {zs : List Nat} {d : Nat} {s : DskV} {w w' : World} (h : Dk base zs d s w) (hb : Below w.heap.size w w') : Dk base zs d s w' := by
  obtain ⟨g, m, cap, us, ps, bv, h1, h2, h3, h4⟩ := h
  exact ⟨g, m, cap, us, ps, bv, h1, h2, h3, h4.below hb⟩
theorem Dk.new {base : Nat} {zs : List Nat} {d z : Nat} {s : DskV} {w w' : World} (h : Dk base zs d s w) (hb : Below w.heap.size w w') (hz : w.heap.size ≤ z) (hz2 : z < w'.heap.size) : Dk base (z :: zs) d s w' := by
  obtain ⟨g, m, cap, us, ps, bv, h1, h2, h3, h4⟩ := h
  exact ⟨g, m, cap, us, ps, bv, h1, h2, h3, h4.new hb hz hz2⟩
theorem Dk.drop {base : Nat} {zs : List Nat} {d z : Nat} {s : DskV} {w : World} (h : Dk base (z :: zs) d s w) : Dk base zs d s w := by
  obtain ⟨g, m, cap, us, ps, bv, h1, h2, h3, h4⟩ := h
  exact ⟨g, m, cap, us, ps, bv, h1, h2, h3, h4.drop⟩
theorem Dk.others {base : Nat} {zs : List Nat} {d : Nat} {s : DskV} {w w' : World} (h : Dk base zs d s w) (hs : w.heap.size ≤ w'.heap.size) (hk : ∀ j, j < w.heap.size → j ∉ zs → w'.heap[j]? = w.heap[j]?) : Dk base zs d s w' := by
  obtain ⟨g, m, cap, us, ps, bv, h1, h2, h3, h4⟩ := h
  exact ⟨g, m, cap, us, ps, bv, h1, h2, h3, h4.others hs hk⟩
theorem Dk.back {base : Nat} {zs : List Nat} {d g m cap : Nat} {us : List Value} {ps : List (Nat × Value)} {bv : Value} {s s' : DskV} {w w' : World} (h1 : base ≤ d) (h2 : base ≤ g) (h3 : base ≤ m) (h : DSt w zs d g m cap us ps bv s) (hb : DBack w zs d g m cap s' w') : Dk base zs d s' w' ∧ Fr base zs w w' := by
  obtain ⟨us', m', ps', bv', hm, hD, hS⟩ := hb
  have hd := lt_of_block h.blk
  exact ⟨⟨g, m', cap, us', ps', bv', h1, h2, by omega, hD⟩, hS.below base h1 h2 h3 (by omega), fun z hz => hS.block z (h.far z hz).2.2.2 (h.far z hz).1 (h.far z hz).2.1 (h.far z hz).2.2.1⟩
def Dk2 (base : Nat) (zs : List Nat) (d : Nat) (s : DskV) (w w' : World) : Prop := Dk base zs d s w' ∧ Fr base zs w w'
def DkE (base : Nat) (zs : List Nat) (d : Nat) (s : DskV) (E : Nat) (w : World) (e : Ending) (w' : World) : Prop := e = .returned (.int .i64 (E : Int)) ∧ Dk2 base zs d s w w'
structure DOk (s : DskV) : Prop where
  size : s.size = 256
  least : 512 ≤ s.kept.length
  most : s.kept.length ≤ 100000
  len : ∀ l ∈ s.kept, l.length = 256
  writes : s.writes ≤ 100000000
  armed : s.armed = true → 1 ≤ s.left ∧ s.left ≤ 1000000
  pin : ∀ x ∈ s.pend, 1 ≤ x.1 ∧ x.1 < s.kept.length ∧ x.2.length = 256
  plen : s.pend.length ≤ 1000
def DskV.write (s : DskV) (i : Nat) (l : List UInt8) : DskV × Nat := if s.armed = true ∧ s.left = 1 then (DskV.cut { s with left := 0 } s.keep, 22) else (s.tick.wrote i l, 0)
theorem kwrite_any {base : Nat} {zs : List Nat} {d : Nat} {s : DskV} {w : World} (h : Dk base zs d s w) (hok : DOk s) (hoff : s.off = false) (i : Nat) (hi : i < s.kept.length) (v : Value) (l : List UInt8) (hv : BytesAt w v l) (hvd : v.ownBlock ≠ some d) (hl : l.length = 256) :
    Calls Tryz.prog 56 #[.pointer (some ⟨d, 0, none⟩), .int .i64 (i : Int), v] w (DkE base zs d (s.write i l).1 (s.write i l).2 w) := by
  obtain ⟨g, m, cap, us, ps, bv, h1, h2, h3, h4⟩ := h
  unfold DskV.write
  have hsz : l.length = s.size := by rw [hok.size]; exact hl
  by_cases hc : s.armed = true ∧ s.left = 1
  · rw [if_pos hc]
    refine (dwrite_cut h4 hoff hc.1 hc.2 i hi v l hv hsz (by rw [hok.size]; decide) hok.most (by have := hok.plen; omega) (by have := hok.writes; omega) (fun x hx => (hok.pin x hx).2.1)).mono ?_
    rintro e w' ⟨rfl, hb⟩
    exact ⟨rfl, Dk.back h1 h2 h3 h4 hb⟩
  · rw [if_neg hc]
    refine (dwrite_go h4 hoff (fun ha => by have := hok.armed ha; have : s.left ≠ 1 := fun e => hc ⟨ha, e⟩; omega) i hi v l hv hvd hsz (by rw [hok.size]; decide) hok.most (by have := hok.plen; omega) (by have := hok.writes; omega)).mono ?_
    rintro e w' ⟨rfl, hb⟩
    exact ⟨rfl, Dk.back h1 h2 h3 h4 hb⟩
theorem ksync_any {base : Nat} {zs : List Nat} {d : Nat} {s : DskV} {w : World} (h : Dk base zs d s w) (hin : ∀ x ∈ s.pend, x.1 < s.kept.length) (hoff : s.off = false) :
    Calls Tryz.prog 58 #[.pointer (some ⟨d, 0, none⟩)] w (DkE base zs d (s.settled fun _ => true) 0 w) := by
  obtain ⟨g, m, cap, us, ps, bv, h1, h2, h3, h4⟩ := h
  refine (dsync_ok h4 hoff hin).mono ?_
  rintro e w' ⟨rfl, hb⟩
  exact ⟨rfl, Dk.back h1 h2 h3 h4 hb⟩
theorem kcut_any {base : Nat} {zs : List Nat} {d : Nat} {s : DskV} {w : World} (h : Dk base zs d s w) (hok : DOk s) (v : Value) (kl : List Bool) (hv : RowAt w 1 v kl.length (kl.map .bool)) (hf : ∀ j, v.ownBlock = some j → j ∈ zs ∨ j < base) :
    Calls Tryz.prog 21 #[.pointer (some ⟨d, 0, none⟩), v] w fun e w' => e = .returned (.tuple #[]) ∧ Dk2 base zs d (s.cut kl) w w' := by
  obtain ⟨g, m, cap, us, ps, bv, h1, h2, h3, h4⟩ := h
  refine (dcut_any h4 (fun x hx => (hok.pin x hx).2.1) v kl hv (fun j hj hm => ?_)).mono ?_
  · rcases hf j hj with hz | hz
    · have := h4.far j hz
      simp only [List.mem_cons, List.not_mem_nil, or_false] at hm
      omega
    · simp only [List.mem_cons, List.not_mem_nil, or_false] at hm
      omega
  · rintro e w' ⟨rfl, hb⟩
    exact ⟨rfl, Dk.back h1 h2 h3 h4 hb⟩
theorem kon_any {base : Nat} {zs : List Nat} {d : Nat} {s : DskV} {w : World} (h : Dk base zs d s w) : Calls Tryz.prog 22 #[.pointer (some ⟨d, 0, none⟩)] w fun e w' => e = .returned (.tuple #[]) ∧ Dk2 base zs d { s with off := false } w w' := by
  obtain ⟨g, m, cap, us, ps, bv, h1, h2, h3, h4⟩ := h
  refine (don_any h4).mono ?_
  rintro e w' ⟨rfl, hb⟩
  exact ⟨rfl, Dk.back h1 h2 h3 h4 hb⟩
theorem koff_any {base : Nat} {zs : List Nat} {d : Nat} {s : DskV} {w : World} (h : Dk base zs d s w) : Calls Tryz.prog 20 #[.pointer (some ⟨d, 0, none⟩)] w fun e w' => e = .returned (.bool s.off) ∧ w' = w := by
  obtain ⟨g, m, cap, us, ps, bv, h1, h2, h3, h4⟩ := h
  exact doff_any d s.off w (block_cell h4.blk 3)
theorem kread_any {base : Nat} {zs : List Nat} {d : Nat} {s : DskV} {w : World} (h : Dk base zs d s w) (hok : DOk s) (hp : s.pend = []) (hoff : s.off = false) (i : Nat) (hi : i < s.kept.length) :
    Calls Tryz.prog 32 #[.pointer (some ⟨d, 0, none⟩), .int .i64 (i : Int)] w (DReadP w s.kept[i]) := by
  obtain ⟨g, m, cap, us, ps, bv, h1, h2, h3, h4⟩ := h
  obtain rfl : ps = [] := List.eq_nil_of_length_eq_zero (by rw [h4.plen, hp]; rfl)
  exact dread_any h4 hoff i hi hok.most (by rw [hok.len _ (List.getElem_mem hi)]; decide)
theorem kright2_any {base : Nat} {zs : List Nat} {d : Nat} {s : DskV} {w : World} (h : Dk base zs d s w) : Calls Tryz.prog 28 #[.pointer (some ⟨d, 0, none⟩)] w fun e w' => e = .returned (.bool (krightB s)) ∧ w' = w.drew := by
  obtain ⟨g, m, cap, us, ps, bv, h1, h2, h3, h4⟩ := h
  exact kright_any h4
end
end Go.Proofs.YtcmajcljafmphaaGreat

namespace Go.Proofs.YtcmajcljafmphaaGreat
section
open Go.RowKit Go.Maps
set_option maxRecDepth 100000
set_option linter.unusedVariables false

theorem sectL_len (l : List UInt8) (h : l.length ≤ 256) : (sectL l).length = 256 := by unfold sectL; simp; omega
theorem settleK_zero {kept : List (List UInt8)} {pend : List (Nat × List UInt8)} {kb : Nat → Bool} (hp : ∀ x ∈ pend, 1 ≤ x.1) : ∀ k, k ≤ pend.length → (settleK kept pend kb k)[0]? = kept[0]?
  | 0, _ => rfl
  | k + 1, hk => by
    unfold settleK
    have ih := settleK_zero (kept := kept) (kb := kb) hp k (by omega)
    split
    · have h1 := hp _ (List.getElem_mem (show k < pend.length by omega))
      have e : pend.getD k (0, []) = pend[k] := by rw [List.getD_eq_getElem?_getD, List.getElem?_eq_getElem (by omega)]; rfl
      rw [e, List.getElem?_set_ne (by omega), ih]
    · exact ih
theorem settleK_wide {kept : List (List UInt8)} {pend : List (Nat × List UInt8)} {kb : Nat → Bool} (h0 : ∀ l ∈ kept, l.length = 256) (hp : ∀ x ∈ pend, x.2.length = 256) : ∀ k, k ≤ pend.length → ∀ l ∈ settleK kept pend kb k, l.length = 256
  | 0, _ => h0
  | k + 1, hk => by
    unfold settleK
    have ih := settleK_wide (kb := kb) h0 hp k (by omega)
    split
    · intro l hl
      have e : pend.getD k (0, []) = pend[k] := by rw [List.getD_eq_getElem?_getD, List.getElem?_eq_getElem (by omega)]; rfl
      rw [e] at hl
      rcases List.mem_or_eq_of_mem_set hl with hl | rfl
      · exact ih l hl
      · exact hp _ (List.getElem_mem _)
    · exact ih
theorem settleK_run (kept : List (List UInt8)) (a n : Nat) (f : Nat → List UInt8) : ∀ k, k ≤ n → a + n ≤ kept.length → ∀ i, (settleK kept ((List.range n).map fun j => (a + j, f j)) (fun _ => true) k)[i]? = if a ≤ i ∧ i < a + k then some (f (i - a)) else kept[i]?
  | 0, _, _, i => by rw [if_neg (by omega)]; rfl
  | k + 1, hk, hl, i => by
    have ih := settleK_run kept a n f k (by omega) hl
    unfold settleK
    rw [if_pos rfl]
    have e : ((List.range n).map fun j => (a + j, f j)).getD k (0, []) = (a + k, f k) := by
      rw [List.getD_eq_getElem?_getD, List.getElem?_map, List.getElem?_range (by omega)]; rfl
    rw [e]
    by_cases h : a + k = i
    · subst h
      rw [List.getElem?_set_self (by rw [settleK_len]; omega), if_pos (by omega), Nat.add_sub_cancel_left]
    · rw [List.getElem?_set_ne h, ih i]
      by_cases h2 : a ≤ i ∧ i < a + k
      · rw [if_pos h2, if_pos (by omega)]
      · rw [if_neg h2, if_neg (by omega)]
structure LayK (s0 s : DskV) (a : Nat) (c : List UInt8) (k : Nat) : Prop where
  size : s.size = s0.size
  kept : s.kept = s0.kept
  off : s.off = false
  armed : s.armed = s0.armed
  pend : s.pend = (List.range k).map fun j => (a + j, sectL (chunkL c j))
  writes : s.writes = s0.writes + k
  left : s.armed = true → 1 ≤ s.left ∧ s.left ≤ 1000000
theorem LayK.start {s : DskV} (a : Nat) (c : List UInt8) (h : DOk s) (hoff : s.off = false) (hp : s.pend = []) : LayK s s a c 0 := ⟨rfl, rfl, hoff, rfl, hp, rfl, h.armed⟩
theorem tick_left {s : DskV} (h : s.armed = true → 1 ≤ s.left ∧ s.left ≤ 1000000) (hn : ¬ (s.armed = true ∧ s.left = 1)) : s.tick.armed = true → 1 ≤ s.tick.left ∧ s.tick.left ≤ 1000000 := by
  unfold DskV.tick
  split
  · rename_i ha
    intro _
    have := h ha
    have : s.left ≠ 1 := fun e => hn ⟨ha, e⟩
    show 1 ≤ s.left - 1 ∧ s.left - 1 ≤ 1000000
    omega
  · exact h
theorem LayK.next {s0 s : DskV} {a k : Nat} {c : List UInt8} (h : LayK s0 s a c k) (hn : ¬ (s.armed = true ∧ s.left = 1)) : LayK s0 (s.tick.wrote (a + k) (sectL (chunkL c k))) a c (k + 1) := by
  obtain ⟨t1, t2, t3, t4, t5, t6, t7⟩ := tick_kept s
  refine ⟨t4.trans h.size, t1.trans h.kept, t6.trans h.off, t7.trans h.armed, ?_, ?_, tick_left h.left hn⟩
  · show s.tick.pend ++ [_] = _
    rw [t2, h.pend, List.range_succ, List.map_append]; rfl
  · show s.tick.writes + 1 = _
    rw [t3, h.writes]; omega
theorem chunk_small (c : List UInt8) (j : Nat) : (chunkL c j).length ≤ 256 := by rw [chunkL_len]; omega
theorem LayK.ok {s0 s : DskV} {a k : Nat} {c : List UInt8} (h : LayK s0 s a c k) (h0 : DOk s0) (ha : 1 ≤ a) (hk : a + k ≤ 512) (hw : s0.writes ≤ 90000000) : DOk s := by
  refine ⟨h.size.trans h0.size, by rw [h.kept]; exact h0.least, by rw [h.kept]; exact h0.most, by rw [h.kept]; exact h0.len, by rw [h.writes]; omega, h.left, fun x hx => ?_, by rw [h.pend]; simp; omega⟩
  rw [h.pend] at hx
  obtain ⟨j, hj, rfl⟩ := List.mem_map.1 hx
  have := List.mem_range.1 hj
  have := h0.least
  rw [h.kept]
  exact ⟨by show 1 ≤ a + j; omega, by show a + j < _; omega, sectL_len _ (chunk_small c j)⟩
structure CutP (s0 s : DskV) : Prop where
  ok : DOk s
  off : s.off = true
  pend : s.pend = []
  armed : s.armed = false
  len : s.kept.length = s0.kept.length
  zero : s.kept[0]? = s0.kept[0]?
  was : s0.armed = true
  writes : s.writes ≤ s0.writes + 300
theorem DOk.cut {s : DskV} (h : DOk s) (kl : List Bool) : DOk (s.cut kl) ∧ (s.cut kl).off = true ∧ (s.cut kl).pend = [] ∧ (s.cut kl).armed = false ∧ (s.cut kl).kept.length = s.kept.length ∧ (s.cut kl).kept[0]? = s.kept[0]? ∧ (s.cut kl).writes = s.writes := by
  have e : (s.cut kl).kept = settleK s.kept s.pend (fun i => kl.getD i false) s.pend.length := rfl
  refine ⟨⟨h.size, by rw [e, settleK_len]; exact h.least, by rw [e, settleK_len]; exact h.most, by rw [e]; exact settleK_wide h.len (fun x hx => (h.pin x hx).2.2) _ (Nat.le_refl _), h.writes, (fun h => by cases h), (fun x hx => by cases hx), Nat.zero_le _⟩, rfl, rfl, rfl, by rw [e, settleK_len], by rw [e]; exact settleK_zero (fun x hx => (h.pin x hx).1) _ (Nat.le_refl _), rfl⟩
theorem DOk.left0 {s : DskV} (h : DOk s) (x : Int) : DOk { s with left := x, armed := false } := ⟨h.size, h.least, h.most, h.len, h.writes, (fun h => by cases h), h.pin, h.plen⟩
theorem cut_left (s : DskV) (x : Int) (kl : List Bool) : DskV.cut { s with left := x } kl = DskV.cut { s with left := x, armed := false } kl := rfl
theorem LayK.cut {s0 s : DskV} {a k : Nat} {c : List UInt8} (h : LayK s0 s a c k) (h0 : DOk s0) (ha : 1 ≤ a) (hk : a + k ≤ 512) (hk2 : k ≤ 256) (hw : s0.writes ≤ 90000000) (har : s.armed = true) : CutP s0 (DskV.cut { s with left := 0 } s.keep) := by
  have h1 := h.ok h0 ha hk hw
  rw [cut_left]
  obtain ⟨c1, c2, c3, c4, c5, c6, c7⟩ := (h1.left0 0).cut s.keep
  exact ⟨c1, c2, c3, c4, by rw [c5]; show s.kept.length = _; rw [h.kept], by rw [c6]; show s.kept[0]? = _; rw [h.kept], h.armed.symm.trans har, by rw [c7]; show s.writes ≤ _; rw [h.writes]; omega⟩
structure SynK (s0 s : DskV) (a : Nat) (c : List UInt8) (n : Nat) : Prop where
  ok : DOk s
  off : s.off = false
  pend : s.pend = []
  armed : s.armed = s0.armed
  len : s.kept.length = s0.kept.length
  sect : ∀ i, s.kept[i]? = if a ≤ i ∧ i < a + n then some (sectL (chunkL c (i - a))) else s0.kept[i]?
  writes : s.writes = s0.writes + n
theorem DOk.settled {s : DskV} (h : DOk s) : DOk (s.settled fun _ => true) := by
  have e : (s.settled fun _ => true).kept = settleK s.kept s.pend (fun _ => true) s.pend.length := rfl
  exact ⟨h.size, by rw [e, settleK_len]; exact h.least, by rw [e, settleK_len]; exact h.most, by rw [e]; exact settleK_wide h.len (fun x hx => (h.pin x hx).2.2) _ (Nat.le_refl _), h.writes, h.armed, (fun x hx => by cases hx), Nat.zero_le _⟩
theorem LayK.sync {s0 s : DskV} {a n : Nat} {c : List UInt8} (h : LayK s0 s a c n) (h0 : DOk s0) (ha : 1 ≤ a) (hk : a + n ≤ 512) (hw : s0.writes ≤ 90000000) : SynK s0 (s.settled fun _ => true) a c n := by
  have h1 := h.ok h0 ha hk hw
  have e : (s.settled fun _ => true).kept = settleK s.kept s.pend (fun _ => true) s.pend.length := rfl
  refine ⟨h1.settled, h.off, rfl, h.armed, by rw [e, settleK_len, h.kept], fun i => ?_, h.writes⟩
  rw [e, h.kept, h.pend]
  have hl : ((List.range n).map fun j => (a + j, sectL (chunkL c j))).length = n := by simp
  rw [hl]
  exact settleK_run s0.kept a n (fun j => sectL (chunkL c j)) n (Nat.le_refl _) (by have := h0.least; omega) i
def headB (which L : Nat) : List UInt8 := numBytes 0x4147474F4C 8 ++ numBytes which 8 ++ numBytes L 8
theorem headB_len (which L : Nat) : (headB which L).length = 24 := by simp [headB, numBytes_length]
theorem SynK.cut {s0 s : DskV} {a n : Nat} {c : List UInt8} (h : SynK s0 s a c n) (ha : 1 ≤ a) (hn : n ≤ 256) (har : s.armed = true) : CutP s0 (DskV.cut { s with left := 0 } s.keep) := by
  rw [cut_left]
  obtain ⟨c1, c2, c3, c4, c5, c6, c7⟩ := (h.ok.left0 0).cut s.keep
  exact ⟨c1, c2, c3, c4, by rw [c5]; exact h.len, by rw [c6]; show s.kept[0]? = _; rw [h.sect 0, if_neg (by omega)], h.armed.symm.trans har, by rw [c7]; show s.writes ≤ _; rw [h.writes]; omega⟩
structure LaidP (s0 s : DskV) (a : Nat) (c : List UInt8) (n which : Nat) : Prop where
  ok : DOk s
  off : s.off = false
  pend : s.pend = []
  armed : s.armed = s0.armed
  len : s.kept.length = s0.kept.length
  zero : s.kept[0]? = some (sectL (headB which c.length))
  sect : ∀ k, k < n → s.kept[a + k]? = some (sectL (chunkL c k))
  writes : s.writes ≤ s0.writes + 300
theorem SynK.head {s0 s : DskV} {a n : Nat} {c : List UInt8} (h : SynK s0 s a c n) (hn : ¬ (s.armed = true ∧ s.left = 1)) (ha : 1 ≤ a) (hn2 : n ≤ 256) (hw : s0.writes ≤ 90000000) (which : Nat) :
    (∀ x ∈ (s.tick.wrote 0 (sectL (headB which c.length))).pend, x.1 < (s.tick.wrote 0 (sectL (headB which c.length))).kept.length) ∧ (s.tick.wrote 0 (sectL (headB which c.length))).off = false ∧ LaidP s0 ((s.tick.wrote 0 (sectL (headB which c.length))).settled fun _ => true) a c n which := by
  obtain ⟨t1, t2, t3, t4, t5, t6, t7⟩ := tick_kept s
  have hk : ((s.tick.wrote 0 (sectL (headB which c.length))).settled fun _ => true).kept = s.kept.set 0 (sectL (headB which c.length)) := by
    show settleK s.tick.kept (s.tick.pend ++ [(0, sectL (headB which c.length))]) (fun _ => true) (s.tick.pend ++ [(0, sectL (headB which c.length))]).length = _
    rw [t1, t2, h.pend]; rfl
  have hsl : (sectL (headB which c.length)).length = 256 := sectL_len _ (by rw [headB_len]; decide)
  have hwr : s.tick.writes + 1 ≤ 100000000 := by rw [t3, h.writes]; omega
  have hlen : ∀ l ∈ s.kept.set 0 (sectL (headB which c.length)), l.length = 256 := fun l hl => by
    rcases List.mem_or_eq_of_mem_set hl with hl | rfl
    · exact h.ok.len l hl
    · exact hsl
  have h5 := h.ok.least
  refine ⟨fun x hx => ?_, t6.trans h.off, ⟨t4.trans h.ok.size, by rw [hk]; simpa using h.ok.least, by rw [hk]; simpa using h.ok.most, by rw [hk]; exact hlen, hwr, tick_left h.ok.armed hn, (fun x hx => by cases hx), Nat.zero_le _⟩, t6.trans h.off, rfl, t7.trans h.armed, by rw [hk]; simpa using h.len, by rw [hk, List.getElem?_set_self (by omega)], fun k hk2 => by rw [hk, List.getElem?_set_ne (by omega), h.sect, if_pos (by omega), Nat.add_sub_cancel_left], by show s.tick.writes + 1 ≤ _; rw [t3, h.writes]; omega⟩
  change x ∈ s.tick.pend ++ [(0, sectL (headB which c.length))] at hx
  rw [t2, h.pend] at hx
  obtain rfl := List.mem_singleton.1 hx
  show 0 < s.tick.kept.length
  rw [t1]; omega
end
end Go.Proofs.YtcmajcljafmphaaGreat

namespace Go.Proofs.YtcmajcljafmphaaGreat
section
open Go.RowKit
set_option maxRecDepth 100000
set_option linter.unusedVariables false

section
variable {P : Program} {f : FuncId} {n : Nat} {Q : Exit → Act → World → Prop} {a : Act} {w : World}
def wpAt (f : FuncId) (P : Program) (c : Code) (Q : Exit → Act → World → Prop) (a : Act) (w : World) : Prop :=
  ∀ (b : Frame) (k : List Item) (cs : List Frame), b.roundOf = none → b.fn = f → ∃ e a' w', Q e a' w' ∧ ArrivesIn (Machine.fenced P Fence.wide) P (lone (b.atR a (.code c :: k)) cs w) b k cs e a' w'
theorem wpAt_of {c : Code} (h : c.wpIn Fence.wide n P Q a w) : wpAt f P c Q a w := fun b k cs hro _ => h b k cs hro trivial (room_wide _)
theorem wpAt_seq {x y : Code} (h : wpAt f P x (Exit.then (fun a w => wpAt f P y Q a w) Q) a w) : wpAt f P (.seq x y) Q a w := by
  intro b k cs hro hf
  have h0 : (lone (b.atR a (.code (.seq x y) :: k)) cs w).fenced P Fence.wide := fenced_wide _ _
  obtain ⟨e, a₁, w₁, hq, harr⟩ := h b (.code y :: k) cs hro hf
  cases e with
  | normal =>
    obtain ⟨e₂, a₂, w₂, hq₂, harr₂⟩ := hq b k cs hro hf
    exact ⟨e₂, a₂, w₂, hq₂, .of_steps (.head h0 stepR_seq harr) harr₂⟩
  | exit id => exact ⟨_, a₁, w₁, hq, .of_steps (.one h0 stepR_seq) (.pass (x := .code y) rfl (fun _ _ => .inl (by simp)) harr)⟩
  | goto l => exact ⟨_, a₁, w₁, hq, .of_steps (.one h0 stepR_seq) (.pass (x := .code y) rfl (fun _ _ => .inl (by simp)) harr)⟩
  | ret => exact ⟨_, a₁, w₁, hq, .of_steps (.one h0 stepR_seq) (.pass (x := .code y) rfl (fun _ _ => .inl (by simp)) harr)⟩
  | panic ch => exact ⟨_, a₁, w₁, hq, .of_steps (.one h0 stepR_seq) (.pass (x := .code y) rfl (fun _ _ => .inl (by simp)) harr)⟩
  | outgrown => exact ⟨_, a₁, w₁, hq, .of_steps (.one h0 stepR_seq) (.pass (x := .code y) rfl (fun _ _ => .inl (by simp)) harr)⟩
theorem wpAt_then {x y : Code} (n : Nat) (h : x.wpIn Fence.wide n P (Exit.then (fun a w => wpAt f P y Q a w) Q) a w) : wpAt f P (.seq x y) Q a w := wpAt_seq (wpAt_of h)
theorem wpAt_block {id : Nat} {c : Code} (h : wpAt f P c (Exit.inBlock id Q) a w) : wpAt f P (.block id c) Q a w := by
  intro b k cs hro hb
  have hW : ∀ m : Machine, m.fenced P Fence.wide := fun m => fenced_wide P m
  obtain ⟨e, a₁, w₁, hq, harr⟩ := h b (.inBlock id :: k) cs hro hb
  cases e with
  | normal => exact ⟨.normal, a₁, w₁, hq, .head (hW _) stepR_block (StepsIn.trans harr (.one (hW _) stepR_inBlock))⟩
  | exit id' =>
    by_cases hid : id' = id
    · simp only [Exit.inBlock, hid, if_true] at hq
      exact ⟨.normal, a₁, w₁, hq, .head (hW _) stepR_block (harr.1 k (by simp [exitTo, hid]))⟩
    · simp only [Exit.inBlock, hid, if_false] at hq
      have this : (id == id') = false := by simp; exact fun h => hid h.symm
      have hx : exitTo id' (.inBlock id :: k) = exitTo id' k := by simp [exitTo, this]
      exact ⟨.exit id', a₁, w₁, hq, fun k' hk => .head (hW _) stepR_block (harr.1 k' (by rw [hx]; exact hk)),
        fun hr' hk => let ⟨k₁, h1, h2⟩ := harr.2 hr' (by rw [hx]; exact hk); ⟨k₁, h1, .head (hW _) stepR_block h2⟩⟩
  | goto l =>
    have hx : gotoIn l (.inBlock id :: k) = gotoIn l k := by simp [gotoIn]
    exact ⟨_, a₁, w₁, hq, fun k' hk => .head (hW _) stepR_block (harr.1 k' (by rw [hx]; exact hk)),
      fun hr' hk => let ⟨k₁, h1, h2⟩ := harr.2 hr' (by rw [hx]; exact hk); ⟨k₁, h1, .head (hW _) stepR_block h2⟩⟩
  | ret => exact ⟨_, a₁, w₁, hq, .of_steps (.one (hW _) stepR_block) harr⟩
  | panic ch => exact ⟨_, a₁, w₁, hq, .of_steps (.one (hW _) stepR_block) harr⟩
  | outgrown => exact ⟨_, a₁, w₁, hq, .of_steps (.one (hW _) stepR_block) harr⟩
def LeavesC (P : Program) (fn : Func) (tmps : Array Value) (R : Ending → World → Prop) : List Deferred → FrameMode → World → Prop
  | d :: ds, u, w => ∃ r w', d.target = .collected r ∧ (Instr.takeDeferred r).run P w = .ok [] w' ∧ Leaves P fn tmps R ds u w'
  | [], _, _ => False
def postC (P : Program) (fn : Func) (R : Ending → World → Prop) : Exit → Act → World → Prop
  | .normal, a, w => LeavesC P fn a.tmps R a.defers .returning w
  | .ret, a, w => LeavesC P fn a.tmps R a.defers .returning w
  | .panic chain, a, w => LeavesC P fn a.tmps R a.defers (.panicking chain) w
  | _, _, _ => False
theorem leavesC_steps {fn : Func} {tmps : Array Value} {R : Ending → World → Prop} (u : FrameMode) (fr : Frame) (cs : List Frame) (hrun : u ≠ .run) (hu : fr.mode = u) (ht : fr.tmps = tmps) (hf : P.funcs[fr.fn]? = some fn) (hk : fr.kind = .normal) (h : LeavesC P fn tmps R fr.defers u w) :
    ∃ e w' fr', R e w' ∧ ComesIn (Machine.fenced P Fence.wide) P (lone fr cs w) (lone fr' cs w') e ∧ fr'.fn = fr.fn ∧ fr'.leaving P w' e := by
  cases hd : fr.defers with
  | nil => rw [hd] at h; exact h.elim
  | cons d ds =>
    rw [hd] at h
    obtain ⟨r, w1, htar, htake, hrest⟩ := h
    have h1 := step_collected (cs := cs) (hu ▸ hrun) hd htar htake
    obtain ⟨e', w'', fr', hR', hs', hfn', hl'⟩ := leaves_steps ds u w1 { fr with defers := [] ++ ds } cs hu rfl ht hf hk hrest
    exact ⟨e', w'', fr', hR', ComesIn.of_steps (.one (fenced_wide _ _) h1) (comesIn_wide.2 hs'), hfn', hl'⟩
theorem calls_of_at {fn : Func} {c : Code} {args : Array Value} {R : Ending → World → Prop} (hf : P.funcs[f]? = some fn) (hb : fn.body = some c)
    (h : wpAt f P c (postC P fn R) { tmps := args ++ Array.replicate (fn.ntmps - args.size) undef, defers := [] } w) : Calls P f args w R := by
  refine (callsIn_wide (n := 0)).1 ⟨trivial, fun cs hr => ?_⟩
  obtain ⟨b, hbb⟩ : ∃ b : Frame, b = { (default : Frame) with fn := f, kind := .normal, roundOf := none } := ⟨_, rfl⟩
  have bf : b.fn = f := by rw [hbb]
  have br : b.roundOf = none := by rw [hbb]
  have bk : b.kind = .normal := by rw [hbb]
  have hfb : P.funcs[b.fn]? = some fn := by rw [bf]; exact hf
  have henter : Frame.enter P f args .normal = b.atR { tmps := args ++ Array.replicate (fn.ntmps - args.size) undef, defers := [] } [.code c] := by
    simp [Frame.enter, Frame.atR, hf, hb, hbb]
  obtain ⟨e, a', w', hq, harr⟩ := h b [] cs br bf
  rw [← henter] at harr
  cases e with
  | normal =>
    obtain ⟨e', w'', fr', hR, hs, hfn, hl⟩ := leavesC_steps .returning { b.atR a' [] with mode := .returning } cs (by simp) rfl rfl hfb bk hq
    exact ⟨e', w'', fr', hR, ComesIn.of_steps (StepsIn.trans harr (.one (fenced_wide _ _) (stepR_end br))) hs, hfn.trans bf, hl⟩
  | ret =>
    obtain ⟨todo, hs₀⟩ := harr.1 br
    obtain ⟨e', w'', fr', hR, hs, hfn, hl⟩ := leavesC_steps .returning { b.atR a' todo with mode := .returning } cs (by simp) rfl rfl hfb bk hq
    exact ⟨e', w'', fr', hR, ComesIn.of_steps hs₀ hs, hfn.trans bf, hl⟩
  | panic chain =>
    obtain ⟨todo, hs₀⟩ := harr
    obtain ⟨e', w'', fr', hR, hs, hfn, hl⟩ := leavesC_steps (.panicking chain) { b.atR a' todo with mode := .panicking chain } cs (by simp) rfl rfl hfb bk hq
    exact ⟨e', w'', fr', hR, ComesIn.of_steps hs₀ hs, hfn.trans bf, hl⟩
  | exit id => exact hq.elim
  | goto l => exact hq.elim
  | outgrown => exact hq.elim
theorem wpAt_rangeFunc {g : Operand} {ps : Array Tmp} {assign body : Code} (h : RangeAt Fence.wide n P f g ps assign body Q a w) : wpAt f P (.rangeFunc g ps assign body) Q a w := by
  intro b k cs hro hb
  obtain ⟨l, mark, w₁, d, w₁', f', args, w₂, he, hres, hlead, hinv, hn, hF, hcall⟩ := h
  have he' : (Instr.enterLoop b.fn a.tmps ps assign body b.roundOf).run P w = .ok (l, mark) w₁ := by rw [hb, hro]; exact he
  have henter := stepR_rangeFunc (P := P) (b := b) (a := a) (k := k) (cs := cs) (w := w) he' hres hinv
  obtain ⟨e, w₃, fr, hR, hsteps, hfn, hleave⟩ := hcall (b.atR { a with defers := mark ++ a.defers } (.inRangeFunc l :: k) :: cs) (room_wide _)
  have hW : ∀ m : Machine, m.fenced P Fence.wide := fun m => fenced_wide P m
  cases e with
  | outgrown =>
    obtain ⟨a₀, w₀, hq⟩ := hR
    exact ⟨.outgrown, a₀, w₀, hq, .inr (Outgrown.of_steps (.one henter) hsteps)⟩
  | returned v =>
    obtain ⟨jump, w₄, hend, hj⟩ := hR
    have sback : StepsIn (Machine.fenced P Fence.wide) P (lone (b.atR a (.code (.rangeFunc g ps assign body) :: k)) cs w) (lone (b.atR { a with defers := mark ++ a.defers } ((jump.map Item.code).toList ++ k)) cs w₄) := by
      refine .head (hW _) henter (StepsIn.trans hsteps (.head (hW _) ?_ (.one (hW _) (stepR_endRangeFunc hend))))
      rw [← finish_atR_inRangeFunc l v]; exact step_leave_returned hleave
    cases jump with
    | none => exact ⟨.normal, _, w₄, hj, sback⟩
    | some c =>
      obtain ⟨e', a'', w₅, hq, harr⟩ := hj b k cs hro trivial (room_wide _)
      exact ⟨e', a'', w₅, hq, .of_steps sback harr⟩
  | panicked chain =>
    refine ⟨.panic chain, _, w₃, hR, .inRangeFunc l :: k, .head (hW _) henter (StepsIn.trans hsteps (.one (hW _) ?_))⟩
    rw [← Frame.raise_atR]; exact step_leave_panicked hleave
end
end
end Go.Proofs.YtcmajcljafmphaaGreat
