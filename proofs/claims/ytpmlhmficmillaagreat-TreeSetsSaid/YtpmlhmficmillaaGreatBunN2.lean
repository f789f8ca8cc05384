/- What Put and Raw of num.Out and text.Put leave as it was, block by block, under bounds on lengths that each theorem names. No further condition.
A node of a tree, and its cells. Plain. -/
import Derived.Test.YtpmlhmficmillaaGreatBunVT
import Derived.Test.YtpmlhmficmillaaGreatProg
import Derived.ProofKit
namespace Go.Proofs.YtpmlhmficmillaaGreat
section
open Go.RowKit
set_option maxRecDepth 100000

theorem run_append_rowl {P : Program} {t e size bytes : Nat} (E : ElemOk P t e size bytes) (w : World) (base : Nat) (ty : TypeId)
    (v : Value) (n : Nat) (xs : List Value) (hown : w.ownsRow base e size v n xs)
    (sv : Value) (m : Nat) (news : List Value) (hsrc : RowAt w size sv m news) (h1 : ∀ u ∈ news, u.oneCell' = true)
    (h63 : n + m ≤ maxLen) (hbytes : (n + m) * bytes ≤ 140737488355328) (hbase : base ≤ w.heap.size) :
    ∃ a' c' w', (Builtin.append_ #[t, t] ty #[v, sv]).run P w = .ok (.slice a' (n + m) c') w' ∧ w'.ownsRow base e size (.slice a' (n + m) c') (n + m) (xs ++ news) ∧ w.grownBy w' v.ownBlock ∧
      (∀ k, (Value.slice a' (n + m) c').ownBlock = some k → v.ownBlock = some k ∨ w.heap.size ≤ k) := by
  obtain ⟨i, z, hi, hz, hsize, hby, hzs⟩ := E.hi
  have ht := E.ht
  have hsz := E.hsz
  obtain ⟨hl, a, c, rfl, hc1, hc2, hc3, _, hcell⟩ := hsrc
  cases a with
  | some ad =>
    have hnews : ∀ j u, news[j]? = some u → w.cell? (ad.add j) = some u := fun j u hu => by
      obtain ⟨b, o, hb, hcc⟩ := hcell j u hu
      cases hb
      rw [add_plain']; exact hcc
    obtain ⟨v', w', hr, ho, hg, _, h5⟩ := run_append_own_at (P := P) w base t ty e i z size bytes ht hi hz hsize hby hzs hsz v n xs hown ad m c news hl hnews h1 h63 hbytes hbase
    obtain ⟨a', c', rfl⟩ := own_form ho
    refine ⟨a', c', w', hr, ho, hg, fun k hk => ?_⟩
    rcases h5 with h5 | h5
    · left; rw [h5] at hk; exact hk
    · right; rw [h5] at hk; cases hk; exact Nat.le_refl _
  | none =>
    have hc0 := hc3 rfl
    obtain rfl : c = 0 := hc0
    obtain rfl : m = 0 := by omega
    have : news = [] := List.eq_nil_of_length_eq_zero (by simpa using hl)
    subst this
    obtain ⟨a', c', rfl⟩ := own_form hown
    refine ⟨a', c', w, ?_, by simpa using hown, ⟨rfl, rfl, rfl, Nat.le_refl _, fun _ _ _ => rfl⟩, fun k hk => .inl hk⟩
    subst hsize
    rcases hown.2 with ⟨he, _⟩ | ⟨g, cap, cur, he, _, _, hnc, _⟩
    · cases he
      simp [Builtin.append_, run_underlying ht, sizeOf, typeInfo, hi, Builtin.lenOf, Builtin.firstCells]
    · cases he
      simp [Builtin.append_, run_underlying ht, sizeOf, typeInfo, hi, Builtin.lenOf, Builtin.firstCells, loadCells, storeCells, hnc]

theorem wpList_append_rowl {P : Program} {t e size bytes : Nat} (E : ElemOk P t e size bytes) {ops : Array Oper} {rest : List Oper} {o : Oper} {a : Act} {Q : Exit → Act → World → Prop} (w : World) (hgd : o.guard = none) (s x : Operand)
    (ho : o.op = .call { callee := .builtin .append, args := #[s, x], argTypes := #[t, t] })
    (base : Nat) (v : Value) (n : Nat) (xs : List Value) (hs : a.eval s = v) (hown : w.ownsRow base e size v n xs)
    (sv : Value) (m : Nat) (news : List Value) (hx : a.eval x = sv) (hsrc : RowAt w size sv m news) (h1 : ∀ u ∈ news, u.oneCell' = true)
    (h63 : n + m ≤ maxLen) (hbytes : (n + m) * bytes ≤ 140737488355328) (hbase : base ≤ w.heap.size)
    (h : ∀ a' c' w', w'.ownsRow base e size (.slice a' (n + m) c') (n + m) (xs ++ news) → w.grownBy w' v.ownBlock → (∀ k, (Value.slice a' (n + m) c').ownBlock = some k → v.ownBlock = some k ∨ w.heap.size ≤ k) → wpList P ops Q rest (a.put o.dst (.slice a' (n + m) c')) w') : wpList P ops Q (o :: rest) a w :=
  wpList_plain hgd fun K hK => by
    refine wp_append_run s x t ho hs hx (R := fun v' w' => ∃ a' c', v' = .slice a' (n + m) c' ∧ w'.ownsRow base e size (.slice a' (n + m) c') (n + m) (xs ++ news) ∧ w.grownBy w' v.ownBlock ∧ (∀ k, (Value.slice a' (n + m) c').ownBlock = some k → v.ownBlock = some k ∨ w.heap.size ≤ k)) ?_ ?_
    · obtain ⟨a', c', w', hr, h2, h3, h4⟩ := run_append_rowl E w base o.type v n xs hown sv m news hsrc h1 h63 hbytes hbase
      exact ⟨_, w', hr, a', c', rfl, h2, h3, h4⟩
    · rintro _ w' ⟨a', c', rfl, h2, h3, h4⟩
      exact hK _ _ (h a' c' w' h2 h3 h4)

def Foot (w : World) (b k : Nat) : Prop := k = b ∨ ∃ v, w.cell? ⟨b, 0, none⟩ = some v ∧ v.ownBlock = some k

def TwoAt (w : World) (b : Nat) : Prop := ∃ (cs : Array Value) (t : TypeId) (fr : Nat × Nat), w.heap[b]? = some (.cells cs t fr) ∧ cs.size = 2
structure OStep (b : Nat) (w w' : World) : Prop where
  below : Below b w w'
  block : ∀ k, k < w.heap.size → ¬ Foot w b k → w'.heap[k]? = w.heap[k]? ∧ ¬ Foot w' b k
  two : TwoAt w b → TwoAt w' b ∧ ∀ k, Foot w' b k → Foot w b k

theorem OStep.refl (b : Nat) (w : World) : OStep b w w := ⟨Below.refl _ _, fun _ _ h => ⟨rfl, h⟩, fun h => ⟨h, fun _ h => h⟩⟩
theorem OStep.trans {b : Nat} {w w1 w2 : World} (h : OStep b w w1) (k : OStep b w1 w2) : OStep b w w2 :=
  ⟨h.below.trans k.below, fun j hj hn => by
    obtain ⟨e1, n1⟩ := h.block j hj hn
    obtain ⟨e2, n2⟩ := k.block j (Nat.lt_of_lt_of_le hj h.below.size) n1
    exact ⟨e2.trans e1, n2⟩, fun ht => by
    obtain ⟨t1, f1⟩ := h.two ht
    obtain ⟨t2, f2⟩ := k.two t1
    exact ⟨t2, fun j hj => f1 j (f2 j hj)⟩⟩
theorem OStep.pure {b : Nat} {w w' : World} (hb : b < w.heap.size) (h : Below w.heap.size w w') : OStep b w w' :=
  have hf : ∀ k, Foot w' b k → Foot w b k := fun k hf => by
    rcases hf with hf | ⟨v, hv, hk⟩
    · exact .inl hf
    · exact .inr ⟨v, by rw [h.cell (p := ⟨b, 0, none⟩) hb] at hv; exact hv, hk⟩
  ⟨h.mono (Nat.le_of_lt hb), fun j hj hn => ⟨h.block j hj, fun h => hn (hf j h)⟩, fun ⟨cs, t, fr, hc, hs⟩ => ⟨⟨cs, t, fr, (h.block b hb).trans hc, hs⟩, hf⟩⟩

theorem OutIs.new {w : World} {b : Nat} {xs : List UInt8} (h : OutIs w b xs) (o : Obj) : ¬ Foot (w.alloc o) b w.heap.size := by
  obtain ⟨v, ot, h1, h2⟩ := h
  have hlt := lt_of_block h1
  rintro (he | ⟨u, hu, hk⟩)
  · omega
  · have h1' : (w.alloc o).heap[b]? = some (.cells #[v] ot (0, 0)) := (heap_alloc_old w o hlt).trans h1
    rw [cell_of_one h1'] at hu
    cases hu
    have := (h2.lt _ hk).2
    omega

theorem ostep_store {ot : TypeId} {b n : Nat} {w w' : World} {va v2 : Value} {W : World} (hb : w.heap[b]? = some (.cells #[va] ot (0, 0))) (hbw : Below w.heap.size w W) (hg : W.grownBy w' va.ownBlock)
    (hne : some b ≠ va.ownBlock) (hbo : ∀ k, va.ownBlock = some k → b ≤ k) (hlies : ∀ k, v2.ownBlock = some k → va.ownBlock = some k ∨ w.heap.size ≤ k) (_hn : n = 0) : OStep b w (w'.setCell ⟨b, 0, none⟩ v2) := by
  have hlt := lt_of_block hb
  have hb' : w'.heap[b]? = some (.cells #[va] ot (0, 0)) := (hg.block b (Nat.lt_of_lt_of_le hlt hbw.size) hne).trans ((hbw.block b hlt).trans hb)
  refine ⟨((hbw.mono (Nat.le_of_lt hlt)).grown hg (Nat.le_trans (Nat.le_of_lt hlt) hbw.size) hbo).setCell (Nat.le_refl _) _, fun k hk hn => ?_, fun ⟨cs, t, fr, hc, hs⟩ => by rw [hb] at hc; cases hc; simp at hs⟩
  have hkb : k ≠ b := fun e => hn (.inl e)
  have hko : some k ≠ va.ownBlock := fun e => hn (.inr ⟨va, cell_of_one hb, e.symm⟩)
  refine ⟨?_, ?_⟩
  · rw [block_set_other hkb]
    exact (hg.block k (Nat.lt_of_lt_of_le hk hbw.size) hko).trans (hbw.block k hk)
  · rintro (he | ⟨u, hu, hk2⟩)
    · exact hkb he
    · rw [cell_of_one (one_setCell hb')] at hu
      cases hu
      rcases hlies k hk2 with h | h
      · exact hko h.symm
      · omega

set_option maxHeartbeats 800000 in
theorem put_step (b : Nat) (xs : List UInt8) (n v : Nat) (w : World) (_hv : v < 18446744073709551616) (hn1 : 1 ≤ n) (hn : n ≤ 8) (hx : xs.length ≤ 1000000000) (ho : OutIs w b xs) :
    Calls Tryz.prog 41 #[.pointer (some ⟨b, 0, none⟩), .int .i64 (n : Int), .int .u64 (v : Int)] w fun e w' => e = .returned (.tuple #[]) ∧ OutIs w' b (xs ++ numBytes v n) ∧ OStep b w w' := by
  obtain ⟨va, ot, hb, hown⟩ := ho
  obtain ⟨i0, hi, hz0, hz1, hz2⟩ := info_parts infoU8
  go_enter Tryz.func41, Tryz.ntmps41
  go_wp2_with fail
  go_loopw [6, 14] (fun _ i wr => ∃ (k : Nat) (ys : List UInt8), k ≤ n ∧ i = .int .i64 (k : Int) ∧ OutIs wr b ys ∧ Hid (ys = xs ++ numBytes v k) ∧ OStep b w wr) (fun _ i _ => n - (intOf i).toNat)
  case atStart => exact ⟨0, xs, by omega, rfl, ⟨va, ot, hb, hown⟩, hid (by simp [numBytes]), OStep.refl _ _⟩
  case round =>
    obtain ⟨k, ys, hk, rfl, ⟨va, ot, hb, hown⟩, hys, hbl⟩ := hrel
    have hlen2 : ys.length ≤ 1000000008 := by rw [hys.out, List.length_append, numBytes_length]; omega
    by_cases hlt : k < n
    · have hc : wr.cell? ⟨b, 0, none⟩ = some va := cell_of_one hb
      have hf : wr.frozen? ⟨b, 0, none⟩ = false := free_of_one hb
      have hblt := lt_of_block hb
      have hb := hid hb
      go_wp2_with fail
      have hsh : ∀ W, (Op.shift BinOp.shr .u64 (v : Int) .i64 (IntKind.i64.wrap (8 * (k : Int)))).run Tryz.prog W = .ok (.int .u64 ((v / 2 ^ (8 * k) : Nat) : Int)) W := by
        intro W
        rw [IntWalk.i64_in _ (by omega), shift_shr .u64 .i64 _ _ (by omega) (by simp only [IntKind.bits]; omega), Sem.run_pure]
        rw [show ((8 * (k : Int)).toNat) = 8 * k from by omega]
        congr 2
      have e1 : ∀ o, (wr.drew.alloc o).heap[wr.heap.size]? = some o := fun o => heap_alloc_new _ _
      go_region_law (refine step_append_lies (P := Tryz.prog) _ rfl (.tmp 21) (.tmp 27) 46 rfl (b + 1) 5 i0 (.int .u8 0) 1 1 Tryz.underlying46 hi hz0 hz1 hz2 rfl (by decide) va ys.length (ys.map byteV) ?_ ?_ ⟨wr.heap.size, 0, none⟩ 1 1 [.int .u8 (IntKind.u8.wrap ((v : Int) / 2 ^ (8 * k)))] ?_ rfl ?_ (by intro u hu; rw [List.mem_singleton] at hu; subst hu; rfl) (by omega) (by unfold maxLen; omega) (by omega) ?_ (wr.heap.size + 1) ?_ (fun g cap w' h2 h3 h4 h5 => ?_); rfl; exact hown.drew.alloc _; rfl; exact World.news_of_block (e1 _); (simp; omega); simp; (have hb' := kept_da hb.out h3 (own_ne hown); have hc' := cell_of_one hb'; have hf' := free_of_one hb'; replace hb' := hid hb'))
      all_goals
        have hst := out_store hb'.out h2 (xs := ys ++ [numAt v k]) (by simp [byteV_numAt])
        have hbs := ostep_store (v2 := .slice (some ⟨g, 0, none⟩) (ys.length + 1) cap) hb.out (W := wr.drew.alloc _) ((Below.refl wr.heap.size wr).drew.alloc (Nat.le_refl _) _) h3 (own_ne hown) (fun j hj => by have := (hown.lt j hj).1; omega) (fun j hj => by
          cases hj
          rcases h4 with h4 | h4
          · exact .inl h4
          · right; show wr.heap.size ≤ g; omega) rfl
        clear h2 h3 h4 h5 hc' hf' hb'
        go_wp2
        go_roundw
        case rel => exact ⟨k + 1, _, by omega, by go_num, hst, hid (by rw [hys.out]; simp [numBytes]), hbl.trans hbs⟩
        case measure => simp [intOf]; omega
    · obtain rfl : k = n := by omega
      go_wp2_with fail
      go_end0
      exact ⟨rfl, by rw [← hys.out]; exact ⟨va, ot, hb, hown⟩, hbl⟩

set_option maxHeartbeats 800000 in
theorem raw_step (b : Nat) (xs l : List UInt8) (v : Value) (w : World) (hl : BytesAt w v l) (hx : xs.length + l.length ≤ 1000000000) (ho : OutIs w b xs) :
    Calls Tryz.prog 42 #[.pointer (some ⟨b, 0, none⟩), v] w fun e w' => e = .returned (.tuple #[]) ∧ OutIs w' b (xs ++ l) ∧ OStep b w w' := by
  obtain ⟨va, ot, hb, hown⟩ := ho
  have hc := cell_of_one hb
  have hf := free_of_one hb
  have hblt := lt_of_block hb
  replace hb := hid hb
  go_enter Tryz.func42, Tryz.ntmps42
  go_wp2_with (at_builtin; refine wpList_append_rowl elemU8 _ rfl (.tmp 8) (.tmp 9) rfl (b + 1) va xs.length (xs.map byteV) rfl hown v l.length (l.map byteV) rfl hl (bytes_oneCell l) (by unfold maxLen; omega) (by omega) (by omega) ?_)
  intro a' c' w' h2 h3 h4
  have hb' : w'.heap[b]? = some (.cells #[va] ot (0, 0)) := (h3.block b hblt (own_ne hown)).trans hb.out
  have hc' := cell_of_one hb'
  have hf' := free_of_one hb'
  have hst := out_store hb' h2 (xs := xs ++ l) (by simp)
  have hbs := ostep_store (v2 := .slice a' (xs.length + l.length) c') hb.out (Below.refl _ _) h3 (own_ne hown) (fun j hj => by have := (hown.lt j hj).1; omega) h4 rfl
  clear h2 h3 hb' h4
  go_wp2
  go_end0
  exact ⟨rfl, hst, hbs⟩

end
end Go.Proofs.YtpmlhmficmillaaGreat

namespace Go.Proofs.YtpmlhmficmillaaGreat
section
open Go.RowKit
set_option maxRecDepth 100000
set_option linter.unusedVariables false

structure Nod where
  path : Nat
  vers : Nat
  mode : Nat
  atm : Nat
  mtm : Nat
  name : ByteArray
  uid : ByteArray
  gid : ByteArray
  muid : ByteArray
  up : Nat
  gone : Bool
  data : ByteArray
def Nod.cells (n : Nod) : Array Value := #[.int .u64 (n.path : Int), .int .u32 (n.vers : Int), .int .u32 (n.mode : Int), .int .u32 (n.atm : Int), .int .u32 (n.mtm : Int), .string n.name, .string n.uid, .string n.gid, .string n.muid, .int .u64 (n.up : Int), .bool n.gone, .string n.data]
structure NodOk (n : Nod) : Prop where
  path : n.path < 18446744073709551616
  vers : n.vers < 4294967296
  mode : n.mode < 4294967296
  atm : n.atm < 4294967296
  mtm : n.mtm < 4294967296
  name : n.name.size ≤ maxLen
  uid : n.uid.size ≤ maxLen
  gid : n.gid.size ≤ maxLen
  muid : n.muid.size ≤ maxLen
  up : n.up < 18446744073709551616
  data : n.data.size ≤ maxLen
theorem nod_cells (n : Nod) : n.cells = #[.int .u64 (n.path : Int), .int .u32 (n.vers : Int), .int .u32 (n.mode : Int), .int .u32 (n.atm : Int), .int .u32 (n.mtm : Int), .string n.name, .string n.uid, .string n.gid, .string n.muid, .int .u64 (n.up : Int), .bool n.gone, .string n.data] := rfl

theorem nod_one (n : Nod) : n.cells.all (·.oneCell') = true := by simp [nod_cells, Value.oneCell']

end
end Go.Proofs.YtpmlhmficmillaaGreat
