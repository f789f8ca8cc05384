/- What the methods of num.Out, slices.Clone and slices.Clip do, under bounds on lengths that each theorem names. No further condition. -/
import Derived.Test.YtpmlhmficmillaaBunA
import Derived.Test.YtpmlhmficmillaaProg
namespace Go.Proofs.Ytpmlhmficmillaa
open Go.RowKit
set_option maxRecDepth 100000

theorem infoU8 : (Try.prog.info? 5).map (fun i => (i.zero, i.size, i.bytes)) = some (some (.int .u8 0), 1, 1) := by kernel_rfl


theorem own_ne {w : World} {b e size n : Nat} {v : Value} {xs : List Value} (h : w.ownsRow (b + 1) e size v n xs) : some b ≠ v.ownBlock := fun he => by
  have := (h.lt b he.symm).1; omega

theorem kept_da {w w' : World} {b : Nat} {o X : Obj} {row : Option Nat} (hb : w.heap[b]? = some X) (hg : (w.drew.alloc o).grownBy w' row) (hne : some b ≠ row) : w'.heap[b]? = some X := by
  have hlt := lt_of_block hb
  rw [hg.block b (by show b < (w.drew.heap.push o).size; simp; exact Nat.lt_succ_of_lt hlt) hne]
  rw [heap_alloc_old w.drew o (by exact hlt)]; exact hb

/-- The bytes of a number. -/
def numAt (v k : Nat) : UInt8 := UInt8.ofNat (v / 2 ^ (8 * k))
def numBytes (v : Nat) : Nat → List UInt8
  | 0 => []
  | n + 1 => numBytes v n ++ [numAt v n]

theorem numBytes_length (v : Nat) : ∀ n, (numBytes v n).length = n
  | 0 => rfl
  | n + 1 => by simp [numBytes, numBytes_length v n]

theorem byteV_numAt (v k : Nat) : byteV (numAt v k) = .int .u8 (IntKind.u8.wrap ((v : Int) / 2 ^ (8 * k))) := by
  unfold byteV numAt
  rw [IntKind.wrap_u8]
  congr 1

/-- Block b is an Out that holds the bytes xs in a row of its own, from block b on. -/
def OutIs (w : World) (b : Nat) (xs : List UInt8) : Prop :=
  ∃ v, ∃ ot : TypeId, w.heap[b]? = some (.cells #[v] ot (0, 0)) ∧ w.ownsRow (b + 1) 5 1 v xs.length (xs.map byteV)

theorem out_store {w' : World} {b n : Nat} {ot : TypeId} {va v2 : Value} {xs : List UInt8} {vs : List Value} (hb : w'.heap[b]? = some (.cells #[va] ot (0, 0)))
    (h2 : w'.ownsRow (b + 1) 5 1 v2 n vs) (hvs : vs = xs.map byteV) : OutIs (w'.setCell ⟨b, 0, none⟩ v2) b xs := by
  subst hvs
  have hn : n = xs.length := by have := h2.1; simp at this; exact this.symm
  subst hn
  exact ⟨v2, ot, one_setCell hb, ownsRow_setCell_below h2 (by show b < b + 1; omega) _⟩

theorem below_da {B : Nat} {w wr w' : World} {o : Obj} {row : Option Nat} (h : Below B w wr) (hB : B ≤ wr.heap.size) (hg : (wr.drew.alloc o).grownBy w' row) (hr : ∀ k, row = some k → B ≤ k) : Below B w w' :=
  (h.drew.alloc (by exact hB) o).grown hg (by show B ≤ (wr.heap.push o).size; simp; omega) hr

set_option maxHeartbeats 800000 in
theorem put_any (b : Nat) (xs : List UInt8) (n v : Nat) (w : World) (_hv : v < 18446744073709551616) (hn1 : 1 ≤ n) (hn : n ≤ 8) (hx : xs.length ≤ 1000000000) (ho : OutIs w b xs) :
    Calls Try.prog 94 #[.pointer (some ⟨b, 0, none⟩), .int .i64 (n : Int), .int .u64 (v : Int)] w fun e w' => e = .returned (.tuple #[]) ∧ OutIs w' b (xs ++ numBytes v n) ∧ Below b w w' := by
  obtain ⟨va, ot, hb, hown⟩ := ho
  obtain ⟨i0, hi, hz0, hz1, hz2⟩ := info_parts infoU8
  go_enter Try.func94, Try.ntmps94
  go_wp2_with fail
  go_loopw [6, 14] (fun _ i wr => ∃ (k : Nat) (ys : List UInt8), k ≤ n ∧ i = .int .i64 (k : Int) ∧ OutIs wr b ys ∧ Hid (ys = xs ++ numBytes v k) ∧ Below b w wr) (fun _ i _ => n - (intOf i).toNat)
  case atStart => exact ⟨0, xs, by omega, rfl, ⟨va, ot, hb, hown⟩, hid (by simp [numBytes]), Below.refl _ _⟩
  case round =>
    obtain ⟨k, ys, hk, rfl, ⟨va, ot, hb, hown⟩, hys, hbl⟩ := hrel
    have hlen2 : ys.length ≤ 1000000008 := by rw [hys.out, List.length_append, numBytes_length]; omega
    by_cases hlt : k < n
    · have hc : wr.cell? ⟨b, 0, none⟩ = some va := cell_of_one hb
      have hf : wr.frozen? ⟨b, 0, none⟩ = false := free_of_one hb
      have hblt := lt_of_block hb
      have hb := hid hb
      go_wp2_with fail
      have hsh : ∀ W, (Op.shift BinOp.shr .u64 (v : Int) .i64 (IntKind.i64.wrap (8 * (k : Int)))).run Try.prog W = .ok (.int .u64 ((v / 2 ^ (8 * k) : Nat) : Int)) W := by
        intro W
        rw [IntWalk.i64_in _ (by omega), shift_shr .u64 .i64 _ _ (by omega) (by simp only [IntKind.bits]; omega), Sem.run_pure]
        rw [show ((8 * (k : Int)).toNat) = 8 * k from by omega]
        congr 2
      have e1 : ∀ o, (wr.drew.alloc o).heap[wr.heap.size]? = some o := fun o => heap_alloc_new _ _
      go_region_law (refine step_append_lies (P := Try.prog) _ rfl (.tmp 21) (.tmp 27) 53 rfl (b + 1) 5 i0 (.int .u8 0) 1 1 Try.underlying53 hi hz0 hz1 hz2 rfl (by decide) va ys.length (ys.map byteV) ?_ ?_ ⟨wr.heap.size, 0, none⟩ 1 1 [.int .u8 (IntKind.u8.wrap ((v : Int) / 2 ^ (8 * k)))] ?_ rfl ?_ (by intro u hu; rw [List.mem_singleton] at hu; subst hu; rfl) (by omega) (by unfold maxLen; omega) (by omega) ?_ (wr.heap.size + 1) ?_ (fun g cap w' h2 h3 h4 h5 => ?_); rfl; exact hown.drew.alloc _; rfl; exact World.news_of_block (e1 _); (simp; omega); simp; (have hb' := kept_da hb.out h3 (own_ne hown); have hc' := cell_of_one hb'; have hf' := free_of_one hb'; replace hb' := hid hb'))
      all_goals
        have hbl' := below_da (w' := w') hbl (by omega) h3 (fun j hj => by have := (hown.lt j hj).1; omega)
        have hst := out_store hb'.out h2 (xs := ys ++ [numAt v k]) (by simp [byteV_numAt])
        have hbs := hbl'.setCell (p := ⟨b, 0, none⟩) (Nat.le_refl _) (.slice (some ⟨g, 0, none⟩) (ys.length + 1) cap)
        clear h2 h3 h4 h5 hc' hf' hbl' hb'
        go_wp2
        go_roundw
        case rel => exact ⟨k + 1, _, by omega, by go_num, hst, hid (by rw [hys.out]; simp [numBytes]), hbs⟩
        case measure => simp [intOf]; omega
    · obtain rfl : k = n := by omega
      go_wp2_with fail
      go_end0
      exact ⟨rfl, by rw [← hys.out]; exact ⟨va, ot, hb, hown⟩, hbl⟩
theorem elemU8 : ElemOk Try.prog 53 5 1 1 := elemOk_of Try.underlying53 infoU8 rfl (by decide)

/-- A call hands back fresh bytes. -/
def RetBytes (w : World) (l : List UInt8) (e : Ending) (w' : World) : Prop := ∃ v', e = .returned v' ∧ BytesAt w' v' l ∧ Below w.heap.size w w'

theorem own_empty (w : World) (e k : Nat) : (w.alloc (.cells #[] e)).ownsRow w.heap.size e k (.slice (some ⟨w.heap.size, 0, none⟩) 0 0) 0 [] :=
  World.ownsRow_made w #[] 0 (Nat.le_refl _) (by unfold maxLen; omega) (by simp)

theorem BytesAt.of_own {w : World} {base e n : Nat} {v : Value} {xs : List Value} {l : List UInt8} (h : w.ownsRow base e 1 v n xs) (hx : xs = l.map byteV) : BytesAt w v l := by
  subst hx
  have := RowAt.of_own h
  obtain rfl : n = l.length := by have := h.1; simp at this; omega
  exact this

theorem bytes_len0 {w : World} {v : Value} {l : List UInt8} {c : Nat} (h : BytesAt w (.slice none l.length c) l) (hv : v = .slice none 0 0) : BytesAt w v l := by
  obtain ⟨hl, a, c', he, h1, h2, h3, _, h4⟩ := h
  cases he
  have hc := h3 rfl
  obtain rfl : l = [] := List.eq_nil_of_length_eq_zero (by omega)
  subst hv
  exact RowAt.nil

/-- The same, in a block of its own. -/
def RetNew (w : World) (l : List UInt8) (e : Ending) (w' : World) : Prop := ∃ v', e = .returned v' ∧ (BytesAt w' v' l ∧ ∀ k, v'.ownBlock = some k → w.heap.size ≤ k) ∧ Below w.heap.size w w'

set_option maxHeartbeats 400000 in
theorem clip_at (a : Option Addr) (n c : Nat) (w : World) (_hn : n ≤ c) (_hc : c ≤ maxLen) :
    Calls Try.prog 114 #[.slice a n c] w fun e w' => e = .returned (.slice a n n) ∧ w = w' := by
  unfold maxLen at _hc
  go_enter Try.func114, Try.ntmps114
  go_wp2
  go_ret
  exact ⟨rfl, rfl⟩

set_option maxHeartbeats 400000 in
theorem clone_new (v : Value) (l : List UInt8) (w : World) (h : BytesAt w v l) (hl : l.length ≤ 1000000008) :
    Calls Try.prog 110 #[v] w (RetNew w l) := by
  obtain ⟨a, c, rfl, hc1, hc2, hc3⟩ := h.form
  have qT := fun (w : World) (a : Option Addr) (n c n' c' : Nat) => Lib.run_eql_slice_nil (P := Try.prog) w 53 5 a n c n' c' Try.underlying53
  cases a with
  | none =>
    clear hc3
    go_enter Try.func110, Try.ntmps110
    go_wp2
    go_ret
    exact ⟨_, rfl, ⟨bytes_len0 h rfl, fun k hk => by cases hk⟩, Below.refl _ _⟩
  | some a =>
    have h0 := h.below ((Below.refl w.heap.size w).alloc (Nat.le_refl _) (.cells #[] 5))
    go_enter Try.func110, Try.ntmps110
    go_wp2_with (at_builtin; refine wpList_append_row elemU8 _ rfl (.tmp 5) (.tmp 6) rfl w.heap.size _ 0 [] rfl (own_empty w 5 1) _ l.length (l.map byteV) rfl h0 (bytes_oneCell l) (by unfold maxLen; omega) (by omega) (by simp) (fun a' c' w' h2 h3 => ?_))
    go_ret
    simp only [Nat.zero_add] at h2
    have h4 := BytesAt.of_own (l := l) h2 (by simp)
    exact ⟨_, rfl, ⟨h4, fun k hk => (h2.lt k hk).1⟩, (((Below.refl w.heap.size w).alloc (Nat.le_refl _) _).grown h3 (by simp) (fun k hk => by cases hk; exact Nat.le_refl _))⟩
theorem clone_any (v : Value) (l : List UInt8) (w : World) (h : BytesAt w v l) (hl : l.length ≤ 1000000008) :
    Calls Try.prog 110 #[v] w (RetBytes w l) := (clone_new v l w h hl).mono fun _ _ ⟨v', h1, h2, h3⟩ => ⟨v', h1, h2.1, h3⟩

def RetSame (w : World) (l : List UInt8) (e : Ending) (w' : World) : Prop := ∃ v', e = .returned v' ∧ BytesAt w' v' l ∧ w = w'

set_option maxHeartbeats 400000 in
theorem clip_any (v : Value) (l : List UInt8) (w : World) (h : BytesAt w v l) :
    Calls Try.prog 114 #[v] w (RetSame w l) := by
  obtain ⟨a, c, rfl, hc1, hc2, hc3⟩ := h.form
  have hc2' := hc2
  unfold maxLen at hc2
  go_enter Try.func114, Try.ntmps114
  go_wp2
  go_ret
  exact ⟨_, rfl, by have := h.take l.length l.length (Nat.le_refl _) (Nat.le_refl _) hc1; rwa [List.take_length] at this, rfl⟩

/-- What an Out holds reads as its bytes. -/
theorem OutIs.bytes {w : World} {b : Nat} {xs : List UInt8} (h : OutIs w b xs) : ∃ v, ∃ ot : TypeId, w.heap[b]? = some (.cells #[v] ot (0, 0)) ∧ BytesAt w v xs := by
  obtain ⟨v, ot, h1, h2⟩ := h
  exact ⟨v, ot, h1, BytesAt.of_own h2 rfl⟩

set_option maxHeartbeats 400000 in
theorem out_bytes_new (b : Nat) (xs : List UInt8) (w : World) (hx : xs.length ≤ 1000000008) (ho : OutIs w b xs) :
    Calls Try.prog 96 #[.pointer (some ⟨b, 0, none⟩)] w (RetNew w xs) := by
  obtain ⟨v, ot, hb, hv⟩ := ho.bytes
  have hc := cell_of_one hb
  have hf := free_of_one hb
  clear hb
  go_enter Try.func96, Try.ntmps96
  go_wp2_with fail
  refine (clone_new v xs w hv hx).mono ?_
  rintro e w1 ⟨v1, rfl, h1, hb1⟩
  obtain ⟨h1, hnew⟩ := h1
  obtain ⟨a1, c1, rfl, g1, g2, _⟩ := h1.form
  replace hnew := hid hnew
  go_wp2_with fail
  refine (clip_at a1 xs.length c1 w1 g1 g2).mono ?_
  rintro e w2 ⟨rfl, rfl⟩
  go_wp2_with fail
  go_ret
  exact ⟨_, rfl, ⟨by have := h1.take xs.length xs.length (Nat.le_refl _) (Nat.le_refl _) g1; rwa [List.take_length] at this, fun k hk => hnew.out k (by cases a1 <;> exact hk)⟩, hb1⟩
theorem out_bytes_any (b : Nat) (xs : List UInt8) (w : World) (hx : xs.length ≤ 1000000008) (ho : OutIs w b xs) :
    Calls Try.prog 96 #[.pointer (some ⟨b, 0, none⟩)] w (RetBytes w xs) := (out_bytes_new b xs w hx ho).mono fun _ _ ⟨v', h1, h2, h3⟩ => ⟨v', h1, h2.1, h3⟩

set_option maxHeartbeats 800000 in
theorem raw_any (b : Nat) (xs l : List UInt8) (v : Value) (w : World) (hl : BytesAt w v l) (hx : xs.length + l.length ≤ 1000000000) (ho : OutIs w b xs) :
    Calls Try.prog 95 #[.pointer (some ⟨b, 0, none⟩), v] w fun e w' => e = .returned (.tuple #[]) ∧ OutIs w' b (xs ++ l) ∧ Below b w w' := by
  obtain ⟨va, ot, hb, hown⟩ := ho
  have hc := cell_of_one hb
  have hf := free_of_one hb
  have hblt := lt_of_block hb
  replace hb := hid hb
  go_enter Try.func95, Try.ntmps95
  go_wp2_with (at_builtin; refine wpList_append_row elemU8 _ rfl (.tmp 8) (.tmp 9) rfl (b + 1) va xs.length (xs.map byteV) rfl hown v l.length (l.map byteV) rfl hl (bytes_oneCell l) (by unfold maxLen; omega) (by omega) (by omega) ?_)
  intro a' c' w' h2 h3
  have hb' : w'.heap[b]? = some (.cells #[va] ot (0, 0)) := (h3.block b hblt (own_ne hown)).trans hb.out
  have hc' := cell_of_one hb'
  have hf' := free_of_one hb'
  have hbl' : Below b w w' := (Below.refl b w).grown h3 (by omega) (fun j hj => by have := (hown.lt j hj).1; omega)
  have hst := out_store hb' h2 (xs := xs ++ l) (by simp)
  have hbs := hbl'.setCell (p := ⟨b, 0, none⟩) (Nat.le_refl _) (.slice a' (xs.length + l.length) c')
  clear h2 h3 hb' hbl'
  go_wp2
  go_end0
  exact ⟨rfl, hst, hbs⟩
end Go.Proofs.Ytpmlhmficmillaa
