/- What stat.Encode returns, for every record whose texts are at most 200 bytes each. No further condition. And the texts behind it. -/
import Derived.Test.YtcbglcebdkpcfaaGreatCeA04
import Derived.Test.YtcbglcebdkpcfaaGreatCeA02
namespace Go.Proofs.YtcbglcebdkpcfaaGreat
section
open Go.RowKit
set_option maxRecDepth 100000

def bytes4 : List Nat → List UInt8
  | [] => []
  | n :: l => numBytes n 4 ++ bytes4 l
theorem bytes4_append : ∀ l m : List Nat, bytes4 (l ++ m) = bytes4 l ++ bytes4 m
  | [], _ => rfl
  | n :: l, m => by rw [List.cons_append]; simp only [bytes4]; rw [bytes4_append l m, List.append_assoc]
theorem bytes4_length : ∀ l : List Nat, (bytes4 l).length = 4 * l.length
  | [] => rfl
  | n :: l => by simp only [bytes4]; rw [List.length_append, numBytes_length, bytes4_length l]; simp; omega
theorem bytes4_snoc (l : List Nat) (k : Nat) (h : k < l.length) : bytes4 (l.take (k + 1)) = bytes4 (l.take k) ++ numBytes l[k] 4 := by
  rw [List.take_succ_eq_append_getElem h, bytes4_append]; simp [bytes4]

theorem textsBytes_append : ∀ l m : List ByteArray, textsBytes (l ++ m) = textsBytes l ++ textsBytes m
  | [], _ => rfl
  | n :: l, m => by rw [List.cons_append]; simp only [textsBytes]; rw [textsBytes_append l m, List.append_assoc]
theorem putText_length (s : ByteArray) : (putText s).length = 2 + s.size := by unfold putText; rw [List.length_append, numBytes_length]; simp
theorem textsBytes_snoc (l : List ByteArray) (k : Nat) (h : k < l.length) : textsBytes (l.take (k + 1)) = textsBytes (l.take k) ++ putText l[k] := by
  rw [List.take_succ_eq_append_getElem h, textsBytes_append]; simp [textsBytes]
theorem textsErr_drop (l : List ByteArray) (k : Nat) (h : k < l.length) : textsErr (l.drop k) = if mayN l[k] = 0 then textsErr (l.drop (k + 1)) else mayN l[k] := by
  rw [List.drop_eq_getElem_cons h]; rfl

theorem arr3 {α : Type} (a b c : α) (k : Nat) (h : k < 3) : (#[a, b, c])[k]? = some ([a, b, c][k]) := by
  match k, h with
  | 0, _ => rfl
  | 1, _ => rfl
  | 2, _ => rfl
theorem head_eq (s : Stat) : s.head = numBytes s.kind 2 ++ numBytes s.dev 4 ++ qidBytes s.qt s.qv s.qp ++ bytes4 [s.mode, s.atm, s.mtm] ++ numBytes s.len 8 := by
  unfold Stat.head; simp [bytes4]

structure EncAt (w w' : World) (b q : Nat) (cs : Array Value) (ys : List UInt8) : Prop where
  out : OutIs w' b ys
  box : w'.heap[q]? = some (.cells cs 39 (0, 0))
  below : Below q w w'
  lt : q < b

theorem EncAt.step {w w1 w2 : World} {b q : Nat} {cs : Array Value} {ys zs : List UInt8} (h : EncAt w w1 b q cs ys) (ho : OutIs w2 b zs) (hs : OStep b w1 w2) : EncAt w w2 b q cs zs :=
  ⟨ho, (hs.below.block q h.lt).trans h.box, h.below.trans (hs.below.mono (Nat.le_of_lt h.lt)), h.lt⟩

theorem EncAt.same {w w1 w2 : World} {b q : Nat} {cs : Array Value} {ys : List UInt8} (h : EncAt w w1 b q cs ys) (hb : Below w1.heap.size w1 w2) : EncAt w w2 b q cs ys :=
  ⟨h.out.below hb, (hb.block q (lt_of_block h.box)).trans h.box, h.below.trans (hb.mono (Nat.le_of_lt (lt_of_block h.box))), h.lt⟩

def EncNew (w : World) (s : Stat) (e : Ending) (w' : World) : Prop := ∃ v', e = .returned (.tuple #[v', .int .i64 (s.err : Int)]) ∧ (BytesAt w' v' s.bytes ∧ ∀ k, v'.ownBlock = some k → w.heap.size ≤ k) ∧ Below w.heap.size w w'
set_option maxHeartbeats 3200000 in
theorem encode_new (s : Stat) (w : World) (hok : StatOk s) (hf : Few s) : Calls Tryz.prog 130 #[.agg s.cells] w (EncNew w s) := by
  have hsz := hid (size_any s)
  have hsize : s.size ≤ 849 := by obtain ⟨h1, h2, h3, h4⟩ := hf; unfold Stat.size; omega
  obtain ⟨o1, o2, o3, o4, o5, o6, o7, o8, o9, _, _, _, _⟩ := hok
  have hfew := hid hf
  obtain ⟨f1, f2, f3, f4⟩ := hf
  have hE : Hid (s.err = textsErr s.texts) := hid rfl
  have hB : Hid (s.bytes = if s.err = 0 then numBytes (s.size - 2) 2 ++ s.head ++ textsBytes s.texts else []) := hid rfl
  have hH := hid (head_eq s)
  obtain ⟨cs, hcs⟩ : ∃ cs, cs = s.cells := ⟨_, rfl⟩
  have hcs' := hid hcs
  rw [← hcs]
  have hbox : ∀ W : World, (∀ i, W.cell? ⟨w.heap.size, i, none⟩ = cs[i]?) → True := fun _ _ => trivial
  clear hbox
  subst hcs
  clear hcs'
  have st0 : EncAt w ((w.alloc (.cells s.cells 39)).alloc (.cells #[.slice none 0 0] 133)) (w.heap.size + 1) w.heap.size s.cells [] :=
    ⟨by have := outIs_new (t := 133) (w.alloc (.cells s.cells 39)); simpa using this, by rw [heap_alloc_old _ _ (by simp), heap_alloc_new], ((Below.refl _ _).alloc (Nat.le_refl _) _).alloc (by simp) _, by omega⟩
  have hcs : Hid (s.cells = #[.int .u16 (s.kind : Int), .int .u32 (s.dev : Int), .int .u8 (s.qt : Int), .int .u32 (s.qv : Int), .int .u64 (s.qp : Int), .int .u32 (s.mode : Int), .int .u32 (s.atm : Int), .int .u32 (s.mtm : Int), .int .u64 (s.len : Int), .string s.name, .string s.uid, .string s.gid, .string s.muid]) := hid rfl
  go_enter Tryz.func130, Tryz.ntmps130
  rw [hcs.out]
  go_wp2_with fail
  rw [← hcs.out]
  refine (hsz.out _ hfew.out).mono ?_
  rintro e w1 ⟨rfl, hb1⟩
  have st1 := st0.same hb1
  have hw2 : (s.size : Int) - 2 = ((s.size - 2 : Nat) : Int) := by unfold Stat.size; omega
  go_wp2_with fail
  refine (put_step (w.heap.size + 1) [] 2 (s.size - 2) w1 (by omega) (by omega) (by omega) (by simp) st1.out).mono ?_
  rintro e w2 ⟨rfl, ho2, hs2⟩
  rw [List.nil_append] at ho2
  have st2 := st1.step ho2 hs2
  clear hs2 ho2 st1 hb1 hw2
  have c0 : w2.cell? ⟨w.heap.size, 0, none⟩ = some (.int .u16 (s.kind : Int)) := block_cell st2.box 0
  have l2 : (numBytes (s.size - 2) 2).length = 2 := by simp [numBytes_length]
  replace l2 := hid l2
  go_wp2_with fail
  refine (put_step (w.heap.size + 1) _ 2 s.kind w2 (by omega) (by omega) (by omega) (by rw [l2.out]; omega) st2.out).mono ?_
  rintro e w3 ⟨rfl, ho3, hs3⟩
  have st3 := st2.step ho3 hs3
  clear hs3 ho3 st2 c0 l2
  have c1 : w3.cell? ⟨w.heap.size, 0 + 1, none⟩ = some (.int .u32 (s.dev : Int)) := block_cell st3.box 1
  have l3 : (numBytes (s.size - 2) 2 ++ numBytes s.kind 2).length = 4 := by simp [numBytes_length]
  replace l3 := hid l3
  go_wp2_with fail
  refine (put_step (w.heap.size + 1) _ 4 s.dev w3 (by omega) (by omega) (by omega) (by rw [l3.out]; omega) st3.out).mono ?_
  rintro e w4 ⟨rfl, ho4, hs4⟩
  have st4 := st3.step ho4 hs4
  clear hs4 ho4 st3 c1 l3
  have c2 : w4.cell? ⟨w.heap.size, 0 + 2, none⟩ = some (.int .u8 (s.qt : Int)) := block_cell st4.box 2
  have c3 : w4.cell? ⟨w.heap.size, 0 + 2 + 1, none⟩ = some (.int .u32 (s.qv : Int)) := block_cell st4.box 3
  have c4 : w4.cell? ⟨w.heap.size, 0 + 2 + 2, none⟩ = some (.int .u64 (s.qp : Int)) := block_cell st4.box 4
  have l4 : (numBytes (s.size - 2) 2 ++ numBytes s.kind 2 ++ numBytes s.dev 4).length = 8 := by simp [numBytes_length]
  replace l4 := hid l4
  go_wp2_with fail
  refine (qid_put_any (w.heap.size + 1) _ s.qt s.qv s.qp w4 (by omega) (by omega) (by omega) (by rw [l4.out]; omega) st4.out).mono ?_
  rintro e w5 ⟨rfl, ho5, hs5⟩
  have st5 := st4.step ho5 hs5
  clear hs5 ho5 st4 c2 c3 c4 l4
  have c5 : w5.cell? ⟨w.heap.size, 0 + 5, none⟩ = some (.int .u32 (s.mode : Int)) := block_cell st5.box 5
  have c6 : w5.cell? ⟨w.heap.size, 0 + 6, none⟩ = some (.int .u32 (s.atm : Int)) := block_cell st5.box 6
  have c7 : w5.cell? ⟨w.heap.size, 0 + 7, none⟩ = some (.int .u32 (s.mtm : Int)) := block_cell st5.box 7
  obtain ⟨xs, hxs⟩ : ∃ xs, xs = numBytes (s.size - 2) 2 ++ numBytes s.kind 2 ++ numBytes s.dev 4 ++ qidBytes s.qt s.qv s.qp := ⟨_, rfl⟩
  rw [← hxs] at st5
  have lx : xs.length = 21 := by rw [hxs]; simp [numBytes_length, qidBytes_length]
  replace hxs := hid hxs
  have lx2 : xs.length ≤ 21 := by omega
  replace lx := hid lx
  have hnf := st5.out.new (.cells #[.int .u32 (s.mode : Int), .int .u32 (s.atm : Int), .int .u32 (s.mtm : Int)] 32)
  have hnb := heap_alloc_new w5 (.cells #[.int .u32 (s.mode : Int), .int .u32 (s.atm : Int), .int .u32 (s.mtm : Int)] 32)
  have st6 := st5.same ((Below.refl w5.heap.size w5).alloc (Nat.le_refl _) (.cells #[.int .u32 (s.mode : Int), .int .u32 (s.atm : Int), .int .u32 (s.mtm : Int)] 32))
  replace hnb := hid hnb
  go_wp2_with fail
  go_loopw [34] (fun i wr => ∃ k : Nat, k ≤ 3 ∧ i = .int .i64 (k : Int) ∧ EncAt w wr (w.heap.size + 1) w.heap.size s.cells (xs ++ bytes4 ([s.mode, s.atm, s.mtm].take k)) ∧ ¬ Foot wr (w.heap.size + 1) w5.heap.size ∧
      wr.heap[w5.heap.size]? = some (.cells #[.int .u32 (s.mode : Int), .int .u32 (s.atm : Int), .int .u32 (s.mtm : Int)] 32 (0, 0))) (fun i _ => 3 - (intOf i).toNat)
  case atStart => exact ⟨0, by omega, rfl, by simpa [bytes4] using st6, hnf, hnb.out⟩
  case round =>
    obtain ⟨k, hk, rfl, st, hnf, hnb⟩ := hrel
    by_cases hlt : k < 3
    · have hlt2 : k < [s.mode, s.atm, s.mtm].length := hlt
      have hcell : wr.cell? ⟨w5.heap.size, k, none⟩ = some (.int .u32 ([s.mode, s.atm, s.mtm][k] : Int)) := by
        rw [block_cell hnb k, arr3 _ _ _ k hlt]
        match k, hlt with
        | 0, _ => rfl
        | 1, _ => rfl
        | 2, _ => rfl
      have hlt3 : [s.mode, s.atm, s.mtm][k] < 4294967296 := by
        match k, hlt with
        | 0, _ => exact o6
        | 1, _ => exact o7
        | 2, _ => exact o8
      have hsn := hid (bytes4_snoc [s.mode, s.atm, s.mtm] k hlt2)
      have hll : (xs ++ bytes4 ([s.mode, s.atm, s.mtm].take k)).length ≤ 33 := by rw [List.length_append, bytes4_length, List.length_take]; simp; omega
      generalize [s.mode, s.atm, s.mtm][k] = x at hcell hlt3 hsn
      replace hnb := hid hnb
      generalize hgy : xs ++ bytes4 ([s.mode, s.atm, s.mtm].take k) = ys at st hll
      replace hgy := hid hgy
      go_wp2_with fail
      refine (put_step (w.heap.size + 1) ys 4 x wr (by omega) (by omega) (by omega) (by omega) st.out).mono ?_
      rintro e w6 ⟨rfl, ho6, hs6⟩
      obtain ⟨e6, n6⟩ := hs6.block w5.heap.size (lt_of_block hnb.out) hnf
      have st6 := st.step ho6 hs6
      replace e6 := hid (e6.trans hnb.out)
      replace n6 := hid n6
      clear hs6 ho6 hcell
      go_wp2_with fail
      go_roundw
      case rel => exact ⟨k + 1, by omega, by go_num, by rw [hsn.out, ← List.append_assoc, hgy.out]; exact st6, n6.out, e6.out⟩
      case measure => simp [intOf]; omega
    · obtain rfl : k = 3 := by omega
      rw [show [s.mode, s.atm, s.mtm].take 3 = [s.mode, s.atm, s.mtm] from rfl] at st
      clear hnb hnf
      have c8 : wr.cell? ⟨w.heap.size, 0 + 8, none⟩ = some (.int .u64 (s.len : Int)) := block_cell st.box 8
      have hll : (xs ++ bytes4 [s.mode, s.atm, s.mtm]).length = 33 := by rw [List.length_append, bytes4_length]; simp [lx.out]
      replace hll := hid hll
      go_wp2_with fail
      refine (put_step (w.heap.size + 1) _ 8 s.len wr (by omega) (by omega) (by omega) (by rw [hll.out]; omega) st.out).mono ?_
      rintro e w7 ⟨rfl, ho7, hs7⟩
      have st7 := st.step ho7 hs7
      clear hs7 ho7 st c8
      obtain ⟨zs, hzs⟩ : ∃ zs, zs = xs ++ bytes4 [s.mode, s.atm, s.mtm] ++ numBytes s.len 8 := ⟨_, rfl⟩
      rw [← hzs] at st7
      have lz : zs.length ≤ 41 := by rw [hzs, List.length_append, hll.out, numBytes_length]; omega
      have hZ : Hid (zs = numBytes (s.size - 2) 2 ++ s.head) := hid (by rw [hzs, hxs.out, hH.out]; simp)
      clear hzs hll
      have c9 : w7.cell? ⟨w.heap.size, 0 + 9, none⟩ = some (.string s.name) := block_cell st7.box 9
      have c10 : w7.cell? ⟨w.heap.size, 0 + 10, none⟩ = some (.string s.uid) := block_cell st7.box 10
      have c11 : w7.cell? ⟨w.heap.size, 0 + 11, none⟩ = some (.string s.gid) := block_cell st7.box 11
      have c12 : w7.cell? ⟨w.heap.size, 0 + 12, none⟩ = some (.string s.muid) := block_cell st7.box 12
      have hnf := st7.out.new (.cells #[.string s.name, .string s.uid, .string s.gid, .string s.muid] 9)
      have hnb := heap_alloc_new w7 (.cells #[.string s.name, .string s.uid, .string s.gid, .string s.muid] 9)
      have st8 := st7.same ((Below.refl w7.heap.size w7).alloc (Nat.le_refl _) (.cells #[.string s.name, .string s.uid, .string s.gid, .string s.muid] 9))
      replace hnb := hid hnb
      obtain ⟨T, hT⟩ : ∃ T, T = s.texts := ⟨_, rfl⟩
      have hTl : T.length = 4 := by rw [hT]; rfl
      have hTs : ∀ k (h : k < T.length), T[k].size ≤ 200 := by
        subst hT
        intro k h
        match k, h with
        | 0, _ => exact f1
        | 1, _ => exact f2
        | 2, _ => exact f3
        | 3, _ => exact f4
      have hTc : ∀ k (h : k < T.length), (#[Value.string s.name, .string s.uid, .string s.gid, .string s.muid])[k]? = some (.string T[k]) := by
        subst hT
        intro k h
        match k, h with
        | 0, _ => rfl
        | 1, _ => rfl
        | 2, _ => rfl
        | 3, _ => rfl
      have hTsum : ∀ k, k ≤ 4 → (textsBytes (T.take k)).length ≤ k * 202 := by
        intro k
        induction k with
        | zero => intro _; simp [textsBytes]
        | succ k ih =>
          intro hk
          have hkl : k < T.length := by omega
          rw [textsBytes_snoc T k hkl, List.length_append, putText_length]
          have := hTs k hkl
          have := ih (by omega)
          omega
      replace hT := hid hT
      replace hTs := hid hTs
      replace hTc := hid hTc
      replace hTsum := hid hTsum
      have hTl2 : T.length ≤ 4 := by omega
      have hTl4 := hid hTl
      clear hTl
      go_wp2_with fail
      go_loopw [55] (fun i wr => ∃ k : Nat, k ≤ 4 ∧ i = .int .i64 (k : Int) ∧ EncAt w wr (w.heap.size + 1) w.heap.size s.cells (zs ++ textsBytes (T.take k)) ∧ ¬ Foot wr (w.heap.size + 1) w7.heap.size ∧
          wr.heap[w7.heap.size]? = some (.cells #[.string s.name, .string s.uid, .string s.gid, .string s.muid] 9 (0, 0)) ∧ Hid (textsErr T = textsErr (T.drop k))) (fun i _ => 4 - (intOf i).toNat)
      case atStart => exact ⟨0, by omega, rfl, by simpa [textsBytes] using st8, hnf, hnb.out, hid rfl⟩
      case round =>
        obtain ⟨k, hk, rfl, st, hnf, hnb, hte⟩ := hrel
        by_cases hlt : k < 4
        · have hlt2 : k < T.length := by rw [hTl4.out]; exact hlt
          have hcell : wr.cell? ⟨w7.heap.size, k, none⟩ = some (.string T[k]) := by
            rw [block_cell hnb k, hTc.out k hlt2]
          have hts := hTs.out k hlt2
          have hsn := hid (textsBytes_snoc T k hlt2)
          have hed := hid (textsErr_drop T k hlt2)
          have hll : (zs ++ textsBytes (T.take k)).length ≤ 900 := by rw [List.length_append]; have := hTsum.out k hk; omega
          generalize T[k] = x at hcell hts hsn hed
          replace hnb := hid hnb
          generalize hgy : zs ++ textsBytes (T.take k) = ys at st hll
          replace hgy := hid hgy
          by_cases hm : mayN x = 0
          · have hpr := hid (putTextR_ok hm)
            have hed2 : Hid (textsErr T = textsErr (T.drop (k + 1))) := hid (by rw [hte.out, hed.out, if_pos hm])
            replace hm := hid hm
            go_wp2_with fail
            refine (text_put_step (w.heap.size + 1) ys x wr (by omega) (by omega) st.out).mono ?_
            rw [hm.out]
            rintro e w6 ⟨rfl, ho6, hs6⟩
            obtain ⟨e6, n6⟩ := hs6.block w7.heap.size (lt_of_block hnb.out) hnf
            have st6 := st.step ho6 hs6
            replace e6 := hid (e6.trans hnb.out)
            replace n6 := hid n6
            clear hs6 ho6 hcell
            go_wp2_with fail
            go_roundw
            case rel => exact ⟨k + 1, by omega, by go_num, by rw [hsn.out, ← List.append_assoc, hgy.out, ← hpr.out]; exact st6, n6.out, e6.out, hed2⟩
            case measure => simp [intOf]; omega
          · have hfin : s.err = mayN x := by rw [hE.out, ← hT.out, hte.out, hed.out, if_neg hm]
            have hfb : s.bytes = [] := by rw [hB.out, if_neg (by rw [hfin]; exact hm)]
            have k0 : ((mayN x : Int) != 0) = true := by simpa using hm
            replace hfin := hid hfin
            replace hfb := hid hfb
            clear hm
            go_wp2_with fail
            refine (text_put_step (w.heap.size + 1) ys x wr (by omega) (by omega) st.out).mono ?_
            rintro e w6 ⟨rfl, ho6, hs6⟩
            have st6 := st.step ho6 hs6
            clear hs6 ho6 hcell
            go_wp2_with fail
            go_ret2
            exact ⟨_, by rw [hfin.out]; rfl, ⟨by rw [hfb.out]; exact RowAt.nil, fun k hk => by cases hk⟩, st6.below⟩
        · obtain rfl : k = 4 := by omega
          have hfin : s.err = 0 := by rw [hE.out, ← hT.out, hte.out, List.drop_of_length_le hTl2]; rfl
          have hfb : s.bytes = zs ++ textsBytes (T.take 4) := by rw [hB.out, if_pos hfin, hZ.out, List.take_of_length_le hTl2, hT.out]
          have hll : (zs ++ textsBytes (T.take 4)).length ≤ 900 := by rw [List.length_append]; have := hTsum.out 4 (by omega); omega
          replace hfin := hid hfin
          replace hfb := hid hfb
          generalize hgy : zs ++ textsBytes (T.take 4) = ys at st hll
          replace hgy := hid hgy
          clear hnf hnb
          go_wp2_with fail
          refine (out_bytes_new (w.heap.size + 1) ys wr (by omega) st.out).mono ?_
          rintro e w9 ⟨v9, rfl, hv9, hb9⟩
          obtain ⟨hv9, hn9⟩ := hv9
          replace hn9 := hid hn9
          go_wp2_with fail
          go_ret2
          exact ⟨_, by rw [hfin.out]; rfl, ⟨by rw [hfb.out, hgy.out]; exact hv9, fun k hk => Nat.le_trans st.below.size (hn9.out k hk)⟩, sn st.below hb9⟩
theorem head_len (s : Stat) : s.head.length = 39 := by unfold Stat.head; simp [numBytes_length, qidBytes_length]
theorem bytes_len (s : Stat) : s.bytes.length = if s.err = 0 then s.size else 0 := by
  unfold Stat.bytes
  split
  · rw [List.length_append, List.length_append, head_len, numBytes_length]
    unfold Stat.texts Stat.size
    simp only [textsBytes, List.length_append, putText_length, List.length_nil]
    omega
  · rfl
theorem bytes_le (s : Stat) (h : Few s) : s.bytes.length ≤ 849 := by
  rw [bytes_len]
  obtain ⟨h1, h2, h3, h4⟩ := h
  unfold Stat.size
  split <;> omega
end
end Go.Proofs.YtcbglcebdkpcfaaGreat

namespace Go.Proofs.YtcbglcebdkpcfaaGreat
section
open Go.RowKit
set_option maxRecDepth 100000
set_option linter.unusedVariables false

structure StrS (w : World) (k : Nat) (v : Value) (l : List UInt8) (d : Bool) : Prop where
  blk : w.heap[k]? = some (.cells #[v, .bool d] 79 (0, 0))
  row : BytesAt w v l
  own : v.ownBlock ≠ some k
structure KStep (k : Nat) (w w' : World) : Prop where
  below : ∀ B, B ≤ k → B ≤ w.heap.size → Below B w w'
  block : ∀ j, j < w.heap.size → j ≠ k → w'.heap[j]? = w.heap[j]?
  size : w.heap.size ≤ w'.heap.size
theorem KStep.pure {k : Nat} {w w' : World} (h : Below w.heap.size w w') : KStep k w w' := ⟨fun B _ h2 => h.mono h2, fun j hj _ => h.block j hj, h.size⟩
theorem KStep.refl (k : Nat) (w : World) : KStep k w w := .pure (Below.refl _ _)
theorem KStep.trans {k : Nat} {w w1 w2 : World} (h : KStep k w w1) (g : KStep k w1 w2) : KStep k w w2 :=
  ⟨fun B h1 h2 => (h.below B h1 h2).trans (g.below B h1 (Nat.le_trans h2 h.size)), fun j hj hn => (g.block j (Nat.lt_of_lt_of_le hj h.size) hn).trans (h.block j hj hn), Nat.le_trans h.size g.size⟩
theorem KStep.cell {k i : Nat} (w : World) (u : Value) : KStep k w (w.setCell ⟨k, i, none⟩ u) :=
  ⟨fun B h1 h2 => (Below.refl B w).setCell (p := ⟨k, i, none⟩) h1 u, fun j _ hn => block_set_other hn, by simp [World.setCell]⟩
theorem StrS.below {w w' : World} {k : Nat} {v : Value} {l : List UInt8} {d : Bool} (h : StrS w k v l d) (hb : Below w.heap.size w w') : StrS w' k v l d :=
  ⟨(hb.block _ (lt_of_block h.blk)).trans h.blk, h.row.below hb, h.own⟩
def leadN (l : List UInt8) : Nat := leN (l.take 4)
def diesChain : List PanicEntry := [{ v := .iface 112 (.agg #[]), recovered := false }]
section
variable {w : World} {k : Nat} {v : Value} {l : List UInt8} {most : Nat}
set_option maxHeartbeats 800000 in
theorem next_short (h : StrS w k v l false) (hl : l.length < 4) :
    Calls Tryz.prog 33 #[.pointer (some ⟨k, 0, none⟩), .int .i64 (most : Int)] w fun e w' => e = .returned (.tuple #[.slice none 0 0, .bool false]) ∧ w' = w := by
  obtain ⟨a, c, rfl, _, _⟩ := h.row.form
  have c0 := block_cell h.blk 0
  have h4 : (l.length : Int) < 4 := by omega
  clear h
  go_enter Tryz.func33, Tryz.ntmps33
  go_wp2_with fail
  refine bodyPost_ret (results_tmp2 rfl _ _ _) rfl ?_
  exact ⟨rfl, rfl⟩
def nextN (l : List UInt8) (most : Nat) : Nat := if leadN l < 7 ∨ most < leadN l then 0 else if l.length < leadN l then 1 else 2
def NextP (w : World) (k : Nat) (v : Value) (l : List UInt8) (most : Nat) (e : Ending) (w' : World) : Prop :=
  KStep k w w' ∧ ((nextN l most = 0 ∧ e = .panicked diesChain ∧ StrS w' k v l false) ∨ (nextN l most = 1 ∧ e = .returned (.tuple #[.slice none 0 0, .bool false]) ∧ StrS w' k v l false) ∨
    (nextN l most = 2 ∧ ∃ x v', e = .returned (.tuple #[x, .bool true]) ∧ BytesAt w' x ((l.take (leadN l)).drop 4) ∧ (∀ j, x.ownBlock = some j → w.heap.size ≤ j) ∧ StrS w' k v' (l.drop (leadN l)) false ∧ v'.ownBlock = v.ownBlock))
set_option maxHeartbeats 3200000 in
theorem next_any (h : StrS w k v l false) (hl : 4 ≤ l.length) (hm : l.length ≤ 1000000000) (hmo : most ≤ 1000000000) :
    Calls Tryz.prog 33 #[.pointer (some ⟨k, 0, none⟩), .int .i64 (most : Int)] w (NextP w k v l most) := by
  obtain ⟨a, c, rfl, g1, g2, _⟩ := h.row.form
  obtain ⟨bb, oo, rfl, _⟩ := h.row.cell 0 (by omega)
  unfold maxLen at g2
  have c0 := block_cell h.blk 0
  have h4 : ¬ ((l.length : Int) < 4) := by omega
  have ho := hid (in_of_any _ l w h.row (by omega))
  have hlt := hid (lt_of_block h.blk)
  have hkm : IntKind.u64.wrap (most : Int) = (most : Int) := IntWalk.u64_in _ (by omega)
  have hkl : IntKind.u64.wrap (l.length : Int) = (l.length : Int) := IntWalk.u64_in _ (by omega)
  have hm0 : ¬ ((most : Int) < 0) := by omega
  replace h := hid h
  go_enter Tryz.func33, Tryz.ntmps33
  go_wp2_with fail
  refine ho.out.mono ?_
  rintro e w1 ⟨b1, rfl, hb1, hI, hB1⟩
  have ht := in_take_any b1 4 l 0 w1 (by omega) (by omega) (by omega) hI
  have hN : takeV 4 l 0 = leadN l := by unfold takeV leadN; simp; omega
  rw [hN] at ht
  replace ht := hid ht
  have hB1' := hid hB1
  have hb1' := hid hb1
  clear ho hI hN hB1 hb1
  go_wp2_with fail
  refine ht.out.mono ?_
  rintro e w2 ⟨rfl, _, hB2⟩
  have hB := hid (hB1'.out.trans (hB2.mono hb1'.out))
  have hS := hid (h.out.below hB.out)
  have hlN : leadN l < 4294967296 := by
    have h := leN_lt (l.take 4)
    rw [List.length_take, Nat.min_eq_left hl] at h
    exact h
  obtain ⟨n, hn⟩ : ∃ n, n = leadN l := ⟨_, rfl⟩
  rw [← hn]
  have hX : Hid (nextN l most = if n < 7 ∨ most < n then 0 else if l.length < n then 1 else 2) := hid (by rw [hn]; rfl)
  rw [← hn] at hlN
  replace hn := hid hn
  clear ht hB1' hb1' hB2
  by_cases h7 : n < 7
  · have i7 : (n : Int) < 7 := by omega
    go_wp2_with fail
    exact ⟨rfl, KStep.pure hB.out, .inl ⟨by rw [hX.out, if_pos (.inl h7)], rfl, hS.out⟩⟩
  · have i7 : ¬ ((n : Int) < 7) := by omega
    by_cases hmn : most < n
    · have im : (most : Int) < (n : Int) := by omega
      go_wp2_with fail
      exact ⟨rfl, KStep.pure hB.out, .inl ⟨by rw [hX.out, if_pos (.inr hmn)], rfl, hS.out⟩⟩
    · have im : ¬ ((most : Int) < (n : Int)) := by omega
      have d0 := block_cell hS.out.blk 0
      by_cases hln : l.length < n
      · have il : (l.length : Int) < (n : Int) := by omega
        go_wp2_with fail
        refine bodyPost_ret (results_tmp2 rfl _ _ _) rfl ?_
        exact ⟨KStep.pure hB.out, .inr (.inl ⟨by rw [hX.out, if_neg (by omega), if_pos hln], rfl, hS.out⟩)⟩
      · have il : ¬ ((l.length : Int) < (n : Int)) := by omega
        have hE : Hid (nextN l most = 2) := hid (by rw [hX.out, if_neg (by omega), if_neg hln])
        have hr4 : BytesAt w2 (.slice (some ⟨bb, oo + 4, none⟩) (l.length - 4) (c - 4)) (l.drop 4) := hS.out.row.drop1 4 (by omega)
        have hrt := hr4.take (n - 4) (c - 4) (by simp; omega) (by omega) (Nat.le_refl _)
        have hcl := hid (clone_new _ _ w2 hrt (by simp; omega))
        have i4 : (4 : Int) ≤ (n : Int) := by omega
        have i0 : (0 : Int) ≤ (n : Int) := by omega
        have ic : (n : Int) ≤ (c : Int) := by omega
        have c4 : ¬ (c = 4) := by omega
        have hn4 : ((n : Int) - 4).toNat = n - 4 := by omega
        have hgl : (n - 4) = ((l.drop 4).take (n - 4)).length := by simp; omega
        have hll : (l.drop 4).take (n - 4) = (l.take n).drop 4 := by rw [List.drop_take]
        replace hgl := hid hgl
        replace hll := hid hll
        clear hr4 hrt hX h
        go_wp2_with fail
        refine hcl.out.mono ?_
        rintro e w3 ⟨x3, rfl, ⟨hx3, hf3⟩, hb3⟩
        obtain ⟨a3, c3, rfl, e1, e2, _⟩ := hx3.form
        have hcp := hid (clip_at a3 ((l.drop 4).take (n - 4)).length c3 w3 e1 e2)
        have hz := hid hB.out.size
        have hS3 := hid (hS.out.below hb3)
        have hK3 := hid (KStep.pure (k := k) (sn hB.out hb3))
        have hlt3 := hid (Nat.lt_of_lt_of_le hlt.out hz.out)
        have hx4 := hx3.take _ _ (Nat.le_refl _) (Nat.le_refl _) e1
        rw [List.take_length] at hx4
        rw [hll.out] at hx4 hcp hf3
        have hx4' := hid hx4
        have hf4 : ∀ j, (Value.slice a3 ((l.take n).drop 4).length ((l.take n).drop 4).length).ownBlock = some j → w2.heap.size ≤ j := fun j hj => hf3 j (by rw [← hj]; cases a3 <;> rfl)
        have hne4 : (Value.slice a3 ((l.take n).drop 4).length ((l.take n).drop 4).length).ownBlock ≠ some k := fun e => by have := hf4 k e; have := hlt3.out; omega
        replace hf4 := hid hf4
        replace hne4 := hid hne4
        have d3 := block_cell hS3.out.blk 0
        have d4 := block_free hS3.out.blk 0
        rw [hll.out]
        clear hcl hx3 hx4 hf3 hb3 hS hll hgl
        generalize hL4 : (l.take n).drop 4 = L4 at *
        replace hL4 := hid hL4
        go_wp2_with fail
        refine hcp.out.mono ?_
        rintro e w4 ⟨rfl, rfl⟩
        by_cases hcn : c = n
        · have hfin := hid (show StrS (w3.setCell ⟨k, 0, none⟩ (.slice (some ⟨bb, oo, none⟩) (l.length - n) 0)) k (.slice (some ⟨bb, oo, none⟩) (l.length - n) 0) (l.drop n) false from ⟨block_set hS3.out.blk 0 _, (hS3.out.row.drop0 hcn).setCell _ (by rw [ownBlock_same]; exact hS3.out.own), by rw [ownBlock_same]; exact hS3.out.own⟩)
          have hxs := hid (hx4'.out.setCell (p := ⟨k, 0, none⟩) (.slice (some ⟨bb, oo, none⟩) (l.length - n) 0) hne4.out)
          have hks := hid (hK3.out.trans (KStep.cell (i := 0) w3 (.slice (some ⟨bb, oo, none⟩) (l.length - n) 0)))
          clear hcp hx4' hS3 hK3
          go_wp2_with fail
          refine bodyPost_ret (results_tmp2 rfl _ _ _) rfl ?_
          exact ⟨hks.out, .inr (.inr ⟨hE.out, _, .slice (some ⟨bb, oo, none⟩) (l.length - n) 0, rfl, by rw [← hn.out, hL4.out]; exact hxs.out, fun j hj => Nat.le_trans hz.out (hf4.out j hj), by rw [← hn.out]; exact hfin.out, rfl⟩)⟩
        · have hfin := hid (show StrS (w3.setCell ⟨k, 0, none⟩ (.slice (some ⟨bb, oo + n, none⟩) (l.length - n) (c - n))) k (.slice (some ⟨bb, oo + n, none⟩) (l.length - n) (c - n)) (l.drop n) false from ⟨block_set hS3.out.blk 0 _, BytesAt.setCell (show BytesAt w3 (.slice (some ⟨bb, oo + n, none⟩) (l.length - n) (c - n)) (l.drop n) by have h := hS3.out.row.drop1 n (by omega); rw [Option.map_some, add_plain'] at h; exact h) _ hS3.out.own, hS3.out.own⟩)
          have hxs := hid (hx4'.out.setCell (p := ⟨k, 0, none⟩) (.slice (some ⟨bb, oo + n, none⟩) (l.length - n) (c - n)) hne4.out)
          have hks := hid (hK3.out.trans (KStep.cell (i := 0) w3 (.slice (some ⟨bb, oo + n, none⟩) (l.length - n) (c - n))))
          clear hcp hx4' hS3 hK3
          go_wp2_with fail
          refine bodyPost_ret (results_tmp2 rfl _ _ _) rfl ?_
          exact ⟨hks.out, .inr (.inr ⟨hE.out, _, .slice (some ⟨bb, oo + n, none⟩) (l.length - n) (c - n), rfl, by rw [← hn.out, hL4.out]; exact hxs.out, fun j hj => Nat.le_trans hz.out (hf4.out j hj), by rw [← hn.out]; exact hfin.out, rfl⟩)⟩
end
end
end Go.Proofs.YtcbglcebdkpcfaaGreat

namespace Go.Proofs.YtcbglcebdkpcfaaGreat
section
open Go.RowKit
set_option maxRecDepth 100000
set_option linter.unusedVariables false

def diesChainR : List PanicEntry := [{ v := .iface 112 (.agg #[]), recovered := true }]
theorem sassert (w : World) : (Instr.typeAssert (.iface 112 (.agg #[])) 20 112 true).run Tryz.prog w = .ok (.tuple #[.agg #[], .bool true]) w := by kernel_rfl
def deadW (w : World) (k : Nat) : World := ((w.alloc (.cells #[] 112)).setCell ⟨k, 0, none⟩ (.slice none 0 0)).setCell ⟨k, 1, none⟩ (.bool true)
theorem scaught_panicking (k : Nat) (v : Value) (d : Bool) (w : World) (h : w.heap[k]? = some (.cells #[v, .bool d] 79 (0, 0))) :
    CallsD Tryz.prog 31 #[.pointer (some ⟨k, 0, none⟩)] (.panicking diesChain) w fun en u' w' =>
      en = .returned (.tuple #[]) ∧ u' = .panicking diesChainR ∧ w' = deadW w k := by
  have hta := sassert
  obtain ⟨W, hW⟩ : ∃ W, W = w.alloc (.cells #[] 112) := ⟨_, rfl⟩
  have hk : W.heap[k]? = some (.cells #[v, .bool d] 79 (0, 0)) := by rw [hW, heap_alloc_old _ _ (lt_of_block h)]; exact h
  have c0 : W.cell? ⟨k, 0, none⟩ = some v := block_cell hk 0
  have f0 : W.frozen? ⟨k, 0, none⟩ = false := block_free hk 0
  have hk1 := block_set hk 0 (.slice none 0 0)
  have c1 : (W.setCell ⟨k, 0, none⟩ (.slice none 0 0)).cell? ⟨k, 1, none⟩ = some (.bool d) := block_cell hk1 1
  have f1 : (W.setCell ⟨k, 0, none⟩ (.slice none 0 0)).frozen? ⟨k, 1, none⟩ = false := block_free hk1 1
  have hE : Hid (deadW w k = (W.setCell ⟨k, 0, none⟩ (.slice none 0 0)).setCell ⟨k, 1, none⟩ (.bool true)) := hid (by unfold deadW; rw [hW])
  clear h hk hk1
  refine callsD_of_wpS Tryz.func31 rfl fun c₀ cs hu => ?_
  apply wpS_seq
  apply wpS_region
  simp [wpOpsS, go_sem, recoverD, hu, diesChain, Tryz.ntmps31, Exit.thenS, Array.replicate_succ]
  apply wpS_body
  go_wp2_with (rw [← hW]; replace hW := hid hW)
  go_end0
  exact ⟨rfl, rfl, hE.out.symm⟩
theorem scaught_idle (k : Nat) (w : World) :
    CallsD Tryz.prog 31 #[.pointer (some ⟨k, 0, none⟩)] .returning w fun en u' w' => en = .returned (.tuple #[]) ∧ u' = .returning ∧ w = w' := by
  refine callsD_of_wpS Tryz.func31 rfl fun c₀ cs hu => ?_
  apply wpS_seq
  apply wpS_region
  simp [wpOpsS, go_sem, recoverD, hu, Tryz.ntmps31, Exit.thenS, Array.replicate_succ]
  rw [show c₀ = { c₀ with mode := .returning } from by cases c₀; simp_all]
  apply wpS_body
  go_wp2
  go_end0
  exact ⟨rfl, rfl⟩
def feedF (most : Nat) : Nat → List UInt8 → List (List UInt8) × Option (List UInt8)
  | 0, l => ([], some l)
  | fuel + 1, l => if l.length < 4 then ([], some l) else if nextN l most = 0 then ([], none) else if nextN l most = 1 then ([], some l) else ((l.take (leadN l)).drop 4 :: (feedF most fuel (l.drop (leadN l))).1, (feedF most fuel (l.drop (leadN l))).2)
def heldLen (w : World) (k : Nat) : Nat := match w.heap[k]? with
  | some (.cells cs _ _) => (match (cs[0]? : Option Value) with | some (Value.slice _ n _) => n | _ => 0)
  | _ => 0
theorem StrS.held {w : World} {k : Nat} {v : Value} {l : List UInt8} {d : Bool} (h : StrS w k v l d) : heldLen w k = l.length := by
  obtain ⟨a, c, rfl, _⟩ := h.row.form
  unfold heldLen
  rw [h.blk]
  rfl
theorem dead_step {w : World} {k : Nat} {v : Value} {l : List UInt8} {d : Bool} (h : StrS w k v l d) : KStep k w (deadW w k) ∧ StrS (deadW w k) k (.slice none 0 0) [] true := by
  have hA := (Below.refl w.heap.size w).alloc (Nat.le_refl _) (.cells #[] 112)
  have hk := (hA.block _ (lt_of_block h.blk)).trans h.blk
  unfold deadW
  exact ⟨(KStep.pure hA).trans ((KStep.cell (i := 0) _ _).trans (KStep.cell (i := 1) _ _)), block_set (block_set hk 0 _) 1 _, RowAt.nil, by simp [Value.ownBlock]⟩
def FeedP (w : World) (k : Nat) (r : List (List UInt8) × Option (List UInt8)) (e : Ending) (w' : World) : Prop :=
  ∃ x v', e = .returned x ∧ OwnFr w' w.heap.size x r.1 ∧ KStep k w w' ∧ StrS w' k v' (r.2.getD []) r.2.isNone ∧ ∀ j, v'.ownBlock = some j → w.heap.size ≤ j
set_option maxHeartbeats 3200000 in
theorem feed_any (w : World) (k : Nat) (v bv : Value) (l b : List UInt8) (most : Nat) (h : StrS w k v l false) (hb : BytesAt w bv b) (hl : l.length + b.length ≤ 1000000) (hmo : most ≤ 1000000000) :
    Calls Tryz.prog 16 #[.pointer (some ⟨k, 0, none⟩), bv, .int .i64 (most : Int)] w (FeedP w k (feedF most ((l ++ b).length + 1) (l ++ b))) := by
  obtain ⟨a0, e0, rfl, _⟩ := h.row.form
  obtain ⟨ab, eb, rfl, _⟩ := hb.form
  have c0 := block_cell h.blk 0
  have c1 := block_cell h.blk 1
  have hkl := hid (lt_of_block h.blk)
  obtain ⟨W, hW⟩ : ∃ W, W = w.alloc (.cells #[.slice a0 l.length e0, .slice ab b.length eb] 29) := ⟨_, rfl⟩
  have hB0 : Below w.heap.size w W := by rw [hW]; exact (Below.refl _ _).alloc (Nat.le_refl _) _
  have hfr : FramesAt W (.slice (some ⟨w.heap.size, 0, none⟩) 2 2) [l, b] := by
    refine ⟨[.slice a0 l.length e0, .slice ab b.length eb], rfl, RowAt.of_block (n := 2) (k := 1) (cs := #[.slice a0 l.length e0, .slice ab b.length eb]) (e := 29) (fr := (0, 0)) (by rw [hW]; exact heap_alloc_new _ _) rfl (by unfold maxLen; omega), fun i hi => ?_⟩
    have hi2 : i < 2 := hi
    rcases (by omega : i = 0 ∨ i = 1) with rfl | rfl
    · exact h.row.below hB0
    · exact hb.below hB0
  have hcc := concat_any _ [l, b] W hfr (by simp; omega) (by simp)
  rw [show ([l, b] : List (List UInt8)).flatten = l ++ b by simp] at hcc
  have hS0 := hid (h.below hB0)
  replace hcc := hid hcc
  replace hB0 := hid hB0
  obtain ⟨L, hL⟩ : ∃ L, L = l ++ b := ⟨_, rfl⟩
  have hLl : L.length ≤ 1000000 := by rw [hL]; simp; omega
  rw [← hL] at hcc ⊢
  clear h hb hfr hl hL
  go_enter_defers Tryz.func16, Tryz.ntmps16
  go_wp2_with (rw [← hW]; replace hW := hid hW)
  try (rw [← hW]; replace hW := hid hW)
  refine hcc.out.mono ?_
  rintro e w1 ⟨v1, rfl, ⟨hv1, hf1⟩, hb1⟩
  have hS1 := hid (hS0.out.below hb1)
  have hz0 := hid hB0.out.size
  have hz1 := hid hb1.size
  have hne1 : v1.ownBlock ≠ some k := fun e => by have := hf1 k e; have := hkl.out; have := hz0.out; omega
  have hS2 := hid (show StrS (w1.setCell ⟨k, 0, none⟩ v1) k v1 L false from ⟨block_set hS1.out.blk 0 _, hv1.setCell _ hne1, hne1⟩)
  have hK2 := hid ((KStep.pure (k := k) (sn hB0.out hb1)).trans (KStep.cell (i := 0) w1 v1))
  have hf2 := hid (show ∀ j, v1.ownBlock = some j → w.heap.size ≤ j from fun j hj => by have := hf1 j hj; have := hz0.out; omega)
  obtain ⟨a1, cc1, rfl, _⟩ := hv1.form
  have d0 := block_cell hS1.out.blk 0
  have d1 := block_free hS1.out.blk 0
  clear hcc hv1 hf1 hb1 hne1 hS0 c0 c1
  replace hS1 := hid hS1
  go_wp2_with fail
  have hF0 : Hid (feedF most (L.length + 1) L = (([] : List (List UInt8)) ++ (feedF most (L.length + 1) L).1, (feedF most (L.length + 1) L).2)) := hid (by simp)
  have hlt : Hid (L.length < L.length + 1) := hid (by omega)
  obtain ⟨r, hr⟩ : ∃ r, r = feedF most (L.length + 1) L := ⟨_, rfl⟩
  rw [← hr]
  replace hF0 := hid (hr.trans hF0.out)
  replace hr := hid hr
  go_loopw [6] (fun s6 wr => ∃ (m : Nat) (ls : List (List UInt8)) (l' : List UInt8) (v' : Value), Hid (OwnFr wr w.heap.size s6 ls ∧ StrS wr k v' l' false ∧ (∀ j, v'.ownBlock = some j → w.heap.size ≤ j ∧ s6.ownBlock ≠ some j) ∧ KStep k w wr ∧ r = (ls ++ (feedF most m l').1, (feedF most m l').2) ∧ l'.length < m ∧ ls.length + l'.length ≤ L.length)) (fun _ wr => heldLen wr k)
  case atStart => exact ⟨L.length + 1, [], L, _, hid ⟨OwnFr.nil _ _, hS2.out, fun j hj => ⟨hf2.out j hj, by intro e; cases e⟩, hK2.out, hF0.out, hlt.out, by simp⟩⟩
  case round =>
    obtain ⟨m, ls, l', v', hR⟩ := hrel
    obtain ⟨⟨vs, hV⟩, hS, hap, hK, hF, hm, hn⟩ := hR.out
    clear hR
    obtain ⟨m', rfl⟩ : ∃ m', m = m' + 1 := ⟨m - 1, by omega⟩
    obtain ⟨a6, c6, rfl⟩ := own_form hV.own
    have hz := hid hK.size
    have hmeas := hid hS.held
    by_cases h4 : l'.length < 4
    · have hnx := hid (next_short (most := most) hS h4)
      have hF' : Hid (r = (ls, some l')) := hid (by rw [hF]; unfold feedF; rw [if_pos h4]; simp)
      have hfin := hid (show FeedP w k (ls, some l') (.returned (.slice a6 ls.length c6)) wr from ⟨_, v', rfl, ⟨vs, hV⟩, hK, hS, fun j hj => (hap j hj).1⟩)
      have hidle := hid (scaught_idle k wr)
      clear hV hS hap hK hF hS1 hS2 hK2 hf2 hF0 hlt d0 d1
      go_wp2_with fail
      refine hnx.out.mono ?_
      rintro e w2 ⟨rfl, rfl⟩
      go_wp2_with fail
      refine leaves_cons (f := 31) (args := #[.pointer (some ⟨k, 0, none⟩)]) (by simp) (by simp [go_sem]) ?_
      refine hidle.out.mono ?_
      rintro en u' w'' ⟨rfl, rfl, rfl⟩
      simp only [settle]
      refine ⟨_, results_tmp rfl _ _ _, ?_⟩
      rw [hF'.out]
      exact hfin.out
    · have hnx := hid (next_any (most := most) hS (by omega) (by omega) hmo)
      have hF' : Hid (feedF most (m' + 1) l' = if nextN l' most = 0 then ([], none) else if nextN l' most = 1 then ([], some l') else ((l'.take (leadN l')).drop 4 :: (feedF most m' (l'.drop (leadN l'))).1, (feedF most m' (l'.drop (leadN l'))).2)) := hid (by rw [feedF, if_neg h4])
      replace hV := hid hV
      replace hS := hid hS
      replace hap := hid hap
      replace hK := hid hK
      replace hF := hid hF
      clear hS1 hS2 hK2 hf2 hF0 hlt d0 d1
      go_wp2_with fail
      refine hnx.out.mono ?_
      rintro e w2 ⟨hK2, hc⟩
      rcases hc with ⟨h0, rfl, hS2⟩ | ⟨h1, rfl, hS2⟩ | ⟨h2, x, v2, rfl, hx, hxf, hS2, hv2⟩
      · obtain ⟨av, ev, rfl, _⟩ := hS.out.row.form
        have hp := hid (scaught_panicking k (.slice av l'.length ev) false w2 hS2.blk)
        have hT := hid (StrS.blk hS2)
        have hz2 := hid hK2.size
        replace hK2 := hid hK2
        replace hS2 := hid hS2
        go_wp2_with fail
        refine leaves_cons (f := 31) (args := #[.pointer (some ⟨k, 0, none⟩)]) (by simp) (by simp [go_sem]) ?_
        refine hp.out.mono ?_
        rintro en u' w'' ⟨rfl, rfl, rfl⟩
        simp only [settle, diesChainR]
        refine ⟨_, results_tmp rfl _ _ _, ?_⟩
        have hD := hid (dead_step hS2.out)
        have hKD := hid (hK.out.trans (hK2.out.trans hD.out.1))
        refine ⟨_, .slice none 0 0, rfl, ?_, hKD.out, ?_, fun j hj => by cases hj⟩
        · rw [show r.1 = ls by rw [hF.out, hF'.out, if_pos h0]; simp]
          refine OwnFr.kept ⟨vs, hV.out⟩ ((hK2.out.trans hD.out.1).size) (fun j hj hl => (hK2.out.trans hD.out.1).block j hl (by have := hkl.out; omega))
        · rw [show r.2 = none by rw [hF.out, hF'.out, if_pos h0]]
          exact hD.out.2
      · have hidle := hid (scaught_idle k w2)
        have hKD := hid (hK.out.trans hK2)
        have hO2 := hid (show OwnFr w2 w.heap.size (.slice a6 ls.length c6) ls from OwnFr.kept ⟨vs, hV.out⟩ hK2.size (fun j hj hl => hK2.block j hl (by have := hkl.out; omega)))
        replace hK2 := hid hK2
        replace hS2 := hid hS2
        go_wp2_with fail
        refine leaves_cons (f := 31) (args := #[.pointer (some ⟨k, 0, none⟩)]) (by simp) (by simp [go_sem]) ?_
        refine hidle.out.mono ?_
        rintro en u' w'' ⟨rfl, rfl, rfl⟩
        simp only [settle]
        refine ⟨_, results_tmp rfl _ _ _, ?_⟩
        rw [show r = (ls, some l') by rw [hF.out, hF'.out, if_neg (by omega), if_pos h1]; simp]
        exact ⟨_, v', rfl, hO2.out, hKD.out, hS2.out, fun j hj => (hap.out j hj).1⟩
      · obtain ⟨ax, ex, rfl, _⟩ := hx.form
        have hV2 := hid (hV.out.kept hK2.size (fun j hj hl => hK2.block j hl (by have := hkl.out; omega)))
        have hKD := hid (hK.out.trans hK2)
        have hz2 := hid hK2.size
        have hbx : ∀ j, (Value.slice ax ((l'.take (leadN l')).drop 4).length ex).ownBlock = some j → w.heap.size ≤ j ∧ (Value.slice a6 ls.length c6).ownBlock ≠ some j := fun j hj => ⟨by have := hxf j hj; have := hz.out; omega, fun e => by have := (hV.out.own.lt j e).2; have := hxf j hj; omega⟩
        have hlen : 7 ≤ leadN l' ∧ leadN l' ≤ l'.length := by
          unfold nextN at h2; split at h2
          · omega
          · split at h2 <;> omega
        have hR : r = ((ls ++ [(l'.take (leadN l')).drop 4]) ++ (feedF most m' (l'.drop (leadN l'))).1, (feedF most m' (l'.drop (leadN l'))).2) := by rw [hF.out, hF'.out, if_neg (by omega), if_neg (by omega)]; simp
        have hld : (l'.drop (leadN l')).length = l'.length - leadN l' := by simp
        replace hR := hid hR
        replace hK2 := hid hK2
        replace hS2 := hid hS2
        replace hx := hid hx
        replace hbx := hid hbx
        clear hxf
        generalize hX : (l'.take (leadN l')).drop 4 = X at *
        generalize hY : l'.drop (leadN l') = Y at *
        replace hX := hid hX
        replace hY := hid hY
        go_wp2_with (at_builtin; refine wpList_push rfl (.tmp 33) (.tmp 35) rfl rfl hV2.out hx.out hbx.out rfl rfl (by have := hz.out; have := hz2.out; omega) (by omega) (fun g c w3 h3 h4 => ?_))
        have hS3 : Hid (StrS w3 k v2 Y false) := hid ⟨(h4.keep k (lt_of_block hS2.out.blk) (fun e => by have := (hV2.out.own.lt k e).1; have := hkl.out; omega)).trans hS2.out.blk, h4.bytes hS2.out.row (fun j hj => (hap.out j (by rw [← hv2]; exact hj)).2), hS2.out.own⟩
        have hK3 : Hid (KStep k w w3) := hid ⟨fun B b1 b2 => (hKD.out.below B b1 b2).trans (h4.below.mono b2), fun j hj hn => (h4.keep j (by have := hKD.out.size; omega) (fun e => by have := (hV2.out.own.lt j e).1; omega)).trans (hKD.out.block j hj hn), Nat.le_trans hKD.out.size h4.size⟩
        have ha3 : Hid (∀ j, v2.ownBlock = some j → w.heap.size ≤ j ∧ (Value.slice (some ⟨g, 0, none⟩) (ls.length + 1) c).ownBlock ≠ some j) := hid (fun j hj => by
          have hj2 := hap.out j (by rw [← hv2]; exact hj)
          exact ⟨hj2.1, h4.apart j (hS2.out.row.lt hj) hj2.2⟩)
        have hh3 := hid hS3.out.held
        replace h3 := hid h3
        replace h4 := hid h4
        go_wp2_with fail
        go_roundw
        case rel => exact ⟨m', ls ++ [X], Y, v2, hid ⟨⟨_, by simpa using h3.out⟩, hS3.out, ha3.out, hK3.out, hR.out, by omega, by simp; omega⟩⟩
        case measure => rw [hh3.out, hmeas.out]; omega
end
end Go.Proofs.YtcbglcebdkpcfaaGreat

namespace Go.Proofs.YtcbglcebdkpcfaaGreat
section
open Go.RowKit
set_option maxRecDepth 100000
set_option linter.unusedVariables false

theorem infoU16 : (Tryz.prog.info? 31).map (fun i => (i.zero, i.size, i.bytes)) = some (some (.int .u16 0), 1, 2) := by kernel_rfl
theorem elemU16 : ElemOk Tryz.prog 45 31 1 2 := elemOk_of Tryz.underlying45 infoU16 rfl (by omega)
structure TabS (w : World) (t : Nat) (v : Value) (xs : List Nat) : Prop where
  blk : w.heap[t]? = some (.cells #[v, .slice none 0 0] 82 (0, 0))
  own : TagsOwn w (t + 1) v xs
structure TStep (t : Nat) (v v' : Value) (w w' : World) : Prop where
  size : w.heap.size ≤ w'.heap.size
  keep : ∀ j, j < w.heap.size → j ≠ t → v.ownBlock ≠ some j → w'.heap[j]? = w.heap[j]?
  row : ∀ j, j < w.heap.size → v.ownBlock ≠ some j → v'.ownBlock ≠ some j
  below : Below t w w'
theorem TStep.refl (t : Nat) (v : Value) (w : World) : TStep t v v w w := ⟨Nat.le_refl _, fun _ _ _ _ => rfl, fun _ _ h => h, Below.refl _ _⟩
theorem TabS.below {w w' : World} {t : Nat} {v : Value} {xs : List Nat} (h : TabS w t v xs) (hb : Below w.heap.size w w') : TabS w' t v xs :=
  ⟨(hb.block _ (lt_of_block h.blk)).trans h.blk, TagsOwn.below h.own hb⟩
theorem TabS.lt {w : World} {t : Nat} {v : Value} {xs : List Nat} (h : TabS w t v xs) : t < w.heap.size := lt_of_block h.blk
theorem TabS.row {w : World} {t j : Nat} {v : Value} {xs : List Nat} (h : TabS w t v xs) (hj : v.ownBlock = some j) : t < j ∧ j < w.heap.size := ⟨(h.own.lt j hj).1, (h.own.lt j hj).2⟩
theorem wpList_tag {ops : Array Oper} {rest : List Oper} {o : Oper} {a : Act} {Q : Exit → Act → World → Prop} (hgd : o.guard = none) (s x : Operand)
    (ho : o.op = .call { callee := .builtin .append, args := #[s, x], argTypes := #[45, 45] }) {w : World} {base : Nat} {v : Value} {xs : List Nat} (hs : a.eval s = v) (h : TagsOwn w base v xs)
    {n : Nat} (hx : a.eval x = .slice (some ⟨w.heap.size, 0, none⟩) 1 1) (hbase : base ≤ w.heap.size) (hn : xs.length ≤ 1000000000)
    (hk : ∀ g c w', TagsOwn w' base (.slice (some ⟨g, 0, none⟩) (xs.length + 1) c) (xs ++ [n]) → Pushed base v (.slice (some ⟨g, 0, none⟩) (xs.length + 1) c) w w' → wpList Tryz.prog ops Q rest (a.put o.dst (.slice (some ⟨g, 0, none⟩) (xs.length + 1) c)) w') :
    wpList Tryz.prog ops Q (o :: rest) a (w.alloc (.cells #[.int .u16 (n : Int)] 31)) := by
  obtain ⟨i0, z0, hi, hz, hsz, hby, hzs⟩ := elemU16.hi
  have hb : Below w.heap.size w (w.alloc (.cells #[.int .u16 (n : Int)] 31)) := (Below.refl _ _).alloc (Nat.le_refl _) _
  have hlt := fun j (hj : v.ownBlock = some j) => h.lt j hj
  refine wpList_append_lies (P := Tryz.prog) _ hgd s x 45 ho base 31 i0 z0 1 2 elemU16.ht hi hz hsz hby hzs (by decide) v xs.length (xs.map tagV) hs (own_keep h (fun j hj => heap_alloc_old _ _ (hlt j hj).2)) ⟨w.heap.size, 0, none⟩ 1 1 [.int .u16 (n : Int)] hx rfl (World.news_of_block (heap_alloc_new _ _)) (fun y hy => by rw [List.mem_singleton] at hy; subst hy; rfl) (by omega) (by unfold maxLen; omega) (by omega) (by simp; omega) _ rfl (fun g c w' h2 h3 h4 h5 => ?_)
  have hz := hb.size
  refine hk g c w' (by unfold TagsOwn; simpa [tagV] using h2) ⟨by have := h3.size; omega, fun j hj hn => (h3.block j (Nat.lt_of_lt_of_le hj hz) (fun e => hn e.symm)).trans (hb.block j hj), fun j hj hn e => ?_, (hb.mono hbase).grown h3 (by omega) (fun j hj => (hlt j hj).1)⟩
  have e2 : g = j := by simpa [Value.ownBlock] using e
  subst e2
  rcases h4 with h4 | h4
  · exact hn h4
  · omega
theorem tnew_any (w : World) : Calls Tryz.prog 15 #[] w fun e w' => e = .returned (.pointer (some ⟨w.heap.size, 0, none⟩)) ∧ w' = w.alloc (.cells #[.slice none 0 0, .slice none 0 0] 82) := by
  go_enter Tryz.func15, Tryz.ntmps15
  go_wp2_with fail
  go_ret
  exact ⟨rfl, rfl⟩
theorem fnew_any (w : World) : Calls Tryz.prog 14 #[] w fun e w' => e = .returned (.pointer (some ⟨w.heap.size, 0, none⟩)) ∧ w' = w.alloc (.cells #[.slice none 0 0, .bool false] 79) := by
  go_enter Tryz.func14, Tryz.ntmps14
  go_wp2_with fail
  go_ret
  exact ⟨rfl, rfl⟩
theorem fdead_any (w : World) (k : Nat) (v : Value) (l : List UInt8) (d : Bool) (h : StrS w k v l d) : Calls Tryz.prog 18 #[.pointer (some ⟨k, 0, none⟩)] w fun e w' => e = .returned (.bool d) ∧ w' = w := by
  have c1 := block_cell h.blk 1
  clear h
  go_enter Tryz.func18, Tryz.ntmps18
  go_wp2_with fail
  go_ret
  exact ⟨rfl, rfl⟩
section
variable {w : World} {t : Nat} {v : Value} {xs : List Nat} {x : Nat}
theorem thas_any (h : TabS w t v xs) (hl : xs.length ≤ 1000) : Calls Tryz.prog 43 #[.pointer (some ⟨t, 0, none⟩), .int .u16 (x : Int)] w fun e w' => e = .returned (.bool (decide (x ∈ xs))) ∧ w' = w := by
  have c0 := block_cell h.blk 0
  have hc := hid (tcon_any v xs x w h.own.at hl)
  obtain ⟨a, c, rfl, _⟩ := h.own.at.form
  clear h
  go_enter Tryz.func43, Tryz.ntmps43
  go_wp2_with fail
  refine hc.out.mono ?_
  rintro e w1 ⟨rfl, rfl⟩
  go_wp2_with fail
  go_ret
  exact ⟨rfl, rfl⟩
def askF (xs : List Nat) (x : Nat) : Nat × List Nat := if x ∈ xs then (16, xs) else if 32 ≤ xs.length then (14, xs) else (0, xs ++ [x])
def TabP (w : World) (t : Nat) (v : Value) (r : Value) (xs : List Nat) (e : Ending) (w' : World) : Prop := ∃ v', e = .returned r ∧ TabS w' t v' xs ∧ TStep t v v' w w'
set_option maxHeartbeats 1600000 in
theorem task_any (h : TabS w t v xs) (hl : xs.length ≤ 1000) : Calls Tryz.prog 36 #[.pointer (some ⟨t, 0, none⟩), .int .u16 (x : Int)] w (TabP w t v (.int .i64 ((askF xs x).1 : Int)) (askF xs x).2) := by
  have c0 := block_cell h.blk 0
  have hh := hid (thas_any (x := x) h hl)
  obtain ⟨a, c, rfl, _⟩ := h.own.at.form
  have hX : Hid (askF xs x = if x ∈ xs then (16, xs) else if 32 ≤ xs.length then (14, xs) else (0, xs ++ [x])) := hid rfl
  generalize askF xs x = r at *
  replace h := hid h
  go_enter Tryz.func36, Tryz.ntmps36
  go_wp2_with fail
  refine hh.out.mono ?_
  rintro e w1 ⟨rfl, rfl⟩
  by_cases hx : x ∈ xs
  · rw [decide_eq_true hx]
    have hr := hid (hX.out.trans (if_pos hx))
    clear hx hX hh
    go_wp2_with fail
    go_ret
    rw [hr.out]
    exact ⟨_, rfl, h.out, TStep.refl _ _ _⟩
  · rw [decide_eq_false hx]
    by_cases hn : 32 ≤ xs.length
    · have hn1 : (32 : Int) ≤ (xs.length : Int) := by omega
      have hr := hid (hX.out.trans ((if_neg hx).trans (if_pos hn)))
      clear hx hX hh
      go_wp2_with fail
      go_ret
      rw [hr.out]
      exact ⟨_, rfl, h.out, TStep.refl _ _ _⟩
    · have hn1 : ¬ ((32 : Int) ≤ (xs.length : Int)) := by omega
      have hr := hid (hX.out.trans ((if_neg hx).trans (if_neg hn)))
      have hlt := hid h.out.lt
      clear hx hX hh
      go_wp2_with (at_builtin; refine wpList_tag rfl (.tmp 20) (.tmp 22) rfl rfl h.out.own rfl (by have := hlt.out; omega) (by omega) (fun g c2 w2 h2 h3 => ?_); have hb2 := hid ((h3.keep t hlt.out (fun e => by have := (h.out.row e).1; omega)).trans h.out.blk); have e0 := block_cell hb2.out 0; have f0 := block_free hb2.out 0; replace h2 := hid h2; replace h3 := hid h3)
      go_ret
      rw [hr.out]
      have hg : t < g := by have := (h2.out.lt g rfl).1; omega
      refine ⟨_, rfl, ⟨block_set hb2.out 0 _, ?_⟩, ⟨by simpa [World.setCell] using h3.out.size, fun j hj hn1 hn2 => (block_set_other hn1).trans (h3.out.keep j hj hn2), h3.out.apart, (show Below t _ _ from h3.out.below.mono (by omega)).setCell (p := ⟨t, 0, none⟩) (Nat.le_refl _) _⟩⟩
      have := h2.out
      unfold TagsOwn at this ⊢
      rw [List.length_append, List.length_singleton] at this ⊢
      exact ownsRow_setCell_other this (by show some g ≠ some t; intro e; cases e; omega) _
end
end
end Go.Proofs.YtcbglcebdkpcfaaGreat
