/- What texts and qids of msg.out write, or which error they raise, under bounds on lengths that each theorem names. No further condition. And the texts behind it. -/
import Derived.Test.YtcbglcebdkpcfaaGreatCeA07
namespace Go.Proofs.YtcbglcebdkpcfaaGreat
section
open Go.RowKit
set_option maxRecDepth 100000

def OutDo (w : World) (b : Nat) (xs ys : List UInt8) (err : Nat) (e : Ending) (w' : World) : Prop :=
  (err = 0 ∧ e = .returned (.tuple #[]) ∧ OutIs w' b (xs ++ ys) ∨ err ≠ 0 ∧ e = .panicked (errChain err)) ∧ OStep b w w'

def StrsAt (w : World) (v : Value) (L : List ByteArray) : Prop := RowAt w 1 v L.length (L.map fun s => Value.string s)
theorem StrsAt.cell {w : World} {a : Option Addr} {n c : Nat} {L : List ByteArray} (h : StrsAt w (.slice a n c) L) (i : Nat) (hi : i < L.length) : ∃ b o, a = some ⟨b, o, none⟩ ∧ w.cell? ⟨b, o + i, none⟩ = some (.string L[i]) := by
  obtain ⟨_, a', c', hv, h1, h2, h3, h5, h4⟩ := h
  cases hv
  exact h4 i _ (by simp [hi])
theorem StrsAt.form {w : World} {v : Value} {L : List ByteArray} (h : StrsAt w v L) : ∃ a c, v = .slice a L.length c ∧ L.length ≤ c ∧ c ≤ maxLen := by
  obtain ⟨_, a, c, hv, h1, h2, _⟩ := h
  exact ⟨a, c, hv, h1, h2⟩
theorem RowAt.blk {w : World} {k n j : Nat} {v : Value} {xs : List Value} (h : RowAt w k v n xs) (hj : v.ownBlock = some j) : j < w.heap.size := by
  obtain ⟨_, a, c, rfl, _, _, _, h5, _⟩ := h
  cases a with
  | none => cases hj
  | some ad => cases hj; exact (h5 ad rfl).2
theorem RowAt.step {w w' : World} {b k n : Nat} {v : Value} {xs : List Value} (h : RowAt w k v n xs) (hs : OStep b w w') (hf : ∀ j, v.ownBlock = some j → ¬ Foot w b j) : RowAt w' k v n xs :=
  RowAt.other h hs.below.size fun j hj => (hs.block j (h.blk hj) (hf j hj)).1

set_option maxHeartbeats 1600000 in
theorem out_texts_any (b p i : Nat) (v : Value) (L : List ByteArray) (xs : List UInt8) (w : World) (hL : L.length ≤ 16) (hs : ∀ s ∈ L, s.size ≤ 1000) (hx : xs.length ≤ 900000) (hv : StrsAt w v L) (hc : w.cell? ⟨p, i, none⟩ = some v)
    (ho : OutIs w b xs) (hf : ¬ Foot w b p) (hfv : ∀ k, v.ownBlock = some k → ¬ Foot w b k) :
    Calls Tryz.prog 126 #[.pointer (some ⟨b, 0, none⟩), .pointer (some ⟨p, i, none⟩)] w (OutDo w b xs (numBytes L.length 2 ++ textsBytes L) (textsErr L)) := by
  obtain ⟨a, c, rfl, g1, g2⟩ := hv.form
  have hf' := hid hf
  have hfv' := hid hfv
  have hlt : p < w.heap.size := World.block_lt_of_cell? w _ hc
  have hsum : Hid (∀ k, k ≤ L.length → (textsBytes (L.take k)).length ≤ 1002 * k) := hid (by
    intro k
    induction k with
    | zero => intro _; simp [textsBytes]
    | succ k ih =>
      intro hk
      have hkl : k < L.length := by omega
      rw [textsBytes_snoc L k hkl, List.length_append, putText_length]
      have := hs L[k] (List.getElem_mem _)
      have := ih (by omega)
      omega)
  replace hs := hid hs
  clear hf hfv
  go_enter Tryz.func126, Tryz.ntmps126
  go_wp2_with fail
  refine (out_many_ok b L.length xs _ hL (by omega) ho).mono ?_
  rintro e w1 ⟨rfl, ho1, hs1⟩
  have hc1 := hs1.cell hf'.out hc
  have hv1 : StrsAt w1 (.slice a L.length c) L := RowAt.step hv hs1 hfv'.out
  have hfv1 := hid (fun k (hk : (Value.slice a L.length c).ownBlock = some k) => (hs1.block k (RowAt.blk hv hk) (hfv'.out k hk)).2)
  have lx : (xs ++ numBytes L.length 2).length = xs.length + 2 := by rw [List.length_append, numBytes_length]
  replace lx := hid lx
  unfold maxLen at g2
  clear hv hc
  go_wp2_with fail
  go_loopw [16] (fun kv wr => ∃ k : Nat, k ≤ L.length ∧ kv = .int .i64 (k : Int) ∧ OutIs wr b (xs ++ numBytes L.length 2 ++ textsBytes (L.take k)) ∧ OStep b w1 wr ∧ Hid (textsErr (L.drop k) = textsErr L)) (fun kv _ => L.length - (intOf kv).toNat)
  case atStart => exact ⟨0, by omega, rfl, by simpa [textsBytes] using ho1, OStep.refl _ _, hid rfl⟩
  case round =>
    obtain ⟨k, hk, rfl, hor, hsr, her⟩ := hrel
    by_cases hkl : k < L.length
    · obtain ⟨bb, o, rfl, hcell⟩ := StrsAt.cell (RowAt.step hv1 hsr hfv1.out : StrsAt wr _ L) k hkl
      have hsz := hs.out L[k] (List.getElem_mem _)
      have hsn := hid (textsBytes_snoc L k hkl)
      have hed := hid (textsErr_drop L k hkl)
      have hll : (xs ++ numBytes L.length 2 ++ textsBytes (L.take k)).length ≤ 950000 := by rw [List.length_append, lx.out]; have := hsum.out k (by omega); omega
      generalize L[k] = x at hcell hsz hsn hed
      generalize hys : xs ++ numBytes L.length 2 ++ textsBytes (L.take k) = ys at hor hll
      replace hys := hid hys
      have hb2 := (Below.refl wr.heap.size wr).alloc (Nat.le_refl _) (.cells #[.string x] 9)
      have ho2 := hor.below hb2
      have hn2 := hid (hor.new (.cells #[.string x] 9))
      have hx2 : (wr.alloc (.cells #[.string x] 9)).cell? ⟨wr.heap.size, 0, none⟩ = some (.string x) := block_cell (heap_alloc_new _ _) 0
      have st2 := hid (hsr.trans (OStep.pure hor.lt hb2))
      replace hx2 := hid hx2
      by_cases hm : mayN x = 0
      · have htx := out_text_ok b wr.heap.size 0 x ys _ (by omega) (by omega) hm ho2 hn2.out hx2.out
        replace htx := hid htx
        have hed2 : Hid (textsErr (L.drop (k + 1)) = textsErr L) := hid (by rw [← her.out, hed.out, if_pos hm])
        clear hm hed her ho2 hb2
        go_wp2_with fail
        refine htx.out.mono ?_
        rintro e w3 ⟨rfl, ho3, hs3⟩
        go_wp2_with fail
        go_roundw
        case rel => exact ⟨k + 1, by omega, by go_num, by rw [hsn.out, ← List.append_assoc, hys.out]; exact ho3, st2.out.trans hs3, hed2⟩
        case measure => simp [intOf]; omega
      · have htx := out_text_bad b wr.heap.size 0 x ys _ (by omega) (by omega) hm ho2 hn2.out hx2.out
        have hed2 : Hid (textsErr L = mayN x) := hid (by rw [← her.out, hed.out, if_neg hm])
        replace htx := hid htx
        have hm' := hid hm
        clear hm hed her ho2 hb2
        go_wp2_with fail
        refine htx.out.mono ?_
        rintro e w3 ⟨rfl, hs3⟩
        go_wp2_with fail
        exact ⟨rfl, .inr ⟨by rw [hed2.out]; exact hm'.out, by rw [hed2.out]⟩, (hs1.trans st2.out).trans hs3⟩
    · obtain rfl : k = L.length := by omega
      have hfin := hid her.out
      rw [List.take_length] at hor
      rw [List.drop_length] at her
      go_wp2_with fail
      go_end0
      exact ⟨.inl ⟨her.out.symm, rfl, by rw [← List.append_assoc]; exact hor⟩, hs1.trans hsr⟩

structure QidV where
  t : Nat
  v : Nat
  p : Nat
def QidV.cells (q : QidV) : Array Value := #[.int .u8 (q.t : Int), .int .u32 (q.v : Int), .int .u64 (q.p : Int)]
structure QidOk (q : QidV) : Prop where
  t : q.t < 256
  v : q.v < 4294967296
  p : q.p < 18446744073709551616
def QidV.bytes (q : QidV) : List UInt8 := qidBytes q.t q.v q.p
def qidsBytes (Q : List QidV) : List UInt8 := Q.flatMap QidV.bytes
theorem qidsBytes_snoc (Q : List QidV) (k : Nat) (h : k < Q.length) : qidsBytes (Q.take (k + 1)) = qidsBytes (Q.take k) ++ Q[k].bytes := by
  unfold qidsBytes; rw [List.take_succ_eq_append_getElem h, List.flatMap_append]; simp
theorem qidsBytes_len : ∀ Q : List QidV, (qidsBytes Q).length = 13 * Q.length
  | [] => rfl
  | q :: Q => by
    have := qidsBytes_len Q
    show (q.bytes ++ qidsBytes Q).length = _
    rw [List.length_append, this]; unfold QidV.bytes; rw [qidBytes_length, List.length_cons]; omega

def QidsAt (w : World) (v : Value) (Q : List QidV) : Prop := RowAt w 3 v Q.length (Q.flatMap fun q => q.cells.toList)
theorem QidsAt.cell {w : World} {a : Option Addr} {n c : Nat} {Q : List QidV} (h : QidsAt w (.slice a n c) Q) (k : Nat) (hk : k < Q.length) : ∃ b o, a = some ⟨b, o, none⟩ ∧ w.cell? ⟨b, o + k * 3, none⟩ = some (.int .u8 (Q[k].t : Int)) ∧ w.cell? ⟨b, o + k * 3 + 1, none⟩ = some (.int .u32 (Q[k].v : Int)) ∧ w.cell? ⟨b, o + k * 3 + 2, none⟩ = some (.int .u64 (Q[k].p : Int)) := by
  obtain ⟨_, a', c', hv, h1, h2, h3, h5, h4⟩ := h
  cases hv
  have hx : ∀ j, j < 3 → (Q.flatMap fun q => q.cells.toList)[k * 3 + j]? = Q[k].cells.toList[j]? := fun j hj => by
    have : ∀ (Q : List QidV) (k : Nat) (hk : k < Q.length), (Q.flatMap fun q => q.cells.toList)[k * 3 + j]? = Q[k].cells.toList[j]? := by
      intro Q
      induction Q with
      | nil => intro k hk; simp at hk
      | cons q Q ih =>
        intro k hk
        cases k with
        | zero =>
          rw [List.flatMap_cons, List.getElem?_append_left (by simp [QidV.cells]; omega)]; simp
        | succ k =>
          rw [List.flatMap_cons, List.getElem?_append_right (by simp [QidV.cells]; omega)]
          have := ih k (by simpa using hk)
          have e : (k + 1) * 3 + j - q.cells.toList.length = k * 3 + j := by simp [QidV.cells]; omega
          rw [e, this]; simp
    exact this Q k hk
  obtain ⟨b, o, ha, q0⟩ := h4 (k * 3 + 0) _ (by rw [hx 0 (by omega)]; rfl)
  obtain ⟨b1, o1, ha1, q1⟩ := h4 (k * 3 + 1) _ (by rw [hx 1 (by omega)]; rfl)
  obtain ⟨b2, o2, ha2, q2⟩ := h4 (k * 3 + 2) _ (by rw [hx 2 (by omega)]; rfl)
  rw [ha] at ha1 ha2
  cases ha1; cases ha2
  exact ⟨b, o, ha, q0, q1, q2⟩
theorem QidsAt.form {w : World} {v : Value} {Q : List QidV} (h : QidsAt w v Q) : ∃ a c, v = .slice a Q.length c ∧ Q.length ≤ c ∧ c ≤ maxLen := by
  obtain ⟨_, a, c, hv, h1, h2, _⟩ := h
  exact ⟨a, c, hv, h1, h2⟩

set_option maxHeartbeats 1600000 in
theorem out_qids_any (b p i : Nat) (v : Value) (Q : List QidV) (xs : List UInt8) (w : World) (hL : Q.length ≤ 16) (hs : ∀ q ∈ Q, QidOk q) (hx : xs.length ≤ 900000) (hv : QidsAt w v Q) (hc : w.cell? ⟨p, i, none⟩ = some v)
    (ho : OutIs w b xs) (hf : ¬ Foot w b p) (hfv : ∀ k, v.ownBlock = some k → ¬ Foot w b k) :
    Calls Tryz.prog 123 #[.pointer (some ⟨b, 0, none⟩), .pointer (some ⟨p, i, none⟩)] w fun e w' => e = .returned (.tuple #[]) ∧ OutIs w' b (xs ++ (numBytes Q.length 2 ++ qidsBytes Q)) ∧ OStep b w w' := by
  obtain ⟨a, c, rfl, g1, g2⟩ := hv.form
  have hf' := hid hf
  have hfv' := hid hfv
  replace hs := hid hs
  clear hf hfv
  go_enter Tryz.func123, Tryz.ntmps123
  go_wp2_with fail
  refine (out_many_ok b Q.length xs _ hL (by omega) ho).mono ?_
  rintro e w1 ⟨rfl, ho1, hs1⟩
  have hc1 := hs1.cell hf'.out hc
  have hv1 : QidsAt w1 (.slice a Q.length c) Q := RowAt.step hv hs1 hfv'.out
  have hfv1 := hid (fun k (hk : (Value.slice a Q.length c).ownBlock = some k) => (hs1.block k (RowAt.blk hv hk) (hfv'.out k hk)).2)
  have lx : (xs ++ numBytes Q.length 2).length = xs.length + 2 := by rw [List.length_append, numBytes_length]
  replace lx := hid lx
  unfold maxLen at g2
  clear hv hc
  go_wp2_with fail
  go_loopw [16] (fun kv wr => ∃ k : Nat, k ≤ Q.length ∧ kv = .int .i64 (k : Int) ∧ OutIs wr b (xs ++ numBytes Q.length 2 ++ qidsBytes (Q.take k)) ∧ OStep b w1 wr) (fun kv _ => Q.length - (intOf kv).toNat)
  case atStart => exact ⟨0, by omega, rfl, by simpa [qidsBytes] using ho1, OStep.refl _ _⟩
  case round =>
    obtain ⟨k, hk, rfl, hor, hsr⟩ := hrel
    by_cases hkl : k < Q.length
    · obtain ⟨bb, o, rfl, hc0, hc1', hc2⟩ := QidsAt.cell (RowAt.step hv1 hsr hfv1.out : QidsAt wr _ Q) k hkl
      obtain ⟨s1, s2, s3⟩ := hs.out Q[k] (List.getElem_mem _)
      have hsn := hid (qidsBytes_snoc Q k hkl)
      have hll : (xs ++ numBytes Q.length 2 ++ qidsBytes (Q.take k)).length ≤ 950000 := by rw [List.length_append, lx.out, qidsBytes_len, List.length_take]; omega
      generalize Q[k] = x at hc0 hc1' hc2 s1 s2 s3 hsn
      generalize hys : xs ++ numBytes Q.length 2 ++ qidsBytes (Q.take k) = ys at hor hll
      replace hys := hid hys
      have hb2 := (Below.refl wr.heap.size wr).alloc (Nat.le_refl _) (.cells #[.int .u8 (x.t : Int), .int .u32 (x.v : Int), .int .u64 (x.p : Int)] 37)
      have ho2 := hor.below hb2
      have hn2 := hid (hor.new (.cells #[.int .u8 (x.t : Int), .int .u32 (x.v : Int), .int .u64 (x.p : Int)] 37))
      have hblk := heap_alloc_new wr (.cells #[.int .u8 (x.t : Int), .int .u32 (x.v : Int), .int .u64 (x.p : Int)] 37)
      have st2 := hid (hsr.trans (OStep.pure hor.lt hb2))
      have htx := hid (out_qid_any b wr.heap.size 0 x.t x.v x.p ys _ s1 s2 s3 (by omega) ho2 hn2.out ⟨block_cell hblk 0, block_cell hblk 1, block_cell hblk 2⟩)
      replace hblk := hid hblk
      clear ho2 hb2
      go_wp2_with fail
      refine htx.out.mono ?_
      rintro e w3 ⟨rfl, ho3, hs3⟩
      go_wp2_with fail
      go_roundw
      case rel => exact ⟨k + 1, by omega, by go_num, by rw [hsn.out, ← List.append_assoc, hys.out]; exact ho3, st2.out.trans hs3⟩
      case measure => simp [intOf]; omega
    · obtain rfl : k = Q.length := by omega
      rw [List.take_length] at hor
      go_wp2_with fail
      go_end0
      exact ⟨rfl, by rw [← List.append_assoc]; exact hor, hs1.trans hsr⟩
end
end Go.Proofs.YtcbglcebdkpcfaaGreat

namespace Go.Proofs.YtcbglcebdkpcfaaGreat
section
open Go.RowKit
set_option maxRecDepth 100000

theorem nil_o_u8 (n : Nat) (a : Addr) (w : World) : (nilAhead (n + 1) 131 (.pointer (some a)) "loggia/msg.u8").run Tryz.prog w = .ok (some false) w := by kernel_rfl
theorem met_o_u8 (n : Nat) (a : Addr) (w : World) : (method (n + 1) 131 (.pointer (some a)) "loggia/msg.u8").run Tryz.prog w = .ok (69, (.pointer (some a))) w := by kernel_rfl
theorem nil_o_u16 (n : Nat) (a : Addr) (w : World) : (nilAhead (n + 1) 131 (.pointer (some a)) "loggia/msg.u16").run Tryz.prog w = .ok (some false) w := by kernel_rfl
theorem met_o_u16 (n : Nat) (a : Addr) (w : World) : (method (n + 1) 131 (.pointer (some a)) "loggia/msg.u16").run Tryz.prog w = .ok (70, (.pointer (some a))) w := by kernel_rfl
theorem nil_o_u32 (n : Nat) (a : Addr) (w : World) : (nilAhead (n + 1) 131 (.pointer (some a)) "loggia/msg.u32").run Tryz.prog w = .ok (some false) w := by kernel_rfl
theorem met_o_u32 (n : Nat) (a : Addr) (w : World) : (method (n + 1) 131 (.pointer (some a)) "loggia/msg.u32").run Tryz.prog w = .ok (127, (.pointer (some a))) w := by kernel_rfl
theorem nil_o_u64 (n : Nat) (a : Addr) (w : World) : (nilAhead (n + 1) 131 (.pointer (some a)) "loggia/msg.u64").run Tryz.prog w = .ok (some false) w := by kernel_rfl
theorem met_o_u64 (n : Nat) (a : Addr) (w : World) : (method (n + 1) 131 (.pointer (some a)) "loggia/msg.u64").run Tryz.prog w = .ok (128, (.pointer (some a))) w := by kernel_rfl
theorem nil_o_text (n : Nat) (a : Addr) (w : World) : (nilAhead (n + 1) 131 (.pointer (some a)) "loggia/msg.text").run Tryz.prog w = .ok (some false) w := by kernel_rfl
theorem met_o_text (n : Nat) (a : Addr) (w : World) : (method (n + 1) 131 (.pointer (some a)) "loggia/msg.text").run Tryz.prog w = .ok (125, (.pointer (some a))) w := by kernel_rfl
theorem nil_o_qid (n : Nat) (a : Addr) (w : World) : (nilAhead (n + 1) 131 (.pointer (some a)) "loggia/msg.qid").run Tryz.prog w = .ok (some false) w := by kernel_rfl
theorem met_o_qid (n : Nat) (a : Addr) (w : World) : (method (n + 1) 131 (.pointer (some a)) "loggia/msg.qid").run Tryz.prog w = .ok (122, (.pointer (some a))) w := by kernel_rfl
theorem nil_o_texts (n : Nat) (a : Addr) (w : World) : (nilAhead (n + 1) 131 (.pointer (some a)) "loggia/msg.texts").run Tryz.prog w = .ok (some false) w := by kernel_rfl
theorem met_o_texts (n : Nat) (a : Addr) (w : World) : (method (n + 1) 131 (.pointer (some a)) "loggia/msg.texts").run Tryz.prog w = .ok (126, (.pointer (some a))) w := by kernel_rfl
theorem nil_o_qids (n : Nat) (a : Addr) (w : World) : (nilAhead (n + 1) 131 (.pointer (some a)) "loggia/msg.qids").run Tryz.prog w = .ok (some false) w := by kernel_rfl
theorem met_o_qids (n : Nat) (a : Addr) (w : World) : (method (n + 1) 131 (.pointer (some a)) "loggia/msg.qids").run Tryz.prog w = .ok (123, (.pointer (some a))) w := by kernel_rfl
theorem nil_o_data (n : Nat) (a : Addr) (w : World) : (nilAhead (n + 1) 131 (.pointer (some a)) "loggia/msg.data").run Tryz.prog w = .ok (some false) w := by kernel_rfl
theorem met_o_data (n : Nat) (a : Addr) (w : World) : (method (n + 1) 131 (.pointer (some a)) "loggia/msg.data").run Tryz.prog w = .ok (120, (.pointer (some a))) w := by kernel_rfl
theorem nil_o_stat (n : Nat) (a : Addr) (w : World) : (nilAhead (n + 1) 131 (.pointer (some a)) "loggia/msg.stat").run Tryz.prog w = .ok (some false) w := by kernel_rfl
theorem met_o_stat (n : Nat) (a : Addr) (w : World) : (method (n + 1) 131 (.pointer (some a)) "loggia/msg.stat").run Tryz.prog w = .ok (124, (.pointer (some a))) w := by kernel_rfl
theorem nil_t_u8 (n : Nat) (a : Addr) (w : World) : (nilAhead (n + 1) 107 (.pointer (some a)) "loggia/msg.u8").run Tryz.prog w = .ok (some false) w := by kernel_rfl
theorem met_t_u8 (n : Nat) (a : Addr) (w : World) : (method (n + 1) 107 (.pointer (some a)) "loggia/msg.u8").run Tryz.prog w = .ok (119, (.pointer (some a))) w := by kernel_rfl
theorem nil_t_u16 (n : Nat) (a : Addr) (w : World) : (nilAhead (n + 1) 107 (.pointer (some a)) "loggia/msg.u16").run Tryz.prog w = .ok (some false) w := by kernel_rfl
theorem met_t_u16 (n : Nat) (a : Addr) (w : World) : (method (n + 1) 107 (.pointer (some a)) "loggia/msg.u16").run Tryz.prog w = .ok (116, (.pointer (some a))) w := by kernel_rfl
theorem nil_t_u32 (n : Nat) (a : Addr) (w : World) : (nilAhead (n + 1) 107 (.pointer (some a)) "loggia/msg.u32").run Tryz.prog w = .ok (some false) w := by kernel_rfl
theorem met_t_u32 (n : Nat) (a : Addr) (w : World) : (method (n + 1) 107 (.pointer (some a)) "loggia/msg.u32").run Tryz.prog w = .ok (117, (.pointer (some a))) w := by kernel_rfl
theorem nil_t_u64 (n : Nat) (a : Addr) (w : World) : (nilAhead (n + 1) 107 (.pointer (some a)) "loggia/msg.u64").run Tryz.prog w = .ok (some false) w := by kernel_rfl
theorem met_t_u64 (n : Nat) (a : Addr) (w : World) : (method (n + 1) 107 (.pointer (some a)) "loggia/msg.u64").run Tryz.prog w = .ok (118, (.pointer (some a))) w := by kernel_rfl
theorem nil_t_text (n : Nat) (a : Addr) (w : World) : (nilAhead (n + 1) 107 (.pointer (some a)) "loggia/msg.text").run Tryz.prog w = .ok (some false) w := by kernel_rfl
theorem met_t_text (n : Nat) (a : Addr) (w : World) : (method (n + 1) 107 (.pointer (some a)) "loggia/msg.text").run Tryz.prog w = .ok (114, (.pointer (some a))) w := by kernel_rfl
theorem nil_t_qid (n : Nat) (a : Addr) (w : World) : (nilAhead (n + 1) 107 (.pointer (some a)) "loggia/msg.qid").run Tryz.prog w = .ok (some false) w := by kernel_rfl
theorem met_t_qid (n : Nat) (a : Addr) (w : World) : (method (n + 1) 107 (.pointer (some a)) "loggia/msg.qid").run Tryz.prog w = .ok (111, (.pointer (some a))) w := by kernel_rfl
theorem nil_t_texts (n : Nat) (a : Addr) (w : World) : (nilAhead (n + 1) 107 (.pointer (some a)) "loggia/msg.texts").run Tryz.prog w = .ok (some false) w := by kernel_rfl
theorem met_t_texts (n : Nat) (a : Addr) (w : World) : (method (n + 1) 107 (.pointer (some a)) "loggia/msg.texts").run Tryz.prog w = .ok (115, (.pointer (some a))) w := by kernel_rfl
theorem nil_t_qids (n : Nat) (a : Addr) (w : World) : (nilAhead (n + 1) 107 (.pointer (some a)) "loggia/msg.qids").run Tryz.prog w = .ok (some false) w := by kernel_rfl
theorem met_t_qids (n : Nat) (a : Addr) (w : World) : (method (n + 1) 107 (.pointer (some a)) "loggia/msg.qids").run Tryz.prog w = .ok (112, (.pointer (some a))) w := by kernel_rfl
theorem nil_t_data (n : Nat) (a : Addr) (w : World) : (nilAhead (n + 1) 107 (.pointer (some a)) "loggia/msg.data").run Tryz.prog w = .ok (some false) w := by kernel_rfl
theorem met_t_data (n : Nat) (a : Addr) (w : World) : (method (n + 1) 107 (.pointer (some a)) "loggia/msg.data").run Tryz.prog w = .ok (110, (.pointer (some a))) w := by kernel_rfl
theorem nil_t_stat (n : Nat) (a : Addr) (w : World) : (nilAhead (n + 1) 107 (.pointer (some a)) "loggia/msg.stat").run Tryz.prog w = .ok (some false) w := by kernel_rfl
theorem met_t_stat (n : Nat) (a : Addr) (w : World) : (method (n + 1) 107 (.pointer (some a)) "loggia/msg.stat").run Tryz.prog w = .ok (113, (.pointer (some a))) w := by kernel_rfl
theorem nil_i_u8 (n : Nat) (a : Addr) (w : World) : (nilAhead (n + 1) 170 (.agg #[.pointer (some a)]) "loggia/msg.u8").run Tryz.prog w = .ok (some false) w := by kernel_rfl
theorem met_i_u8 (n : Nat) (a : Addr) (w : World) : (method (n + 1) 170 (.agg #[.pointer (some a)]) "loggia/msg.u8").run Tryz.prog w = .ok (82, (.agg #[.pointer (some a)])) w := by kernel_rfl
theorem nil_i_u16 (n : Nat) (a : Addr) (w : World) : (nilAhead (n + 1) 170 (.agg #[.pointer (some a)]) "loggia/msg.u16").run Tryz.prog w = .ok (some false) w := by kernel_rfl
theorem met_i_u16 (n : Nat) (a : Addr) (w : World) : (method (n + 1) 170 (.agg #[.pointer (some a)]) "loggia/msg.u16").run Tryz.prog w = .ok (83, (.agg #[.pointer (some a)])) w := by kernel_rfl
theorem nil_i_u32 (n : Nat) (a : Addr) (w : World) : (nilAhead (n + 1) 170 (.agg #[.pointer (some a)]) "loggia/msg.u32").run Tryz.prog w = .ok (some false) w := by kernel_rfl
theorem met_i_u32 (n : Nat) (a : Addr) (w : World) : (method (n + 1) 170 (.agg #[.pointer (some a)]) "loggia/msg.u32").run Tryz.prog w = .ok (154, (.agg #[.pointer (some a)])) w := by kernel_rfl
theorem nil_i_u64 (n : Nat) (a : Addr) (w : World) : (nilAhead (n + 1) 170 (.agg #[.pointer (some a)]) "loggia/msg.u64").run Tryz.prog w = .ok (some false) w := by kernel_rfl
theorem met_i_u64 (n : Nat) (a : Addr) (w : World) : (method (n + 1) 170 (.agg #[.pointer (some a)]) "loggia/msg.u64").run Tryz.prog w = .ok (155, (.agg #[.pointer (some a)])) w := by kernel_rfl
theorem nil_i_text (n : Nat) (a : Addr) (w : World) : (nilAhead (n + 1) 170 (.agg #[.pointer (some a)]) "loggia/msg.text").run Tryz.prog w = .ok (some false) w := by kernel_rfl
theorem met_i_text (n : Nat) (a : Addr) (w : World) : (method (n + 1) 170 (.agg #[.pointer (some a)]) "loggia/msg.text").run Tryz.prog w = .ok (152, (.agg #[.pointer (some a)])) w := by kernel_rfl
theorem nil_i_qid (n : Nat) (a : Addr) (w : World) : (nilAhead (n + 1) 170 (.agg #[.pointer (some a)]) "loggia/msg.qid").run Tryz.prog w = .ok (some false) w := by kernel_rfl
theorem met_i_qid (n : Nat) (a : Addr) (w : World) : (method (n + 1) 170 (.agg #[.pointer (some a)]) "loggia/msg.qid").run Tryz.prog w = .ok (149, (.agg #[.pointer (some a)])) w := by kernel_rfl
theorem nil_i_texts (n : Nat) (a : Addr) (w : World) : (nilAhead (n + 1) 170 (.agg #[.pointer (some a)]) "loggia/msg.texts").run Tryz.prog w = .ok (some false) w := by kernel_rfl
theorem met_i_texts (n : Nat) (a : Addr) (w : World) : (method (n + 1) 170 (.agg #[.pointer (some a)]) "loggia/msg.texts").run Tryz.prog w = .ok (153, (.agg #[.pointer (some a)])) w := by kernel_rfl
theorem nil_i_qids (n : Nat) (a : Addr) (w : World) : (nilAhead (n + 1) 170 (.agg #[.pointer (some a)]) "loggia/msg.qids").run Tryz.prog w = .ok (some false) w := by kernel_rfl
theorem met_i_qids (n : Nat) (a : Addr) (w : World) : (method (n + 1) 170 (.agg #[.pointer (some a)]) "loggia/msg.qids").run Tryz.prog w = .ok (150, (.agg #[.pointer (some a)])) w := by kernel_rfl
theorem nil_i_data (n : Nat) (a : Addr) (w : World) : (nilAhead (n + 1) 170 (.agg #[.pointer (some a)]) "loggia/msg.data").run Tryz.prog w = .ok (some false) w := by kernel_rfl
theorem met_i_data (n : Nat) (a : Addr) (w : World) : (method (n + 1) 170 (.agg #[.pointer (some a)]) "loggia/msg.data").run Tryz.prog w = .ok (148, (.agg #[.pointer (some a)])) w := by kernel_rfl
theorem nil_i_stat (n : Nat) (a : Addr) (w : World) : (nilAhead (n + 1) 170 (.agg #[.pointer (some a)]) "loggia/msg.stat").run Tryz.prog w = .ok (some false) w := by kernel_rfl
theorem met_i_stat (n : Nat) (a : Addr) (w : World) : (method (n + 1) 170 (.agg #[.pointer (some a)]) "loggia/msg.stat").run Tryz.prog w = .ok (151, (.agg #[.pointer (some a)])) w := by kernel_rfl
end
end Go.Proofs.YtcbglcebdkpcfaaGreat

namespace Go.Proofs.YtcbglcebdkpcfaaGreat
section
open Go.RowKit
set_option maxRecDepth 100000

def InSet (w : World) (b q i : Nat) (p : List UInt8 × Nat) (u : Value) (e : Ending) (w' : World) : Prop :=
  e = .returned (.tuple #[]) ∧ ∃ w1, OStep b w w1 ∧ InAt w1 b p ∧ w' = w1.setCell ⟨q, i, none⟩ u

set_option maxHeartbeats 800000 in
theorem in_number_ok (b n : Nat) (p : List UInt8 × Nat) (w : World) (hn1 : 1 ≤ n) (hn8 : n ≤ 8) (hl : p.1.length ≤ 1000000000) (h : InAt w b p) (he : (rd n p).2 = 0) :
    Calls Tryz.prog 88 #[.agg #[.pointer (some ⟨b, 0, none⟩)], .int .i64 (n : Int)] w fun e w' => e = .returned (.int .u64 (tv n p : Int)) ∧ InAt w' b (rd n p) ∧ OStep b w w' := by
  have hb0 := (Below.refl w.heap.size w).alloc (Nat.le_refl _) (.cells #[.pointer (some ⟨b, 0, none⟩)] 170)
  have ha := h.below hb0
  have st0 := OStep.pure h.lt hb0
  have hnf := hid (h.new (.cells #[.pointer (some ⟨b, 0, none⟩)] 170))
  have hq := hid (heap_alloc_new w (.cells #[.pointer (some ⟨b, 0, none⟩)] 170))
  replace he := hid he
  go_enter Tryz.func88, Tryz.ntmps88
  go_wp2_with fail
  refine (take_at b n p _ hn1 hn8 hl ha).mono ?_
  rintro e w1 ⟨rfl, ha1, hs1⟩
  have hq1 := ((hs1.block w.heap.size (by simp) hnf.out).1).trans hq.out
  have c1 : w1.cell? ⟨w.heap.size, 0, none⟩ = some (.pointer (some ⟨b, 0, none⟩)) := block_cell hq1 0
  replace hq1 := hid hq1
  go_wp2_with fail
  refine (err_at b _ _ ha1).mono ?_
  rintro e w2 ⟨rfl, rfl⟩
  rw [he.out]
  go_wp2_with fail
  refine (mmust_ok _).mono ?_
  rintro e w2 ⟨rfl, rfl⟩
  go_wp2_with fail
  go_ret
  exact ⟨rfl, ha1, st0.trans hs1⟩

set_option maxHeartbeats 800000 in
theorem in_number_bad (b n : Nat) (p : List UInt8 × Nat) (w : World) (hn1 : 1 ≤ n) (hn8 : n ≤ 8) (hl : p.1.length ≤ 1000000000) (h : InAt w b p) (he : (rd n p).2 ≠ 0) :
    Calls Tryz.prog 88 #[.agg #[.pointer (some ⟨b, 0, none⟩)], .int .i64 (n : Int)] w fun e w' => e = .panicked (errChain (rd n p).2) ∧ OStep b w w' := by
  have hb0 := (Below.refl w.heap.size w).alloc (Nat.le_refl _) (.cells #[.pointer (some ⟨b, 0, none⟩)] 170)
  have ha := h.below hb0
  have st0 := OStep.pure h.lt hb0
  have hnf := hid (h.new (.cells #[.pointer (some ⟨b, 0, none⟩)] 170))
  have hq := hid (heap_alloc_new w (.cells #[.pointer (some ⟨b, 0, none⟩)] 170))
  have hmb := hid (fun W => mmust_bad (rd n p).2 he W)
  clear he
  go_enter Tryz.func88, Tryz.ntmps88
  go_wp2_with fail
  refine (take_at b n p _ hn1 hn8 hl ha).mono ?_
  rintro e w1 ⟨rfl, ha1, hs1⟩
  have hq1 := ((hs1.block w.heap.size (by simp) hnf.out).1).trans hq.out
  have c1 : w1.cell? ⟨w.heap.size, 0, none⟩ = some (.pointer (some ⟨b, 0, none⟩)) := block_cell hq1 0
  replace hq1 := hid hq1
  go_wp2_with fail
  refine (err_at b _ _ ha1).mono ?_
  rintro e w2 ⟨rfl, rfl⟩
  go_wp2_with fail
  refine (hmb.out _).mono ?_
  rintro e w2 ⟨rfl, rfl⟩
  go_wp2_with fail
  exact ⟨rfl, rfl, st0.trans hs1⟩

set_option maxHeartbeats 800000 in
theorem in_u8_ok (b q i : Nat) (u : Value) (p : List UInt8 × Nat) (w : World) (hl : p.1.length ≤ 1000000000) (h : InAt w b p) (he : (rd 1 p).2 = 0) (hf : ¬ Foot w b q) (hc : w.cell? ⟨q, i, none⟩ = some u) (hz : w.frozen? ⟨q, i, none⟩ = false) :
    Calls Tryz.prog 82 #[.agg #[.pointer (some ⟨b, 0, none⟩)], .pointer (some ⟨q, i, none⟩)] w (InSet w b q i (rd 1 p) (.int .u8 (tv 1 p : Int))) := by
  have hb0 := (Below.refl w.heap.size w).alloc (Nat.le_refl _) (.cells #[.pointer (some ⟨b, 0, none⟩)] 170)
  have ha := h.below hb0
  have st0 := OStep.pure h.lt hb0
  have c0 : IntKind.u8.wrap (tv 1 p : Int) = (tv 1 p : Int) := IntWalk.u8_in _ (by have := tv_lt 1 p (by omega); omega)
  have hnum := hid (fun W (h : InAt W b p) => in_number_ok b 1 p W (by omega) (by omega) hl h he)
  clear he
  have hlt := World.block_lt_of_cell? w _ hc
  have hf' := hid hf
  clear hf
  go_enter Tryz.func82, Tryz.ntmps82
  go_wp2_with fail
  refine (hnum.out _ ha).mono ?_
  rintro e w1 ⟨rfl, ha1, hs1⟩
  have hst := st0.trans hs1
  have c1 := hst.cell hf'.out hc
  have f1 : w1.frozen? ⟨q, i, none⟩ = false := (World.frozen?_of_block (w := w) ((hst.block q hlt hf'.out).1)).trans hz
  clear hc hz
  go_wp2_with fail
  go_end0
  exact ⟨rfl, _, hst, ha1, rfl⟩

set_option maxHeartbeats 800000 in
theorem in_u8_bad (b q i : Nat) (p : List UInt8 × Nat) (w : World) (hl : p.1.length ≤ 1000000000) (h : InAt w b p) (he : (rd 1 p).2 ≠ 0) :
    Calls Tryz.prog 82 #[.agg #[.pointer (some ⟨b, 0, none⟩)], .pointer (some ⟨q, i, none⟩)] w fun e w' => e = .panicked (errChain (rd 1 p).2) ∧ OStep b w w' := by
  have hb0 := (Below.refl w.heap.size w).alloc (Nat.le_refl _) (.cells #[.pointer (some ⟨b, 0, none⟩)] 170)
  have ha := h.below hb0
  have st0 := OStep.pure h.lt hb0
  have hnum := hid (fun W (h : InAt W b p) => in_number_bad b 1 p W (by omega) (by omega) hl h he)
  clear he
  go_enter Tryz.func82, Tryz.ntmps82
  go_wp2_with fail
  refine (hnum.out _ ha).mono ?_
  rintro e w1 ⟨rfl, hs1⟩
  go_wp2_with fail
  exact ⟨rfl, rfl, st0.trans hs1⟩

set_option maxHeartbeats 800000 in
theorem in_u16_ok (b q i : Nat) (u : Value) (p : List UInt8 × Nat) (w : World) (hl : p.1.length ≤ 1000000000) (h : InAt w b p) (he : (rd 2 p).2 = 0) (hf : ¬ Foot w b q) (hc : w.cell? ⟨q, i, none⟩ = some u) (hz : w.frozen? ⟨q, i, none⟩ = false) :
    Calls Tryz.prog 83 #[.agg #[.pointer (some ⟨b, 0, none⟩)], .pointer (some ⟨q, i, none⟩)] w (InSet w b q i (rd 2 p) (.int .u16 (tv 2 p : Int))) := by
  have hb0 := (Below.refl w.heap.size w).alloc (Nat.le_refl _) (.cells #[.pointer (some ⟨b, 0, none⟩)] 170)
  have ha := h.below hb0
  have st0 := OStep.pure h.lt hb0
  have c0 : IntKind.u16.wrap (tv 2 p : Int) = (tv 2 p : Int) := IntWalk.u16_in _ (by have := tv_lt 2 p (by omega); omega)
  have hnum := hid (fun W (h : InAt W b p) => in_number_ok b 2 p W (by omega) (by omega) hl h he)
  clear he
  have hlt := World.block_lt_of_cell? w _ hc
  have hf' := hid hf
  clear hf
  go_enter Tryz.func83, Tryz.ntmps83
  go_wp2_with fail
  refine (hnum.out _ ha).mono ?_
  rintro e w1 ⟨rfl, ha1, hs1⟩
  have hst := st0.trans hs1
  have c1 := hst.cell hf'.out hc
  have f1 : w1.frozen? ⟨q, i, none⟩ = false := (World.frozen?_of_block (w := w) ((hst.block q hlt hf'.out).1)).trans hz
  clear hc hz
  go_wp2_with fail
  go_end0
  exact ⟨rfl, _, hst, ha1, rfl⟩

set_option maxHeartbeats 800000 in
theorem in_u16_bad (b q i : Nat) (p : List UInt8 × Nat) (w : World) (hl : p.1.length ≤ 1000000000) (h : InAt w b p) (he : (rd 2 p).2 ≠ 0) :
    Calls Tryz.prog 83 #[.agg #[.pointer (some ⟨b, 0, none⟩)], .pointer (some ⟨q, i, none⟩)] w fun e w' => e = .panicked (errChain (rd 2 p).2) ∧ OStep b w w' := by
  have hb0 := (Below.refl w.heap.size w).alloc (Nat.le_refl _) (.cells #[.pointer (some ⟨b, 0, none⟩)] 170)
  have ha := h.below hb0
  have st0 := OStep.pure h.lt hb0
  have hnum := hid (fun W (h : InAt W b p) => in_number_bad b 2 p W (by omega) (by omega) hl h he)
  clear he
  go_enter Tryz.func83, Tryz.ntmps83
  go_wp2_with fail
  refine (hnum.out _ ha).mono ?_
  rintro e w1 ⟨rfl, hs1⟩
  go_wp2_with fail
  exact ⟨rfl, rfl, st0.trans hs1⟩

set_option maxHeartbeats 800000 in
theorem in_u32_ok (b q i : Nat) (u : Value) (p : List UInt8 × Nat) (w : World) (hl : p.1.length ≤ 1000000000) (h : InAt w b p) (he : (rd 4 p).2 = 0) (hf : ¬ Foot w b q) (hc : w.cell? ⟨q, i, none⟩ = some u) (hz : w.frozen? ⟨q, i, none⟩ = false) :
    Calls Tryz.prog 154 #[.agg #[.pointer (some ⟨b, 0, none⟩)], .pointer (some ⟨q, i, none⟩)] w (InSet w b q i (rd 4 p) (.int .u32 (tv 4 p : Int))) := by
  have hb0 := (Below.refl w.heap.size w).alloc (Nat.le_refl _) (.cells #[.pointer (some ⟨b, 0, none⟩)] 170)
  have ha := h.below hb0
  have st0 := OStep.pure h.lt hb0
  have c0 : IntKind.u32.wrap (tv 4 p : Int) = (tv 4 p : Int) := IntWalk.u32_in _ (by have := tv_lt 4 p (by omega); omega)
  have hnum := hid (fun W (h : InAt W b p) => in_number_ok b 4 p W (by omega) (by omega) hl h he)
  clear he
  have hlt := World.block_lt_of_cell? w _ hc
  have hf' := hid hf
  clear hf
  go_enter Tryz.func154, Tryz.ntmps154
  go_wp2_with fail
  refine (hnum.out _ ha).mono ?_
  rintro e w1 ⟨rfl, ha1, hs1⟩
  have hst := st0.trans hs1
  have c1 := hst.cell hf'.out hc
  have f1 : w1.frozen? ⟨q, i, none⟩ = false := (World.frozen?_of_block (w := w) ((hst.block q hlt hf'.out).1)).trans hz
  clear hc hz
  go_wp2_with fail
  go_end0
  exact ⟨rfl, _, hst, ha1, rfl⟩

set_option maxHeartbeats 800000 in
theorem in_u32_bad (b q i : Nat) (p : List UInt8 × Nat) (w : World) (hl : p.1.length ≤ 1000000000) (h : InAt w b p) (he : (rd 4 p).2 ≠ 0) :
    Calls Tryz.prog 154 #[.agg #[.pointer (some ⟨b, 0, none⟩)], .pointer (some ⟨q, i, none⟩)] w fun e w' => e = .panicked (errChain (rd 4 p).2) ∧ OStep b w w' := by
  have hb0 := (Below.refl w.heap.size w).alloc (Nat.le_refl _) (.cells #[.pointer (some ⟨b, 0, none⟩)] 170)
  have ha := h.below hb0
  have st0 := OStep.pure h.lt hb0
  have hnum := hid (fun W (h : InAt W b p) => in_number_bad b 4 p W (by omega) (by omega) hl h he)
  clear he
  go_enter Tryz.func154, Tryz.ntmps154
  go_wp2_with fail
  refine (hnum.out _ ha).mono ?_
  rintro e w1 ⟨rfl, hs1⟩
  go_wp2_with fail
  exact ⟨rfl, rfl, st0.trans hs1⟩

set_option maxHeartbeats 800000 in
theorem in_u64_ok (b q i : Nat) (u : Value) (p : List UInt8 × Nat) (w : World) (hl : p.1.length ≤ 1000000000) (h : InAt w b p) (he : (rd 8 p).2 = 0) (hf : ¬ Foot w b q) (hc : w.cell? ⟨q, i, none⟩ = some u) (hz : w.frozen? ⟨q, i, none⟩ = false) :
    Calls Tryz.prog 155 #[.agg #[.pointer (some ⟨b, 0, none⟩)], .pointer (some ⟨q, i, none⟩)] w (InSet w b q i (rd 8 p) (.int .u64 (tv 8 p : Int))) := by
  have hb0 := (Below.refl w.heap.size w).alloc (Nat.le_refl _) (.cells #[.pointer (some ⟨b, 0, none⟩)] 170)
  have ha := h.below hb0
  have st0 := OStep.pure h.lt hb0
  have hnum := hid (fun W (h : InAt W b p) => in_number_ok b 8 p W (by omega) (by omega) hl h he)
  clear he
  have hlt := World.block_lt_of_cell? w _ hc
  have hf' := hid hf
  clear hf
  go_enter Tryz.func155, Tryz.ntmps155
  go_wp2_with fail
  refine (hnum.out _ ha).mono ?_
  rintro e w1 ⟨rfl, ha1, hs1⟩
  have hst := st0.trans hs1
  have c1 := hst.cell hf'.out hc
  have f1 : w1.frozen? ⟨q, i, none⟩ = false := (World.frozen?_of_block (w := w) ((hst.block q hlt hf'.out).1)).trans hz
  clear hc hz
  go_wp2_with fail
  go_end0
  exact ⟨rfl, _, hst, ha1, rfl⟩

set_option maxHeartbeats 800000 in
theorem in_u64_bad (b q i : Nat) (p : List UInt8 × Nat) (w : World) (hl : p.1.length ≤ 1000000000) (h : InAt w b p) (he : (rd 8 p).2 ≠ 0) :
    Calls Tryz.prog 155 #[.agg #[.pointer (some ⟨b, 0, none⟩)], .pointer (some ⟨q, i, none⟩)] w fun e w' => e = .panicked (errChain (rd 8 p).2) ∧ OStep b w w' := by
  have hb0 := (Below.refl w.heap.size w).alloc (Nat.le_refl _) (.cells #[.pointer (some ⟨b, 0, none⟩)] 170)
  have ha := h.below hb0
  have st0 := OStep.pure h.lt hb0
  have hnum := hid (fun W (h : InAt W b p) => in_number_bad b 8 p W (by omega) (by omega) hl h he)
  clear he
  go_enter Tryz.func155, Tryz.ntmps155
  go_wp2_with fail
  refine (hnum.out _ ha).mono ?_
  rintro e w1 ⟨rfl, hs1⟩
  go_wp2_with fail
  exact ⟨rfl, rfl, st0.trans hs1⟩

theorem text_at (b : Nat) (p : List UInt8 × Nat) (w : World) (hl : p.1.length ≤ 1000000000) (h : InAt w b p) :
    Calls Tryz.prog 161 #[.pointer (some ⟨b, 0, none⟩)] w fun en w' => en = .returned (.tuple #[.string (ts p), .int .i64 (te p : Int)]) ∧ InAt w' b (tr p) ∧ OStep b w w' := text_take_step b p.1 p.2 w hl h

set_option maxHeartbeats 800000 in
theorem in_text_ok (b q i : Nat) (u : Value) (p : List UInt8 × Nat) (w : World) (hl : p.1.length ≤ 1000000000) (h : InAt w b p) (he : te p = 0) (hf : ¬ Foot w b q) (hc : w.cell? ⟨q, i, none⟩ = some u) (hz : w.frozen? ⟨q, i, none⟩ = false) :
    Calls Tryz.prog 152 #[.agg #[.pointer (some ⟨b, 0, none⟩)], .pointer (some ⟨q, i, none⟩)] w (InSet w b q i (tr p) (.string (ts p))) := by
  have hb0 := (Below.refl w.heap.size w).alloc (Nat.le_refl _) (.cells #[.pointer (some ⟨b, 0, none⟩)] 170)
  have ha := h.below hb0
  have st0 := OStep.pure h.lt hb0
  have hlt := World.block_lt_of_cell? w _ hc
  have hf' := hid hf
  replace he := hid he
  clear hf
  go_enter Tryz.func152, Tryz.ntmps152
  go_wp2_with fail
  refine (text_at b p _ hl ha).mono ?_
  rintro e w1 ⟨rfl, ha1, hs1⟩
  rw [he.out]
  have hst := st0.trans hs1
  have c1 := hst.cell hf'.out hc
  have f1 : w1.frozen? ⟨q, i, none⟩ = false := (World.frozen?_of_block (w := w) ((hst.block q hlt hf'.out).1)).trans hz
  clear hc hz
  go_wp2_with fail
  refine (mmust_ok _).mono ?_
  rintro e w2 ⟨rfl, rfl⟩
  go_wp2_with fail
  go_end0
  exact ⟨rfl, _, hst, ha1, rfl⟩

set_option maxHeartbeats 800000 in
theorem in_text_bad (b q i : Nat) (p : List UInt8 × Nat) (w : World) (hl : p.1.length ≤ 1000000000) (h : InAt w b p) (he : te p ≠ 0) :
    Calls Tryz.prog 152 #[.agg #[.pointer (some ⟨b, 0, none⟩)], .pointer (some ⟨q, i, none⟩)] w fun e w' => e = .panicked (errChain (te p)) ∧ OStep b w w' := by
  have hb0 := (Below.refl w.heap.size w).alloc (Nat.le_refl _) (.cells #[.pointer (some ⟨b, 0, none⟩)] 170)
  have ha := h.below hb0
  have st0 := OStep.pure h.lt hb0
  have hmb := hid (fun W => mmust_bad (te p) he W)
  clear he
  go_enter Tryz.func152, Tryz.ntmps152
  go_wp2_with fail
  refine (text_at b p _ hl ha).mono ?_
  rintro e w1 ⟨rfl, ha1, hs1⟩
  go_wp2_with fail
  refine (hmb.out _).mono ?_
  rintro e w2 ⟨rfl, rfl⟩
  go_wp2_with fail
  exact ⟨rfl, rfl, st0.trans hs1⟩

set_option maxHeartbeats 400000 in
theorem in_many_ok (b : Nat) (p : List UInt8 × Nat) (w : World) (hl : p.1.length ≤ 1000000000) (h : InAt w b p) (he : (rd 2 p).2 = 0) (hn : tv 2 p ≤ 16) :
    Calls Tryz.prog 158 #[.agg #[.pointer (some ⟨b, 0, none⟩)]] w fun e w' => e = .returned (.int .i64 (tv 2 p : Int)) ∧ InAt w' b (rd 2 p) ∧ OStep b w w' := by
  have hb0 := (Below.refl w.heap.size w).alloc (Nat.le_refl _) (.cells #[.pointer (some ⟨b, 0, none⟩)] 170)
  have ha := h.below hb0
  have st0 := OStep.pure h.lt hb0
  have hnum := hid (fun W (h : InAt W b p) => in_number_ok b 2 p W (by omega) (by omega) hl h he)
  clear he
  go_enter Tryz.func158, Tryz.ntmps158
  go_wp2_with fail
  refine (hnum.out _ ha).mono ?_
  rintro e w1 ⟨rfl, ha1, hs1⟩
  go_wp2_with fail
  go_ret
  exact ⟨rfl, ha1, st0.trans hs1⟩
set_option maxHeartbeats 400000 in
theorem in_many_long (b : Nat) (p : List UInt8 × Nat) (w : World) (hl : p.1.length ≤ 1000000000) (h : InAt w b p) (he : (rd 2 p).2 = 0) (hn : 16 < tv 2 p) :
    Calls Tryz.prog 158 #[.agg #[.pointer (some ⟨b, 0, none⟩)]] w fun e w' => e = .panicked (errChain 2) ∧ OStep b w w' := by
  have hb0 := (Below.refl w.heap.size w).alloc (Nat.le_refl _) (.cells #[.pointer (some ⟨b, 0, none⟩)] 170)
  have ha := h.below hb0
  have st0 := OStep.pure h.lt hb0
  have h16 := tv_lt 2 p (by omega)
  have hnum := hid (fun W (h : InAt W b p) => in_number_ok b 2 p W (by omega) (by omega) hl h he)
  clear he
  go_enter Tryz.func158, Tryz.ntmps158
  go_wp2_with fail
  refine (hnum.out _ ha).mono ?_
  rintro e w1 ⟨rfl, ha1, hs1⟩
  go_wp2_with fail
  exact ⟨rfl, rfl, st0.trans hs1⟩
set_option maxHeartbeats 400000 in
theorem in_many_bad (b : Nat) (p : List UInt8 × Nat) (w : World) (hl : p.1.length ≤ 1000000000) (h : InAt w b p) (he : (rd 2 p).2 ≠ 0) :
    Calls Tryz.prog 158 #[.agg #[.pointer (some ⟨b, 0, none⟩)]] w fun e w' => e = .panicked (errChain (rd 2 p).2) ∧ OStep b w w' := by
  have hb0 := (Below.refl w.heap.size w).alloc (Nat.le_refl _) (.cells #[.pointer (some ⟨b, 0, none⟩)] 170)
  have ha := h.below hb0
  have st0 := OStep.pure h.lt hb0
  have hnum := hid (fun W (h : InAt W b p) => in_number_bad b 2 p W (by omega) (by omega) hl h he)
  clear he
  go_enter Tryz.func158, Tryz.ntmps158
  go_wp2_with fail
  refine (hnum.out _ ha).mono ?_
  rintro e w1 ⟨rfl, hs1⟩
  go_wp2_with fail
  exact ⟨rfl, rfl, st0.trans hs1⟩

def InSet3 (w : World) (b q i : Nat) (p : List UInt8 × Nat) (u0 u1 u2 : Value) (e : Ending) (w' : World) : Prop :=
  e = .returned (.tuple #[]) ∧ ∃ w1, OStep b w w1 ∧ InAt w1 b p ∧ w' = ((w1.setCell ⟨q, i, none⟩ u0).setCell ⟨q, i + 1, none⟩ u1).setCell ⟨q, i + 2, none⟩ u2
def InBad (w : World) (b q err : Nat) (e : Ending) (w' : World) : Prop := e = .panicked (errChain err) ∧ ∀ m, m ≤ b → m ≤ q → Below m w w'
set_option maxHeartbeats 800000 in
theorem in_qid_ok (b q i : Nat) (u0 u1 u2 : Value) (p : List UInt8 × Nat) (w : World) (hl : p.1.length ≤ 1000000000) (h : InAt w b p) (he : (qr p).2 = 0) (hf : ¬ Foot w b q)
    (hc0 : w.cell? ⟨q, i, none⟩ = some u0) (hc1 : w.cell? ⟨q, i + 1, none⟩ = some u1) (hc2 : w.cell? ⟨q, i + 2, none⟩ = some u2) (hz0 : w.frozen? ⟨q, i, none⟩ = false) (hz1 : w.frozen? ⟨q, i + 1, none⟩ = false) (hz2 : w.frozen? ⟨q, i + 2, none⟩ = false) :
    Calls Tryz.prog 149 #[.agg #[.pointer (some ⟨b, 0, none⟩)], .pointer (some ⟨q, i, none⟩)] w (InSet3 w b q i (qr p) (.int .u8 (qvT p : Int)) (.int .u32 (qvV p : Int)) (.int .u64 (qvP p : Int))) := by
  have hb0 := (Below.refl w.heap.size w).alloc (Nat.le_refl _) (.cells #[.pointer (some ⟨b, 0, none⟩)] 170)
  have ha := h.below hb0
  have st0 := OStep.pure h.lt hb0
  have hnf := hid (h.new (.cells #[.pointer (some ⟨b, 0, none⟩)] 170))
  have hq := hid (heap_alloc_new w (.cells #[.pointer (some ⟨b, 0, none⟩)] 170))
  have hlt := World.block_lt_of_cell? w _ hc0
  have hf' := hid hf
  have he' := hid he
  clear he
  clear hf
  have hagg : Hid (qidAgg p = .agg #[.int .u8 (qvT p : Int), .int .u32 (qvV p : Int), .int .u64 (qvP p : Int)]) := hid rfl
  go_enter Tryz.func149, Tryz.ntmps149
  go_wp2_with fail
  refine (qid_take_any b p _ hl ha).mono ?_
  rintro e w1 ⟨rfl, ha1, hs1⟩
  rw [hagg.out]
  have hst := st0.trans hs1
  have hblk := hst.block q hlt hf'.out
  have c0 := hst.cell hf'.out hc0
  have c1 := hst.cell hf'.out hc1
  have c2 := hst.cell hf'.out hc2
  have f0 : w1.frozen? ⟨q, i, none⟩ = false := (World.frozen?_of_block (w := w) hblk.1).trans hz0
  have f1 : w1.frozen? ⟨q, i + 1, none⟩ = false := (World.frozen?_of_block (w := w) hblk.1).trans hz1
  have f2 : w1.frozen? ⟨q, i + 2, none⟩ = false := (World.frozen?_of_block (w := w) hblk.1).trans hz2
  have ha2 := ha1.store3 hblk.2 i (i + 1) (i + 2) (.int .u8 (qvT p : Int)) (.int .u32 (qvV p : Int)) (.int .u64 (qvP p : Int))
  have hq1 := ((hs1.block w.heap.size (by simp) hnf.out).1).trans hq.out
  have c9 : w1.cell? ⟨w.heap.size, 0, none⟩ = some (.pointer (some ⟨b, 0, none⟩)) := block_cell hq1 0
  have hne : w.heap.size ≠ q := by omega
  replace hq1 := hid hq1
  replace hblk := hid hblk
  clear hc0 hc1 hc2 hz0 hz1 hz2
  go_wp2_with fail
  refine (err_at b _ _ ha2).mono ?_
  rintro e w2 ⟨rfl, rfl⟩
  rw [he'.out]
  go_wp2_with fail
  refine (mmust_ok _).mono ?_
  rintro e w2 ⟨rfl, rfl⟩
  go_wp2_with fail
  go_end0
  exact ⟨rfl, _, hst, ha1, rfl⟩


set_option maxHeartbeats 800000 in
theorem in_qid_bad (b q i : Nat) (u0 u1 u2 : Value) (p : List UInt8 × Nat) (w : World) (hl : p.1.length ≤ 1000000000) (h : InAt w b p) (he : (qr p).2 ≠ 0) (hf : ¬ Foot w b q)
    (hc0 : w.cell? ⟨q, i, none⟩ = some u0) (hc1 : w.cell? ⟨q, i + 1, none⟩ = some u1) (hc2 : w.cell? ⟨q, i + 2, none⟩ = some u2) (hz0 : w.frozen? ⟨q, i, none⟩ = false) (hz1 : w.frozen? ⟨q, i + 1, none⟩ = false) (hz2 : w.frozen? ⟨q, i + 2, none⟩ = false) :
    Calls Tryz.prog 149 #[.agg #[.pointer (some ⟨b, 0, none⟩)], .pointer (some ⟨q, i, none⟩)] w (InBad w b q (qr p).2) := by
  have hb0 := (Below.refl w.heap.size w).alloc (Nat.le_refl _) (.cells #[.pointer (some ⟨b, 0, none⟩)] 170)
  have ha := h.below hb0
  have st0 := OStep.pure h.lt hb0
  have hnf := hid (h.new (.cells #[.pointer (some ⟨b, 0, none⟩)] 170))
  have hq := hid (heap_alloc_new w (.cells #[.pointer (some ⟨b, 0, none⟩)] 170))
  have hlt := World.block_lt_of_cell? w _ hc0
  have hf' := hid hf
  have hmb := hid (fun W => mmust_bad (qr p).2 he W)
  clear he
  clear hf
  have hagg : Hid (qidAgg p = .agg #[.int .u8 (qvT p : Int), .int .u32 (qvV p : Int), .int .u64 (qvP p : Int)]) := hid rfl
  go_enter Tryz.func149, Tryz.ntmps149
  go_wp2_with fail
  refine (qid_take_any b p _ hl ha).mono ?_
  rintro e w1 ⟨rfl, ha1, hs1⟩
  rw [hagg.out]
  have hst := st0.trans hs1
  have hblk := hst.block q hlt hf'.out
  have c0 := hst.cell hf'.out hc0
  have c1 := hst.cell hf'.out hc1
  have c2 := hst.cell hf'.out hc2
  have f0 : w1.frozen? ⟨q, i, none⟩ = false := (World.frozen?_of_block (w := w) hblk.1).trans hz0
  have f1 : w1.frozen? ⟨q, i + 1, none⟩ = false := (World.frozen?_of_block (w := w) hblk.1).trans hz1
  have f2 : w1.frozen? ⟨q, i + 2, none⟩ = false := (World.frozen?_of_block (w := w) hblk.1).trans hz2
  have ha2 := ha1.store3 hblk.2 i (i + 1) (i + 2) (.int .u8 (qvT p : Int)) (.int .u32 (qvV p : Int)) (.int .u64 (qvP p : Int))
  have hq1 := ((hs1.block w.heap.size (by simp) hnf.out).1).trans hq.out
  have c9 : w1.cell? ⟨w.heap.size, 0, none⟩ = some (.pointer (some ⟨b, 0, none⟩)) := block_cell hq1 0
  have hne : w.heap.size ≠ q := by omega
  replace hq1 := hid hq1
  replace hblk := hid hblk
  clear hc0 hc1 hc2 hz0 hz1 hz2
  go_wp2_with fail
  refine (err_at b _ _ ha2).mono ?_
  rintro e w2 ⟨rfl, rfl⟩
  go_wp2_with fail
  refine (hmb.out _).mono ?_
  rintro e w2 ⟨rfl, rfl⟩
  go_wp2_with fail
  exact ⟨rfl, rfl, fun m h1 h2 => (((hst.below.mono h1).setCell (p := ⟨q, i, none⟩) h2 _).setCell (p := ⟨q, i + 1, none⟩) h2 _).setCell (p := ⟨q, i + 2, none⟩) h2 _⟩

end
end Go.Proofs.YtcbglcebdkpcfaaGreat

namespace Go.Proofs.YtcbglcebdkpcfaaGreat
section
open Go.RowKit
set_option maxRecDepth 100000

theorem out_texts_long (b p i : Nat) (v : Value) (L : List ByteArray) (w : World) (hL : 16 < L.length) (hv : StrsAt w v L) (hc : w.cell? ⟨p, i, none⟩ = some v) :
    Calls Tryz.prog 126 #[.pointer (some ⟨b, 0, none⟩), .pointer (some ⟨p, i, none⟩)] w fun e w' => e = .panicked (errChain 3) ∧ w = w' := by
  obtain ⟨a, c, rfl, g1, g2⟩ := hv.form
  clear hv
  go_enter Tryz.func126, Tryz.ntmps126
  go_wp2_with fail
  refine (out_many_bad b L.length _ hL).mono ?_
  rintro e w1 ⟨rfl, rfl⟩
  go_wp2_with fail
  exact ⟨rfl, rfl, rfl⟩
theorem out_qids_long (b p i : Nat) (v : Value) (L : List QidV) (w : World) (hL : 16 < L.length) (hv : QidsAt w v L) (hc : w.cell? ⟨p, i, none⟩ = some v) :
    Calls Tryz.prog 123 #[.pointer (some ⟨b, 0, none⟩), .pointer (some ⟨p, i, none⟩)] w fun e w' => e = .panicked (errChain 3) ∧ w = w' := by
  obtain ⟨a, c, rfl, g1, g2⟩ := hv.form
  clear hv
  go_enter Tryz.func123, Tryz.ntmps123
  go_wp2_with fail
  refine (out_many_bad b L.length _ hL).mono ?_
  rintro e w1 ⟨rfl, rfl⟩
  go_wp2_with fail
  exact ⟨rfl, rfl, rfl⟩
end
end Go.Proofs.YtcbglcebdkpcfaaGreat
