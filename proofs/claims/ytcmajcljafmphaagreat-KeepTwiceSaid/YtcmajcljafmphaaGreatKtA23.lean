/- A tree in bytes: the spec, and the state of the walk of Encode. Conditions: numbers in their types. And the texts behind it. -/
import Derived.Test.YtcmajcljafmphaaGreatKtA04
import Derived.Test.YtcmajcljafmphaaGreatKtA06
import Derived.Test.YtcmajcljafmphaaGreatKtA22
import Derived.Test.YtcmajcljafmphaaGreatKtA20
import Derived.Test.YtcmajcljafmphaaGreatKtA07
namespace Go.Proofs.YtcmajcljafmphaaGreat
section
open Go.RowKit
set_option maxRecDepth 100000
set_option linter.unusedVariables false

def txtB (s : ByteArray) : List UInt8 := numBytes s.size 4 ++ s.data.toList
def goneN1 (n : Nod) : Nat := if n.gone then 1 else 0
def encNums (n : Nod) : List UInt8 := numBytes n.path 8 ++ [n.vers, n.mode, n.atm, n.mtm].flatMap (fun u => numBytes u 4) ++ numBytes n.up 8 ++ numBytes (goneN1 n) 1
def encN (n : Nod) : List UInt8 := encNums n ++ [n.name, n.uid, n.gid, n.muid, n.data].flatMap txtB
def encT (x : Nat) (l : List Nod) : List UInt8 := numBytes x 8 ++ numBytes l.length 4 ++ l.flatMap encN
def KeptB (w : World) (b k : Nat) (o : Obj) : Prop := w.heap[k]? = some o ∧ ¬ Foot w b k
theorem KeptB.step {w w' : World} {b k : Nat} {o : Obj} (h : KeptB w b k o) (hs : OStep b w w') : KeptB w' b k o := by
  obtain ⟨h1, h2⟩ := h
  obtain ⟨a1, a2⟩ := hs.block k (Array.getElem?_eq_some_iff.1 h1).1 h2
  exact ⟨a1.trans h1, a2⟩
structure EnS (w0 : World) (g b x : Nat) (tv : Value) (l : List Nod) (xs : List UInt8) (w : World) : Prop where
  bel : Below w0.heap.size w0 w
  box : KeptB w b g (.cells #[.int .u64 (x : Int), tv] 33 (0, 0))
  row : NodsAt w0 tv l
  out : OutIs w b xs
  hb : w0.heap.size ≤ b
  hB : w0.heap.size ≤ w.heap.size
theorem EnS.step {w0 w w' : World} {g b x : Nat} {tv : Value} {l : List Nod} {xs ys : List UInt8} (h : EnS w0 g b x tv l xs w) (hs : OStep b w w') (ho : OutIs w' b ys) : EnS w0 g b x tv l ys w' :=
  ⟨h.bel.trans (hs.below.mono h.hb), h.box.step hs, h.row, ho, h.hb, Nat.le_trans h.hB hs.below.size⟩
theorem EnS.rows {w0 w : World} {g b x : Nat} {tv : Value} {l : List Nod} {xs : List UInt8} (h : EnS w0 g b x tv l xs w) : NodsAt w tv l := h.row.below h.bel
theorem outIs_lt {w : World} {b : Nat} {xs : List UInt8} (h : OutIs w b xs) : b < w.heap.size := by
  obtain ⟨v, ot, h1, _⟩ := h
  exact lt_of_block h1
theorem EnS.grow {w0 w w' : World} {g b x : Nat} {tv : Value} {l : List Nod} {xs : List UInt8} (h : EnS w0 g b x tv l xs w) (hb : Below w.heap.size w w') (ho : OutIs w' b xs) : EnS w0 g b x tv l xs w' :=
  h.step (OStep.pure (outIs_lt h.out) hb) ho
theorem OutIs.below2 {w w' : World} {b : Nat} {xs : List UInt8} (h : OutIs w b xs) (hb : Below w.heap.size w w') : OutIs w' b xs := by
  obtain ⟨v, ot, h1, h2⟩ := h
  exact ⟨v, ot, (hb.block _ (lt_of_block h1)).trans h1, own_keep h2 (fun j hj => hb.block j (h2.lt j hj).2)⟩
theorem EnS.next {w0 w w' : World} {g b x : Nat} {tv : Value} {l : List Nod} {xs : List UInt8} (h : EnS w0 g b x tv l xs w) (hb : Below w.heap.size w w') : EnS w0 g b x tv l xs w' := h.grow hb (h.out.below2 hb)
theorem EnS.new {w0 w : World} {g b x : Nat} {tv : Value} {l : List Nod} {xs : List UInt8} (h : EnS w0 g b x tv l xs w) (o : Obj) : KeptB (w.alloc o) b w.heap.size o := ⟨heap_alloc_new _ _, h.out.new o⟩
theorem kept_new {w w' : World} {b z : Nat} {xs : List UInt8} {o : Obj} (h : OutIs w b xs) (hb : Below w.heap.size w w') (hz : w.heap.size ≤ z) (ho : w'.heap[z]? = some o) : KeptB w' b z o := by
  obtain ⟨v, ot, h1, h2⟩ := h
  refine ⟨ho, ?_⟩
  rintro (e | ⟨u, hu, he⟩)
  · have := lt_of_block h1; omega
  · have h3 := block_cell ((hb.block _ (lt_of_block h1)).trans h1) 0
    rw [h3] at hu
    cases hu
    have := (h2.lt _ he).2; omega
theorem KeptB.next {w w' : World} {b k : Nat} {xs : List UInt8} {o : Obj} (h : KeptB w b k o) (ho : OutIs w b xs) (hb : Below w.heap.size w w') : KeptB w' b k o := h.step (OStep.pure (outIs_lt ho) hb)
theorem enc_flat {l : List Nod} (h : ∀ n ∈ l, (encN n).length ≤ 100000) : (l.flatMap encN).length ≤ l.length * 100000 := by
  induction l with
  | nil => simp
  | cons n l ih =>
    have h1 := h n (by simp)
    have h2 := ih (fun m hm => h m (by simp [hm]))
    rw [List.flatMap_cons, List.length_append, List.length_cons]
    omega
theorem encN_len {n : Nod} : (encN n).length = 8 + 16 + 8 + 1 + 20 + n.name.size + n.uid.size + n.gid.size + n.muid.size + n.data.size := by
  unfold encN encNums txtB
  simp [numBytes_length]
  omega
end
end Go.Proofs.YtcmajcljafmphaaGreat

namespace Go.Proofs.YtcmajcljafmphaaGreat
section
open Go.RowKit
set_option maxRecDepth 100000
set_option linter.unusedVariables false

theorem rld_inp {p : Addr} {v : Value} {w : World} (h : w.cell? p = some v) : (loadVar 93 p).run Tryz.prog w = .ok v w := by simp [go_sem, h]
theorem rld_in {z : Nat} {u : Value} {w : World} (h0 : w.cell? ⟨z, 0, none⟩ = some u) : (loadVar 111 ⟨z, 0, none⟩).run Tryz.prog w = .ok (.agg #[u]) w := by
  have hl : (loadCells ⟨z, 0, none⟩ 1).run Tryz.prog w = .ok #[u] w := by
    refine run_loadCells_list (P := Tryz.prog) (w := w) ⟨z, 0, none⟩ [u] (fun j s hv => ?_)
    match j, hv with
    | 0, hv => cases hv; exact h0
  obtain ⟨i0, hi0, hz0⟩ : ∃ i0, Tryz.prog.info? 111 = some i0 ∧ i0.size = 1 := ⟨_, rfl, rfl⟩
  have hagg : (isAgg 111).run Tryz.prog w = .ok true w := by kernel_rfl
  simp [loadVar, Sem.run_bind, hagg, sizeOf, typeInfo, hi0, hz0, hl]
theorem hpanic {P : Program} {ops : Array Oper} {Q : Exit → Act → World → Prop} {S : World → Prop} {o : Oper} {a : Act} {w : World} {listed : Array Bool} {fuel i : Nat} (hi : ops[i]? = some o) (hr : Region.ready .any ops listed = [i])
    (hw : Region.wanted o (yielded ops a.tmps) = true) (hrun : ∃ f args, (execOp a.eval o).run P w = .ok (.enter f args) w ∧ Calls P f args w fun e w' => ∃ ch, e = .panicked ch ∧ Q (.panic ch) a w') : wpAnyH P .any ops Q S (fuel + 1) listed a w := by
  refine wpAnyH_all (rs := [i]) hr (by simp) fun j hj => ?_
  obtain rfl : j = i := by simpa using hj
  unfold wpOp
  simp only [hi]
  rw [if_pos hw]
  refine .inl ?_
  obtain ⟨f, args, h1, h2⟩ := hrun
  unfold Oper.wp
  rw [h1]
  refine h2.mono ?_
  rintro e w' ⟨ch, rfl, h3⟩
  exact h3
section
variable {o : Oper} {ev : Operand → Value} {w : World} {x : Operand}
theorem rrun_cvi {n : Nat} (ho : o.op = .convert 30 3 x) (hx : ev x = .int .u64 (n : Int)) (hn : n ≤ 9223372036854775807) : (execOp ev o).run Tryz.prog w = .ok (.value (.int .i64 (n : Int))) w := by
  have cv : IntKind.i64.wrap (n : Int) = (n : Int) := IntWalk.i64_in _ (by omega)
  simp [execOp, ho, hx, cv, go_sem]
end

noncomputable def ops_nt1 : Array Oper := match Tryz.f107.body with | some c => (allOps' c).getD 1 #[] | none => #[]
theorem size_nt1 : ops_nt1.size = 7 := by kernel_rfl
set_option maxHeartbeats 4000000 in
theorem nt1_all {g b K : Nat} {l : List UInt8} {v0 v2 : Value} {Q : Exit → Act → World → Prop} {a : Act} {w : World} (hl : l.length ≤ 1000000000) (h4 : 4 ≤ l.length) (hK : leN (l.take 4) = K) (hKl : K ≤ (l.drop 4).length) (h : InIs w b l 0) (hg : KeptB w b g (.cells #[ptr b 0] 111 (0, 0)))
    (hQ : ∀ d u c a w, Q (.panic c) (a.put d u) w → Q (.panic c) a w) (hF : FrL 14 [(1, ptr g 0), (0, v0), (2, v2)] a)
    (hE : ∀ a w' rv, FrL 14 ((3, rv) :: (1, ptr g 0) :: [(0, v0), (2, v2)]) a → BytesAt w' rv ((l.drop 4).take K) → InIs w' b ((l.drop 4).drop K) 0 → OStep b w w' → KeptB w' b g (.cells #[ptr b 0] 111 (0, 0)) → Q .normal a w') :
    wpAnyH Tryz.prog .any ops_nt1 Q (fun w' : World => w'.heap[g]? = some (.cells #[ptr b 0] 111 (0, 0))) 7 (Array.replicate 7 false) a w := by
  have hS : (fun w' : World => w'.heap[g]? = some (.cells #[ptr b 0] 111 (0, 0))) w := hg.1
  refine hst (i := 0) (o := ops_nt1[0]'(show 0 < ops_nt1.size by rw [size_nt1]; decide)) hF 4 true (ptr g 0) (Array.getElem?_eq_getElem (show 0 < ops_nt1.size by rw [size_nt1]; decide)) (by kernel_rfl) (by decide) (by kernel_rfl) (by kernel_rfl) (by kernel_rfl) (hQ _ _) (want_n (by kernel_rfl)) (fun hW w hS => rrun_fld (T := 111) (x := .tmp 1) (f := 0) (by kernel_rfl) (hF.ev 1 (ptr g 0) rfl) (by kernel_rfl)) hS (fun a hF => ?_)
  rw [show cond true (ptr g 0) undef = ptr g 0 from rfl] at hF
  refine hst (i := 1) (o := ops_nt1[1]'(show 1 < ops_nt1.size by rw [size_nt1]; decide)) hF 5 true (ptr b 0) (Array.getElem?_eq_getElem (show 1 < ops_nt1.size by rw [size_nt1]; decide)) (by kernel_rfl) (by decide) (by kernel_rfl) (by kernel_rfl) (by kernel_rfl) (hQ _ _) (want_n (by kernel_rfl)) (fun hW w hS => rrun_load (ty := 93) (x := .tmp 4) (by kernel_rfl) (hF.ev 4 (ptr g 0) rfl) (rld_inp (block_cell (show w.heap[g]? = _ from hS) 0))) hS (fun a hF => ?_)
  rw [show cond true (ptr b 0) undef = ptr b 0 from rfl] at hF
  refine hst (i := 2) (o := ops_nt1[2]'(show 2 < ops_nt1.size by rw [size_nt1]; decide)) hF 6 true (.agg #[ptr b 0]) (Array.getElem?_eq_getElem (show 2 < ops_nt1.size by rw [size_nt1]; decide)) (by kernel_rfl) (by decide) (by kernel_rfl) (by kernel_rfl) (by kernel_rfl) (hQ _ _) (want_n (by kernel_rfl)) (fun hW w hS => rrun_load (ty := 111) (x := .tmp 1) (by kernel_rfl) (hF.ev 1 (ptr g 0) rfl) (rld_in (block_cell (show w.heap[g]? = _ from hS) 0))) hS (fun a hF => ?_)
  rw [show cond true (.agg #[ptr b 0]) undef = .agg #[ptr b 0] from rfl] at hF
  refine hcallx (i := 3) (o := ops_nt1[3]'(show 3 < ops_nt1.size by rw [size_nt1]; decide)) (R := fun v w' => v = .int .u64 (K : Int) ∧ InIs w' b (l.drop 4) 0 ∧ OStep b w w') hF 7 (Array.getElem?_eq_getElem (show 3 < ops_nt1.size by rw [size_nt1]; decide)) (by kernel_rfl) (by decide) (by kernel_rfl) (want_n (by kernel_rfl)) ⟨88, #[.agg #[ptr b 0], .int .i64 ((4 : Nat) : Int)], rrun_call2 (fn := 88) (x := .tmp 6) (y := .const (.int .i64 4)) (t := 111) (u := 3) rfl (by kernel_rfl) (by kernel_rfl) (hF.ev 6 _ rfl) rfl, (nnumber_ok b 4 l w (by omega) (by omega) (by omega) h h4).mono (by rintro e w' ⟨rfl, h1, h2⟩; exact ⟨_, rfl, ⟨by rw [hK], h1, h2⟩, (hg.step h2).1⟩)⟩ ?_
  rintro _ a w2 ⟨rfl, hI2, hs2⟩ hF hS
  have hg2 := hg.step hs2
  refine hst (i := 4) (o := ops_nt1[4]'(show 4 < ops_nt1.size by rw [size_nt1]; decide)) hF 8 true (.int .i64 (K : Int)) (Array.getElem?_eq_getElem (show 4 < ops_nt1.size by rw [size_nt1]; decide)) (by kernel_rfl) (by decide) (by kernel_rfl) (by kernel_rfl) (by kernel_rfl) (hQ _ _) (want_n (by kernel_rfl)) (fun hW w hS => rrun_cvi (x := .tmp 7) (by kernel_rfl) (hF.ev 7 _ rfl) (by rw [List.length_drop] at hKl; omega)) hS (fun a hF => ?_)
  rw [show cond true (Value.int .i64 (K : Int)) undef = .int .i64 (K : Int) from rfl] at hF
  refine hcallx (i := 5) (o := ops_nt1[5]'(show 5 < ops_nt1.size by rw [size_nt1]; decide)) (R := fun v w' => BytesAt w' v ((l.drop 4).take K) ∧ InIs w' b ((l.drop 4).drop K) 0 ∧ OStep b w2 w') hF 9 (Array.getElem?_eq_getElem (show 5 < ops_nt1.size by rw [size_nt1]; decide)) (by kernel_rfl) (by decide) (by kernel_rfl) (want_n (by kernel_rfl)) ⟨119, #[ptr b 0, .int .i64 (K : Int)], rrun_call2 (fn := 119) (x := .tmp 5) (y := .tmp 8) (t := 93) (u := 3) rfl (by kernel_rfl) (by kernel_rfl) (hF.ev 5 _ rfl) (hF.ev 8 _ rfl), (in_raw_step b K (l.drop 4) 0 w2 (by rw [List.length_drop] at hKl; omega) (by rw [List.length_drop]; omega) hI2).mono (by
    rintro e w' ⟨v, rfl, h1, h2, h3⟩
    have e1 : rawL K (l.drop 4) 0 = (l.drop 4).take K := by unfold rawL; rw [if_neg (by omega), if_neg (by omega)]
    have e2 : restL K (l.drop 4) 0 = (l.drop 4).drop K := by unfold restL; rw [if_neg (by omega), if_neg (by omega)]
    have e3 : restE K (l.drop 4) 0 = 0 := by unfold restE; rw [if_neg (by omega), if_neg (by omega)]
    rw [e1] at h1
    rw [e2, e3] at h2
    exact ⟨v, rfl, ⟨h1, h2, h3⟩, (hg2.step h3).1⟩)⟩ ?_
  rintro rv a w3 ⟨hb3, hI3, hs3⟩ hF hS
  refine hst (i := 6) (o := ops_nt1[6]'(show 6 < ops_nt1.size by rw [size_nt1]; decide)) hF 3 true rv (Array.getElem?_eq_getElem (show 6 < ops_nt1.size by rw [size_nt1]; decide)) (by kernel_rfl) (by decide) (by kernel_rfl) (by kernel_rfl) (by kernel_rfl) (hQ _ _) (want_n (by kernel_rfl)) (fun hW w hS => rrun_move (x := .tmp 9) (.inr (by kernel_rfl)) (hF.ev 9 _ rfl)) hS (fun a hF => ?_)
  rw [show cond true rv undef = rv from rfl] at hF
  exact wpAnyH_done (by kernel_rfl) (hE _ _ rv (hF.sub ((3, rv) :: (1, ptr g 0) :: [(0, v0), (2, v2)]) ⟨rfl, rfl, rfl, rfl, trivial⟩) hb3 hI3 (hs2.trans hs3) (hg2.step hs3)) _
noncomputable def ops_nt2 : Array Oper := match Tryz.f107.body with | some c => (allOps' c).getD 1 #[] | none => #[]
theorem size_nt2 : ops_nt2.size = 7 := by kernel_rfl
set_option maxHeartbeats 4000000 in
theorem nt2_all {g b K : Nat} {l : List UInt8} {v0 v2 : Value} {Q : Exit → Act → World → Prop} {a : Act} {w : World} (hl : l.length ≤ 1000000000) (h4 : 4 ≤ l.length) (hK : leN (l.take 4) = K) (hKl : (l.drop 4).length < K) (hK2 : K < 9223372036854775808) (h : InIs w b l 0) (hg : KeptB w b g (.cells #[ptr b 0] 111 (0, 0)))
    (hQ : ∀ d u c a w, Q (.panic c) (a.put d u) w → Q (.panic c) a w) (hF : FrL 14 [(1, ptr g 0), (0, v0), (2, v2)] a)
    (hE : ∀ a w' rv ll, FrL 14 ((3, rv) :: (1, ptr g 0) :: [(0, v0), (2, v2)]) a → InIs w' b ll 4 → OStep b w w' → KeptB w' b g (.cells #[ptr b 0] 111 (0, 0)) → Q .normal a w') :
    wpAnyH Tryz.prog .any ops_nt2 Q (fun w' : World => w'.heap[g]? = some (.cells #[ptr b 0] 111 (0, 0))) 7 (Array.replicate 7 false) a w := by
  have hS : (fun w' : World => w'.heap[g]? = some (.cells #[ptr b 0] 111 (0, 0))) w := hg.1
  refine hst (i := 0) (o := ops_nt2[0]'(show 0 < ops_nt2.size by rw [size_nt2]; decide)) hF 4 true (ptr g 0) (Array.getElem?_eq_getElem (show 0 < ops_nt2.size by rw [size_nt2]; decide)) (by kernel_rfl) (by decide) (by kernel_rfl) (by kernel_rfl) (by kernel_rfl) (hQ _ _) (want_n (by kernel_rfl)) (fun hW w hS => rrun_fld (T := 111) (x := .tmp 1) (f := 0) (by kernel_rfl) (hF.ev 1 (ptr g 0) rfl) (by kernel_rfl)) hS (fun a hF => ?_)
  rw [show cond true (ptr g 0) undef = ptr g 0 from rfl] at hF
  refine hst (i := 1) (o := ops_nt2[1]'(show 1 < ops_nt2.size by rw [size_nt2]; decide)) hF 5 true (ptr b 0) (Array.getElem?_eq_getElem (show 1 < ops_nt2.size by rw [size_nt2]; decide)) (by kernel_rfl) (by decide) (by kernel_rfl) (by kernel_rfl) (by kernel_rfl) (hQ _ _) (want_n (by kernel_rfl)) (fun hW w hS => rrun_load (ty := 93) (x := .tmp 4) (by kernel_rfl) (hF.ev 4 (ptr g 0) rfl) (rld_inp (block_cell (show w.heap[g]? = _ from hS) 0))) hS (fun a hF => ?_)
  rw [show cond true (ptr b 0) undef = ptr b 0 from rfl] at hF
  refine hst (i := 2) (o := ops_nt2[2]'(show 2 < ops_nt2.size by rw [size_nt2]; decide)) hF 6 true (.agg #[ptr b 0]) (Array.getElem?_eq_getElem (show 2 < ops_nt2.size by rw [size_nt2]; decide)) (by kernel_rfl) (by decide) (by kernel_rfl) (by kernel_rfl) (by kernel_rfl) (hQ _ _) (want_n (by kernel_rfl)) (fun hW w hS => rrun_load (ty := 111) (x := .tmp 1) (by kernel_rfl) (hF.ev 1 (ptr g 0) rfl) (rld_in (block_cell (show w.heap[g]? = _ from hS) 0))) hS (fun a hF => ?_)
  rw [show cond true (.agg #[ptr b 0]) undef = .agg #[ptr b 0] from rfl] at hF
  refine hcallx (i := 3) (o := ops_nt2[3]'(show 3 < ops_nt2.size by rw [size_nt2]; decide)) (R := fun v w' => v = .int .u64 (K : Int) ∧ InIs w' b (l.drop 4) 0 ∧ OStep b w w') hF 7 (Array.getElem?_eq_getElem (show 3 < ops_nt2.size by rw [size_nt2]; decide)) (by kernel_rfl) (by decide) (by kernel_rfl) (want_n (by kernel_rfl)) ⟨88, #[.agg #[ptr b 0], .int .i64 ((4 : Nat) : Int)], rrun_call2 (fn := 88) (x := .tmp 6) (y := .const (.int .i64 4)) (t := 111) (u := 3) rfl (by kernel_rfl) (by kernel_rfl) (hF.ev 6 _ rfl) rfl, (nnumber_ok b 4 l w (by omega) (by omega) (by omega) h h4).mono (by rintro e w' ⟨rfl, h1, h2⟩; exact ⟨_, rfl, ⟨by rw [hK], h1, h2⟩, (hg.step h2).1⟩)⟩ ?_
  rintro _ a w2 ⟨rfl, hI2, hs2⟩ hF hS
  have hg2 := hg.step hs2
  refine hst (i := 4) (o := ops_nt2[4]'(show 4 < ops_nt2.size by rw [size_nt2]; decide)) hF 8 true (.int .i64 (K : Int)) (Array.getElem?_eq_getElem (show 4 < ops_nt2.size by rw [size_nt2]; decide)) (by kernel_rfl) (by decide) (by kernel_rfl) (by kernel_rfl) (by kernel_rfl) (hQ _ _) (want_n (by kernel_rfl)) (fun hW w hS => rrun_cvi (x := .tmp 7) (by kernel_rfl) (hF.ev 7 _ rfl) (by omega)) hS (fun a hF => ?_)
  rw [show cond true (Value.int .i64 (K : Int)) undef = .int .i64 (K : Int) from rfl] at hF
  refine hcallx (i := 5) (o := ops_nt2[5]'(show 5 < ops_nt2.size by rw [size_nt2]; decide)) (R := fun v w' => (∃ ll, InIs w' b ll 4) ∧ OStep b w2 w') hF 9 (Array.getElem?_eq_getElem (show 5 < ops_nt2.size by rw [size_nt2]; decide)) (by kernel_rfl) (by decide) (by kernel_rfl) (want_n (by kernel_rfl)) ⟨119, #[ptr b 0, .int .i64 (K : Int)], rrun_call2 (fn := 119) (x := .tmp 5) (y := .tmp 8) (t := 93) (u := 3) rfl (by kernel_rfl) (by kernel_rfl) (hF.ev 5 _ rfl) (hF.ev 8 _ rfl), (in_raw_step b K (l.drop 4) 0 w2 (by omega) (by rw [List.length_drop]; omega) hI2).mono (by
    rintro e w' ⟨v, rfl, h1, h2, h3⟩
    have e3 : restE K (l.drop 4) 0 = 4 := by unfold restE; rw [if_neg (by omega), if_pos hKl]
    rw [e3] at h2
    exact ⟨v, rfl, ⟨⟨_, h2⟩, h3⟩, (hg2.step h3).1⟩)⟩ ?_
  rintro rv a w3 ⟨⟨ll, hI3⟩, hs3⟩ hF hS
  refine hst (i := 6) (o := ops_nt2[6]'(show 6 < ops_nt2.size by rw [size_nt2]; decide)) hF 3 true rv (Array.getElem?_eq_getElem (show 6 < ops_nt2.size by rw [size_nt2]; decide)) (by kernel_rfl) (by decide) (by kernel_rfl) (by kernel_rfl) (by kernel_rfl) (hQ _ _) (want_n (by kernel_rfl)) (fun hW w hS => rrun_move (x := .tmp 9) (.inr (by kernel_rfl)) (hF.ev 9 _ rfl)) hS (fun a hF => ?_)
  rw [show cond true rv undef = rv from rfl] at hF
  exact wpAnyH_done (by kernel_rfl) (hE _ _ rv ll (hF.sub ((3, rv) :: (1, ptr g 0) :: [(0, v0), (2, v2)]) ⟨rfl, rfl, rfl, rfl, trivial⟩) hI3 (hs2.trans hs3) (hg2.step hs3)) _
noncomputable def ops_nt3 : Array Oper := match Tryz.f107.body with | some c => (allOps' c).getD 1 #[] | none => #[]
theorem size_nt3 : ops_nt3.size = 7 := by kernel_rfl
set_option maxHeartbeats 4000000 in
theorem nt3_all {g b : Nat} {l : List UInt8} {v0 v2 : Value} {Q : Exit → Act → World → Prop} {a : Act} {w : World} (hl : l.length ≤ 1000000000) (h4 : l.length < 4) (h : InIs w b l 0) (hg : KeptB w b g (.cells #[ptr b 0] 111 (0, 0)))
    (hQ : ∀ d u c a w, Q (.panic c) (a.put d u) w → Q (.panic c) a w) (hF : FrL 14 [(1, ptr g 0), (0, v0), (2, v2)] a)
    (hE : ∀ a w', a.defers = [] → OStep b w w' → Q (.panic (errChain 2)) a w') :
    wpAnyH Tryz.prog .any ops_nt3 Q (fun w' : World => w'.heap[g]? = some (.cells #[ptr b 0] 111 (0, 0))) 7 (Array.replicate 7 false) a w := by
  have hS : (fun w' : World => w'.heap[g]? = some (.cells #[ptr b 0] 111 (0, 0))) w := hg.1
  refine hst (i := 0) (o := ops_nt3[0]'(show 0 < ops_nt3.size by rw [size_nt3]; decide)) hF 4 true (ptr g 0) (Array.getElem?_eq_getElem (show 0 < ops_nt3.size by rw [size_nt3]; decide)) (by kernel_rfl) (by decide) (by kernel_rfl) (by kernel_rfl) (by kernel_rfl) (hQ _ _) (want_n (by kernel_rfl)) (fun hW w hS => rrun_fld (T := 111) (x := .tmp 1) (f := 0) (by kernel_rfl) (hF.ev 1 (ptr g 0) rfl) (by kernel_rfl)) hS (fun a hF => ?_)
  rw [show cond true (ptr g 0) undef = ptr g 0 from rfl] at hF
  refine hst (i := 1) (o := ops_nt3[1]'(show 1 < ops_nt3.size by rw [size_nt3]; decide)) hF 5 true (ptr b 0) (Array.getElem?_eq_getElem (show 1 < ops_nt3.size by rw [size_nt3]; decide)) (by kernel_rfl) (by decide) (by kernel_rfl) (by kernel_rfl) (by kernel_rfl) (hQ _ _) (want_n (by kernel_rfl)) (fun hW w hS => rrun_load (ty := 93) (x := .tmp 4) (by kernel_rfl) (hF.ev 4 (ptr g 0) rfl) (rld_inp (block_cell (show w.heap[g]? = _ from hS) 0))) hS (fun a hF => ?_)
  rw [show cond true (ptr b 0) undef = ptr b 0 from rfl] at hF
  refine hst (i := 2) (o := ops_nt3[2]'(show 2 < ops_nt3.size by rw [size_nt3]; decide)) hF 6 true (.agg #[ptr b 0]) (Array.getElem?_eq_getElem (show 2 < ops_nt3.size by rw [size_nt3]; decide)) (by kernel_rfl) (by decide) (by kernel_rfl) (by kernel_rfl) (by kernel_rfl) (hQ _ _) (want_n (by kernel_rfl)) (fun hW w hS => rrun_load (ty := 111) (x := .tmp 1) (by kernel_rfl) (hF.ev 1 (ptr g 0) rfl) (rld_in (block_cell (show w.heap[g]? = _ from hS) 0))) hS (fun a hF => ?_)
  rw [show cond true (.agg #[ptr b 0]) undef = .agg #[ptr b 0] from rfl] at hF
  refine hpanic (i := 3) (o := ops_nt3[3]'(show 3 < ops_nt3.size by rw [size_nt3]; decide)) (Array.getElem?_eq_getElem (show 3 < ops_nt3.size by rw [size_nt3]; decide)) (by kernel_rfl) (want_n (by kernel_rfl)) ⟨88, #[.agg #[ptr b 0], .int .i64 ((4 : Nat) : Int)], rrun_call2 (fn := 88) (x := .tmp 6) (y := .const (.int .i64 4)) (t := 111) (u := 3) rfl (by kernel_rfl) (by kernel_rfl) (hF.ev 6 _ rfl) rfl, (nnumber_bad b 4 l w (by omega) (by omega) (by omega) h h4).mono (by rintro e w' ⟨rfl, h1⟩; exact ⟨_, rfl, hE _ _ hF.df h1⟩)⟩
end
end Go.Proofs.YtcmajcljafmphaaGreat

namespace Go.Proofs.YtcmajcljafmphaaGreat
section
open Go.RowKit
set_option maxRecDepth 100000
set_option linter.unusedVariables false

set_option maxHeartbeats 3200000 in
theorem ntext_ok (b K : Nat) (l : List UInt8) (w : World) (hl : l.length ≤ 1000000000) (h4 : 4 ≤ l.length) (hKn : leN (l.take 4) = K) (hKl : K ≤ (l.drop 4).length) (h : InIs w b l 0) :
    Calls Tryz.prog 107 #[.agg #[.pointer (some ⟨b, 0, none⟩)]] w fun e w' => e = .returned (.string (strL ((l.drop 4).take K))) ∧ InIs w' b ((l.drop 4).drop K) 0 ∧ OStep b w w' := by
  have mixed : Tryz.prog.follows Departure.mixedOrders = true := by first | kernel_rfl | decide
  obtain ⟨W, hW⟩ : ∃ W, W = w.alloc (.cells #[.pointer (some ⟨b, 0, none⟩)] 111) := ⟨_, rfl⟩
  have hb0 : Below w.heap.size w W := by rw [hW]; exact (Below.refl _ _).alloc (Nat.le_refl _) _
  have hbd : Below W.heap.size W W.drew := (Below.refl _ _).drew
  have hI := hid (show InIs W.drew b l 0 from (h.below hb0).below hbd)
  have hG := hid (show KeptB W.drew b w.heap.size (.cells #[ptr b 0] 111 (0, 0)) from ⟨by
    show W.heap[w.heap.size]? = _
    rw [hW]; exact heap_alloc_new _ _, by
    show ¬ Foot W b w.heap.size
    rw [hW]; exact h.new _⟩)
  have hs0 := hid ((OStep.pure (h.foot_lt (.inl rfl)) hb0).trans (OStep.pure ((h.below hb0).foot_lt (.inl rfl)) hbd))
  clear hb0 hbd h
  go_enter Tryz.func107, Tryz.ntmps107
  go_wp2_with (rw [← hW]; replace hW := hid hW)
  try (rw [← hW]; replace hW := hid hW)
  go_cut [3] (fun s wx => Hid (BytesAt wx s ((l.drop 4).take K)) ∧ Hid (InIs wx b ((l.drop 4).drop K) 0) ∧ Hid (OStep b W.drew wx) ∧ Hid (KeptB wx b w.heap.size (.cells #[ptr b 0] 111 (0, 0))))
  case first => as_aux_lemma =>
    rename_i J K' hJ hK
    refine wp_region_noPanic ?_
    refine wp_region_held (S := (fun w' : World => w'.heap[w.heap.size]? = some (.cells #[ptr b 0] 111 (0, 0)))) mixed ?_
    refine (show wpAnyH Tryz.prog .any ops_nt1 _ _ _ _ _ _ → _ from fun h => h) ?_
    refine nt1_all (w := W.drew) (g := w.heap.size) (b := b) (K := K) (l := l) hl h4 hKn hKl hI.out hG.out (fun _ _ _ _ _ h => h) (FrL.of_all (by rfl) rfl ⟨rfl, rfl, rfl, trivial⟩) (fun a w' rv hF hb hi hs hg => ?_)
    exact hK _ _ (Met.intro (hJ _ _ ⟨rv, a.tmps.getD 4 undef, a.tmps.getD 5 undef, a.tmps.getD 6 undef, a.tmps.getD 7 undef, a.tmps.getD 8 undef, a.tmps.getD 9 undef, a.tmps.getD 10 undef, a.tmps.getD 11 undef, a.tmps.getD 12 undef, a.tmps.getD 13 undef, ⟨hid hb, hid hi, hid hs, hid hg⟩, frame_eq hF _ (by rfl) ⟨hF.get 0 _ rfl, hF.get 1 _ rfl, hF.get 2 _ rfl, hF.get 3 _ rfl, hF.any 4 (by decide), hF.any 5 (by decide), hF.any 6 (by decide), hF.any 7 (by decide), hF.any 8 (by decide), hF.any 9 (by decide), hF.any 10 (by decide), hF.any 11 (by decide), hF.any 12 (by decide), hF.any 13 (by decide), trivial⟩⟩))
  case rest =>
    obtain ⟨hb, hi, hs, hg⟩ := hcut
    have hmu := hid (nmust_ok b _ wc hi.out)
    have e0 : wc.cell? ⟨w.heap.size, 0, none⟩ = some (.pointer (some ⟨b, 0, none⟩)) := block_cell hg.out.1 0
    go_wp2_with fail
    refine hmu.out.mono ?_
    rintro e w3 ⟨rfl, hb3⟩
    have h3 := hid (hi.out.below hb3)
    have hst3 := hid ((hs0.out.trans hs.out).trans (OStep.pure (hi.out.foot_lt (.inl rfl)) hb3))
    have hcv := conv_string w3 _ _ (hb.out.below hb3)
    clear hmu hb3 hs hg e0 hi
    go_wp2_with fail
    go_ret
    exact ⟨rfl, h3.out, hst3.out⟩
set_option maxHeartbeats 3200000 in
theorem ntext_cut (b K : Nat) (l : List UInt8) (w : World) (hl : l.length ≤ 1000000000) (h4 : 4 ≤ l.length) (hKn : leN (l.take 4) = K) (hKl : (l.drop 4).length < K) (hK2 : K < 9223372036854775808) (h : InIs w b l 0) :
    Calls Tryz.prog 107 #[.agg #[.pointer (some ⟨b, 0, none⟩)]] w fun e w' => e = .panicked (errChain 2) ∧ OStep b w w' := by
  have mixed : Tryz.prog.follows Departure.mixedOrders = true := by first | kernel_rfl | decide
  obtain ⟨W, hW⟩ : ∃ W, W = w.alloc (.cells #[.pointer (some ⟨b, 0, none⟩)] 111) := ⟨_, rfl⟩
  have hb0 : Below w.heap.size w W := by rw [hW]; exact (Below.refl _ _).alloc (Nat.le_refl _) _
  have hbd : Below W.heap.size W W.drew := (Below.refl _ _).drew
  have hI := hid (show InIs W.drew b l 0 from (h.below hb0).below hbd)
  have hG := hid (show KeptB W.drew b w.heap.size (.cells #[ptr b 0] 111 (0, 0)) from ⟨by
    show W.heap[w.heap.size]? = _
    rw [hW]; exact heap_alloc_new _ _, by
    show ¬ Foot W b w.heap.size
    rw [hW]; exact h.new _⟩)
  have hs0 := hid ((OStep.pure (h.foot_lt (.inl rfl)) hb0).trans (OStep.pure ((h.below hb0).foot_lt (.inl rfl)) hbd))
  clear hb0 hbd h
  go_enter Tryz.func107, Tryz.ntmps107
  go_wp2_with (rw [← hW]; replace hW := hid hW)
  try (rw [← hW]; replace hW := hid hW)
  go_cut [3] (fun s wx => Hid (∃ ll, InIs wx b ll 4) ∧ Hid (OStep b W.drew wx) ∧ Hid (KeptB wx b w.heap.size (.cells #[ptr b 0] 111 (0, 0))))
  case first => as_aux_lemma =>
    rename_i J K' hJ hK
    refine wp_region_noPanic ?_
    refine wp_region_held (S := (fun w' : World => w'.heap[w.heap.size]? = some (.cells #[ptr b 0] 111 (0, 0)))) mixed ?_
    refine (show wpAnyH Tryz.prog .any ops_nt2 _ _ _ _ _ _ → _ from fun h => h) ?_
    refine nt2_all (w := W.drew) (g := w.heap.size) (b := b) (K := K) (l := l) hl h4 hKn hKl hK2 hI.out hG.out (fun _ _ _ _ _ h => h) (FrL.of_all (by rfl) rfl ⟨rfl, rfl, rfl, trivial⟩) (fun a w' rv ll hF hi hs hg => ?_)
    exact hK _ _ (Met.intro (hJ _ _ ⟨rv, a.tmps.getD 4 undef, a.tmps.getD 5 undef, a.tmps.getD 6 undef, a.tmps.getD 7 undef, a.tmps.getD 8 undef, a.tmps.getD 9 undef, a.tmps.getD 10 undef, a.tmps.getD 11 undef, a.tmps.getD 12 undef, a.tmps.getD 13 undef, ⟨hid ⟨ll, hi⟩, hid hs, hid hg⟩, frame_eq hF _ (by rfl) ⟨hF.get 0 _ rfl, hF.get 1 _ rfl, hF.get 2 _ rfl, hF.get 3 _ rfl, hF.any 4 (by decide), hF.any 5 (by decide), hF.any 6 (by decide), hF.any 7 (by decide), hF.any 8 (by decide), hF.any 9 (by decide), hF.any 10 (by decide), hF.any 11 (by decide), hF.any 12 (by decide), hF.any 13 (by decide), trivial⟩⟩))
  case rest =>
    obtain ⟨hi0, hs, hg⟩ := hcut
    obtain ⟨ll, hi1⟩ := hi0.out
    have hi := hid hi1
    clear hi1 hi0
    have hmu := hid (nmust_bad b ll 4 wc hi.out (by omega))
    have e0 : wc.cell? ⟨w.heap.size, 0, none⟩ = some (.pointer (some ⟨b, 0, none⟩)) := block_cell hg.out.1 0
    go_wp2_with fail
    refine hmu.out.mono ?_
    rintro e w3 ⟨rfl, hb3⟩
    have hst3 := hid ((hs0.out.trans hs.out).trans (OStep.pure (hi.out.foot_lt (.inl rfl)) hb3))
    exact ⟨rfl, rfl, hst3.out⟩
set_option maxHeartbeats 3200000 in
theorem ntext_short (b : Nat) (l : List UInt8) (w : World) (hl : l.length ≤ 1000000000) (h4 : l.length < 4) (h : InIs w b l 0) :
    Calls Tryz.prog 107 #[.agg #[.pointer (some ⟨b, 0, none⟩)]] w fun e w' => e = .panicked (errChain 2) ∧ OStep b w w' := by
  have mixed : Tryz.prog.follows Departure.mixedOrders = true := by first | kernel_rfl | decide
  obtain ⟨W, hW⟩ : ∃ W, W = w.alloc (.cells #[.pointer (some ⟨b, 0, none⟩)] 111) := ⟨_, rfl⟩
  have hb0 : Below w.heap.size w W := by rw [hW]; exact (Below.refl _ _).alloc (Nat.le_refl _) _
  have hbd : Below W.heap.size W W.drew := (Below.refl _ _).drew
  have hI := hid (show InIs W.drew b l 0 from (h.below hb0).below hbd)
  have hG := hid (show KeptB W.drew b w.heap.size (.cells #[ptr b 0] 111 (0, 0)) from ⟨by
    show W.heap[w.heap.size]? = _
    rw [hW]; exact heap_alloc_new _ _, by
    show ¬ Foot W b w.heap.size
    rw [hW]; exact h.new _⟩)
  have hs0 := hid ((OStep.pure (h.foot_lt (.inl rfl)) hb0).trans (OStep.pure ((h.below hb0).foot_lt (.inl rfl)) hbd))
  clear hb0 hbd h
  go_enter Tryz.func107, Tryz.ntmps107
  go_wp2_with (rw [← hW]; replace hW := hid hW)
  try (rw [← hW]; replace hW := hid hW)
  refine wp_region_held (S := (fun w' : World => w'.heap[w.heap.size]? = some (.cells #[ptr b 0] 111 (0, 0)))) mixed ?_
  refine (show wpAnyH Tryz.prog .any ops_nt3 _ _ _ _ _ _ → _ from fun h => h) ?_
  refine nt3_all (w := W.drew) (g := w.heap.size) (b := b) (l := l) hl h4 hI.out hG.out (fun d u c a w h => by cases d <;> exact h) (FrL.of_all (by rfl) rfl ⟨rfl, rfl, rfl, trivial⟩) (fun a w' hd hs => ?_)
  exact ⟨hd, rfl, hs0.out.trans hs⟩
end
end Go.Proofs.YtcmajcljafmphaaGreat

namespace Go.Proofs.YtcmajcljafmphaaGreat
section
set_option maxRecDepth 100000
set_option linter.unusedVariables false

def numP (n : Nat) (l : List UInt8) : Option (Nat × List UInt8) := if l.length < n then none else some (leN (l.take n), l.drop n)
def txtP (l : List UInt8) : Option (ByteArray × List UInt8) := (numP 4 l).bind fun p => if p.2.length < p.1 then none else some (strL (p.2.take p.1), p.2.drop p.1)
def numsP (l : List UInt8) : Option (Nod × List UInt8) :=
  (numP 8 l).bind fun a => (numP 4 a.2).bind fun b => (numP 4 b.2).bind fun c => (numP 4 c.2).bind fun d => (numP 4 d.2).bind fun e => (numP 8 e.2).bind fun f => (numP 1 f.2).bind fun g =>
    some (⟨a.1, b.1, c.1, d.1, e.1, ⟨#[]⟩, ⟨#[]⟩, ⟨#[]⟩, ⟨#[]⟩, f.1, !decide (g.1 = 0), ⟨#[]⟩⟩, g.2)
def nodP (l : List UInt8) : Option (Nod × List UInt8) :=
  (numsP l).bind fun n => (txtP n.2).bind fun a => (txtP a.2).bind fun b => (txtP b.2).bind fun c => (txtP c.2).bind fun d => (txtP d.2).bind fun e =>
    some ({ n.1 with name := a.1, uid := b.1, gid := c.1, muid := d.1, data := e.1 }, e.2)
def nodsP : Nat → List UInt8 → Option (List Nod × List UInt8)
  | 0, l => some ([], l)
  | k + 1, l => (nodP l).bind fun n => (nodsP k n.2).map fun r => (n.1 :: r.1, r.2)
def treeP (l : List UInt8) : Option Tr := (numP 8 l).bind fun a => (numP 4 a.2).bind fun b => (nodsP b.1 b.2).bind fun r => if r.2 = [] then some ⟨a.1, r.1⟩ else none
theorem leN_numP (v : Nat) : ∀ n, leN (numBytes v n) = v % 256 ^ n
  | 0 => by simp [numBytes, leN, Nat.mod_one]
  | n + 1 => by
    simp only [numBytes]
    rw [leN_snoc, leN_numP v n, numBytes_length, Nat.pow_succ, Nat.mod_mul]
    have : (numAt v n).toNat = v / 256 ^ n % 256 := by
      unfold numAt
      rw [UInt8.toNat_ofNat', Nat.pow_mul]
    rw [this, Nat.mul_comm]
theorem numP_num (n v : Nat) (rest : List UInt8) (h : v < 256 ^ n) : numP n (numBytes v n ++ rest) = some (v, rest) := by
  unfold numP
  rw [if_neg (by rw [List.length_append, numBytes_length]; omega)]
  have e1 : (numBytes v n ++ rest).take n = numBytes v n := by rw [List.take_append_of_le_length (by rw [numBytes_length]; omega), List.take_of_length_le (by rw [numBytes_length]; omega)]
  have e2 : (numBytes v n ++ rest).drop n = rest := by rw [List.drop_append_of_le_length (by rw [numBytes_length]; omega), List.drop_of_length_le (by rw [numBytes_length]; omega), List.nil_append]
  rw [e1, e2, leN_numP, Nat.mod_eq_of_lt h]
theorem strL_back (s : ByteArray) : strL s.data.toList = s := by
  unfold strL; rfl
theorem txtP_txt (s : ByteArray) (rest : List UInt8) (h : s.size < 4294967296) : txtP (txtB s ++ rest) = some (s, rest) := by
  unfold txtP txtB
  rw [List.append_assoc, numP_num 4 s.size _ (by omega)]
  have hl : s.data.toList.length = s.size := by simp
  show (if (s.data.toList ++ rest).length < s.size then none else some (strL ((s.data.toList ++ rest).take s.size), (s.data.toList ++ rest).drop s.size)) = _
  rw [if_neg (by rw [List.length_append]; omega), List.take_append_of_le_length (by omega), List.take_of_length_le (by omega), List.drop_append_of_le_length (by omega), List.drop_of_length_le (by omega), List.nil_append, strL_back]
theorem numsP_enc (n : Nod) (rest : List UInt8) (hn : NodOk n) : numsP (encNums n ++ rest) = some ({ n with name := ⟨#[]⟩, uid := ⟨#[]⟩, gid := ⟨#[]⟩, muid := ⟨#[]⟩, data := ⟨#[]⟩ }, rest) := by
  have h1 := hn.path; have h2 := hn.vers; have h3 := hn.mode; have h4 := hn.atm; have h5 := hn.mtm; have h6 := hn.up
  unfold numsP encNums
  simp only [List.flatMap_cons, List.flatMap_nil, List.append_nil, List.append_assoc]
  rw [numP_num 8 n.path _ (by omega)]
  simp only [Option.bind_some]
  rw [numP_num 4 n.vers _ (by omega)]
  simp only [Option.bind_some]
  rw [numP_num 4 n.mode _ (by omega)]
  simp only [Option.bind_some]
  rw [numP_num 4 n.atm _ (by omega)]
  simp only [Option.bind_some]
  rw [numP_num 4 n.mtm _ (by omega)]
  simp only [Option.bind_some]
  rw [numP_num 8 n.up _ (by omega)]
  simp only [Option.bind_some]
  rw [numP_num 1 (goneN1 n) _ (by unfold goneN1; split <;> omega)]
  simp only [Option.bind_some]
  have hg : (!decide (goneN1 n = 0)) = n.gone := by unfold goneN1; cases n.gone <;> rfl
  rw [hg]
theorem nodP_enc (n : Nod) (rest : List UInt8) (hn : NodOk n) (hs : (encN n).length ≤ 100000) : nodP (encN n ++ rest) = some (n, rest) := by
  rw [encN_len] at hs
  unfold nodP encN
  simp only [List.flatMap_cons, List.flatMap_nil, List.append_nil, List.append_assoc]
  rw [numsP_enc n _ hn]
  simp only [Option.bind_some]
  rw [txtP_txt n.name _ (by omega)]
  simp only [Option.bind_some]
  rw [txtP_txt n.uid _ (by omega)]
  simp only [Option.bind_some]
  rw [txtP_txt n.gid _ (by omega)]
  simp only [Option.bind_some]
  rw [txtP_txt n.muid _ (by omega)]
  simp only [Option.bind_some]
  rw [txtP_txt n.data _ (by omega)]
  rfl
theorem nodsP_enc : ∀ (l : List Nod) (rest : List UInt8), (∀ n ∈ l, NodOk n) → (∀ n ∈ l, (encN n).length ≤ 100000) → nodsP l.length (l.flatMap encN ++ rest) = some (l, rest)
  | [], _, _, _ => rfl
  | n :: l, rest, h1, h2 => by
    rw [List.flatMap_cons, List.append_assoc]
    show (nodP (encN n ++ (l.flatMap encN ++ rest))).bind _ = _
    rw [nodP_enc n _ (h1 n (by simp)) (h2 n (by simp))]
    show (nodsP l.length (l.flatMap encN ++ rest)).map _ = _
    rw [nodsP_enc l rest (fun m hm => h1 m (by simp [hm])) (fun m hm => h2 m (by simp [hm]))]
    rfl
theorem treeP_enc (x : Nat) (l : List Nod) (hx : x < 18446744073709551616) (hl : l.length ≤ 900) (h1 : ∀ n ∈ l, NodOk n) (h2 : ∀ n ∈ l, (encN n).length ≤ 100000) : treeP (encT x l) = some ⟨x, l⟩ := by
  unfold treeP encT
  rw [List.append_assoc, numP_num 8 x _ (by omega)]
  simp only [Option.bind_some]
  rw [numP_num 4 l.length _ (by omega)]
  simp only [Option.bind_some]
  have := nodsP_enc l [] h1 h2
  rw [List.append_nil] at this
  rw [this]
  rfl
end
end Go.Proofs.YtcmajcljafmphaaGreat

namespace Go.Proofs.YtcmajcljafmphaaGreat
section
set_option maxRecDepth 100000
set_option linter.unusedVariables false

theorem numP_some {n : Nat} {l : List UInt8} {p : Nat × List UInt8} (h : numP n l = some p) : n ≤ l.length ∧ p = (leN (l.take n), l.drop n) ∧ p.1 < 256 ^ n ∧ p.2.length + n = l.length := by
  unfold numP at h
  by_cases e : l.length < n
  · rw [if_pos e] at h; cases h
  · rw [if_neg e] at h; cases h
    refine ⟨by omega, rfl, ?_, by simp; omega⟩
    have := leN_lt (l.take n)
    rwa [List.length_take, Nat.min_eq_left (by omega)] at this
theorem numP_short {n : Nat} {l : List UInt8} (h : l.length < n) : numP n l = none := by unfold numP; rw [if_pos h]
theorem numP_long {n : Nat} {l : List UInt8} (h : n ≤ l.length) : numP n l = some (leN (l.take n), l.drop n) := by unfold numP; rw [if_neg (by omega)]
theorem txtP_some {l : List UInt8} {p : ByteArray × List UInt8} (h : txtP l = some p) : p.1.size + 4 + p.2.length = l.length := by
  unfold txtP at h
  obtain ⟨q, hq, h2⟩ := Option.bind_eq_some_iff.1 h
  obtain ⟨a1, rfl, a3, a4⟩ := numP_some hq
  simp only at h2 a4
  by_cases e : (l.drop 4).length < leN (l.take 4)
  · rw [if_pos e] at h2; cases h2
  · rw [if_neg e] at h2; cases h2
    simp [strL, ByteArray.size] at e ⊢
    omega
theorem numsP_some {l : List UInt8} {p : Nod × List UInt8} (h : numsP l = some p) : p.1.path < 18446744073709551616 ∧ p.1.vers < 4294967296 ∧ p.1.mode < 4294967296 ∧ p.1.atm < 4294967296 ∧ p.1.mtm < 4294967296 ∧ p.1.up < 18446744073709551616 ∧ p.2.length + 33 = l.length := by
  unfold numsP at h
  obtain ⟨a, ha, h⟩ := Option.bind_eq_some_iff.1 h
  obtain ⟨b, hb, h⟩ := Option.bind_eq_some_iff.1 h
  obtain ⟨c, hc, h⟩ := Option.bind_eq_some_iff.1 h
  obtain ⟨d, hd, h⟩ := Option.bind_eq_some_iff.1 h
  obtain ⟨e, he, h⟩ := Option.bind_eq_some_iff.1 h
  obtain ⟨f, hf, h⟩ := Option.bind_eq_some_iff.1 h
  obtain ⟨g, hg, h⟩ := Option.bind_eq_some_iff.1 h
  cases h
  obtain ⟨_, _, x1, y1⟩ := numP_some ha
  obtain ⟨_, _, x2, y2⟩ := numP_some hb
  obtain ⟨_, _, x3, y3⟩ := numP_some hc
  obtain ⟨_, _, x4, y4⟩ := numP_some hd
  obtain ⟨_, _, x5, y5⟩ := numP_some he
  obtain ⟨_, _, x6, y6⟩ := numP_some hf
  obtain ⟨_, _, x7, y7⟩ := numP_some hg
  exact ⟨x1, x2, x3, x4, x5, x6, by simp only; omega⟩
theorem nodP_some {l : List UInt8} {p : Nod × List UInt8} (h : nodP l = some p) (hl : l.length ≤ 1000000000) : NodOk p.1 ∧ p.2.length + 53 ≤ l.length ∧ p.1.data.size ≤ l.length := by
  unfold nodP at h
  obtain ⟨n, hn, h⟩ := Option.bind_eq_some_iff.1 h
  obtain ⟨a, ha, h⟩ := Option.bind_eq_some_iff.1 h
  obtain ⟨b, hb, h⟩ := Option.bind_eq_some_iff.1 h
  obtain ⟨c, hc, h⟩ := Option.bind_eq_some_iff.1 h
  obtain ⟨d, hd, h⟩ := Option.bind_eq_some_iff.1 h
  obtain ⟨e, he, h⟩ := Option.bind_eq_some_iff.1 h
  cases h
  obtain ⟨x1, x2, x3, x4, x5, x6, x7⟩ := numsP_some hn
  have y1 := txtP_some ha
  have y2 := txtP_some hb
  have y3 := txtP_some hc
  have y4 := txtP_some hd
  have y5 := txtP_some he
  simp only at *
  refine ⟨⟨x1, x2, x3, x4, x5, ?_, ?_, ?_, ?_, x6, ?_⟩, by omega, by omega⟩ <;> (simp only; unfold maxLen; omega)
theorem nodsP_some : ∀ {k : Nat} {l : List UInt8} {p : List Nod × List UInt8}, nodsP k l = some p → l.length ≤ 1000000000 → p.1.length = k ∧ (∀ n ∈ p.1, NodOk n) ∧ (∀ n ∈ p.1, n.data.size ≤ l.length) ∧ k * 53 + p.2.length ≤ l.length
  | 0, l, p, h, _ => by cases h; exact ⟨rfl, by simp, by simp, by simp⟩
  | k + 1, l, p, h, hl => by
    have h' : (nodP l).bind (fun n => (nodsP k n.2).map fun r => (n.1 :: r.1, r.2)) = some p := h
    obtain ⟨n, hn, h2⟩ := Option.bind_eq_some_iff.1 h'
    obtain ⟨r, hr, rfl⟩ := Option.map_eq_some_iff.1 h2
    obtain ⟨a1, a2, a3⟩ := nodP_some hn hl
    obtain ⟨b1, b2, b3, b4⟩ := nodsP_some hr (by omega)
    refine ⟨by simp [b1], fun m hm => ?_, fun m hm => ?_, by simp only; omega⟩
    · rcases List.mem_cons.1 hm with e | hm
      · rw [e]; exact a1
      · exact b2 m hm
    · rcases List.mem_cons.1 hm with e | hm
      · rw [e]; exact a3
      · have := b3 m hm; omega
theorem nodsP_snoc : ∀ (k : Nat) (l : List UInt8), nodsP (k + 1) l = (nodsP k l).bind fun p => (nodP p.2).map fun n => (p.1 ++ [n.1], n.2)
  | 0, l => by
    show (nodP l).bind (fun n => (some (([] : List Nod), n.2)).map fun r => (n.1 :: r.1, r.2)) = (nodP l).map fun n => ([] ++ [n.1], n.2)
    cases nodP l with
    | none => rfl
    | some n => rfl
  | k + 1, l => by
    show (nodP l).bind (fun n => (nodsP (k + 1) n.2).map fun r => (n.1 :: r.1, r.2)) = ((nodP l).bind (fun n => (nodsP k n.2).map fun r => (n.1 :: r.1, r.2))).bind _
    cases nodP l with
    | none => rfl
    | some n =>
      simp only [Option.bind_some]
      rw [nodsP_snoc k n.2]
      cases nodsP k n.2 with
      | none => rfl
      | some p =>
        simp only [Option.bind_some, Option.map_some]
        cases nodP p.2 with
        | none => rfl
        | some m => rfl
theorem nodsP_none {k : Nat} {l : List UInt8} (h : nodsP k l = none) : ∀ j, nodsP (k + j) l = none
  | 0 => h
  | j + 1 => by
    rw [← Nat.add_assoc, nodsP_snoc, nodsP_none h j]; rfl
theorem nodsP_next {k : Nat} {l r r' : List UInt8} {a : List Nod} {n : Nod} (h : nodsP k l = some (a, r)) (hn : nodP r = some (n, r')) : nodsP (k + 1) l = some (a ++ [n], r') := by
  rw [nodsP_snoc, h]
  simp [hn]
theorem nodsP_stop {k m : Nat} {l r : List UInt8} {a : List Nod} (h : nodsP k l = some (a, r)) (hn : nodP r = none) (hk : k < m) : nodsP m l = none := by
  have : nodsP (k + 1) l = none := by rw [nodsP_snoc, h]; simp [hn]
  have := nodsP_none this (m - (k + 1))
  rwa [show k + 1 + (m - (k + 1)) = m by omega] at this
end
end Go.Proofs.YtcmajcljafmphaaGreat

namespace Go.Proofs.YtcmajcljafmphaaGreat
section
open Go.RowKit
set_option maxRecDepth 100000
set_option linter.unusedVariables false
end
end Go.Proofs.YtcmajcljafmphaaGreat
