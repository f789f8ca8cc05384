/- Law TreeBack. Conditions: the tree as it comes in.
A law of layer 14 as its frame needs it. Conditions: the arguments as they come in. -/
import Derived.Test.YtpmlhmficmillaaGreatBunKn
import Derived.Test.YtpmlhmficmillaaGreatBunRD
import Derived.Test.YtpmlhmficmillaaGreatBunRN5
import Derived.Test.YtpmlhmficmillaaGreatBunTI
namespace Go.Proofs.YtpmlhmficmillaaGreat
section
open Go.RowKit
set_option maxRecDepth 100000
set_option linter.unusedVariables false

theorem rld_ntree {g : Nat} {u v : Value} {w : World} (h : w.heap[g]? = some (.cells #[u, v] 25 (0, 0))) : (loadVar 25 ⟨g, 0, none⟩).run Tryz.prog w = .ok (.agg #[u, v]) w := run_loadVar_row w g 25 25 #[u, v] (0, 0) _ h Tryz.underlying25 rfl (by kernel_rfl)
theorem nsame_is (v u : Value) (x : Nat) (l : List Nod) (w : World) (hv : NodsAt w v l) (hu : NodsAt w u l) (hl : l.length ≤ 1000) :
    Calls Tryz.prog 17 #[.agg #[.int .u64 (x : Int), v], .agg #[.int .u64 (x : Int), u]] w fun e w' => e = .returned (.bool true) ∧ Below w.heap.size w w' :=
  (nsame_any v u x x l l w hv hu hl hl).mono (by rintro e w' ⟨rfl, hb⟩; rw [eqL_iff.2 rfl]; exact ⟨by simp, hb⟩)
theorem rsame_is (v u : Value) (x : Nat) (l : List Nod) (w : World) (hv : NodsAt w v l) (hu : NodsAt w u l) (hl : l.length ≤ 1000) :
    Calls Tryz.prog 16 #[.agg #[.int .u64 (x : Int), v], .agg #[.int .u64 (x : Int), u]] w fun e w' => e = .returned (.bool true) ∧ Below w.heap.size w w' :=
  (rsame_any v u x x l l w hv hu hl hl).mono (by rintro e w' ⟨rfl, hb⟩; rw [eqL_iff.2 rfl]; exact ⟨by simp, hb⟩)
section
variable {o : Oper} {ev : Operand → Value} {w : World} {x y z : Operand}
theorem brun_pickt {c : Bool} {v : Value} (ho : o.op = .pick x y z) (hx : ev x = .bool c) (hc : c = true) (hy : ev y = v) : (execOp ev o).run Tryz.prog w = .ok (.value v) w := by
  subst hc
  simp [execOp, ho, hx, hy, go_sem]
end

theorem fewL_names {l : List Nod} (h : fewL l = true) (n : Nod) (hn : n ∈ l) : n.name.size ≤ 100 ∧ n.uid.size ≤ 100 ∧ n.gid.size ≤ 100 ∧ n.muid.size ≤ 100 := by
  unfold fewL fewN at h
  simp at h
  have := h.2 n hn
  omega
theorem enc_one {n : Nod} {l : List Nod} (h : n ∈ l) : (encN n).length ≤ (l.flatMap encN).length := by
  induction l with
  | nil => cases h
  | cons m l ih =>
    rw [List.flatMap_cons, List.length_append]
    rcases List.mem_cons.1 h with rfl | h
    · omega
    · have := ih h; omega
theorem enc_bound : ∀ (l : List Nod), (∀ n ∈ l, n.name.size ≤ 100 ∧ n.uid.size ≤ 100 ∧ n.gid.size ≤ 100 ∧ n.muid.size ≤ 100) → (l.flatMap encN).length ≤ l.length * 453 + bytesL l
  | [], _ => by simp
  | n :: l, h => by
    have h1 := h n (by simp)
    have h2 := enc_bound l (fun m hm => h m (by simp [hm]))
    rw [List.flatMap_cons, List.length_append, encN_len, List.length_cons, bytes_cons]
    omega
theorem few_enc {x : Nat} {l : List Nod} (hf : fewL l = true) (hok : OkC ⟨x, l⟩) : (∀ n ∈ l, (encN n).length ≤ 47000) ∧ (encT x l).length ≤ 47000 := by
  have h1 : ∀ n ∈ l, n.name.size ≤ 100 ∧ n.uid.size ≤ 100 ∧ n.gid.size ≤ 100 ∧ n.muid.size ≤ 100 := fun n hn => fewL_names hf n hn
  have h2 := enc_bound l h1
  have h3 := hok.few
  have h4 := hok.byt
  simp only at h3 h4
  have h5 : (encT x l).length ≤ 47000 := by rw [encT_length]; omega
  refine ⟨fun n hn => ?_, h5⟩
  have := enc_one hn
  rw [encT_length] at h5
  omega

noncomputable def ops_nbk6 : Array Oper := match Tryz.f4.body with | some c => (allOps' c).getD 6 #[] | none => #[]
theorem size_nbk6 : ops_nbk6.size = 15 := by kernel_rfl
set_option maxHeartbeats 4000000 in
theorem nbk6_all {w1 : World} {g z x : Nat} {tv uv : Value} {l : List Nod} (hl : l.length ≤ 1000) (hg : w1.heap[g]? = some (.cells #[.int .u64 (x : Int), tv] 25 (0, 0))) (hz : w1.heap[z]? = some (.cells #[.int .u64 (x : Int), uv] 25 (0, 0))) (ht : NodsAt w1 tv l) (hu : NodsAt w1 uv l) {v0 : Value} {Q : Exit → Act → World → Prop} {a : Act} {w : World} (hQ : ∀ d u c a w, Q (.panic c) (a.put d u) w → Q (.panic c) a w) (hF : FrL 30 [(1, ptr g 0), (3, ptr z 0), (4, .int .i64 0), (0, v0)] a) (hS : (Below w1.heap.size w1) w) (hE : ∀ a w', FrL 30 ((2, .bool true) :: [(1, ptr g 0), (3, ptr z 0), (4, .int .i64 0), (0, v0)]) a → (Below w1.heap.size w1) w' → Q .normal a w') : wpAnyH Tryz.prog .any ops_nbk6 Q ((Below w1.heap.size w1)) 15 (Array.replicate 15 false) a w := by
  refine hst (i := 0) (o := ops_nbk6[0]'(show 0 < ops_nbk6.size by rw [size_nbk6]; decide)) hF 16 true (.int .i64 0) (Array.getElem?_eq_getElem (show 0 < ops_nbk6.size by rw [size_nbk6]; decide)) (by kernel_rfl) (by decide) (by kernel_rfl) (by kernel_rfl) (by kernel_rfl) (hQ _ _) (want_n (by kernel_rfl)) (fun hW w hS => rrun_move (x := .tmp 4) (.inl (by kernel_rfl)) (hF.ev 4 (.int .i64 0) rfl)) hS (fun a hF => ?_)
  rw [show cond true (.int .i64 0) undef = .int .i64 0 from rfl] at hF
  refine hst (i := 1) (o := ops_nbk6[1]'(show 1 < ops_nbk6.size by rw [size_nbk6]; decide)) hF 17 true (.bool true) (Array.getElem?_eq_getElem (show 1 < ops_nbk6.size by rw [size_nbk6]; decide)) (by kernel_rfl) (by decide) (by kernel_rfl) (by kernel_rfl) (by kernel_rfl) (hQ _ _) (want_n (by kernel_rfl)) (fun hW w hS => rrun_bin (op := .eql) (ty := 3) (ty2 := 3) (x := .tmp 16) (y := .const (.int .i64 0)) (u := .int .i64 0) (v := .int .i64 ((0 : Nat) : Int)) (by kernel_rfl) (hF.ev 16 (.int .i64 0) rfl) (rfl) (by kernel_rfl) (req_int 0 0 w)) hS (fun a hF => ?_)
  rw [show cond true (.bool true) undef = .bool true from rfl] at hF
  refine hst (i := 2) (o := ops_nbk6[2]'(show 2 < ops_nbk6.size by rw [size_nbk6]; decide)) hF 18 true (.bool true) (Array.getElem?_eq_getElem (show 2 < ops_nbk6.size by rw [size_nbk6]; decide)) (by kernel_rfl) (by decide) (by kernel_rfl) (by kernel_rfl) (by kernel_rfl) (hQ _ _) (want_n (by kernel_rfl)) (fun hW w hS => rrun_move (x := .tmp 17) (.inl (by kernel_rfl)) (hF.ev 17 (.bool true) rfl)) hS (fun a hF => ?_)
  rw [show cond true (.bool true) undef = .bool true from rfl] at hF
  refine hst (i := 3) (o := ops_nbk6[3]'(show 3 < ops_nbk6.size by rw [size_nbk6]; decide)) hF 19 true (.agg #[.int .u64 (x : Int), uv]) (Array.getElem?_eq_getElem (show 3 < ops_nbk6.size by rw [size_nbk6]; decide)) (by kernel_rfl) (by decide) (by kernel_rfl) (by kernel_rfl) (by kernel_rfl) (hQ _ _) (Eq.trans (b := (true == true)) (want_b (gi := 2) (g := 18) (c := true) hF (by kernel_rfl) (by kernel_rfl) rfl) rfl) (fun hW w hS => rrun_load (ty := 25) (x := .tmp 3) (by kernel_rfl) (hF.ev 3 (ptr z 0) rfl) (rld_ntree ((hS.block _ (lt_of_block hz)).trans hz))) hS (fun a hF => ?_)
  rw [show cond true (.agg #[.int .u64 (x : Int), uv]) undef = .agg #[.int .u64 (x : Int), uv] from rfl] at hF
  refine hst (i := 4) (o := ops_nbk6[4]'(show 4 < ops_nbk6.size by rw [size_nbk6]; decide)) hF 20 true (.agg #[.int .u64 (x : Int), tv]) (Array.getElem?_eq_getElem (show 4 < ops_nbk6.size by rw [size_nbk6]; decide)) (by kernel_rfl) (by decide) (by kernel_rfl) (by kernel_rfl) (by kernel_rfl) (hQ _ _) (Eq.trans (b := (true == true)) (want_b (gi := 2) (g := 18) (c := true) hF (by kernel_rfl) (by kernel_rfl) rfl) rfl) (fun hW w hS => rrun_load (ty := 25) (x := .tmp 1) (by kernel_rfl) (hF.ev 1 (ptr g 0) rfl) (rld_ntree ((hS.block _ (lt_of_block hg)).trans hg))) hS (fun a hF => ?_)
  rw [show cond true (.agg #[.int .u64 (x : Int), tv]) undef = .agg #[.int .u64 (x : Int), tv] from rfl] at hF
  refine hcall (i := 5) (o := ops_nbk6[5]'(show 5 < ops_nbk6.size by rw [size_nbk6]; decide)) hF 21 true (.bool true) (Array.getElem?_eq_getElem (show 5 < ops_nbk6.size by rw [size_nbk6]; decide)) (by kernel_rfl) (by decide) (by kernel_rfl) (Eq.trans (b := (true == true)) (want_b (gi := 2) (g := 18) (c := true) hF (by kernel_rfl) (by kernel_rfl) rfl) rfl) (fun hW => ⟨17, #[.agg #[.int .u64 (x : Int), uv], .agg #[.int .u64 (x : Int), tv]], rrun_call2 (fn := 17) (t := 25) (u := 25) rfl (by kernel_rfl) (by kernel_rfl) (hF.ev 19 (.agg #[.int .u64 (x : Int), uv]) rfl) (hF.ev 20 (.agg #[.int .u64 (x : Int), tv]) rfl), (nsame_is uv tv x l w (hu.below hS) (ht.below hS) hl).mono (fun e w' ⟨h, hb⟩ => ⟨h, hS.trans (hb.mono hS.size)⟩)⟩) hS (fun a w hF hS => ?_)
  rw [show cond true (.bool true) undef = .bool true from rfl] at hF
  refine hst (i := 6) (o := ops_nbk6[6]'(show 6 < ops_nbk6.size by rw [size_nbk6]; decide)) hF 22 true (.bool true) (Array.getElem?_eq_getElem (show 6 < ops_nbk6.size by rw [size_nbk6]; decide)) (by kernel_rfl) (by decide) (by kernel_rfl) (by kernel_rfl) (by kernel_rfl) (hQ _ _) (want_n (by kernel_rfl)) (fun hW w hS => brun_pickt (x := .tmp 18) (y := .tmp 21) (z := .const (.bool false)) (by kernel_rfl) (hF.ev 18 _ rfl) rfl (hF.ev 21 _ rfl)) hS (fun a hF => ?_)
  rw [show cond true (.bool true) undef = .bool true from rfl] at hF
  refine hst (i := 7) (o := ops_nbk6[7]'(show 7 < ops_nbk6.size by rw [size_nbk6]; decide)) hF 23 true (.bool true) (Array.getElem?_eq_getElem (show 7 < ops_nbk6.size by rw [size_nbk6]; decide)) (by kernel_rfl) (by decide) (by kernel_rfl) (by kernel_rfl) (by kernel_rfl) (hQ _ _) (want_n (by kernel_rfl)) (fun hW w hS => rrun_move (x := .tmp 22) (.inl (by kernel_rfl)) (hF.ev 22 (.bool true) rfl)) hS (fun a hF => ?_)
  rw [show cond true (.bool true) undef = .bool true from rfl] at hF
  refine hst (i := 8) (o := ops_nbk6[8]'(show 8 < ops_nbk6.size by rw [size_nbk6]; decide)) hF 24 true (.agg #[.int .u64 (x : Int), uv]) (Array.getElem?_eq_getElem (show 8 < ops_nbk6.size by rw [size_nbk6]; decide)) (by kernel_rfl) (by decide) (by kernel_rfl) (by kernel_rfl) (by kernel_rfl) (hQ _ _) (Eq.trans (b := (true == true)) (want_b (gi := 7) (g := 23) (c := true) hF (by kernel_rfl) (by kernel_rfl) rfl) rfl) (fun hW w hS => rrun_load (ty := 25) (x := .tmp 3) (by kernel_rfl) (hF.ev 3 (ptr z 0) rfl) (rld_ntree ((hS.block _ (lt_of_block hz)).trans hz))) hS (fun a hF => ?_)
  rw [show cond true (.agg #[.int .u64 (x : Int), uv]) undef = .agg #[.int .u64 (x : Int), uv] from rfl] at hF
  refine hst (i := 10) (o := ops_nbk6[10]'(show 10 < ops_nbk6.size by rw [size_nbk6]; decide)) hF 26 true (.agg #[.int .u64 (x : Int), tv]) (Array.getElem?_eq_getElem (show 10 < ops_nbk6.size by rw [size_nbk6]; decide)) (by kernel_rfl) (by decide) (by kernel_rfl) (by kernel_rfl) (by kernel_rfl) (hQ _ _) (Eq.trans (b := (true == true)) (want_b (gi := 7) (g := 23) (c := true) hF (by kernel_rfl) (by kernel_rfl) rfl) rfl) (fun hW w hS => rrun_load (ty := 25) (x := .tmp 1) (by kernel_rfl) (hF.ev 1 (ptr g 0) rfl) (rld_ntree ((hS.block _ (lt_of_block hg)).trans hg))) hS (fun a hF => ?_)
  rw [show cond true (.agg #[.int .u64 (x : Int), tv]) undef = .agg #[.int .u64 (x : Int), tv] from rfl] at hF
  refine hcallx (i := 9) (o := ops_nbk6[9]'(show 9 < ops_nbk6.size by rw [size_nbk6]; decide)) (R := (fun v w' => ∃ v', v = .agg #[.int .u64 (x : Int), v'] ∧ NodsAt w' v' l)) hF 25 (Array.getElem?_eq_getElem (show 9 < ops_nbk6.size by rw [size_nbk6]; decide)) (by kernel_rfl) (by decide) (by kernel_rfl) (Eq.trans (b := (true == true)) (want_b (gi := 7) (g := 23) (c := true) hF (by kernel_rfl) (by kernel_rfl) rfl) rfl) ⟨10, #[.agg #[.int .u64 (x : Int), uv]], rrun_call1 (fn := 10) (t := 25) rfl (by kernel_rfl) (by kernel_rfl) (hF.ev 24 (.agg #[.int .u64 (x : Int), uv]) rfl), (of14_any uv x l w (hu.below hS) hl).mono (by rintro e w' ⟨v', rfl, h1, _, hb⟩; exact ⟨_, rfl, ⟨v', rfl, h1⟩, hS.trans (hb.mono hS.size)⟩)⟩ ?_
  rintro _ a w ⟨v5, rfl, h5⟩ hF hS
  refine hcallx (i := 11) (o := ops_nbk6[11]'(show 11 < ops_nbk6.size by rw [size_nbk6]; decide)) (R := (fun v w' => ∃ v', v = .agg #[.int .u64 (x : Int), v'] ∧ NodsAt w' v' l ∧ NodsAt w' v5 l)) hF 27 (Array.getElem?_eq_getElem (show 11 < ops_nbk6.size by rw [size_nbk6]; decide)) (by kernel_rfl) (by decide) (by kernel_rfl) (Eq.trans (b := (true == true)) (want_b (gi := 7) (g := 23) (c := true) hF (by kernel_rfl) (by kernel_rfl) rfl) rfl) ⟨10, #[.agg #[.int .u64 (x : Int), tv]], rrun_call1 (fn := 10) (t := 25) rfl (by kernel_rfl) (by kernel_rfl) (hF.ev 26 (.agg #[.int .u64 (x : Int), tv]) rfl), (of14_any tv x l w (ht.below hS) hl).mono (by rintro e w' ⟨v', rfl, h1, _, hb⟩; exact ⟨_, rfl, ⟨v', rfl, h1, h5.below hb⟩, hS.trans (hb.mono hS.size)⟩)⟩ ?_
  rintro _ a w ⟨v6, rfl, h6, h5⟩ hF hS
  refine hcall (i := 12) (o := ops_nbk6[12]'(show 12 < ops_nbk6.size by rw [size_nbk6]; decide)) hF 28 true (.bool true) (Array.getElem?_eq_getElem (show 12 < ops_nbk6.size by rw [size_nbk6]; decide)) (by kernel_rfl) (by decide) (by kernel_rfl) (Eq.trans (b := (true == true)) (want_b (gi := 7) (g := 23) (c := true) hF (by kernel_rfl) (by kernel_rfl) rfl) rfl) (fun hW => ⟨16, #[.agg #[.int .u64 (x : Int), v5], .agg #[.int .u64 (x : Int), v6]], rrun_call2 (fn := 16) (t := 33) (u := 33) rfl (by kernel_rfl) (by kernel_rfl) (hF.ev 25 (.agg #[.int .u64 (x : Int), v5]) rfl) (hF.ev 27 (.agg #[.int .u64 (x : Int), v6]) rfl), (rsame_is v5 v6 x l w h5 h6 hl).mono (fun e w' ⟨h, hb⟩ => ⟨h, hS.trans (hb.mono hS.size)⟩)⟩) hS (fun a w hF hS => ?_)
  rw [show cond true (.bool true) undef = .bool true from rfl] at hF
  refine hst (i := 13) (o := ops_nbk6[13]'(show 13 < ops_nbk6.size by rw [size_nbk6]; decide)) hF 29 true (.bool true) (Array.getElem?_eq_getElem (show 13 < ops_nbk6.size by rw [size_nbk6]; decide)) (by kernel_rfl) (by decide) (by kernel_rfl) (by kernel_rfl) (by kernel_rfl) (hQ _ _) (want_n (by kernel_rfl)) (fun hW w hS => brun_pickt (x := .tmp 23) (y := .tmp 28) (z := .const (.bool false)) (by kernel_rfl) (hF.ev 23 _ rfl) rfl (hF.ev 28 _ rfl)) hS (fun a hF => ?_)
  rw [show cond true (.bool true) undef = .bool true from rfl] at hF
  refine hst (i := 14) (o := ops_nbk6[14]'(show 14 < ops_nbk6.size by rw [size_nbk6]; decide)) hF 2 true (.bool true) (Array.getElem?_eq_getElem (show 14 < ops_nbk6.size by rw [size_nbk6]; decide)) (by kernel_rfl) (by decide) (by kernel_rfl) (by kernel_rfl) (by kernel_rfl) (hQ _ _) (want_n (by kernel_rfl)) (fun hW w hS => rrun_move (x := .tmp 29) (.inr (by kernel_rfl)) (hF.ev 29 (.bool true) rfl)) hS (fun a hF => ?_)
  rw [show cond true (.bool true) undef = .bool true from rfl] at hF
  exact wpAnyH_done (by kernel_rfl) (hE _ _ (hF.sub ((2, .bool true) :: [(1, ptr g 0), (3, ptr z 0), (4, .int .i64 0), (0, v0)]) ⟨rfl, rfl, rfl, rfl, rfl, trivial⟩) hS) _
set_option maxHeartbeats 3200000 in
theorem law_TreeBack (v : Value) (x : Nat) (l : List Nod) (w : World) (hv : NodsAt w v l) (hx : x < 18446744073709551616) (hok : ∀ n ∈ l, NodOk n) : Calls Tryz.prog 4 #[.agg #[.int .u64 (x : Int), v]] w fun e w' => e = .returned (.bool true) ∧ Below w.heap.size w w' := by
  have mixed : Tryz.prog.follows Departure.mixedOrders = true := by first | kernel_rfl | decide
  obtain ⟨a, c, rfl, g1, g2⟩ := hv.form
  unfold maxLen at g2
  obtain ⟨W, hW⟩ : ∃ W, W = w.alloc (.cells #[.int .u64 (x : Int), .slice a l.length c] 25) := ⟨_, rfl⟩
  have hb0 : Below w.heap.size w W := by rw [hW]; exact (Below.refl _ _).alloc (Nat.le_refl _) _
  have hx0 := hid (show W.heap[w.heap.size]? = some (.cells #[.int .u64 (x : Int), .slice a l.length c] 25 (0, 0)) by rw [hW]; exact heap_alloc_new _ _)
  have hc := hid (known14_any W)
  have hv0 := hid (hv.below hb0)
  replace hb0 := hid hb0
  replace hok := hid hok
  clear hv
  go_enter Tryz.func4, Tryz.ntmps4
  go_wp2_with (rw [← hW]; replace hW := hid hW)
  refine hc.out.mono ?_
  rintro e w1 ⟨rfl, hb1⟩
  have hB := hid (sn hb0.out hb1)
  have tree := hid ((hb1.block _ (lt_of_block hx0.out)).trans hx0.out)
  have row := hid (hv0.out.below hb1)
  clear hc hb1 hx0 hb0 hv0
  have hm := hid (may14_any (.slice a l.length c) x l w1 row.out hok.out)
  have q0 := block_cell tree.out 0
  have q1 := block_cell tree.out 1
  go_wp2_with fail
  refine hm.out.mono ?_
  rintro e w2 ⟨b, rfl, hmay, hb2⟩
  replace hB := hid (sn hB.out hb2)
  replace tree := hid ((hb2.block _ (lt_of_block tree.out)).trans tree.out)
  replace row := hid (row.out.below hb2)
  clear hm hb2 q0 q1
  cases b with
  | false =>
    clear hmay
    go_wp2_with fail
    go_ret
    exact ⟨rfl, hB.out⟩
  | true =>
    obtain ⟨hOk, hfew⟩ := hmay rfl
    have hl64 := hOk.few
    have hsz := few_enc hfew hOk
    replace hOk := hid hOk
    have hc := hid (nencode_any (.slice a l.length c) x l w2 row.out (by simp only at hl64; omega) hx hok.out (fun n hn => by have := hsz.1 n hn; omega))
    have hE := hid hsz.2
    clear hmay hfew hsz
    simp only at hl64
    have q0 := block_cell tree.out 0
    have q1 := block_cell tree.out 1
    go_wp2_with fail
    refine hc.out.mono ?_
    rintro e w3 ⟨v3, rfl, hv3, hb3⟩
    replace hB := hid (sn hB.out hb3)
    replace tree := hid ((hb3.block _ (lt_of_block tree.out)).trans tree.out)
    replace row := hid (row.out.below hb3)
    clear hc hb3 q0 q1
    have hc := hid (show Calls _ _ _ _ (fun e w' => ∃ a c, e = .returned (.tuple #[.agg #[.int .u64 (x : Int), .slice a l.length c], .int .i64 0]) ∧ NodsAt w' (.slice a l.length c) l ∧ Below w3.heap.size w3 w') from (ndecode_any v3 (encT x l) w3 hv3 hE.out).mono (by
      rintro e w' h
      obtain ⟨v, rfl, h1, h2⟩ := decode_enc h (treeP_enc x l hx (by omega) hok.out (fun n hn => by have := enc_one hn; have := hE.out; rw [encT_length] at this; omega)) hOk.out
      obtain ⟨a, c, rfl, _, _⟩ := h1.form
      exact ⟨a, c, rfl, h1, h2⟩))
    clear hv3
    go_wp2_with fail
    refine hc.out.mono ?_
    rintro e w4 ⟨a8, c8, rfl, row4, hb4⟩
    clear hc
    obtain ⟨k3, hk3⟩ : ∃ k, k = w4.heap.size := ⟨_, rfl⟩
    obtain ⟨V, hV⟩ : ∃ V, V = w4.alloc (.cells #[.int .u64 (x : Int), .slice a8 l.length c8] 25) := ⟨_, rfl⟩
    have hbV : Below w4.heap.size w4 V := by rw [hV]; exact (Below.refl _ _).alloc (Nat.le_refl _) _
    have tree8 := hid (show V.heap[k3]? = some (.cells #[.int .u64 (x : Int), .slice a8 l.length c8] 25 (0, 0)) by rw [hk3, hV]; exact heap_alloc_new _ _)
    have row8 := hid (row4.below hbV)
    have hbx := sn hb4 hbV
    replace hB := hid (sn hB.out hbx)
    replace tree := hid ((hbx.block _ (lt_of_block tree.out)).trans tree.out)
    replace row := hid (row.out.below hbx)
    clear hb4 hbV hbx row4
    go_upto_region 6 with (rw [← hV]; replace hV := hid hV)
    try (rw [← hV]; replace hV := hid hV)
    rw [← hk3]
    replace hk3 := hid hk3
    go_wp2_with fail
    have tg : V.drew.heap[w.heap.size]? = some (.cells #[.int .u64 (x : Int), .slice a l.length c] 25 (0, 0)) := tree.out
    have tz : V.drew.heap[k3]? = some (.cells #[.int .u64 (x : Int), .slice a8 l.length c8] 25 (0, 0)) := tree8.out
    have hdr : Below V.heap.size V V.drew := (Below.refl _ _).drew
    refine wp_region_held (S := Below V.drew.heap.size V.drew) mixed ?_
    refine (show wpAnyH Tryz.prog .any ops_nbk6 _ _ _ _ _ _ → _ from fun h => h) ?_
    refine nbk6_all (w1 := V.drew) (g := w.heap.size) (z := k3) (x := x) (l := l) (by omega) tg tz (row.out.below hdr) (row8.out.below hdr) (fun d u c a w h => by cases d <;> exact h) (FrL.of_all (by rfl) rfl ⟨rfl, rfl, rfl, rfl, trivial⟩) (Below.refl _ _) (fun a' w' hF hS => ?_)
    have he := frame_eq hF [.agg #[.int .u64 (x : Int), .slice a l.length c], .pointer (some ⟨w.heap.size, 0, none⟩), .bool true, .pointer (some ⟨k3, 0, none⟩), .int .i64 0, a'.tmps.getD 5 undef, a'.tmps.getD 6 undef, a'.tmps.getD 7 undef, a'.tmps.getD 8 undef, a'.tmps.getD 9 undef, a'.tmps.getD 10 undef, a'.tmps.getD 11 undef, a'.tmps.getD 12 undef, a'.tmps.getD 13 undef, a'.tmps.getD 14 undef, a'.tmps.getD 15 undef, a'.tmps.getD 16 undef, a'.tmps.getD 17 undef, a'.tmps.getD 18 undef, a'.tmps.getD 19 undef, a'.tmps.getD 20 undef, a'.tmps.getD 21 undef, a'.tmps.getD 22 undef, a'.tmps.getD 23 undef, a'.tmps.getD 24 undef, a'.tmps.getD 25 undef, a'.tmps.getD 26 undef, a'.tmps.getD 27 undef, a'.tmps.getD 28 undef, a'.tmps.getD 29 undef] (by rfl) ⟨hF.get 0 _ rfl, hF.get 1 _ rfl, hF.get 2 _ rfl, hF.get 3 _ rfl, hF.get 4 _ rfl, hF.any 5 (by decide), hF.any 6 (by decide), hF.any 7 (by decide), hF.any 8 (by decide), hF.any 9 (by decide), hF.any 10 (by decide), hF.any 11 (by decide), hF.any 12 (by decide), hF.any 13 (by decide), hF.any 14 (by decide), hF.any 15 (by decide), hF.any 16 (by decide), hF.any 17 (by decide), hF.any 18 (by decide), hF.any 19 (by decide), hF.any 20 (by decide), hF.any 21 (by decide), hF.any 22 (by decide), hF.any 23 (by decide), hF.any 24 (by decide), hF.any 25 (by decide), hF.any 26 (by decide), hF.any 27 (by decide), hF.any 28 (by decide), hF.any 29 (by decide), trivial⟩
    rw [he]
    clear he hF
    generalize a'.tmps.getD 5 undef = y5
    generalize a'.tmps.getD 6 undef = y6
    generalize a'.tmps.getD 7 undef = y7
    generalize a'.tmps.getD 8 undef = y8
    generalize a'.tmps.getD 9 undef = y9
    generalize a'.tmps.getD 10 undef = y10
    generalize a'.tmps.getD 11 undef = y11
    generalize a'.tmps.getD 12 undef = y12
    generalize a'.tmps.getD 13 undef = y13
    generalize a'.tmps.getD 14 undef = y14
    generalize a'.tmps.getD 15 undef = y15
    generalize a'.tmps.getD 16 undef = y16
    generalize a'.tmps.getD 17 undef = y17
    generalize a'.tmps.getD 18 undef = y18
    generalize a'.tmps.getD 19 undef = y19
    generalize a'.tmps.getD 20 undef = y20
    generalize a'.tmps.getD 21 undef = y21
    generalize a'.tmps.getD 22 undef = y22
    generalize a'.tmps.getD 23 undef = y23
    generalize a'.tmps.getD 24 undef = y24
    generalize a'.tmps.getD 25 undef = y25
    generalize a'.tmps.getD 26 undef = y26
    generalize a'.tmps.getD 27 undef = y27
    generalize a'.tmps.getD 28 undef = y28
    generalize a'.tmps.getD 29 undef = y29
    clear a'
    go_wp2_with fail
    go_ret
    exact ⟨rfl, hB.out.trans ((hdr.trans hS).mono hB.out.size)⟩
end
end Go.Proofs.YtpmlhmficmillaaGreat

namespace Go.Proofs.YtpmlhmficmillaaGreat
section
end
end Go.Proofs.YtpmlhmficmillaaGreat
