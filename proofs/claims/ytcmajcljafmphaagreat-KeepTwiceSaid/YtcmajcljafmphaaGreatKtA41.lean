/- A range over a function whose rounds may panic; a region that draws its order, in a round. Conditions: in the statements. And the texts behind it. -/
import Derived.RangeFuncNested
import Derived.RangeFuncBound
import Derived.RangeFuncCalls
import Derived.RangeFuncLeaves
import Derived.OrdersIn
import Derived.Deep.RegionHeld3
import Derived.Shelf.Abstract
import Derived.Shelf.RegionOpen
import Derived.WalkKit
import Derived.OwnWalkIn
import Derived.TacticsInMore
import Derived.LoopNIn
import Derived.LoopIn
import Derived.Test.YtcmajcljafmphaaGreatKtA01
import Derived.Test.YtcmajcljafmphaaGreatKtA02
import Derived.Test.YtcmajcljafmphaaGreatKtA39
import Derived.Test.YtcmajcljafmphaaGreatKtA38
import Derived.Test.YtcmajcljafmphaaGreatKtA40
namespace Go.Proofs.YtcmajcljafmphaaGreat
section
open Go.RowKit
set_option maxRecDepth 100000
set_option linter.unusedVariables false

section
variable {P : Program} {ops : Array Oper} {Q : Exit → Act → World → Prop} {n l : Nat}
theorem wpIn_round_of {o : Oper} {a : Act} {w : World} {K : Act → World → Prop} (hd : ∀ c, o.op ≠ .defer c) (h : o.wp P a w K Q) : o.wpIn (Fence.wide.inRound l) n P a w K Q := by
  unfold Oper.wp at h
  unfold Oper.wpIn
  refine ⟨fun _ _ => trivial, ?_⟩
  rw [Oper.semAt_eq _ _ _ hd]
  generalize (execOp a.eval o).run P w = r at h
  cases r with
  | ok x w' =>
    cases x <;> simp only [Oper.upon, Oper.uponIn] at h ⊢
    case value v => exact h
    case skip => exact h
    case defer d => exact h
    case enter f args => exact ⟨fun h => by simp [Fence.wide] at h, callsIn_wide.2 h⟩
    case row row args =>
      refine ⟨fun h => by simp [Fence.wide] at h, fun c cs _ => ?_⟩
      obtain ⟨v, w2, h1, h2⟩ := h c cs
      exact ⟨v, w2, h1, stepsIn_wide.2 h2⟩
  | halt x w' => cases x <;> simp only [Oper.upon, Oper.uponIn] at h ⊢ <;> exact h
theorem wpAnyIn_round_of {md : Region.Mode} (hd : ∀ (j : Nat) (o : Oper), ops[j]? = some o → ∀ c, o.op ≠ .defer c) (hno : ¬ LetsOut Q) : ∀ (fuel : Nat) (listed : Array Bool) (a : Act) (w : World), wpAny P md ops Q fuel listed a w → wpAnyIn (Fence.wide.inRound l) n P md ops Q fuel listed a w
  | 0, listed, a, w, h => h
  | fuel + 1, listed, a, w, h => by
    refine ⟨h.1, fun i hi => ?_⟩
    have h1 := h.2 i hi
    unfold wpOp at h1
    unfold wpOpIn
    cases e : ops[i]? with
    | none => rw [e] at h1; exact wpAnyIn_round_of hd hno fuel _ a w h1
    | some o =>
      simp only [e] at h1
      by_cases hw : Region.wanted o (yielded ops a.tmps) = true
      · simp only [hw, if_true] at h1 ⊢
        exact Oper.wpIn_mono (fun a w h => wpAnyIn_round_of hd hno fuel _ a w h) (wpIn_round_of (hd i o e) (h1.resolve_right (fun h => hno h.2)))
      · simp only [hw] at h1 ⊢
        exact ⟨fun _ _ => trivial, wpAnyIn_round_of hd hno fuel _ _ w h1⟩
theorem wpIn_round_any {id : Nat} {a : Act} {w : World} (hm : P.follows .mixedOrders = true) (hd : (ops.all fun o => match o.op with | .defer _ => false | _ => true) = true) (hno : ¬ LetsOut Q)
    (h : wpAny P .any ops Q ops.size (Array.replicate ops.size false) a { w with drawn := w.drawn + 1 }) : (Code.region id ops true).wpIn (Fence.wide.inRound l) n P Q a w :=
  wpIn_region_any hm (wpAnyIn_round_of (fun j o hj c hc => by
    have h1 := Array.all_eq_true'.1 hd o (Array.mem_of_getElem? hj)
    rw [hc] at h1; cases h1) hno _ _ _ _ h)
theorem wpIn_round_held {S : World → Prop} {id : Nat} {a : Act} {w : World} (hm : P.follows .mixedOrders = true) (hd : (ops.all fun o => match o.op with | .defer _ => false | _ => true) = true) (hno : ¬ LetsOut Q) (hS : S w.drew)
    (h : S w.drew → wpAnyH P .any ops Q S ops.size (Array.replicate ops.size false) a w.drew) : (Code.region id ops true).wpIn (Fence.wide.inRound l) n P Q a w :=
  wpIn_round_any hm hd hno (wpAny_of_held _ _ _ _ (h hS))
end
section
variable {F : Fence} {n : Nat} {P : Program}
def roundPostP (P : Program) (l : Nat) (R : Ending → World → Prop) : Exit → Act → World → Prop
  | .normal, _, w => ∃ v w', (Instr.endRound l none).run P w = .ok v w' ∧ R (.returned v) w'
  | .panic c, a, w => a.defers = [] ∧ R (.panicked c) w
  | _, _, _ => False
theorem roundIn_panics {l : Nat} {f : FuncId} {tmps : Array Value} {assign body : Code} {w : World} {R : Ending → World → Prop} (hF : F.fn f) (hf : (∃ fn, P.funcs[f]? = some fn) ∨ ∀ c w, ¬ R (.panicked c) w)
    (h : assign.wpIn (F.inRound l) n P (Exit.then (fun a₁ w₁ => ∃ w₂, (Instr.beginRound l).run P w₁ = .ok () w₂ ∧ body.wpIn (F.inRound l) n P (roundPostP P l R) a₁ w₂) (fun _ _ _ => False)) { tmps := tmps, defers := [] } w) :
    RoundIn F n P l f tmps assign body w R := by
  refine ⟨hF, fun c cs hr => ?_⟩
  obtain ⟨b, hb⟩ : ∃ b : Frame, b = { (default : Frame) with fn := f, kind := .normal, roundOf := some l } := ⟨_, rfl⟩
  have hb0 : Frame.round l f tmps assign body .normal = b.atR { tmps := tmps, defers := [] } [.code assign, .beginRound, .code body] := by
    simp [Frame.round, Frame.atR, hb]
  have hbf : b.fn = f := by rw [hb]
  have hbl : b.roundOf = some l := by rw [hb]
  have hbk : b.kind = .normal := by rw [hb]
  have hF' : (F.inRound l).fn b.fn := by rw [hbf]; exact hF
  obtain ⟨e, a₁, w₁, hq, harr⟩ := h b [.beginRound, .code body] (c :: cs) hbl hF' hr
  rw [← hb0] at harr
  cases e with
  | normal =>
    obtain ⟨w₂, hbr, hbody⟩ := hq
    have s1 : StepsIn (Machine.fenced P (F.inRound l)) P (lone (b.atR a₁ [.beginRound, .code body]) (c :: cs) w₁) (lone (b.atR a₁ [.code body]) (c :: cs) w₂) :=
      .one (fenced_calm (fr := b.atR a₁ [.beginRound, .code body]) hF' hr rfl) (stepR_beginRound hbl hbr)
    obtain ⟨e₂, a₂, w₃, hq₂, harr₂⟩ := hbody b [] (c :: cs) hbl hF' hr
    cases e₂ with
    | normal =>
      obtain ⟨v, w₄, hend, hR⟩ := hq₂
      exact ⟨.returned v, w₄, hR, (StepsIn.trans harr s1).trans (StepsIn.trans harr₂ (.one (fenced_calm (fr := b.atR a₂ []) hF' hr rfl) (stepR_round_end hbl hbk hend)))⟩
    | panic chain =>
      obtain ⟨hd, hR⟩ := hq₂
      obtain ⟨todo, hs⟩ := harr₂
      obtain ⟨fn, hf⟩ := hf.resolve_right (fun h => h _ _ hR)
      have hl : ({ b.atR a₂ todo with mode := .panicking chain } : Frame).leaving P w₃ (.panicked chain) := ⟨rfl, hd, fn, by show P.funcs[b.fn]? = _; rw [hbf]; exact hf⟩
      exact ⟨.panicked chain, w₃, hR, (StepsIn.trans harr s1).trans (StepsIn.trans hs (.one (fenced_leaving (F := F.inRound l) hF' hr hl) (step_leave_panicked hl)))⟩
    | ret => exact hq₂.elim
    | exit id => exact hq₂.elim
    | goto t => exact hq₂.elim
    | outgrown => exact hq₂.elim
  | exit id => exact hq.elim
  | goto t => exact hq.elim
  | ret => exact hq.elim
  | panic chain => exact hq.elim
  | outgrown => exact hq.elim
def SeqP (F : Fence) (n : Nat) (P : Program) (g : Nat) (lb : Array Value) (enc : Nat → Value) (N : Nat) (Own : World → Prop) : Prop :=
  ∀ (l : Nat) (J : Nat → World → Prop) (Jp : List PanicEntry → World → Prop) (W : World), (∀ k W, J k W → Own W) → (∀ k W, J k W → J k W.drew) →
    (∀ k W, J k W → k < N → YieldAt F (n - 1) P l #[enc k] W fun e W' => (e = .returned (.bool true) ∧ J (k + 1) W') ∨ ∃ c, e = .panicked c ∧ Jp c W') → J 0 W →
    CallsIn F n P g (#[.func (.yield l) #[] #[]] ++ lb) W fun e W' => ((∃ v, e = .returned v) ∧ J N W') ∨ ∃ c, e = .panicked c ∧ Jp c W'
def rngPost (I : Nat → World → Prop) (Ip : List PanicEntry → World → Prop) (k D : Nat) (W : World) : Exit → Act → World → Prop
  | .normal, _, W' => W'.heap[D]? = W.heap[D]? ∧ W'.heap[D + 1]? = W.heap[D + 1]? ∧ I (k + 1) W'
  | .panic c, a, W' => W'.heap[D]? = W.heap[D]? ∧ a.defers = [] ∧ Ip c W'
  | _, _, _ => False
def RangeAt (F : Fence) (n : Nat) (P : Program) (fn : FuncId) (g : Operand) (ps : Array Tmp) (assign body : Code) (Q : Exit → Act → World → Prop) (a : Act) (w : World) : Prop :=
  ∃ (l : Nat) (mark : List Deferred) (w₁ : World) (d : Deferred) (w₁' : World) (f : FuncId) (args : Array Value) (w₂ : World),
      (Instr.enterLoop fn a.tmps ps assign body F.round).run P w = .ok (l, mark) w₁ ∧ (resolve a.eval (rangeCall g l) 0).run P w₁ = .ok d w₁' ∧ (∀ f', Target.leads P w₁' d.target d.args = some f' → F.fn f') ∧
      (invoke d.target d.args).run P w₁' = .ok (.enter f args) w₂ ∧ (F.depth.isSome = true → 1 ≤ n) ∧ CallsIn F (n - 1) P f args w₂ (rangePost F n P l Q { a with defers := mark ++ a.defers })
theorem rangeAt_P (fn : FuncId) (hfn : F.fn fn) {g : Operand} {ps : Array Tmp} {assign body : Code} {Q : Exit → Act → World → Prop} {a : Act} {w : World}
    (hro : F.round = none) (h1 : 1 ≤ n) {gf : Nat} {lb : Array Value} (hg : a.eval g = .func (.func gf) #[] lb) (hFg : F.fn gf) (eg : ∀ args w, (callFunc gf args).run P w = .ok (.enter gf args) w)
    {enc : Nat → Value} {N : Nat} {Own : World → Prop} (hseq : SeqP F (n - 1) P gf lb enc N Own) (hps : ps.size = 1) 
    (I : Nat → World → Prop) (Ip : List PanicEntry → World → Prop) (hOwn : ∀ k W, I k W → Own W) (hdrew : ∀ k W, I k W → I k W.drew) (hput : ∀ k W o, I k W → I k (W.putObj (w.heap.size + 1) o))
    (h0 : ∀ r, I 0 ((w.alloc (.deferred (some []))).alloc (.loop r)))
    (hround : ∀ (k : Nat) (W W2 : World), I k W → I k W2 → k < N →
      assign.wpIn (F.inRound (w.heap.size + 1)) (n - 1 - 1) P (Exit.then (fun a₁ w₁ => w₁ = W ∧ body.wpIn (F.inRound (w.heap.size + 1)) (n - 1 - 1) P (rngPost I Ip k w.heap.size W2) a₁ W2) (fun _ _ _ => False)) { tmps := (ps.zip #[enc k]).foldl (fun t (p, v) => t.setIfInBounds p v) a.tmps, defers := [] } W)
    (hdone : ∀ (W : World), I N W → W.heap[w.heap.size]? = some (.deferred (some [])) → Q .normal { a with defers := { target := .collected w.heap.size, args := #[] } :: a.defers } W)
    (hpan : ∀ (c : List PanicEntry) (W : World), Ip c W → W.heap[w.heap.size]? = some (.deferred (some [])) → Q (.panic c) { a with defers := { target := .collected w.heap.size, args := #[] } :: a.defers } W) (hf : (∃ f, P.funcs[fn]? = some f) ∨ ∀ c w, ¬ Ip c w) : RangeAt F n P fn g ps assign body Q a w := by
  unfold RangeAt
  rw [hro]
  obtain ⟨rec, hrec⟩ : ∃ rec : LoopState → Loop, rec = fun st => { state := st, pending := none, fn, tmps := a.tmps, params := ps, assign, body, defers := w.heap.size } := ⟨_, rfl⟩
  obtain ⟨W1, hW1⟩ : ∃ W1, (w.alloc (.deferred (some []))).alloc (.loop (rec .ready)) = W1 := ⟨_, rfl⟩
  have hL1 : W1.heap[w.heap.size + 1]? = some (.loop (rec .ready)) := by
    rw [← hW1]; have := World.alloc_heap_new (w.alloc (.deferred (some []))) (.loop (rec .ready)); rwa [World.size_alloc] at this
  have hK1 : W1.heap[w.heap.size]? = some (.deferred (some [])) := by
    rw [← hW1]; exact (Below.heap_alloc _ _ _ (by simp)).trans (World.alloc_heap_new w _)
  have hI1 : I 0 W1 := by rw [← hW1]; exact h0 _
  refine ⟨w.heap.size + 1, [{ target := .collected w.heap.size, args := #[] }], W1, { target := .fn (.func gf) lb, args := #[.func (.yield (w.heap.size + 1)) #[] #[]] }, W1, gf,
    #[.func (.yield (w.heap.size + 1)) #[] #[]] ++ lb, W1, ?_, ?_, ?_, ?_, fun _ => h1, ?_⟩
  · rw [← hW1, hrec]; exact run_enterLoop_outer _ _ _ _ _
  · simp only [resolve, hg]
    simp [go_sem]
  · intro f' hf'; simp [Target.leads] at hf'; subst hf'; exact hFg
  · simp [invoke, go_sem, eg]
  · refine (hseq (w.heap.size + 1)
      (fun k W => I k W ∧ W.heap[w.heap.size + 1]? = some (.loop (rec .ready)) ∧ W.heap[w.heap.size]? = some (.deferred (some [])))
      (fun c W => Ip c W ∧ W.heap[w.heap.size]? = some (.deferred (some []))) W1 (fun k W h => hOwn k W h.1) (fun k W h => ⟨hdrew k W h.1, h.2⟩) ?_ ⟨hI1, hL1, hK1⟩).mono ?_
    · rintro k W ⟨hi, hl, hk⟩ hlen
      have hlt : w.heap.size + 1 < W.heap.size := (Array.getElem?_eq_some_iff.1 hl).1
      have hy := run_yield (P := P) (args := #[enc k]) hl (by rw [hrec]; exact hps.symm)
      rw [hrec] at hy
      refine ⟨fn, _, assign, body, hy, roundIn_panics hfn (hf.imp id (fun h c w hh => by rcases hh with ⟨h1, _⟩ | ⟨c', _, h2, _⟩; cases h1; exact h c' w h2)) (wpIn_mono (hround k W _ hi (hput k W (.loop { rec .ready with state := .busy }) hi) hlen) ?_)⟩
      have hl2 : (W.putObj (w.heap.size + 1) (.loop { rec .ready with state := .busy })).heap[w.heap.size + 1]? = some (.loop { rec .ready with state := .busy }) := World.putObj_heap_same hlt
      have hk2 : (W.putObj (w.heap.size + 1) (.loop { rec .ready with state := .busy })).heap[w.heap.size]? = some (.deferred (some [])) := (World.putObj_heap_other (by omega)).trans hk
      rintro e1 a1 w1 hp1
      cases e1 with
      | exit id => exact hp1.elim
      | goto t => exact hp1.elim
      | ret => exact hp1.elim
      | panic chain => exact hp1.elim
      | outgrown => exact hp1.elim
      | normal =>
      obtain ⟨rfl, hbody⟩ := hp1
      refine ⟨_, run_beginRound hl (by rw [hrec]), ?_⟩
      refine wpIn_mono hbody ?_
      rintro e a3 W3 hp
      cases e with
      | normal =>
        obtain ⟨hd3, hr3, hi3⟩ := hp
        have hl3 := hr3.trans hl2
        have hrun := run_endRound (P := P) none hl3
        refine ⟨_, _, hrun, .inl ⟨rfl, hput _ _ _ hi3, ?_, (World.putObj_heap_other (by omega)).trans (hd3.trans hk2)⟩⟩
        rw [World.putObj_heap_same (Array.getElem?_eq_some_iff.1 hl3).1, hrec]
        rfl
      | panic ch =>
        obtain ⟨hd3, hdf, hi3⟩ := hp
        exact ⟨hdf, .inr ⟨ch, rfl, hi3, hd3.trans hk2⟩⟩
      | ret => exact hp.elim
      | exit id => exact hp.elim
      | goto t => exact hp.elim
      | outgrown => exact hp.elim
    · rintro e W2 (⟨⟨v, rfl⟩, hi, hl, hk⟩ | ⟨c, rfl, hi, hk⟩)
      · exact ⟨none, _, by have := run_endLoop (P := P) hl (by rw [hrec]; simp); rw [hrec] at this; exact this, hdone _ (hput _ _ _ hi) ((World.putObj_heap_other (by omega)).trans hk)⟩
      · exact hpan c W2 hi hk
end
end
end Go.Proofs.YtcmajcljafmphaaGreat

namespace Go.Proofs.YtcmajcljafmphaaGreat
section
open Go.RowKit
set_option maxRecDepth 100000
set_option linter.unusedVariables false
attribute [local go_sem] Oper.semAt_some

theorem chunk_any (a : Option Addr) (m c : Nat) (w : World) : Calls Tryz.prog 44 #[.slice a m c, .int .i64 256] w fun e w' => e = .returned (.func (.func 75) #[] #[.pointer (some ⟨w.heap.size, 0, none⟩), .pointer (some ⟨w.heap.size + 1, 0, none⟩)]) ∧ w' = (w.alloc (.cells #[.slice a m c] 53)).alloc (.cells #[.int .i64 256] 3) := by
  go_enter Tryz.func44, Tryz.ntmps44
  go_wp2
  go_ret
  exact ⟨rfl, rfl⟩
def chunkV (b off len k : Nat) : Value := .slice (some ⟨b, off + 256 * k, none⟩) (min 256 (len - 256 * k)) (min 256 (len - 256 * k))
def chunkL (l : List UInt8) (k : Nat) : List UInt8 := (l.drop (256 * k)).take 256
theorem chunkL_len (l : List UInt8) (k : Nat) : (chunkL l k).length = min 256 (l.length - 256 * k) := by simp [chunkL]
theorem chunk_at {w : World} {b off cap : Nat} {l : List UInt8} (h : BytesAt w (.slice (some ⟨b, off, none⟩) l.length cap) l) (k : Nat) (hk : 256 * k ≤ l.length) : BytesAt w (chunkV b off l.length k) (chunkL l k) := by
  have h1 := h.drop1 (256 * k) hk
  simp only [Option.map_some, add_plain'] at h1
  obtain ⟨_, _, _, e, hc, _⟩ := id h
  cases e
  have e1 : (l.drop (256 * k)).length = l.length - 256 * k := by simp
  have h2 := (by rw [← e1] at h1; exact h1 : BytesAt w (.slice (some ⟨b, off + 256 * k, none⟩) (l.drop (256 * k)).length (cap - 256 * k)) (l.drop (256 * k))).take (min 256 (l.length - 256 * k)) (min 256 (l.length - 256 * k)) (by rw [e1]; omega) (Nat.le_refl _) (by omega)
  have e2 : (l.drop (256 * k)).take (min 256 (l.length - 256 * k)) = chunkL l k := by
    unfold chunkL
    rw [← e1, ← List.take_take, List.take_length]
  rw [e2] at h2
  exact h2
set_option maxHeartbeats 1000000 in
theorem chunk1_seq (Bs Bn b off len cap : Nat) (hlen : len ≤ 1000000) (hcap : len ≤ cap) (hcap2 : cap ≤ 9223372036854775807) (n : Nat) (hn : 1 ≤ n) : SeqP Fence.wide n Tryz.prog 75 #[.pointer (some ⟨Bs, 0, none⟩), .pointer (some ⟨Bn, 0, none⟩)] (chunkV b off len) ((len + 255) / 256)
    (fun W => W.cell? ⟨Bs, 0, none⟩ = some (.slice (some ⟨b, off, none⟩) len cap) ∧ W.cell? ⟨Bn, 0, none⟩ = some (.int .i64 256)) := by
  intro l J Jp W hOwn hdrew hY h0
  refine callsIn_of_wp Tryz.func75 rfl trivial ?_ rfl
  simp only [Tryz.ntmps75, List.size_toArray, List.length_cons, List.length_nil, Nat.reduceAdd, Nat.reduceSub, Array.replicate_succ, Array.replicate_zero, List.push_toArray, List.append_toArray, List.nil_append, List.cons_append]
  gi_wp2
  gi_loopw [4] (fun i wr => ∃ p : Nat, i = .int .i64 (p : Int) ∧ ∃ k : Nat, k ≤ (len + 255) / 256 ∧ p = 256 * k ∧ J k wr) (fun i _ => len + 256 - (intOf i).toNat)
  case atStart => exact ⟨0, rfl, 0, Nat.zero_le _, rfl, h0⟩
  case round =>
    obtain ⟨p, rfl, k, hk, hp, hJ⟩ := hrel
    obtain ⟨c1, c2⟩ := hOwn k wr hJ
    by_cases hlt : p < len
    · obtain ⟨fn, tmps, assign, body, hy, hR⟩ := hY k wr.drew (hdrew k wr hJ) (by omega)
      unfold chunkV at hy
      rw [← hp] at hy
      replace hp := hid hp
      by_cases hA : 256 ≤ len - p
      · have e0 : min 256 (len - p) = 256 := by omega
        rw [e0] at hy
        have k1 : (256 : Int) ≤ ((len - p : Nat) : Int) := by omega
        have e1 : ((p : Int) + 256).toNat - p = 256 := by omega
        have e2 : min (256 : Int) ((len - p : Nat) : Int) = 256 := by omega
        gi_wp2
        gi_region
        gi_wp2
        refine hR.mono ?_
        rintro e W3 (⟨rfl, hJ3⟩ | ⟨c, rfl, hJ3⟩)
        · obtain ⟨d1, d2⟩ := hOwn _ _ hJ3
          gi_wp2
          go_roundw
          case rel => exact ⟨p + 256, by simp, k + 1, by have := hp.out; omega, by have := hp.out; omega, hJ3⟩
          case measure => simp [intOf]; omega
        · gi_wp2
          exact ⟨rfl, .inr ⟨c, rfl, hJ3⟩⟩
      · have e0 : min 256 (len - p) = len - p := by omega
        rw [e0] at hy
        have k1 : ((len - p : Nat) : Int) < (256 : Int) := by omega
        have e1 : ((p : Int) + ((len - p : Nat) : Int)).toNat - p = len - p := by omega
        have e2 : min (256 : Int) ((len - p : Nat) : Int) = ((len - p : Nat) : Int) := by omega
        gi_wp2
        gi_region
        gi_wp2
        refine hR.mono ?_
        rintro e W3 (⟨rfl, hJ3⟩ | ⟨c, rfl, hJ3⟩)
        · obtain ⟨d1, d2⟩ := hOwn _ _ hJ3
          gi_wp2
          go_roundw
          case rel => exact ⟨p + 256, by simp, k + 1, by have := hp.out; omega, by have := hp.out; omega, hJ3⟩
          case measure => simp [intOf]; omega
        · gi_wp2
          exact ⟨rfl, .inr ⟨c, rfl, hJ3⟩⟩
    · gi_wp2
      go_end0
      exact .inl ⟨⟨_, rfl⟩, by rw [show (len + 255) / 256 = k by omega]; exact hJ⟩
end
end Go.Proofs.YtcmajcljafmphaaGreat

namespace Go.Proofs.YtcmajcljafmphaaGreat
section
open Go.RowKit Go.Maps
set_option maxRecDepth 100000
set_option linter.unusedVariables false
attribute [local go_sem] Oper.semAt_some

def ofCells (w : World) (kv : Value) : Array Value := #[.int .i64 256, kv, .map (some w.heap.size), .bool false, .bool false, .int .i64 0, .slice none 0 0, .int .i64 0]
structure OfS (w : World) (c : Value) (l : List UInt8) (k : Nat) (W : World) (kv : Value) (us : List Value) : Prop where
  below : Below w.heap.size w W
  disk : W.heap[w.heap.size + 1]? = some (.cells (ofCells w kv) 61 (0, 0))
  map : PMapAt W w.heap.size []
  kept : KeptS W (w.heap.size + 7) kv us ((List.range k).map (chunkL l))
  box : W.heap[w.heap.size + 2]? = some (.cells #[.pointer (some ⟨w.heap.size + 1, 0, none⟩)] 23 (0, 0))
  bs : W.heap[w.heap.size + 3]? = some (.cells #[c] 53 (0, 0))
  bn : W.heap[w.heap.size + 4]? = some (.cells #[.int .i64 256] 3 (0, 0))
  size : w.heap.size + 7 ≤ W.heap.size
theorem OfS.below' {w W W' : World} {c kv : Value} {l : List UInt8} {k : Nat} {us : List Value} (h : OfS w c l k W kv us) (hb : Below W.heap.size W W') : OfS w c l k W' kv us := by
  have hs := h.size
  have hk : ∀ j, j < W.heap.size → W'.heap[j]? = W.heap[j]? := hb.block
  exact ⟨h.below.trans (hb.mono (by omega)), (hk _ (by omega)).trans h.disk, h.map.kept (hk _ h.map.mem), h.kept.below hb, (hk _ (by omega)).trans h.box, (hk _ (by omega)).trans h.bs, (hk _ (by omega)).trans h.bn, by have := hb.size; omega⟩
theorem OfS.put {w W : World} {c kv : Value} {l : List UInt8} {k r : Nat} {us : List Value} (h : OfS w c l k W kv us) (hr : r = w.heap.size + 5 ∨ r = w.heap.size + 6) (o : Obj) : OfS w c l k (W.putObj r o) kv us := by
  have hk : ∀ j, j ≠ r → (W.putObj r o).heap[j]? = W.heap[j]? := fun j hj => World.putObj_heap_other hj
  have hb := h.below
  exact ⟨⟨hb.os, hb.tape, hb.output, by simpa using hb.size, fun j hj => (hk j (by omega)).trans (hb.block j hj)⟩, (hk _ (by omega)).trans h.disk, h.map.kept (hk _ (by omega)), h.kept.put (by omega) o, (hk _ (by omega)).trans h.box, (hk _ (by omega)).trans h.bs, (hk _ (by omega)).trans h.bn, by simpa using h.size⟩
theorem range_snoc (l : List UInt8) (k : Nat) : (List.range (k + 1)).map (chunkL l) = (List.range k).map (chunkL l) ++ [chunkL l k] := by rw [List.range_succ, List.map_append]; rfl
theorem OfS.next {w W V w3 : World} {c kv u v' : Value} {l : List UInt8} {k : Nat} {us : List Value} (h : OfS w c l k W kv us) (hA : Below W.heap.size W V) (hu : BytesAt V u (chunkL l k)) (hf : ∀ j, u.ownBlock = some j → W.heap.size ≤ j ∧ j < V.heap.size) (hp : Pushed (w.heap.size + 7) kv v' V w3) (hr : RowV w3 (w.heap.size + 7) 53 1 v' (k + 1) (us ++ [u])) :
    OfS w c l (k + 1) (w3.setCell ⟨w.heap.size + 1, 1, none⟩ v') v' (us ++ [u]) := by
  have hV := h.below' hA
  have hne : ∀ j, kv.ownBlock = some j → w.heap.size + 7 ≤ j ∧ j < W.heap.size := fun j hj => h.kept.row.lt hj
  have hs := h.size
  have hz := hA.size
  have h3 : ∀ j, j < w.heap.size + 7 → w3.heap[j]? = V.heap[j]? := fun j hj => hp.keep j (by omega) (fun e => by have := (hne j e).1; omega)
  have hs3 : (w3.setCell ⟨w.heap.size + 1, 1, none⟩ v').heap.size = w3.heap.size := by simp [World.setCell]
  have ho : ∀ j, j ≠ w.heap.size + 1 → (w3.setCell ⟨w.heap.size + 1, 1, none⟩ v').heap[j]? = w3.heap[j]? := fun j hj => block_set_other hj
  have hkl : ((List.range k).map (chunkL l)).length = k := by simp
  have hK3 := hV.kept.push u (chunkL l k) hu (fun j hj => ⟨by have := (hf j hj).1; omega, fun e => by have := (hne j e).2; have := (hf j hj).1; omega⟩) hp (by rw [hkl]; exact hr)
  refine ⟨((hV.below.trans (hp.below.mono (by omega)))).setCell (p := ⟨w.heap.size + 1, 1, none⟩) (by show w.heap.size ≤ w.heap.size + 1; omega) v', ?_, ?_, ?_, ?_, ?_, ?_, ?_⟩
  · exact block_set ((h3 _ (by omega)).trans hV.disk) 1 v'
  · exact (hV.map.kept (h3 _ (by omega))).kept (ho _ (by omega))
  · rw [range_snoc]; exact hK3.cell (by show w.heap.size + 1 < w.heap.size + 7; omega) v'
  · exact (ho _ (by omega)).trans ((h3 _ (by omega)).trans hV.box)
  · exact (ho _ (by omega)).trans ((h3 _ (by omega)).trans hV.bs)
  · exact (ho _ (by omega)).trans ((h3 _ (by omega)).trans hV.bn)
  · rw [hs3]; have := hp.size; omega
theorem Below.of_drew {B : Nat} {w w' : World} (h : Below B w.drew w') : Below B w w' := (Below.refl B w).drew.trans h
theorem OfS.step {w W w3 : World} {c u : Value} {a : Option Addr} {kc : Nat} {l : List UInt8} {k : Nat} {us : List Value} (h : OfS w c l k W (.slice a k kc) us) (hb : Below W.heap.size W w3) (hu : BytesAt w3 u (chunkL l k)) (hf : ∀ j, u.ownBlock = some j → W.heap.size ≤ j) (h1 : u.oneCell' = true) (hk : k ≤ 100000) :
    ∃ w4 av cv, Sem.run Tryz.prog (Builtin.append_ #[59, 59] 59 #[.slice a k kc, .slice (some ⟨w3.heap.size, 0, none⟩) 1 1]) (w3.alloc (.cells #[u] 53)) = .ok (.slice av (k + 1) cv) w4 ∧
      w3.cell? ⟨w.heap.size + 2, 0, none⟩ = some (.pointer (some ⟨w.heap.size + 1, 0, none⟩)) ∧ (w3.alloc (.cells #[u] 53)).cell? ⟨w.heap.size + 2, 0, none⟩ = some (.pointer (some ⟨w.heap.size + 1, 0, none⟩)) ∧ w4.cell? ⟨w.heap.size + 2, 0, none⟩ = some (.pointer (some ⟨w.heap.size + 1, 0, none⟩)) ∧
      (w4.setCell ⟨w.heap.size + 1, 1, none⟩ (.slice av (k + 1) cv)).cell? ⟨w.heap.size + 2, 0, none⟩ = some (.pointer (some ⟨w.heap.size + 1, 0, none⟩)) ∧
      w3.cell? ⟨w.heap.size + 1, 1, none⟩ = some (.slice a k kc) ∧ (w3.alloc (.cells #[u] 53)).cell? ⟨w.heap.size + 1, 1, none⟩ = some (.slice a k kc) ∧ w4.cell? ⟨w.heap.size + 1, 1, none⟩ = some (.slice a k kc) ∧ w4.frozen? ⟨w.heap.size + 1, 1, none⟩ = false ∧
      OfS w c l (k + 1) (w4.setCell ⟨w.heap.size + 1, 1, none⟩ (.slice av (k + 1) cv)) (.slice av (k + 1) cv) (us ++ [u]) ∧ (∀ j, j < w.heap.size + 7 → j ≠ w.heap.size + 1 → (w4.setCell ⟨w.heap.size + 1, 1, none⟩ (.slice av (k + 1) cv)).heap[j]? = W.heap[j]?) := by
  have hA : Below W.heap.size W (w3.alloc (.cells #[u] 53)) := hb.alloc hb.size _
  have hz := hA.size
  have hs := h.size
  have h3 := h.below' hb
  have h4 := h.below' hA
  have hu4 : BytesAt (w3.alloc (.cells #[u] 53)) u (chunkL l k) := RowAt.below hu ((Below.refl _ _).alloc (Nat.le_refl _) _)
  have hsrc := RowAt.of_new (w := w3) (e := 53) #[u] 1 1 rfl (by decide)
  have hrow := h4.kept.row
  have hkl : ((List.range k).map (chunkL l)).length = k := by simp
  rw [hkl] at hrow
  have hlt2 : ∀ j, (Value.slice a k kc).ownBlock = some j → w.heap.size + 7 ≤ j ∧ j < W.heap.size := fun j hj => h.kept.row.lt hj
  have hfu : ∀ j, u.ownBlock = some j → W.heap.size ≤ j ∧ j < (w3.alloc (.cells #[u] 53)).heap.size := fun j hj => ⟨hf j hj, hu4.lt hj⟩
  have hone : ∀ x ∈ (#[u] : Array Value).toList, x = u := fun x hx => by simpa using hx
  obtain ⟨av, cv, w4, happ, hV4, hP4⟩ := run_push elemB _ 59 hrow hsrc (fun x hx => hone x hx ▸ h1) (fun x hx j hj => by rw [hone x hx] at hj; exact ⟨(hfu j hj).2, fun e => by have := (hlt2 _ e).2; have := hf j hj; omega⟩) (by unfold maxLen; omega) (by omega) (by omega)
  have hk4 : ∀ j, j < w.heap.size + 7 → w4.heap[j]? = W.heap[j]? := fun j hj => (hP4.keep j (by omega) (fun e => by have := (hlt2 _ e).1; omega)).trans (hA.block j (by omega))
  have hd4 : w4.heap[w.heap.size + 1]? = _ := (hk4 _ (by omega)).trans h.disk
  have hb4 : w4.heap[w.heap.size + 2]? = _ := (hk4 _ (by omega)).trans h.box
  exact ⟨w4, av, cv, happ, block_cell h3.box 0, block_cell h4.box 0, block_cell hb4 0, block_cell ((block_set_other (by show w.heap.size + 2 ≠ w.heap.size + 1; omega)).trans hb4) 0, block_cell h3.disk 1, block_cell h4.disk 1, block_cell hd4 1, block_free hd4 1, h.next hA hu4 hfu hP4 hV4, fun j hj hne => (block_set_other hne).trans (hk4 j hj)⟩
theorem OfS.start (w : World) (c : Value) (l : List UInt8) (o1 o2 : Obj) : OfS w c l 0 (((((((w.alloc (.map #[] 0)).alloc (.cells (ofCells w (.slice none 0 0)) 61)).alloc (.cells #[.pointer (some ⟨w.heap.size + 1, 0, none⟩)] 23)).alloc (.cells #[c] 53)).alloc (.cells #[.int .i64 256] 3)).alloc o1).alloc o2) (.slice none 0 0) [] := by
  have hA : ∀ (W : World) (o : Obj), Below W.heap.size W (W.alloc o) := fun W o => (Below.refl _ _).alloc (Nat.le_refl _) _
  obtain ⟨w1, h1⟩ : ∃ W, W = w.alloc (.map #[] 0) := ⟨_, rfl⟩
  obtain ⟨w2, h2⟩ : ∃ W, W = w1.alloc (.cells (ofCells w (.slice none 0 0)) 61) := ⟨_, rfl⟩
  obtain ⟨w3, h3⟩ : ∃ W, W = w2.alloc (.cells #[.pointer (some ⟨w.heap.size + 1, 0, none⟩)] 23) := ⟨_, rfl⟩
  obtain ⟨w4, h4⟩ : ∃ W, W = w3.alloc (.cells #[c] 53) := ⟨_, rfl⟩
  obtain ⟨w5, h5⟩ : ∃ W, W = w4.alloc (.cells #[.int .i64 256] 3) := ⟨_, rfl⟩
  obtain ⟨w6, h6⟩ : ∃ W, W = w5.alloc o1 := ⟨_, rfl⟩
  rw [← h1, ← h2, ← h3, ← h4, ← h5, ← h6]
  have z1 : w1.heap.size = w.heap.size + 1 := by rw [h1]; simp
  have z2 : w2.heap.size = w.heap.size + 2 := by rw [h2]; simp [z1]
  have z3 : w3.heap.size = w.heap.size + 3 := by rw [h3]; simp [z2]
  have z4 : w4.heap.size = w.heap.size + 4 := by rw [h4]; simp [z3]
  have z5 : w5.heap.size = w.heap.size + 5 := by rw [h5]; simp [z4]
  have z6 : w6.heap.size = w.heap.size + 6 := by rw [h6]; simp [z5]
  have b1 : Below w.heap.size w w1 := by rw [h1]; exact hA _ _
  have b2 : Below w1.heap.size w1 w2 := by rw [h2]; exact hA _ _
  have b3 : Below w2.heap.size w2 w3 := by rw [h3]; exact hA _ _
  have b4 : Below w3.heap.size w3 w4 := by rw [h4]; exact hA _ _
  have b5 : Below w4.heap.size w4 w5 := by rw [h5]; exact hA _ _
  have b6 : Below w5.heap.size w5 w6 := by rw [h6]; exact hA _ _
  have b7 := hA w6 o2
  have c6 := sn b6 b7
  have c5 := sn b5 c6
  have c4 := sn b4 c5
  have c3 := sn b3 c4
  have c2 := sn b2 c3
  have n2 : w2.heap[w.heap.size + 1]? = some (.cells (ofCells w (.slice none 0 0)) 61 (0, 0)) := by rw [h2, ← z1]; exact heap_alloc_new _ _
  have n3 : w3.heap[w.heap.size + 2]? = some (.cells #[.pointer (some ⟨w.heap.size + 1, 0, none⟩)] 23 (0, 0)) := by rw [h3, ← z2]; exact heap_alloc_new _ _
  have n4 : w4.heap[w.heap.size + 3]? = some (.cells #[c] 53 (0, 0)) := by rw [h4, ← z3]; exact heap_alloc_new _ _
  have n5 : w5.heap[w.heap.size + 4]? = some (.cells #[.int .i64 256] 3 (0, 0)) := by rw [h5, ← z4]; exact heap_alloc_new _ _
  have hM : PMapAt w1 w.heap.size [] := by rw [h1]; exact PMapAt.made w
  exact ⟨sn b1 c2, (c3.block _ (by omega)).trans n2, hM.kept (c2.block _ (by omega)), ⟨RowV.nil _ _ _ _, rfl, fun i h => absurd h (by simp), (fun u hu => by cases hu)⟩, (c4.block _ (by omega)).trans n3, (c5.block _ (by omega)).trans n4, (c6.block _ (by omega)).trans n5, by simp [z6]⟩
end
end Go.Proofs.YtcmajcljafmphaaGreat

namespace Go.Proofs.YtcmajcljafmphaaGreat
section
open Go.RowKit Go.Maps
set_option maxRecDepth 100000
set_option linter.unusedVariables false
end
end Go.Proofs.YtcmajcljafmphaaGreat
