/- A block that is stored cell by cell, known whole; a row of the call's own that stays. No condition.
The operations of a region that only reads, one by one, whatever the frame: of a frame a list of slots with their values is known. An operation that is guarded leaves its value or nothing: no case is parted on. No condition. -/
import Derived.Test.YtpmlhmficmillaaGreatBunVT
namespace Go.Proofs.YtpmlhmficmillaaGreat
section
open Go.RowKit
set_option maxRecDepth 100000
set_option linter.unusedVariables false

theorem own_keep {w w' : World} {base e k n : Nat} {v : Value} {xs : List Value} (h2 : w.ownsRow base e k v n xs) (hb : ∀ j, v.ownBlock = some j → w'.heap[j]? = w.heap[j]?) : w'.ownsRow base e k v n xs := by
  refine ⟨h2.1, ?_⟩
  rcases h2.2 with h3 | ⟨g, cap, cur, hv, hg, hh, r⟩
  · exact .inl h3
  · exact .inr ⟨g, cap, cur, hv, hg, (hb g (by rw [hv]; rfl)).trans hh, r⟩
def put (w : World) (q : Nat) : Nat → List Value → World
  | _, [] => w
  | i, u :: us => put (w.setCell ⟨q, i, none⟩ u) q (i + 1) us

theorem heap2 (w : World) (o1 o2 : Obj) : ((w.alloc o1).alloc o2).heap[w.heap.size + 1]? = some o2 := by
  have h := heap_alloc_new (w.alloc o1) o2
  have e : (w.alloc o1).heap.size = w.heap.size + 1 := by simp
  rw [e] at h; exact h
end
end Go.Proofs.YtpmlhmficmillaaGreat

namespace Go.Proofs.YtpmlhmficmillaaGreat
section
open Go.RowKit
set_option maxRecDepth 100000
set_option linter.unusedVariables false

def allOps' : Code → List (Array Oper)
  | .seq c d => allOps' c ++ allOps' d
  | .region _ o _ => [o]
  | .block _ c => allOps' c
  | .scope c => allOps' c
  | .loop c => allOps' c
  | .cond _ c d => allOps' c ++ allOps' d
  | _ => []
def ptr (k i : Nat) : Value := .pointer (some ⟨k, i, none⟩)

theorem rput_tmps (a : Act) (d : Nat) (v : Value) : (a.put (some d) v).tmps = a.tmps.setIfInBounds d v := rfl
theorem rput_df (a : Act) (d : Option Nat) (v : Value) : (a.put d v).defers = a.defers := by cases d <;> rfl
theorem rput_at {a : Act} {d k : Nat} {v u : Value} (h : a.tmps[k]? = some u) (hd : d ≠ k) : (a.put (some d) v).tmps[k]? = some u := by
  rw [rput_tmps, Array.getElem?_setIfInBounds_ne hd]; exact h
theorem rput_same {a : Act} {d : Nat} {v : Value} (h : d < a.tmps.size) : (a.put (some d) v).tmps[d]? = some v := by
  rw [rput_tmps, Array.getElem?_setIfInBounds_self_of_lt h]
theorem rput_size (a : Act) (d : Nat) (v : Value) : (a.put (some d) v).tmps.size = a.tmps.size := by rw [rput_tmps]; simp
theorem reval_tmp {a : Act} {k : Nat} {v : Value} (h : a.tmps[k]? = some v) : a.eval (.tmp k) = v := by
  show a.tmps.getD k undef = v
  rw [Array.getD_eq_getD_getElem?, h]; rfl

structure FrL (N : Nat) (fx : List (Nat × Value)) (a : Act) : Prop where
  size : a.tmps.size = N
  df : a.defers = []
  get : ∀ k v, fx.lookup k = some v → a.tmps[k]? = some v
theorem FrL.ev {N : Nat} {fx : List (Nat × Value)} {a : Act} (h : FrL N fx a) (k : Nat) (v : Value) (hk : fx.lookup k = some v) : a.eval (.tmp k) = v := reval_tmp (h.get k v hk)
theorem FrL.put {N : Nat} {fx : List (Nat × Value)} {a : Act} (h : FrL N fx a) (d : Nat) (v : Value) (hd : d < N) : FrL N ((d, v) :: fx) (a.put (some d) v) := by
  refine ⟨by rw [rput_size]; exact h.size, by rw [rput_df]; exact h.df, fun k u hk => ?_⟩
  rw [List.lookup_cons] at hk
  by_cases e : k = d
  · subst e
    simp only [beq_self_eq_true, Option.some.injEq] at hk
    subst hk
    exact rput_same (by rw [h.size]; exact hd)
  · have e' : (k == d) = false := by simpa using e
    rw [e'] at hk
    exact rput_at (h.get k u hk) (fun h => e h.symm)
def HasL (fx : List (Nat × Value)) : List (Nat × Value) → Prop
  | [] => True
  | p :: t => fx.lookup p.1 = some p.2 ∧ HasL fx t
theorem HasL.at {fx : List (Nat × Value)} {k : Nat} {v : Value} : ∀ {fy : List (Nat × Value)}, HasL fx fy → fy.lookup k = some v → fx.lookup k = some v
  | [], _, h => by cases h
  | p :: t, h, hk => by
    rw [List.lookup_cons] at hk
    by_cases e : k = p.1
    · have e' : (k == p.1) = true := by simpa using e
      rw [e'] at hk
      simp only [Option.some.injEq] at hk
      rw [← hk, e]; exact h.1
    · have e' : (k == p.1) = false := by simpa using e
      rw [e'] at hk
      exact HasL.at h.2 hk
theorem FrL.sub {N : Nat} {fx : List (Nat × Value)} {a : Act} (h : FrL N fx a) (fy : List (Nat × Value)) (hs : HasL fx fy) : FrL N fy a := ⟨h.size, h.df, fun k v hk => h.get k v (hs.at hk)⟩
def AtAll (a : Act) : List (Nat × Value) → Prop
  | [] => True
  | p :: t => a.tmps[p.1]? = some p.2 ∧ AtAll a t
theorem AtAll.at {a : Act} {k : Nat} {v : Value} : ∀ {fx : List (Nat × Value)}, AtAll a fx → fx.lookup k = some v → a.tmps[k]? = some v
  | [], _, h => by cases h
  | p :: t, h, hk => by
    rw [List.lookup_cons] at hk
    by_cases e : k = p.1
    · have e' : (k == p.1) = true := by simpa using e
      rw [e'] at hk
      simp only [Option.some.injEq] at hk
      rw [← hk, e]; exact h.1
    · have e' : (k == p.1) = false := by simpa using e
      rw [e'] at hk
      exact AtAll.at h.2 hk
theorem FrL.of_all {N : Nat} {fx : List (Nat × Value)} {a : Act} (hs : a.tmps.size = N) (hd : a.defers = []) (h : AtAll a fx) : FrL N fx a := ⟨hs, hd, fun k v hk => h.at hk⟩
def AllAt (a : Act) : Nat → List Value → Prop
  | _, [] => True
  | k, v :: t => a.tmps[k]? = some v ∧ AllAt a (k + 1) t
theorem AllAt.at {a : Act} : ∀ {l : List Value} {k i : Nat} {v : Value}, AllAt a k l → l[i]? = some v → a.tmps[k + i]? = some v
  | [], _, _, _, _, h => by simp at h
  | u :: t, k, 0, v, h, hv => by simp at hv; subst hv; exact h.1
  | u :: t, k, i + 1, v, h, hv => by
    have := AllAt.at (i := i) h.2 (by simpa using hv)
    rw [show k + (i + 1) = k + 1 + i by omega]; exact this
theorem frame_eq {N : Nat} {fx : List (Nat × Value)} {a : Act} (h : FrL N fx a) (l : List Value) (hl : l.length = N) (hat : AllAt a 0 l) : a = ⟨l.toArray, []⟩ := by
  obtain ⟨t, d⟩ := a
  have hd : d = [] := h.df
  subst hd
  congr 1
  refine Array.ext (by have e : t.size = N := h.size; simp [hl, e]) (fun i h1 h2 => ?_)
  have := AllAt.at (i := i) hat (List.getElem?_eq_getElem (by simpa using h2))
  rw [Nat.zero_add] at this
  have h3 := Array.getElem?_eq_getElem (xs := t) h1
  rw [h3] at this
  simpa using this
theorem FrL.any {N : Nat} {fx : List (Nat × Value)} {a : Act} (h : FrL N fx a) (k : Nat) (hk : k < N) : a.tmps[k]? = some (a.tmps.getD k undef) := by
  have h1 : k < a.tmps.size := by rw [h.size]; exact hk
  rw [Array.getD_eq_getD_getElem?, Array.getElem?_eq_getElem h1]; rfl

section
variable {P : Program} {ops : Array Oper} {Q : Exit → Act → World → Prop} {o : Oper} {rest : List Oper} {a : Act} {w : World} {N : Nat} {fx : List (Nat × Value)}
theorem want_b {gi g : Nat} {c p : Bool} (hF : FrL N fx a) (hg : o.guard = some (gi, p)) (hgd : (ops[gi]?).bind (·.dst) = some g) (hl : fx.lookup g = some (.bool c)) : Region.wanted o (yielded ops a.tmps) = (c == p) := by
  have h3 := hF.get g _ hl
  unfold Region.wanted yielded
  rw [hg]
  simp only [hgd, Option.bind_some, h3]
  cases c <;> cases p <;> rfl
theorem want_c {gi g : Nat} {c b p : Bool} (hF : FrL N fx a) (hg : o.guard = some (gi, p)) (hgd : (ops[gi]?).bind (·.dst) = some g) (hl : fx.lookup g = some (cond c (.bool b) undef)) : Region.wanted o (yielded ops a.tmps) = (c && (b == p)) := by
  have h3 := hF.get g _ hl
  unfold Region.wanted yielded
  rw [hg]
  simp only [hgd, Option.bind_some, h3]
  cases c <;> cases b <;> cases p <;> rfl
theorem want_n (hg : o.guard = none) : Region.wanted o (yielded ops a.tmps) = true := by
  unfold Region.wanted
  rw [hg]
theorem st (hF : FrL N fx a) (d : Nat) (v : Value) (hd : o.dst = some d) (hN : d < N) (hg : o.guard = none) (hr : (execOp a.eval o).run P w = .ok (.value v) w) (hk : ∀ b, FrL N ((d, v) :: fx) b → wpList P ops Q rest b w) : wpList P ops Q (o :: rest) a w := by
  unfold wpList
  rw [if_pos (want_n hg)]
  refine .inl ?_
  unfold Oper.wp
  rw [hr]
  show wpList P ops Q rest (a.put o.dst v) w
  rw [hd]
  exact hk _ (hF.put d v hN)
theorem st_if (hF : FrL N fx a) (d : Nat) (W : Bool) (v : Value) (hd : o.dst = some d) (hN : d < N) (hw : Region.wanted o (yielded ops a.tmps) = W) (hr : W = true → (execOp a.eval o).run P w = .ok (.value v) w)
    (hk : ∀ b, FrL N ((d, cond W v undef) :: fx) b → wpList P ops Q rest b w) : wpList P ops Q (o :: rest) a w := by
  unfold wpList
  cases W with
  | true =>
    rw [if_pos hw]
    refine .inl ?_
    unfold Oper.wp
    rw [hr rfl]
    show wpList P ops Q rest (a.put o.dst v) w
    rw [hd]
    exact hk _ (hF.put d v hN)
  | false =>
    rw [if_neg (by rw [hw]; simp)]
    rw [hd]
    exact hk _ (hF.put d undef hN)
theorem cond_t {α : Type} {W : Bool} {v u : α} (hW : W = true) : cond W v u = v := by rw [hW]; rfl
end
section
variable {o : Oper} {ev : Operand → Value} {w : World} {x y z : Operand}
theorem rrun_load {ty : TypeId} {k i : Nat} {v : Value} (ho : o.op = .load ty x) (hx : ev x = ptr k i) (hl : (loadVar ty ⟨k, i, none⟩).run Tryz.prog w = .ok v w) : (execOp ev o).run Tryz.prog w = .ok (.value v) w := by
  have hx' : ev x = .pointer (some ⟨k, i, none⟩) := hx
  simp only [execOp, ho, hx', Instr.loadAt, Instr.sureAddr, Sem.run_bind, Sem.run_pure, Result.andThen_ok, hl]
theorem rrun_fld {T k f i j : Nat} (ho : o.op = .fieldAddr T x f) (hx : ev x = ptr k j) (hf : (Instr.fieldAt T (ptr k j) f).run Tryz.prog w = .ok (ptr k i) w) : (execOp ev o).run Tryz.prog w = .ok (.value (ptr k i)) w := by
  simp only [execOp, ho, hx, Sem.run_bind, hf, Result.andThen_ok, Sem.run_pure]
theorem rrun_move {v : Value} (ho : o.op = .move x ∨ o.op = .assign x) (hx : ev x = v) : (execOp ev o).run Tryz.prog w = .ok (.value v) w := by
  rcases ho with ho | ho <;> simp [execOp, ho, hx, go_sem]
theorem rrun_and {c b : Bool} (ho : o.op = .pick x y z) (hx : ev x = .bool c) (hy : ev y = cond (c == true) (.bool b) undef) (hz : ev z = .bool false) : (execOp ev o).run Tryz.prog w = .ok (.value (.bool (c && b))) w := by
  cases c with
  | true => simp [execOp, ho, hx, hy, go_sem]
  | false => simp [execOp, ho, hx, hz, go_sem]
theorem rrun_or {b b' : Bool} (ho : o.op = .pick x y z) (hx : ev x = .bool b) (hy : ev y = .bool true) (hz : ev z = cond (b == false) (.bool b') undef) : (execOp ev o).run Tryz.prog w = .ok (.value (.bool (b || b'))) w := by
  cases b with
  | true => simp [execOp, ho, hx, hy, go_sem]
  | false => simp [execOp, ho, hx, hz, go_sem]
end
theorem rstr_beq (s t : ByteArray) : (s.toList == t.toList) = decide (s = t) := by
  by_cases h : s = t
  · subst h; simp
  · have h2 : s.toList ≠ t.toList := fun e => h (by rw [ByteArray.toList_eq s, ByteArray.toList_eq t] at e; obtain ⟨⟨s⟩⟩ := s; obtain ⟨⟨t⟩⟩ := t; simpa using e)
    simp [h, h2]
theorem rbeq_str (s t : ByteArray) (W : World) : (binOp .eql 9 (.string s) (.string t)).run Tryz.prog W = .ok (.bool (decide (s = t))) W := by
  by_cases h : s = t
  · subst h; simp [go_sem]
  · have hq : (s.toList == t.toList) = false := by rw [rstr_beq]; exact decide_eq_false h
    simp [go_sem, hq, h]
theorem rbeq_u64 (s t : Nat) (W : World) : (binOp .eql 22 (.int .u64 (s : Int)) (.int .u64 (t : Int))).run Tryz.prog W = .ok (.bool (decide (s = t))) W := by
  by_cases h : s = t
  · subst h; simp [go_sem]
  · have h2 : ¬ ((s : Int) = (t : Int)) := by omega
    simp [go_sem, h, h2]
theorem rld_u32 {p : Addr} {v : Value} {w : World} (h : w.cell? p = some v) : (loadVar 26 p).run Tryz.prog w = .ok v w := by simp [go_sem, h]
theorem rld_u64 {p : Addr} {v : Value} {w : World} (h : w.cell? p = some v) : (loadVar 22 p).run Tryz.prog w = .ok v w := by simp [go_sem, h]
theorem rld_str {p : Addr} {v : Value} {w : World} (h : w.cell? p = some v) : (loadVar 9 p).run Tryz.prog w = .ok v w := by simp [go_sem, h]
end
end Go.Proofs.YtpmlhmficmillaaGreat
