/- What text.Put and text.Take do, under bounds on lengths that each theorem names. No further condition. -/
import Derived.Test.YtpmlhmficmillaaNumInZ
import Derived.Test.YtpmlhmficmillaaValidZ
import Derived.Lib.AppendStr
namespace Go.Proofs.Ytpmlhmficmillaa
open Go.RowKit
set_option maxRecDepth 100000

def strL (l : List UInt8) : ByteArray := ⟨l.toArray⟩
theorem strL_data (l : List UInt8) : (strL l).data.toList = l := rfl
theorem strL_size (l : List UInt8) : (strL l).size = l.length := by simp [strL, ByteArray.size]
theorem strL_self (s : ByteArray) : strL s.data.toList = s := rfl

theorem conv_string (w : World) (v : Value) (l : List UInt8) (h : BytesAt w v l) : (convert 53 9 v).run Try.prog w = .ok (.string (strL l)) w := by
  obtain ⟨hl, a, c, rfl, h1, h2, h3, h5, h4⟩ := h
  cases a with
  | none =>
    have hc := h3 rfl
    obtain rfl : l = [] := List.eq_nil_of_length_eq_zero (by omega)
    exact run_convert_bytes_nil w _ _ Try.underlying53 Try.underlying5 _ _ _ Try.underlying9
  | some ad =>
    obtain ⟨b, o, sp⟩ := ad
    have := (h5 _ rfl).1
    subst this
    rw [run_convert_bytes_arg w _ _ Try.underlying53 Try.underlying5 b o l.length c (l.map fun x => (x.toNat : Int)) (by simp) (fun i hi => ?_) _ Try.underlying9]
    · congr 1
      have : ∀ l : List UInt8, List.map ((fun n : Int => UInt8.ofNat n.toNat) ∘ fun x : UInt8 => (x.toNat : Int)) l = l := by
        intro l
        induction l with
        | nil => rfl
        | cons c l ih => simp only [List.map_cons, ih]; simp
      simp [strOfNums, strL, this]
    · obtain ⟨b', o', he, hc⟩ := h4 i (byteV l[i]) (by simp [hi])
      cases he
      rw [hc]
      simp [byteV, List.getD, hi]

/-- The bytes of a text. -/
def putText (s : ByteArray) : List UInt8 := numBytes s.size 2 ++ s.data.toList

def putTextR (s : ByteArray) : List UInt8 := if mayN s = 0 then putText s else []
theorem putTextR_ok {s : ByteArray} (h : mayN s = 0) : putTextR s = putText s := by unfold putTextR; rw [if_pos h]
theorem putTextR_no {s : ByteArray} (h : mayN s ≠ 0) : putTextR s = [] := by unfold putTextR; rw [if_neg h]

theorem OutIs.below {w w' : World} {b : Nat} {xs : List UInt8} (h : OutIs w b xs) (hb : Below w.heap.size w w') : OutIs w' b xs := by
  obtain ⟨v, ot, h1, h2⟩ := h
  refine ⟨v, ot, (hb.block b (lt_of_block h1)).trans h1, h2.1, ?_⟩
  rcases h2.2 with h3 | ⟨g, cap, cur, hv, hg, hh, r⟩
  · exact .inl h3
  · exact .inr ⟨g, cap, cur, hv, hg, (hb.block g (lt_of_block hh)).trans hh, r⟩
theorem OutIs.lt {w : World} {b : Nat} {xs : List UInt8} (h : OutIs w b xs) : b < w.heap.size := by
  obtain ⟨v, ot, h1, _⟩ := h
  exact lt_of_block h1

theorem bytesWorld_bytes (w : World) (s : ByteArray) (hs : s.size ≤ 1000000000) : BytesAt (Lib.bytesWorld w 5 s) (.slice (some ⟨w.heap.size, 0, none⟩) s.size (grownCap w s.size 0 5)) s.data.toList := by
  refine ⟨by simp, some ⟨w.heap.size, 0, none⟩, _, by simp; rfl, by simpa using grownCap_ge w s.size 0 _, grownCap_le_maxLen w s.size 0 _ (by unfold maxLen; omega), fun h => (by cases h), fun ad ha => (by cases ha; exact ⟨rfl, by rw [Lib.bytesWorld_size]; exact Nat.lt_succ_self _⟩), fun i u hu => ⟨w.heap.size, 0, rfl, ?_⟩⟩
  have hi : i < s.size := by have := (List.getElem?_eq_some_iff.1 hu).1; simpa using this
  rw [Nat.zero_add, bytesWorld_cell' w _ s i hi, ← hu]
  simp [byteV, hi]
  rfl

theorem below_bytesWorld (w : World) (e : TypeId) (s : ByteArray) : Below w.heap.size w (Lib.bytesWorld w e s) := ⟨rfl, rfl, rfl, by rw [Lib.bytesWorld_size]; omega, fun k hk => Lib.bytesWorld_at_old w e s k hk⟩

def tkErr (l : List UInt8) (e : Nat) : Nat := if restE (takeV 2 l e) (restL 2 l e) (restE 2 l e) ≠ 0 then restE (takeV 2 l e) (restL 2 l e) (restE 2 l e) else mayN (strL (rawL (takeV 2 l e) (restL 2 l e) (restE 2 l e)))
def tkStr (l : List UInt8) (e : Nat) : ByteArray := if tkErr l e ≠ 0 then ByteArray.empty else strL (rawL (takeV 2 l e) (restL 2 l e) (restE 2 l e))
def tkL (l : List UInt8) (e : Nat) : List UInt8 := restL (takeV 2 l e) (restL 2 l e) (restE 2 l e)
def tkE (l : List UInt8) (e : Nat) : Nat := restE (takeV 2 l e) (restL 2 l e) (restE 2 l e)

theorem takeV_lt (n : Nat) (l : List UInt8) (e : Nat) (_hn : n ≤ 8) : takeV n l e < 256 ^ n := by
  unfold takeV
  split
  · exact Nat.pow_pos (by omega)
  · split
    · exact Nat.pow_pos (by omega)
    · have := leN_lt (l.take n)
      rwa [show (l.take n).length = n by simp; omega] at this

theorem restL_le (n : Nat) (l : List UInt8) (e : Nat) : (restL n l e).length ≤ l.length := by unfold restL; split <;> (try split) <;> simp
theorem rawL_le (n : Nat) (l : List UInt8) (e : Nat) : (rawL n l e).length ≤ l.length := by unfold rawL; split <;> (try split) <;> simp; omega

theorem outIs_new {t : TypeId} (w : World) : OutIs (w.alloc (.cells #[.slice none 0 0] t)) w.heap.size [] := ⟨_, t, heap_alloc_new _ _, World.ownsRow_nil _ _ _ _⟩

theorem sn {W a b : World} (h : Below W.heap.size W a) (k : Below a.heap.size a b) : Below W.heap.size W b := h.trans (k.mono h.size)

theorem mayN_eq (s : ByteArray) : mayN s = if 64 < s.size then 3 else if !validB s then 2 else 0 := by
  unfold mayN S.may; rw [show s.data.toList.length = s.size from by simp]; rfl

theorem rawL_take {n : Nat} {l : List UInt8} {e : Nat} (h : restE n l e = 0) : (rawL n l e).length = n := by
  unfold restE at h
  split at h
  · exact absurd h (by assumption)
  · split at h
    · cases h
    · rename_i h1 h2
      unfold rawL
      rw [if_neg h1, if_neg h2]; simp; omega

/-- What each law's walk shows: it returns true, and nothing that was there has changed. -/
def Holds (w : World) (e : Ending) (w' : World) : Prop := e = .returned (.bool true) ∧ Below w.heap.size w w'

theorem mayN_zero_size {s : ByteArray} (h : mayN s = 0) : s.size ≤ 64 := by
  rw [mayN_eq] at h
  by_cases h64 : 64 < s.size
  · rw [if_pos h64] at h; cases h
  · omega
end Go.Proofs.Ytpmlhmficmillaa
