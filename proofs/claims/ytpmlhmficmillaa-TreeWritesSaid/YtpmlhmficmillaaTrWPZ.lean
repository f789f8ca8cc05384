/- What is written into a new file, and read back. Plain. -/
import Derived.Test.YtpmlhmficmillaaBunTG
namespace Go.Proofs.Ytpmlhmficmillaa
set_option maxRecDepth 100000
set_option linter.unusedVariables false

def modeW (add : Bool) : Nat := if add then 1073742244 else 420
noncomputable def W1 (add : Bool) : Tr := (makeT K0 1 ⟨#[102]⟩ (modeW add) ⟨#[97]⟩ ⟨#[97]⟩ 0).1
theorem W1_is (add : Bool) : makeT K0 1 ⟨#[102]⟩ (modeW add) ⟨#[97]⟩ ⟨#[97]⟩ 0 = (W1 add, 2, 0) := by cases add <;> kernel_rfl
theorem W1_get (add : Bool) : getL (W1 add).n 2 = some (newN 2 (modeW add) 0 ⟨#[102]⟩ ⟨#[97]⟩ ⟨#[97]⟩ 1) := by cases add <;> kernel_rfl
theorem W1_bytes (add : Bool) : bytesL (W1 add).n = 0 := by cases add <;> kernel_rfl
theorem W1_good (add : Bool) : Good (W1 add) := makeT_good G0 _ _ _ _ _ _ (by cases add <;> decide) vA vA (by cases add <;> decide) (by omega) (sz1 _) (sz1 _) (sz1 _) (by rw [K0_next]; omega)
theorem putD_new (a : ByteArray) : putD ⟨#[]⟩ 0 a = a := by
  unfold putD padL
  simp
  exact strL_self a
theorem put_far {T : Tr} {p off : Nat} {b who : ByteArray} {now : Nat} {x : Nod} (hg : getL T.n p = some x) (hd : dirB x = false) (h : 4096 < (if appB x then x.data.size else off) + b.size) : putT T p off b who now = (T, 3) := by
  unfold putT
  rw [hg]
  simp only
  rw [if_neg (by rw [hd]; simp), if_pos (by omega)]
theorem put_ok {T : Tr} (h : Good T) {p off : Nat} {b who : ByteArray} {now : Nat} {x : Nod} (hg : getL T.n p = some x) (hd : dirB x = false) (o : Nat) (ho : o = if appB x then x.data.size else off) (hb : b.size ≠ 0) (h1 : o + b.size ≤ 4096) (h2 : bytesL T.n - x.data.size + (putD x.data o b).size ≤ 16384) :
    ∃ (T2 : Tr) (y : Nod), putT T p off b who now = (T2, 0) ∧ getL T2.n p = some y ∧ y.data = putD x.data o b ∧ appB y = appB x ∧ dirB y = false ∧ bytesL T2.n + x.data.size = bytesL T.n + y.data.size := by
  obtain ⟨hx, hp⟩ := getL_some hg
  refine ⟨⟨T.next, setL T.n { touchN x who now with data := putD x.data o b }⟩, { touchN x who now with data := putD x.data o b }, ?_, ?_, rfl, rfl, hd, set_bytes h.ok.sort hx _ rfl⟩
  · unfold putT
    rw [hg]
    simp only
    rw [if_neg (by rw [hd]; simp), ← ho, if_neg (by omega), if_neg hb]
    unfold dataT
    rw [if_neg (by omega)]
  · rw [← hp]
    exact getL_of (h.ok.sort.set _) (mem_setL.2 (.inl rfl))
theorem w2 (add : Bool) (a : ByteArray) (h0 : a.size ≠ 0) (h1 : a.size ≤ 300) : ∃ (T2 : Tr) (f : Nod), putT (W1 add) 2 0 a ⟨#[97]⟩ 1 = (T2, 0) ∧ Good T2 ∧ getL T2.n 2 = some f ∧ f.data = a ∧ appB f = add ∧ dirB f = false ∧ bytesL T2.n = a.size := by
  have hd0 : dirB (newN 2 (modeW add) 0 ⟨#[102]⟩ ⟨#[97]⟩ ⟨#[97]⟩ 1) = false := by cases add <;> decide
  have ha0 : appB (newN 2 (modeW add) 0 ⟨#[102]⟩ ⟨#[97]⟩ ⟨#[97]⟩ 1) = add := by cases add <;> decide
  have hz : (newN 2 (modeW add) 0 ⟨#[102]⟩ ⟨#[97]⟩ ⟨#[97]⟩ 1).data = ⟨#[]⟩ := rfl
  obtain ⟨T2, y, k1, k2, k3, k4, k5, k6⟩ := put_ok (W1_good add) (off := 0) (b := a) (who := ⟨#[97]⟩) (now := 1) (W1_get add) hd0 0 (by rw [hz]; split <;> rfl) h0 (by omega) (by rw [W1_bytes, hz, putD_new]; show 0 - 0 + a.size ≤ _; omega)
  have hG := putT_good (W1_good add) 2 0 a ⟨#[97]⟩ 1 vA (by omega) (sz1 _)
  rw [k1] at hG
  rw [hz, putD_new] at k3
  refine ⟨T2, y, k1, hG, k2, k3, by rw [k4, ha0], k5, ?_⟩
  rw [W1_bytes, hz, k3] at k6
  have : (⟨#[]⟩ : ByteArray).size = 0 := rfl
  omega
theorem w3 {add : Bool} {a : ByteArray} {T2 : Tr} {f : Nod} (hG : Good T2) (hg : getL T2.n 2 = some f) (hda : f.data = a) (hap : appB f = add) (hd : dirB f = false) (hby : bytesL T2.n = a.size) (h1 : a.size ≤ 300) (b : ByteArray) (hb0 : b.size ≠ 0) (hb1 : b.size ≤ 300) (off o : Nat) (ho : o = if add then a.size else off) :
    (4096 < o + b.size → putT T2 2 off b ⟨#[97]⟩ 2 = (T2, 3)) ∧ (o + b.size ≤ 4096 → ∃ (T3 : Tr) (f2 : Nod), putT T2 2 off b ⟨#[97]⟩ 2 = (T3, 0) ∧ Good T3 ∧ getL T3.n 2 = some f2 ∧ f2.data = putD a o b ∧ dirB f2 = false) := by
  refine ⟨fun h => put_far hg hd (by rw [hap, hda, ← ho]; exact h), fun h => ?_⟩
  have hs := putD_size a o b
  obtain ⟨T3, y, k1, k2, k3, k4, k5, k6⟩ := put_ok hG (off := off) (b := b) (who := ⟨#[97]⟩) (now := 2) hg hd o (by rw [hap, hda, ← ho]) hb0 h (by rw [hda, hby]; omega)
  have hG3 := putT_good hG 2 off b ⟨#[97]⟩ 2 vA (by omega) (sz1 _)
  rw [k1] at hG3
  exact ⟨T3, y, k1, hG3, k2, by rw [k3, hda], k5⟩
theorem w4 {T : Tr} {f : Nod} (hg : getL T.n 2 = some f) (hd : dirB f = false) (hs : f.data.size ≤ 5000) : (takeT T 2 0 5000 3).2 = (f.data, 0) := by
  unfold takeT
  rw [hg]
  simp only
  rw [if_neg (by rw [hd]; simp)]
  have : (f.data.data.toList.drop 0).take 5000 = f.data.data.toList := by
    rw [List.drop_zero, List.take_of_length_le]
    have : f.data.data.toList.length = f.data.size := by simp
    omega
  simp only [this, strL_self]
/-- The bytes that are wanted, while they are laid. -/
def padA (la : List UInt8) (n : Nat) : List UInt8 := la ++ List.replicate (n - la.length) 0
def lay (p lb : List UInt8) (o i : Nat) : List UInt8 := p.take o ++ lb.take i ++ p.drop (o + i)
theorem padA_length (la : List UInt8) (n : Nat) : (padA la n).length = la.length + (n - la.length) := by unfold padA; simp
theorem lay_length {p lb : List UInt8} {o i : Nat} (h : o + lb.length ≤ p.length) (hi : i ≤ lb.length) : (lay p lb o i).length = p.length := by unfold lay; simp; omega
theorem lay_zero (p lb : List UInt8) (o : Nat) : lay p lb o 0 = p := by unfold lay; simp
theorem lay_step {p lb : List UInt8} {o i : Nat} (h : o + lb.length ≤ p.length) (hi : i < lb.length) : (lay p lb o i).set (o + i) lb[i] = lay p lb o (i + 1) := by
  unfold lay
  have l1 : (p.take o).length = o := by simp; omega
  have l2 : (lb.take i).length = i := by simp; omega
  have hd : p.drop (o + i) = p[o + i] :: p.drop (o + i + 1) := (List.getElem_cons_drop (h := by omega)).symm
  rw [List.append_assoc, List.set_append_right _ _ (by omega), l1, show o + i - o = i by omega, List.set_append_right _ _ (by omega), l2, Nat.sub_self, hd, List.set_cons_zero, List.take_add_one, List.getElem?_eq_getElem hi]
  simp only [Option.toList_some, List.append_assoc, List.cons_append, List.nil_append, Nat.add_assoc]
theorem lay_done (a b : ByteArray) (o : Nat) : strL (lay (padA a.data.toList (o + b.size)) b.data.toList o b.size) = putD a o b := by
  have hl : b.data.toList.length = b.size := by simp
  unfold lay putD padA padL
  congr 1
  rw [List.take_of_length_le (by omega : b.data.toList.length ≤ b.size)]
  congr 1
  · congr 1
    rw [List.take_append, List.take_append]
    congr 1
    simp only [List.take_replicate]
    congr 1
    omega
  · rw [List.drop_append]
    have : List.drop (o + b.size - a.data.toList.length) (List.replicate (o + b.size - a.data.toList.length) (0 : UInt8)) = [] := by simp
    rw [this, List.append_nil]
end Go.Proofs.Ytpmlhmficmillaa
