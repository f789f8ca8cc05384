/- A file made again and again in one directory: what making, unlinking and reaping do to the next path and the length. Plain. -/
import Derived.Test.YtpmlhmficmillaaBunTG
namespace Go.Proofs.Ytpmlhmficmillaa
set_option maxRecDepth 100000
set_option linter.unusedVariables false

theorem fName : nameN ⟨#[102]⟩ = 0 := by kernel_rfl
theorem OkC.root1 {t : Tr} (h : OkC t) : ∃ r, getL t.n 1 = some r ∧ dirB r = true ∧ r.gone = false ∧ r ∈ t.n ∧ r.path = 1 := by
  obtain ⟨r, h1, h2, h3, h4, h5, _⟩ := h.root
  exact ⟨r, by rw [← h2]; exact getL_of h.sort h1, h3, h5, h1, h2⟩
theorem new_step {T : Tr} (h : Good T) (hl : T.n.length < 64) (hx : T.next + 1 < 9223372036854775808) :
    (∃ L : Tr, makeT T 1 ⟨#[102]⟩ 384 ⟨#[97]⟩ ⟨#[97]⟩ 0 = (L, T.next, 0) ∧ L.next = T.next + 1 ∧ L.n.length = T.n.length + 1 ∧ Good L) ∨
    (makeT T 1 ⟨#[102]⟩ 384 ⟨#[97]⟩ ⟨#[97]⟩ 0 = (T, 0, 7) ∧ (findL T.n 1 ⟨#[102]⟩).isSome = true) := by
  have hG := makeT_good h 1 ⟨#[102]⟩ 384 ⟨#[97]⟩ ⟨#[97]⟩ 0 (by decide) vA vA (by omega) (by omega) (sz1 _) (sz1 _) (sz1 _) hx
  obtain ⟨r, h1, h2, h3, h4, h5⟩ := h.ok.root1
  have e : makeT T 1 ⟨#[102]⟩ 384 ⟨#[97]⟩ ⟨#[97]⟩ 0 = if (findL T.n 1 ⟨#[102]⟩).isSome then (T, 0, 7) else (⟨T.next + 1, setL (setL T.n (touchN r ⟨#[97]⟩ 0)) (newN T.next 384 0 ⟨#[102]⟩ ⟨#[97]⟩ ⟨#[97]⟩ 1)⟩, T.next, 0) := by
    unfold makeT
    rw [h1]
    simp only
    rw [if_neg (by rw [h2]; simp), h3, if_neg (by simp), if_neg (by rw [fName]; simp), if_neg (show ¬ 64 ≤ T.n.length by omega)]
  cases hf : (findL T.n 1 ⟨#[102]⟩).isSome with
  | true => right; rw [e, hf]; exact ⟨rfl, rfl⟩
  | false =>
    left
    rw [hf, if_neg (by simp)] at e
    refine ⟨_, e, rfl, ?_, by rw [e] at hG; exact hG⟩
    have h6 := set_len h.ok.sort h4 (touchN r ⟨#[97]⟩ 0) rfl
    have h7 := h.ok.touched h4 ⟨#[97]⟩ 0 vA
    have h8 := add_len h7.sort (newN T.next 384 0 ⟨#[102]⟩ ⟨#[97]⟩ ⟨#[97]⟩ 1) h7.free
    exact h8.trans (by rw [show (⟨T.next, setL T.n (touchN r ⟨#[97]⟩ 0)⟩ : Tr).n = setL T.n (touchN r ⟨#[97]⟩ 0) from rfl, h6])
theorem un_step {T : Tr} (h : Good T) (p : Nat) (who : ByteArray) (now : Nat) : (unlinkT T p who now).1.next = T.next ∧ (unlinkT T p who now).1.n.length = T.n.length := by
  unfold unlinkT
  cases hq : getL T.n p with
  | none => exact ⟨rfl, rfl⟩
  | some x =>
    obtain ⟨hx, hxp⟩ := getL_some hq
    simp only
    split
    · exact ⟨rfl, rfl⟩
    · split
      · exact ⟨rfl, rfl⟩
      · split
        · exact ⟨rfl, rfl⟩
        · have h1 := set_len h.ok.sort hx (goneN x) rfl
          cases hu : getL T.n x.up with
          | none => exact ⟨rfl, h1⟩
          | some d =>
            obtain ⟨hd, hdp⟩ := getL_some hu
            refine ⟨rfl, ?_⟩
            have hin : ∃ y ∈ setL T.n (goneN x), (touchN d who now).path = y.path := by
              by_cases e : d.path = x.path
              · exact ⟨goneN x, mem_setL.2 (.inl rfl), e⟩
              · exact ⟨d, mem_setL.2 (.inr ⟨hd, e⟩), rfl⟩
            obtain ⟨y, hy, hp⟩ := hin
            exact (set_len (h.ok.sort.set _) hy _ hp).trans h1
theorem reap_step (T : Tr) (p : Nat) : (reapT T p).1.next = T.next ∧ (reapT T p).1.n.length ≤ T.n.length := by
  unfold reapT
  cases hq : getL T.n p with
  | none => exact ⟨rfl, Nat.le_refl _⟩
  | some x => simp only; split <;> exact ⟨rfl, by first | exact Nat.le_refl _ | exact drop_len _ _⟩
theorem K0_find : (findL K0.n 1 ⟨#[102]⟩).isSome = false := by kernel_rfl
end Go.Proofs.Ytpmlhmficmillaa
