/- What stat.All and the reference's StatAll return, for any bytes. Conditions: the length is at most a million. -/
import Derived.Test.YtoblafeiidjaaaaRStat
import Derived.Test.YtoblafeiidjaaaaDreadF
namespace Go.Proofs.Ytoblafeiidjaaaa
open Go.RowKit
set_option maxRecDepth 100000

/-- All records, one behind the other. -/
def allA : Nat → List Stat → List UInt8 → List Stat × Nat
  | 0, acc, _ => (acc, 0)
  | f + 1, acc, l => if l = [] then (acc, 0) else if decE l ≠ 0 then ([], decE l) else allA f (acc ++ [decS l]) (l.drop (decN l))
def allS (l : List UInt8) : List Stat × Nat := allA l.length [] l

theorem dec_len {l : List UInt8} (h : decE l = 0) : 2 ≤ decN l ∧ decN l ≤ l.length := by
  have hN : decN l = 2 + (bodyL l).length := by unfold decN; rw [if_pos h]
  have h4 : (rd (tv 2 (l, 0)) (rd 2 (l, 0))).2 = 0 := by
    unfold decE at h
    by_cases hc : (rd (tv 2 (l, 0)) (rd 2 (l, 0))).2 = 0
    · exact hc
    · rw [if_pos hc] at h; omega
  have hlen : (bodyL l).length = tv 2 (l, 0) := rawL_take h4
  have h5 : (rd 2 (l, 0)).2 = 0 := by
    by_cases hc : (rd 2 (l, 0)).2 = 0
    · exact hc
    · have : (rd (tv 2 (l, 0)) (rd 2 (l, 0))).2 = (rd 2 (l, 0)).2 := by show restE _ _ _ = _; unfold restE; rw [if_pos hc]
      omega
  have h6 : 2 ≤ l.length := by
    have : (rd 2 (l, 0)).2 = restE 2 l 0 := rfl
    rw [this] at h5; unfold restE at h5
    by_cases hl : l.length < 2
    · simp [hl] at h5
    · omega
  have h7 : (rd 2 (l, 0)).1.length = l.length - 2 := by
    show (restL 2 l 0).length = _
    unfold restL; simp; rw [if_neg (by omega)]; simp
  have h8 := rawL_le (tv 2 (l, 0)) (rd 2 (l, 0)).1 (rd 2 (l, 0)).2
  have h9 : (bodyL l).length ≤ (rd 2 (l, 0)).1.length := h8
  omega

theorem infoSt : (Try.prog.info? 37).map (fun i => (i.zero, i.size, i.bytes)) = some (some (.agg #[.int .u16 0, .int .u32 0, .int .u8 0, .int .u32 0, .int .u64 0, .int .u32 0, .int .u32 0, .int .u32 0, .int .u64 0, .string ⟨#[]⟩, .string ⟨#[]⟩, .string ⟨#[]⟩, .string ⟨#[]⟩]), 13, 112) := by kernel_rfl
theorem infoRSt : (Try.prog.info? 77).map (fun i => (i.zero, i.size, i.bytes)) = some (some (.agg #[.int .u16 0, .int .u32 0, .int .u8 0, .int .u32 0, .int .u64 0, .int .u32 0, .int .u32 0, .int .u32 0, .int .u64 0, .string ⟨#[]⟩, .string ⟨#[]⟩, .string ⟨#[]⟩, .string ⟨#[]⟩]), 13, 112) := by kernel_rfl
theorem elemSt : ElemOk Try.prog 27 37 13 112 := elemOk_of Try.underlying27 infoSt rfl (by decide)
theorem elemRSt : ElemOk Try.prog 86 77 13 112 := elemOk_of Try.underlying86 infoRSt rfl (by decide)

def lenV : Value → Nat | .slice _ n _ => n | _ => 0
theorem stat_oneCell (s : Stat) : ∀ u ∈ s.cells.toList, u.oneCell' = true := by
  intro u hu
  rw [cells_eq] at hu
  simp only [List.mem_cons, List.not_mem_nil, or_false] at hu
  rcases hu with rfl | rfl | rfl | rfl | rfl | rfl | rfl | rfl | rfl | rfl | rfl | rfl | rfl <;> rfl

def AllPost (w : World) (l : List UInt8) (e : Ending) (w' : World) : Prop := ∃ v', e = .returned (.tuple #[v', .int .i64 ((allS l).2 : Int)]) ∧ StatsAt w' v' (allS l).1 ∧ Below w.heap.size w w'

theorem StatsAt.of_own {w : World} {base t : Nat} {v : Value} {L : List Stat} (h : w.ownsRow base t 13 v L.length (L.flatMap fun s => s.cells.toList)) : StatsAt w v L := RowAt.of_own h

set_option maxHeartbeats 400000 in
theorem clip_st (a : Option Addr) (n c : Nat) (w : World) (_hn : n ≤ c) (_hc : c ≤ maxLen) :
    Calls Try.prog 52 #[.slice a n c] w fun e w' => e = .returned (.slice a n n) ∧ w = w' := by
  unfold maxLen at _hc
  go_enter Try.func52, Try.ntmps52
  go_wp2
  go_ret
  exact ⟨rfl, rfl⟩
theorem StatsAt.clip {w : World} {a : Option Addr} {c : Nat} {L : List Stat} (h : StatsAt w (.slice a L.length c) L) : StatsAt w (.slice a L.length L.length) L := by
  obtain ⟨hl, a', c', hv, h1, h2, h3, h5, h4⟩ := h
  cases hv
  refine ⟨hl, a, L.length, rfl, Nat.le_refl _, by omega, fun ha => ?_, h5, h4⟩
  have := h3 ha; omega

set_option maxHeartbeats 1600000 in
theorem all_any (v : Value) (l : List UInt8) (w : World) (hv : BytesAt w v l) (hl : l.length ≤ 1000000) : Calls Try.prog 20 #[v] w (AllPost w l) := by
  obtain ⟨a0, c0, rfl, hc0, _, _⟩ := hv.form
  go_enter Try.func20, Try.ntmps20
  go_wp2_with fail
  go_loopw [0, 4] (fun bv ov wr => ∃ (f : Nat) (acc : List Stat) (rest : List UInt8), rest.length ≤ f ∧ BytesAt w bv rest ∧ wr.ownsRow w.heap.size 37 13 ov acc.length (acc.flatMap fun s => s.cells.toList) ∧ Hid (allA f acc rest = allS l) ∧ acc.length + rest.length ≤ l.length ∧ Below w.heap.size w wr) (fun bv _ _ => lenV bv)
  case atStart => exact ⟨l.length, [], l, Nat.le_refl _, hv, World.ownsRow_nil _ _ _ _, hid rfl, by simp, Below.refl _ _⟩
  case round =>
    obtain ⟨f, acc, rest, hf, hr, hown, hall, hlen, hbl⟩ := hrel
    obtain ⟨a, c, rfl, hrc, hrm, hra⟩ := hr.form
    obtain ⟨oa, oc, rfl⟩ := own_form hown
    by_cases hne : rest = []
    · subst hne
      have hfin : Hid (allS l = (acc, 0)) := hid (by rw [← hall.out]; cases f <;> simp [allA])
      clear hall
      have hcl : acc.length ≤ oc ∧ oc ≤ maxLen := by obtain ⟨_, a', c', hv, h1, h2, _⟩ := RowAt.of_own hown; cases hv; exact ⟨h1, h2⟩
      go_wp2_with fail
      refine (clip_st oa acc.length oc wr hcl.1 hcl.2).mono ?_
      rintro e w1 ⟨rfl, rfl⟩
      go_wp2_with fail
      go_ret2
      exact ⟨_, by rw [hfin.out]; rfl, by rw [hfin.out]; exact (StatsAt.of_own hown).clip, hbl⟩
    · have hpos : 0 < rest.length := by cases rest with | nil => exact absurd rfl hne | cons _ _ => simp
      obtain ⟨f', rfl⟩ : ∃ f', f = f' + 1 := ⟨f - 1, by omega⟩
      have hst : Hid ((if decE rest ≠ 0 then ([], decE rest) else allA f' (acc ++ [decS rest]) (rest.drop (decN rest))) = allS l) := hid (by rw [← hall.out]; simp only [allA]; rw [if_neg hne])
      clear hall hne
      unfold maxLen at hrm
      go_wp2_with fail
      refine (decode_any _ rest wr (hr.below hbl) (by omega)).mono ?_
      rintro e w1 ⟨rfl, hb1⟩
      have hown1 := own_below hown hb1
      have hbl1 := sn hbl hb1
      have hdl := @dec_len rest
      replace hdl := hid hdl
      have hsc : Hid ((decS rest).cells = (decS rest).cells) := hid rfl
      generalize hS : decS rest = S at *
      replace hS := hid hS
      clear hsc hb1 hown hbl
      rw [cells_eq S]
      by_cases hE : decE rest = 0
      · obtain ⟨hn2, hnl⟩ := hdl.out hE
        have k0 : ((decE rest : Int) != 0) = false := by simpa using hE
        have hst2 := hst.out
        rw [if_neg (by simp [hE])] at hst2
        replace hst2 := hid hst2
        clear hst hE hdl
        go_wp2_with (at_builtin; refine wpList_append_row elemSt _ rfl (.tmp 20) (.tmp 22) rfl w.heap.size (.slice oa acc.length oc) acc.length (acc.flatMap fun s => s.cells.toList) rfl ((hown1.alloc _).alloc _) (.slice (some ⟨w1.heap.size + 1, 0, none⟩) 1 1) 1 S.cells.toList rfl (RowAt.of_block (heap2 w1 _ _) rfl (by unfold maxLen; omega)) (stat_oneCell S) (by unfold maxLen; omega) (by omega) (by have := hbl1.size; simp; omega) ?_)
        intro a' c' w' h2 h3
        have hbA := ((hbl1.alloc hbl1.size (.cells #[.int .u16 (S.kind : Int), .int .u32 (S.dev : Int), .int .u8 (S.qt : Int), .int .u32 (S.qv : Int), .int .u64 (S.qp : Int), .int .u32 (S.mode : Int), .int .u32 (S.atm : Int), .int .u32 (S.mtm : Int), .int .u64 (S.len : Int), .string S.name, .string S.uid, .string S.gid, .string S.muid] 37)).alloc (by have := hbl1.size; simp; omega) (.cells S.cells 37)).grown h3 (by have := hbl1.size; simp; omega) (fun j hj => (hown1.lt j hj).1)
        have hown2 : w'.ownsRow w.heap.size 37 13 (.slice a' (acc.length + 1) c') (acc ++ [S]).length ((acc ++ [S]).flatMap fun s => s.cells.toList) := by
          rw [List.flatMap_append]; simpa using h2
        clear h2 h3 hown1 hbl1
        by_cases hcn : c = decN rest
        · have hr2 := hr.drop0 hcn.symm.symm
          have hdl2 : (rest.drop (decN rest)).length = rest.length - decN rest := by simp
          go_wp2_with fail
          go_roundw
          case rel => exact ⟨f', acc ++ [S], rest.drop (decN rest), by omega, hr2, hown2, hst2, by rw [List.length_append]; simp; omega, hbA⟩
          case measure => simp [lenV]; omega
        · have hr2 := hr.drop1 (decN rest) hnl
          have hdl2 : (rest.drop (decN rest)).length = rest.length - decN rest := by simp
          go_wp2_with fail
          go_roundw
          case rel => exact ⟨f', acc ++ [S], rest.drop (decN rest), by omega, hr2, hown2, hst2, by rw [List.length_append]; simp; omega, hbA⟩
          case measure => simp [lenV]; omega
      · have k0 : ((decE rest : Int) != 0) = true := by simpa using hE
        have hfin : Hid (allS l = ([], decE rest)) := hid (by rw [← hst.out, if_pos hE])
        clear hst hE hdl
        go_wp2_with fail
        go_ret2
        exact ⟨_, by rw [hfin.out]; rfl, by rw [hfin.out]; exact RowAt.nil, hbl1.alloc hbl1.size _⟩

set_option maxHeartbeats 1600000 in
theorem statall_any (v : Value) (l : List UInt8) (w : World) (hv : BytesAt w v l) (hl : l.length ≤ 1000000) : Calls Try.prog 47 #[v] w (AllPost w l) := by
  obtain ⟨a0, c0, rfl, hc0, _, _⟩ := hv.form
  go_enter Try.func47, Try.ntmps47
  go_wp2_with fail
  go_loopw [0, 4] (fun bv ov wr => ∃ (f : Nat) (acc : List Stat) (rest : List UInt8), rest.length ≤ f ∧ BytesAt w bv rest ∧ wr.ownsRow w.heap.size 77 13 ov acc.length (acc.flatMap fun s => s.cells.toList) ∧ Hid (allA f acc rest = allS l) ∧ acc.length + rest.length ≤ l.length ∧ Below w.heap.size w wr) (fun bv _ _ => lenV bv)
  case atStart => exact ⟨l.length, [], l, Nat.le_refl _, hv, World.ownsRow_nil _ _ _ _, hid rfl, by simp, Below.refl _ _⟩
  case round =>
    obtain ⟨f, acc, rest, hf, hr, hown, hall, hlen, hbl⟩ := hrel
    obtain ⟨a, c, rfl, hrc, hrm, hra⟩ := hr.form
    obtain ⟨oa, oc, rfl⟩ := own_form hown
    by_cases hne : rest = []
    · subst hne
      have hfin : Hid (allS l = (acc, 0)) := hid (by rw [← hall.out]; cases f <;> simp [allA])
      clear hall
      go_wp2_with fail
      go_ret2
      exact ⟨_, by rw [hfin.out]; rfl, by rw [hfin.out]; exact StatsAt.of_own hown, hbl⟩
    · have hpos : 0 < rest.length := by cases rest with | nil => exact absurd rfl hne | cons _ _ => simp
      obtain ⟨f', rfl⟩ : ∃ f', f = f' + 1 := ⟨f - 1, by omega⟩
      have hst : Hid ((if decE rest ≠ 0 then ([], decE rest) else allA f' (acc ++ [decS rest]) (rest.drop (decN rest))) = allS l) := hid (by rw [← hall.out]; simp only [allA]; rw [if_neg hne])
      clear hall hne
      unfold maxLen at hrm
      go_wp2_with fail
      refine (statof_any _ rest wr (hr.below hbl) (by omega)).mono ?_
      rintro e w1 ⟨rfl, hb1⟩
      have hown1 := own_below hown hb1
      have hbl1 := sn hbl hb1
      have hdl := @dec_len rest
      replace hdl := hid hdl
      have hsc : Hid ((decS rest).cells = (decS rest).cells) := hid rfl
      generalize hS : decS rest = S at *
      replace hS := hid hS
      clear hsc hb1 hown hbl
      rw [cells_eq S]
      by_cases hE : decE rest = 0
      · obtain ⟨hn2, hnl⟩ := hdl.out hE
        have k0 : ((decE rest : Int) != 0) = false := by simpa using hE
        have hst2 := hst.out
        rw [if_neg (by simp [hE])] at hst2
        replace hst2 := hid hst2
        clear hst hE hdl
        go_wp2_with (at_builtin; refine wpList_append_row elemRSt _ rfl (.tmp 20) (.tmp 22) rfl w.heap.size (.slice oa acc.length oc) acc.length (acc.flatMap fun s => s.cells.toList) rfl ((hown1.alloc _).alloc _) (.slice (some ⟨w1.heap.size + 1, 0, none⟩) 1 1) 1 S.cells.toList rfl (RowAt.of_block (heap2 w1 _ _) rfl (by unfold maxLen; omega)) (stat_oneCell S) (by unfold maxLen; omega) (by omega) (by have := hbl1.size; simp; omega) ?_)
        intro a' c' w' h2 h3
        have hbA := ((hbl1.alloc hbl1.size (.cells #[.int .u16 (S.kind : Int), .int .u32 (S.dev : Int), .int .u8 (S.qt : Int), .int .u32 (S.qv : Int), .int .u64 (S.qp : Int), .int .u32 (S.mode : Int), .int .u32 (S.atm : Int), .int .u32 (S.mtm : Int), .int .u64 (S.len : Int), .string S.name, .string S.uid, .string S.gid, .string S.muid] 77)).alloc (by have := hbl1.size; simp; omega) (.cells S.cells 77)).grown h3 (by have := hbl1.size; simp; omega) (fun j hj => (hown1.lt j hj).1)
        have hown2 : w'.ownsRow w.heap.size 77 13 (.slice a' (acc.length + 1) c') (acc ++ [S]).length ((acc ++ [S]).flatMap fun s => s.cells.toList) := by
          rw [List.flatMap_append]; simpa using h2
        clear h2 h3 hown1 hbl1
        by_cases hcn : c = decN rest
        · have hr2 := hr.drop0 hcn.symm.symm
          have hdl2 : (rest.drop (decN rest)).length = rest.length - decN rest := by simp
          go_wp2_with fail
          go_roundw
          case rel => exact ⟨f', acc ++ [S], rest.drop (decN rest), by omega, hr2, hown2, hst2, by rw [List.length_append]; simp; omega, hbA⟩
          case measure => simp [lenV]; omega
        · have hr2 := hr.drop1 (decN rest) hnl
          have hdl2 : (rest.drop (decN rest)).length = rest.length - decN rest := by simp
          go_wp2_with fail
          go_roundw
          case rel => exact ⟨f', acc ++ [S], rest.drop (decN rest), by omega, hr2, hown2, hst2, by rw [List.length_append]; simp; omega, hbA⟩
          case measure => simp [lenV]; omega
      · have k0 : ((decE rest : Int) != 0) = true := by simpa using hE
        have hfin : Hid (allS l = ([], decE rest)) := hid (by rw [← hst.out, if_pos hE])
        clear hst hE hdl
        go_wp2_with fail
        go_ret2
        exact ⟨_, by rw [hfin.out]; rfl, by rw [hfin.out]; exact RowAt.nil, hbl1.alloc hbl1.size _⟩

end Go.Proofs.Ytoblafeiidjaaaa
