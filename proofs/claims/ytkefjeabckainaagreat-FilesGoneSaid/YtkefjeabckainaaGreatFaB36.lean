/- A removed file that is held: what the calls tell of it. Plain.
The law FilesGone, walked whole. No condition. -/
import Derived.Test.YtkefjeabckainaaGreatFaB35
import Derived.Test.YtkefjeabckainaaGreatPFilesAloneZ
namespace Go.Proofs.YtkefjeabckainaaGreat
section
set_option maxRecDepth 100000
set_option linter.unusedVariables false

theorem upd_upd (F : Nat → Nat × Nat) (p : Nat) (x y : Nat × Nat) : upd (upd F p x) p y = upd F p y := by
  funext q
  unfold upd
  split <;> rfl
def Kf (i o : Nat) : Nat → Nat × Nat := upd (fun _ => (0, 0)) 2 (i, o)
theorem Kf_at (i o : Nat) : Kf i o 2 = (i, o) := upd_at _ _ _
theorem Kf_upd (i o : Nat) (x : Nat × Nat) : upd (Kf i o) 2 x = Kf x.1 x.2 := by unfold Kf; rw [upd_upd]
def SF (r x : Nod) (i o : Nat) : FsV := ⟨⟨3, [r, x]⟩, 0, Kf i o⟩
structure RootOk (r : Nod) : Prop where
  path : r.path = 1
  gone : r.gone = false
  mode : r.mode = 2147484157
  uid : r.uid = ⟨#[117, 49]⟩
  gid : r.gid = ⟨#[117, 49]⟩
  data : r.data.size = 0
structure FilOk (x : Nod) (d : ByteArray) (g : Bool) : Prop where
  path : x.path = 2
  gone : x.gone = g
  mode : x.mode = 436
  data : x.data = d
  up : x.up = if g then 0 else 1
theorem getL_1 {r x : Nod} (h : r.path = 1) : getL [r, x] 1 = some r := by simp [getL, h]
theorem getL_2 {r x : Nod} (h : r.path = 1) (h2 : x.path = 2) : getL [r, x] 2 = some x := by simp [getL, h, h2]
theorem setL_2 {r x y : Nod} (h : r.path = 1) (h2 : x.path = 2) (h3 : y.path = 2) : setL [r, x] y = [r, y] := by simp [setL, h, h2, h3]
theorem setL_1 {r x y : Nod} (h : r.path = 1) (h2 : x.path = 2) (h3 : y.path = 1) : setL [r, x] y = [y, x] := by simp [setL, h, h2, h3]
theorem FilOk.notdir {x : Nod} {d : ByteArray} {g : Bool} (h : FilOk x d g) : dirB x = false := by unfold dirB; rw [h.mode]; rfl
theorem FilOk.notapp {x : Nod} {d : ByteArray} {g : Bool} (h : FilOk x d g) : appB x = false := by unfold appB; rw [h.mode]; rfl
theorem RootOk.dir {r : Nod} (h : RootOk r) : dirB r = true := by unfold dirB; rw [h.mode]; rfl
theorem sf_hold {r x : Nod} {i o : Nat} {d : ByteArray} {g : Bool} (hr : RootOk r) (hx : FilOk x d g) : holdF (SF r x i o) 2 = (SF r x (i + 1) o, true) := by
  unfold holdF SF
  simp only
  rw [getL_2 hr.path hx.path, Kf_at, Kf_upd]
  rfl
theorem putD_end (d a : ByteArray) : putD d d.size a = strL (d.data.toList ++ a.data.toList) := by
  unfold putD padL
  have h : d.data.toList.length = d.size := by rw [Array.length_toList]; rfl
  rw [h, Nat.sub_self, List.replicate_zero, List.append_nil, List.take_of_length_le (by omega), List.drop_eq_nil_of_le (by omega), List.append_nil]
theorem strL_cat (d a : ByteArray) : strL (d.data.toList ++ a.data.toList) = d ++ a := by
  unfold strL
  apply ByteArray.ext
  rw [ByteArray.data_append]
  apply Array.toList_inj.1
  simp
theorem cat_empty (d a : ByteArray) (h : a.size = 0) : d ++ a = d := by
  apply ByteArray.ext
  rw [ByteArray.data_append]
  have : a.data = #[] := Array.eq_empty_of_size_eq_zero h
  rw [this]
  simp
theorem sf_write {r x : Nod} {i o : Nat} {d a : ByteArray} {g : Bool} (hr : RootOk r) (hx : FilOk x d g) (hs : d.size + a.size ≤ 4096) : ∃ x', FilOk x' (d ++ a) g ∧ writeF (SF r x i o) ⟨#[117, 49]⟩ 2 d.size a = (SF r x' i o, a.size, 0) := by
  have hp : ∃ x', FilOk x' (d ++ a) g ∧ putT ⟨3, [r, x]⟩ 2 d.size a ⟨#[117, 49]⟩ 0 = (⟨3, [r, x']⟩, 0) := by
    unfold putT
    simp only
    rw [getL_2 hr.path hx.path]
    simp only
    rw [if_neg (by rw [hx.notdir]; decide), hx.notapp]
    simp only [Bool.false_eq_true, if_false]
    rw [if_neg (by omega)]
    by_cases h0 : a.size = 0
    · rw [if_pos h0]
      exact ⟨x, by rw [cat_empty d a h0]; exact hx, rfl⟩
    · rw [if_neg h0]
      unfold dataT
      have hsz : (strL (d.data.toList ++ a.data.toList)).size = d.size + a.size := by
        rw [strL_cat]; exact ByteArray.size_append
      rw [hx.data, putD_end, if_neg (by
        rw [hsz]
        unfold bytesL
        simp only [List.map_cons, List.map_nil, List.sum_cons, List.sum_nil]
        rw [hr.data, hx.data]
        omega)]
      refine ⟨{ touchN x ⟨#[117, 49]⟩ 0 with data := strL (d.data.toList ++ a.data.toList) }, ⟨hx.path, hx.gone, hx.mode, strL_cat d a, hx.up⟩, ?_⟩
      rw [setL_2 hr.path hx.path (by exact hx.path)]
  obtain ⟨x', h1, h2⟩ := hp
  refine ⟨x', h1, ?_⟩
  unfold writeF
  rw [show (SF r x i o).t = ⟨3, [r, x]⟩ from rfl, show (SF r x i o).now = 0 from rfl, h2]
  rfl
theorem may_root {r : Nod} (h : RootOk r) : U0.may ⟨#[117, 49]⟩ r 2 = true := by
  unfold Usr.may
  rw [h.uid, h.gid, h.mode]
  kernel_rfl
theorem sf_remove {r x : Nod} {i o : Nat} {d : ByteArray} (hr : RootOk r) (hx : FilOk x d false) (hi : 0 < i) : ∃ r' x', RootOk r' ∧ FilOk x' d true ∧ removeF U0 (SF r x i o) ⟨#[117, 49]⟩ 2 = (SF r' x' i o, 0) := by
  have hup : x.up = 1 := hx.up
  refine ⟨touchN r ⟨#[117, 49]⟩ 0, goneN x, ⟨hr.path, hr.gone, hr.mode, hr.uid, hr.gid, hr.data⟩, ⟨hx.path, rfl, hx.mode, hx.data, rfl⟩, ?_⟩
  have hu : unlinkT ⟨3, [r, x]⟩ 2 ⟨#[117, 49]⟩ 0 = (⟨3, [touchN r ⟨#[117, 49]⟩ 0, goneN x]⟩, 0) := by
    unfold unlinkT
    simp only
    rw [getL_2 hr.path hx.path]
    simp only
    rw [if_neg (by decide), if_neg (by rw [hx.gone]; decide), if_neg (by simp [kidsOf, kidB, hr.path, hup]), hup, getL_1 hr.path]
    simp only
    rw [setL_2 hr.path hx.path (by exact hx.path), setL_1 hr.path (by exact hx.path) (by exact hr.path)]
  unfold removeF
  rw [show (SF r x i o).t = ⟨3, [r, x]⟩ from rfl, show (SF r x i o).now = 0 from rfl]
  simp only
  rw [getL_2 hr.path hx.path]
  simp only
  rw [if_neg (by rw [hx.gone]; decide), if_neg (by
    unfold aboveF
    rw [show (SF r x i o).t = ⟨3, [r, x]⟩ from rfl, hup]
    simp only
    rw [getL_1 hr.path]
    simp only
    rw [may_root hr, hx.path]
    decide), hu]
  simp only [ne_eq, not_true_eq_false, if_false]
  unfold reapF
  rw [if_pos (by show 0 < (Kf i o 2).1; rw [Kf_at]; exact hi)]
  rfl
theorem sf_remove2 {r x : Nod} {i o : Nat} {d : ByteArray} (hr : RootOk r) (hx : FilOk x d true) : removeF U0 (SF r x i o) ⟨#[117, 49]⟩ 2 = (SF r x i o, 6) := by
  unfold removeF
  rw [show (SF r x i o).t = ⟨3, [r, x]⟩ from rfl]
  simp only
  rw [getL_2 hr.path hx.path]
  simp only
  rw [if_pos hx.gone]
theorem sf_read {r x : Nod} {i o k : Nat} {d : ByteArray} {g : Bool} (hr : RootOk r) (hx : FilOk x d g) (hk : d.size ≤ k) : ∃ x', FilOk x' d g ∧ readF (SF r x i o) 2 0 k = (SF r x' i o, d, 0) := by
  refine ⟨{ x with atm := 0 }, ⟨hx.path, hx.gone, hx.mode, hx.data, hx.up⟩, ?_⟩
  have ht : takeT ⟨3, [r, x]⟩ 2 0 k 0 = (⟨3, [r, { x with atm := 0 }]⟩, d, 0) := by
    unfold takeT
    simp only
    rw [getL_2 hr.path hx.path]
    simp only
    rw [if_neg (by rw [hx.notdir]; decide), setL_2 hr.path hx.path (by exact hx.path), hx.data, List.drop_zero, List.take_of_length_le (by rw [Array.length_toList]; exact hk)]
    rw [show strL d.data.toList = d from rfl]
  unfold readF
  rw [show (SF r x i o).t = ⟨3, [r, x]⟩ from rfl, show (SF r x i o).now = 0 from rfl, ht]
  rfl
theorem sf_list {r x : Nod} {i o : Nat} {d : ByteArray} (hr : RootOk r) (hx : FilOk x d true) : listE (SF r x i o) 1 = 0 ∧ kidsOf (SF r x i o).t.n 1 = [] := by
  rw [show (SF r x i o).t = ⟨3, [r, x]⟩ from rfl]
  refine ⟨?_, by simp [kidsOf, kidB, hr.path, hx.gone]⟩
  unfold listE
  rw [show (SF r x i o).t = ⟨3, [r, x]⟩ from rfl]
  simp only
  rw [getL_1 hr.path]
  simp only
  rw [if_neg (by rw [hr.gone]; decide), if_neg (by rw [hr.dir]; decide)]
theorem sf_let {r x : Nod} {i o : Nat} {d : ByteArray} {g : Bool} (hr : RootOk r) (hx : FilOk x d g) (hi : 0 < i) : letF (SF r x (i + 1) o) 2 = SF r x i o := by
  unfold letF reapF
  rw [show (SF r x (i + 1) o).t = ⟨3, [r, x]⟩ from rfl, show (SF r x (i + 1) o).now = 0 from rfl, show (SF r x (i + 1) o).by_ = Kf (i + 1) o from rfl, Kf_at, Kf_upd]
  simp only [Nat.add_sub_cancel]
  rw [Kf_at, if_pos hi]
  rfl
def SE (r : Nod) : FsV := ⟨⟨3, [r]⟩, 0, Kf 0 0⟩
theorem sf_last {r x : Nod} {o : Nat} {d : ByteArray} (hr : RootOk r) (hx : FilOk x d true) : letF (SF r x 1 o) 2 = SE r := by
  unfold letF reapF
  rw [show (SF r x 1 o).t = ⟨3, [r, x]⟩ from rfl, show (SF r x 1 o).now = 0 from rfl, show (SF r x 1 o).by_ = Kf 1 o from rfl, Kf_at, Kf_upd]
  simp only [Nat.sub_self]
  rw [Kf_at, if_neg (Nat.lt_irrefl 0)]
  have ht : reapT ⟨3, [r, x]⟩ 2 = (⟨3, [r]⟩, true) := by
    unfold reapT
    simp only
    rw [getL_2 hr.path hx.path]
    simp only
    rw [if_pos hx.gone]
    simp [dropL, hr.path, hx.path]
  rw [ht]
  simp only [if_true]
  rw [Kf_upd]
  rfl
theorem se_read {r : Nod} (hr : RootOk r) : readF (SE r) 2 0 1 = (SE r, ⟨#[]⟩, 6) := by
  have ht : takeT ⟨3, [r]⟩ 2 0 1 0 = (⟨3, [r]⟩, ⟨#[]⟩, 6) := by
    unfold takeT
    simp [getL, hr.path]
  unfold readF
  rw [show (SE r).t = ⟨3, [r]⟩ from rfl, show (SE r).now = 0 from rfl, ht]
  rfl
def gr0 : Nod := ⟨1, 1, 2147484157, 0, 0, ⟨#[47]⟩, ⟨#[117, 49]⟩, ⟨#[117, 49]⟩, ⟨#[117, 49]⟩, 1, false, ⟨#[]⟩⟩
def gx0 : Nod := ⟨2, 0, 436, 0, 0, ⟨#[102]⟩, ⟨#[117, 49]⟩, ⟨#[117, 49]⟩, ⟨#[117, 49]⟩, 1, false, ⟨#[]⟩⟩
theorem gr0_ok : RootOk gr0 := ⟨rfl, rfl, rfl, rfl, rfl, rfl⟩
theorem gx0_ok : FilOk gx0 ⟨#[]⟩ false := ⟨rfl, rfl, rfl, rfl, rfl⟩
theorem g0_is : createF U0 J0 ⟨#[117, 49]⟩ 1 ⟨#[102]⟩ 438 2 = (SF gr0 gx0 0 1, 2, 0) := by kernel_rfl
end
end Go.Proofs.YtkefjeabckainaaGreat

namespace Go.Proofs.YtkefjeabckainaaGreat
section
open Go.RowKit Go.Maps
set_option maxRecDepth 100000
set_option linter.unusedVariables false

theorem empty_cat (a : ByteArray) : (⟨#[]⟩ : ByteArray) ++ a = a := by
  apply ByteArray.ext
  rw [ByteArray.data_append]
  simp
set_option maxHeartbeats 6400000 in
theorem law_FilesGone (a b0 : ByteArray) (n : Nat) (w : World) (hn : n < 256) :
    Calls Tryz.prog 3 #[.string a, .string b0, .int .u8 (n : Int)] w (Holds w) := by
  have hk := hid (known18_any w)
  obtain ⟨r, hr⟩ : ∃ r, r = n % 10 := ⟨_, rfl⟩
  have hr10 : r < 10 := by omega
  obtain ⟨c, hcc⟩ : ∃ c, c = r + 1 := ⟨_, rfl⟩
  have hc10 : c ≤ 10 := by omega
  have hc0 : 0 < c := by omega
  have hrem : Int.tmod (n : Int) 10 = (r : Int) := by rw [hr]; exact rfl
  have hcv : IntKind.i64.wrap (r : Int) = (r : Int) := IntWalk.i64_in _ (by omega)
  have hcv8 : IntKind.u8.wrap (r : Int) = (r : Int) := by unfold IntKind.wrap; simp [IntKind.bits, IntKind.signed]; omega
  have hadd : IntKind.i64.wrap (1 + (r : Int)) = (c : Int) := by rw [show (1 + (r : Int)) = (c : Int) by omega]; exact IntWalk.i64_in _ (by omega)
  replace hr := hid hr
  replace hcc := hid hcc
  go_enter Tryz.func3, Tryz.ntmps3
  go_wp2_with fail
  refine hk.out.mono ?_
  rintro e w0 ⟨rfl, hb0⟩
  clear hk
  by_cases ha : 300 < a.size
  · go_wp2_with fail
    go_ret
    exact ⟨rfl, hb0⟩
  by_cases hb : 300 < b0.size
  · go_wp2_with fail
    go_ret
    exact ⟨rfl, hb0⟩
  have hc1 := hid (new_any ⟨#[117, 49]⟩ 0 w0)
  go_wp2_with fail
  refine hc1.out.mono ?_
  rintro e w1 ⟨v1, rfl, hv1, hb1⟩
  obtain ⟨a1, c1, rfl, _, _⟩ := hv1.form
  have hbo : Calls Tryz.prog 8 #[.agg #[.int .u64 2, .slice a1 1 c1]] w1 (BothP T0 w1) := both_any _ T0 w1 hv1 T0_good.w
  replace hbo := hid hbo
  have hB1 := hid (sn hb0 hb1)
  clear hc1 hv1 hb1 hb0
  go_wp2_with fail
  refine hbo.out.mono ?_
  rintro e w2 ⟨b, m, p, g, v, vr, vu, vg, gs, gs2, rfl, hbt⟩
  have hA0 := hid (hbt.fat T0_good)
  clear hbo hbt
  go_wp2_with fail
  have hc := hid (hA0.out.create g0_is (sz1 _) (by omega) (by omega) vW1 (sz2 _ _) (by show J0.t.next + 1 < 9223372036854775808; rw [J0_next]; omega) (by omega))
  refine hc.out.mono ?_
  rintro e w3 ⟨rfl, hA⟩
  have hA1 := hid hA
  clear hc hA hA0
  go_wp2_with fail
  go_loopw [13] (fun kv wr => ∃ k : Nat, k ≤ c ∧ kv = .int .i64 (k : Int) ∧ Hid (FAt w1 wr b m p (SF gr0 gx0 k 1) gs (1 + k))) (fun kv _ => c - (intOf kv).toNat)
  case atStart => exact ⟨0, by omega, rfl, hA1⟩
  case round =>
    obtain ⟨k, hkr, rfl, hA⟩ := hrel
    clear hA1
    by_cases hkl : k < c
    · have hc := hid (hA.out.hold (sf_hold gr0_ok gx0_ok) (by omega) (by omega))
      go_wp2_with fail
      refine hc.out.mono ?_
      rintro e x1 ⟨rfl, hA1⟩
      have hA3 := hid hA1
      clear hc hA1 hA
      go_wp2_with fail
      go_roundw
      case rel => exact ⟨k + 1, by omega, by go_num, hid (hA3.out.mono (by omega))⟩
      case measure => simp [intOf]; omega
    · obtain rfl : k = c := by omega
      obtain ⟨x1, hx1, hw1⟩ := sf_write (i := k) (o := 1) gr0_ok gx0_ok (d := ⟨#[]⟩) (a := a) (by show 0 + a.size ≤ 4096; omega)
      rw [empty_cat] at hx1
      have hc := hid (hA.out.write (off := 0) hw1 (by omega) (by omega) vW1 (sz2 _ _))
      replace hx1 := hid hx1
      clear hw1 hA
      go_wp2_with fail
      refine hc.out.mono ?_
      rintro e y1 ⟨rfl, hA⟩
      obtain ⟨r2, x2, hr2, hx2, hm2⟩ := sf_remove (i := k) (o := 1) gr0_ok hx1.out hc0
      have hA2 := hid hA
      clear hc hA hx1
      have hc := hid (hA2.out.remove hm2 (by omega) vW1 (sz2 _ _))
      replace hr2 := hid hr2
      replace hx2 := hid hx2
      clear hm2
      go_wp2_with fail
      refine hc.out.mono ?_
      rintro e y2 ⟨rfl, hA⟩
      have hA3 := hid hA
      clear hc hA hA2
      have hc := hid (hA3.out.remove (sf_remove2 hr2.out hx2.out) (by omega) vW1 (sz2 _ _))
      go_wp2_with fail
      refine hc.out.mono ?_
      rintro e y3 ⟨rfl, hA⟩
      have hA4 := hid hA
      clear hc hA hA3
      obtain ⟨x3, hx3, hw3⟩ := sf_write (i := k) (o := 1) hr2.out hx2.out (a := b0) (by omega)
      have hc := hid (hA4.out.write hw3 (by omega) (by omega) vW1 (sz2 _ _))
      have hcv64 : IntKind.u64.wrap (a.size : Int) = (a.size : Int) := by unfold IntKind.wrap; simp [IntKind.bits, IntKind.signed]; omega
      replace hx3 := hid hx3
      clear hw3 hx2
      go_wp2_with fail
      refine hc.out.mono ?_
      rintro e y4 ⟨rfl, hA⟩
      have hA5 := hid hA
      clear hc hA hA4
      have hsz : (a ++ b0).size = a.size + b0.size := ByteArray.size_append
      have hs64 : ¬ 9223372036854775807 < a.size + b0.size := by omega
      obtain ⟨D, hD⟩ : ∃ D, D = a ++ b0 := ⟨_, rfl⟩
      have hDz : D.size ≤ 1000 := by rw [hD, hsz]; omega
      rw [← hD] at hx3
      have hDp : D.toList = (a ++ b0).toList := by rw [hD]
      replace hD := hid hD
      clear hsz
      go_wp2_with fail
      go_loopw [14] (fun kv wr => ∃ j : Nat, j ≤ k ∧ kv = .int .i64 (j : Int) ∧ Hid ((j < k ∧ ∃ x, FilOk x D true ∧ FAt w1 wr b m p (SF r2 x (k - j) 1) gs (1 + k + j)) ∨ (j = k ∧ FAt w1 wr b m p (SE r2) gs (1 + k + j)))) (fun kv _ => k - (intOf kv).toNat)
      case atStart => exact ⟨0, by omega, rfl, hid (.inl ⟨hc0, x3, hx3.out, hA5.out⟩)⟩
      case round =>
        obtain ⟨j, hjk, rfl, hA⟩ := hrel
        clear hA5 hx3
        by_cases hjl : j < k
        · rcases hA.out with ⟨_, x, hx, hF⟩ | ⟨h0, _⟩
          case inr => omega
          obtain ⟨x4, hx4, hrd⟩ := sf_read (i := k - j) (o := 1) hr2.out hx hDz
          have hc := hid (hF.read hrd (by omega) (by omega))
          replace hx4 := hid hx4
          clear hrd hx hF hA
          go_wp2_with fail
          refine hc.out.mono ?_
          rintro e z1 ⟨rfl, hA⟩
          have hA6 := hid hA
          clear hc hA
          have hls := hid (sf_list (i := k - j) (o := 1) hr2.out hx4.out)
          have hc := hA6.out.list (q := 1)
          replace hc := hid hc
          go_wp2_with fail
          refine hc.out.mono ?_
          rintro e z2 ⟨vl, ks, rfl, hA, h3⟩
          rw [hls.out.1] at *
          rcases h3 with ⟨_, hst, hsr, hpm⟩ | ⟨h0, _⟩
          case inr => exact absurd rfl h0
          rw [hls.out.2] at hpm
          obtain rfl : ks = [] := hpm.eq_nil
          obtain ⟨_, al, cl, rfl, _, _⟩ := hst
          have hA7 := hid hA
          clear hc hA hA6 hls hsr hpm
          have hE : ∃ f', (letF (SF r2 x4 (k - j) 1) 2 = f') ∧ ((j + 1 < k ∧ f' = SF r2 x4 (k - (j + 1)) 1) ∨ (j + 1 = k ∧ f' = SE r2)) := by
            by_cases hlast : j + 1 = k
            · refine ⟨SE r2, ?_, .inr ⟨hlast, rfl⟩⟩
              rw [show k - j = 1 by omega]
              exact sf_last hr2.out hx4.out
            · refine ⟨SF r2 x4 (k - (j + 1)) 1, ?_, .inl ⟨by omega, rfl⟩⟩
              rw [show k - j = (k - (j + 1)) + 1 by omega]
              exact sf_let hr2.out hx4.out (by omega)
          obtain ⟨f', hlet, hf'⟩ := hE
          have hc := hid (hA7.out.let_ hlet (by omega) (by omega))
          replace hf' := hid hf'
          replace hlet := hid hlet
          go_wp2_with fail
          refine hc.out.mono ?_
          rintro e z3 ⟨rfl, hA⟩
          have hA8 := hid hA
          clear hc hA hA7
          go_wp2_with fail
          go_roundw
          case rel =>
            refine ⟨j + 1, by omega, by go_num, hid ?_⟩
            rcases hf'.out with ⟨h1, h2⟩ | ⟨h1, h2⟩
            · exact .inl ⟨h1, x4, hx4.out, by rw [← h2]; exact hA8.out⟩
            · exact .inr ⟨h1, by rw [← h2]; exact hA8.out⟩
          case measure => simp [intOf]; omega
        · obtain rfl : j = k := by omega
          rcases hA.out with ⟨h0, _⟩ | ⟨_, hF⟩
          case inl => omega
          have hc := hid (hF.read (se_read hr2.out) (by omega) (by omega))
          clear hF hA
          go_wp2_with fail
          refine hc.out.mono ?_
          rintro e z1 ⟨rfl, hA⟩
          have ht := hid hA.tree
          clear hc hA
          go_wp2_with fail
          refine ht.out.mono ?_
          rintro e z2 ⟨vt, rfl, hvt, _, hAt, _⟩
          obtain ⟨at_, ct, rfl, _, _⟩ := hvt.form
          rw [show (SE r2).t.n.length = 1 from rfl]
          have hft := ftree_1
          have hAt := hid hAt
          clear ht hvt
          go_wp2_with fail
          go_ret
          exact ⟨rfl, sn hB1.out hAt.out.below⟩
theorem law_FilesGoneI (a b0 : ByteArray) (i : Int) (w : World) (ha : a.size ≤ maxLen) (hb : b0.size ≤ maxLen) (hi : 0 ≤ i ∧ i ≤ 255) : Calls Tryz.prog 3 #[.string a, .string b0, .int .u8 i] w (Holds w) := by
  obtain ⟨n, rfl⟩ := Int.eq_ofNat_of_zero_le hi.1
  exact law_FilesGone a b0 n w (by omega)
end
end Go.Proofs.YtkefjeabckainaaGreat
