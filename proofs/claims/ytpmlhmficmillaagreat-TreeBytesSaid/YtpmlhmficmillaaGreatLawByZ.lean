/- Law TreeBytes. Conditions: the bytes as they come in. -/
import Derived.Test.YtpmlhmficmillaaGreatBunKn
import Derived.Test.YtpmlhmficmillaaGreatBunRD
import Derived.Test.YtpmlhmficmillaaGreatBunRN5
namespace Go.Proofs.YtpmlhmficmillaaGreat
open Go.RowKit
set_option maxRecDepth 100000
set_option linter.unusedVariables false

set_option maxHeartbeats 3200000 in
theorem law_TreeBytes (v : Value) (l : List UInt8) (w : World) (hv : BytesAt w v l) : Calls Tryz.prog 5 #[v] w fun e w' => e = .returned (.bool true) ∧ Below w.heap.size w w' := by
  obtain ⟨a, c, rfl, g1, g2, _⟩ := hv.form
  unfold maxLen at g2
  have hc := hid (known14_any w)
  replace hv := hid hv
  go_enter Tryz.func5, Tryz.ntmps5
  go_wp2_with fail
  refine hc.out.mono ?_
  rintro e w1 ⟨rfl, hb1⟩
  have hB := hid hb1
  have hv1 := hid (hv.out.below hb1)
  clear hc hb1 hv
  by_cases h5 : (5000 : Int) < (l.length : Int)
  · go_wp2_with fail
    go_ret
    exact ⟨rfl, hB.out⟩
  have hl5 : l.length ≤ 5000 := by omega
  have hc := hid (ndecode_any (.slice a l.length c) l w1 hv1.out (by omega))
  go_wp2_with fail
  refine hc.out.mono ?_
  rintro e w2 ⟨t, v', E, rfl, hv', hb2, hpost⟩
  obtain ⟨na, nc, rfl, n1, n2⟩ := hv'.form
  obtain ⟨k3, hk3⟩ : ∃ k, k = w2.heap.size := ⟨_, rfl⟩
  obtain ⟨V, hV⟩ : ∃ V, V = w2.alloc (.cells #[.int .u64 (t.next : Int), .slice na t.n.length nc] 25) := ⟨_, rfl⟩
  have hbV : Below w2.heap.size w2 V := by rw [hV]; exact (Below.refl _ _).alloc (Nat.le_refl _) _
  have tree := hid (show V.heap[k3]? = some (.cells #[.int .u64 (t.next : Int), .slice na t.n.length nc] 25 (0, 0)) by rw [hk3, hV]; exact heap_alloc_new _ _)
  have row := hid (hv'.below hbV)
  replace hB := hid (sn hB.out (sn hb2 hbV))
  clear hc hb2 hbV hv'
  rcases hpost with ⟨ht, rfl⟩ | ⟨_, hE⟩
  · obtain ⟨p1, p2, p3, p4⟩ := treeP_some ht.is (by omega)
    have hok := hid ht.ok
    have hof := hid (of14_any (.slice na t.n.length nc) t.next t.n V row.out (by omega))
    replace p1 := hid p1
    replace p2 := hid p2
    have q0 := block_cell tree.out 0
    have q1 := block_cell tree.out 1
    go_upto_region 6 with (rw [← hV]; replace hV := hid hV)
    try (rw [← hV]; replace hV := hid hV)
    rw [← hk3]
    replace hk3 := hid hk3
    go_wp2_with fail
    refine hof.out.mono ?_
    rintro e w3 ⟨v3, rfl, hv3, _, hb3⟩
    have hck := hid (rcheck_any v3 t.next t.n w3 hv3 (by omega) p1.out (fun n hn => by have := p2.out n hn; omega))
    replace hB := hid (sn hB.out hb3)
    clear hof hb3 hv3 q0 q1
    go_wp2_with fail
    refine hck.out.mono ?_
    rintro e w4 ⟨E, rfl, hE, hb4⟩
    have hE0 : E = 0 := hE.2 (chk_ok.2 hok.out)
    subst hE0
    replace hB := hid (sn hB.out hb4)
    clear hck hb4 hE
    go_wp2_with fail
    go_ret
    exact ⟨rfl, hB.out⟩
  · have hEn : (E != 0) = true := by simpa using hE
    replace hE := hid hE
    go_upto_region 6 with (rw [← hV]; replace hV := hid hV)
    try (rw [← hV]; replace hV := hid hV)
    rw [← hk3]
    replace hk3 := hid hk3
    go_wp2_with fail
    go_ret
    exact ⟨rfl, hB.out⟩
end Go.Proofs.YtpmlhmficmillaaGreat
