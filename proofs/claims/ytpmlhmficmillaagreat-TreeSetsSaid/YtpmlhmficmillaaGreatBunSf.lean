/- Law TreeSets: the reference's Set into a box of its own, and the long comparison. Conditions: in the statements.
Law TreeSets. Conditions: the tree and the node as they come in.
A law of layer 14 as its frame needs it. Conditions: the arguments as they come in. -/
import Derived.Test.YtpmlhmficmillaaGreatBunBk
import Derived.Test.YtpmlhmficmillaaGreatBunSe
import Derived.Test.YtpmlhmficmillaaGreatBunRN5
import Derived.Test.YtpmlhmficmillaaGreatBunNod
import Derived.Test.YtpmlhmficmillaaGreatBunRN
import Derived.Test.YtpmlhmficmillaaGreatBunNF
import Derived.Test.YtpmlhmficmillaaGreatBunLA
import Derived.Test.YtpmlhmficmillaaGreatBunTI
namespace Go.Proofs.YtpmlhmficmillaaGreat
section
open Go.RowKit
set_option maxRecDepth 100000
set_option linter.unusedVariables false

theorem rld_rtree {g : Nat} {u v : Value} {w : World} (h : w.heap[g]? = some (.cells #[u, v] 33 (0, 0))) : (loadVar 33 ⟨g, 0, none⟩).run Tryz.prog w = .ok (.agg #[u, v]) w := run_loadVar_row w g 33 33 #[u, v] (0, 0) _ h Tryz.underlying33 rfl (by kernel_rfl)
theorem rld_nodeS {g : Nat} {n : Nod} {w : World} (h : w.heap[g]? = some (.cells n.cells 28 (0, 0))) : (loadVar 28 ⟨g, 0, none⟩).run Tryz.prog w = .ok (.agg n.cells) w := run_loadVar_row w g 28 28 n.cells (0, 0) _ h Tryz.underlying28 rfl (by kernel_rfl)
theorem nods_block {w : World} {v : Value} {l : List Nod} (h : NodsAt w v l) (hne : l ≠ []) {k : Nat} (hk : v.ownBlock = some k) : k < w.heap.size := by
  obtain ⟨a, c, rfl, _, _⟩ := h.form
  have hl : 0 < l.length := List.length_pos_iff.2 hne
  obtain ⟨b, o, rfl, hr⟩ := h.range 0 hl
  have hlt := World.block_lt_of_cell? _ _ (hr 0 _ (by rw [nod_cells]; rfl))
  have : b = k := by simpa [Value.ownBlock] using hk
  simp at hlt
  omega
theorem setR_ne (l : List Nod) (n : Nod) (hs : SortL l) : setR l n ≠ [] := by rw [setR_eq hs]; unfold setL; simp
theorem beq_same (b : Bool) (w : World) : (binOp .eql 4 (.bool b) (.bool b)).run Tryz.prog w = .ok (.bool true) w := by cases b <;> simp [go_sem]

noncomputable def ops_se8 : Array Oper := match Tryz.f3.body with | some c => (allOps' c).getD 8 #[] | none => #[]
theorem size_se8 : ops_se8.size = 6 := by kernel_rfl
set_option maxHeartbeats 4000000 in
theorem se8_2a {w1 : World} {k3 k5 x z : Nat} {v5 v8 : Value} {l : List Nod} {n : Nod} {v_0 v_1 v_2 v_4 v_6 v_7 v_9 v_10 v_11 v_12 v_13 v_14 v_15 v_16 v_17 v_18 v_19 v_20 v_21 v_22 v_23 v_24 v_25 v_26 v_27 v_28 v_29 v_30 v_31 v_32 v_33 v_34 v_35 v_36 v_37 v_38 v_39 v_40 v_41 v_42 v_43 v_44 v_45 v_46 v_47 v_48 v_49 v_50 v_51 v_52 v_53 v_58 v_59 v_60 v_61 v_62 v_63 v_64 v_65 v_66 v_67 v_68 v_69 v_70 v_71 v_72 v_73 v_74 v_75 v_76 v_77 v_78 v_79 v_80 v_81 v_82 v_83 v_84 v_85 v_86 v_87 v_88 v_89 v_90 v_91 v_92 v_93 v_94 v_95 v_96 v_97 v_98 v_99 v_100 : Value} {Q : Exit → Act → World → Prop} {a : Act} {w : World} (hl : l.length ≤ 900) (hs : SortL l) (h3 : w1.heap[k3]? = some (.cells n.cells 28 (0, 0))) (h5 : w1.heap[k5]? = some (.cells #[.int .u64 (x : Int), v5] 33 (0, 0))) (r5 : NodsAt w1 v5 l)
    (hQ : ∀ d u c a w, Q (.panic c) (a.put d u) w → Q (.panic c) a w) (hF : FrL 101 [(8, ptr z 0), (57, .agg #[.int .u64 (x : Int), v8]), (3, ptr k3 0), (5, ptr k5 0), (0, v_0), (1, v_1), (2, v_2), (4, v_4), (6, v_6), (7, v_7), (9, v_9), (10, v_10), (11, v_11), (12, v_12), (13, v_13), (14, v_14), (15, v_15), (16, v_16), (17, v_17), (18, v_18), (19, v_19), (20, v_20), (21, v_21), (22, v_22), (23, v_23), (24, v_24), (25, v_25), (26, v_26), (27, v_27), (28, v_28), (29, v_29), (30, v_30), (31, v_31), (32, v_32), (33, v_33), (34, v_34), (35, v_35), (36, v_36), (37, v_37), (38, v_38), (39, v_39), (40, v_40), (41, v_41), (42, v_42), (43, v_43), (44, v_44), (45, v_45), (46, v_46), (47, v_47), (48, v_48), (49, v_49), (50, v_50), (51, v_51), (52, v_52), (53, v_53), (58, v_58), (59, v_59), (60, v_60), (61, v_61), (62, v_62), (63, v_63), (64, v_64), (65, v_65), (66, v_66), (67, v_67), (68, v_68), (69, v_69), (70, v_70), (71, v_71), (72, v_72), (73, v_73), (74, v_74), (75, v_75), (76, v_76), (77, v_77), (78, v_78), (79, v_79), (80, v_80), (81, v_81), (82, v_82), (83, v_83), (84, v_84), (85, v_85), (86, v_86), (87, v_87), (88, v_88), (89, v_89), (90, v_90), (91, v_91), (92, v_92), (93, v_93), (94, v_94), (95, v_95), (96, v_96), (97, v_97), (98, v_98), (99, v_99), (100, v_100)] a) (hS : Below w1.heap.size w1 w) (hz : w1.heap.size ≤ z) (hZ : w.heap[z]? = some (.cells #[.int .u64 0, .slice none 0 0] 33 (0, 0))) (r8 : NodsAt w v8 (setR l n)) (hvz : v8.ownBlock ≠ some z)
    (hE : ∀ z v8 a w', FrL 101 [(8, ptr z 0), (3, ptr k3 0), (5, ptr k5 0), (0, v_0), (1, v_1), (2, v_2), (4, v_4), (6, v_6), (7, v_7), (9, v_9), (10, v_10), (11, v_11), (12, v_12), (13, v_13), (14, v_14), (15, v_15), (16, v_16), (17, v_17), (18, v_18), (19, v_19), (20, v_20), (21, v_21), (22, v_22), (23, v_23), (24, v_24), (25, v_25), (26, v_26), (27, v_27), (28, v_28), (29, v_29), (30, v_30), (31, v_31), (32, v_32), (33, v_33), (34, v_34), (35, v_35), (36, v_36), (37, v_37), (38, v_38), (39, v_39), (40, v_40), (41, v_41), (42, v_42), (43, v_43), (44, v_44), (45, v_45), (46, v_46), (47, v_47), (48, v_48), (49, v_49), (50, v_50), (51, v_51), (52, v_52), (53, v_53), (58, v_58), (59, v_59), (60, v_60), (61, v_61), (62, v_62), (63, v_63), (64, v_64), (65, v_65), (66, v_66), (67, v_67), (68, v_68), (69, v_69), (70, v_70), (71, v_71), (72, v_72), (73, v_73), (74, v_74), (75, v_75), (76, v_76), (77, v_77), (78, v_78), (79, v_79), (80, v_80), (81, v_81), (82, v_82), (83, v_83), (84, v_84), (85, v_85), (86, v_86), (87, v_87), (88, v_88), (89, v_89), (90, v_90), (91, v_91), (92, v_92), (93, v_93), (94, v_94), (95, v_95), (96, v_96), (97, v_97), (98, v_98), (99, v_99), (100, v_100)] a → Below w1.heap.size w1 w' → w'.heap[z]? = some (.cells #[.int .u64 (x : Int), v8] 33 (0, 0)) → NodsAt w' v8 (setR l n) → Q .normal a w') :
    wpAnyH Tryz.prog .any ops_se8 Q (Below w1.heap.size w1) 1 #[true, true, true, true, true, false] a w := by
  refine wpAnyH_all (rs := [5]) (by kernel_rfl) (by simp) fun j hj => ?_
  obtain rfl : j = 5 := by simpa using hj
  refine hdo0 (o := ops_se8[5]'(show 5 < ops_se8.size by rw [size_se8]; decide)) (w.setRow z #[.int .u64 (x : Int), v8]) (Array.getElem?_eq_getElem (show 5 < ops_se8.size by rw [size_se8]; decide)) (by kernel_rfl) (want_n (by kernel_rfl)) (rrun_store (t := 33) (x := .tmp 8) (y := .tmp 57) (by kernel_rfl) (hF.ev 8 _ rfl) (hF.ev 57 _ rfl) hZ (by kernel_rfl) rfl (by obtain ⟨a9, c9, rfl, _, _⟩ := r8.form; kernel_rfl)) ?_
  have hS' := below_setRow hS hz #[.int .u64 (x : Int), v8]
  refine ⟨hS', ?_⟩
  exact wpAnyH_done (by kernel_rfl) (hE z v8 _ _ (hF.sub [(8, ptr z 0), (3, ptr k3 0), (5, ptr k5 0), (0, v_0), (1, v_1), (2, v_2), (4, v_4), (6, v_6), (7, v_7), (9, v_9), (10, v_10), (11, v_11), (12, v_12), (13, v_13), (14, v_14), (15, v_15), (16, v_16), (17, v_17), (18, v_18), (19, v_19), (20, v_20), (21, v_21), (22, v_22), (23, v_23), (24, v_24), (25, v_25), (26, v_26), (27, v_27), (28, v_28), (29, v_29), (30, v_30), (31, v_31), (32, v_32), (33, v_33), (34, v_34), (35, v_35), (36, v_36), (37, v_37), (38, v_38), (39, v_39), (40, v_40), (41, v_41), (42, v_42), (43, v_43), (44, v_44), (45, v_45), (46, v_46), (47, v_47), (48, v_48), (49, v_49), (50, v_50), (51, v_51), (52, v_52), (53, v_53), (58, v_58), (59, v_59), (60, v_60), (61, v_61), (62, v_62), (63, v_63), (64, v_64), (65, v_65), (66, v_66), (67, v_67), (68, v_68), (69, v_69), (70, v_70), (71, v_71), (72, v_72), (73, v_73), (74, v_74), (75, v_75), (76, v_76), (77, v_77), (78, v_78), (79, v_79), (80, v_80), (81, v_81), (82, v_82), (83, v_83), (84, v_84), (85, v_85), (86, v_86), (87, v_87), (88, v_88), (89, v_89), (90, v_90), (91, v_91), (92, v_92), (93, v_93), (94, v_94), (95, v_95), (96, v_96), (97, v_97), (98, v_98), (99, v_99), (100, v_100)] ⟨rfl, rfl, rfl, rfl, rfl, rfl, rfl, rfl, rfl, rfl, rfl, rfl, rfl, rfl, rfl, rfl, rfl, rfl, rfl, rfl, rfl, rfl, rfl, rfl, rfl, rfl, rfl, rfl, rfl, rfl, rfl, rfl, rfl, rfl, rfl, rfl, rfl, rfl, rfl, rfl, rfl, rfl, rfl, rfl, rfl, rfl, rfl, rfl, rfl, rfl, rfl, rfl, rfl, rfl, rfl, rfl, rfl, rfl, rfl, rfl, rfl, rfl, rfl, rfl, rfl, rfl, rfl, rfl, rfl, rfl, rfl, rfl, rfl, rfl, rfl, rfl, rfl, rfl, rfl, rfl, rfl, rfl, rfl, rfl, rfl, rfl, rfl, rfl, rfl, rfl, rfl, rfl, rfl, rfl, rfl, rfl, rfl, trivial⟩) hS' (setRow_heap _ _ _ _ _ _ hZ) (NodsAt.other r8 z hvz (by simp [World.setRow]) (fun k hk => setRow_other _ _ _ _ hk))) _

set_option maxHeartbeats 4000000 in
theorem se8_2n {w1 : World} {k3 k5 x : Nat} {v5 v8 : Value} {l : List Nod} {n : Nod} {v_0 v_1 v_2 v_4 v_6 v_7 v_9 v_10 v_11 v_12 v_13 v_14 v_15 v_16 v_17 v_18 v_19 v_20 v_21 v_22 v_23 v_24 v_25 v_26 v_27 v_28 v_29 v_30 v_31 v_32 v_33 v_34 v_35 v_36 v_37 v_38 v_39 v_40 v_41 v_42 v_43 v_44 v_45 v_46 v_47 v_48 v_49 v_50 v_51 v_52 v_53 v_58 v_59 v_60 v_61 v_62 v_63 v_64 v_65 v_66 v_67 v_68 v_69 v_70 v_71 v_72 v_73 v_74 v_75 v_76 v_77 v_78 v_79 v_80 v_81 v_82 v_83 v_84 v_85 v_86 v_87 v_88 v_89 v_90 v_91 v_92 v_93 v_94 v_95 v_96 v_97 v_98 v_99 v_100 : Value} {Q : Exit → Act → World → Prop} {a : Act} {w : World} (hl : l.length ≤ 900) (hs : SortL l) (h3 : w1.heap[k3]? = some (.cells n.cells 28 (0, 0))) (h5 : w1.heap[k5]? = some (.cells #[.int .u64 (x : Int), v5] 33 (0, 0))) (r5 : NodsAt w1 v5 l)
    (hQ : ∀ d u c a w, Q (.panic c) (a.put d u) w → Q (.panic c) a w) (hF : FrL 101 [(57, .agg #[.int .u64 (x : Int), v8]), (3, ptr k3 0), (5, ptr k5 0), (0, v_0), (1, v_1), (2, v_2), (4, v_4), (6, v_6), (7, v_7), (9, v_9), (10, v_10), (11, v_11), (12, v_12), (13, v_13), (14, v_14), (15, v_15), (16, v_16), (17, v_17), (18, v_18), (19, v_19), (20, v_20), (21, v_21), (22, v_22), (23, v_23), (24, v_24), (25, v_25), (26, v_26), (27, v_27), (28, v_28), (29, v_29), (30, v_30), (31, v_31), (32, v_32), (33, v_33), (34, v_34), (35, v_35), (36, v_36), (37, v_37), (38, v_38), (39, v_39), (40, v_40), (41, v_41), (42, v_42), (43, v_43), (44, v_44), (45, v_45), (46, v_46), (47, v_47), (48, v_48), (49, v_49), (50, v_50), (51, v_51), (52, v_52), (53, v_53), (58, v_58), (59, v_59), (60, v_60), (61, v_61), (62, v_62), (63, v_63), (64, v_64), (65, v_65), (66, v_66), (67, v_67), (68, v_68), (69, v_69), (70, v_70), (71, v_71), (72, v_72), (73, v_73), (74, v_74), (75, v_75), (76, v_76), (77, v_77), (78, v_78), (79, v_79), (80, v_80), (81, v_81), (82, v_82), (83, v_83), (84, v_84), (85, v_85), (86, v_86), (87, v_87), (88, v_88), (89, v_89), (90, v_90), (91, v_91), (92, v_92), (93, v_93), (94, v_94), (95, v_95), (96, v_96), (97, v_97), (98, v_98), (99, v_99), (100, v_100)] a) (hS : Below w1.heap.size w1 w) (r8 : NodsAt w v8 (setR l n))
    (hE : ∀ z v8 a w', FrL 101 [(8, ptr z 0), (3, ptr k3 0), (5, ptr k5 0), (0, v_0), (1, v_1), (2, v_2), (4, v_4), (6, v_6), (7, v_7), (9, v_9), (10, v_10), (11, v_11), (12, v_12), (13, v_13), (14, v_14), (15, v_15), (16, v_16), (17, v_17), (18, v_18), (19, v_19), (20, v_20), (21, v_21), (22, v_22), (23, v_23), (24, v_24), (25, v_25), (26, v_26), (27, v_27), (28, v_28), (29, v_29), (30, v_30), (31, v_31), (32, v_32), (33, v_33), (34, v_34), (35, v_35), (36, v_36), (37, v_37), (38, v_38), (39, v_39), (40, v_40), (41, v_41), (42, v_42), (43, v_43), (44, v_44), (45, v_45), (46, v_46), (47, v_47), (48, v_48), (49, v_49), (50, v_50), (51, v_51), (52, v_52), (53, v_53), (58, v_58), (59, v_59), (60, v_60), (61, v_61), (62, v_62), (63, v_63), (64, v_64), (65, v_65), (66, v_66), (67, v_67), (68, v_68), (69, v_69), (70, v_70), (71, v_71), (72, v_72), (73, v_73), (74, v_74), (75, v_75), (76, v_76), (77, v_77), (78, v_78), (79, v_79), (80, v_80), (81, v_81), (82, v_82), (83, v_83), (84, v_84), (85, v_85), (86, v_86), (87, v_87), (88, v_88), (89, v_89), (90, v_90), (91, v_91), (92, v_92), (93, v_93), (94, v_94), (95, v_95), (96, v_96), (97, v_97), (98, v_98), (99, v_99), (100, v_100)] a → Below w1.heap.size w1 w' → w'.heap[z]? = some (.cells #[.int .u64 (x : Int), v8] 33 (0, 0)) → NodsAt w' v8 (setR l n) → Q .normal a w') :
    wpAnyH Tryz.prog .any ops_se8 Q (Below w1.heap.size w1) 2 #[true, true, true, true, false, false] a w := by
  refine wpAnyH_all (rs := [4]) (by kernel_rfl) (by simp) fun j hj => ?_
  obtain rfl : j = 4 := by simpa using hj
  refine hdo (i := 4) (o := ops_se8[4]'(show 4 < ops_se8.size by rw [size_se8]; decide)) hF 8 (ptr w.heap.size 0) (w.alloc (.cells #[.int .u64 0, .slice none 0 0] 33)) (Array.getElem?_eq_getElem (show 4 < ops_se8.size by rw [size_se8]; decide)) (by kernel_rfl) (by decide) (want_n (by kernel_rfl)) (rrun_alloc (t := 33) (z := .agg #[.int .u64 0, .slice none 0 0]) (by kernel_rfl) (by kernel_rfl)) (fun a hF => ?_)
  have hz := hS.size
  have hS2 := hS.alloc hS.size (.cells #[.int .u64 0, .slice none 0 0] 33)
  have hZ := heap_alloc_new w (.cells #[.int .u64 0, .slice none 0 0] 33)
  have hbA := (Below.refl w.heap.size w).alloc (Nat.le_refl _) (.cells #[.int .u64 0, .slice none 0 0] 33)
  refine ⟨hS2, ?_⟩
  rw [show (#[true, true, true, true, false, false]).setIfInBounds 4 true = #[true, true, true, true, true, false] from by kernel_rfl]
  exact se8_2a hl hs h3 h5 r5 hQ (hF.sub [(8, ptr w.heap.size 0), (57, .agg #[.int .u64 (x : Int), v8]), (3, ptr k3 0), (5, ptr k5 0), (0, v_0), (1, v_1), (2, v_2), (4, v_4), (6, v_6), (7, v_7), (9, v_9), (10, v_10), (11, v_11), (12, v_12), (13, v_13), (14, v_14), (15, v_15), (16, v_16), (17, v_17), (18, v_18), (19, v_19), (20, v_20), (21, v_21), (22, v_22), (23, v_23), (24, v_24), (25, v_25), (26, v_26), (27, v_27), (28, v_28), (29, v_29), (30, v_30), (31, v_31), (32, v_32), (33, v_33), (34, v_34), (35, v_35), (36, v_36), (37, v_37), (38, v_38), (39, v_39), (40, v_40), (41, v_41), (42, v_42), (43, v_43), (44, v_44), (45, v_45), (46, v_46), (47, v_47), (48, v_48), (49, v_49), (50, v_50), (51, v_51), (52, v_52), (53, v_53), (58, v_58), (59, v_59), (60, v_60), (61, v_61), (62, v_62), (63, v_63), (64, v_64), (65, v_65), (66, v_66), (67, v_67), (68, v_68), (69, v_69), (70, v_70), (71, v_71), (72, v_72), (73, v_73), (74, v_74), (75, v_75), (76, v_76), (77, v_77), (78, v_78), (79, v_79), (80, v_80), (81, v_81), (82, v_82), (83, v_83), (84, v_84), (85, v_85), (86, v_86), (87, v_87), (88, v_88), (89, v_89), (90, v_90), (91, v_91), (92, v_92), (93, v_93), (94, v_94), (95, v_95), (96, v_96), (97, v_97), (98, v_98), (99, v_99), (100, v_100)] ⟨rfl, rfl, rfl, rfl, rfl, rfl, rfl, rfl, rfl, rfl, rfl, rfl, rfl, rfl, rfl, rfl, rfl, rfl, rfl, rfl, rfl, rfl, rfl, rfl, rfl, rfl, rfl, rfl, rfl, rfl, rfl, rfl, rfl, rfl, rfl, rfl, rfl, rfl, rfl, rfl, rfl, rfl, rfl, rfl, rfl, rfl, rfl, rfl, rfl, rfl, rfl, rfl, rfl, rfl, rfl, rfl, rfl, rfl, rfl, rfl, rfl, rfl, rfl, rfl, rfl, rfl, rfl, rfl, rfl, rfl, rfl, rfl, rfl, rfl, rfl, rfl, rfl, rfl, rfl, rfl, rfl, rfl, rfl, rfl, rfl, rfl, rfl, rfl, rfl, rfl, rfl, rfl, rfl, rfl, rfl, rfl, rfl, rfl, trivial⟩) hS2 hz hZ (r8.below hbA) (fun e => by have := nods_block r8 (setR_ne l n hs) e; omega) hE

set_option maxHeartbeats 4000000 in
theorem se8_1a {w1 : World} {k3 k5 x z : Nat} {v5 : Value} {l : List Nod} {n : Nod} {v_0 v_1 v_2 v_4 v_6 v_7 v_9 v_10 v_11 v_12 v_13 v_14 v_15 v_16 v_17 v_18 v_19 v_20 v_21 v_22 v_23 v_24 v_25 v_26 v_27 v_28 v_29 v_30 v_31 v_32 v_33 v_34 v_35 v_36 v_37 v_38 v_39 v_40 v_41 v_42 v_43 v_44 v_45 v_46 v_47 v_48 v_49 v_50 v_51 v_52 v_53 v_58 v_59 v_60 v_61 v_62 v_63 v_64 v_65 v_66 v_67 v_68 v_69 v_70 v_71 v_72 v_73 v_74 v_75 v_76 v_77 v_78 v_79 v_80 v_81 v_82 v_83 v_84 v_85 v_86 v_87 v_88 v_89 v_90 v_91 v_92 v_93 v_94 v_95 v_96 v_97 v_98 v_99 v_100 : Value} {Q : Exit → Act → World → Prop} {a : Act} {w : World} (hl : l.length ≤ 900) (hs : SortL l) (h3 : w1.heap[k3]? = some (.cells n.cells 28 (0, 0))) (h5 : w1.heap[k5]? = some (.cells #[.int .u64 (x : Int), v5] 33 (0, 0))) (r5 : NodsAt w1 v5 l)
    (hQ : ∀ d u c a w, Q (.panic c) (a.put d u) w → Q (.panic c) a w) (hF : FrL 101 [(8, ptr z 0), (54, .agg #[.int .u64 (x : Int), v5]), (56, .agg n.cells), (3, ptr k3 0), (5, ptr k5 0), (0, v_0), (1, v_1), (2, v_2), (4, v_4), (6, v_6), (7, v_7), (9, v_9), (10, v_10), (11, v_11), (12, v_12), (13, v_13), (14, v_14), (15, v_15), (16, v_16), (17, v_17), (18, v_18), (19, v_19), (20, v_20), (21, v_21), (22, v_22), (23, v_23), (24, v_24), (25, v_25), (26, v_26), (27, v_27), (28, v_28), (29, v_29), (30, v_30), (31, v_31), (32, v_32), (33, v_33), (34, v_34), (35, v_35), (36, v_36), (37, v_37), (38, v_38), (39, v_39), (40, v_40), (41, v_41), (42, v_42), (43, v_43), (44, v_44), (45, v_45), (46, v_46), (47, v_47), (48, v_48), (49, v_49), (50, v_50), (51, v_51), (52, v_52), (53, v_53), (58, v_58), (59, v_59), (60, v_60), (61, v_61), (62, v_62), (63, v_63), (64, v_64), (65, v_65), (66, v_66), (67, v_67), (68, v_68), (69, v_69), (70, v_70), (71, v_71), (72, v_72), (73, v_73), (74, v_74), (75, v_75), (76, v_76), (77, v_77), (78, v_78), (79, v_79), (80, v_80), (81, v_81), (82, v_82), (83, v_83), (84, v_84), (85, v_85), (86, v_86), (87, v_87), (88, v_88), (89, v_89), (90, v_90), (91, v_91), (92, v_92), (93, v_93), (94, v_94), (95, v_95), (96, v_96), (97, v_97), (98, v_98), (99, v_99), (100, v_100)] a) (hS : Below w1.heap.size w1 w) (hz : w1.heap.size ≤ z) (hZ : w.heap[z]? = some (.cells #[.int .u64 0, .slice none 0 0] 33 (0, 0)))
    (hE : ∀ z v8 a w', FrL 101 [(8, ptr z 0), (3, ptr k3 0), (5, ptr k5 0), (0, v_0), (1, v_1), (2, v_2), (4, v_4), (6, v_6), (7, v_7), (9, v_9), (10, v_10), (11, v_11), (12, v_12), (13, v_13), (14, v_14), (15, v_15), (16, v_16), (17, v_17), (18, v_18), (19, v_19), (20, v_20), (21, v_21), (22, v_22), (23, v_23), (24, v_24), (25, v_25), (26, v_26), (27, v_27), (28, v_28), (29, v_29), (30, v_30), (31, v_31), (32, v_32), (33, v_33), (34, v_34), (35, v_35), (36, v_36), (37, v_37), (38, v_38), (39, v_39), (40, v_40), (41, v_41), (42, v_42), (43, v_43), (44, v_44), (45, v_45), (46, v_46), (47, v_47), (48, v_48), (49, v_49), (50, v_50), (51, v_51), (52, v_52), (53, v_53), (58, v_58), (59, v_59), (60, v_60), (61, v_61), (62, v_62), (63, v_63), (64, v_64), (65, v_65), (66, v_66), (67, v_67), (68, v_68), (69, v_69), (70, v_70), (71, v_71), (72, v_72), (73, v_73), (74, v_74), (75, v_75), (76, v_76), (77, v_77), (78, v_78), (79, v_79), (80, v_80), (81, v_81), (82, v_82), (83, v_83), (84, v_84), (85, v_85), (86, v_86), (87, v_87), (88, v_88), (89, v_89), (90, v_90), (91, v_91), (92, v_92), (93, v_93), (94, v_94), (95, v_95), (96, v_96), (97, v_97), (98, v_98), (99, v_99), (100, v_100)] a → Below w1.heap.size w1 w' → w'.heap[z]? = some (.cells #[.int .u64 (x : Int), v8] 33 (0, 0)) → NodsAt w' v8 (setR l n) → Q .normal a w') :
    wpAnyH Tryz.prog .any ops_se8 Q (Below w1.heap.size w1) 2 #[true, true, true, false, true, false] a w := by
  refine wpAnyH_all (rs := [3]) (by kernel_rfl) (by simp) fun j hj => ?_
  obtain rfl : j = 3 := by simpa using hj
  refine hdoc (i := 3) (o := ops_se8[3]'(show 3 < ops_se8.size by rw [size_se8]; decide)) (R := fun v w' => ∃ v8, v = .agg #[.int .u64 (x : Int), v8] ∧ NodsAt w' v8 (setR l n) ∧ Below w1.heap.size w1 w' ∧ w'.heap[z]? = some (.cells #[.int .u64 0, .slice none 0 0] 33 (0, 0)) ∧ v8.ownBlock ≠ some z) hF 57 (Array.getElem?_eq_getElem (show 3 < ops_se8.size by rw [size_se8]; decide)) (by kernel_rfl) (by decide) (want_n (by kernel_rfl)) ⟨13, #[.agg #[.int .u64 (x : Int), v5], .agg n.cells], rrun_call2 (fn := 13) (x := .tmp 54) (y := .tmp 56) (t := 33) (u := 38) rfl (by kernel_rfl) (by kernel_rfl) (hF.ev 54 _ rfl) (hF.ev 56 _ rfl), (rset_any v5 x l n w (r5.below hS) (by omega)).mono (by rintro e w' ⟨v8, rfl, r8, ho, hb⟩; exact ⟨_, rfl, ⟨v8, rfl, r8, hS.trans (hb.mono hS.size), (hb.block _ (lt_of_block hZ)).trans hZ, fun e => by have := lt_of_block hZ; have := ho _ e; omega⟩⟩)⟩ ?_
  rintro _ a w' ⟨v8, rfl, r8, hS', hZ', hvz⟩ hF
  refine ⟨hS', ?_⟩
  rw [show (#[true, true, true, false, true, false]).setIfInBounds 3 true = #[true, true, true, true, true, false] from by kernel_rfl]
  exact se8_2a hl hs h3 h5 r5 hQ (hF.sub [(8, ptr z 0), (57, .agg #[.int .u64 (x : Int), v8]), (3, ptr k3 0), (5, ptr k5 0), (0, v_0), (1, v_1), (2, v_2), (4, v_4), (6, v_6), (7, v_7), (9, v_9), (10, v_10), (11, v_11), (12, v_12), (13, v_13), (14, v_14), (15, v_15), (16, v_16), (17, v_17), (18, v_18), (19, v_19), (20, v_20), (21, v_21), (22, v_22), (23, v_23), (24, v_24), (25, v_25), (26, v_26), (27, v_27), (28, v_28), (29, v_29), (30, v_30), (31, v_31), (32, v_32), (33, v_33), (34, v_34), (35, v_35), (36, v_36), (37, v_37), (38, v_38), (39, v_39), (40, v_40), (41, v_41), (42, v_42), (43, v_43), (44, v_44), (45, v_45), (46, v_46), (47, v_47), (48, v_48), (49, v_49), (50, v_50), (51, v_51), (52, v_52), (53, v_53), (58, v_58), (59, v_59), (60, v_60), (61, v_61), (62, v_62), (63, v_63), (64, v_64), (65, v_65), (66, v_66), (67, v_67), (68, v_68), (69, v_69), (70, v_70), (71, v_71), (72, v_72), (73, v_73), (74, v_74), (75, v_75), (76, v_76), (77, v_77), (78, v_78), (79, v_79), (80, v_80), (81, v_81), (82, v_82), (83, v_83), (84, v_84), (85, v_85), (86, v_86), (87, v_87), (88, v_88), (89, v_89), (90, v_90), (91, v_91), (92, v_92), (93, v_93), (94, v_94), (95, v_95), (96, v_96), (97, v_97), (98, v_98), (99, v_99), (100, v_100)] ⟨rfl, rfl, rfl, rfl, rfl, rfl, rfl, rfl, rfl, rfl, rfl, rfl, rfl, rfl, rfl, rfl, rfl, rfl, rfl, rfl, rfl, rfl, rfl, rfl, rfl, rfl, rfl, rfl, rfl, rfl, rfl, rfl, rfl, rfl, rfl, rfl, rfl, rfl, rfl, rfl, rfl, rfl, rfl, rfl, rfl, rfl, rfl, rfl, rfl, rfl, rfl, rfl, rfl, rfl, rfl, rfl, rfl, rfl, rfl, rfl, rfl, rfl, rfl, rfl, rfl, rfl, rfl, rfl, rfl, rfl, rfl, rfl, rfl, rfl, rfl, rfl, rfl, rfl, rfl, rfl, rfl, rfl, rfl, rfl, rfl, rfl, rfl, rfl, rfl, rfl, rfl, rfl, rfl, rfl, rfl, rfl, rfl, rfl, trivial⟩) hS' hz hZ' r8 hvz hE

set_option maxHeartbeats 4000000 in
theorem se8_1n {w1 : World} {k3 k5 x : Nat} {v5 : Value} {l : List Nod} {n : Nod} {v_0 v_1 v_2 v_4 v_6 v_7 v_9 v_10 v_11 v_12 v_13 v_14 v_15 v_16 v_17 v_18 v_19 v_20 v_21 v_22 v_23 v_24 v_25 v_26 v_27 v_28 v_29 v_30 v_31 v_32 v_33 v_34 v_35 v_36 v_37 v_38 v_39 v_40 v_41 v_42 v_43 v_44 v_45 v_46 v_47 v_48 v_49 v_50 v_51 v_52 v_53 v_58 v_59 v_60 v_61 v_62 v_63 v_64 v_65 v_66 v_67 v_68 v_69 v_70 v_71 v_72 v_73 v_74 v_75 v_76 v_77 v_78 v_79 v_80 v_81 v_82 v_83 v_84 v_85 v_86 v_87 v_88 v_89 v_90 v_91 v_92 v_93 v_94 v_95 v_96 v_97 v_98 v_99 v_100 : Value} {Q : Exit → Act → World → Prop} {a : Act} {w : World} (hl : l.length ≤ 900) (hs : SortL l) (h3 : w1.heap[k3]? = some (.cells n.cells 28 (0, 0))) (h5 : w1.heap[k5]? = some (.cells #[.int .u64 (x : Int), v5] 33 (0, 0))) (r5 : NodsAt w1 v5 l)
    (hQ : ∀ d u c a w, Q (.panic c) (a.put d u) w → Q (.panic c) a w) (hF : FrL 101 [(54, .agg #[.int .u64 (x : Int), v5]), (56, .agg n.cells), (3, ptr k3 0), (5, ptr k5 0), (0, v_0), (1, v_1), (2, v_2), (4, v_4), (6, v_6), (7, v_7), (9, v_9), (10, v_10), (11, v_11), (12, v_12), (13, v_13), (14, v_14), (15, v_15), (16, v_16), (17, v_17), (18, v_18), (19, v_19), (20, v_20), (21, v_21), (22, v_22), (23, v_23), (24, v_24), (25, v_25), (26, v_26), (27, v_27), (28, v_28), (29, v_29), (30, v_30), (31, v_31), (32, v_32), (33, v_33), (34, v_34), (35, v_35), (36, v_36), (37, v_37), (38, v_38), (39, v_39), (40, v_40), (41, v_41), (42, v_42), (43, v_43), (44, v_44), (45, v_45), (46, v_46), (47, v_47), (48, v_48), (49, v_49), (50, v_50), (51, v_51), (52, v_52), (53, v_53), (58, v_58), (59, v_59), (60, v_60), (61, v_61), (62, v_62), (63, v_63), (64, v_64), (65, v_65), (66, v_66), (67, v_67), (68, v_68), (69, v_69), (70, v_70), (71, v_71), (72, v_72), (73, v_73), (74, v_74), (75, v_75), (76, v_76), (77, v_77), (78, v_78), (79, v_79), (80, v_80), (81, v_81), (82, v_82), (83, v_83), (84, v_84), (85, v_85), (86, v_86), (87, v_87), (88, v_88), (89, v_89), (90, v_90), (91, v_91), (92, v_92), (93, v_93), (94, v_94), (95, v_95), (96, v_96), (97, v_97), (98, v_98), (99, v_99), (100, v_100)] a) (hS : Below w1.heap.size w1 w)
    (hE : ∀ z v8 a w', FrL 101 [(8, ptr z 0), (3, ptr k3 0), (5, ptr k5 0), (0, v_0), (1, v_1), (2, v_2), (4, v_4), (6, v_6), (7, v_7), (9, v_9), (10, v_10), (11, v_11), (12, v_12), (13, v_13), (14, v_14), (15, v_15), (16, v_16), (17, v_17), (18, v_18), (19, v_19), (20, v_20), (21, v_21), (22, v_22), (23, v_23), (24, v_24), (25, v_25), (26, v_26), (27, v_27), (28, v_28), (29, v_29), (30, v_30), (31, v_31), (32, v_32), (33, v_33), (34, v_34), (35, v_35), (36, v_36), (37, v_37), (38, v_38), (39, v_39), (40, v_40), (41, v_41), (42, v_42), (43, v_43), (44, v_44), (45, v_45), (46, v_46), (47, v_47), (48, v_48), (49, v_49), (50, v_50), (51, v_51), (52, v_52), (53, v_53), (58, v_58), (59, v_59), (60, v_60), (61, v_61), (62, v_62), (63, v_63), (64, v_64), (65, v_65), (66, v_66), (67, v_67), (68, v_68), (69, v_69), (70, v_70), (71, v_71), (72, v_72), (73, v_73), (74, v_74), (75, v_75), (76, v_76), (77, v_77), (78, v_78), (79, v_79), (80, v_80), (81, v_81), (82, v_82), (83, v_83), (84, v_84), (85, v_85), (86, v_86), (87, v_87), (88, v_88), (89, v_89), (90, v_90), (91, v_91), (92, v_92), (93, v_93), (94, v_94), (95, v_95), (96, v_96), (97, v_97), (98, v_98), (99, v_99), (100, v_100)] a → Below w1.heap.size w1 w' → w'.heap[z]? = some (.cells #[.int .u64 (x : Int), v8] 33 (0, 0)) → NodsAt w' v8 (setR l n) → Q .normal a w') :
    wpAnyH Tryz.prog .any ops_se8 Q (Below w1.heap.size w1) 3 #[true, true, true, false, false, false] a w := by
  refine wpAnyH_all (rs := [3, 4]) (by kernel_rfl) (by simp) fun j hj => ?_
  have hj2 : j = 3 ∨ j = 4 := by simpa using hj
  rcases hj2 with rfl | rfl
  · refine hdoc (i := 3) (o := ops_se8[3]'(show 3 < ops_se8.size by rw [size_se8]; decide)) (R := fun v w' => ∃ v8, v = .agg #[.int .u64 (x : Int), v8] ∧ NodsAt w' v8 (setR l n) ∧ Below w1.heap.size w1 w') hF 57 (Array.getElem?_eq_getElem (show 3 < ops_se8.size by rw [size_se8]; decide)) (by kernel_rfl) (by decide) (want_n (by kernel_rfl)) ⟨13, #[.agg #[.int .u64 (x : Int), v5], .agg n.cells], rrun_call2 (fn := 13) (x := .tmp 54) (y := .tmp 56) (t := 33) (u := 38) rfl (by kernel_rfl) (by kernel_rfl) (hF.ev 54 _ rfl) (hF.ev 56 _ rfl), (rset_any v5 x l n w (r5.below hS) (by omega)).mono (by rintro e w' ⟨v8, rfl, r8, ho, hb⟩; exact ⟨_, rfl, ⟨v8, rfl, r8, hS.trans (hb.mono hS.size)⟩⟩)⟩ ?_
    rintro _ a w' ⟨v8, rfl, r8, hS'⟩ hF
    refine ⟨hS', ?_⟩
    rw [show (#[true, true, true, false, false, false]).setIfInBounds 3 true = #[true, true, true, true, false, false] from by kernel_rfl]
    exact se8_2n hl hs h3 h5 r5 hQ (hF.sub [(57, .agg #[.int .u64 (x : Int), v8]), (3, ptr k3 0), (5, ptr k5 0), (0, v_0), (1, v_1), (2, v_2), (4, v_4), (6, v_6), (7, v_7), (9, v_9), (10, v_10), (11, v_11), (12, v_12), (13, v_13), (14, v_14), (15, v_15), (16, v_16), (17, v_17), (18, v_18), (19, v_19), (20, v_20), (21, v_21), (22, v_22), (23, v_23), (24, v_24), (25, v_25), (26, v_26), (27, v_27), (28, v_28), (29, v_29), (30, v_30), (31, v_31), (32, v_32), (33, v_33), (34, v_34), (35, v_35), (36, v_36), (37, v_37), (38, v_38), (39, v_39), (40, v_40), (41, v_41), (42, v_42), (43, v_43), (44, v_44), (45, v_45), (46, v_46), (47, v_47), (48, v_48), (49, v_49), (50, v_50), (51, v_51), (52, v_52), (53, v_53), (58, v_58), (59, v_59), (60, v_60), (61, v_61), (62, v_62), (63, v_63), (64, v_64), (65, v_65), (66, v_66), (67, v_67), (68, v_68), (69, v_69), (70, v_70), (71, v_71), (72, v_72), (73, v_73), (74, v_74), (75, v_75), (76, v_76), (77, v_77), (78, v_78), (79, v_79), (80, v_80), (81, v_81), (82, v_82), (83, v_83), (84, v_84), (85, v_85), (86, v_86), (87, v_87), (88, v_88), (89, v_89), (90, v_90), (91, v_91), (92, v_92), (93, v_93), (94, v_94), (95, v_95), (96, v_96), (97, v_97), (98, v_98), (99, v_99), (100, v_100)] ⟨rfl, rfl, rfl, rfl, rfl, rfl, rfl, rfl, rfl, rfl, rfl, rfl, rfl, rfl, rfl, rfl, rfl, rfl, rfl, rfl, rfl, rfl, rfl, rfl, rfl, rfl, rfl, rfl, rfl, rfl, rfl, rfl, rfl, rfl, rfl, rfl, rfl, rfl, rfl, rfl, rfl, rfl, rfl, rfl, rfl, rfl, rfl, rfl, rfl, rfl, rfl, rfl, rfl, rfl, rfl, rfl, rfl, rfl, rfl, rfl, rfl, rfl, rfl, rfl, rfl, rfl, rfl, rfl, rfl, rfl, rfl, rfl, rfl, rfl, rfl, rfl, rfl, rfl, rfl, rfl, rfl, rfl, rfl, rfl, rfl, rfl, rfl, rfl, rfl, rfl, rfl, rfl, rfl, rfl, rfl, rfl, rfl, trivial⟩) hS' r8 hE
  · refine hdo (i := 4) (o := ops_se8[4]'(show 4 < ops_se8.size by rw [size_se8]; decide)) hF 8 (ptr w.heap.size 0) (w.alloc (.cells #[.int .u64 0, .slice none 0 0] 33)) (Array.getElem?_eq_getElem (show 4 < ops_se8.size by rw [size_se8]; decide)) (by kernel_rfl) (by decide) (want_n (by kernel_rfl)) (rrun_alloc (t := 33) (z := .agg #[.int .u64 0, .slice none 0 0]) (by kernel_rfl) (by kernel_rfl)) (fun a hF => ?_)
    have hz := hS.size
    have hS2 := hS.alloc hS.size (.cells #[.int .u64 0, .slice none 0 0] 33)
    have hZ := heap_alloc_new w (.cells #[.int .u64 0, .slice none 0 0] 33)
    have hbA := (Below.refl w.heap.size w).alloc (Nat.le_refl _) (.cells #[.int .u64 0, .slice none 0 0] 33)
    refine ⟨hS2, ?_⟩
    rw [show (#[true, true, true, false, false, false]).setIfInBounds 4 true = #[true, true, true, false, true, false] from by kernel_rfl]
    exact se8_1a hl hs h3 h5 r5 hQ (hF.sub [(8, ptr w.heap.size 0), (54, .agg #[.int .u64 (x : Int), v5]), (56, .agg n.cells), (3, ptr k3 0), (5, ptr k5 0), (0, v_0), (1, v_1), (2, v_2), (4, v_4), (6, v_6), (7, v_7), (9, v_9), (10, v_10), (11, v_11), (12, v_12), (13, v_13), (14, v_14), (15, v_15), (16, v_16), (17, v_17), (18, v_18), (19, v_19), (20, v_20), (21, v_21), (22, v_22), (23, v_23), (24, v_24), (25, v_25), (26, v_26), (27, v_27), (28, v_28), (29, v_29), (30, v_30), (31, v_31), (32, v_32), (33, v_33), (34, v_34), (35, v_35), (36, v_36), (37, v_37), (38, v_38), (39, v_39), (40, v_40), (41, v_41), (42, v_42), (43, v_43), (44, v_44), (45, v_45), (46, v_46), (47, v_47), (48, v_48), (49, v_49), (50, v_50), (51, v_51), (52, v_52), (53, v_53), (58, v_58), (59, v_59), (60, v_60), (61, v_61), (62, v_62), (63, v_63), (64, v_64), (65, v_65), (66, v_66), (67, v_67), (68, v_68), (69, v_69), (70, v_70), (71, v_71), (72, v_72), (73, v_73), (74, v_74), (75, v_75), (76, v_76), (77, v_77), (78, v_78), (79, v_79), (80, v_80), (81, v_81), (82, v_82), (83, v_83), (84, v_84), (85, v_85), (86, v_86), (87, v_87), (88, v_88), (89, v_89), (90, v_90), (91, v_91), (92, v_92), (93, v_93), (94, v_94), (95, v_95), (96, v_96), (97, v_97), (98, v_98), (99, v_99), (100, v_100)] ⟨rfl, rfl, rfl, rfl, rfl, rfl, rfl, rfl, rfl, rfl, rfl, rfl, rfl, rfl, rfl, rfl, rfl, rfl, rfl, rfl, rfl, rfl, rfl, rfl, rfl, rfl, rfl, rfl, rfl, rfl, rfl, rfl, rfl, rfl, rfl, rfl, rfl, rfl, rfl, rfl, rfl, rfl, rfl, rfl, rfl, rfl, rfl, rfl, rfl, rfl, rfl, rfl, rfl, rfl, rfl, rfl, rfl, rfl, rfl, rfl, rfl, rfl, rfl, rfl, rfl, rfl, rfl, rfl, rfl, rfl, rfl, rfl, rfl, rfl, rfl, rfl, rfl, rfl, rfl, rfl, rfl, rfl, rfl, rfl, rfl, rfl, rfl, rfl, rfl, rfl, rfl, rfl, rfl, rfl, rfl, rfl, rfl, rfl, rfl, trivial⟩) hS2 hz hZ hE

set_option maxHeartbeats 4000000 in
theorem se8_0a {w1 : World} {k3 k5 x z : Nat} {v5 : Value} {l : List Nod} {n : Nod} {v_0 v_1 v_2 v_4 v_6 v_7 v_9 v_10 v_11 v_12 v_13 v_14 v_15 v_16 v_17 v_18 v_19 v_20 v_21 v_22 v_23 v_24 v_25 v_26 v_27 v_28 v_29 v_30 v_31 v_32 v_33 v_34 v_35 v_36 v_37 v_38 v_39 v_40 v_41 v_42 v_43 v_44 v_45 v_46 v_47 v_48 v_49 v_50 v_51 v_52 v_53 v_58 v_59 v_60 v_61 v_62 v_63 v_64 v_65 v_66 v_67 v_68 v_69 v_70 v_71 v_72 v_73 v_74 v_75 v_76 v_77 v_78 v_79 v_80 v_81 v_82 v_83 v_84 v_85 v_86 v_87 v_88 v_89 v_90 v_91 v_92 v_93 v_94 v_95 v_96 v_97 v_98 v_99 v_100 : Value} {Q : Exit → Act → World → Prop} {a : Act} {w : World} (hl : l.length ≤ 900) (hs : SortL l) (h3 : w1.heap[k3]? = some (.cells n.cells 28 (0, 0))) (h5 : w1.heap[k5]? = some (.cells #[.int .u64 (x : Int), v5] 33 (0, 0))) (r5 : NodsAt w1 v5 l)
    (hQ : ∀ d u c a w, Q (.panic c) (a.put d u) w → Q (.panic c) a w) (hF : FrL 101 [(8, ptr z 0), (54, .agg #[.int .u64 (x : Int), v5]), (55, .agg n.cells), (3, ptr k3 0), (5, ptr k5 0), (0, v_0), (1, v_1), (2, v_2), (4, v_4), (6, v_6), (7, v_7), (9, v_9), (10, v_10), (11, v_11), (12, v_12), (13, v_13), (14, v_14), (15, v_15), (16, v_16), (17, v_17), (18, v_18), (19, v_19), (20, v_20), (21, v_21), (22, v_22), (23, v_23), (24, v_24), (25, v_25), (26, v_26), (27, v_27), (28, v_28), (29, v_29), (30, v_30), (31, v_31), (32, v_32), (33, v_33), (34, v_34), (35, v_35), (36, v_36), (37, v_37), (38, v_38), (39, v_39), (40, v_40), (41, v_41), (42, v_42), (43, v_43), (44, v_44), (45, v_45), (46, v_46), (47, v_47), (48, v_48), (49, v_49), (50, v_50), (51, v_51), (52, v_52), (53, v_53), (58, v_58), (59, v_59), (60, v_60), (61, v_61), (62, v_62), (63, v_63), (64, v_64), (65, v_65), (66, v_66), (67, v_67), (68, v_68), (69, v_69), (70, v_70), (71, v_71), (72, v_72), (73, v_73), (74, v_74), (75, v_75), (76, v_76), (77, v_77), (78, v_78), (79, v_79), (80, v_80), (81, v_81), (82, v_82), (83, v_83), (84, v_84), (85, v_85), (86, v_86), (87, v_87), (88, v_88), (89, v_89), (90, v_90), (91, v_91), (92, v_92), (93, v_93), (94, v_94), (95, v_95), (96, v_96), (97, v_97), (98, v_98), (99, v_99), (100, v_100)] a) (hS : Below w1.heap.size w1 w) (hz : w1.heap.size ≤ z) (hZ : w.heap[z]? = some (.cells #[.int .u64 0, .slice none 0 0] 33 (0, 0)))
    (hE : ∀ z v8 a w', FrL 101 [(8, ptr z 0), (3, ptr k3 0), (5, ptr k5 0), (0, v_0), (1, v_1), (2, v_2), (4, v_4), (6, v_6), (7, v_7), (9, v_9), (10, v_10), (11, v_11), (12, v_12), (13, v_13), (14, v_14), (15, v_15), (16, v_16), (17, v_17), (18, v_18), (19, v_19), (20, v_20), (21, v_21), (22, v_22), (23, v_23), (24, v_24), (25, v_25), (26, v_26), (27, v_27), (28, v_28), (29, v_29), (30, v_30), (31, v_31), (32, v_32), (33, v_33), (34, v_34), (35, v_35), (36, v_36), (37, v_37), (38, v_38), (39, v_39), (40, v_40), (41, v_41), (42, v_42), (43, v_43), (44, v_44), (45, v_45), (46, v_46), (47, v_47), (48, v_48), (49, v_49), (50, v_50), (51, v_51), (52, v_52), (53, v_53), (58, v_58), (59, v_59), (60, v_60), (61, v_61), (62, v_62), (63, v_63), (64, v_64), (65, v_65), (66, v_66), (67, v_67), (68, v_68), (69, v_69), (70, v_70), (71, v_71), (72, v_72), (73, v_73), (74, v_74), (75, v_75), (76, v_76), (77, v_77), (78, v_78), (79, v_79), (80, v_80), (81, v_81), (82, v_82), (83, v_83), (84, v_84), (85, v_85), (86, v_86), (87, v_87), (88, v_88), (89, v_89), (90, v_90), (91, v_91), (92, v_92), (93, v_93), (94, v_94), (95, v_95), (96, v_96), (97, v_97), (98, v_98), (99, v_99), (100, v_100)] a → Below w1.heap.size w1 w' → w'.heap[z]? = some (.cells #[.int .u64 (x : Int), v8] 33 (0, 0)) → NodsAt w' v8 (setR l n) → Q .normal a w') :
    wpAnyH Tryz.prog .any ops_se8 Q (Below w1.heap.size w1) 3 #[true, true, false, false, true, false] a w := by
  refine wpAnyH_all (rs := [2]) (by kernel_rfl) (by simp) fun j hj => ?_
  obtain rfl : j = 2 := by simpa using hj
  refine hdoc (i := 2) (o := ops_se8[2]'(show 2 < ops_se8.size by rw [size_se8]; decide)) (R := fun v w' => v = .agg n.cells ∧ Below w1.heap.size w1 w' ∧ w'.heap[z]? = some (.cells #[.int .u64 0, .slice none 0 0] 33 (0, 0))) hF 56 (Array.getElem?_eq_getElem (show 2 < ops_se8.size by rw [size_se8]; decide)) (by kernel_rfl) (by decide) (want_n (by kernel_rfl)) ⟨14, #[.agg n.cells], rrun_call1 (fn := 14) (x := .tmp 55) (t := 28) rfl (by kernel_rfl) (by kernel_rfl) (hF.ev 55 _ rfl), (ofnode_any n w).mono (by rintro e w' ⟨rfl, hb⟩; exact ⟨_, rfl, ⟨rfl, hS.trans (hb.mono hS.size), (hb.block _ (lt_of_block hZ)).trans hZ⟩⟩)⟩ ?_
  rintro _ a w' ⟨rfl, hS', hZ'⟩ hF
  refine ⟨hS', ?_⟩
  rw [show (#[true, true, false, false, true, false]).setIfInBounds 2 true = #[true, true, true, false, true, false] from by kernel_rfl]
  exact se8_1a hl hs h3 h5 r5 hQ (hF.sub [(8, ptr z 0), (54, .agg #[.int .u64 (x : Int), v5]), (56, .agg n.cells), (3, ptr k3 0), (5, ptr k5 0), (0, v_0), (1, v_1), (2, v_2), (4, v_4), (6, v_6), (7, v_7), (9, v_9), (10, v_10), (11, v_11), (12, v_12), (13, v_13), (14, v_14), (15, v_15), (16, v_16), (17, v_17), (18, v_18), (19, v_19), (20, v_20), (21, v_21), (22, v_22), (23, v_23), (24, v_24), (25, v_25), (26, v_26), (27, v_27), (28, v_28), (29, v_29), (30, v_30), (31, v_31), (32, v_32), (33, v_33), (34, v_34), (35, v_35), (36, v_36), (37, v_37), (38, v_38), (39, v_39), (40, v_40), (41, v_41), (42, v_42), (43, v_43), (44, v_44), (45, v_45), (46, v_46), (47, v_47), (48, v_48), (49, v_49), (50, v_50), (51, v_51), (52, v_52), (53, v_53), (58, v_58), (59, v_59), (60, v_60), (61, v_61), (62, v_62), (63, v_63), (64, v_64), (65, v_65), (66, v_66), (67, v_67), (68, v_68), (69, v_69), (70, v_70), (71, v_71), (72, v_72), (73, v_73), (74, v_74), (75, v_75), (76, v_76), (77, v_77), (78, v_78), (79, v_79), (80, v_80), (81, v_81), (82, v_82), (83, v_83), (84, v_84), (85, v_85), (86, v_86), (87, v_87), (88, v_88), (89, v_89), (90, v_90), (91, v_91), (92, v_92), (93, v_93), (94, v_94), (95, v_95), (96, v_96), (97, v_97), (98, v_98), (99, v_99), (100, v_100)] ⟨rfl, rfl, rfl, rfl, rfl, rfl, rfl, rfl, rfl, rfl, rfl, rfl, rfl, rfl, rfl, rfl, rfl, rfl, rfl, rfl, rfl, rfl, rfl, rfl, rfl, rfl, rfl, rfl, rfl, rfl, rfl, rfl, rfl, rfl, rfl, rfl, rfl, rfl, rfl, rfl, rfl, rfl, rfl, rfl, rfl, rfl, rfl, rfl, rfl, rfl, rfl, rfl, rfl, rfl, rfl, rfl, rfl, rfl, rfl, rfl, rfl, rfl, rfl, rfl, rfl, rfl, rfl, rfl, rfl, rfl, rfl, rfl, rfl, rfl, rfl, rfl, rfl, rfl, rfl, rfl, rfl, rfl, rfl, rfl, rfl, rfl, rfl, rfl, rfl, rfl, rfl, rfl, rfl, rfl, rfl, rfl, rfl, rfl, rfl, trivial⟩) hS' hz hZ' hE

set_option maxHeartbeats 4000000 in
theorem se8_0n {w1 : World} {k3 k5 x : Nat} {v5 : Value} {l : List Nod} {n : Nod} {v_0 v_1 v_2 v_4 v_6 v_7 v_9 v_10 v_11 v_12 v_13 v_14 v_15 v_16 v_17 v_18 v_19 v_20 v_21 v_22 v_23 v_24 v_25 v_26 v_27 v_28 v_29 v_30 v_31 v_32 v_33 v_34 v_35 v_36 v_37 v_38 v_39 v_40 v_41 v_42 v_43 v_44 v_45 v_46 v_47 v_48 v_49 v_50 v_51 v_52 v_53 v_58 v_59 v_60 v_61 v_62 v_63 v_64 v_65 v_66 v_67 v_68 v_69 v_70 v_71 v_72 v_73 v_74 v_75 v_76 v_77 v_78 v_79 v_80 v_81 v_82 v_83 v_84 v_85 v_86 v_87 v_88 v_89 v_90 v_91 v_92 v_93 v_94 v_95 v_96 v_97 v_98 v_99 v_100 : Value} {Q : Exit → Act → World → Prop} {a : Act} {w : World} (hl : l.length ≤ 900) (hs : SortL l) (h3 : w1.heap[k3]? = some (.cells n.cells 28 (0, 0))) (h5 : w1.heap[k5]? = some (.cells #[.int .u64 (x : Int), v5] 33 (0, 0))) (r5 : NodsAt w1 v5 l)
    (hQ : ∀ d u c a w, Q (.panic c) (a.put d u) w → Q (.panic c) a w) (hF : FrL 101 [(54, .agg #[.int .u64 (x : Int), v5]), (55, .agg n.cells), (3, ptr k3 0), (5, ptr k5 0), (0, v_0), (1, v_1), (2, v_2), (4, v_4), (6, v_6), (7, v_7), (9, v_9), (10, v_10), (11, v_11), (12, v_12), (13, v_13), (14, v_14), (15, v_15), (16, v_16), (17, v_17), (18, v_18), (19, v_19), (20, v_20), (21, v_21), (22, v_22), (23, v_23), (24, v_24), (25, v_25), (26, v_26), (27, v_27), (28, v_28), (29, v_29), (30, v_30), (31, v_31), (32, v_32), (33, v_33), (34, v_34), (35, v_35), (36, v_36), (37, v_37), (38, v_38), (39, v_39), (40, v_40), (41, v_41), (42, v_42), (43, v_43), (44, v_44), (45, v_45), (46, v_46), (47, v_47), (48, v_48), (49, v_49), (50, v_50), (51, v_51), (52, v_52), (53, v_53), (58, v_58), (59, v_59), (60, v_60), (61, v_61), (62, v_62), (63, v_63), (64, v_64), (65, v_65), (66, v_66), (67, v_67), (68, v_68), (69, v_69), (70, v_70), (71, v_71), (72, v_72), (73, v_73), (74, v_74), (75, v_75), (76, v_76), (77, v_77), (78, v_78), (79, v_79), (80, v_80), (81, v_81), (82, v_82), (83, v_83), (84, v_84), (85, v_85), (86, v_86), (87, v_87), (88, v_88), (89, v_89), (90, v_90), (91, v_91), (92, v_92), (93, v_93), (94, v_94), (95, v_95), (96, v_96), (97, v_97), (98, v_98), (99, v_99), (100, v_100)] a) (hS : Below w1.heap.size w1 w)
    (hE : ∀ z v8 a w', FrL 101 [(8, ptr z 0), (3, ptr k3 0), (5, ptr k5 0), (0, v_0), (1, v_1), (2, v_2), (4, v_4), (6, v_6), (7, v_7), (9, v_9), (10, v_10), (11, v_11), (12, v_12), (13, v_13), (14, v_14), (15, v_15), (16, v_16), (17, v_17), (18, v_18), (19, v_19), (20, v_20), (21, v_21), (22, v_22), (23, v_23), (24, v_24), (25, v_25), (26, v_26), (27, v_27), (28, v_28), (29, v_29), (30, v_30), (31, v_31), (32, v_32), (33, v_33), (34, v_34), (35, v_35), (36, v_36), (37, v_37), (38, v_38), (39, v_39), (40, v_40), (41, v_41), (42, v_42), (43, v_43), (44, v_44), (45, v_45), (46, v_46), (47, v_47), (48, v_48), (49, v_49), (50, v_50), (51, v_51), (52, v_52), (53, v_53), (58, v_58), (59, v_59), (60, v_60), (61, v_61), (62, v_62), (63, v_63), (64, v_64), (65, v_65), (66, v_66), (67, v_67), (68, v_68), (69, v_69), (70, v_70), (71, v_71), (72, v_72), (73, v_73), (74, v_74), (75, v_75), (76, v_76), (77, v_77), (78, v_78), (79, v_79), (80, v_80), (81, v_81), (82, v_82), (83, v_83), (84, v_84), (85, v_85), (86, v_86), (87, v_87), (88, v_88), (89, v_89), (90, v_90), (91, v_91), (92, v_92), (93, v_93), (94, v_94), (95, v_95), (96, v_96), (97, v_97), (98, v_98), (99, v_99), (100, v_100)] a → Below w1.heap.size w1 w' → w'.heap[z]? = some (.cells #[.int .u64 (x : Int), v8] 33 (0, 0)) → NodsAt w' v8 (setR l n) → Q .normal a w') :
    wpAnyH Tryz.prog .any ops_se8 Q (Below w1.heap.size w1) 4 #[true, true, false, false, false, false] a w := by
  refine wpAnyH_all (rs := [2, 4]) (by kernel_rfl) (by simp) fun j hj => ?_
  have hj2 : j = 2 ∨ j = 4 := by simpa using hj
  rcases hj2 with rfl | rfl
  · refine hdoc (i := 2) (o := ops_se8[2]'(show 2 < ops_se8.size by rw [size_se8]; decide)) (R := fun v w' => v = .agg n.cells ∧ Below w1.heap.size w1 w') hF 56 (Array.getElem?_eq_getElem (show 2 < ops_se8.size by rw [size_se8]; decide)) (by kernel_rfl) (by decide) (want_n (by kernel_rfl)) ⟨14, #[.agg n.cells], rrun_call1 (fn := 14) (x := .tmp 55) (t := 28) rfl (by kernel_rfl) (by kernel_rfl) (hF.ev 55 _ rfl), (ofnode_any n w).mono (by rintro e w' ⟨rfl, hb⟩; exact ⟨_, rfl, ⟨rfl, hS.trans (hb.mono hS.size)⟩⟩)⟩ ?_
    rintro _ a w' ⟨rfl, hS'⟩ hF
    refine ⟨hS', ?_⟩
    rw [show (#[true, true, false, false, false, false]).setIfInBounds 2 true = #[true, true, true, false, false, false] from by kernel_rfl]
    exact se8_1n hl hs h3 h5 r5 hQ (hF.sub [(54, .agg #[.int .u64 (x : Int), v5]), (56, .agg n.cells), (3, ptr k3 0), (5, ptr k5 0), (0, v_0), (1, v_1), (2, v_2), (4, v_4), (6, v_6), (7, v_7), (9, v_9), (10, v_10), (11, v_11), (12, v_12), (13, v_13), (14, v_14), (15, v_15), (16, v_16), (17, v_17), (18, v_18), (19, v_19), (20, v_20), (21, v_21), (22, v_22), (23, v_23), (24, v_24), (25, v_25), (26, v_26), (27, v_27), (28, v_28), (29, v_29), (30, v_30), (31, v_31), (32, v_32), (33, v_33), (34, v_34), (35, v_35), (36, v_36), (37, v_37), (38, v_38), (39, v_39), (40, v_40), (41, v_41), (42, v_42), (43, v_43), (44, v_44), (45, v_45), (46, v_46), (47, v_47), (48, v_48), (49, v_49), (50, v_50), (51, v_51), (52, v_52), (53, v_53), (58, v_58), (59, v_59), (60, v_60), (61, v_61), (62, v_62), (63, v_63), (64, v_64), (65, v_65), (66, v_66), (67, v_67), (68, v_68), (69, v_69), (70, v_70), (71, v_71), (72, v_72), (73, v_73), (74, v_74), (75, v_75), (76, v_76), (77, v_77), (78, v_78), (79, v_79), (80, v_80), (81, v_81), (82, v_82), (83, v_83), (84, v_84), (85, v_85), (86, v_86), (87, v_87), (88, v_88), (89, v_89), (90, v_90), (91, v_91), (92, v_92), (93, v_93), (94, v_94), (95, v_95), (96, v_96), (97, v_97), (98, v_98), (99, v_99), (100, v_100)] ⟨rfl, rfl, rfl, rfl, rfl, rfl, rfl, rfl, rfl, rfl, rfl, rfl, rfl, rfl, rfl, rfl, rfl, rfl, rfl, rfl, rfl, rfl, rfl, rfl, rfl, rfl, rfl, rfl, rfl, rfl, rfl, rfl, rfl, rfl, rfl, rfl, rfl, rfl, rfl, rfl, rfl, rfl, rfl, rfl, rfl, rfl, rfl, rfl, rfl, rfl, rfl, rfl, rfl, rfl, rfl, rfl, rfl, rfl, rfl, rfl, rfl, rfl, rfl, rfl, rfl, rfl, rfl, rfl, rfl, rfl, rfl, rfl, rfl, rfl, rfl, rfl, rfl, rfl, rfl, rfl, rfl, rfl, rfl, rfl, rfl, rfl, rfl, rfl, rfl, rfl, rfl, rfl, rfl, rfl, rfl, rfl, rfl, rfl, trivial⟩) hS' hE
  · refine hdo (i := 4) (o := ops_se8[4]'(show 4 < ops_se8.size by rw [size_se8]; decide)) hF 8 (ptr w.heap.size 0) (w.alloc (.cells #[.int .u64 0, .slice none 0 0] 33)) (Array.getElem?_eq_getElem (show 4 < ops_se8.size by rw [size_se8]; decide)) (by kernel_rfl) (by decide) (want_n (by kernel_rfl)) (rrun_alloc (t := 33) (z := .agg #[.int .u64 0, .slice none 0 0]) (by kernel_rfl) (by kernel_rfl)) (fun a hF => ?_)
    have hz := hS.size
    have hS2 := hS.alloc hS.size (.cells #[.int .u64 0, .slice none 0 0] 33)
    have hZ := heap_alloc_new w (.cells #[.int .u64 0, .slice none 0 0] 33)
    have hbA := (Below.refl w.heap.size w).alloc (Nat.le_refl _) (.cells #[.int .u64 0, .slice none 0 0] 33)
    refine ⟨hS2, ?_⟩
    rw [show (#[true, true, false, false, false, false]).setIfInBounds 4 true = #[true, true, false, false, true, false] from by kernel_rfl]
    exact se8_0a hl hs h3 h5 r5 hQ (hF.sub [(8, ptr w.heap.size 0), (54, .agg #[.int .u64 (x : Int), v5]), (55, .agg n.cells), (3, ptr k3 0), (5, ptr k5 0), (0, v_0), (1, v_1), (2, v_2), (4, v_4), (6, v_6), (7, v_7), (9, v_9), (10, v_10), (11, v_11), (12, v_12), (13, v_13), (14, v_14), (15, v_15), (16, v_16), (17, v_17), (18, v_18), (19, v_19), (20, v_20), (21, v_21), (22, v_22), (23, v_23), (24, v_24), (25, v_25), (26, v_26), (27, v_27), (28, v_28), (29, v_29), (30, v_30), (31, v_31), (32, v_32), (33, v_33), (34, v_34), (35, v_35), (36, v_36), (37, v_37), (38, v_38), (39, v_39), (40, v_40), (41, v_41), (42, v_42), (43, v_43), (44, v_44), (45, v_45), (46, v_46), (47, v_47), (48, v_48), (49, v_49), (50, v_50), (51, v_51), (52, v_52), (53, v_53), (58, v_58), (59, v_59), (60, v_60), (61, v_61), (62, v_62), (63, v_63), (64, v_64), (65, v_65), (66, v_66), (67, v_67), (68, v_68), (69, v_69), (70, v_70), (71, v_71), (72, v_72), (73, v_73), (74, v_74), (75, v_75), (76, v_76), (77, v_77), (78, v_78), (79, v_79), (80, v_80), (81, v_81), (82, v_82), (83, v_83), (84, v_84), (85, v_85), (86, v_86), (87, v_87), (88, v_88), (89, v_89), (90, v_90), (91, v_91), (92, v_92), (93, v_93), (94, v_94), (95, v_95), (96, v_96), (97, v_97), (98, v_98), (99, v_99), (100, v_100)] ⟨rfl, rfl, rfl, rfl, rfl, rfl, rfl, rfl, rfl, rfl, rfl, rfl, rfl, rfl, rfl, rfl, rfl, rfl, rfl, rfl, rfl, rfl, rfl, rfl, rfl, rfl, rfl, rfl, rfl, rfl, rfl, rfl, rfl, rfl, rfl, rfl, rfl, rfl, rfl, rfl, rfl, rfl, rfl, rfl, rfl, rfl, rfl, rfl, rfl, rfl, rfl, rfl, rfl, rfl, rfl, rfl, rfl, rfl, rfl, rfl, rfl, rfl, rfl, rfl, rfl, rfl, rfl, rfl, rfl, rfl, rfl, rfl, rfl, rfl, rfl, rfl, rfl, rfl, rfl, rfl, rfl, rfl, rfl, rfl, rfl, rfl, rfl, rfl, rfl, rfl, rfl, rfl, rfl, rfl, rfl, rfl, rfl, rfl, rfl, trivial⟩) hS2 hz hZ hE

set_option maxHeartbeats 4000000 in
theorem se8_all {w1 : World} {k3 k5 x : Nat} {v5 : Value} {l : List Nod} {n : Nod} {v_0 v_1 v_2 v_4 v_6 v_7 v_9 v_10 v_11 v_12 v_13 v_14 v_15 v_16 v_17 v_18 v_19 v_20 v_21 v_22 v_23 v_24 v_25 v_26 v_27 v_28 v_29 v_30 v_31 v_32 v_33 v_34 v_35 v_36 v_37 v_38 v_39 v_40 v_41 v_42 v_43 v_44 v_45 v_46 v_47 v_48 v_49 v_50 v_51 v_52 v_53 v_58 v_59 v_60 v_61 v_62 v_63 v_64 v_65 v_66 v_67 v_68 v_69 v_70 v_71 v_72 v_73 v_74 v_75 v_76 v_77 v_78 v_79 v_80 v_81 v_82 v_83 v_84 v_85 v_86 v_87 v_88 v_89 v_90 v_91 v_92 v_93 v_94 v_95 v_96 v_97 v_98 v_99 v_100 : Value} {Q : Exit → Act → World → Prop} {a : Act} {w : World} (hl : l.length ≤ 900) (hs : SortL l) (h3 : w1.heap[k3]? = some (.cells n.cells 28 (0, 0))) (h5 : w1.heap[k5]? = some (.cells #[.int .u64 (x : Int), v5] 33 (0, 0))) (r5 : NodsAt w1 v5 l)
    (hQ : ∀ d u c a w, Q (.panic c) (a.put d u) w → Q (.panic c) a w) (hF : FrL 101 [(3, ptr k3 0), (5, ptr k5 0), (0, v_0), (1, v_1), (2, v_2), (4, v_4), (6, v_6), (7, v_7), (9, v_9), (10, v_10), (11, v_11), (12, v_12), (13, v_13), (14, v_14), (15, v_15), (16, v_16), (17, v_17), (18, v_18), (19, v_19), (20, v_20), (21, v_21), (22, v_22), (23, v_23), (24, v_24), (25, v_25), (26, v_26), (27, v_27), (28, v_28), (29, v_29), (30, v_30), (31, v_31), (32, v_32), (33, v_33), (34, v_34), (35, v_35), (36, v_36), (37, v_37), (38, v_38), (39, v_39), (40, v_40), (41, v_41), (42, v_42), (43, v_43), (44, v_44), (45, v_45), (46, v_46), (47, v_47), (48, v_48), (49, v_49), (50, v_50), (51, v_51), (52, v_52), (53, v_53), (58, v_58), (59, v_59), (60, v_60), (61, v_61), (62, v_62), (63, v_63), (64, v_64), (65, v_65), (66, v_66), (67, v_67), (68, v_68), (69, v_69), (70, v_70), (71, v_71), (72, v_72), (73, v_73), (74, v_74), (75, v_75), (76, v_76), (77, v_77), (78, v_78), (79, v_79), (80, v_80), (81, v_81), (82, v_82), (83, v_83), (84, v_84), (85, v_85), (86, v_86), (87, v_87), (88, v_88), (89, v_89), (90, v_90), (91, v_91), (92, v_92), (93, v_93), (94, v_94), (95, v_95), (96, v_96), (97, v_97), (98, v_98), (99, v_99), (100, v_100)] a) (hS : Below w1.heap.size w1 w)
    (hE : ∀ z v8 a w', FrL 101 [(8, ptr z 0), (3, ptr k3 0), (5, ptr k5 0), (0, v_0), (1, v_1), (2, v_2), (4, v_4), (6, v_6), (7, v_7), (9, v_9), (10, v_10), (11, v_11), (12, v_12), (13, v_13), (14, v_14), (15, v_15), (16, v_16), (17, v_17), (18, v_18), (19, v_19), (20, v_20), (21, v_21), (22, v_22), (23, v_23), (24, v_24), (25, v_25), (26, v_26), (27, v_27), (28, v_28), (29, v_29), (30, v_30), (31, v_31), (32, v_32), (33, v_33), (34, v_34), (35, v_35), (36, v_36), (37, v_37), (38, v_38), (39, v_39), (40, v_40), (41, v_41), (42, v_42), (43, v_43), (44, v_44), (45, v_45), (46, v_46), (47, v_47), (48, v_48), (49, v_49), (50, v_50), (51, v_51), (52, v_52), (53, v_53), (58, v_58), (59, v_59), (60, v_60), (61, v_61), (62, v_62), (63, v_63), (64, v_64), (65, v_65), (66, v_66), (67, v_67), (68, v_68), (69, v_69), (70, v_70), (71, v_71), (72, v_72), (73, v_73), (74, v_74), (75, v_75), (76, v_76), (77, v_77), (78, v_78), (79, v_79), (80, v_80), (81, v_81), (82, v_82), (83, v_83), (84, v_84), (85, v_85), (86, v_86), (87, v_87), (88, v_88), (89, v_89), (90, v_90), (91, v_91), (92, v_92), (93, v_93), (94, v_94), (95, v_95), (96, v_96), (97, v_97), (98, v_98), (99, v_99), (100, v_100)] a → Below w1.heap.size w1 w' → w'.heap[z]? = some (.cells #[.int .u64 (x : Int), v8] 33 (0, 0)) → NodsAt w' v8 (setR l n) → Q .normal a w') :
    wpAnyH Tryz.prog .any ops_se8 Q (Below w1.heap.size w1) 6 (Array.replicate 6 false) a w := by
  refine hst (i := 0) (o := ops_se8[0]'(show 0 < ops_se8.size by rw [size_se8]; decide)) hF 54 true (.agg #[.int .u64 (x : Int), v5]) (Array.getElem?_eq_getElem (show 0 < ops_se8.size by rw [size_se8]; decide)) (by kernel_rfl) (by decide) (by kernel_rfl) (by kernel_rfl) (by kernel_rfl) (hQ _ _) (want_n (by kernel_rfl)) (fun hW w hS => rrun_load (ty := 33) (x := .tmp 5) (by kernel_rfl) (hF.ev 5 (ptr k5 0) rfl) (rld_rtree ((hS.block _ (lt_of_block h5)).trans h5))) hS (fun a hF => ?_)
  rw [show cond true (.agg #[.int .u64 (x : Int), v5]) undef = .agg #[.int .u64 (x : Int), v5] from rfl] at hF
  refine hst (i := 1) (o := ops_se8[1]'(show 1 < ops_se8.size by rw [size_se8]; decide)) hF 55 true (.agg n.cells) (Array.getElem?_eq_getElem (show 1 < ops_se8.size by rw [size_se8]; decide)) (by kernel_rfl) (by decide) (by kernel_rfl) (by kernel_rfl) (by kernel_rfl) (hQ _ _) (want_n (by kernel_rfl)) (fun hW w hS => rrun_load (ty := 28) (x := .tmp 3) (by kernel_rfl) (hF.ev 3 (ptr k3 0) rfl) (rld_nodeS ((hS.block _ (lt_of_block h3)).trans h3))) hS (fun a hF => ?_)
  rw [show cond true (.agg n.cells) undef = .agg n.cells from rfl] at hF
  rw [show ((Array.replicate 6 false).setIfInBounds 0 true).setIfInBounds 1 true = #[true, true, false, false, false, false] from by kernel_rfl]
  exact se8_0n hl hs h3 h5 r5 hQ (hF.sub [(54, .agg #[.int .u64 (x : Int), v5]), (55, .agg n.cells), (3, ptr k3 0), (5, ptr k5 0), (0, v_0), (1, v_1), (2, v_2), (4, v_4), (6, v_6), (7, v_7), (9, v_9), (10, v_10), (11, v_11), (12, v_12), (13, v_13), (14, v_14), (15, v_15), (16, v_16), (17, v_17), (18, v_18), (19, v_19), (20, v_20), (21, v_21), (22, v_22), (23, v_23), (24, v_24), (25, v_25), (26, v_26), (27, v_27), (28, v_28), (29, v_29), (30, v_30), (31, v_31), (32, v_32), (33, v_33), (34, v_34), (35, v_35), (36, v_36), (37, v_37), (38, v_38), (39, v_39), (40, v_40), (41, v_41), (42, v_42), (43, v_43), (44, v_44), (45, v_45), (46, v_46), (47, v_47), (48, v_48), (49, v_49), (50, v_50), (51, v_51), (52, v_52), (53, v_53), (58, v_58), (59, v_59), (60, v_60), (61, v_61), (62, v_62), (63, v_63), (64, v_64), (65, v_65), (66, v_66), (67, v_67), (68, v_68), (69, v_69), (70, v_70), (71, v_71), (72, v_72), (73, v_73), (74, v_74), (75, v_75), (76, v_76), (77, v_77), (78, v_78), (79, v_79), (80, v_80), (81, v_81), (82, v_82), (83, v_83), (84, v_84), (85, v_85), (86, v_86), (87, v_87), (88, v_88), (89, v_89), (90, v_90), (91, v_91), (92, v_92), (93, v_93), (94, v_94), (95, v_95), (96, v_96), (97, v_97), (98, v_98), (99, v_99), (100, v_100)] ⟨rfl, rfl, rfl, rfl, rfl, rfl, rfl, rfl, rfl, rfl, rfl, rfl, rfl, rfl, rfl, rfl, rfl, rfl, rfl, rfl, rfl, rfl, rfl, rfl, rfl, rfl, rfl, rfl, rfl, rfl, rfl, rfl, rfl, rfl, rfl, rfl, rfl, rfl, rfl, rfl, rfl, rfl, rfl, rfl, rfl, rfl, rfl, rfl, rfl, rfl, rfl, rfl, rfl, rfl, rfl, rfl, rfl, rfl, rfl, rfl, rfl, rfl, rfl, rfl, rfl, rfl, rfl, rfl, rfl, rfl, rfl, rfl, rfl, rfl, rfl, rfl, rfl, rfl, rfl, rfl, rfl, rfl, rfl, rfl, rfl, rfl, rfl, rfl, rfl, rfl, rfl, rfl, rfl, rfl, rfl, rfl, rfl, rfl, trivial⟩) hS hE
theorem nsame_eq (v u : Value) (x : Nat) (l m : List Nod) (w : World) (hv : NodsAt w v l) (hu : NodsAt w u m) (hl : l.length ≤ 1000) (hm : m.length ≤ 1000) :
    Calls Tryz.prog 17 #[.agg #[.int .u64 (x : Int), v], .agg #[.int .u64 (x : Int), u]] w fun e w' => e = .returned (.bool (eqL l m)) ∧ Below w.heap.size w w' :=
  (nsame_any v u x x l m w hv hu hl hm).mono (by rintro e w' ⟨rfl, hb⟩; exact ⟨by simp, hb⟩)
theorem rsame_eq (v u : Value) (x : Nat) (l m : List Nod) (w : World) (hv : NodsAt w v l) (hu : NodsAt w u m) (hl : l.length ≤ 1000) (hm : m.length ≤ 1000) :
    Calls Tryz.prog 16 #[.agg #[.int .u64 (x : Int), v], .agg #[.int .u64 (x : Int), u]] w fun e w' => e = .returned (.bool (eqL l m)) ∧ Below w.heap.size w w' :=
  (rsame_any v u x x l m w hv hu hl hm).mono (by rintro e w' ⟨rfl, hb⟩; exact ⟨by simp, hb⟩)
noncomputable def ops_se10 : Array Oper := match Tryz.f3.body with | some c => (allOps' c).getD 10 #[] | none => #[]
theorem size_se10 : ops_se10.size = 40 := by kernel_rfl
set_option maxHeartbeats 4000000 in
theorem se10_all {w1 : World} {k2 k5 k6 k7 k8 k9 x : Nat} {v2 v5 v6 v7 v8 v9 : Value} {l L6 L7 : List Nod} (hl : l.length ≤ 900) (hl6 : L6.length ≤ 1000) (hl7 : L7.length ≤ 1000) (h2 : w1.heap[k2]? = some (.cells #[.int .u64 (x : Int), v2] 25 (0, 0))) (r2 : NodsAt w1 v2 l) (h5 : w1.heap[k5]? = some (.cells #[.int .u64 (x : Int), v5] 33 (0, 0))) (r5 : NodsAt w1 v5 l) (h6 : w1.heap[k6]? = some (.cells #[.int .u64 (x : Int), v6] 25 (0, 0))) (r6 : NodsAt w1 v6 L6) (h7 : w1.heap[k7]? = some (.cells #[.int .u64 (x : Int), v7] 25 (0, 0))) (r7 : NodsAt w1 v7 L7) (h8 : w1.heap[k8]? = some (.cells #[.int .u64 (x : Int), v8] 33 (0, 0))) (r8 : NodsAt w1 v8 L6) (h9 : w1.heap[k9]? = some (.cells #[.int .u64 (x : Int), v9] 33 (0, 0))) (r9 : NodsAt w1 v9 L7) {v_0 v_1 v_3 : Value} {Q : Exit → Act → World → Prop} {a : Act} {w : World} (hQ : ∀ d u c a w, Q (.panic c) (a.put d u) w → Q (.panic c) a w) (hF : FrL 101 [(2, ptr k2 0), (5, ptr k5 0), (6, ptr k6 0), (7, ptr k7 0), (8, ptr k8 0), (9, ptr k9 0), (0, v_0), (1, v_1), (3, v_3)] a) (hS : (Below w1.heap.size w1) w) (hE : ∀ a w', FrL 101 ((4, .bool true) :: [(2, ptr k2 0), (5, ptr k5 0), (6, ptr k6 0), (7, ptr k7 0), (8, ptr k8 0), (9, ptr k9 0), (0, v_0), (1, v_1), (3, v_3)]) a → (Below w1.heap.size w1) w' → Q .normal a w') : wpAnyH Tryz.prog .any ops_se10 Q ((Below w1.heap.size w1)) 40 (Array.replicate 40 false) a w := by
  refine hst (i := 0) (o := ops_se10[0]'(show 0 < ops_se10.size by rw [size_se10]; decide)) hF 62 true (.agg #[.int .u64 (x : Int), v6]) (Array.getElem?_eq_getElem (show 0 < ops_se10.size by rw [size_se10]; decide)) (by kernel_rfl) (by decide) (by kernel_rfl) (by kernel_rfl) (by kernel_rfl) (hQ _ _) (want_n (by kernel_rfl)) (fun hW w hS => rrun_load (ty := 25) (x := .tmp 6) (by kernel_rfl) (hF.ev 6 (ptr k6 0) rfl) (rld_ntree ((hS.block _ (lt_of_block h6)).trans h6))) hS (fun a hF => ?_)
  rw [show cond true (.agg #[.int .u64 (x : Int), v6]) undef = .agg #[.int .u64 (x : Int), v6] from rfl] at hF
  refine hst (i := 2) (o := ops_se10[2]'(show 2 < ops_se10.size by rw [size_se10]; decide)) hF 64 true (.agg #[.int .u64 (x : Int), v8]) (Array.getElem?_eq_getElem (show 2 < ops_se10.size by rw [size_se10]; decide)) (by kernel_rfl) (by decide) (by kernel_rfl) (by kernel_rfl) (by kernel_rfl) (hQ _ _) (want_n (by kernel_rfl)) (fun hW w hS => rrun_load (ty := 33) (x := .tmp 8) (by kernel_rfl) (hF.ev 8 (ptr k8 0) rfl) (rld_rtree ((hS.block _ (lt_of_block h8)).trans h8))) hS (fun a hF => ?_)
  rw [show cond true (.agg #[.int .u64 (x : Int), v8]) undef = .agg #[.int .u64 (x : Int), v8] from rfl] at hF
  refine hcallx (i := 1) (o := ops_se10[1]'(show 1 < ops_se10.size by rw [size_se10]; decide)) (R := (fun v w' => ∃ v', v = .agg #[.int .u64 (x : Int), v'] ∧ NodsAt w' v' L6)) hF 63 (Array.getElem?_eq_getElem (show 1 < ops_se10.size by rw [size_se10]; decide)) (by kernel_rfl) (by decide) (by kernel_rfl) (want_n (by kernel_rfl)) ⟨10, #[.agg #[.int .u64 (x : Int), v6]], rrun_call1 (fn := 10) (t := 25) rfl (by kernel_rfl) (by kernel_rfl) (hF.ev 62 (.agg #[.int .u64 (x : Int), v6]) rfl), (of14_any v6 x L6 w (r6.below hS) (by omega)).mono (by rintro e w' ⟨v', rfl, h1, _, hb⟩; exact ⟨_, rfl, ⟨v', rfl, h1⟩, hS.trans (hb.mono hS.size)⟩)⟩ ?_
  rintro _ a w ⟨o1, rfl, ho1⟩ hF hS
  refine hcall (i := 3) (o := ops_se10[3]'(show 3 < ops_se10.size by rw [size_se10]; decide)) hF 65 true (.bool true) (Array.getElem?_eq_getElem (show 3 < ops_se10.size by rw [size_se10]; decide)) (by kernel_rfl) (by decide) (by kernel_rfl) (want_n (by kernel_rfl)) (fun hW => ⟨16, #[.agg #[.int .u64 (x : Int), o1], .agg #[.int .u64 (x : Int), v8]], rrun_call2 (fn := 16) (t := 33) (u := 33) rfl (by kernel_rfl) (by kernel_rfl) (hF.ev 63 (.agg #[.int .u64 (x : Int), o1]) rfl) (hF.ev 64 (.agg #[.int .u64 (x : Int), v8]) rfl), (rsame_is o1 v8 x L6 w ho1 (r8.below hS) (by omega)).mono (fun e w' ⟨h, hb⟩ => ⟨h, hS.trans (hb.mono hS.size)⟩)⟩) hS (fun a w hF hS => ?_)
  rw [show cond true (.bool true) undef = .bool true from rfl] at hF
  refine hst (i := 4) (o := ops_se10[4]'(show 4 < ops_se10.size by rw [size_se10]; decide)) hF 66 true (.bool true) (Array.getElem?_eq_getElem (show 4 < ops_se10.size by rw [size_se10]; decide)) (by kernel_rfl) (by decide) (by kernel_rfl) (by kernel_rfl) (by kernel_rfl) (hQ _ _) (want_n (by kernel_rfl)) (fun hW w hS => rrun_move (x := .tmp 65) (.inl (by kernel_rfl)) (hF.ev 65 (.bool true) rfl)) hS (fun a hF => ?_)
  rw [show cond true (.bool true) undef = .bool true from rfl] at hF
  refine hst (i := 5) (o := ops_se10[5]'(show 5 < ops_se10.size by rw [size_se10]; decide)) hF 67 true (.agg #[.int .u64 (x : Int), v7]) (Array.getElem?_eq_getElem (show 5 < ops_se10.size by rw [size_se10]; decide)) (by kernel_rfl) (by decide) (by kernel_rfl) (by kernel_rfl) (by kernel_rfl) (hQ _ _) (Eq.trans (b := (true == true)) (want_b (gi := 4) (g := 66) (c := true) hF (by kernel_rfl) (by kernel_rfl) rfl) rfl) (fun hW w hS => rrun_load (ty := 25) (x := .tmp 7) (by kernel_rfl) (hF.ev 7 (ptr k7 0) rfl) (rld_ntree ((hS.block _ (lt_of_block h7)).trans h7))) hS (fun a hF => ?_)
  rw [show cond true (.agg #[.int .u64 (x : Int), v7]) undef = .agg #[.int .u64 (x : Int), v7] from rfl] at hF
  refine hst (i := 7) (o := ops_se10[7]'(show 7 < ops_se10.size by rw [size_se10]; decide)) hF 69 true (.agg #[.int .u64 (x : Int), v9]) (Array.getElem?_eq_getElem (show 7 < ops_se10.size by rw [size_se10]; decide)) (by kernel_rfl) (by decide) (by kernel_rfl) (by kernel_rfl) (by kernel_rfl) (hQ _ _) (Eq.trans (b := (true == true)) (want_b (gi := 4) (g := 66) (c := true) hF (by kernel_rfl) (by kernel_rfl) rfl) rfl) (fun hW w hS => rrun_load (ty := 33) (x := .tmp 9) (by kernel_rfl) (hF.ev 9 (ptr k9 0) rfl) (rld_rtree ((hS.block _ (lt_of_block h9)).trans h9))) hS (fun a hF => ?_)
  rw [show cond true (.agg #[.int .u64 (x : Int), v9]) undef = .agg #[.int .u64 (x : Int), v9] from rfl] at hF
  refine hcallx (i := 6) (o := ops_se10[6]'(show 6 < ops_se10.size by rw [size_se10]; decide)) (R := (fun v w' => ∃ v', v = .agg #[.int .u64 (x : Int), v'] ∧ NodsAt w' v' L7)) hF 68 (Array.getElem?_eq_getElem (show 6 < ops_se10.size by rw [size_se10]; decide)) (by kernel_rfl) (by decide) (by kernel_rfl) (Eq.trans (b := (true == true)) (want_b (gi := 4) (g := 66) (c := true) hF (by kernel_rfl) (by kernel_rfl) rfl) rfl) ⟨10, #[.agg #[.int .u64 (x : Int), v7]], rrun_call1 (fn := 10) (t := 25) rfl (by kernel_rfl) (by kernel_rfl) (hF.ev 67 (.agg #[.int .u64 (x : Int), v7]) rfl), (of14_any v7 x L7 w (r7.below hS) (by omega)).mono (by rintro e w' ⟨v', rfl, h1, _, hb⟩; exact ⟨_, rfl, ⟨v', rfl, h1⟩, hS.trans (hb.mono hS.size)⟩)⟩ ?_
  rintro _ a w ⟨o2, rfl, ho2⟩ hF hS
  refine hcall (i := 8) (o := ops_se10[8]'(show 8 < ops_se10.size by rw [size_se10]; decide)) hF 70 true (.bool true) (Array.getElem?_eq_getElem (show 8 < ops_se10.size by rw [size_se10]; decide)) (by kernel_rfl) (by decide) (by kernel_rfl) (Eq.trans (b := (true == true)) (want_b (gi := 4) (g := 66) (c := true) hF (by kernel_rfl) (by kernel_rfl) rfl) rfl) (fun hW => ⟨16, #[.agg #[.int .u64 (x : Int), o2], .agg #[.int .u64 (x : Int), v9]], rrun_call2 (fn := 16) (t := 33) (u := 33) rfl (by kernel_rfl) (by kernel_rfl) (hF.ev 68 (.agg #[.int .u64 (x : Int), o2]) rfl) (hF.ev 69 (.agg #[.int .u64 (x : Int), v9]) rfl), (rsame_is o2 v9 x L7 w ho2 (r9.below hS) (by omega)).mono (fun e w' ⟨h, hb⟩ => ⟨h, hS.trans (hb.mono hS.size)⟩)⟩) hS (fun a w hF hS => ?_)
  rw [show cond true (.bool true) undef = .bool true from rfl] at hF
  refine hst (i := 9) (o := ops_se10[9]'(show 9 < ops_se10.size by rw [size_se10]; decide)) hF 71 true (.bool true) (Array.getElem?_eq_getElem (show 9 < ops_se10.size by rw [size_se10]; decide)) (by kernel_rfl) (by decide) (by kernel_rfl) (by kernel_rfl) (by kernel_rfl) (hQ _ _) (want_n (by kernel_rfl)) (fun hW w hS => brun_pickt (x := .tmp 66) (y := .tmp 70) (z := .const (.bool false)) (by kernel_rfl) (hF.ev 66 _ rfl) rfl (hF.ev 70 _ rfl)) hS (fun a hF => ?_)
  rw [show cond true (.bool true) undef = .bool true from rfl] at hF
  refine hst (i := 10) (o := ops_se10[10]'(show 10 < ops_se10.size by rw [size_se10]; decide)) hF 72 true (.bool true) (Array.getElem?_eq_getElem (show 10 < ops_se10.size by rw [size_se10]; decide)) (by kernel_rfl) (by decide) (by kernel_rfl) (by kernel_rfl) (by kernel_rfl) (hQ _ _) (want_n (by kernel_rfl)) (fun hW w hS => rrun_move (x := .tmp 71) (.inl (by kernel_rfl)) (hF.ev 71 (.bool true) rfl)) hS (fun a hF => ?_)
  rw [show cond true (.bool true) undef = .bool true from rfl] at hF
  refine hst (i := 11) (o := ops_se10[11]'(show 11 < ops_se10.size by rw [size_se10]; decide)) hF 73 true (.agg #[.int .u64 (x : Int), v2]) (Array.getElem?_eq_getElem (show 11 < ops_se10.size by rw [size_se10]; decide)) (by kernel_rfl) (by decide) (by kernel_rfl) (by kernel_rfl) (by kernel_rfl) (hQ _ _) (Eq.trans (b := (true == true)) (want_b (gi := 10) (g := 72) (c := true) hF (by kernel_rfl) (by kernel_rfl) rfl) rfl) (fun hW w hS => rrun_load (ty := 25) (x := .tmp 2) (by kernel_rfl) (hF.ev 2 (ptr k2 0) rfl) (rld_ntree ((hS.block _ (lt_of_block h2)).trans h2))) hS (fun a hF => ?_)
  rw [show cond true (.agg #[.int .u64 (x : Int), v2]) undef = .agg #[.int .u64 (x : Int), v2] from rfl] at hF
  refine hst (i := 13) (o := ops_se10[13]'(show 13 < ops_se10.size by rw [size_se10]; decide)) hF 75 true (.agg #[.int .u64 (x : Int), v5]) (Array.getElem?_eq_getElem (show 13 < ops_se10.size by rw [size_se10]; decide)) (by kernel_rfl) (by decide) (by kernel_rfl) (by kernel_rfl) (by kernel_rfl) (hQ _ _) (Eq.trans (b := (true == true)) (want_b (gi := 10) (g := 72) (c := true) hF (by kernel_rfl) (by kernel_rfl) rfl) rfl) (fun hW w hS => rrun_load (ty := 33) (x := .tmp 5) (by kernel_rfl) (hF.ev 5 (ptr k5 0) rfl) (rld_rtree ((hS.block _ (lt_of_block h5)).trans h5))) hS (fun a hF => ?_)
  rw [show cond true (.agg #[.int .u64 (x : Int), v5]) undef = .agg #[.int .u64 (x : Int), v5] from rfl] at hF
  refine hcallx (i := 12) (o := ops_se10[12]'(show 12 < ops_se10.size by rw [size_se10]; decide)) (R := (fun v w' => ∃ v', v = .agg #[.int .u64 (x : Int), v'] ∧ NodsAt w' v' l)) hF 74 (Array.getElem?_eq_getElem (show 12 < ops_se10.size by rw [size_se10]; decide)) (by kernel_rfl) (by decide) (by kernel_rfl) (Eq.trans (b := (true == true)) (want_b (gi := 10) (g := 72) (c := true) hF (by kernel_rfl) (by kernel_rfl) rfl) rfl) ⟨10, #[.agg #[.int .u64 (x : Int), v2]], rrun_call1 (fn := 10) (t := 25) rfl (by kernel_rfl) (by kernel_rfl) (hF.ev 73 (.agg #[.int .u64 (x : Int), v2]) rfl), (of14_any v2 x l w (r2.below hS) (by omega)).mono (by rintro e w' ⟨v', rfl, h1, _, hb⟩; exact ⟨_, rfl, ⟨v', rfl, h1⟩, hS.trans (hb.mono hS.size)⟩)⟩ ?_
  rintro _ a w ⟨o3, rfl, ho3⟩ hF hS
  refine hcall (i := 14) (o := ops_se10[14]'(show 14 < ops_se10.size by rw [size_se10]; decide)) hF 76 true (.bool true) (Array.getElem?_eq_getElem (show 14 < ops_se10.size by rw [size_se10]; decide)) (by kernel_rfl) (by decide) (by kernel_rfl) (Eq.trans (b := (true == true)) (want_b (gi := 10) (g := 72) (c := true) hF (by kernel_rfl) (by kernel_rfl) rfl) rfl) (fun hW => ⟨16, #[.agg #[.int .u64 (x : Int), o3], .agg #[.int .u64 (x : Int), v5]], rrun_call2 (fn := 16) (t := 33) (u := 33) rfl (by kernel_rfl) (by kernel_rfl) (hF.ev 74 (.agg #[.int .u64 (x : Int), o3]) rfl) (hF.ev 75 (.agg #[.int .u64 (x : Int), v5]) rfl), (rsame_is o3 v5 x l w ho3 (r5.below hS) (by omega)).mono (fun e w' ⟨h, hb⟩ => ⟨h, hS.trans (hb.mono hS.size)⟩)⟩) hS (fun a w hF hS => ?_)
  rw [show cond true (.bool true) undef = .bool true from rfl] at hF
  refine hst (i := 15) (o := ops_se10[15]'(show 15 < ops_se10.size by rw [size_se10]; decide)) hF 77 true (.bool true) (Array.getElem?_eq_getElem (show 15 < ops_se10.size by rw [size_se10]; decide)) (by kernel_rfl) (by decide) (by kernel_rfl) (by kernel_rfl) (by kernel_rfl) (hQ _ _) (want_n (by kernel_rfl)) (fun hW w hS => brun_pickt (x := .tmp 72) (y := .tmp 76) (z := .const (.bool false)) (by kernel_rfl) (hF.ev 72 _ rfl) rfl (hF.ev 76 _ rfl)) hS (fun a hF => ?_)
  rw [show cond true (.bool true) undef = .bool true from rfl] at hF
  refine hst (i := 16) (o := ops_se10[16]'(show 16 < ops_se10.size by rw [size_se10]; decide)) hF 78 true (.bool true) (Array.getElem?_eq_getElem (show 16 < ops_se10.size by rw [size_se10]; decide)) (by kernel_rfl) (by decide) (by kernel_rfl) (by kernel_rfl) (by kernel_rfl) (hQ _ _) (want_n (by kernel_rfl)) (fun hW w hS => rrun_move (x := .tmp 77) (.inl (by kernel_rfl)) (hF.ev 77 (.bool true) rfl)) hS (fun a hF => ?_)
  rw [show cond true (.bool true) undef = .bool true from rfl] at hF
  refine hst (i := 17) (o := ops_se10[17]'(show 17 < ops_se10.size by rw [size_se10]; decide)) hF 79 true (.agg #[.int .u64 (x : Int), v6]) (Array.getElem?_eq_getElem (show 17 < ops_se10.size by rw [size_se10]; decide)) (by kernel_rfl) (by decide) (by kernel_rfl) (by kernel_rfl) (by kernel_rfl) (hQ _ _) (Eq.trans (b := (true == true)) (want_b (gi := 16) (g := 78) (c := true) hF (by kernel_rfl) (by kernel_rfl) rfl) rfl) (fun hW w hS => rrun_load (ty := 25) (x := .tmp 6) (by kernel_rfl) (hF.ev 6 (ptr k6 0) rfl) (rld_ntree ((hS.block _ (lt_of_block h6)).trans h6))) hS (fun a hF => ?_)
  rw [show cond true (.agg #[.int .u64 (x : Int), v6]) undef = .agg #[.int .u64 (x : Int), v6] from rfl] at hF
  refine hst (i := 18) (o := ops_se10[18]'(show 18 < ops_se10.size by rw [size_se10]; decide)) hF 80 true (.agg #[.int .u64 (x : Int), v2]) (Array.getElem?_eq_getElem (show 18 < ops_se10.size by rw [size_se10]; decide)) (by kernel_rfl) (by decide) (by kernel_rfl) (by kernel_rfl) (by kernel_rfl) (hQ _ _) (Eq.trans (b := (true == true)) (want_b (gi := 16) (g := 78) (c := true) hF (by kernel_rfl) (by kernel_rfl) rfl) rfl) (fun hW w hS => rrun_load (ty := 25) (x := .tmp 2) (by kernel_rfl) (hF.ev 2 (ptr k2 0) rfl) (rld_ntree ((hS.block _ (lt_of_block h2)).trans h2))) hS (fun a hF => ?_)
  rw [show cond true (.agg #[.int .u64 (x : Int), v2]) undef = .agg #[.int .u64 (x : Int), v2] from rfl] at hF
  refine hst (i := 20) (o := ops_se10[20]'(show 20 < ops_se10.size by rw [size_se10]; decide)) hF 82 true (.agg #[.int .u64 (x : Int), v8]) (Array.getElem?_eq_getElem (show 20 < ops_se10.size by rw [size_se10]; decide)) (by kernel_rfl) (by decide) (by kernel_rfl) (by kernel_rfl) (by kernel_rfl) (hQ _ _) (Eq.trans (b := (true == true)) (want_b (gi := 16) (g := 78) (c := true) hF (by kernel_rfl) (by kernel_rfl) rfl) rfl) (fun hW w hS => rrun_load (ty := 33) (x := .tmp 8) (by kernel_rfl) (hF.ev 8 (ptr k8 0) rfl) (rld_rtree ((hS.block _ (lt_of_block h8)).trans h8))) hS (fun a hF => ?_)
  rw [show cond true (.agg #[.int .u64 (x : Int), v8]) undef = .agg #[.int .u64 (x : Int), v8] from rfl] at hF
  refine hst (i := 21) (o := ops_se10[21]'(show 21 < ops_se10.size by rw [size_se10]; decide)) hF 83 true (.agg #[.int .u64 (x : Int), v5]) (Array.getElem?_eq_getElem (show 21 < ops_se10.size by rw [size_se10]; decide)) (by kernel_rfl) (by decide) (by kernel_rfl) (by kernel_rfl) (by kernel_rfl) (hQ _ _) (Eq.trans (b := (true == true)) (want_b (gi := 16) (g := 78) (c := true) hF (by kernel_rfl) (by kernel_rfl) rfl) rfl) (fun hW w hS => rrun_load (ty := 33) (x := .tmp 5) (by kernel_rfl) (hF.ev 5 (ptr k5 0) rfl) (rld_rtree ((hS.block _ (lt_of_block h5)).trans h5))) hS (fun a hF => ?_)
  rw [show cond true (.agg #[.int .u64 (x : Int), v5]) undef = .agg #[.int .u64 (x : Int), v5] from rfl] at hF
  refine hcall (i := 19) (o := ops_se10[19]'(show 19 < ops_se10.size by rw [size_se10]; decide)) hF 81 true (.bool (eqL L6 l)) (Array.getElem?_eq_getElem (show 19 < ops_se10.size by rw [size_se10]; decide)) (by kernel_rfl) (by decide) (by kernel_rfl) (Eq.trans (b := (true == true)) (want_b (gi := 16) (g := 78) (c := true) hF (by kernel_rfl) (by kernel_rfl) rfl) rfl) (fun hW => ⟨17, #[.agg #[.int .u64 (x : Int), v6], .agg #[.int .u64 (x : Int), v2]], rrun_call2 (fn := 17) (t := 25) (u := 25) rfl (by kernel_rfl) (by kernel_rfl) (hF.ev 79 (.agg #[.int .u64 (x : Int), v6]) rfl) (hF.ev 80 (.agg #[.int .u64 (x : Int), v2]) rfl), (nsame_eq v6 v2 x L6 l w (r6.below hS) (r2.below hS) (by omega) (by omega)).mono (fun e w' ⟨h, hb⟩ => ⟨h, hS.trans (hb.mono hS.size)⟩)⟩) hS (fun a w hF hS => ?_)
  rw [show cond true (.bool (eqL L6 l)) undef = .bool (eqL L6 l) from rfl] at hF
  refine hcall (i := 22) (o := ops_se10[22]'(show 22 < ops_se10.size by rw [size_se10]; decide)) hF 84 true (.bool (eqL L6 l)) (Array.getElem?_eq_getElem (show 22 < ops_se10.size by rw [size_se10]; decide)) (by kernel_rfl) (by decide) (by kernel_rfl) (Eq.trans (b := (true == true)) (want_b (gi := 16) (g := 78) (c := true) hF (by kernel_rfl) (by kernel_rfl) rfl) rfl) (fun hW => ⟨16, #[.agg #[.int .u64 (x : Int), v8], .agg #[.int .u64 (x : Int), v5]], rrun_call2 (fn := 16) (t := 33) (u := 33) rfl (by kernel_rfl) (by kernel_rfl) (hF.ev 82 (.agg #[.int .u64 (x : Int), v8]) rfl) (hF.ev 83 (.agg #[.int .u64 (x : Int), v5]) rfl), (rsame_eq v8 v5 x L6 l w (r8.below hS) (r5.below hS) (by omega) (by omega)).mono (fun e w' ⟨h, hb⟩ => ⟨h, hS.trans (hb.mono hS.size)⟩)⟩) hS (fun a w hF hS => ?_)
  rw [show cond true (.bool (eqL L6 l)) undef = .bool (eqL L6 l) from rfl] at hF
  refine hst (i := 23) (o := ops_se10[23]'(show 23 < ops_se10.size by rw [size_se10]; decide)) hF 85 true (.bool true) (Array.getElem?_eq_getElem (show 23 < ops_se10.size by rw [size_se10]; decide)) (by kernel_rfl) (by decide) (by kernel_rfl) (by kernel_rfl) (by kernel_rfl) (hQ _ _) (Eq.trans (b := (true == true)) (want_b (gi := 16) (g := 78) (c := true) hF (by kernel_rfl) (by kernel_rfl) rfl) rfl) (fun hW w hS => rrun_bin (op := .eql) (ty := 4) (ty2 := 4) (x := .tmp 81) (y := .tmp 84) (u := .bool (eqL L6 l)) (v := .bool (eqL L6 l)) (by kernel_rfl) (hF.ev 81 (.bool (eqL L6 l)) rfl) (hF.ev 84 (.bool (eqL L6 l)) rfl) (by kernel_rfl) (beq_same _ w)) hS (fun a hF => ?_)
  rw [show cond true (.bool true) undef = .bool true from rfl] at hF
  refine hst (i := 24) (o := ops_se10[24]'(show 24 < ops_se10.size by rw [size_se10]; decide)) hF 86 true (.bool true) (Array.getElem?_eq_getElem (show 24 < ops_se10.size by rw [size_se10]; decide)) (by kernel_rfl) (by decide) (by kernel_rfl) (by kernel_rfl) (by kernel_rfl) (hQ _ _) (want_n (by kernel_rfl)) (fun hW w hS => brun_pickt (x := .tmp 78) (y := .tmp 85) (z := .const (.bool false)) (by kernel_rfl) (hF.ev 78 _ rfl) rfl (hF.ev 85 _ rfl)) hS (fun a hF => ?_)
  rw [show cond true (.bool true) undef = .bool true from rfl] at hF
  refine hst (i := 25) (o := ops_se10[25]'(show 25 < ops_se10.size by rw [size_se10]; decide)) hF 87 true (.bool true) (Array.getElem?_eq_getElem (show 25 < ops_se10.size by rw [size_se10]; decide)) (by kernel_rfl) (by decide) (by kernel_rfl) (by kernel_rfl) (by kernel_rfl) (hQ _ _) (want_n (by kernel_rfl)) (fun hW w hS => rrun_move (x := .tmp 86) (.inl (by kernel_rfl)) (hF.ev 86 (.bool true) rfl)) hS (fun a hF => ?_)
  rw [show cond true (.bool true) undef = .bool true from rfl] at hF
  refine hst (i := 26) (o := ops_se10[26]'(show 26 < ops_se10.size by rw [size_se10]; decide)) hF 88 true (.agg #[.int .u64 (x : Int), v7]) (Array.getElem?_eq_getElem (show 26 < ops_se10.size by rw [size_se10]; decide)) (by kernel_rfl) (by decide) (by kernel_rfl) (by kernel_rfl) (by kernel_rfl) (hQ _ _) (Eq.trans (b := (true == true)) (want_b (gi := 25) (g := 87) (c := true) hF (by kernel_rfl) (by kernel_rfl) rfl) rfl) (fun hW w hS => rrun_load (ty := 25) (x := .tmp 7) (by kernel_rfl) (hF.ev 7 (ptr k7 0) rfl) (rld_ntree ((hS.block _ (lt_of_block h7)).trans h7))) hS (fun a hF => ?_)
  rw [show cond true (.agg #[.int .u64 (x : Int), v7]) undef = .agg #[.int .u64 (x : Int), v7] from rfl] at hF
  refine hst (i := 27) (o := ops_se10[27]'(show 27 < ops_se10.size by rw [size_se10]; decide)) hF 89 true (.agg #[.int .u64 (x : Int), v2]) (Array.getElem?_eq_getElem (show 27 < ops_se10.size by rw [size_se10]; decide)) (by kernel_rfl) (by decide) (by kernel_rfl) (by kernel_rfl) (by kernel_rfl) (hQ _ _) (Eq.trans (b := (true == true)) (want_b (gi := 25) (g := 87) (c := true) hF (by kernel_rfl) (by kernel_rfl) rfl) rfl) (fun hW w hS => rrun_load (ty := 25) (x := .tmp 2) (by kernel_rfl) (hF.ev 2 (ptr k2 0) rfl) (rld_ntree ((hS.block _ (lt_of_block h2)).trans h2))) hS (fun a hF => ?_)
  rw [show cond true (.agg #[.int .u64 (x : Int), v2]) undef = .agg #[.int .u64 (x : Int), v2] from rfl] at hF
  refine hst (i := 29) (o := ops_se10[29]'(show 29 < ops_se10.size by rw [size_se10]; decide)) hF 91 true (.agg #[.int .u64 (x : Int), v9]) (Array.getElem?_eq_getElem (show 29 < ops_se10.size by rw [size_se10]; decide)) (by kernel_rfl) (by decide) (by kernel_rfl) (by kernel_rfl) (by kernel_rfl) (hQ _ _) (Eq.trans (b := (true == true)) (want_b (gi := 25) (g := 87) (c := true) hF (by kernel_rfl) (by kernel_rfl) rfl) rfl) (fun hW w hS => rrun_load (ty := 33) (x := .tmp 9) (by kernel_rfl) (hF.ev 9 (ptr k9 0) rfl) (rld_rtree ((hS.block _ (lt_of_block h9)).trans h9))) hS (fun a hF => ?_)
  rw [show cond true (.agg #[.int .u64 (x : Int), v9]) undef = .agg #[.int .u64 (x : Int), v9] from rfl] at hF
  refine hst (i := 30) (o := ops_se10[30]'(show 30 < ops_se10.size by rw [size_se10]; decide)) hF 92 true (.agg #[.int .u64 (x : Int), v5]) (Array.getElem?_eq_getElem (show 30 < ops_se10.size by rw [size_se10]; decide)) (by kernel_rfl) (by decide) (by kernel_rfl) (by kernel_rfl) (by kernel_rfl) (hQ _ _) (Eq.trans (b := (true == true)) (want_b (gi := 25) (g := 87) (c := true) hF (by kernel_rfl) (by kernel_rfl) rfl) rfl) (fun hW w hS => rrun_load (ty := 33) (x := .tmp 5) (by kernel_rfl) (hF.ev 5 (ptr k5 0) rfl) (rld_rtree ((hS.block _ (lt_of_block h5)).trans h5))) hS (fun a hF => ?_)
  rw [show cond true (.agg #[.int .u64 (x : Int), v5]) undef = .agg #[.int .u64 (x : Int), v5] from rfl] at hF
  refine hcall (i := 28) (o := ops_se10[28]'(show 28 < ops_se10.size by rw [size_se10]; decide)) hF 90 true (.bool (eqL L7 l)) (Array.getElem?_eq_getElem (show 28 < ops_se10.size by rw [size_se10]; decide)) (by kernel_rfl) (by decide) (by kernel_rfl) (Eq.trans (b := (true == true)) (want_b (gi := 25) (g := 87) (c := true) hF (by kernel_rfl) (by kernel_rfl) rfl) rfl) (fun hW => ⟨17, #[.agg #[.int .u64 (x : Int), v7], .agg #[.int .u64 (x : Int), v2]], rrun_call2 (fn := 17) (t := 25) (u := 25) rfl (by kernel_rfl) (by kernel_rfl) (hF.ev 88 (.agg #[.int .u64 (x : Int), v7]) rfl) (hF.ev 89 (.agg #[.int .u64 (x : Int), v2]) rfl), (nsame_eq v7 v2 x L7 l w (r7.below hS) (r2.below hS) (by omega) (by omega)).mono (fun e w' ⟨h, hb⟩ => ⟨h, hS.trans (hb.mono hS.size)⟩)⟩) hS (fun a w hF hS => ?_)
  rw [show cond true (.bool (eqL L7 l)) undef = .bool (eqL L7 l) from rfl] at hF
  refine hcall (i := 31) (o := ops_se10[31]'(show 31 < ops_se10.size by rw [size_se10]; decide)) hF 93 true (.bool (eqL L7 l)) (Array.getElem?_eq_getElem (show 31 < ops_se10.size by rw [size_se10]; decide)) (by kernel_rfl) (by decide) (by kernel_rfl) (Eq.trans (b := (true == true)) (want_b (gi := 25) (g := 87) (c := true) hF (by kernel_rfl) (by kernel_rfl) rfl) rfl) (fun hW => ⟨16, #[.agg #[.int .u64 (x : Int), v9], .agg #[.int .u64 (x : Int), v5]], rrun_call2 (fn := 16) (t := 33) (u := 33) rfl (by kernel_rfl) (by kernel_rfl) (hF.ev 91 (.agg #[.int .u64 (x : Int), v9]) rfl) (hF.ev 92 (.agg #[.int .u64 (x : Int), v5]) rfl), (rsame_eq v9 v5 x L7 l w (r9.below hS) (r5.below hS) (by omega) (by omega)).mono (fun e w' ⟨h, hb⟩ => ⟨h, hS.trans (hb.mono hS.size)⟩)⟩) hS (fun a w hF hS => ?_)
  rw [show cond true (.bool (eqL L7 l)) undef = .bool (eqL L7 l) from rfl] at hF
  refine hst (i := 32) (o := ops_se10[32]'(show 32 < ops_se10.size by rw [size_se10]; decide)) hF 94 true (.bool true) (Array.getElem?_eq_getElem (show 32 < ops_se10.size by rw [size_se10]; decide)) (by kernel_rfl) (by decide) (by kernel_rfl) (by kernel_rfl) (by kernel_rfl) (hQ _ _) (Eq.trans (b := (true == true)) (want_b (gi := 25) (g := 87) (c := true) hF (by kernel_rfl) (by kernel_rfl) rfl) rfl) (fun hW w hS => rrun_bin (op := .eql) (ty := 4) (ty2 := 4) (x := .tmp 90) (y := .tmp 93) (u := .bool (eqL L7 l)) (v := .bool (eqL L7 l)) (by kernel_rfl) (hF.ev 90 (.bool (eqL L7 l)) rfl) (hF.ev 93 (.bool (eqL L7 l)) rfl) (by kernel_rfl) (beq_same _ w)) hS (fun a hF => ?_)
  rw [show cond true (.bool true) undef = .bool true from rfl] at hF
  refine hst (i := 33) (o := ops_se10[33]'(show 33 < ops_se10.size by rw [size_se10]; decide)) hF 95 true (.bool true) (Array.getElem?_eq_getElem (show 33 < ops_se10.size by rw [size_se10]; decide)) (by kernel_rfl) (by decide) (by kernel_rfl) (by kernel_rfl) (by kernel_rfl) (hQ _ _) (want_n (by kernel_rfl)) (fun hW w hS => brun_pickt (x := .tmp 87) (y := .tmp 94) (z := .const (.bool false)) (by kernel_rfl) (hF.ev 87 _ rfl) rfl (hF.ev 94 _ rfl)) hS (fun a hF => ?_)
  rw [show cond true (.bool true) undef = .bool true from rfl] at hF
  refine hst (i := 34) (o := ops_se10[34]'(show 34 < ops_se10.size by rw [size_se10]; decide)) hF 96 true (.bool true) (Array.getElem?_eq_getElem (show 34 < ops_se10.size by rw [size_se10]; decide)) (by kernel_rfl) (by decide) (by kernel_rfl) (by kernel_rfl) (by kernel_rfl) (hQ _ _) (want_n (by kernel_rfl)) (fun hW w hS => rrun_move (x := .tmp 95) (.inl (by kernel_rfl)) (hF.ev 95 (.bool true) rfl)) hS (fun a hF => ?_)
  rw [show cond true (.bool true) undef = .bool true from rfl] at hF
  refine hst (i := 35) (o := ops_se10[35]'(show 35 < ops_se10.size by rw [size_se10]; decide)) hF 97 true (.agg #[.int .u64 (x : Int), v2]) (Array.getElem?_eq_getElem (show 35 < ops_se10.size by rw [size_se10]; decide)) (by kernel_rfl) (by decide) (by kernel_rfl) (by kernel_rfl) (by kernel_rfl) (hQ _ _) (Eq.trans (b := (true == true)) (want_b (gi := 34) (g := 96) (c := true) hF (by kernel_rfl) (by kernel_rfl) rfl) rfl) (fun hW w hS => rrun_load (ty := 25) (x := .tmp 2) (by kernel_rfl) (hF.ev 2 (ptr k2 0) rfl) (rld_ntree ((hS.block _ (lt_of_block h2)).trans h2))) hS (fun a hF => ?_)
  rw [show cond true (.agg #[.int .u64 (x : Int), v2]) undef = .agg #[.int .u64 (x : Int), v2] from rfl] at hF
  refine hst (i := 36) (o := ops_se10[36]'(show 36 < ops_se10.size by rw [size_se10]; decide)) hF 98 true (.agg #[.int .u64 (x : Int), v2]) (Array.getElem?_eq_getElem (show 36 < ops_se10.size by rw [size_se10]; decide)) (by kernel_rfl) (by decide) (by kernel_rfl) (by kernel_rfl) (by kernel_rfl) (hQ _ _) (Eq.trans (b := (true == true)) (want_b (gi := 34) (g := 96) (c := true) hF (by kernel_rfl) (by kernel_rfl) rfl) rfl) (fun hW w hS => rrun_load (ty := 25) (x := .tmp 2) (by kernel_rfl) (hF.ev 2 (ptr k2 0) rfl) (rld_ntree ((hS.block _ (lt_of_block h2)).trans h2))) hS (fun a hF => ?_)
  rw [show cond true (.agg #[.int .u64 (x : Int), v2]) undef = .agg #[.int .u64 (x : Int), v2] from rfl] at hF
  refine hcall (i := 37) (o := ops_se10[37]'(show 37 < ops_se10.size by rw [size_se10]; decide)) hF 99 true (.bool true) (Array.getElem?_eq_getElem (show 37 < ops_se10.size by rw [size_se10]; decide)) (by kernel_rfl) (by decide) (by kernel_rfl) (Eq.trans (b := (true == true)) (want_b (gi := 34) (g := 96) (c := true) hF (by kernel_rfl) (by kernel_rfl) rfl) rfl) (fun hW => ⟨17, #[.agg #[.int .u64 (x : Int), v2], .agg #[.int .u64 (x : Int), v2]], rrun_call2 (fn := 17) (t := 25) (u := 25) rfl (by kernel_rfl) (by kernel_rfl) (hF.ev 97 (.agg #[.int .u64 (x : Int), v2]) rfl) (hF.ev 98 (.agg #[.int .u64 (x : Int), v2]) rfl), (nsame_is v2 v2 x l w (r2.below hS) (r2.below hS) (by omega)).mono (fun e w' ⟨h, hb⟩ => ⟨h, hS.trans (hb.mono hS.size)⟩)⟩) hS (fun a w hF hS => ?_)
  rw [show cond true (.bool true) undef = .bool true from rfl] at hF
  refine hst (i := 38) (o := ops_se10[38]'(show 38 < ops_se10.size by rw [size_se10]; decide)) hF 100 true (.bool true) (Array.getElem?_eq_getElem (show 38 < ops_se10.size by rw [size_se10]; decide)) (by kernel_rfl) (by decide) (by kernel_rfl) (by kernel_rfl) (by kernel_rfl) (hQ _ _) (want_n (by kernel_rfl)) (fun hW w hS => brun_pickt (x := .tmp 96) (y := .tmp 99) (z := .const (.bool false)) (by kernel_rfl) (hF.ev 96 _ rfl) rfl (hF.ev 99 _ rfl)) hS (fun a hF => ?_)
  rw [show cond true (.bool true) undef = .bool true from rfl] at hF
  refine hst (i := 39) (o := ops_se10[39]'(show 39 < ops_se10.size by rw [size_se10]; decide)) hF 4 true (.bool true) (Array.getElem?_eq_getElem (show 39 < ops_se10.size by rw [size_se10]; decide)) (by kernel_rfl) (by decide) (by kernel_rfl) (by kernel_rfl) (by kernel_rfl) (hQ _ _) (want_n (by kernel_rfl)) (fun hW w hS => rrun_move (x := .tmp 100) (.inr (by kernel_rfl)) (hF.ev 100 (.bool true) rfl)) hS (fun a hF => ?_)
  rw [show cond true (.bool true) undef = .bool true from rfl] at hF
  exact wpAnyH_done (by kernel_rfl) (hE _ _ (hF.sub ((4, .bool true) :: [(2, ptr k2 0), (5, ptr k5 0), (6, ptr k6 0), (7, ptr k7 0), (8, ptr k8 0), (9, ptr k9 0), (0, v_0), (1, v_1), (3, v_3)]) ⟨rfl, rfl, rfl, rfl, rfl, rfl, rfl, rfl, rfl, rfl, trivial⟩) hS) _
end
end Go.Proofs.YtpmlhmficmillaaGreat

namespace Go.Proofs.YtpmlhmficmillaaGreat
section
open Go.RowKit
set_option maxRecDepth 100000
set_option linter.unusedVariables false

set_option maxHeartbeats 6400000 in
theorem law_TreeSets (v : Value) (x : Nat) (l : List Nod) (n : Nod) (w : World) (hv : NodsAt w v l) (hok : ∀ n ∈ l, NodOk n) (hn : NodOk n) : Calls Tryz.prog 3 #[.agg #[.int .u64 (x : Int), v], .agg n.cells] w fun e w' => e = .returned (.bool true) ∧ Below w.heap.size w w' := by
  have mixed : Tryz.prog.follows Departure.mixedOrders = true := by first | kernel_rfl | decide
  obtain ⟨a, c, rfl, g1, g2⟩ := hv.form
  unfold maxLen at g2
  obtain ⟨W, hW⟩ : ∃ W, W = (w.alloc (.cells #[.int .u64 (x : Int), .slice a l.length c] 25)).alloc (.cells n.cells 28) := ⟨_, rfl⟩
  have hb0 : Below w.heap.size w W := by rw [hW]; exact ((Below.refl _ _).alloc (Nat.le_refl _) _).alloc (by simp) _
  have hx0 := hid (show W.heap[w.heap.size]? = some (.cells #[.int .u64 (x : Int), .slice a l.length c] 25 (0, 0)) by rw [hW, heap_alloc_old _ _ (by simp)]; exact heap_alloc_new _ _)
  have hy0 := hid (show W.heap[w.heap.size + 1]? = some (.cells n.cells 28 (0, 0)) by rw [hW]; exact heap2 _ _ _)
  have hc := hid (known14_any W)
  have hv0 := hid (hv.below hb0)
  replace hb0 := hid hb0
  replace hok := hid hok
  replace hn := hid hn
  clear hv
  rw [nod_cells] at hW ⊢
  go_enter Tryz.func3, Tryz.ntmps3
  go_wp2_with (rw [← hW]; replace hW := hid hW)
  refine hc.out.mono ?_
  rintro e w1 ⟨rfl, hb1⟩
  have hB := hid (sn hb0.out hb1)
  have tree := hid ((hb1.block _ (lt_of_block hx0.out)).trans hx0.out)
  have node := hid ((hb1.block _ (lt_of_block hy0.out)).trans hy0.out)
  have row := hid (hv0.out.below hb1)
  clear hc hb1 hx0 hy0 hb0 hv0
  have hm := hid (may14_any (.slice a l.length c) x l w1 row.out hok.out)
  have q0 := block_cell tree.out 0
  have q1 := block_cell tree.out 1
  go_wp2_with fail
  refine hm.out.mono ?_
  rintro e w2 ⟨b, rfl, hmay, hb2⟩
  replace hB := hid (sn hB.out hb2)
  have b2 := hid ((hb2.block _ (lt_of_block tree.out)).trans tree.out)
  have b3 := hid ((hb2.block _ (lt_of_block node.out)).trans node.out)
  have r2 := hid (row.out.below hb2)
  clear hm hb2 q0 q1 tree node row
  cases b with
  | false =>
    clear hmay
    go_wp2_with fail
    go_ret
    exact ⟨rfl, hB.out⟩
  | true =>
    obtain ⟨hOk0, _⟩ := hmay rfl
    have hl64 : l.length ≤ 64 := hOk0.few
    have hOk := hid hOk0
    clear hmay hOk0
    have s5 := hn.out.name
    have s6 := hn.out.uid
    have s7 := hn.out.gid
    have s8 := hn.out.muid
    have s11 := hn.out.data
    unfold maxLen at s5 s6 s7 s8 s11
    have c5 : w2.cell? ⟨w.heap.size + 1, 5, none⟩ = some (.string n.name) := block_cell b3.out 5
    have c6 : w2.cell? ⟨w.heap.size + 1, 6, none⟩ = some (.string n.uid) := block_cell b3.out 6
    have c7 : w2.cell? ⟨w.heap.size + 1, 7, none⟩ = some (.string n.gid) := block_cell b3.out 7
    have c8 : w2.cell? ⟨w.heap.size + 1, 8, none⟩ = some (.string n.muid) := block_cell b3.out 8
    have c11 : w2.cell? ⟨w.heap.size + 1, 11, none⟩ = some (.string n.data) := block_cell b3.out 11
    by_cases h0 : (100 : Int) < (n.name.size : Int)
    · go_wp2_with fail
      go_ret
      exact ⟨rfl, hB.out⟩
    by_cases h1 : (100 : Int) < (n.uid.size : Int)
    · go_wp2_with fail
      go_ret
      exact ⟨rfl, hB.out⟩
    by_cases h2 : (100 : Int) < (n.gid.size : Int)
    · go_wp2_with fail
      go_ret
      exact ⟨rfl, hB.out⟩
    by_cases h3 : (100 : Int) < (n.muid.size : Int)
    · go_wp2_with fail
      go_ret
      exact ⟨rfl, hB.out⟩
    by_cases h4 : (300 : Int) < (n.data.size : Int)
    · go_wp2_with fail
      go_ret
      exact ⟨rfl, hB.out⟩
    go_upto_region 5 with fail
    clear h0 h1 h2 h3 h4 c5 c6 c7 c8 c11 s5 s6 s7 s8 s11
    have hc := hid (of14_any (.slice a l.length c) x l w2 r2.out (by omega))
    have q0 := block_cell b2.out 0
    have q1 := block_cell b2.out 1
    go_wp2_with fail
    refine hc.out.mono ?_
    rintro e w5 ⟨v5, rfl, r5', _, hb5⟩
    obtain ⟨a5, c5, rfl, _, _⟩ := r5'.form
    clear hc
    obtain ⟨k5, hk5⟩ : ∃ k, k = w5.heap.size := ⟨_, rfl⟩
    obtain ⟨V5, hV5⟩ : ∃ V, V = w5.alloc (.cells #[.int .u64 (x : Int), .slice a5 l.length c5] 33) := ⟨_, rfl⟩
    have hbV : Below w5.heap.size w5 V5 := by rw [hV5]; exact (Below.refl _ _).alloc (Nat.le_refl _) _
    have b5 := hid (show V5.heap[k5]? = some (.cells #[.int .u64 (x : Int), .slice a5 l.length c5] 33 (0, 0)) by rw [hk5, hV5]; exact heap_alloc_new _ _)
    have r5 := hid (r5'.below hbV)
    have hbx := sn hb5 hbV
    replace b2 := hid ((hbx.block _ (lt_of_block b2.out)).trans b2.out)
    replace b3 := hid ((hbx.block _ (lt_of_block b3.out)).trans b3.out)
    replace r2 := hid (r2.out.below hbx)
    replace hB := hid (sn hB.out hbx)
    clear hbV hbx hb5 r5' q0 q1
    go_upto_region 6 with (rw [← hV5]; replace hV5 := hid hV5)
    try (rw [← hV5]; replace hV5 := hid hV5)
    rw [← hk5]
    replace hk5 := hid hk5
    have hc := hid (nset_all (.slice a l.length c) x l n V5 r2.out hOk.out.sort (by omega))
    have q0 := block_cell b2.out 0
    have q1 := block_cell b2.out 1
    go_wp2_with (refine wpList_load_row (by rfl) 28 (.tmp 3) (by rfl) (w.heap.size + 1) (by rfl) 28 n.cells (0, 0) _ b3.out Tryz.underlying28 (by rfl) (by kernel_rfl) ?_)
    refine hc.out.mono ?_
    rintro e w6 ⟨v6, rfl, r6', _, hb6⟩
    obtain ⟨L6, hL6⟩ : ∃ L6, L6 = setL l n := ⟨_, rfl⟩
    rw [← hL6] at r6'
    replace hL6 := hid hL6
    obtain ⟨a6, c6, rfl, _, _⟩ := r6'.form
    clear hc
    obtain ⟨k6, hk6⟩ : ∃ k, k = w6.heap.size := ⟨_, rfl⟩
    obtain ⟨V6, hV6⟩ : ∃ V, V = w6.alloc (.cells #[.int .u64 (x : Int), .slice a6 L6.length c6] 25) := ⟨_, rfl⟩
    have hbV : Below w6.heap.size w6 V6 := by rw [hV6]; exact (Below.refl _ _).alloc (Nat.le_refl _) _
    have b6 := hid (show V6.heap[k6]? = some (.cells #[.int .u64 (x : Int), .slice a6 L6.length c6] 25 (0, 0)) by rw [hk6, hV6]; exact heap_alloc_new _ _)
    have r6 := hid (r6'.below hbV)
    have hbx := sn hb6 hbV
    replace b2 := hid ((hbx.block _ (lt_of_block b2.out)).trans b2.out)
    replace b3 := hid ((hbx.block _ (lt_of_block b3.out)).trans b3.out)
    replace b5 := hid ((hbx.block _ (lt_of_block b5.out)).trans b5.out)
    replace r2 := hid (r2.out.below hbx)
    replace r5 := hid (r5.out.below hbx)
    replace hB := hid (sn hB.out hbx)
    clear hbV hbx hb6 r6' q0 q1
    go_upto_region 7 with (rw [← hV6]; replace hV6 := hid hV6)
    try (rw [← hV6]; replace hV6 := hid hV6)
    rw [← hk6]
    replace hk6 := hid hk6
    have hc := hid (ndrop_any (.slice a l.length c) x l n.path V6 r2.out (by omega))
    have q0 := block_cell b2.out 0
    have q1 := block_cell b2.out 1
    have p0 : V6.cell? ⟨w.heap.size + 1, 0, none⟩ = some (.int .u64 (n.path : Int)) := block_cell b3.out 0
    go_wp2_with fail
    refine hc.out.mono ?_
    rintro e w7 ⟨v7, rfl, r7', _, hb7⟩
    obtain ⟨L7, hL7⟩ : ∃ L7, L7 = dropL l n.path := ⟨_, rfl⟩
    rw [← hL7] at r7'
    replace hL7 := hid hL7
    obtain ⟨a7, c7, rfl, _, _⟩ := r7'.form
    clear hc p0
    obtain ⟨k7, hk7⟩ : ∃ k, k = w7.heap.size := ⟨_, rfl⟩
    obtain ⟨V7, hV7⟩ : ∃ V, V = w7.alloc (.cells #[.int .u64 (x : Int), .slice a7 L7.length c7] 25) := ⟨_, rfl⟩
    have hbV : Below w7.heap.size w7 V7 := by rw [hV7]; exact (Below.refl _ _).alloc (Nat.le_refl _) _
    have b7 := hid (show V7.heap[k7]? = some (.cells #[.int .u64 (x : Int), .slice a7 L7.length c7] 25 (0, 0)) by rw [hk7, hV7]; exact heap_alloc_new _ _)
    have r7 := hid (r7'.below hbV)
    have hbx := sn hb7 hbV
    replace b2 := hid ((hbx.block _ (lt_of_block b2.out)).trans b2.out)
    replace b3 := hid ((hbx.block _ (lt_of_block b3.out)).trans b3.out)
    replace b5 := hid ((hbx.block _ (lt_of_block b5.out)).trans b5.out)
    replace b6 := hid ((hbx.block _ (lt_of_block b6.out)).trans b6.out)
    replace r2 := hid (r2.out.below hbx)
    replace r5 := hid (r5.out.below hbx)
    replace r6 := hid (r6.out.below hbx)
    replace hB := hid (sn hB.out hbx)
    clear hbV hbx hb7 r7' q0 q1
    go_upto_region 8 with (rw [← hV7]; replace hV7 := hid hV7)
    try (rw [← hV7]; replace hV7 := hid hV7)
    rw [← hk7]
    replace hk7 := hid hk7
    have hdr : Below V7.heap.size V7 V7.drew := (Below.refl _ _).drew
    have t3 : V7.drew.heap[w.heap.size + 1]? = some (.cells n.cells 28 (0, 0)) := b3.out
    have t5 : V7.drew.heap[k5]? = some (.cells #[.int .u64 (x : Int), .slice a5 l.length c5] 33 (0, 0)) := b5.out
    go_wp2_with fail
    refine wp_region_held (S := Below V7.drew.heap.size V7.drew) mixed ?_
    refine (show wpAnyH Tryz.prog .any ops_se8 _ _ _ _ _ _ → _ from fun h => h) ?_
    refine se8_all (w1 := V7.drew) (k3 := w.heap.size + 1) (k5 := k5) (x := x) (l := l) (n := n) (by omega) hOk.out.sort t3 t5 (r5.out.below hdr) (fun d u c a w h => by cases d <;> exact h) (FrL.of_all (by rfl) rfl ⟨rfl, rfl, rfl, rfl, rfl, rfl, rfl, rfl, rfl, rfl, rfl, rfl, rfl, rfl, rfl, rfl, rfl, rfl, rfl, rfl, rfl, rfl, rfl, rfl, rfl, rfl, rfl, rfl, rfl, rfl, rfl, rfl, rfl, rfl, rfl, rfl, rfl, rfl, rfl, rfl, rfl, rfl, rfl, rfl, rfl, rfl, rfl, rfl, rfl, rfl, rfl, rfl, rfl, rfl, rfl, rfl, rfl, rfl, rfl, rfl, rfl, rfl, rfl, rfl, rfl, rfl, rfl, rfl, rfl, rfl, rfl, rfl, rfl, rfl, rfl, rfl, rfl, rfl, rfl, rfl, rfl, rfl, rfl, rfl, rfl, rfl, rfl, rfl, rfl, rfl, rfl, rfl, rfl, rfl, rfl, rfl,  trivial⟩) (Below.refl _ _) (fun k8 v8 a' w8 hF hS hz8 r8' => ?_)
    have hbx := hdr.trans hS
    replace b2 := hid ((hbx.block _ (lt_of_block b2.out)).trans b2.out)
    replace b3 := hid ((hbx.block _ (lt_of_block b3.out)).trans b3.out)
    replace b5 := hid ((hbx.block _ (lt_of_block b5.out)).trans b5.out)
    replace b6 := hid ((hbx.block _ (lt_of_block b6.out)).trans b6.out)
    replace b7 := hid ((hbx.block _ (lt_of_block b7.out)).trans b7.out)
    replace r2 := hid (r2.out.below hbx)
    replace r5 := hid (r5.out.below hbx)
    replace r6 := hid (r6.out.below hbx)
    replace r7 := hid (r7.out.below hbx)
    replace hB := hid (sn hB.out hbx)
    have b8 := hid hz8
    have r8 := hid (show NodsAt w8 v8 L6 by rw [hL6.out, ← setR_eq hOk.out.sort]; exact r8')
    clear hbx hdr hS hz8 r8' t3 t5
    have he := frame_eq hF [_, _, .pointer (some ⟨w.heap.size, 0, none⟩), .pointer (some ⟨(w.heap.size + 1), 0, none⟩), _, .pointer (some ⟨k5, 0, none⟩), .pointer (some ⟨k6, 0, none⟩), .pointer (some ⟨k7, 0, none⟩), .pointer (some ⟨k8, 0, none⟩), _, _, _, _, _, _, _, _, _, _, _, _, _, _, _, _, _, _, _, _, _, _, _, _, _, _, _, _, _, _, _, _, _, _, _, _, _, _, _, _, _, _, _, _, _, a'.tmps.getD 54 undef, a'.tmps.getD 55 undef, a'.tmps.getD 56 undef, a'.tmps.getD 57 undef, _, _, _, _, _, _, _, _, _, _, _, _, _, _, _, _, _, _, _, _, _, _, _, _, _, _, _, _, _, _, _, _, _, _, _, _, _, _, _, _, _, _, _] (by rfl) ⟨hF.get 0 _ rfl, hF.get 1 _ rfl, hF.get 2 _ rfl, hF.get 3 _ rfl, hF.get 4 _ rfl, hF.get 5 _ rfl, hF.get 6 _ rfl, hF.get 7 _ rfl, hF.get 8 _ rfl, hF.get 9 _ rfl, hF.get 10 _ rfl, hF.get 11 _ rfl, hF.get 12 _ rfl, hF.get 13 _ rfl, hF.get 14 _ rfl, hF.get 15 _ rfl, hF.get 16 _ rfl, hF.get 17 _ rfl, hF.get 18 _ rfl, hF.get 19 _ rfl, hF.get 20 _ rfl, hF.get 21 _ rfl, hF.get 22 _ rfl, hF.get 23 _ rfl, hF.get 24 _ rfl, hF.get 25 _ rfl, hF.get 26 _ rfl, hF.get 27 _ rfl, hF.get 28 _ rfl, hF.get 29 _ rfl, hF.get 30 _ rfl, hF.get 31 _ rfl, hF.get 32 _ rfl, hF.get 33 _ rfl, hF.get 34 _ rfl, hF.get 35 _ rfl, hF.get 36 _ rfl, hF.get 37 _ rfl, hF.get 38 _ rfl, hF.get 39 _ rfl, hF.get 40 _ rfl, hF.get 41 _ rfl, hF.get 42 _ rfl, hF.get 43 _ rfl, hF.get 44 _ rfl, hF.get 45 _ rfl, hF.get 46 _ rfl, hF.get 47 _ rfl, hF.get 48 _ rfl, hF.get 49 _ rfl, hF.get 50 _ rfl, hF.get 51 _ rfl, hF.get 52 _ rfl, hF.get 53 _ rfl, hF.any 54 (by decide), hF.any 55 (by decide), hF.any 56 (by decide), hF.any 57 (by decide), hF.get 58 _ rfl, hF.get 59 _ rfl, hF.get 60 _ rfl, hF.get 61 _ rfl, hF.get 62 _ rfl, hF.get 63 _ rfl, hF.get 64 _ rfl, hF.get 65 _ rfl, hF.get 66 _ rfl, hF.get 67 _ rfl, hF.get 68 _ rfl, hF.get 69 _ rfl, hF.get 70 _ rfl, hF.get 71 _ rfl, hF.get 72 _ rfl, hF.get 73 _ rfl, hF.get 74 _ rfl, hF.get 75 _ rfl, hF.get 76 _ rfl, hF.get 77 _ rfl, hF.get 78 _ rfl, hF.get 79 _ rfl, hF.get 80 _ rfl, hF.get 81 _ rfl, hF.get 82 _ rfl, hF.get 83 _ rfl, hF.get 84 _ rfl, hF.get 85 _ rfl, hF.get 86 _ rfl, hF.get 87 _ rfl, hF.get 88 _ rfl, hF.get 89 _ rfl, hF.get 90 _ rfl, hF.get 91 _ rfl, hF.get 92 _ rfl, hF.get 93 _ rfl, hF.get 94 _ rfl, hF.get 95 _ rfl, hF.get 96 _ rfl, hF.get 97 _ rfl, hF.get 98 _ rfl, hF.get 99 _ rfl, hF.get 100 _ rfl, trivial⟩
    rw [he]
    clear he hF
    generalize a'.tmps.getD 54 undef = y54
    generalize a'.tmps.getD 55 undef = y55
    generalize a'.tmps.getD 56 undef = y56
    generalize a'.tmps.getD 57 undef = y57
    clear a'

    have hc := hid (rdrop_any (.slice a5 l.length c5) x l n.path w8 r5.out (by omega))
    have q0 := block_cell b5.out 0
    have q1 := block_cell b5.out 1
    have p0 : w8.cell? ⟨w.heap.size + 1, 0, none⟩ = some (.int .u64 (n.path : Int)) := block_cell b3.out 0
    go_wp2_with fail
    refine hc.out.mono ?_
    rintro e w9 ⟨v9, rfl, r9', _, hb9⟩
    rw [← hL7.out] at r9'
    obtain ⟨a9, c9, rfl, _, _⟩ := r9'.form
    clear hc p0
    obtain ⟨k9, hk9⟩ : ∃ k, k = w9.heap.size := ⟨_, rfl⟩
    obtain ⟨V9, hV9⟩ : ∃ V, V = w9.alloc (.cells #[.int .u64 (x : Int), .slice a9 L7.length c9] 33) := ⟨_, rfl⟩
    have hbV : Below w9.heap.size w9 V9 := by rw [hV9]; exact (Below.refl _ _).alloc (Nat.le_refl _) _
    have b9 := hid (show V9.heap[k9]? = some (.cells #[.int .u64 (x : Int), .slice a9 L7.length c9] 33 (0, 0)) by rw [hk9, hV9]; exact heap_alloc_new _ _)
    have r9 := hid (r9'.below hbV)
    have hbx := sn hb9 hbV
    replace b2 := hid ((hbx.block _ (lt_of_block b2.out)).trans b2.out)
    replace b3 := hid ((hbx.block _ (lt_of_block b3.out)).trans b3.out)
    replace b5 := hid ((hbx.block _ (lt_of_block b5.out)).trans b5.out)
    replace b6 := hid ((hbx.block _ (lt_of_block b6.out)).trans b6.out)
    replace b7 := hid ((hbx.block _ (lt_of_block b7.out)).trans b7.out)
    replace b8 := hid ((hbx.block _ (lt_of_block b8.out)).trans b8.out)
    replace r2 := hid (r2.out.below hbx)
    replace r5 := hid (r5.out.below hbx)
    replace r6 := hid (r6.out.below hbx)
    replace r7 := hid (r7.out.below hbx)
    replace r8 := hid (r8.out.below hbx)
    replace hB := hid (sn hB.out hbx)
    clear hbV hbx hb9 r9' q0 q1
    go_upto_region 10 with (rw [← hV9]; replace hV9 := hid hV9)
    try (rw [← hV9]; replace hV9 := hid hV9)
    rw [← hk9]
    replace hk9 := hid hk9
    have hdr : Below V9.heap.size V9 V9.drew := (Below.refl _ _).drew
    have hl6 : L6.length ≤ 1000 := by rw [hL6.out]; have : (setL l n).length ≤ l.length + 1 := setL_len hOk.out.sort n; omega
    have hl7 : L7.length ≤ 1000 := by rw [hL7.out]; have : (dropL l n.path).length ≤ l.length := List.length_filter_le _ _; omega
    obtain ⟨a8, c8, rfl, _, _⟩ := r8.out.form
    go_wp2_with fail
    refine wp_region_held (S := Below V9.drew.heap.size V9.drew) mixed ?_
    refine (show wpAnyH Tryz.prog .any ops_se10 _ _ _ _ _ _ → _ from fun h => h) ?_
    refine se10_all (w1 := V9.drew) (k2 := w.heap.size) (k5 := k5) (k6 := k6) (k7 := k7) (k8 := k8) (k9 := k9) (x := x) (l := l) (L6 := L6) (L7 := L7) (by omega) hl6 hl7 b2.out (r2.out.below hdr) b5.out (r5.out.below hdr) b6.out (r6.out.below hdr) b7.out (r7.out.below hdr) b8.out (r8.out.below hdr) b9.out (r9.out.below hdr) (fun d u c a w h => by cases d <;> exact h) (FrL.of_all (by rfl) rfl ⟨rfl, rfl, rfl, rfl, rfl, rfl, rfl, rfl, rfl, trivial⟩) (Below.refl _ _) (fun a' w' hF hS => ?_)
    have hfin := hid (hB.out.trans ((hdr.trans hS).mono hB.out.size))
    have he := frame_eq hF [_, _, .pointer (some ⟨w.heap.size, 0, none⟩), _, _, .pointer (some ⟨k5, 0, none⟩), .pointer (some ⟨k6, 0, none⟩), .pointer (some ⟨k7, 0, none⟩), .pointer (some ⟨k8, 0, none⟩), .pointer (some ⟨k9, 0, none⟩), a'.tmps.getD 10 undef, a'.tmps.getD 11 undef, a'.tmps.getD 12 undef, a'.tmps.getD 13 undef, a'.tmps.getD 14 undef, a'.tmps.getD 15 undef, a'.tmps.getD 16 undef, a'.tmps.getD 17 undef, a'.tmps.getD 18 undef, a'.tmps.getD 19 undef, a'.tmps.getD 20 undef, a'.tmps.getD 21 undef, a'.tmps.getD 22 undef, a'.tmps.getD 23 undef, a'.tmps.getD 24 undef, a'.tmps.getD 25 undef, a'.tmps.getD 26 undef, a'.tmps.getD 27 undef, a'.tmps.getD 28 undef, a'.tmps.getD 29 undef, a'.tmps.getD 30 undef, a'.tmps.getD 31 undef, a'.tmps.getD 32 undef, a'.tmps.getD 33 undef, a'.tmps.getD 34 undef, a'.tmps.getD 35 undef, a'.tmps.getD 36 undef, a'.tmps.getD 37 undef, a'.tmps.getD 38 undef, a'.tmps.getD 39 undef, a'.tmps.getD 40 undef, a'.tmps.getD 41 undef, a'.tmps.getD 42 undef, a'.tmps.getD 43 undef, a'.tmps.getD 44 undef, a'.tmps.getD 45 undef, a'.tmps.getD 46 undef, a'.tmps.getD 47 undef, a'.tmps.getD 48 undef, a'.tmps.getD 49 undef, a'.tmps.getD 50 undef, a'.tmps.getD 51 undef, a'.tmps.getD 52 undef, a'.tmps.getD 53 undef, a'.tmps.getD 54 undef, a'.tmps.getD 55 undef, a'.tmps.getD 56 undef, a'.tmps.getD 57 undef, a'.tmps.getD 58 undef, a'.tmps.getD 59 undef, a'.tmps.getD 60 undef, a'.tmps.getD 61 undef, a'.tmps.getD 62 undef, a'.tmps.getD 63 undef, a'.tmps.getD 64 undef, a'.tmps.getD 65 undef, a'.tmps.getD 66 undef, a'.tmps.getD 67 undef, a'.tmps.getD 68 undef, a'.tmps.getD 69 undef, a'.tmps.getD 70 undef, a'.tmps.getD 71 undef, a'.tmps.getD 72 undef, a'.tmps.getD 73 undef, a'.tmps.getD 74 undef, a'.tmps.getD 75 undef, a'.tmps.getD 76 undef, a'.tmps.getD 77 undef, a'.tmps.getD 78 undef, a'.tmps.getD 79 undef, a'.tmps.getD 80 undef, a'.tmps.getD 81 undef, a'.tmps.getD 82 undef, a'.tmps.getD 83 undef, a'.tmps.getD 84 undef, a'.tmps.getD 85 undef, a'.tmps.getD 86 undef, a'.tmps.getD 87 undef, a'.tmps.getD 88 undef, a'.tmps.getD 89 undef, a'.tmps.getD 90 undef, a'.tmps.getD 91 undef, a'.tmps.getD 92 undef, a'.tmps.getD 93 undef, a'.tmps.getD 94 undef, a'.tmps.getD 95 undef, a'.tmps.getD 96 undef, a'.tmps.getD 97 undef, a'.tmps.getD 98 undef, a'.tmps.getD 99 undef, a'.tmps.getD 100 undef] (by rfl) ⟨hF.get 0 _ rfl, hF.get 1 _ rfl, hF.get 2 _ rfl, hF.get 3 _ rfl, hF.get 4 _ rfl, hF.get 5 _ rfl, hF.get 6 _ rfl, hF.get 7 _ rfl, hF.get 8 _ rfl, hF.get 9 _ rfl, hF.any 10 (by decide), hF.any 11 (by decide), hF.any 12 (by decide), hF.any 13 (by decide), hF.any 14 (by decide), hF.any 15 (by decide), hF.any 16 (by decide), hF.any 17 (by decide), hF.any 18 (by decide), hF.any 19 (by decide), hF.any 20 (by decide), hF.any 21 (by decide), hF.any 22 (by decide), hF.any 23 (by decide), hF.any 24 (by decide), hF.any 25 (by decide), hF.any 26 (by decide), hF.any 27 (by decide), hF.any 28 (by decide), hF.any 29 (by decide), hF.any 30 (by decide), hF.any 31 (by decide), hF.any 32 (by decide), hF.any 33 (by decide), hF.any 34 (by decide), hF.any 35 (by decide), hF.any 36 (by decide), hF.any 37 (by decide), hF.any 38 (by decide), hF.any 39 (by decide), hF.any 40 (by decide), hF.any 41 (by decide), hF.any 42 (by decide), hF.any 43 (by decide), hF.any 44 (by decide), hF.any 45 (by decide), hF.any 46 (by decide), hF.any 47 (by decide), hF.any 48 (by decide), hF.any 49 (by decide), hF.any 50 (by decide), hF.any 51 (by decide), hF.any 52 (by decide), hF.any 53 (by decide), hF.any 54 (by decide), hF.any 55 (by decide), hF.any 56 (by decide), hF.any 57 (by decide), hF.any 58 (by decide), hF.any 59 (by decide), hF.any 60 (by decide), hF.any 61 (by decide), hF.any 62 (by decide), hF.any 63 (by decide), hF.any 64 (by decide), hF.any 65 (by decide), hF.any 66 (by decide), hF.any 67 (by decide), hF.any 68 (by decide), hF.any 69 (by decide), hF.any 70 (by decide), hF.any 71 (by decide), hF.any 72 (by decide), hF.any 73 (by decide), hF.any 74 (by decide), hF.any 75 (by decide), hF.any 76 (by decide), hF.any 77 (by decide), hF.any 78 (by decide), hF.any 79 (by decide), hF.any 80 (by decide), hF.any 81 (by decide), hF.any 82 (by decide), hF.any 83 (by decide), hF.any 84 (by decide), hF.any 85 (by decide), hF.any 86 (by decide), hF.any 87 (by decide), hF.any 88 (by decide), hF.any 89 (by decide), hF.any 90 (by decide), hF.any 91 (by decide), hF.any 92 (by decide), hF.any 93 (by decide), hF.any 94 (by decide), hF.any 95 (by decide), hF.any 96 (by decide), hF.any 97 (by decide), hF.any 98 (by decide), hF.any 99 (by decide), hF.any 100 (by decide), trivial⟩
    rw [he]
    clear he hF
    generalize a'.tmps.getD 10 undef = y10
    generalize a'.tmps.getD 11 undef = y11
    generalize a'.tmps.getD 12 undef = y12
    generalize a'.tmps.getD 13 undef = y13
    generalize a'.tmps.getD 14 undef = y14
    generalize a'.tmps.getD 15 undef = y15
    generalize a'.tmps.getD 16 undef = y16
    generalize a'.tmps.getD 17 undef = y17
    generalize a'.tmps.getD 18 undef = y18
    generalize a'.tmps.getD 19 undef = y19
    generalize a'.tmps.getD 20 undef = y20
    generalize a'.tmps.getD 21 undef = y21
    generalize a'.tmps.getD 22 undef = y22
    generalize a'.tmps.getD 23 undef = y23
    generalize a'.tmps.getD 24 undef = y24
    generalize a'.tmps.getD 25 undef = y25
    generalize a'.tmps.getD 26 undef = y26
    generalize a'.tmps.getD 27 undef = y27
    generalize a'.tmps.getD 28 undef = y28
    generalize a'.tmps.getD 29 undef = y29
    generalize a'.tmps.getD 30 undef = y30
    generalize a'.tmps.getD 31 undef = y31
    generalize a'.tmps.getD 32 undef = y32
    generalize a'.tmps.getD 33 undef = y33
    generalize a'.tmps.getD 34 undef = y34
    generalize a'.tmps.getD 35 undef = y35
    generalize a'.tmps.getD 36 undef = y36
    generalize a'.tmps.getD 37 undef = y37
    generalize a'.tmps.getD 38 undef = y38
    generalize a'.tmps.getD 39 undef = y39
    generalize a'.tmps.getD 40 undef = y40
    generalize a'.tmps.getD 41 undef = y41
    generalize a'.tmps.getD 42 undef = y42
    generalize a'.tmps.getD 43 undef = y43
    generalize a'.tmps.getD 44 undef = y44
    generalize a'.tmps.getD 45 undef = y45
    generalize a'.tmps.getD 46 undef = y46
    generalize a'.tmps.getD 47 undef = y47
    generalize a'.tmps.getD 48 undef = y48
    generalize a'.tmps.getD 49 undef = y49
    generalize a'.tmps.getD 50 undef = y50
    generalize a'.tmps.getD 51 undef = y51
    generalize a'.tmps.getD 52 undef = y52
    generalize a'.tmps.getD 53 undef = y53
    generalize a'.tmps.getD 54 undef = y54
    generalize a'.tmps.getD 55 undef = y55
    generalize a'.tmps.getD 56 undef = y56
    generalize a'.tmps.getD 57 undef = y57
    generalize a'.tmps.getD 58 undef = y58
    generalize a'.tmps.getD 59 undef = y59
    generalize a'.tmps.getD 60 undef = y60
    generalize a'.tmps.getD 61 undef = y61
    generalize a'.tmps.getD 62 undef = y62
    generalize a'.tmps.getD 63 undef = y63
    generalize a'.tmps.getD 64 undef = y64
    generalize a'.tmps.getD 65 undef = y65
    generalize a'.tmps.getD 66 undef = y66
    generalize a'.tmps.getD 67 undef = y67
    generalize a'.tmps.getD 68 undef = y68
    generalize a'.tmps.getD 69 undef = y69
    generalize a'.tmps.getD 70 undef = y70
    generalize a'.tmps.getD 71 undef = y71
    generalize a'.tmps.getD 72 undef = y72
    generalize a'.tmps.getD 73 undef = y73
    generalize a'.tmps.getD 74 undef = y74
    generalize a'.tmps.getD 75 undef = y75
    generalize a'.tmps.getD 76 undef = y76
    generalize a'.tmps.getD 77 undef = y77
    generalize a'.tmps.getD 78 undef = y78
    generalize a'.tmps.getD 79 undef = y79
    generalize a'.tmps.getD 80 undef = y80
    generalize a'.tmps.getD 81 undef = y81
    generalize a'.tmps.getD 82 undef = y82
    generalize a'.tmps.getD 83 undef = y83
    generalize a'.tmps.getD 84 undef = y84
    generalize a'.tmps.getD 85 undef = y85
    generalize a'.tmps.getD 86 undef = y86
    generalize a'.tmps.getD 87 undef = y87
    generalize a'.tmps.getD 88 undef = y88
    generalize a'.tmps.getD 89 undef = y89
    generalize a'.tmps.getD 90 undef = y90
    generalize a'.tmps.getD 91 undef = y91
    generalize a'.tmps.getD 92 undef = y92
    generalize a'.tmps.getD 93 undef = y93
    generalize a'.tmps.getD 94 undef = y94
    generalize a'.tmps.getD 95 undef = y95
    generalize a'.tmps.getD 96 undef = y96
    generalize a'.tmps.getD 97 undef = y97
    generalize a'.tmps.getD 98 undef = y98
    generalize a'.tmps.getD 99 undef = y99
    generalize a'.tmps.getD 100 undef = y100
    clear a'
    go_wp2_with fail
    go_ret
    exact ⟨rfl, hfin.out⟩
end
end Go.Proofs.YtpmlhmficmillaaGreat

namespace Go.Proofs.YtpmlhmficmillaaGreat
section
end
end Go.Proofs.YtpmlhmficmillaaGreat
