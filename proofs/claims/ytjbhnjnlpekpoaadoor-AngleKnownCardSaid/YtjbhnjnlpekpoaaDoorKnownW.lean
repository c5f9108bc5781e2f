/-
  The walk of AngleKnown.
-/
import Derived.Test.YtjbhnjnlpekpoaaDoorKnownP
namespace Go.Proofs.YtjbhnjnlpekpoaaDoor
open Go.RowKit Go.Sort
set_option linter.unusedVariables false

set_option maxRecDepth 100000 in
set_option maxHeartbeats 20000000 in
theorem angleKnown_all (w : World) (T : Tables w) :
    Calls Tryd.prog 14 #[] w fun e w' => e = .returned (.bool true) ∧ Q w w' := by
  have H0 := kSin30
  have H1 := kSin90
  have H2 := kCos60
  have H3 := kCos1
  have H4 := kCos450
  have H5 := kOf45
  have H6 := kOf0
  have H7 := kAsn
  have H8 := kRoot2
  have H9 := kRoot225
  have H10 := kTimes3
  have H11 := kTimes4
  have H12 := kOver3
  have H13 := kOver0
  have H14 := kPlus
  have H15 := kReadS
  have H16 := kReadN
  have H17 := kRead5
  have H18 := kWrite
  go_enter Tryd.func14, Tryd.ntmps14
  have QC := Q.refl w
  go_wp2_with fail
  refine (H0.out _).mono ?_
  rintro e w1 ⟨rfl, QA⟩
  replace QC := QC.trans QA
  clear QA
  go_upto_region 2 with fail
  have L1 : w.heap.size ≤ w1.heap.size := QC.size
  have B1 := Has.new w1 (50000000) (50000000) 24
  replace QC := QC.alloc (.cells #[.int .i64 (50000000), .int .i64 (50000000)] 24)
  generalize w1.alloc (.cells #[.int .i64 (50000000), .int .i64 (50000000)] 24) = v2 at *
  generalize w1.heap.size = g1 at *
  go_wp2_with fail
  refine (H1.out _).mono ?_
  rintro e w3 ⟨rfl, QA⟩
  replace B1 := B1.mono QA
  replace QC := QC.trans QA
  clear QA
  go_upto_region 3 with fail
  have L3 : w.heap.size ≤ w3.heap.size := QC.size
  have l1_3 : g1 < w3.heap.size := B1.lt
  replace B1 := B1.alloc (.cells #[.int .i64 (-100000000), .int .i64 (-100000000)] 24)
  have B3 := Has.new w3 (-100000000) (-100000000) 24
  replace QC := QC.alloc (.cells #[.int .i64 (-100000000), .int .i64 (-100000000)] 24)
  generalize w3.alloc (.cells #[.int .i64 (-100000000), .int .i64 (-100000000)] 24) = v4 at *
  generalize w3.heap.size = g3 at *
  go_wp2_with fail
  refine (H2.out _).mono ?_
  rintro e w5 ⟨rfl, QA⟩
  replace B1 := B1.mono QA
  replace B3 := B3.mono QA
  replace QC := QC.trans QA
  clear QA
  go_upto_region 4 with fail
  have L5 : w.heap.size ≤ w5.heap.size := QC.size
  have l1_5 : g1 < w5.heap.size := B1.lt
  have l3_5 : g3 < w5.heap.size := B3.lt
  replace B1 := B1.alloc (.cells #[.int .i64 (50000000), .int .i64 (50000000)] 24)
  replace B3 := B3.alloc (.cells #[.int .i64 (50000000), .int .i64 (50000000)] 24)
  have B5 := Has.new w5 (50000000) (50000000) 24
  replace QC := QC.alloc (.cells #[.int .i64 (50000000), .int .i64 (50000000)] 24)
  generalize w5.alloc (.cells #[.int .i64 (50000000), .int .i64 (50000000)] 24) = v6 at *
  generalize w5.heap.size = g5 at *
  go_wp2_with fail
  refine (H3.out _).mono ?_
  rintro e w7 ⟨rfl, QA⟩
  replace B1 := B1.mono QA
  replace B3 := B3.mono QA
  replace B5 := B5.mono QA
  replace QC := QC.trans QA
  clear QA
  go_upto_region 5 with fail
  have L7 : w.heap.size ≤ w7.heap.size := QC.size
  have l1_7 : g1 < w7.heap.size := B1.lt
  have l3_7 : g3 < w7.heap.size := B3.lt
  have l5_7 : g5 < w7.heap.size := B5.lt
  replace B1 := B1.alloc (.cells #[.int .i64 (99984769), .int .i64 (99984770)] 24)
  replace B3 := B3.alloc (.cells #[.int .i64 (99984769), .int .i64 (99984770)] 24)
  replace B5 := B5.alloc (.cells #[.int .i64 (99984769), .int .i64 (99984770)] 24)
  have B7 := Has.new w7 (99984769) (99984770) 24
  replace QC := QC.alloc (.cells #[.int .i64 (99984769), .int .i64 (99984770)] 24)
  generalize w7.alloc (.cells #[.int .i64 (99984769), .int .i64 (99984770)] 24) = v8 at *
  generalize w7.heap.size = g7 at *
  obtain ⟨z1, k10, k11, _, _⟩ := id B1
  obtain ⟨z3, k30, k31, _, _⟩ := id B3
  obtain ⟨z5, k50, k51, _, _⟩ := id B5
  obtain ⟨z7, k70, k71, _, _⟩ := id B7
  have m10 := fun n os => cell_grown (a := ⟨g1, 0, none⟩) z1 k10 n os
  have m11 := fun n os => cell_grown (a := ⟨g1, 1, none⟩) z1 k11 n os
  have m30 := fun n os => cell_grown (a := ⟨g3, 0, none⟩) z3 k30 n os
  have m31 := fun n os => cell_grown (a := ⟨g3, 1, none⟩) z3 k31 n os
  have m50 := fun n os => cell_grown (a := ⟨g5, 0, none⟩) z5 k50 n os
  have m51 := fun n os => cell_grown (a := ⟨g5, 1, none⟩) z5 k51 n os
  have m70 := fun n os => cell_grown (a := ⟨g7, 0, none⟩) z7 k70 n os
  have m71 := fun n os => cell_grown (a := ⟨g7, 1, none⟩) z7 k71 n os
  have hn := encl_neq
  have mixed : Tryd.prog.follows .mixedOrders = true := by kernel_rfl
  go_quiet_grown (first
    | (go_at_call 24; exact Calls.of_Q (x_any _ _ _)))
  have QW := Q.of_grow v8 nq osq
  replace B1 := B1.mono QW
  replace B3 := B3.mono QW
  replace B5 := B5.mono QW
  replace B7 := B7.mono QW
  replace QC := QC.trans QW
  clear QW m10 m11 k10 k11 z1 m30 m31 k30 k31 z3 m50 m51 k50 k51 z5 m70 m71 k70 k71 z7
  generalize grow (v8.drewN nq) osq = v9 at *
  clear hn mixed
  go_wp2_with fail
  refine (H4.out _).mono ?_
  rintro e w10 ⟨rfl, QA⟩
  replace B1 := B1.mono QA
  replace B3 := B3.mono QA
  replace B5 := B5.mono QA
  replace B7 := B7.mono QA
  replace QC := QC.trans QA
  clear QA
  obtain ⟨z1, k10, k11, f10, f11⟩ := id B1
  go_upto_region 8 with fail
  clear z1 k10 k11 f10 f11
  replace B3 := B3.apart2 (g' := g1) (by omega) (.int .i64 (0)) (.int .i64 (0))
  replace B5 := B5.apart2 (g' := g1) (by omega) (.int .i64 (0)) (.int .i64 (0))
  replace B7 := B7.apart2 (g' := g1) (by omega) (.int .i64 (0)) (.int .i64 (0))
  replace B1 := B1.store (0) (0)
  replace QC := (QC.setCell (p := ⟨g1, 0, none⟩) L1 (.int .i64 (0))).setCell (p := ⟨g1, 1, none⟩) L1 (.int .i64 (0))
  generalize (w10.setCell ⟨g1, 0, none⟩ (.int .i64 (0))).setCell ⟨g1, 1, none⟩ (.int .i64 (0)) = v11 at *
  go_wp2_with fail
  refine (x_any _ _ _).mono ?_
  rintro e w12 ⟨rfl, QA⟩
  replace B1 := B1.mono QA
  replace B3 := B3.mono QA
  replace B5 := B5.mono QA
  replace B7 := B7.mono QA
  replace QC := QC.trans QA
  clear QA
  go_wp2_with fail
  refine (H5.out _).mono ?_
  rintro e w13 ⟨rfl, QA⟩
  replace B1 := B1.mono QA
  replace B3 := B3.mono QA
  replace B5 := B5.mono QA
  replace B7 := B7.mono QA
  replace QC := QC.trans QA
  clear QA
  obtain ⟨z3, k30, k31, f30, f31⟩ := id B3
  go_upto_region 9 with fail
  clear z3 k30 k31 f30 f31
  replace B1 := B1.apart2 (g' := g3) (by omega) (.int .i64 (70710678)) (.int .i64 (100000000))
  replace B5 := B5.apart2 (g' := g3) (by omega) (.int .i64 (70710678)) (.int .i64 (100000000))
  replace B7 := B7.apart2 (g' := g3) (by omega) (.int .i64 (70710678)) (.int .i64 (100000000))
  replace B3 := B3.store (70710678) (100000000)
  replace QC := (QC.setCell (p := ⟨g3, 0, none⟩) L3 (.int .i64 (70710678))).setCell (p := ⟨g3, 1, none⟩) L3 (.int .i64 (100000000))
  generalize (w13.setCell ⟨g3, 0, none⟩ (.int .i64 (70710678))).setCell ⟨g3, 1, none⟩ (.int .i64 (100000000)) = v14 at *
  go_wp2_with fail
  refine (x_any _ _ _).mono ?_
  rintro e w15 ⟨rfl, QA⟩
  replace B1 := B1.mono QA
  replace B3 := B3.mono QA
  replace B5 := B5.mono QA
  replace B7 := B7.mono QA
  replace QC := QC.trans QA
  clear QA
  go_wp2_with fail
  refine (H6.out _).mono ?_
  rintro e w16 ⟨rfl, QA⟩
  replace B1 := B1.mono QA
  replace B3 := B3.mono QA
  replace B5 := B5.mono QA
  replace B7 := B7.mono QA
  replace QC := QC.trans QA
  clear QA
  obtain ⟨z5, k50, k51, f50, f51⟩ := id B5
  go_upto_region 10 with fail
  clear z5 k50 k51 f50 f51
  replace B1 := B1.apart2 (g' := g5) (by omega) (.int .i64 (0)) (.int .i64 (50000000))
  replace B3 := B3.apart2 (g' := g5) (by omega) (.int .i64 (0)) (.int .i64 (50000000))
  replace B7 := B7.apart2 (g' := g5) (by omega) (.int .i64 (0)) (.int .i64 (50000000))
  replace B5 := B5.store (0) (50000000)
  replace QC := (QC.setCell (p := ⟨g5, 0, none⟩) L5 (.int .i64 (0))).setCell (p := ⟨g5, 1, none⟩) L5 (.int .i64 (50000000))
  generalize (w16.setCell ⟨g5, 0, none⟩ (.int .i64 (0))).setCell ⟨g5, 1, none⟩ (.int .i64 (50000000)) = v17 at *
  go_wp2_with fail
  refine (x_any _ _ _).mono ?_
  rintro e w18 ⟨rfl, QA⟩
  replace B1 := B1.mono QA
  replace B3 := B3.mono QA
  replace B5 := B5.mono QA
  replace B7 := B7.mono QA
  replace QC := QC.trans QA
  clear QA
  go_wp2_with fail
  refine (H7.out _).mono ?_
  rintro e w19 ⟨rfl, QA⟩
  replace B1 := B1.mono QA
  replace B3 := B3.mono QA
  replace B5 := B5.mono QA
  replace B7 := B7.mono QA
  replace QC := QC.trans QA
  clear QA
  obtain ⟨z7, k70, k71, f70, f71⟩ := id B7
  go_upto_region 11 with fail
  clear z7 k70 k71 f70 f71
  replace B1 := B1.apart2 (g' := g7) (by omega) (.int .i64 (44999999)) (.int .i64 (45000000))
  replace B3 := B3.apart2 (g' := g7) (by omega) (.int .i64 (44999999)) (.int .i64 (45000000))
  replace B5 := B5.apart2 (g' := g7) (by omega) (.int .i64 (44999999)) (.int .i64 (45000000))
  replace B7 := B7.store (44999999) (45000000)
  replace QC := (QC.setCell (p := ⟨g7, 0, none⟩) L7 (.int .i64 (44999999))).setCell (p := ⟨g7, 1, none⟩) L7 (.int .i64 (45000000))
  generalize (w19.setCell ⟨g7, 0, none⟩ (.int .i64 (44999999))).setCell ⟨g7, 1, none⟩ (.int .i64 (45000000)) = v20 at *
  obtain ⟨z1, k10, k11, _, _⟩ := id B1
  obtain ⟨z3, k30, k31, _, _⟩ := id B3
  obtain ⟨z5, k50, k51, _, _⟩ := id B5
  obtain ⟨z7, k70, k71, _, _⟩ := id B7
  have m10 := fun n os => cell_grown (a := ⟨g1, 0, none⟩) z1 k10 n os
  have m11 := fun n os => cell_grown (a := ⟨g1, 1, none⟩) z1 k11 n os
  have m30 := fun n os => cell_grown (a := ⟨g3, 0, none⟩) z3 k30 n os
  have m31 := fun n os => cell_grown (a := ⟨g3, 1, none⟩) z3 k31 n os
  have m50 := fun n os => cell_grown (a := ⟨g5, 0, none⟩) z5 k50 n os
  have m51 := fun n os => cell_grown (a := ⟨g5, 1, none⟩) z5 k51 n os
  have m70 := fun n os => cell_grown (a := ⟨g7, 0, none⟩) z7 k70 n os
  have m71 := fun n os => cell_grown (a := ⟨g7, 1, none⟩) z7 k71 n os
  have hn := encl_neq
  have mixed : Tryd.prog.follows .mixedOrders = true := by kernel_rfl
  go_quiet_grown (first
    | (go_at_call 24; exact Calls.of_Q (x_any _ _ _)))
  have QW := Q.of_grow v20 nq osq
  replace B1 := B1.mono QW
  replace B3 := B3.mono QW
  replace B5 := B5.mono QW
  replace B7 := B7.mono QW
  replace QC := QC.trans QW
  clear QW m10 m11 k10 k11 z1 m30 m31 k30 k31 z3 m50 m51 k50 k51 z5 m70 m71 k70 k71 z7
  generalize grow (v20.drewN nq) osq = v21 at *
  clear hn mixed
  go_wp2_with fail
  refine (x_any _ _ _).mono ?_
  rintro e w22 ⟨rfl, QA⟩
  replace B1 := B1.mono QA
  replace B3 := B3.mono QA
  replace B5 := B5.mono QA
  replace B7 := B7.mono QA
  replace QC := QC.trans QA
  clear QA
  go_wp2_with fail
  refine (H8.out _).mono ?_
  rintro e w23 ⟨rfl, QA⟩
  replace B1 := B1.mono QA
  replace B3 := B3.mono QA
  replace B5 := B5.mono QA
  replace B7 := B7.mono QA
  replace QC := QC.trans QA
  clear QA
  obtain ⟨z1, k10, k11, f10, f11⟩ := id B1
  go_upto_region 14 with fail
  clear z1 k10 k11 f10 f11
  replace B3 := B3.apart2 (g' := g1) (by omega) (.int .i64 (141421356)) (.int .i64 (141421357))
  replace B5 := B5.apart2 (g' := g1) (by omega) (.int .i64 (141421356)) (.int .i64 (141421357))
  replace B7 := B7.apart2 (g' := g1) (by omega) (.int .i64 (141421356)) (.int .i64 (141421357))
  replace B1 := B1.store (141421356) (141421357)
  replace QC := (QC.setCell (p := ⟨g1, 0, none⟩) L1 (.int .i64 (141421356))).setCell (p := ⟨g1, 1, none⟩) L1 (.int .i64 (141421357))
  generalize (w23.setCell ⟨g1, 0, none⟩ (.int .i64 (141421356))).setCell ⟨g1, 1, none⟩ (.int .i64 (141421357)) = v24 at *
  go_wp2_with fail
  refine (x_any _ _ _).mono ?_
  rintro e w25 ⟨rfl, QA⟩
  replace B1 := B1.mono QA
  replace B3 := B3.mono QA
  replace B5 := B5.mono QA
  replace B7 := B7.mono QA
  replace QC := QC.trans QA
  clear QA
  go_wp2_with fail
  refine (H9.out _).mono ?_
  rintro e w26 ⟨rfl, QA⟩
  replace B1 := B1.mono QA
  replace B3 := B3.mono QA
  replace B5 := B5.mono QA
  replace B7 := B7.mono QA
  replace QC := QC.trans QA
  clear QA
  obtain ⟨z3, k30, k31, f30, f31⟩ := id B3
  go_upto_region 15 with fail
  clear z3 k30 k31 f30 f31
  replace B1 := B1.apart2 (g' := g3) (by omega) (.int .i64 (0)) (.int .i64 (150000000))
  replace B5 := B5.apart2 (g' := g3) (by omega) (.int .i64 (0)) (.int .i64 (150000000))
  replace B7 := B7.apart2 (g' := g3) (by omega) (.int .i64 (0)) (.int .i64 (150000000))
  replace B3 := B3.store (0) (150000000)
  replace QC := (QC.setCell (p := ⟨g3, 0, none⟩) L3 (.int .i64 (0))).setCell (p := ⟨g3, 1, none⟩) L3 (.int .i64 (150000000))
  generalize (w26.setCell ⟨g3, 0, none⟩ (.int .i64 (0))).setCell ⟨g3, 1, none⟩ (.int .i64 (150000000)) = v27 at *
  go_wp2_with fail
  refine (x_any _ _ _).mono ?_
  rintro e w28 ⟨rfl, QA⟩
  replace B1 := B1.mono QA
  replace B3 := B3.mono QA
  replace B5 := B5.mono QA
  replace B7 := B7.mono QA
  replace QC := QC.trans QA
  clear QA
  go_wp2_with fail
  refine (x_any _ _ _).mono ?_
  rintro e w29 ⟨rfl, QA⟩
  replace B1 := B1.mono QA
  replace B3 := B3.mono QA
  replace B5 := B5.mono QA
  replace B7 := B7.mono QA
  replace QC := QC.trans QA
  clear QA
  go_wp2_with fail
  refine (H10.out _).mono ?_
  rintro e w30 ⟨rfl, QA⟩
  replace B1 := B1.mono QA
  replace B3 := B3.mono QA
  replace B5 := B5.mono QA
  replace B7 := B7.mono QA
  replace QC := QC.trans QA
  clear QA
  obtain ⟨z5, k50, k51, f50, f51⟩ := id B5
  go_upto_region 16 with fail
  clear z5 k50 k51 f50 f51
  replace B1 := B1.apart2 (g' := g5) (by omega) (.int .i64 (1)) (.int .i64 (2))
  replace B3 := B3.apart2 (g' := g5) (by omega) (.int .i64 (1)) (.int .i64 (2))
  replace B7 := B7.apart2 (g' := g5) (by omega) (.int .i64 (1)) (.int .i64 (2))
  replace B5 := B5.store (1) (2)
  replace QC := (QC.setCell (p := ⟨g5, 0, none⟩) L5 (.int .i64 (1))).setCell (p := ⟨g5, 1, none⟩) L5 (.int .i64 (2))
  generalize (w30.setCell ⟨g5, 0, none⟩ (.int .i64 (1))).setCell ⟨g5, 1, none⟩ (.int .i64 (2)) = v31 at *
  go_wp2_with fail
  refine (x_any _ _ _).mono ?_
  rintro e w32 ⟨rfl, QA⟩
  replace B1 := B1.mono QA
  replace B3 := B3.mono QA
  replace B5 := B5.mono QA
  replace B7 := B7.mono QA
  replace QC := QC.trans QA
  clear QA
  go_wp2_with fail
  refine (x_any _ _ _).mono ?_
  rintro e w33 ⟨rfl, QA⟩
  replace B1 := B1.mono QA
  replace B3 := B3.mono QA
  replace B5 := B5.mono QA
  replace B7 := B7.mono QA
  replace QC := QC.trans QA
  clear QA
  go_wp2_with fail
  refine (H11.out _).mono ?_
  rintro e w34 ⟨rfl, QA⟩
  replace B1 := B1.mono QA
  replace B3 := B3.mono QA
  replace B5 := B5.mono QA
  replace B7 := B7.mono QA
  replace QC := QC.trans QA
  clear QA
  obtain ⟨z7, k70, k71, f70, f71⟩ := id B7
  go_upto_region 17 with fail
  clear z7 k70 k71 f70 f71
  replace B1 := B1.apart2 (g' := g7) (by omega) (.int .i64 (-400000000)) (.int .i64 (800000000))
  replace B3 := B3.apart2 (g' := g7) (by omega) (.int .i64 (-400000000)) (.int .i64 (800000000))
  replace B5 := B5.apart2 (g' := g7) (by omega) (.int .i64 (-400000000)) (.int .i64 (800000000))
  replace B7 := B7.store (-400000000) (800000000)
  replace QC := (QC.setCell (p := ⟨g7, 0, none⟩) L7 (.int .i64 (-400000000))).setCell (p := ⟨g7, 1, none⟩) L7 (.int .i64 (800000000))
  generalize (w34.setCell ⟨g7, 0, none⟩ (.int .i64 (-400000000))).setCell ⟨g7, 1, none⟩ (.int .i64 (800000000)) = v35 at *
  obtain ⟨z1, k10, k11, _, _⟩ := id B1
  obtain ⟨z3, k30, k31, _, _⟩ := id B3
  obtain ⟨z5, k50, k51, _, _⟩ := id B5
  obtain ⟨z7, k70, k71, _, _⟩ := id B7
  have m10 := fun n os => cell_grown (a := ⟨g1, 0, none⟩) z1 k10 n os
  have m11 := fun n os => cell_grown (a := ⟨g1, 1, none⟩) z1 k11 n os
  have m30 := fun n os => cell_grown (a := ⟨g3, 0, none⟩) z3 k30 n os
  have m31 := fun n os => cell_grown (a := ⟨g3, 1, none⟩) z3 k31 n os
  have m50 := fun n os => cell_grown (a := ⟨g5, 0, none⟩) z5 k50 n os
  have m51 := fun n os => cell_grown (a := ⟨g5, 1, none⟩) z5 k51 n os
  have m70 := fun n os => cell_grown (a := ⟨g7, 0, none⟩) z7 k70 n os
  have m71 := fun n os => cell_grown (a := ⟨g7, 1, none⟩) z7 k71 n os
  have hn := encl_neq
  have mixed : Tryd.prog.follows .mixedOrders = true := by kernel_rfl
  go_quiet_grown (first
    | (go_at_call 24; exact Calls.of_Q (x_any _ _ _)))
  have QW := Q.of_grow v35 nq osq
  replace B1 := B1.mono QW
  replace B3 := B3.mono QW
  replace B5 := B5.mono QW
  replace B7 := B7.mono QW
  replace QC := QC.trans QW
  clear QW m10 m11 k10 k11 z1 m30 m31 k30 k31 z3 m50 m51 k50 k51 z5 m70 m71 k70 k71 z7
  generalize grow (v35.drewN nq) osq = v36 at *
  clear hn mixed
  go_wp2_with fail
  refine (x_any _ _ _).mono ?_
  rintro e w37 ⟨rfl, QA⟩
  replace B1 := B1.mono QA
  replace B3 := B3.mono QA
  replace B5 := B5.mono QA
  replace B7 := B7.mono QA
  replace QC := QC.trans QA
  clear QA
  go_wp2_with fail
  refine (x_any _ _ _).mono ?_
  rintro e w38 ⟨rfl, QA⟩
  replace B1 := B1.mono QA
  replace B3 := B3.mono QA
  replace B5 := B5.mono QA
  replace B7 := B7.mono QA
  replace QC := QC.trans QA
  clear QA
  go_wp2_with fail
  refine (H12.out _).mono ?_
  rintro e w39 ⟨rfl, QA⟩
  replace B1 := B1.mono QA
  replace B3 := B3.mono QA
  replace B5 := B5.mono QA
  replace B7 := B7.mono QA
  replace QC := QC.trans QA
  clear QA
  obtain ⟨z1, k10, k11, f10, f11⟩ := id B1
  go_upto_region 20 with fail
  clear z1 k10 k11 f10 f11
  replace B3 := B3.apart2 (g' := g1) (by omega) (.int .i64 (33333333)) (.int .i64 (33333334))
  replace B5 := B5.apart2 (g' := g1) (by omega) (.int .i64 (33333333)) (.int .i64 (33333334))
  replace B7 := B7.apart2 (g' := g1) (by omega) (.int .i64 (33333333)) (.int .i64 (33333334))
  replace B1 := B1.store (33333333) (33333334)
  replace QC := (QC.setCell (p := ⟨g1, 0, none⟩) L1 (.int .i64 (33333333))).setCell (p := ⟨g1, 1, none⟩) L1 (.int .i64 (33333334))
  generalize (w39.setCell ⟨g1, 0, none⟩ (.int .i64 (33333333))).setCell ⟨g1, 1, none⟩ (.int .i64 (33333334)) = v40 at *
  go_wp2_with fail
  refine (x_any _ _ _).mono ?_
  rintro e w41 ⟨rfl, QA⟩
  replace B1 := B1.mono QA
  replace B3 := B3.mono QA
  replace B5 := B5.mono QA
  replace B7 := B7.mono QA
  replace QC := QC.trans QA
  clear QA
  go_wp2_with fail
  refine (x_any _ _ _).mono ?_
  rintro e w42 ⟨rfl, QA⟩
  replace B1 := B1.mono QA
  replace B3 := B3.mono QA
  replace B5 := B5.mono QA
  replace B7 := B7.mono QA
  replace QC := QC.trans QA
  clear QA
  go_wp2_with fail
  refine (H13.out _).mono ?_
  rintro e w43 ⟨rfl, QA⟩
  replace B1 := B1.mono QA
  replace B3 := B3.mono QA
  replace B5 := B5.mono QA
  replace B7 := B7.mono QA
  replace QC := QC.trans QA
  clear QA
  go_wp2_with fail
  refine (x_any _ _ _).mono ?_
  rintro e w44 ⟨rfl, QA⟩
  replace B1 := B1.mono QA
  replace B3 := B3.mono QA
  replace B5 := B5.mono QA
  replace B7 := B7.mono QA
  replace QC := QC.trans QA
  clear QA
  go_wp2_with fail
  refine (x_any _ _ _).mono ?_
  rintro e w45 ⟨rfl, QA⟩
  replace B1 := B1.mono QA
  replace B3 := B3.mono QA
  replace B5 := B5.mono QA
  replace B7 := B7.mono QA
  replace QC := QC.trans QA
  clear QA
  go_wp2_with fail
  refine (H14.out _).mono ?_
  rintro e w46 ⟨rfl, QA⟩
  replace B1 := B1.mono QA
  replace B3 := B3.mono QA
  replace B5 := B5.mono QA
  replace B7 := B7.mono QA
  replace QC := QC.trans QA
  clear QA
  have T1 := T.mono QC
  go_wp2_with fail
  refine (H15.out _ T1).mono ?_
  rintro e w47 ⟨rfl, QA⟩
  replace B1 := B1.mono QA
  replace B3 := B3.mono QA
  replace B5 := B5.mono QA
  replace B7 := B7.mono QA
  replace QC := QC.trans QA
  clear QA
  clear T1
  have T1 := T.mono QC
  go_wp2_with fail
  refine (H16.out _ T1).mono ?_
  rintro e w48 ⟨rfl, QA⟩
  replace B1 := B1.mono QA
  replace B3 := B3.mono QA
  replace B5 := B5.mono QA
  replace B7 := B7.mono QA
  replace QC := QC.trans QA
  clear QA
  clear T1
  have T1 := T.mono QC
  go_wp2_with fail
  refine (H17.out _ T1).mono ?_
  rintro e w49 ⟨rfl, QA⟩
  replace B1 := B1.mono QA
  replace B3 := B3.mono QA
  replace B5 := B5.mono QA
  replace B7 := B7.mono QA
  replace QC := QC.trans QA
  clear QA
  clear T1
  have T1 := T.mono QC
  go_wp2_with fail
  refine (H18.out _ T1).mono ?_
  rintro e w50 ⟨rfl, QA⟩
  replace B1 := B1.mono QA
  replace B3 := B3.mono QA
  replace B5 := B5.mono QA
  replace B7 := B7.mono QA
  replace QC := QC.trans QA
  clear QA
  clear T1
  go_upto_region 26 with fail
  have TG := fun n os => T.mono (QC.trans (Q.of_grow w50 n os))
  obtain ⟨z1, k10, k11, _, _⟩ := id B1
  have m10 := fun n os => cell_grown (a := ⟨g1, 0, none⟩) z1 k10 n os
  have m11 := fun n os => cell_grown (a := ⟨g1, 1, none⟩) z1 k11 n os
  have he := encl_eq
  have mixed : Tryd.prog.follows .mixedOrders = true := by kernel_rfl
  go_quiet_grown (first
    | (go_at_call 24; exact Calls.of_Q (x_any _ _ _))
    | (go_at_call 15; exact Calls.of_Q (Awake_any _ (TG _ _))))
  have QW := Q.of_grow w50 nq osq
  replace B1 := B1.mono QW
  replace B3 := B3.mono QW
  replace B5 := B5.mono QW
  replace B7 := B7.mono QW
  replace QC := QC.trans QW
  clear QW m10 m11 k10 k11 z1
  generalize grow (w50.drewN nq) osq = v51 at *
  clear he mixed TG
  go_wp2_with fail
  go_ret
  exact ⟨rfl, QC⟩

end Go.Proofs.YtjbhnjnlpekpoaaDoor
