/-
  AngleArcs returns true, whatever the enclosure.
-/
import Derived.Test.YtjbhnjnlpekpoaaDoorArcW
import Derived.Test.YtjbhnjnlpekpoaaDoorRootR
import Derived.OpenShut
namespace Go.Proofs.YtjbhnjnlpekpoaaDoor
open Go.RowKit Go.Sort
set_option linter.unusedVariables false

abbrev RF (f : FuncId) (x y lo hi er : Int) : Prop := Hid (∀ w, Calls Tryd.prog f #[encl x y] w fun e w' => e = .returned (.tuple #[encl lo hi, .int .i64 er]) ∧ Q w w')

set_option maxRecDepth 100000 in
set_option maxHeartbeats 8000000 in
theorem arcs_in (x y p0 p1 pe r0 r1 re s0 s1 se : Int) (w : World) (T : Tables w)
    (h1 : RF 22 x y p0 p1 pe) (h2 : RF 41 x y p0 p1 pe) (h3 : RF 23 x y r0 r1 re) (h4 : RF 42 x y r0 r1 re) (h5 : RF 40 x y s0 s1 se) (h6 : RF 43 x y s0 s1 se) :
    Calls Tryd.prog 10 #[encl x y] w fun e w' => e = .returned (.bool true) ∧ Q w w' := by
  go_enter Tryd.func10, Tryd.ntmps10
  have QC := Q.refl w
  go_upto_region 1 with fail
  have B3 := Has.new w (x) (y) 24
  have L3 : w.heap.size ≤ w.heap.size := Nat.le_refl _
  replace QC := QC.alloc (.cells #[.int .i64 (x), .int .i64 (y)] 24)
  generalize w.alloc (.cells #[.int .i64 (x), .int .i64 (y)] 24) = v1 at *
  obtain ⟨z3, k30, k31, f30, f31⟩ := id B3
  go_wp2_with fail
  clear z3 k30 k31 f30 f31
  refine (h1.out _).mono ?_
  rintro e w2 ⟨rfl, QA⟩
  replace B3 := B3.mono QA
  replace QC := QC.trans QA
  clear QA
  go_upto_region 2 with fail
  have L5 : w.heap.size ≤ w2.heap.size := QC.size
  have l3_5 : w.heap.size < w2.heap.size := B3.lt
  replace B3 := B3.alloc (.cells #[.int .i64 (p0), .int .i64 (p1)] 24)
  have B5 := Has.new w2 (p0) (p1) 24
  replace QC := QC.alloc (.cells #[.int .i64 (p0), .int .i64 (p1)] 24)
  generalize w2.alloc (.cells #[.int .i64 (p0), .int .i64 (p1)] 24) = v3 at *
  generalize w2.heap.size = g5 at *
  obtain ⟨z3, k30, k31, f30, f31⟩ := id B3
  go_wp2_with fail
  clear z3 k30 k31 f30 f31
  refine (h2.out _).mono ?_
  rintro e w4 ⟨rfl, QA⟩
  replace B3 := B3.mono QA
  replace B5 := B5.mono QA
  replace QC := QC.trans QA
  clear QA
  go_upto_region 3 with fail
  have L7 : w.heap.size ≤ w4.heap.size := QC.size
  have l3_7 : w.heap.size < w4.heap.size := B3.lt
  have l5_7 : g5 < w4.heap.size := B5.lt
  replace B3 := B3.alloc (.cells #[.int .i64 (p0), .int .i64 (p1)] 24)
  replace B5 := B5.alloc (.cells #[.int .i64 (p0), .int .i64 (p1)] 24)
  have B7 := Has.new w4 (p0) (p1) 24
  replace QC := QC.alloc (.cells #[.int .i64 (p0), .int .i64 (p1)] 24)
  generalize w4.alloc (.cells #[.int .i64 (p0), .int .i64 (p1)] 24) = v5 at *
  generalize w4.heap.size = g7 at *
  obtain ⟨z3, k30, k31, f30, f31⟩ := id B3
  go_wp2_with fail
  clear z3 k30 k31 f30 f31
  refine (h3.out _).mono ?_
  rintro e w6 ⟨rfl, QA⟩
  replace B3 := B3.mono QA
  replace B5 := B5.mono QA
  replace B7 := B7.mono QA
  replace QC := QC.trans QA
  clear QA
  go_upto_region 4 with fail
  have L9 : w.heap.size ≤ w6.heap.size := QC.size
  have l3_9 : w.heap.size < w6.heap.size := B3.lt
  have l5_9 : g5 < w6.heap.size := B5.lt
  have l7_9 : g7 < w6.heap.size := B7.lt
  replace B3 := B3.alloc (.cells #[.int .i64 (r0), .int .i64 (r1)] 24)
  replace B5 := B5.alloc (.cells #[.int .i64 (r0), .int .i64 (r1)] 24)
  replace B7 := B7.alloc (.cells #[.int .i64 (r0), .int .i64 (r1)] 24)
  have B9 := Has.new w6 (r0) (r1) 24
  replace QC := QC.alloc (.cells #[.int .i64 (r0), .int .i64 (r1)] 24)
  generalize w6.alloc (.cells #[.int .i64 (r0), .int .i64 (r1)] 24) = v7 at *
  generalize w6.heap.size = g9 at *
  obtain ⟨z3, k30, k31, f30, f31⟩ := id B3
  go_wp2_with fail
  clear z3 k30 k31 f30 f31
  refine (h4.out _).mono ?_
  rintro e w8 ⟨rfl, QA⟩
  replace B3 := B3.mono QA
  replace B5 := B5.mono QA
  replace B7 := B7.mono QA
  replace B9 := B9.mono QA
  replace QC := QC.trans QA
  clear QA
  go_upto_region 5 with fail
  have L11 : w.heap.size ≤ w8.heap.size := QC.size
  have l3_11 : w.heap.size < w8.heap.size := B3.lt
  have l5_11 : g5 < w8.heap.size := B5.lt
  have l7_11 : g7 < w8.heap.size := B7.lt
  have l9_11 : g9 < w8.heap.size := B9.lt
  replace B3 := B3.alloc (.cells #[.int .i64 (r0), .int .i64 (r1)] 24)
  replace B5 := B5.alloc (.cells #[.int .i64 (r0), .int .i64 (r1)] 24)
  replace B7 := B7.alloc (.cells #[.int .i64 (r0), .int .i64 (r1)] 24)
  replace B9 := B9.alloc (.cells #[.int .i64 (r0), .int .i64 (r1)] 24)
  have B11 := Has.new w8 (r0) (r1) 24
  replace QC := QC.alloc (.cells #[.int .i64 (r0), .int .i64 (r1)] 24)
  generalize w8.alloc (.cells #[.int .i64 (r0), .int .i64 (r1)] 24) = v9 at *
  generalize w8.heap.size = g11 at *
  obtain ⟨z5, k50, k51, f50, f51⟩ := id B5
  obtain ⟨z7, k70, k71, f70, f71⟩ := id B7
  obtain ⟨z9, k90, k91, f90, f91⟩ := id B9
  obtain ⟨z11, k110, k111, f110, f111⟩ := id B11
  have hn := encl_neq
  go_upto_region 7 with fail
  clear z5 k50 k51 f50 f51
  clear z7 k70 k71 f70 f71
  clear z9 k90 k91 f90 f91
  clear z11 k110 k111 f110 f111
  clear hn
  obtain ⟨z3, k30, k31, f30, f31⟩ := id B3
  go_wp2_with fail
  clear z3 k30 k31 f30 f31
  refine (h5.out _).mono ?_
  rintro e w10 ⟨rfl, QA⟩
  replace B3 := B3.mono QA
  replace B5 := B5.mono QA
  replace B7 := B7.mono QA
  replace B9 := B9.mono QA
  replace B11 := B11.mono QA
  replace QC := QC.trans QA
  clear QA
  obtain ⟨z5, k50, k51, f50, f51⟩ := id B5
  go_upto_region 8 with fail
  clear z5 k50 k51 f50 f51
  replace B3 := B3.apart2 (g' := g5) (by omega) (.int .i64 (s0)) (.int .i64 (s1))
  replace B7 := B7.apart2 (g' := g5) (by omega) (.int .i64 (s0)) (.int .i64 (s1))
  replace B9 := B9.apart2 (g' := g5) (by omega) (.int .i64 (s0)) (.int .i64 (s1))
  replace B11 := B11.apart2 (g' := g5) (by omega) (.int .i64 (s0)) (.int .i64 (s1))
  replace B5 := B5.store (s0) (s1)
  replace QC := (QC.setCell (p := ⟨g5, 0, none⟩) L5 (.int .i64 (s0))).setCell (p := ⟨g5, 1, none⟩) L5 (.int .i64 (s1))
  generalize (w10.setCell ⟨g5, 0, none⟩ (.int .i64 (s0))).setCell ⟨g5, 1, none⟩ (.int .i64 (s1)) = v11 at *
  obtain ⟨z3, k30, k31, f30, f31⟩ := id B3
  go_wp2_with fail
  clear z3 k30 k31 f30 f31
  refine (h6.out _).mono ?_
  rintro e w12 ⟨rfl, QA⟩
  replace B3 := B3.mono QA
  replace B5 := B5.mono QA
  replace B7 := B7.mono QA
  replace B9 := B9.mono QA
  replace B11 := B11.mono QA
  replace QC := QC.trans QA
  clear QA
  obtain ⟨z7, k70, k71, f70, f71⟩ := id B7
  go_upto_region 9 with fail
  clear z7 k70 k71 f70 f71
  replace B3 := B3.apart2 (g' := g7) (by omega) (.int .i64 (s0)) (.int .i64 (s1))
  replace B5 := B5.apart2 (g' := g7) (by omega) (.int .i64 (s0)) (.int .i64 (s1))
  replace B9 := B9.apart2 (g' := g7) (by omega) (.int .i64 (s0)) (.int .i64 (s1))
  replace B11 := B11.apart2 (g' := g7) (by omega) (.int .i64 (s0)) (.int .i64 (s1))
  replace B7 := B7.store (s0) (s1)
  replace QC := (QC.setCell (p := ⟨g7, 0, none⟩) L7 (.int .i64 (s0))).setCell (p := ⟨g7, 1, none⟩) L7 (.int .i64 (s1))
  generalize (w12.setCell ⟨g7, 0, none⟩ (.int .i64 (s0))).setCell ⟨g7, 1, none⟩ (.int .i64 (s1)) = v13 at *
  have T1 := T.mono QC
  clear T
  obtain ⟨z5, k50, k51, f50, f51⟩ := id B5
  obtain ⟨z7, k70, k71, f70, f71⟩ := id B7
  obtain ⟨z9, k90, k91, f90, f91⟩ := id B9
  obtain ⟨z11, k110, k111, f110, f111⟩ := id B11
  have hn := encl_eq
  go_wp2_with fail
  clear z5 k50 k51 f50 f51
  clear z7 k70 k71 f70 f71
  clear z9 k90 k91 f90 f91
  clear z11 k110 k111 f110 f111
  clear hn
  refine (Awake_any _ T1).mono ?_
  rintro e w14 ⟨rfl, QA⟩
  replace B3 := B3.mono QA
  replace B5 := B5.mono QA
  replace B7 := B7.mono QA
  replace B9 := B9.mono QA
  replace B11 := B11.mono QA
  replace QC := QC.trans QA
  clear QA
  go_wp2_with fail
  go_ret
  exact ⟨rfl, QC⟩

theorem angleArcs_all (x y : Int) (hx : (Lit.int .i64 x).wf = true) (hy : (Lit.int .i64 y).wf = true) (w : World) (T : Tables w) :
    Calls Tryd.prog 10 #[encl x y] w fun e w' => e = .returned (.bool true) ∧ Q w w' := by
  have hx := bounds_i64 hx
  have hy := bounds_i64 hy
  obtain ⟨p0, p1, pe, hp⟩ := arcRes_ex x y
  obtain ⟨r0, r1, re, hr⟩ := asnRes_ex x y
  obtain ⟨s0, s1, se, hs⟩ := rootRes_ex x y
  exact arcs_in x y p0 p1 pe r0 r1 re s0 s1 se w T
    (fun w => Arccos_any x y p0 p1 pe w hx hy hp) (fun w => refArccos_any x y p0 p1 pe w hp) (fun w => Arcsin_any x y r0 r1 re w hx hy hr) (fun w => refArcsin_any x y r0 r1 re w hr)
    (fun w => Root_any x y s0 s1 se w hx hy hs) (fun w => refRoot_any x y s0 s1 se w hs)

end Go.Proofs.YtjbhnjnlpekpoaaDoor
