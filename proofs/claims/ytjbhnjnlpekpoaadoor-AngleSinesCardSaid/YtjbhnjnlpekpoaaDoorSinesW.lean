/-
  AngleSines returns true, whatever the angle and the enclosure.
-/
import Derived.Test.YtjbhnjnlpekpoaaDoorRefI
namespace Go.Proofs.YtjbhnjnlpekpoaaDoor
open Go.RowKit Go.Sort
set_option linter.unusedVariables false

abbrev SE (f : FuncId) (a lo hi er : Int) : Prop := Hid (∀ w, Calls Tryd.prog f #[.int .i64 a] w fun e w' => e = .returned (.tuple #[encl lo hi, .int .i64 er]) ∧ Q w w')
abbrev EE (f : FuncId) (x y lo hi er : Int) : Prop := Hid (∀ w, Calls Tryd.prog f #[encl x y] w fun e w' => e = .returned (.tuple #[encl lo hi, .int .i64 er]) ∧ Q w w')

set_option maxRecDepth 100000 in
set_option maxHeartbeats 8000000 in
theorem sines_in (a x y p0 p1 pe r0 r1 re s0 s1 se t0 t1 te : Int) (w : World) (T : Tables w)
    (h1 : SE 16 a p0 p1 pe) (h2 : SE 25 a p0 p1 pe) (h3 : SE 17 a r0 r1 re) (h4 : SE 26 a r0 r1 re)
    (h5 : EE 27 x y s0 s1 se) (h6 : EE 28 x y s0 s1 se) (h7 : EE 29 x y t0 t1 te) (h8 : EE 30 x y t0 t1 te) :
    Calls Tryd.prog 5 #[.int .i64 a, encl x y] w fun e w' => e = .returned (.bool true) ∧ Q w w' := by
  go_enter Tryd.func5, Tryd.ntmps5
  have QC := Q.refl w
  go_upto_region 1 with fail
  have B3 := Has.new w (x) (y) 24
  have L3 : w.heap.size ≤ w.heap.size := Nat.le_refl _
  replace QC := QC.alloc (.cells #[.int .i64 (x), .int .i64 (y)] 24)
  generalize w.alloc (.cells #[.int .i64 (x), .int .i64 (y)] 24) = v1 at *
  go_wp2_with fail
  refine (h1.out _).mono ?_
  rintro e w2 ⟨rfl, QA⟩
  replace B3 := B3.mono QA
  replace QC := QC.trans QA
  clear QA
  go_upto_region 2 with fail
  have L5 : w.heap.size ≤ w2.heap.size := QC.size
  have l3_5 : w.heap.size < w2.heap.size := B3.lt
  replace B3 := B3.alloc (.cells #[.int .i64 (p0), .int .i64 (p1)] 24)
  have B5 := Has.new w2 (p0) (p1) 24
  replace QC := QC.alloc (.cells #[.int .i64 (p0), .int .i64 (p1)] 24)
  generalize w2.alloc (.cells #[.int .i64 (p0), .int .i64 (p1)] 24) = v3 at *
  generalize w2.heap.size = g5 at *
  go_wp2_with fail
  refine (h2.out _).mono ?_
  rintro e w4 ⟨rfl, QA⟩
  replace B3 := B3.mono QA
  replace B5 := B5.mono QA
  replace QC := QC.trans QA
  clear QA
  go_upto_region 3 with fail
  have L7 : w.heap.size ≤ w4.heap.size := QC.size
  have l3_7 : w.heap.size < w4.heap.size := B3.lt
  have l5_7 : g5 < w4.heap.size := B5.lt
  replace B3 := B3.alloc (.cells #[.int .i64 (p0), .int .i64 (p1)] 24)
  replace B5 := B5.alloc (.cells #[.int .i64 (p0), .int .i64 (p1)] 24)
  have B7 := Has.new w4 (p0) (p1) 24
  replace QC := QC.alloc (.cells #[.int .i64 (p0), .int .i64 (p1)] 24)
  generalize w4.alloc (.cells #[.int .i64 (p0), .int .i64 (p1)] 24) = v5 at *
  generalize w4.heap.size = g7 at *
  go_wp2_with fail
  refine (h3.out _).mono ?_
  rintro e w6 ⟨rfl, QA⟩
  replace B3 := B3.mono QA
  replace B5 := B5.mono QA
  replace B7 := B7.mono QA
  replace QC := QC.trans QA
  clear QA
  go_upto_region 4 with fail
  have L9 : w.heap.size ≤ w6.heap.size := QC.size
  have l3_9 : w.heap.size < w6.heap.size := B3.lt
  have l5_9 : g5 < w6.heap.size := B5.lt
  have l7_9 : g7 < w6.heap.size := B7.lt
  replace B3 := B3.alloc (.cells #[.int .i64 (r0), .int .i64 (r1)] 24)
  replace B5 := B5.alloc (.cells #[.int .i64 (r0), .int .i64 (r1)] 24)
  replace B7 := B7.alloc (.cells #[.int .i64 (r0), .int .i64 (r1)] 24)
  have B9 := Has.new w6 (r0) (r1) 24
  replace QC := QC.alloc (.cells #[.int .i64 (r0), .int .i64 (r1)] 24)
  generalize w6.alloc (.cells #[.int .i64 (r0), .int .i64 (r1)] 24) = v7 at *
  generalize w6.heap.size = g9 at *
  go_wp2_with fail
  refine (h4.out _).mono ?_
  rintro e w8 ⟨rfl, QA⟩
  replace B3 := B3.mono QA
  replace B5 := B5.mono QA
  replace B7 := B7.mono QA
  replace B9 := B9.mono QA
  replace QC := QC.trans QA
  clear QA
  go_upto_region 5 with fail
  have L11 : w.heap.size ≤ w8.heap.size := QC.size
  have l3_11 : w.heap.size < w8.heap.size := B3.lt
  have l5_11 : g5 < w8.heap.size := B5.lt
  have l7_11 : g7 < w8.heap.size := B7.lt
  have l9_11 : g9 < w8.heap.size := B9.lt
  replace B3 := B3.alloc (.cells #[.int .i64 (r0), .int .i64 (r1)] 24)
  replace B5 := B5.alloc (.cells #[.int .i64 (r0), .int .i64 (r1)] 24)
  replace B7 := B7.alloc (.cells #[.int .i64 (r0), .int .i64 (r1)] 24)
  replace B9 := B9.alloc (.cells #[.int .i64 (r0), .int .i64 (r1)] 24)
  have B11 := Has.new w8 (r0) (r1) 24
  replace QC := QC.alloc (.cells #[.int .i64 (r0), .int .i64 (r1)] 24)
  generalize w8.alloc (.cells #[.int .i64 (r0), .int .i64 (r1)] 24) = v9 at *
  generalize w8.heap.size = g11 at *
  obtain ⟨z5, k50, k51, f50, f51⟩ := id B5
  obtain ⟨z7, k70, k71, f70, f71⟩ := id B7
  obtain ⟨z9, k90, k91, f90, f91⟩ := id B9
  obtain ⟨z11, k110, k111, f110, f111⟩ := id B11
  have hn := encl_neq
  go_upto_region 7 with fail
  clear z5 k50 k51 f50 f51
  clear z7 k70 k71 f70 f71
  clear z9 k90 k91 f90 f91
  clear z11 k110 k111 f110 f111
  clear hn
  obtain ⟨z3, k30, k31, f30, f31⟩ := id B3
  go_wp2_with fail
  clear z3 k30 k31 f30 f31
  refine (h5.out _).mono ?_
  rintro e w10 ⟨rfl, QA⟩
  replace B3 := B3.mono QA
  replace B5 := B5.mono QA
  replace B7 := B7.mono QA
  replace B9 := B9.mono QA
  replace B11 := B11.mono QA
  replace QC := QC.trans QA
  clear QA
  obtain ⟨z5, k50, k51, f50, f51⟩ := id B5
  go_upto_region 8 with fail
  clear z5 k50 k51 f50 f51
  replace B3 := B3.apart2 (g' := g5) (by omega) (.int .i64 (s0)) (.int .i64 (s1))
  replace B7 := B7.apart2 (g' := g5) (by omega) (.int .i64 (s0)) (.int .i64 (s1))
  replace B9 := B9.apart2 (g' := g5) (by omega) (.int .i64 (s0)) (.int .i64 (s1))
  replace B11 := B11.apart2 (g' := g5) (by omega) (.int .i64 (s0)) (.int .i64 (s1))
  replace B5 := B5.store (s0) (s1)
  replace QC := (QC.setCell (p := ⟨g5, 0, none⟩) L5 (.int .i64 (s0))).setCell (p := ⟨g5, 1, none⟩) L5 (.int .i64 (s1))
  generalize (w10.setCell ⟨g5, 0, none⟩ (.int .i64 (s0))).setCell ⟨g5, 1, none⟩ (.int .i64 (s1)) = v11 at *
  obtain ⟨z3, k30, k31, f30, f31⟩ := id B3
  go_wp2_with fail
  clear z3 k30 k31 f30 f31
  refine (h6.out _).mono ?_
  rintro e w12 ⟨rfl, QA⟩
  replace B3 := B3.mono QA
  replace B5 := B5.mono QA
  replace B7 := B7.mono QA
  replace B9 := B9.mono QA
  replace B11 := B11.mono QA
  replace QC := QC.trans QA
  clear QA
  obtain ⟨z7, k70, k71, f70, f71⟩ := id B7
  go_upto_region 9 with fail
  clear z7 k70 k71 f70 f71
  replace B3 := B3.apart2 (g' := g7) (by omega) (.int .i64 (s0)) (.int .i64 (s1))
  replace B5 := B5.apart2 (g' := g7) (by omega) (.int .i64 (s0)) (.int .i64 (s1))
  replace B9 := B9.apart2 (g' := g7) (by omega) (.int .i64 (s0)) (.int .i64 (s1))
  replace B11 := B11.apart2 (g' := g7) (by omega) (.int .i64 (s0)) (.int .i64 (s1))
  replace B7 := B7.store (s0) (s1)
  replace QC := (QC.setCell (p := ⟨g7, 0, none⟩) L7 (.int .i64 (s0))).setCell (p := ⟨g7, 1, none⟩) L7 (.int .i64 (s1))
  generalize (w12.setCell ⟨g7, 0, none⟩ (.int .i64 (s0))).setCell ⟨g7, 1, none⟩ (.int .i64 (s1)) = v13 at *
  obtain ⟨z3, k30, k31, f30, f31⟩ := id B3
  go_wp2_with fail
  clear z3 k30 k31 f30 f31
  refine (h7.out _).mono ?_
  rintro e w14 ⟨rfl, QA⟩
  replace B3 := B3.mono QA
  replace B5 := B5.mono QA
  replace B7 := B7.mono QA
  replace B9 := B9.mono QA
  replace B11 := B11.mono QA
  replace QC := QC.trans QA
  clear QA
  obtain ⟨z9, k90, k91, f90, f91⟩ := id B9
  go_upto_region 10 with fail
  clear z9 k90 k91 f90 f91
  replace B3 := B3.apart2 (g' := g9) (by omega) (.int .i64 (t0)) (.int .i64 (t1))
  replace B5 := B5.apart2 (g' := g9) (by omega) (.int .i64 (t0)) (.int .i64 (t1))
  replace B7 := B7.apart2 (g' := g9) (by omega) (.int .i64 (t0)) (.int .i64 (t1))
  replace B11 := B11.apart2 (g' := g9) (by omega) (.int .i64 (t0)) (.int .i64 (t1))
  replace B9 := B9.store (t0) (t1)
  replace QC := (QC.setCell (p := ⟨g9, 0, none⟩) L9 (.int .i64 (t0))).setCell (p := ⟨g9, 1, none⟩) L9 (.int .i64 (t1))
  generalize (w14.setCell ⟨g9, 0, none⟩ (.int .i64 (t0))).setCell ⟨g9, 1, none⟩ (.int .i64 (t1)) = v15 at *
  obtain ⟨z3, k30, k31, f30, f31⟩ := id B3
  go_wp2_with fail
  clear z3 k30 k31 f30 f31
  refine (h8.out _).mono ?_
  rintro e w16 ⟨rfl, QA⟩
  replace B3 := B3.mono QA
  replace B5 := B5.mono QA
  replace B7 := B7.mono QA
  replace B9 := B9.mono QA
  replace B11 := B11.mono QA
  replace QC := QC.trans QA
  clear QA
  obtain ⟨z11, k110, k111, f110, f111⟩ := id B11
  go_upto_region 11 with fail
  clear z11 k110 k111 f110 f111
  replace B3 := B3.apart2 (g' := g11) (by omega) (.int .i64 (t0)) (.int .i64 (t1))
  replace B5 := B5.apart2 (g' := g11) (by omega) (.int .i64 (t0)) (.int .i64 (t1))
  replace B7 := B7.apart2 (g' := g11) (by omega) (.int .i64 (t0)) (.int .i64 (t1))
  replace B9 := B9.apart2 (g' := g11) (by omega) (.int .i64 (t0)) (.int .i64 (t1))
  replace B11 := B11.store (t0) (t1)
  replace QC := (QC.setCell (p := ⟨g11, 0, none⟩) L11 (.int .i64 (t0))).setCell (p := ⟨g11, 1, none⟩) L11 (.int .i64 (t1))
  generalize (w16.setCell ⟨g11, 0, none⟩ (.int .i64 (t0))).setCell ⟨g11, 1, none⟩ (.int .i64 (t1)) = v17 at *
  have T1 := T.mono QC
  clear T
  obtain ⟨z5, k50, k51, f50, f51⟩ := id B5
  obtain ⟨z7, k70, k71, f70, f71⟩ := id B7
  obtain ⟨z9, k90, k91, f90, f91⟩ := id B9
  obtain ⟨z11, k110, k111, f110, f111⟩ := id B11
  have hn := encl_eq
  go_wp2_with fail
  clear z5 k50 k51 f50 f51
  clear z7 k70 k71 f70 f71
  clear z9 k90 k91 f90 f91
  clear z11 k110 k111 f110 f111
  clear hn
  refine (Awake_any _ T1).mono ?_
  rintro e w18 ⟨rfl, QA⟩
  replace B3 := B3.mono QA
  replace B5 := B5.mono QA
  replace B7 := B7.mono QA
  replace B9 := B9.mono QA
  replace B11 := B11.mono QA
  replace QC := QC.trans QA
  clear QA
  go_wp2_with fail
  go_ret
  exact ⟨rfl, QC⟩

theorem angleSines_all (a x y : Int) (ha : (Lit.int .i64 a).wf = true) (hx : (Lit.int .i64 x).wf = true) (hy : (Lit.int .i64 y).wf = true) (w : World) (T : Tables w) :
    Calls Tryd.prog 5 #[.int .i64 a, encl x y] w fun e w' => e = .returned (.bool true) ∧ Q w w' := by
  have ha := bounds_i64 ha
  have hx := bounds_i64 hx
  have hy := bounds_i64 hy
  obtain ⟨p0, p1, pe, hp⟩ := sinOut_form a 0
  obtain ⟨r0, r1, re, hr⟩ := sinOut_form a 90000000
  obtain ⟨s0, s1, se, hs⟩ := ofOut_form x y 0
  obtain ⟨t0, t1, te, ht⟩ := ofOut_form x y 90000000
  exact sines_in a x y p0 p1 pe r0 r1 re s0 s1 se t0 t1 te w T
    (fun w => by rw [← hp]; exact Sin_any a w ha) (fun w => by rw [← hp]; exact refSin_any a w ha) (fun w => by rw [← hr]; exact Cos_any a w ha) (fun w => by rw [← hr]; exact refCos_any a w ha)
    (fun w => by rw [← hs]; exact SinOf_any x y w hx hy) (fun w => by rw [← hs]; exact refSinOf_any x y w) (fun w => by rw [← ht]; exact CosOf_any x y w hx hy) (fun w => by rw [← ht]; exact refCosOf_any x y w)

end Go.Proofs.YtjbhnjnlpekpoaaDoor
