/-
  AngleArithmetic returns true, whatever the two enclosures.
-/
import Derived.Test.YtjbhnjnlpekpoaaDoorArT
import Derived.Test.YtjbhnjnlpekpoaaDoorBackW
import Derived.OpenShut
namespace Go.Proofs.YtjbhnjnlpekpoaaDoor
open Go.RowKit Go.Sort
set_option linter.unusedVariables false

abbrev E4 (f : FuncId) (x0 x1 y0 y1 lo hi er : Int) : Prop := Hid (∀ w, Calls Tryd.prog f #[encl x0 x1, encl y0 y1] w fun e w' => e = .returned (.tuple #[encl lo hi, .int .i64 er]) ∧ Q w w')

set_option maxRecDepth 100000 in
set_option maxHeartbeats 8000000 in
theorem arithmetic_in (x0 x1 y0 y1 p0 p1 pe r0 r1 re s0 s1 se t0 t1 te : Int) (w : World) (T : Tables w)
    (h1 : E4 34 x0 x1 y0 y1 p0 p1 pe) (h2 : E4 35 x0 x1 y0 y1 p0 p1 pe) (h3 : E4 36 x0 x1 y0 y1 r0 r1 re) (h4 : E4 37 x0 x1 y0 y1 r0 r1 re)
    (h5 : E4 32 x0 x1 y0 y1 s0 s1 se) (h6 : E4 38 x0 x1 y0 y1 s0 s1 se) (h7 : E4 33 x0 x1 y0 y1 t0 t1 te) (h8 : E4 39 x0 x1 y0 y1 t0 t1 te) :
    Calls Tryd.prog 8 #[encl x0 x1, encl y0 y1] w fun e w' => e = .returned (.bool true) ∧ Q w w' := by
  go_enter Tryd.func8, Tryd.ntmps8
  have QC := Q.refl w
  go_upto_region 1 with fail
  have B3 := (Has.new w x0 x1 24).alloc (.cells #[.int .i64 y0, .int .i64 y1] 24)
  have B4 : Has _ (w.heap.size + 1) y0 y1 := Has.newAt (W := w.alloc (.cells #[.int .i64 x0, .int .i64 x1] 24)) (t := 24) (by simp)
  have L3 : w.heap.size ≤ w.heap.size := Nat.le_refl _
  have L4 : w.heap.size ≤ w.heap.size + 1 := Nat.le_succ _
  replace QC := (QC.alloc (.cells #[.int .i64 x0, .int .i64 x1] 24)).alloc (.cells #[.int .i64 y0, .int .i64 y1] 24)
  generalize (w.alloc (.cells #[.int .i64 x0, .int .i64 x1] 24)).alloc (.cells #[.int .i64 y0, .int .i64 y1] 24) = v1 at *
  obtain ⟨z3, k30, k31, f30, f31⟩ := id B3
  obtain ⟨z4, k40, k41, f40, f41⟩ := id B4
  go_wp2_with fail
  clear z3 k30 k31 f30 f31
  clear z4 k40 k41 f40 f41
  refine (h1.out _).mono ?_
  rintro e w2 ⟨rfl, QA⟩
  replace B3 := B3.mono QA
  replace B4 := B4.mono QA
  replace QC := QC.trans QA
  clear QA
  go_upto_region 2 with fail
  have L6 : w.heap.size ≤ w2.heap.size := QC.size
  have l3_6 : w.heap.size < w2.heap.size := B3.lt
  have l4_6 : (w.heap.size + 1) < w2.heap.size := B4.lt
  replace B3 := B3.alloc (.cells #[.int .i64 (p0), .int .i64 (p1)] 24)
  replace B4 := B4.alloc (.cells #[.int .i64 (p0), .int .i64 (p1)] 24)
  have B6 := Has.new w2 (p0) (p1) 24
  replace QC := QC.alloc (.cells #[.int .i64 (p0), .int .i64 (p1)] 24)
  generalize w2.alloc (.cells #[.int .i64 (p0), .int .i64 (p1)] 24) = v3 at *
  generalize w2.heap.size = g6 at *
  obtain ⟨z3, k30, k31, f30, f31⟩ := id B3
  obtain ⟨z4, k40, k41, f40, f41⟩ := id B4
  go_wp2_with fail
  clear z3 k30 k31 f30 f31
  clear z4 k40 k41 f40 f41
  refine (h2.out _).mono ?_
  rintro e w4 ⟨rfl, QA⟩
  replace B3 := B3.mono QA
  replace B4 := B4.mono QA
  replace B6 := B6.mono QA
  replace QC := QC.trans QA
  clear QA
  go_upto_region 3 with fail
  have L8 : w.heap.size ≤ w4.heap.size := QC.size
  have l3_8 : w.heap.size < w4.heap.size := B3.lt
  have l4_8 : (w.heap.size + 1) < w4.heap.size := B4.lt
  have l6_8 : g6 < w4.heap.size := B6.lt
  replace B3 := B3.alloc (.cells #[.int .i64 (p0), .int .i64 (p1)] 24)
  replace B4 := B4.alloc (.cells #[.int .i64 (p0), .int .i64 (p1)] 24)
  replace B6 := B6.alloc (.cells #[.int .i64 (p0), .int .i64 (p1)] 24)
  have B8 := Has.new w4 (p0) (p1) 24
  replace QC := QC.alloc (.cells #[.int .i64 (p0), .int .i64 (p1)] 24)
  generalize w4.alloc (.cells #[.int .i64 (p0), .int .i64 (p1)] 24) = v5 at *
  generalize w4.heap.size = g8 at *
  obtain ⟨z3, k30, k31, f30, f31⟩ := id B3
  obtain ⟨z4, k40, k41, f40, f41⟩ := id B4
  go_wp2_with fail
  clear z3 k30 k31 f30 f31
  clear z4 k40 k41 f40 f41
  refine (h3.out _).mono ?_
  rintro e w6 ⟨rfl, QA⟩
  replace B3 := B3.mono QA
  replace B4 := B4.mono QA
  replace B6 := B6.mono QA
  replace B8 := B8.mono QA
  replace QC := QC.trans QA
  clear QA
  go_upto_region 4 with fail
  have L10 : w.heap.size ≤ w6.heap.size := QC.size
  have l3_10 : w.heap.size < w6.heap.size := B3.lt
  have l4_10 : (w.heap.size + 1) < w6.heap.size := B4.lt
  have l6_10 : g6 < w6.heap.size := B6.lt
  have l8_10 : g8 < w6.heap.size := B8.lt
  replace B3 := B3.alloc (.cells #[.int .i64 (r0), .int .i64 (r1)] 24)
  replace B4 := B4.alloc (.cells #[.int .i64 (r0), .int .i64 (r1)] 24)
  replace B6 := B6.alloc (.cells #[.int .i64 (r0), .int .i64 (r1)] 24)
  replace B8 := B8.alloc (.cells #[.int .i64 (r0), .int .i64 (r1)] 24)
  have B10 := Has.new w6 (r0) (r1) 24
  replace QC := QC.alloc (.cells #[.int .i64 (r0), .int .i64 (r1)] 24)
  generalize w6.alloc (.cells #[.int .i64 (r0), .int .i64 (r1)] 24) = v7 at *
  generalize w6.heap.size = g10 at *
  obtain ⟨z3, k30, k31, f30, f31⟩ := id B3
  obtain ⟨z4, k40, k41, f40, f41⟩ := id B4
  go_wp2_with fail
  clear z3 k30 k31 f30 f31
  clear z4 k40 k41 f40 f41
  refine (h4.out _).mono ?_
  rintro e w8 ⟨rfl, QA⟩
  replace B3 := B3.mono QA
  replace B4 := B4.mono QA
  replace B6 := B6.mono QA
  replace B8 := B8.mono QA
  replace B10 := B10.mono QA
  replace QC := QC.trans QA
  clear QA
  go_upto_region 5 with fail
  have L12 : w.heap.size ≤ w8.heap.size := QC.size
  have l3_12 : w.heap.size < w8.heap.size := B3.lt
  have l4_12 : (w.heap.size + 1) < w8.heap.size := B4.lt
  have l6_12 : g6 < w8.heap.size := B6.lt
  have l8_12 : g8 < w8.heap.size := B8.lt
  have l10_12 : g10 < w8.heap.size := B10.lt
  replace B3 := B3.alloc (.cells #[.int .i64 (r0), .int .i64 (r1)] 24)
  replace B4 := B4.alloc (.cells #[.int .i64 (r0), .int .i64 (r1)] 24)
  replace B6 := B6.alloc (.cells #[.int .i64 (r0), .int .i64 (r1)] 24)
  replace B8 := B8.alloc (.cells #[.int .i64 (r0), .int .i64 (r1)] 24)
  replace B10 := B10.alloc (.cells #[.int .i64 (r0), .int .i64 (r1)] 24)
  have B12 := Has.new w8 (r0) (r1) 24
  replace QC := QC.alloc (.cells #[.int .i64 (r0), .int .i64 (r1)] 24)
  generalize w8.alloc (.cells #[.int .i64 (r0), .int .i64 (r1)] 24) = v9 at *
  generalize w8.heap.size = g12 at *
  obtain ⟨z6, k60, k61, f60, f61⟩ := id B6
  obtain ⟨z8, k80, k81, f80, f81⟩ := id B8
  obtain ⟨z10, k100, k101, f100, f101⟩ := id B10
  obtain ⟨z12, k120, k121, f120, f121⟩ := id B12
  have hn := encl_neq
  go_upto_region 7 with fail
  clear z6 k60 k61 f60 f61
  clear z8 k80 k81 f80 f81
  clear z10 k100 k101 f100 f101
  clear z12 k120 k121 f120 f121
  clear hn
  obtain ⟨z3, k30, k31, f30, f31⟩ := id B3
  obtain ⟨z4, k40, k41, f40, f41⟩ := id B4
  go_wp2_with fail
  clear z3 k30 k31 f30 f31
  clear z4 k40 k41 f40 f41
  refine (h5.out _).mono ?_
  rintro e w10 ⟨rfl, QA⟩
  replace B3 := B3.mono QA
  replace B4 := B4.mono QA
  replace B6 := B6.mono QA
  replace B8 := B8.mono QA
  replace B10 := B10.mono QA
  replace B12 := B12.mono QA
  replace QC := QC.trans QA
  clear QA
  obtain ⟨z6, k60, k61, f60, f61⟩ := id B6
  go_upto_region 8 with fail
  clear z6 k60 k61 f60 f61
  replace B3 := B3.apart2 (g' := g6) (by omega) (.int .i64 (s0)) (.int .i64 (s1))
  replace B4 := B4.apart2 (g' := g6) (by omega) (.int .i64 (s0)) (.int .i64 (s1))
  replace B8 := B8.apart2 (g' := g6) (by omega) (.int .i64 (s0)) (.int .i64 (s1))
  replace B10 := B10.apart2 (g' := g6) (by omega) (.int .i64 (s0)) (.int .i64 (s1))
  replace B12 := B12.apart2 (g' := g6) (by omega) (.int .i64 (s0)) (.int .i64 (s1))
  replace B6 := B6.store (s0) (s1)
  replace QC := (QC.setCell (p := ⟨g6, 0, none⟩) L6 (.int .i64 (s0))).setCell (p := ⟨g6, 1, none⟩) L6 (.int .i64 (s1))
  generalize (w10.setCell ⟨g6, 0, none⟩ (.int .i64 (s0))).setCell ⟨g6, 1, none⟩ (.int .i64 (s1)) = v11 at *
  obtain ⟨z3, k30, k31, f30, f31⟩ := id B3
  obtain ⟨z4, k40, k41, f40, f41⟩ := id B4
  go_wp2_with fail
  clear z3 k30 k31 f30 f31
  clear z4 k40 k41 f40 f41
  refine (h6.out _).mono ?_
  rintro e w12 ⟨rfl, QA⟩
  replace B3 := B3.mono QA
  replace B4 := B4.mono QA
  replace B6 := B6.mono QA
  replace B8 := B8.mono QA
  replace B10 := B10.mono QA
  replace B12 := B12.mono QA
  replace QC := QC.trans QA
  clear QA
  obtain ⟨z8, k80, k81, f80, f81⟩ := id B8
  go_upto_region 9 with fail
  clear z8 k80 k81 f80 f81
  replace B3 := B3.apart2 (g' := g8) (by omega) (.int .i64 (s0)) (.int .i64 (s1))
  replace B4 := B4.apart2 (g' := g8) (by omega) (.int .i64 (s0)) (.int .i64 (s1))
  replace B6 := B6.apart2 (g' := g8) (by omega) (.int .i64 (s0)) (.int .i64 (s1))
  replace B10 := B10.apart2 (g' := g8) (by omega) (.int .i64 (s0)) (.int .i64 (s1))
  replace B12 := B12.apart2 (g' := g8) (by omega) (.int .i64 (s0)) (.int .i64 (s1))
  replace B8 := B8.store (s0) (s1)
  replace QC := (QC.setCell (p := ⟨g8, 0, none⟩) L8 (.int .i64 (s0))).setCell (p := ⟨g8, 1, none⟩) L8 (.int .i64 (s1))
  generalize (w12.setCell ⟨g8, 0, none⟩ (.int .i64 (s0))).setCell ⟨g8, 1, none⟩ (.int .i64 (s1)) = v13 at *
  obtain ⟨z3, k30, k31, f30, f31⟩ := id B3
  obtain ⟨z4, k40, k41, f40, f41⟩ := id B4
  go_wp2_with fail
  clear z3 k30 k31 f30 f31
  clear z4 k40 k41 f40 f41
  refine (h7.out _).mono ?_
  rintro e w14 ⟨rfl, QA⟩
  replace B3 := B3.mono QA
  replace B4 := B4.mono QA
  replace B6 := B6.mono QA
  replace B8 := B8.mono QA
  replace B10 := B10.mono QA
  replace B12 := B12.mono QA
  replace QC := QC.trans QA
  clear QA
  obtain ⟨z10, k100, k101, f100, f101⟩ := id B10
  go_upto_region 10 with fail
  clear z10 k100 k101 f100 f101
  replace B3 := B3.apart2 (g' := g10) (by omega) (.int .i64 (t0)) (.int .i64 (t1))
  replace B4 := B4.apart2 (g' := g10) (by omega) (.int .i64 (t0)) (.int .i64 (t1))
  replace B6 := B6.apart2 (g' := g10) (by omega) (.int .i64 (t0)) (.int .i64 (t1))
  replace B8 := B8.apart2 (g' := g10) (by omega) (.int .i64 (t0)) (.int .i64 (t1))
  replace B12 := B12.apart2 (g' := g10) (by omega) (.int .i64 (t0)) (.int .i64 (t1))
  replace B10 := B10.store (t0) (t1)
  replace QC := (QC.setCell (p := ⟨g10, 0, none⟩) L10 (.int .i64 (t0))).setCell (p := ⟨g10, 1, none⟩) L10 (.int .i64 (t1))
  generalize (w14.setCell ⟨g10, 0, none⟩ (.int .i64 (t0))).setCell ⟨g10, 1, none⟩ (.int .i64 (t1)) = v15 at *
  obtain ⟨z3, k30, k31, f30, f31⟩ := id B3
  obtain ⟨z4, k40, k41, f40, f41⟩ := id B4
  go_wp2_with fail
  clear z3 k30 k31 f30 f31
  clear z4 k40 k41 f40 f41
  refine (h8.out _).mono ?_
  rintro e w16 ⟨rfl, QA⟩
  replace B3 := B3.mono QA
  replace B4 := B4.mono QA
  replace B6 := B6.mono QA
  replace B8 := B8.mono QA
  replace B10 := B10.mono QA
  replace B12 := B12.mono QA
  replace QC := QC.trans QA
  clear QA
  obtain ⟨z12, k120, k121, f120, f121⟩ := id B12
  go_upto_region 11 with fail
  clear z12 k120 k121 f120 f121
  replace B3 := B3.apart2 (g' := g12) (by omega) (.int .i64 (t0)) (.int .i64 (t1))
  replace B4 := B4.apart2 (g' := g12) (by omega) (.int .i64 (t0)) (.int .i64 (t1))
  replace B6 := B6.apart2 (g' := g12) (by omega) (.int .i64 (t0)) (.int .i64 (t1))
  replace B8 := B8.apart2 (g' := g12) (by omega) (.int .i64 (t0)) (.int .i64 (t1))
  replace B10 := B10.apart2 (g' := g12) (by omega) (.int .i64 (t0)) (.int .i64 (t1))
  replace B12 := B12.store (t0) (t1)
  replace QC := (QC.setCell (p := ⟨g12, 0, none⟩) L12 (.int .i64 (t0))).setCell (p := ⟨g12, 1, none⟩) L12 (.int .i64 (t1))
  generalize (w16.setCell ⟨g12, 0, none⟩ (.int .i64 (t0))).setCell ⟨g12, 1, none⟩ (.int .i64 (t1)) = v17 at *
  have T1 := T.mono QC
  clear T
  obtain ⟨z6, k60, k61, f60, f61⟩ := id B6
  obtain ⟨z8, k80, k81, f80, f81⟩ := id B8
  obtain ⟨z10, k100, k101, f100, f101⟩ := id B10
  obtain ⟨z12, k120, k121, f120, f121⟩ := id B12
  have hn := encl_eq
  go_wp2_with fail
  clear z6 k60 k61 f60 f61
  clear z8 k80 k81 f80 f81
  clear z10 k100 k101 f100 f101
  clear z12 k120 k121 f120 f121
  clear hn
  refine (Awake_any _ T1).mono ?_
  rintro e w18 ⟨rfl, QA⟩
  replace B3 := B3.mono QA
  replace B4 := B4.mono QA
  replace B6 := B6.mono QA
  replace B8 := B8.mono QA
  replace B10 := B10.mono QA
  replace B12 := B12.mono QA
  replace QC := QC.trans QA
  clear QA
  go_wp2_with fail
  go_ret
  exact ⟨rfl, QC⟩

theorem angleArithmetic_all (x0 x1 y0 y1 : Int) (hx0 : (Lit.int .i64 x0).wf = true) (hx1 : (Lit.int .i64 x1).wf = true) (hy0 : (Lit.int .i64 y0).wf = true) (hy1 : (Lit.int .i64 y1).wf = true) (w : World) (T : Tables w) :
    Calls Tryd.prog 8 #[encl x0 x1, encl y0 y1] w fun e w' => e = .returned (.bool true) ∧ Q w w' := by
  have hx0 := bounds_i64 hx0
  have hx1 := bounds_i64 hx1
  have hy0 := bounds_i64 hy0
  have hy1 := bounds_i64 hy1
  obtain ⟨p0, p1, pe, hp⟩ := gRes_ex (fun a b => a + b) (fun _ _ => 1) x0 x1 y0 y1
  obtain ⟨r0, r1, re, hr⟩ := gRes_ex (fun a b => a - b) (fun _ _ => 1) x0 x1 y0 y1
  obtain ⟨s0, s1, se, hs⟩ := gRes_ex (fun a b => a * b) (fun _ _ => 100000000) x0 x1 y0 y1
  obtain ⟨t0, t1, te, ht⟩ := oRes_ex x0 x1 y0 y1
  exact arithmetic_in x0 x1 y0 y1 p0 p1 pe r0 r1 re s0 s1 se t0 t1 te w T
    (fun w => Plus_any x0 x1 y0 y1 p0 p1 pe w hx0 hx1 hy0 hy1 hp) (fun w => refPlus_any x0 x1 y0 y1 p0 p1 pe w hp) (fun w => Minus_any x0 x1 y0 y1 r0 r1 re w hx0 hx1 hy0 hy1 hr) (fun w => refMinus_any x0 x1 y0 y1 r0 r1 re w hr)
    (fun w => Times_any x0 x1 y0 y1 s0 s1 se w hx0 hx1 hy0 hy1 hs) (fun w => refTimes_any x0 x1 y0 y1 s0 s1 se w hs) (fun w => Over_any x0 x1 y0 y1 t0 t1 te w hx0 hx1 hy0 hy1 ht) (fun w => refOver_any x0 x1 y0 y1 t0 t1 te w ht)

end Go.Proofs.YtjbhnjnlpekpoaaDoor
