/-
  The walk of AngleBack.
-/
import Derived.Test.YtjbhnjnlpekpoaaDoorCircA
import Derived.Test.YtjbhnjnlpekpoaaDoorBack
namespace Go.Proofs.YtjbhnjnlpekpoaaDoor
open Go.RowKit Go.Sort
set_option linter.unusedVariables false

theorem encl_neq (x y x' y' : Int) (w : World) : (binOp .neq 24 (.agg #[.int .i64 x, .int .i64 y]) (.agg #[.int .i64 x', .int .i64 y'])).run Tryd.prog w = .ok (.bool (!(x == x' && y == y'))) w := by
  rw [run_neq_struct, run_equalIn_agg _ _ _ _ _ (by kernel_rfl) (by kernel_rfl)]
  simp only [Program.fieldsOf, Tryd.underlying24]
  cases hx : (x == x')
  · simp [go_sem, Tryd.underlying3, hx]
  · simp [go_sem, Tryd.underlying3, hx]
    by_cases hy : y = y' <;> simp [hy]

abbrev EC (f : FuncId) (x y p q : Int) : Prop := Hid (∀ w, Calls Tryd.prog f #[encl x y] w fun e w' => e = .returned (.tuple #[encl p q, .int .i64 0]) ∧ Q w w')

set_option maxRecDepth 100000 in
set_option maxHeartbeats 8000000 in
theorem back_in (a v c0 c1 b0 b1 s0 s1 d0 d1 p0 p1 l0 l1 h0 h1 : Int) (w : World) (T : Tables w)
    (ha1 : 0 ≤ a) (ha2 : a ≤ 180000000) (hv1 : -100000000 ≤ v) (hv2 : v ≤ 100000000)
    (hC : SC 17 a c0 c1) (hA : EC 22 c0 c1 b0 b1) (hb1 : b0 ≤ a) (hb2 : a ≤ b1)
    (hS : SC 16 (a - 90000000) s0 s1) (hD : EC 23 s0 s1 d0 d1) (hd1 : d0 ≤ a - 90000000) (hd2 : a - 90000000 ≤ d1)
    (hP : EC 22 v v p0 p1) (hR : EC 23 v v (90000000 - p1) (90000000 - p0)) (hp0 : 0 ≤ p0) (hp1 : p1 ≤ 180000000) (hp2 : p1 - p0 ≤ 1) (hp3 : p0 ≤ 180000000) (hp4 : 0 ≤ p1)
    (hL : SC 17 p0 l0 l1) (hH : SC 17 p1 h0 h1) (hl : v ≤ l1) (hh : h0 ≤ v) :
    Calls Tryd.prog 4 #[.int .i64 a, .int .i64 v] w fun e w' => e = .returned (.bool true) ∧ Q w w' := by
  go_enter Tryd.func4, Tryd.ntmps4
  have QC := Q.refl w
  go_wp2_with fail
  refine (hC.out _).mono ?_
  rintro e w1 ⟨rfl, QA⟩
  replace QC := QC.trans QA
  clear QA
  go_upto_region 4 with fail
  have L5 : w.heap.size ≤ w1.heap.size := QC.size
  have B5 := Has.new w1 (c0) (c1) 24
  replace QC := QC.alloc (.cells #[.int .i64 (c0), .int .i64 (c1)] 24)
  generalize w1.alloc (.cells #[.int .i64 (c0), .int .i64 (c1)] 24) = v2 at *
  generalize w1.heap.size = g5 at *
  obtain ⟨z5, k50, k51, f50, f51⟩ := id B5
  go_wp2_with fail
  clear z5 k50 k51 f50 f51
  refine (hA.out _).mono ?_
  rintro e w3 ⟨rfl, QA⟩
  replace B5 := B5.mono QA
  replace QC := QC.trans QA
  clear QA
  go_upto_region 5 with fail
  have L7 : w.heap.size ≤ w3.heap.size := QC.size
  have l5_7 : g5 < w3.heap.size := B5.lt
  replace B5 := B5.alloc (.cells #[.int .i64 (b0), .int .i64 (b1)] 24)
  have B7 := Has.new w3 (b0) (b1) 24
  replace QC := QC.alloc (.cells #[.int .i64 (b0), .int .i64 (b1)] 24)
  generalize w3.alloc (.cells #[.int .i64 (b0), .int .i64 (b1)] 24) = v4 at *
  generalize w3.heap.size = g7 at *
  obtain ⟨z7, k70, k71, f70, f71⟩ := id B7
  go_upto_region 7 with fail
  clear z7 k70 k71 f70 f71
  have e1 : IntKind.i64.wrap (a - 90000000) = a - 90000000 := IntWalk.i64_in _ (by omega)
  go_wp2_with fail
  clear e1
  refine (hS.out _).mono ?_
  rintro e w5 ⟨rfl, QA⟩
  replace B5 := B5.mono QA
  replace B7 := B7.mono QA
  replace QC := QC.trans QA
  clear QA
  go_upto_region 8 with fail
  have L9 : w.heap.size ≤ w5.heap.size := QC.size
  have l5_9 : g5 < w5.heap.size := B5.lt
  have l7_9 : g7 < w5.heap.size := B7.lt
  replace B5 := B5.alloc (.cells #[.int .i64 (s0), .int .i64 (s1)] 24)
  replace B7 := B7.alloc (.cells #[.int .i64 (s0), .int .i64 (s1)] 24)
  have B9 := Has.new w5 (s0) (s1) 24
  replace QC := QC.alloc (.cells #[.int .i64 (s0), .int .i64 (s1)] 24)
  generalize w5.alloc (.cells #[.int .i64 (s0), .int .i64 (s1)] 24) = v6 at *
  generalize w5.heap.size = g9 at *
  obtain ⟨z9, k90, k91, f90, f91⟩ := id B9
  go_wp2_with fail
  clear z9 k90 k91 f90 f91
  refine (hD.out _).mono ?_
  rintro e w7 ⟨rfl, QA⟩
  replace B5 := B5.mono QA
  replace B7 := B7.mono QA
  replace B9 := B9.mono QA
  replace QC := QC.trans QA
  clear QA
  obtain ⟨z7, k70, k71, f70, f71⟩ := id B7
  go_upto_region 9 with fail
  clear z7 k70 k71 f70 f71
  replace B5 := B5.apart2 (g' := g7) (by omega) (.int .i64 (d0)) (.int .i64 (d1))
  replace B9 := B9.apart2 (g' := g7) (by omega) (.int .i64 (d0)) (.int .i64 (d1))
  replace B7 := B7.store (d0) (d1)
  replace QC := (QC.setCell (p := ⟨g7, 0, none⟩) L7 (.int .i64 (d0))).setCell (p := ⟨g7, 1, none⟩) L7 (.int .i64 (d1))
  generalize (w7.setCell ⟨g7, 0, none⟩ (.int .i64 (d0))).setCell ⟨g7, 1, none⟩ (.int .i64 (d1)) = v8 at *
  obtain ⟨z7, k70, k71, f70, f71⟩ := id B7
  have e1 : IntKind.i64.wrap (a - 90000000) = a - 90000000 := IntWalk.i64_in _ (by omega)
  go_upto_region 11 with fail
  clear z7 k70 k71 f70 f71
  clear e1
  go_wp2_with fail
  refine (x_any _ _ _).mono ?_
  rintro e w9 ⟨rfl, QA⟩
  replace B5 := B5.mono QA
  replace B7 := B7.mono QA
  replace B9 := B9.mono QA
  replace QC := QC.trans QA
  clear QA
  go_wp2_with fail
  refine (hP.out _).mono ?_
  rintro e w10 ⟨rfl, QA⟩
  replace B5 := B5.mono QA
  replace B7 := B7.mono QA
  replace B9 := B9.mono QA
  replace QC := QC.trans QA
  clear QA
  obtain ⟨z7, k70, k71, f70, f71⟩ := id B7
  go_upto_region 12 with fail
  clear z7 k70 k71 f70 f71
  replace B5 := B5.apart2 (g' := g7) (by omega) (.int .i64 (p0)) (.int .i64 (p1))
  replace B9 := B9.apart2 (g' := g7) (by omega) (.int .i64 (p0)) (.int .i64 (p1))
  replace B7 := B7.store (p0) (p1)
  replace QC := (QC.setCell (p := ⟨g7, 0, none⟩) L7 (.int .i64 (p0))).setCell (p := ⟨g7, 1, none⟩) L7 (.int .i64 (p1))
  generalize (w10.setCell ⟨g7, 0, none⟩ (.int .i64 (p0))).setCell ⟨g7, 1, none⟩ (.int .i64 (p1)) = v11 at *
  go_wp2_with fail
  refine (x_any _ _ _).mono ?_
  rintro e w12 ⟨rfl, QA⟩
  replace B5 := B5.mono QA
  replace B7 := B7.mono QA
  replace B9 := B9.mono QA
  replace QC := QC.trans QA
  clear QA
  go_wp2_with fail
  refine (hR.out _).mono ?_
  rintro e w13 ⟨rfl, QA⟩
  replace B5 := B5.mono QA
  replace B7 := B7.mono QA
  replace B9 := B9.mono QA
  replace QC := QC.trans QA
  clear QA
  go_upto_region 13 with fail
  have L10 : w.heap.size ≤ w13.heap.size := QC.size
  have l5_10 : g5 < w13.heap.size := B5.lt
  have l7_10 : g7 < w13.heap.size := B7.lt
  have l9_10 : g9 < w13.heap.size := B9.lt
  replace B5 := B5.alloc (.cells #[.int .i64 (90000000 - p1), .int .i64 (90000000 - p0)] 24)
  replace B7 := B7.alloc (.cells #[.int .i64 (90000000 - p1), .int .i64 (90000000 - p0)] 24)
  replace B9 := B9.alloc (.cells #[.int .i64 (90000000 - p1), .int .i64 (90000000 - p0)] 24)
  have B10 := Has.new w13 (90000000 - p1) (90000000 - p0) 24
  replace QC := QC.alloc (.cells #[.int .i64 (90000000 - p1), .int .i64 (90000000 - p0)] 24)
  generalize w13.alloc (.cells #[.int .i64 (90000000 - p1), .int .i64 (90000000 - p0)] 24) = v14 at *
  generalize w13.heap.size = g10 at *
  obtain ⟨z7, k70, k71, _, _⟩ := id B7
  obtain ⟨z10, k100, k101, _, _⟩ := id B10
  have m70 := fun n os => cell_grown (a := ⟨g7, 0, none⟩) z7 k70 n os
  have m71 := fun n os => cell_grown (a := ⟨g7, 1, none⟩) z7 k71 n os
  have m100 := fun n os => cell_grown (a := ⟨g10, 0, none⟩) z10 k100 n os
  have m101 := fun n os => cell_grown (a := ⟨g10, 1, none⟩) z10 k101 n os
  have hn := encl_neq
  have mixed : Tryd.prog.follows .mixedOrders = true := by kernel_rfl
  have e1 : IntKind.i64.wrap (90000000 - p1) = 90000000 - p1 := IntWalk.i64_in _ (by omega)
  have e2 : IntKind.i64.wrap (90000000 - p0) = 90000000 - p0 := IntWalk.i64_in _ (by omega)
  have e3 : IntKind.i64.wrap (p1 - p0) = p1 - p0 := IntWalk.i64_in _ (by omega)
  go_quiet_grown (first
    | (go_at_call 24; exact Calls.of_Q (x_any _ _ _)))
  have QW := Q.of_grow v14 nq osq
  replace B5 := B5.mono QW
  replace B7 := B7.mono QW
  replace B9 := B9.mono QW
  replace B10 := B10.mono QW
  replace QC := QC.trans QW
  clear QW m70 m71 k70 k71 z7 m100 m101 k100 k101 z10
  generalize grow (v14.drewN nq) osq = v15 at *
  clear hn mixed e1 e2 e3
  go_upto_region 15 with fail
  obtain ⟨z7, k70, k71, f70, f71⟩ := id B7
  go_wp2_with fail
  clear z7 k70 k71 f70 f71
  refine (hL.out _).mono ?_
  rintro e w16 ⟨rfl, QA⟩
  replace B5 := B5.mono QA
  replace B7 := B7.mono QA
  replace B9 := B9.mono QA
  replace B10 := B10.mono QA
  replace QC := QC.trans QA
  clear QA
  go_upto_region 16 with fail
  have L11 : w.heap.size ≤ w16.heap.size := QC.size
  have l5_11 : g5 < w16.heap.size := B5.lt
  have l7_11 : g7 < w16.heap.size := B7.lt
  have l9_11 : g9 < w16.heap.size := B9.lt
  have l10_11 : g10 < w16.heap.size := B10.lt
  replace B5 := B5.alloc (.cells #[.int .i64 (l0), .int .i64 (l1)] 24)
  replace B7 := B7.alloc (.cells #[.int .i64 (l0), .int .i64 (l1)] 24)
  replace B9 := B9.alloc (.cells #[.int .i64 (l0), .int .i64 (l1)] 24)
  replace B10 := B10.alloc (.cells #[.int .i64 (l0), .int .i64 (l1)] 24)
  have B11 := Has.new w16 (l0) (l1) 24
  replace QC := QC.alloc (.cells #[.int .i64 (l0), .int .i64 (l1)] 24)
  generalize w16.alloc (.cells #[.int .i64 (l0), .int .i64 (l1)] 24) = v17 at *
  generalize w16.heap.size = g11 at *
  obtain ⟨z7, k70, k71, f70, f71⟩ := id B7
  go_wp2_with fail
  clear z7 k70 k71 f70 f71
  refine (hH.out _).mono ?_
  rintro e w18 ⟨rfl, QA⟩
  replace B5 := B5.mono QA
  replace B7 := B7.mono QA
  replace B9 := B9.mono QA
  replace B10 := B10.mono QA
  replace B11 := B11.mono QA
  replace QC := QC.trans QA
  clear QA
  go_upto_region 17 with fail
  have L12 : w.heap.size ≤ w18.heap.size := QC.size
  have l5_12 : g5 < w18.heap.size := B5.lt
  have l7_12 : g7 < w18.heap.size := B7.lt
  have l9_12 : g9 < w18.heap.size := B9.lt
  have l10_12 : g10 < w18.heap.size := B10.lt
  have l11_12 : g11 < w18.heap.size := B11.lt
  replace B5 := B5.alloc (.cells #[.int .i64 (h0), .int .i64 (h1)] 24)
  replace B7 := B7.alloc (.cells #[.int .i64 (h0), .int .i64 (h1)] 24)
  replace B9 := B9.alloc (.cells #[.int .i64 (h0), .int .i64 (h1)] 24)
  replace B10 := B10.alloc (.cells #[.int .i64 (h0), .int .i64 (h1)] 24)
  replace B11 := B11.alloc (.cells #[.int .i64 (h0), .int .i64 (h1)] 24)
  have B12 := Has.new w18 (h0) (h1) 24
  replace QC := QC.alloc (.cells #[.int .i64 (h0), .int .i64 (h1)] 24)
  generalize w18.alloc (.cells #[.int .i64 (h0), .int .i64 (h1)] 24) = v19 at *
  generalize w18.heap.size = g12 at *
  have T1 := T.mono QC
  clear T
  obtain ⟨z11, k110, k111, f110, f111⟩ := id B11
  obtain ⟨z12, k120, k121, f120, f121⟩ := id B12
  go_wp2_with fail
  clear z11 k110 k111 f110 f111
  clear z12 k120 k121 f120 f121
  refine (Awake_any _ T1).mono ?_
  rintro e w20 ⟨rfl, QA⟩
  replace B5 := B5.mono QA
  replace B7 := B7.mono QA
  replace B9 := B9.mono QA
  replace B10 := B10.mono QA
  replace B11 := B11.mono QA
  replace B12 := B12.mono QA
  replace QC := QC.trans QA
  clear QA
  go_wp2_with fail
  go_ret
  exact ⟨rfl, QC⟩

end Go.Proofs.YtjbhnjnlpekpoaaDoor
