/-
  The walk of AngleEncloses.
-/
import Derived.Test.YtjbhnjnlpekpoaaDoorBackA
import Derived.Test.YtjbhnjnlpekpoaaDoorEnclP
namespace Go.Proofs.YtjbhnjnlpekpoaaDoor
open Go.RowKit Go.Sort
set_option linter.unusedVariables false

theorem within_yes (a b c d : Int) (w : World) (h1 : c ≤ a) (h2 : b ≤ d) : Calls Tryd.prog 31 #[encl a b, encl c d] w fun e w' => e = .returned (.bool true) ∧ Q w w' := by
  go_enter Tryd.func31, Tryd.ntmps31
  go_wp2_with fail
  go_ret
  exact ⟨rfl, ((Q.refl _).alloc _).alloc _⟩

set_option maxRecDepth 100000 in
set_option maxHeartbeats 8000000 in
theorem encl_in (x y k p s0 s1 c0 c1 p0 p1 q0 q1 l0 l1 h0 h1 : Int) (w : World) (T : Tables w)
    (hx1 : -3600000000 ≤ x) (hx2 : x ≤ y) (hy2 : y ≤ 3600000000) (hk0 : 0 ≤ k) (hk1 : k ≤ 255) (hp : Hid ((y - x) * k = p)) (hp0 : 0 ≤ p) (hp1 : p ≤ 1900000000000)
    (hS : EC 27 x y s0 s1) (hC : EC 29 x y c0 c1) (hP : SC 16 (x + p / 255) p0 p1) (hQ : SC 17 (x + p / 255) q0 q1)
    (i1 : s0 ≤ p0) (i2 : p1 ≤ s1) (i3 : c0 ≤ q0) (i4 : q1 ≤ c1)
    (hL : SC 16 x l0 l1) (hH : SC 16 y h0 h1) (r1 : s0 = min l0 h0 ∨ s0 = -100000000) (r2 : s1 = max l1 h1 ∨ s1 = 100000000)
    (hf : y - x < 360000000 ∨ (s0 = -100000000 ∧ s1 = 100000000)) :
    Calls Tryd.prog 6 #[encl x y, .int .u8 k] w fun e w' => e = .returned (.bool true) ∧ Q w w' := by
  go_enter Tryd.func6, Tryd.ntmps6
  have QC := Q.refl w
  go_upto_region 1 with fail
  have B2 := Has.new w (x) (y) 24
  have L2 : w.heap.size ≤ w.heap.size := Nat.le_refl _
  replace QC := QC.alloc (.cells #[.int .i64 (x), .int .i64 (y)] 24)
  generalize w.alloc (.cells #[.int .i64 (x), .int .i64 (y)] 24) = v1 at *
  obtain ⟨z2, k20, k21, f20, f21⟩ := id B2
  go_wp2_with fail
  clear z2 k20 k21 f20 f21
  refine (hS.out _).mono ?_
  rintro e w2 ⟨rfl, QA⟩
  replace B2 := B2.mono QA
  replace QC := QC.trans QA
  clear QA
  go_upto_region 2 with fail
  have L5 : w.heap.size ≤ w2.heap.size := QC.size
  have l2_5 : w.heap.size < w2.heap.size := B2.lt
  replace B2 := B2.alloc (.cells #[.int .i64 (s0), .int .i64 (s1)] 24)
  have B5 := Has.new w2 (s0) (s1) 24
  replace QC := QC.alloc (.cells #[.int .i64 (s0), .int .i64 (s1)] 24)
  generalize w2.alloc (.cells #[.int .i64 (s0), .int .i64 (s1)] 24) = v3 at *
  generalize w2.heap.size = g5 at *
  obtain ⟨z2, k20, k21, f20, f21⟩ := id B2
  go_wp2_with fail
  clear z2 k20 k21 f20 f21
  refine (hC.out _).mono ?_
  rintro e w4 ⟨rfl, QA⟩
  replace B2 := B2.mono QA
  replace B5 := B5.mono QA
  replace QC := QC.trans QA
  clear QA
  go_upto_region 3 with fail
  have L7 : w.heap.size ≤ w4.heap.size := QC.size
  have l2_7 : w.heap.size < w4.heap.size := B2.lt
  have l5_7 : g5 < w4.heap.size := B5.lt
  replace B2 := B2.alloc (.cells #[.int .i64 (c0), .int .i64 (c1)] 24)
  replace B5 := B5.alloc (.cells #[.int .i64 (c0), .int .i64 (c1)] 24)
  have B7 := Has.new w4 (c0) (c1) 24
  replace QC := QC.alloc (.cells #[.int .i64 (c0), .int .i64 (c1)] 24)
  generalize w4.alloc (.cells #[.int .i64 (c0), .int .i64 (c1)] 24) = v5 at *
  generalize w4.heap.size = g7 at *
  go_upto_region 5 with fail
  obtain ⟨z2, k20, k21, f20, f21⟩ := id B2
  have e1 : wrap64 ((y - x) * k) = p := by rw [hp.out]; exact IntWalk.wrap64_in _ (by omega)
  have e2 : IntKind.i64.wrap ((y - x) * k) = p := by rw [hp.out]; exact IntWalk.i64_in _ (by omega)
  go_upto_region 6 with fail
  clear z2 k20 k21 f20 f21
  clear e1 e2
  generalize x + p / 255 = a at *
  go_wp2_with fail
  refine (hP.out _).mono ?_
  rintro e w6 ⟨rfl, QA⟩
  replace B2 := B2.mono QA
  replace B5 := B5.mono QA
  replace B7 := B7.mono QA
  replace QC := QC.trans QA
  clear QA
  go_upto_region 7 with fail
  have L10 : w.heap.size ≤ w6.heap.size := QC.size
  have l2_10 : w.heap.size < w6.heap.size := B2.lt
  have l5_10 : g5 < w6.heap.size := B5.lt
  have l7_10 : g7 < w6.heap.size := B7.lt
  replace B2 := B2.alloc (.cells #[.int .i64 (p0), .int .i64 (p1)] 24)
  replace B5 := B5.alloc (.cells #[.int .i64 (p0), .int .i64 (p1)] 24)
  replace B7 := B7.alloc (.cells #[.int .i64 (p0), .int .i64 (p1)] 24)
  have B10 := Has.new w6 (p0) (p1) 24
  replace QC := QC.alloc (.cells #[.int .i64 (p0), .int .i64 (p1)] 24)
  generalize w6.alloc (.cells #[.int .i64 (p0), .int .i64 (p1)] 24) = v7 at *
  generalize w6.heap.size = g10 at *
  go_wp2_with fail
  refine (hQ.out _).mono ?_
  rintro e w8 ⟨rfl, QA⟩
  replace B2 := B2.mono QA
  replace B5 := B5.mono QA
  replace B7 := B7.mono QA
  replace B10 := B10.mono QA
  replace QC := QC.trans QA
  clear QA
  go_upto_region 8 with fail
  have L11 : w.heap.size ≤ w8.heap.size := QC.size
  have l2_11 : w.heap.size < w8.heap.size := B2.lt
  have l5_11 : g5 < w8.heap.size := B5.lt
  have l7_11 : g7 < w8.heap.size := B7.lt
  have l10_11 : g10 < w8.heap.size := B10.lt
  replace B2 := B2.alloc (.cells #[.int .i64 (q0), .int .i64 (q1)] 24)
  replace B5 := B5.alloc (.cells #[.int .i64 (q0), .int .i64 (q1)] 24)
  replace B7 := B7.alloc (.cells #[.int .i64 (q0), .int .i64 (q1)] 24)
  replace B10 := B10.alloc (.cells #[.int .i64 (q0), .int .i64 (q1)] 24)
  have B11 := Has.new w8 (q0) (q1) 24
  replace QC := QC.alloc (.cells #[.int .i64 (q0), .int .i64 (q1)] 24)
  generalize w8.alloc (.cells #[.int .i64 (q0), .int .i64 (q1)] 24) = v9 at *
  generalize w8.heap.size = g11 at *
  obtain ⟨z10, k100, k101, f100, f101⟩ := id B10
  obtain ⟨z5, k50, k51, f50, f51⟩ := id B5
  go_wp2_with fail
  clear z10 k100 k101 f100 f101
  clear z5 k50 k51 f50 f51
  refine (within_yes p0 p1 s0 s1 _ i1 i2).mono ?_
  rintro e w10 ⟨rfl, QA⟩
  replace B2 := B2.mono QA
  replace B5 := B5.mono QA
  replace B7 := B7.mono QA
  replace B10 := B10.mono QA
  replace B11 := B11.mono QA
  replace QC := QC.trans QA
  clear QA
  obtain ⟨z11, k110, k111, f110, f111⟩ := id B11
  obtain ⟨z7, k70, k71, f70, f71⟩ := id B7
  go_wp2_with fail
  clear z11 k110 k111 f110 f111
  clear z7 k70 k71 f70 f71
  refine (within_yes q0 q1 c0 c1 _ i3 i4).mono ?_
  rintro e w11 ⟨rfl, QA⟩
  replace B2 := B2.mono QA
  replace B5 := B5.mono QA
  replace B7 := B7.mono QA
  replace B10 := B10.mono QA
  replace B11 := B11.mono QA
  replace QC := QC.trans QA
  clear QA
  go_upto_region 10 with fail
  obtain ⟨z2, k20, k21, f20, f21⟩ := id B2
  go_wp2_with fail
  clear z2 k20 k21 f20 f21
  refine (hL.out _).mono ?_
  rintro e w12 ⟨rfl, QA⟩
  replace B2 := B2.mono QA
  replace B5 := B5.mono QA
  replace B7 := B7.mono QA
  replace B10 := B10.mono QA
  replace B11 := B11.mono QA
  replace QC := QC.trans QA
  clear QA
  go_upto_region 11 with fail
  have L12 : w.heap.size ≤ w12.heap.size := QC.size
  have l2_12 : w.heap.size < w12.heap.size := B2.lt
  have l5_12 : g5 < w12.heap.size := B5.lt
  have l7_12 : g7 < w12.heap.size := B7.lt
  have l10_12 : g10 < w12.heap.size := B10.lt
  have l11_12 : g11 < w12.heap.size := B11.lt
  replace B2 := B2.alloc (.cells #[.int .i64 (l0), .int .i64 (l1)] 24)
  replace B5 := B5.alloc (.cells #[.int .i64 (l0), .int .i64 (l1)] 24)
  replace B7 := B7.alloc (.cells #[.int .i64 (l0), .int .i64 (l1)] 24)
  replace B10 := B10.alloc (.cells #[.int .i64 (l0), .int .i64 (l1)] 24)
  replace B11 := B11.alloc (.cells #[.int .i64 (l0), .int .i64 (l1)] 24)
  have B12 := Has.new w12 (l0) (l1) 24
  replace QC := QC.alloc (.cells #[.int .i64 (l0), .int .i64 (l1)] 24)
  generalize w12.alloc (.cells #[.int .i64 (l0), .int .i64 (l1)] 24) = v13 at *
  generalize w12.heap.size = g12 at *
  obtain ⟨z2, k20, k21, f20, f21⟩ := id B2
  go_wp2_with fail
  clear z2 k20 k21 f20 f21
  refine (hH.out _).mono ?_
  rintro e w14 ⟨rfl, QA⟩
  replace B2 := B2.mono QA
  replace B5 := B5.mono QA
  replace B7 := B7.mono QA
  replace B10 := B10.mono QA
  replace B11 := B11.mono QA
  replace B12 := B12.mono QA
  replace QC := QC.trans QA
  clear QA
  go_upto_region 12 with fail
  have L13 : w.heap.size ≤ w14.heap.size := QC.size
  have l2_13 : w.heap.size < w14.heap.size := B2.lt
  have l5_13 : g5 < w14.heap.size := B5.lt
  have l7_13 : g7 < w14.heap.size := B7.lt
  have l10_13 : g10 < w14.heap.size := B10.lt
  have l11_13 : g11 < w14.heap.size := B11.lt
  have l12_13 : g12 < w14.heap.size := B12.lt
  replace B2 := B2.alloc (.cells #[.int .i64 (h0), .int .i64 (h1)] 24)
  replace B5 := B5.alloc (.cells #[.int .i64 (h0), .int .i64 (h1)] 24)
  replace B7 := B7.alloc (.cells #[.int .i64 (h0), .int .i64 (h1)] 24)
  replace B10 := B10.alloc (.cells #[.int .i64 (h0), .int .i64 (h1)] 24)
  replace B11 := B11.alloc (.cells #[.int .i64 (h0), .int .i64 (h1)] 24)
  replace B12 := B12.alloc (.cells #[.int .i64 (h0), .int .i64 (h1)] 24)
  have B13 := Has.new w14 (h0) (h1) 24
  replace QC := QC.alloc (.cells #[.int .i64 (h0), .int .i64 (h1)] 24)
  generalize w14.alloc (.cells #[.int .i64 (h0), .int .i64 (h1)] 24) = v15 at *
  generalize w14.heap.size = g13 at *
  go_upto_region 14 with fail
  have T1 := T.mono QC
  clear T
  go_cut [14] (fun s14 wx => s14 = .bool true ∧ wx = v15)
  case first =>
    have m2 := run_min2
    have x2 := run_max2
    obtain ⟨z5, k50, k51, _, _⟩ := id B5
    obtain ⟨z12, k120, k121, _, _⟩ := id B12
    obtain ⟨z13, k130, k131, _, _⟩ := id B13
    clear B2 B5 B7 B10 B11 B12 B13 QC hS hC hP hQ hL hH T1 hp hf
    by_cases u1 : s0 = min l0 h0
    · have v1 : (s0 == min l0 h0) = true := by simp [u1]
      have U1 := Lib.hid u1
      clear u1 r1
      by_cases u2 : s1 = max l1 h1
      · have v2 : (s1 == max l1 h1) = true := by simp [u2]
        clear u2 r2
        go_wp2_with fail
        go_meet
        exact ⟨rfl, rfl⟩
      · have v2 : (s1 == max l1 h1) = false := by simp [u2]
        have v3 : (s1 == 100000000) = true := by simp; omega
        clear u2 r2
        go_wp2_with fail
        go_meet
        exact ⟨rfl, rfl⟩
    · have v1 : (s0 == min l0 h0) = false := by simp [u1]
      have v4 : (s0 == -100000000) = true := by simp; omega
      clear u1 r1
      by_cases u2 : s1 = max l1 h1
      · have v2 : (s1 == max l1 h1) = true := by simp [u2]
        clear u2 r2
        go_wp2_with fail
        go_meet
        exact ⟨rfl, rfl⟩
      · have v2 : (s1 == max l1 h1) = false := by simp [u2]
        have v3 : (s1 == 100000000) = true := by simp; omega
        clear u2 r2
        go_wp2_with fail
        go_meet
        exact ⟨rfl, rfl⟩
  case rest =>
    obtain ⟨rfl, rfl⟩ := hcut
    obtain ⟨z2, k20, k21, _, _⟩ := id B2
    obtain ⟨z5, k50, k51, _, _⟩ := id B5
    have m20 := fun n os => cell_grown (a := ⟨w.heap.size, 0, none⟩) z2 k20 n os
    have m21 := fun n os => cell_grown (a := ⟨w.heap.size, 1, none⟩) z2 k21 n os
    have m50 := fun n os => cell_grown (a := ⟨g5, 0, none⟩) z5 k50 n os
    have m51 := fun n os => cell_grown (a := ⟨g5, 1, none⟩) z5 k51 n os
    clear B2 B5 B7 B10 B11 B12 B13 hS hC hP hQ hL hH r1 r2
    have he := encl_eq
    have mixed : Tryd.prog.follows .mixedOrders = true := by kernel_rfl
    have e3 : IntKind.i64.wrap (y - x) = y - x := IntWalk.i64_in _ (by omega)
    go_wp2_with fail
    by_cases hlt : y - x < 360000000
    · go_quiet_grown (first
        | (go_at_call 15; exact Calls.of_Q (v := .bool true) (Awake_any _ (T1.mono (Q.of_grow _ _ _)))))
      go_wp2_with fail
      go_ret
      exact ⟨rfl, QC.trans (Q.of_grow _ _ _)⟩
    · obtain ⟨rfl, rfl⟩ : s0 = -100000000 ∧ s1 = 100000000 := by omega
      go_quiet_grown (first
        | (go_at_call 24; exact Calls.of_Q (x_any _ _ _))
        | (go_at_call 15; exact Calls.of_Q (v := .bool true) (Awake_any _ (T1.mono (Q.of_grow _ _ _)))))
      go_wp2_with fail
      go_ret
      exact ⟨rfl, QC.trans (Q.of_grow _ _ _)⟩

end Go.Proofs.YtjbhnjnlpekpoaaDoor
