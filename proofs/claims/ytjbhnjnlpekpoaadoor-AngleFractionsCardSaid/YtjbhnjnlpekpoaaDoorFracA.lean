/-
  AngleFractions returns true, whatever the enclosures and the two numbers.
-/
import Derived.Test.YtjbhnjnlpekpoaaDoorFracW
import Derived.Test.YtjbhnjnlpekpoaaDoorArP
import Derived.Test.YtjbhnjnlpekpoaaDoorVal
namespace Go.Proofs.YtjbhnjnlpekpoaaDoor
open Go.RowKit Go.Sort
set_option linter.unusedVariables false

set_option maxRecDepth 100000 in
set_option maxHeartbeats 4000000 in
theorem frac_out (x0 x1 y0 y1 f0 f1 : Int) (w : World) (T : Tables w)
    (h : x1 < x0 ∨ (¬ x1 < x0 ∧ y1 < y0) ∨ (¬ x1 < x0 ∧ ¬ y1 < y0 ∧ x0 < -3000000000) ∨ (¬ x1 < x0 ∧ ¬ y1 < y0 ∧ ¬ x0 < -3000000000 ∧ 3000000000 < x1) ∨ (¬ x1 < x0 ∧ ¬ y1 < y0 ∧ ¬ x0 < -3000000000 ∧ ¬ 3000000000 < x1 ∧ y0 < -3000000000) ∨ (¬ x1 < x0 ∧ ¬ y1 < y0 ∧ ¬ x0 < -3000000000 ∧ ¬ 3000000000 < x1 ∧ ¬ y0 < -3000000000 ∧ 3000000000 < y1))
    (CT : FC 32 #[encl x0 x1, encl y0 y1] (.tuple #[encl 0 0, .int .i64 7])) (CO : FC 33 #[encl x0 x1, encl y0 y1] (.tuple #[encl 0 0, .int .i64 7])) :
    Calls Tryd.prog 7 #[encl x0 x1, encl y0 y1, .agg #[.int .u8 f0, .int .u8 f1]] w fun e w' => e = .returned (.bool true) ∧ Q w w' := by
  have H := Lib.hid h
  clear h
  go_enter Tryd.func7, Tryd.ntmps7
  go_upto_region 1 with fail
  generalize hW : ((w.alloc (Obj.cells #[Value.int IntKind.i64 x0, Value.int IntKind.i64 x1] 24)).alloc (Obj.cells #[Value.int IntKind.i64 y0, Value.int IntKind.i64 y1] 24)).alloc (Obj.cells #[Value.int IntKind.u8 f0, Value.int IntKind.u8 f1] 39) = W
  have B3 : Has W w.heap.size x0 x1 := by subst hW; exact ((Has.new w x0 x1 _).alloc _).alloc _
  have B4 : Has W (w.heap.size + 1) y0 y1 := by subst hW; exact (Has.newAt (by simp)).alloc _
  have QC : Q w W := by subst hW; exact (((Q.refl w).alloc _).alloc _).alloc _
  clear hW
  obtain ⟨z3, k30, k31, f30, f31⟩ := id B3
  obtain ⟨z4, k40, k41, f40, f41⟩ := id B4
  go_wp2_with fail
  refine (CT.out _).mono ?_
  rintro e w1 ⟨rfl, Q1⟩
  replace B3 := B3.mono Q1
  replace B4 := B4.mono Q1
  replace QC := QC.trans Q1
  clear Q1 z3 k30 k31 f30 f31 z4 k40 k41 f40 f41
  go_upto_region 2 with fail
  replace B3 := B3.alloc (.cells #[.int .i64 0, .int .i64 0] 24)
  replace B4 := B4.alloc (.cells #[.int .i64 0, .int .i64 0] 24)
  replace QC := QC.alloc (.cells #[.int .i64 0, .int .i64 0] 24)
  generalize w1.alloc (.cells #[.int .i64 0, .int .i64 0] 24) = v1 at *
  obtain ⟨z3, k30, k31, f30, f31⟩ := id B3
  obtain ⟨z4, k40, k41, f40, f41⟩ := id B4
  go_wp2_with fail
  refine (CO.out _).mono ?_
  rintro e w2 ⟨rfl, Q1⟩
  replace B3 := B3.mono Q1
  replace B4 := B4.mono Q1
  replace QC := QC.trans Q1
  clear Q1 z3 k30 k31 f30 f31 z4 k40 k41 f40 f41 CT CO
  go_upto_region 3 with fail
  replace B3 := B3.alloc (.cells #[.int .i64 0, .int .i64 0] 24)
  replace B4 := B4.alloc (.cells #[.int .i64 0, .int .i64 0] 24)
  replace QC := QC.alloc (.cells #[.int .i64 0, .int .i64 0] 24)
  generalize w2.alloc (.cells #[.int .i64 0, .int .i64 0] 24) = v2 at *
  obtain ⟨z3, k30, k31, f30, f31⟩ := id B3
  obtain ⟨z4, k40, k41, f40, f41⟩ := id B4
  have T1 := T.mono QC
  clear T B3 B4
  rcases H.out with h | ⟨h1, h2⟩ | ⟨h1, h2, h3⟩ | ⟨h1, h2, h3, h4⟩ | ⟨h1, h2, h3, h4, h5⟩ | ⟨h1, h2, h3, h4, h5, h6⟩
  all_goals
    clear H
    go_wp2_with fail
    refine (Awake_any _ T1).mono ?_
    rintro e w4 ⟨rfl, Q4⟩
    go_wp2_with fail
    go_ret
    exact ⟨rfl, QC.trans Q4⟩

theorem frac_mul (x0 x1 f : Int) (hx : -3000000000 ≤ x0 ∧ x1 ≤ 3000000000 ∧ x0 ≤ x1) (hf : 0 ≤ f ∧ f ≤ 255) : 0 ≤ (x1 - x0) * f ∧ (x1 - x0) * f ≤ 1900000000000 ∧ x0 ≤ x0 + (x1 - x0) * f / 255 ∧ x0 + (x1 - x0) * f / 255 ≤ x1 := by
  have m0 : 0 ≤ (x1 - x0) * f := Int.mul_nonneg (by omega) hf.1
  have m1 : (x1 - x0) * f ≤ (x1 - x0) * 255 := Int.mul_le_mul_of_nonneg_left hf.2 (by omega)
  generalize (x1 - x0) * f = p at *
  omega

theorem angleFractions_all (x0 x1 y0 y1 f0 f1 : Int) (hx0 : (Lit.int .i64 x0).wf = true) (hx1 : (Lit.int .i64 x1).wf = true) (hy0 : (Lit.int .i64 y0).wf = true) (hy1 : (Lit.int .i64 y1).wf = true) (hf0 : (Lit.int .u8 f0).wf = true) (hf1 : (Lit.int .u8 f1).wf = true) (w : World) (T : Tables w) :
    Calls Tryd.prog 7 #[encl x0 x1, encl y0 y1, .agg #[.int .u8 f0, .int .u8 f1]] w fun e w' => e = .returned (.bool true) ∧ Q w w' := by
  have hx0 := bounds_i64 hx0
  have hx1 := bounds_i64 hx1
  have hy0 := bounds_i64 hy0
  have hy1 := bounds_i64 hy1
  have hf0 := bounds_u8 hf0
  have hf1 := bounds_u8 hf1
  obtain ⟨A1, B1, e1, r1⟩ := gRes_ex (fun a b => a * b) (fun _ _ => 100000000) x0 x1 y0 y1
  obtain ⟨A2, B2, e2, r2⟩ := oRes_ex x0 x1 y0 y1
  have CT : FC 32 #[encl x0 x1, encl y0 y1] (.tuple #[encl A1 B1, .int .i64 e1]) := fun w => Times_any x0 x1 y0 y1 A1 B1 e1 w hx0 hx1 hy0 hy1 r1
  have CO : FC 33 #[encl x0 x1, encl y0 y1] (.tuple #[encl A2 B2, .int .i64 e2]) := fun w => Over_any x0 x1 y0 y1 A2 B2 e2 w hx0 hx1 hy0 hy1 r2
  by_cases hv : notV x0 x1 y0 y1
  · obtain ⟨rfl, rfl, rfl⟩ := gRes_no hv r1
    have z : zeroB x0 x1 y0 y1 = false := by
      unfold zeroB
      rcases hv with h | ⟨_, h⟩ <;> rw [h] <;> simp
    have r3 : gRes (fun a b => a * 100000000) (fun a b => b) x0 x1 y0 y1 A2 B2 e2 := by
      rcases r2 with ⟨h, _⟩ | ⟨_, h⟩
      · rw [z] at h; cases h
      · exact h
    obtain ⟨rfl, rfl, rfl⟩ := gRes_no hv r3
    refine frac_out x0 x1 y0 y1 f0 f1 w T ?_ CT CO
    unfold notV wildB at hv
    simp only [Bool.or_eq_true, decide_eq_true_eq, Bool.or_eq_false_iff, decide_eq_false_iff_not] at hv
    omega
  · have vx : wildB x0 x1 3000000000 = false := by
      cases h : wildB x0 x1 3000000000 with
      | true => exact absurd (.inl h) hv
      | false => rfl
    have vy : wildB y0 y1 3000000000 = false := by
      cases h : wildB y0 y1 3000000000 with
      | true => exact absurd (.inr ⟨vx, h⟩) hv
      | false => rfl
    have ix := wild_is vx
    have iy := wild_is vy
    have bx : -3000000000 ≤ x0 ∧ x1 ≤ 3000000000 ∧ x0 ≤ x1 := by omega
    have by' : -3000000000 ≤ y0 ∧ y1 ≤ 3000000000 ∧ y0 ≤ y1 := by omega
    obtain ⟨m0, m1, m2, m3⟩ := frac_mul x0 x1 f0 bx hf0
    obtain ⟨k0, k1, k2, k3⟩ := frac_mul y0 y1 f1 by' hf1
    generalize hp : (x1 - x0) * f0 = p at *
    generalize hp' : (y1 - y0) * f1 = p' at *
    generalize ha : x0 + p / 255 = a at *
    generalize hb : y0 + p' / 255 = b at *
    have hab := mul_bd a b (by omega) (by omega)
    refine frac_in x0 x1 y0 y1 f0 f1 p a p' b A1 B1 e1 A2 B2 e2 w T bx by' hf0 hf1 hp ⟨m0, m1⟩ ha hp' ⟨k0, k1⟩ hb ?_ hab (by omega) ⟨k2, k3⟩ ?_ ?_ CT CO
    · intro h0
      have rr := gRes_yes vx vy rfl rfl r1
      rcases rr with ⟨_, _, _, h7⟩ | ⟨hw, rfl, rfl, _⟩
      · omega
      · have := wild_is hw
        exact ⟨times_in x0 x1 y0 y1 a b ⟨m2, m3⟩ ⟨k2, k3⟩, by omega, by omega⟩
    · intro h0
      rcases r2 with ⟨_, _, _, h7⟩ | ⟨z, r2⟩
      · omega
      · have hz : ¬ (y0 ≤ 0 ∧ 0 ≤ y1) := by
          unfold zeroB at z
          rw [vx, vy] at z
          intro h
          simp [h.1, h.2] at z
        have rr := gRes_yes vx vy rfl rfl r2
        rcases rr with ⟨_, _, _, h7⟩ | ⟨hw, rfl, rfl, _⟩
        · omega
        · have o := over_in x0 x1 y0 y1 a b ⟨m2, m3⟩ ⟨k2, k3⟩ hz
          have c := ceil_le (nn a b) (bb b) _ (by unfold bb; split <;> omega) o.2
          exact ⟨o.1, c⟩
    · rcases r2 with ⟨z, _, _, h8⟩ | ⟨z, r2⟩
      · unfold zeroB at z
        rw [vx, vy] at z
        simp at z
        exact ⟨fun _ => z, fun _ => h8⟩
      · unfold zeroB at z
        rw [vx, vy] at z
        simp at z
        have rr := gRes_yes vx vy rfl rfl r2
        rcases rr with ⟨_, _, _, h7⟩ | ⟨hw, _, _, h0⟩
        · exact ⟨fun h => by omega, fun h => by have := z h.1; omega⟩
        · exact ⟨fun h => by omega, fun h => by have := z h.1; omega⟩

end Go.Proofs.YtjbhnjnlpekpoaaDoor
