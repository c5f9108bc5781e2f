/-
  AngleEncloses returns true, whatever the enclosure and the number.
-/
import Derived.Test.YtjbhnjnlpekpoaaDoorEnclW
import Derived.OpenShut
namespace Go.Proofs.YtjbhnjnlpekpoaaDoor
open Go.RowKit Go.Sort Trig
set_option linter.unusedVariables false

theorem of_no (x y more : Int) (h : wildB x y 3600000000 = true) : ofOut x y more = .tuple #[encl 0 0, .int .i64 7] := by unfold ofOut; rw [h]; rfl
theorem of_yes (x y more : Int) (h : wildB x y 3600000000 = false) : ofOut x y more = .tuple #[encl (allLo (x + more) (y + more)) (allHi (x + more) (y + more)), .int .i64 0] := by unfold ofOut; rw [h]; rfl

set_option maxRecDepth 100000 in
set_option maxHeartbeats 1000000 in
theorem encl_out (x y k : Int) (w : World) (T : Tables w) (hx : -9223372036854775808 ≤ x ∧ x ≤ 9223372036854775807) (hy : -9223372036854775808 ≤ y ∧ y ≤ 9223372036854775807) (h : wildB x y 3600000000 = true) :
    Calls Tryd.prog 6 #[encl x y, .int .u8 k] w fun e w' => e = .returned (.bool true) ∧ Q w w' := by
  have S := fun w => SinOf_any x y w hx hy
  have C := fun w => CosOf_any x y w hx hy
  rw [of_no x y 0 h] at S
  rw [of_no x y 90000000 h] at C
  have HS := Lib.hid S
  have HC := Lib.hid C
  clear S C h hx hy
  go_enter Tryd.func6, Tryd.ntmps6
  have QC := Q.refl w
  go_upto_region 1 with fail
  have B2 := Has.new w x y 24
  replace QC := QC.alloc (.cells #[.int .i64 x, .int .i64 y] 24)
  generalize w.alloc (.cells #[.int .i64 x, .int .i64 y] 24) = v1 at *
  obtain ⟨z2, k20, k21, f20, f21⟩ := id B2
  go_wp2_with fail
  clear z2 k20 k21 f20 f21
  refine (HS.out _).mono ?_
  rintro e w2 ⟨rfl, Q2⟩
  replace B2 := B2.mono Q2
  replace QC := QC.trans Q2
  clear Q2
  go_upto_region 2 with fail
  replace B2 := B2.alloc (.cells #[.int .i64 0, .int .i64 0] 24)
  replace QC := QC.alloc (.cells #[.int .i64 0, .int .i64 0] 24)
  generalize w2.alloc (.cells #[.int .i64 0, .int .i64 0] 24) = v2 at *
  obtain ⟨z2, k20, k21, f20, f21⟩ := id B2
  go_wp2_with fail
  clear z2 k20 k21 f20 f21 B2
  refine (HC.out _).mono ?_
  rintro e w3 ⟨rfl, Q3⟩
  replace QC := QC.trans Q3
  clear Q3
  go_upto_region 3 with fail
  replace QC := QC.alloc (.cells #[.int .i64 0, .int .i64 0] 24)
  generalize w3.alloc (.cells #[.int .i64 0, .int .i64 0] 24) = v3 at *
  have T1 := T.mono QC
  go_wp2_with fail
  refine (Awake_any _ T1).mono ?_
  rintro e w4 ⟨rfl, Q4⟩
  go_wp2_with fail
  go_ret
  exact ⟨rfl, QC.trans Q4⟩

attribute [local irreducible] sineLo sineHi allLo allHi

theorem ec_of (x y lo hi : Int) (h : wildB x y 3600000000 = false) (h1 : -3600000000 ≤ x ∧ x ≤ 3600000000) (h2 : -3600000000 ≤ y ∧ y ≤ 3600000000) (e1 : allLo (x + 0) (y + 0) = lo) (e2 : allHi (x + 0) (y + 0) = hi) : EC 27 x y lo hi := by
  intro w
  have S := SinOf_any x y w (by omega) (by omega)
  rw [of_yes x y 0 h, e1, e2] at S
  exact S
theorem ec_cosof (x y lo hi : Int) (h : wildB x y 3600000000 = false) (h1 : -3600000000 ≤ x ∧ x ≤ 3600000000) (h2 : -3600000000 ≤ y ∧ y ≤ 3600000000) (e1 : allLo (x + 90000000) (y + 90000000) = lo) (e2 : allHi (x + 90000000) (y + 90000000) = hi) : EC 29 x y lo hi := by
  intro w
  have S := CosOf_any x y w (by omega) (by omega)
  rw [of_yes x y 90000000 h, e1, e2] at S
  exact S

theorem angleEncloses_all (x y k : Int) (hx : (Lit.int .i64 x).wf = true) (hy : (Lit.int .i64 y).wf = true) (hk : (Lit.int .u8 k).wf = true) (w : World) (T : Tables w) :
    Calls Tryd.prog 6 #[encl x y, .int .u8 k] w fun e w' => e = .returned (.bool true) ∧ Q w w' := by
  have hx := bounds_i64 hx
  have hy := bounds_i64 hy
  have hk := bounds_u8 hk
  cases hb : wildB x y 3600000000 with
  | true => exact encl_out x y k w T hx hy hb
  | false =>
    obtain ⟨b1, b2, b3⟩ := (wild2_iff x y 3600000000).1 hb
    have m0 : 0 ≤ (y - x) * k := Int.mul_nonneg (by omega) hk.1
    have m1 : (y - x) * k ≤ (y - x) * 255 := Int.mul_le_mul_of_nonneg_left hk.2 (by omega)
    generalize hp : (y - x) * k = p at *
    have a1 : x ≤ x + p / 255 := by omega
    have a2 : x + p / 255 ≤ y := by omega
    have c1 := all_holds x y (x + p / 255) a1 a2
    have c2 := all_holds (x + 90000000) (y + 90000000) (x + p / 255 + 90000000) (by omega) (by omega)
    have r := all_reach x y
    have full : y - x < 360000000 ∨ (allLo x y = -100000000 ∧ allHi x y = 100000000) := by
      by_cases z : y - x < 360000000
      · exact .inl z
      · exact .inr (all_full x y (by omega))
    exact encl_in x y k p (allLo x y) (allHi x y) (allLo (x + 90000000) (y + 90000000)) (allHi (x + 90000000) (y + 90000000)) _ _ _ _ _ _ _ _ w T b2 b1 b3 hk.1 hk.2 hp (by omega) (by omega)
      (ec_of x y _ _ hb (by omega) (by omega) (by rw [Int.add_zero, Int.add_zero]) (by rw [Int.add_zero, Int.add_zero])) (ec_cosof x y _ _ hb (by omega) (by omega) rfl rfl)
      (sc_sin _ _ _ (by omega) (by omega) rfl rfl) (sc_cos _ _ _ (by omega) (by omega) rfl rfl) c1.1 c1.2 c2.1 c2.2
      (sc_sin _ _ _ (by omega) (by omega) rfl rfl) (sc_sin _ _ _ (by omega) (by omega) rfl rfl) r.1 r.2 full

end Go.Proofs.YtjbhnjnlpekpoaaDoor
