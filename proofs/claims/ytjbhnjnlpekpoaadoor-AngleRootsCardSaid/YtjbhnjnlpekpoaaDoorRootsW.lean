/-
  AngleRoots returns true, whatever the enclosure.
-/
import Derived.Test.YtjbhnjnlpekpoaaDoorRootW
import Derived.OpenShut
namespace Go.Proofs.YtjbhnjnlpekpoaaDoor
open Go.RowKit Go.Sort
set_option linter.unusedVariables false

abbrev RE (f : FuncId) (x y lo hi er : Int) : Prop := Hid (∀ w, Calls Tryd.prog f #[encl x y] w fun e w' => e = .returned (.tuple #[encl lo hi, .int .i64 er]) ∧ Q w w')

theorem bd_mul (a b : Int) (ha : -3000000000 ≤ a ∧ a ≤ 3000000000) (hb : -3000000000 ≤ b ∧ b ≤ 3000000000) : -9000000000000000000 ≤ a * b ∧ a * b ≤ 9000000000000000000 := by
  have h1 : (a * b).natAbs = a.natAbs * b.natAbs := Int.natAbs_mul a b
  have h2 : a.natAbs * b.natAbs ≤ 3000000000 * 3000000000 := Nat.mul_le_mul (by omega) (by omega)
  omega

set_option maxRecDepth 100000 in
set_option maxHeartbeats 2000000 in
theorem roots_no (x y er : Int) (w : World) (T : Tables w) (he : er = 7) (CR : RE 40 x y 0 0 er) :
    Calls Tryd.prog 9 #[encl x y] w fun e w' => e = .returned (.bool true) ∧ Q w w' := by
  subst he
  go_enter Tryd.func9, Tryd.ntmps9
  have QC := Q.refl w
  go_upto_region 1 with fail
  have B1 := Has.new w x y 24
  replace QC := QC.alloc (.cells #[.int .i64 x, .int .i64 y] 24)
  generalize w.alloc (.cells #[.int .i64 x, .int .i64 y] 24) = v1 at *
  obtain ⟨z1, k10, k11, f10, f11⟩ := id B1
  go_wp2_with fail
  refine (CR.out _).mono ?_
  rintro e w2 ⟨rfl, Q1⟩
  replace QC := QC.trans Q1
  clear z1 k10 k11 f10 f11 B1 Q1
  go_upto_region 2 with fail
  replace QC := QC.alloc (.cells #[.int .i64 0, .int .i64 0] 24)
  generalize w2.alloc (.cells #[.int .i64 0, .int .i64 0] 24) = v2 at *
  have T1 := T.mono QC
  go_wp2_with fail
  refine (Awake_any _ T1).mono ?_
  rintro e w4 ⟨rfl, Q4⟩
  go_wp2_with fail
  go_ret
  exact ⟨rfl, QC.trans Q4⟩

set_option maxRecDepth 100000 in
set_option maxHeartbeats 4000000 in
theorem roots_yes (x y A B : Int) (w : World) (T : Tables w) (hx : 0 ≤ x ∧ x ≤ y ∧ y ≤ 3000000000) (h1 : isRoot (x * 100000000) A) (h2 : isUp (y * 100000000) B) (CR : RE 40 x y A B 0) :
    Calls Tryd.prog 9 #[encl x y] w fun e w' => e = .returned (.bool true) ∧ Q w w' := by
  have a1 := root_bd h1 (by omega)
  have b1 := up_bd h2 (by omega)
  have ab := root_le_up (by omega) h1 h2
  obtain ⟨_, c1, c2⟩ := h1
  obtain ⟨_, c3, c4⟩ := h2
  have m1 := bd_mul A A (by omega) (by omega)
  have m2 := bd_mul (A + 1) (A + 1) (by omega) (by omega)
  have m3 := bd_mul B B (by omega) (by omega)
  have m4 := bd_mul (B - 1) (B - 1) (by omega) (by omega)
  generalize hA2 : A * A = A2 at *
  generalize hA3 : (A + 1) * (A + 1) = A3 at *
  generalize hB2 : B * B = B2 at *
  generalize hB3 : (B - 1) * (B - 1) = B3' at *
  have HA2 := Lib.hid hA2
  have HA3 := Lib.hid hA3
  have HB2 := Lib.hid hB2
  have HB3 := Lib.hid hB3
  clear hA2 hA3 hB2 hB3
  go_enter Tryd.func9, Tryd.ntmps9
  have QC := Q.refl w
  go_upto_region 1 with fail
  have B1 := Has.new w x y 24
  replace QC := QC.alloc (.cells #[.int .i64 x, .int .i64 y] 24)
  generalize w.alloc (.cells #[.int .i64 x, .int .i64 y] 24) = v1 at *
  obtain ⟨z1, k10, k11, f10, f11⟩ := id B1
  go_wp2_with fail
  refine (CR.out _).mono ?_
  rintro e w2 ⟨rfl, Q1⟩
  replace B1 := B1.mono Q1
  replace QC := QC.trans Q1
  clear z1 k10 k11 f10 f11 Q1
  go_upto_region 2 with fail
  have l1 := B1.lt
  replace B1 := B1.alloc (.cells #[.int .i64 A, .int .i64 B] 24)
  have B3 := Has.new w2 A B 24
  replace QC := QC.alloc (.cells #[.int .i64 A, .int .i64 B] 24)
  generalize w2.alloc (.cells #[.int .i64 A, .int .i64 B] 24) = v2 at *
  generalize w2.heap.size = g3 at *
  obtain ⟨z1, k10, k11, f10, f11⟩ := id B1
  obtain ⟨z3, k30, k31, f30, f31⟩ := id B3
  have t1 : ¬ A < 0 := by omega
  have t2 : ¬ B < A := by omega
  have t3 : ¬ 3000000000 < B := by omega
  have t4 : ¬ x < 0 := by omega
  have t5 : ¬ 3000000000 < y := by omega
  go_upto_region 6 with fail
  clear t1 t2 t3 t4 t5
  have vx : IntKind.i64.wrap (x * 100000000) = x * 100000000 := IntWalk.i64_in _ (by omega)
  have vy : IntKind.i64.wrap (y * 100000000) = y * 100000000 := IntWalk.i64_in _ (by omega)
  go_quiet (fail)
  have QW : Q v2 (v2.drewN nq) := (Q.refl v2).drewN nq
  replace B3 := B3.mono QW
  replace QC := QC.trans QW
  clear QW z1 k10 k11 f10 f11 z3 k30 k31 f30 f31 B1 l1 vx vy CR
  generalize v2.drewN nq = v3 at *
  generalize x * 100000000 = X at *
  generalize y * 100000000 = Y at *
  obtain ⟨z3, k30, k31, f30, f31⟩ := id B3
  have d1 : IntKind.i64.wrap (A * A) = A2 := by rw [HA2.out]; exact IntWalk.i64_in _ (by omega)
  have d2 : wrap64 (A * A) = A2 := by rw [HA2.out]; exact IntWalk.wrap64_in _ (by omega)
  have d3 : IntKind.i64.wrap ((A + 1) * (A + 1)) = A3 := by rw [HA3.out]; exact IntWalk.i64_in _ (by omega)
  have d4 : wrap64 ((A + 1) * (A + 1)) = A3 := by rw [HA3.out]; exact IntWalk.wrap64_in _ (by omega)
  have d5 : IntKind.i64.wrap (B * B) = B2 := by rw [HB2.out]; exact IntWalk.i64_in _ (by omega)
  have d6 : wrap64 (B * B) = B2 := by rw [HB2.out]; exact IntWalk.wrap64_in _ (by omega)
  have d7 : IntKind.i64.wrap ((B - 1) * (B - 1)) = B3' := by rw [HB3.out]; exact IntWalk.i64_in _ (by omega)
  have d8 : wrap64 ((B - 1) * (B - 1)) = B3' := by rw [HB3.out]; exact IntWalk.wrap64_in _ (by omega)
  have T1 := T.mono QC
  clear T m1 m2 m3 m4 hx
  by_cases hB : B = 0
  · have hb : (B == 0) = true := by simp [hB]
    clear hB c4 d7 d8
    go_wp2_with fail
    refine (Awake_any _ T1).mono ?_
    rintro e w4 ⟨rfl, Q4⟩
    go_wp2_with fail
    go_ret
    exact ⟨rfl, QC.trans Q4⟩
  · have hb : (B == 0) = false := by simp [hB]
    have c5 : B3' < Y := by omega
    clear hB c4
    go_wp2_with fail
    refine (Awake_any _ T1).mono ?_
    rintro e w4 ⟨rfl, Q4⟩
    go_wp2_with fail
    go_ret
    exact ⟨rfl, QC.trans Q4⟩

theorem angleRoots_all (x y : Int) (hx : (Lit.int .i64 x).wf = true) (hy : (Lit.int .i64 y).wf = true) (w : World) (T : Tables w) :
    Calls Tryd.prog 9 #[encl x y] w fun e w' => e = .returned (.bool true) ∧ Q w w' := by
  have hx := bounds_i64 hx
  have hy := bounds_i64 hy
  obtain ⟨A, B, er, hr⟩ := rootRes_ex x y
  have CR : RE 40 x y A B er := fun w => Root_any x y A B er w hx hy hr
  rcases hr with ⟨h, rfl, rfl, h7⟩ | ⟨h, h1, h2, rfl⟩
  · exact roots_no x y er w T h7 CR
  · exact roots_yes x y A B w T (rootBad_not h) h1 h2 CR

end Go.Proofs.YtjbhnjnlpekpoaaDoor
