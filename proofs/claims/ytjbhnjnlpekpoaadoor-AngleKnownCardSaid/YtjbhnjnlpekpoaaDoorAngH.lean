/-
  Awake returns true.
-/
import Derived.Test.YtjbhnjnlpekpoaaDoorAngG
import Derived.Laws.StructEq
namespace Go.Proofs.YtjbhnjnlpekpoaaDoor
open Go.RowKit Go.Sort
set_option linter.unusedVariables false

theorem encl_eq (x y x' y' : Int) (w : World) : (binOp .eql 24 (.agg #[.int .i64 x, .int .i64 y]) (.agg #[.int .i64 x', .int .i64 y'])).run Tryd.prog w = .ok (.bool (x == x' && y == y')) w := by
  rw [run_eql_struct, run_equalIn_agg _ _ _ _ _ (by kernel_rfl) (by kernel_rfl)]
  simp only [Program.fieldsOf, Tryd.underlying24]
  cases hx : (x == x')
  · simp [go_sem, Tryd.underlying3, hx]
  · simp [go_sem, Tryd.underlying3, hx]
    by_cases hy : y = y' <;> simp [hy]

theorem x_any (lo hi : Int) (w : World) :
    Calls Tryd.prog 24 #[.int .i64 lo, .int .i64 hi] w fun e w' => e = .returned (.agg #[.int .i64 lo, .int .i64 hi]) ∧ Q w w' := by
  go_enter Tryd.func24, Tryd.ntmps24
  go_wp2_with fail
  exact bodyPost_ret (v := encl lo hi) (by simp [results, Tryd.results24, go_sem]) rfl ⟨rfl, by repeat (first | exact Q.refl _ | assumption | apply Q.alloc | (refine Q.setCell ?_ (by simp) _))⟩

theorem sin45 : sinOut 45000000 0 = .tuple #[encl 70710678 70710679, .int .i64 0] := by
  have h1 : wildB 45000000 45000000 3600000000 = false := by decide
  have h2 : Trig.sineLo 45000000 = 70710678 ∧ Trig.sineHi 45000000 = 70710679 := by decide +kernel
  unfold sinOut
  rw [h1, if_neg (by decide), Int.add_zero, h2.1, h2.2]

theorem sinFar : sinOut 3600000001 0 = .tuple #[encl 0 0, .int .i64 7] := by
  have h1 : wildB 3600000001 3600000001 3600000000 = true := by decide
  unfold sinOut
  rw [h1, if_pos rfl]

theorem arc60 : Trig.acLow 100000000 = 1 ∧ Trig.acHigh 50000000 = 60000000 := by
  have a : Trig.pLow 100000000 0 = false ∧ Trig.pLow 100000000 1 = true := by decide +kernel
  have b : Trig.pHigh 50000000 59999999 = false ∧ Trig.pHigh 50000000 60000000 = true := by decide +kernel
  exact ⟨(Trig.acLow_cut 100000000).at (k := 0) (by omega) a.1 a.2, (Trig.acHigh_cut 50000000).at (k := 59999999) (by omega) b.1 b.2⟩

theorem arccos60 (w : World) : Calls Tryd.prog 22 #[.agg #[.int .i64 50000000, .int .i64 100000000]] w fun e w' => e = .returned (.tuple #[.agg #[.int .i64 0, .int .i64 60000000], .int .i64 0]) ∧ Q w w' := by
  have h := Arccos_yes 50000000 100000000 w (by unfold Hid; decide) (by omega) (by omega)
  rw [arc60.1, arc60.2] at h
  exact h

set_option maxRecDepth 100000 in
set_option maxHeartbeats 1000000 in
theorem Awake_any (w : World) (T : Tables w) :
    Calls Tryd.prog 15 #[] w fun e w' => e = .returned (.bool true) ∧ Q w w' := by
  have hs1 := Sin_any 45000000
  rw [sin45] at hs1
  have HS1 := Lib.hid hs1
  have hs2 := Sin_any 3600000001
  rw [sinFar] at hs2
  have HS2 := Lib.hid hs2
  clear hs1 hs2
  go_enter Tryd.func15, Tryd.ntmps15
  go_wp2_with fail
  refine (HS1.out _ (by omega)).mono ?_
  rintro e w1 ⟨rfl, Q1⟩
  go_wp2_with fail
  refine (x_any _ _ _).mono ?_
  rintro e w2 ⟨rfl, Q2⟩
  go_wp2_with fail
  refine (arccos60 _).mono ?_
  rintro e w3 ⟨rfl, Q3⟩
  go_wp2_with fail
  have Qa := ((Q1.alloc (.cells #[.int .i64 70710678, .int .i64 70710679] 24)).trans Q2).trans Q3
  have T4 := T.mono (Qa.alloc (.cells #[.int .i64 0, .int .i64 60000000] 24))
  have k0 : w3.cell? ⟨w1.heap.size, 0, none⟩ = some (.int .i64 70710678) := by rw [(Q2.trans Q3).cell _ (by simp)]; simp [go_sem]
  have k1 : w3.cell? ⟨w1.heap.size, 1, none⟩ = some (.int .i64 70710679) := by rw [(Q2.trans Q3).cell _ (by simp)]; simp [go_sem]
  have z1 : w1.heap.size < w3.heap.size := by have := (Q2.trans Q3).size; simp at this; omega
  refine (Write_known _ T4).mono ?_
  rintro e w4 ⟨rfl, Q4⟩
  have k0 := (((Q.refl w3).alloc (.cells #[.int .i64 0, .int .i64 60000000] 24)).trans Q4).cell _ z1 |>.trans k0
  have k1 := (((Q.refl w3).alloc (.cells #[.int .i64 0, .int .i64 60000000] 24)).trans Q4).cell _ z1 |>.trans k1
  have k2 : w4.cell? ⟨w3.heap.size, 0, none⟩ = some (.int .i64 0) := by rw [Q4.cell _ (by simp)]; simp [go_sem]
  have k3 : w4.cell? ⟨w3.heap.size, 1, none⟩ = some (.int .i64 60000000) := by rw [Q4.cell _ (by simp)]; simp [go_sem]
  have z3 : w3.heap.size < w4.heap.size := by have := Q4.size; simp at this; omega
  go_wp2_with fail
  refine (HS2.out _ (by omega)).mono ?_
  rintro e w5 ⟨rfl, Q5⟩
  have z4 : w1.heap.size < w4.heap.size := by omega
  have Qb := ((Q.refl w4).trans Q5).alloc (.cells #[.int .i64 0, .int .i64 0] 24)
  have k0 := (Qb.cell _ z4).trans k0
  have k1 := (Qb.cell _ z4).trans k1
  have k2 := (Qb.cell _ z3).trans k2
  have k3 := (Qb.cell _ z3).trans k3
  have Qc := (Qa.alloc _).trans (Q4.trans Qb)
  have z4 := Nat.lt_of_lt_of_le z4 Qb.size
  have z3 := Nat.lt_of_lt_of_le z3 Qb.size
  clear Q1 Q2 Q3 Q4 Q5 Qa Qb HS1 HS2 T T4 z1
  go_wp2_with fail
  generalize w5.alloc (.cells #[.int .i64 0, .int .i64 0] 24) = W at *
  have g0 := fun n os => cell_grown (a := ⟨w1.heap.size, 0, none⟩) z4 k0 n os
  have g1 := fun n os => cell_grown (a := ⟨w1.heap.size, 1, none⟩) z4 k1 n os
  have g2 := fun n os => cell_grown (a := ⟨w3.heap.size, 0, none⟩) z3 k2 n os
  have g3 := fun n os => cell_grown (a := ⟨w3.heap.size, 1, none⟩) z3 k3 n os
  clear k0 k1 k2 k3
  have he := encl_eq
  have mixed : Tryd.prog.follows .mixedOrders = true := by kernel_rfl
  go_quiet_grown ((go_at_call 24; exact Calls.of_Q (x_any _ _ _)))
  go_wp2_with fail
  go_ret
  exact ⟨rfl, Qc.trans (Q.of_grow _ _ _)⟩

end Go.Proofs.YtjbhnjnlpekpoaaDoor
