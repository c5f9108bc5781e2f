/-
  The fixed-point numbers of package angle: times, minus, units: each call returns what the plain function says.
-/
import Derived.Test.YtjbhnjnlpekpoaaDoorFix
namespace Go.Proofs.YtjbhnjnlpekpoaaDoor
open Go.RowKit
set_option linter.unusedVariables false

/-- a fixed-point number as the value that Go passes -/
abbrev fx (n : Nat) : Value := .agg #[.int .u64 ((n / U64 : Nat) : Int), .int .u64 ((n % U64 : Nat) : Int)]

theorem ret_fx {x y x' y' : Int} (h1 : x = x') (h2 : y = y') : Ending.returned (.agg #[.int .u64 x, .int .u64 y]) = Ending.returned (.agg #[.int .u64 x', .int .u64 y']) := by rw [h1, h2]

set_option maxRecDepth 100000 in
set_option maxHeartbeats 400000 in
theorem times_walk (a b c d : Nat) (w : World) (ha : a < U64) (hb : b < U64) (hc : c < U64) (hd : d < U64) (hs : Hid (a * c * U64 + a * d + b * c < 4611686018427387904 * U64 * U64)) :
    Calls Tryd.prog 100 #[.agg #[.int .u64 a, .int .u64 b], .agg #[.int .u64 c, .int .u64 d]] w fun e w' => e = .returned (fx (Trig.times (a * U64 + b) (c * U64 + d))) ∧ Q w w' := by
  go_enter Tryd.func100, Tryd.ntmps100
  go_wp2_with fail
  refine (mul64_any _ _ ha hc _).mono ?_
  rintro e w' ⟨h, l, rfl, rfl, H1⟩
  go_wp2_with fail
  refine (mul64_any _ _ ha hd _).mono ?_
  rintro e w' ⟨m, n, rfl, rfl, H2⟩
  go_wp2_with fail
  refine (mul64_any _ _ hb hc _).mono ?_
  rintro e w' ⟨o, p, rfl, rfl, H3⟩
  obtain ⟨n1, k1, r1, hk1, S1⟩ := add64_run n p 0 0 rfl H2.out.2.1 H3.out.2.1 (by omega)
  obtain ⟨l1, k2, r2, hk2, S2⟩ := add64_run l m k1 _ rfl H1.out.2.1 H2.out.1 hk1
  obtain ⟨l2, k3, r3, hk3, S3⟩ := add64_run l1 o 0 0 rfl S2.out.1 H3.out.1 (by omega)
  go_wp2
  obtain ⟨e1, e2, -⟩ := times_pure a b c d h l m n o p n1 k1 l1 k2 l2 k3 hb hd hs.out H1.out H2.out H3.out S1.out S2.out S3.out
  rw [e1, e2]
  exact bodyPost_ret (v := fx (Trig.times (a * U64 + b) (c * U64 + d))) (by simp [results, Tryd.results100, go_sem]) rfl ⟨rfl, (((Q.refl _).alloc _).alloc _).alloc _⟩

set_option maxRecDepth 100000 in
set_option maxHeartbeats 400000 in
theorem minus_walk (a b c d : Nat) (w : World) (ha : a < U64) (hb : b < U64) (hc : c < U64) (hd : d < U64) (hs : Hid (c * U64 + d ≤ a * U64 + b)) :
    Calls Tryd.prog 101 #[.agg #[.int .u64 a, .int .u64 b], .agg #[.int .u64 c, .int .u64 d]] w fun e w' => e = .returned (fx (a * U64 + b - (c * U64 + d))) ∧ Q w w' := by
  obtain ⟨s1, k1, r1, hk1, S1⟩ := sub64_run b d 0 0 rfl hb hd (by omega)
  obtain ⟨s2, k2, r2, hk2, S2⟩ := sub64_run a c k1 _ rfl ha hc hk1
  go_enter Tryd.func101, Tryd.ntmps101
  go_wp2
  obtain ⟨e1, e2⟩ := minus_pure a b c d s1 k1 s2 k2 hb hd hk2 hs.out S1.out S2.out
  rw [e1, e2]
  exact bodyPost_ret (v := fx (a * U64 + b - (c * U64 + d))) (by simp [results, Tryd.results101, go_sem]) rfl ⟨rfl, (((Q.refl _).alloc _).alloc _).alloc _⟩

set_option maxRecDepth 100000 in
set_option maxHeartbeats 400000 in
theorem units_walk (a b : Nat) (w : World) (ha : a < U64) (hb : b < U64) :
    Calls Tryd.prog 102 #[.agg #[.int .u64 a, .int .u64 b]] w fun e w' => e = .returned (.int .i64 (Trig.units (a * U64 + b) : Nat)) ∧ Q w w' := by
  go_enter Tryd.func102, Tryd.ntmps102
  go_wp2_with fail
  have hone : 100000000 < U64 := by unfold U64; omega
  refine (mul64_any b 100000000 hb hone _).mono ?_
  rintro e w' ⟨h, l, rfl, rfl, H1⟩
  go_wp2_with fail
  refine (mul64_any a 100000000 ha hone _).mono ?_
  rintro e w' ⟨m, n, rfl, rfl, H2⟩
  obtain ⟨n1, k1, r1, hk1, S1⟩ := add64_run n h 0 0 rfl H2.out.2.1 H1.out.1 (by omega)
  go_wp2
  have e1 := units_pure a b h l m n n1 k1 ha hk1 H1.out H2.out S1.out
  rw [e1]
  go_ret
  exact ⟨rfl, (Q.refl _).alloc _⟩

end Go.Proofs.YtjbhnjnlpekpoaaDoor
