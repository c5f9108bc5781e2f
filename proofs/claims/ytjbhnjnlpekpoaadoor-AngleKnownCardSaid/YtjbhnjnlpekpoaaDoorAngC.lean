/-
  math/bits.Div64 at small divisors, and 'over' of the fixed-point numbers.
-/
import Derived.Test.YtjbhnjnlpekpoaaDoorAngB
import Derived.Test.YtjbhnjnlpekpoaaDoorFixB
import Derived.Lib.Hide
namespace Go.Proofs.YtjbhnjnlpekpoaaDoor
open Go.RowKit
set_option linter.unusedVariables false

set_option maxRecDepth 100000 in
set_option maxHeartbeats 400000 in
theorem div64_zero (lo y : Nat) (w : World) (hlo : lo < U64) (hy0 : 0 < y) (hy : y < 4294967296) :
    Calls Tryd.prog 123 #[.int .u64 0, .int .u64 lo, .int .u64 y] w fun e w' => e = .returned (.tuple #[.int .u64 ((lo / y : Nat) : Int), .int .u64 ((lo % y : Nat) : Int)]) ∧ Q w w' := by
  unfold U64 at hlo
  have e0 : Hid (IntKind.u64.wrap ((lo : Int) / (y : Int)) = (lo : Int) / (y : Int)) := by
    unfold Hid
    rw [show (lo : Int) / (y : Int) = ((lo / y : Nat) : Int) by simp, wrap_u64, Nat.mod_eq_of_lt (Nat.lt_of_le_of_lt (Nat.div_le_self lo y) hlo)]
  have hy1 : (1 : Int) ≤ (y : Int) := by omega
  have hy2 : ((y : Int) == 0) = false := by simp; omega
  have hy3 : decide ((y : Int) ≤ 0) = false := by simp; omega
  go_enter Tryd.func123, Tryd.ntmps123
  go_wp2
  go_region
  go_wp2
  go_ret2
  exact ⟨by simp [e0.out], (Q.refl _).drew⟩

theorem bitLenAux_bd (f : Nat) : ∀ x : Nat, x < 2 ^ f → x < 2 ^ Lib.bitLenAux f x ∧ (x ≠ 0 → 2 ^ Lib.bitLenAux f x ≤ 2 * x) := by
  induction f with
  | zero => intro x h; simp at h; subst h; simp [Lib.bitLenAux]
  | succ f ih =>
    intro x h
    rw [Nat.pow_succ] at h
    obtain ⟨a, b⟩ := ih (x / 2) (by omega)
    simp only [Lib.bitLenAux]
    by_cases hx : x = 0
    · rw [if_pos hx]; subst hx; simp
    · rw [if_neg hx, Nat.add_comm, Nat.pow_succ]
      refine ⟨by omega, fun _ => ?_⟩
      by_cases h2 : x / 2 = 0
      · have h1 : x = 1 := by omega
        subst h1
        cases f with
        | zero => simp [Lib.bitLenAux]
        | succ f => simp [Lib.bitLenAux]
      · have := b h2; omega

theorem lz_pure (y : Nat) (h0 : 0 < y) (hy : y < 4294967296) : ∃ s yn : Nat, 64 - (Lib.bitLen y : Int) = (s : Int) ∧ 32 ≤ s ∧ s ≤ 63 ∧ y * 2 ^ s = yn * 4294967296 ∧ 2147483648 ≤ yn ∧ yn < 4294967296 := by
  have h := bitLenAux_bd 64 y (by omega)
  have hb : Lib.bitLenAux 64 y = Lib.bitLen y := rfl
  rw [hb] at h
  generalize Lib.bitLen y = l at *
  obtain ⟨h1, h2⟩ := h
  have h2 := h2 (by omega)
  have hl1 : 1 ≤ l := by
    rcases Nat.eq_zero_or_pos l with e | e
    · subst e; simp at h1; omega
    · exact e
  have hl2 : l ≤ 32 := by
    by_cases e : l ≤ 32
    · exact e
    · have : 2 ^ 33 ≤ 2 ^ l := Nat.pow_le_pow_right (by decide) (by omega)
      omega
  have e32 : 2 ^ l * 2 ^ (32 - l) = 4294967296 := by rw [← Nat.pow_add, show l + (32 - l) = 32 by omega]
  refine ⟨64 - l, y * 2 ^ (32 - l), by omega, by omega, by omega, ?_, ?_, ?_⟩
  · rw [show 64 - l = (32 - l) + 32 by omega, Nat.pow_add, Nat.mul_assoc]
  · have := Nat.mul_le_mul_right (2 ^ (32 - l)) h2
    rw [e32, Nat.mul_assoc] at this
    omega
  · have := Nat.mul_lt_mul_of_pos_right h1 (Nat.two_pow_pos (32 - l))
    rw [e32] at this
    exact this

theorem lz_any (y : Nat) (w : World) (h0 : 0 < y) (hy : y < 4294967296) :
    Calls Tryd.prog 135 #[.int .u64 y] w fun e w' => ∃ s yn : Nat, e = .returned (.int .i64 s) ∧ w' = w ∧ 32 ≤ s ∧ s ≤ 63 ∧ Hid (y * 2 ^ s = yn * 4294967296 ∧ 2147483648 ≤ yn ∧ yn < 4294967296) := by
  refine (Tryd.bits_LeadingZeros64 y w (by omega) (by omega)).mono ?_
  rintro e w' ⟨rfl, rfl⟩
  obtain ⟨s, yn, e1, hs⟩ := lz_pure y h0 hy
  refine ⟨s, yn, ?_, rfl, hs.1, hs.2.1, hs.2.2⟩
  rw [Int.toNat_natCast, e1]

set_option maxRecDepth 100000 in
set_option maxHeartbeats 1000000 in
theorem div64_small (hi lo y qq rr : Nat) (w : World) (hqr : Hid (qq = (hi * U64 + lo) / y ∧ rr = (hi * U64 + lo) % y)) (h0 : 0 < hi) (h1 : hi < y) (hlo : lo < U64) (hy : y < 4294967296) :
    Calls Tryd.prog 123 #[.int .u64 hi, .int .u64 lo, .int .u64 y] w fun e w' => e = .returned (.tuple #[.int .u64 qq, .int .u64 rr]) ∧ Q w w' := by
  have hy2 : ((y : Int) == 0) = false := by simp; omega
  have hy3 : decide ((y : Int) ≤ (hi : Int)) = false := by simp; omega
  have hy4 : ((hi : Int) == 0) = false := by simp; omega
  have hy5 : ¬ y ≤ hi := by omega
  go_enter Tryd.func123, Tryd.ntmps123
  go_wp2_with fail
  refine (lz_any y _ (by omega) hy).mono ?_
  rintro e w' ⟨s, yn, rfl, rfl, hs1, hs2, HS⟩
  have hn1 : 1 ≤ (yn : Int) := by have := HS.out; omega
  have hn2 : (yn : Int) < 4294967296 := by have := HS.out; omega
  obtain ⟨Y, u, a, b, b1, b0, q, p1, r, E1, E1b, E2, E3, E4, E5, E6, E7, E8, E9, E10, G1⟩ := div_first hi lo y s yn h0 h1 hlo hs1 hs2 HS.out
  have G1H := Lib.hid G1
  clear G1
  go_wp2_with fail
  clear E1 E1b E2 E3 E4 E5 E6 E7 E8 E9 E10 hy2 hy3 hy4 hy5
  obtain ⟨a2, a3, p2, c, q0, p3, r0, E11, E12, E13, E14, E15, E16, E17, G2⟩ := div_second hi lo y s yn Y a b b1 b0 q r HS.out G1H.out
  have G2H := Lib.hid G2
  clear G2
  have hr : (r : Int) < (yn : Int) := by have := G1H.out.2.2.1; omega
  have hb1 : (b1 : Int) < 4294967296 := by have := G1H.out.2.2.2.1; omega
  have d1 : decide ((4294967296 : Int) ≤ (q : Int)) = false := decide_eq_false (by have := G1H.out.2.1; omega)
  have d2 : decide ((4294967296 : Int) * (r : Int) + (b1 : Int) < 0) = false := decide_eq_false (by omega)
  go_loop [15, 16] (fun t v => t = .int .u64 q ∧ v = .int .u64 r) (fun _ _ => 0)
  case atStart => exact ⟨rfl, rfl⟩
  case round =>
    obtain ⟨rfl, rfl⟩ := hrel
    go_wp2_with fail
    clear E11 E12 E13 E14 E15 E16 E17 d1 d2
    obtain ⟨q2, QQ, c2, c3, p4, R2, R, E18, E19, E20, E21, E22, E23, E24, hQ, hR⟩ := div_third hi lo y s yn Y a b b1 b0 q r c q0 r0 HS.out G1H.out G2H.out
    have hr0 : (r0 : Int) < (yn : Int) := by have := G2H.out.2.2.2.1; omega
    have hb0 : (b0 : Int) < 4294967296 := by have := G1H.out.2.2.2.2.1; omega
    have d1 : decide ((4294967296 : Int) ≤ (q0 : Int)) = false := decide_eq_false (by have := G2H.out.2.2.2.2; omega)
    have d2 : decide ((4294967296 : Int) * (r0 : Int) + (b0 : Int) < 0) = false := decide_eq_false (by omega)
    have HQ := Lib.hid hQ
    have HR := Lib.hid hR
    clear hQ hR
    go_loop [18, 16] (fun t v => t = .int .u64 q0 ∧ v = .int .u64 r0) (fun _ _ => 0)
    case atStart => exact ⟨rfl, rfl⟩
    case round =>
      obtain ⟨rfl, rfl⟩ := hrel
      go_wp2_with fail
      go_ret2
      obtain rfl : QQ = qq := HQ.out.trans hqr.out.1.symm
      obtain rfl : R = rr := HR.out.trans hqr.out.2.symm
      exact ⟨rfl, Q.refl _⟩

theorem div64_any (hi lo y : Nat) (w : World) (h1 : hi < y) (hlo : lo < U64) (hy : y < 4294967296) :
    Calls Tryd.prog 123 #[.int .u64 hi, .int .u64 lo, .int .u64 y] w fun e w' => ∃ qq rr : Nat, e = .returned (.tuple #[.int .u64 qq, .int .u64 rr]) ∧ Q w w' ∧ Hid (qq = (hi * U64 + lo) / y ∧ rr = (hi * U64 + lo) % y) := by
  rcases Nat.eq_zero_or_pos hi with h | h
  · subst h
    refine (div64_zero lo y w hlo h1 hy).mono ?_
    rintro e w' ⟨rfl, hq⟩
    exact ⟨_, _, rfl, hq, by rw [Nat.zero_mul, Nat.zero_add]; exact ⟨rfl, rfl⟩⟩
  · refine (div64_small hi lo y _ _ w ⟨rfl, rfl⟩ h h1 hlo hy).mono ?_
    rintro e w' ⟨rfl, hq⟩
    exact ⟨_, _, rfl, hq, rfl, rfl⟩

theorem div64_z (lo y : Nat) (w : World) (h1 : 0 < y) (hlo : lo < U64) (hy : y < 4294967296) :
    Calls Tryd.prog 123 #[.int .u64 0, .int .u64 lo, .int .u64 y] w fun e w' => ∃ qq rr : Nat, e = .returned (.tuple #[.int .u64 qq, .int .u64 rr]) ∧ Q w w' ∧ Hid (qq = (0 * U64 + lo) / y ∧ rr = (0 * U64 + lo) % y) :=
  div64_any 0 lo y w h1 hlo hy

theorem over_pure (a b n d h l m k n1 c q2 r2 q1 r1 q0 r0 : Nat) (hd0 : 0 < d) (hX : (a * U64 + b) * n / d < U64 * U64)
    (H1 : h < U64 ∧ l < U64 ∧ h * U64 + l = b * n) (H2 : m < U64 ∧ k < U64 ∧ m * U64 + k = a * n) (S1 : n1 < U64 ∧ c * U64 + n1 = k + h + 0)
    (D2 : q2 = (0 * U64 + (m + c)) / d ∧ r2 = (0 * U64 + (m + c)) % d) (D1 : q1 = (r2 * U64 + n1) / d ∧ r1 = (r2 * U64 + n1) % d) (D0 : q0 = (r1 * U64 + l) / d ∧ r0 = (r1 * U64 + l) % d) :
    (a * U64 + b) * n / d / U64 = q1 ∧ (a * U64 + b) * n / d % U64 = q0 := by
  have e2 := Nat.div_add_mod (0 * U64 + (m + c)) d
  have e1 := Nat.div_add_mod (r2 * U64 + n1) d
  have e0 := Nat.div_add_mod (r1 * U64 + l) d
  have m0 := Nat.mod_lt (r1 * U64 + l) hd0
  have m1 := Nat.mod_lt (r2 * U64 + n1) hd0
  rw [← D2.1, ← D2.2] at e2
  rw [← D1.1, ← D1.2] at e1
  rw [← D0.1, ← D0.2] at e0
  rw [← D0.2] at m0
  rw [← D1.2] at m1
  have key : (a * U64 + b) * n = d * ((q2 * U64 + q1) * U64 + q0) + r0 := by
    have : (a * U64 + b) * n = (m * U64 + k) * U64 + (h * U64 + l) := by rw [H2.2.2, H1.2.2, Nat.add_mul, Nat.mul_right_comm]
    rw [this]
    have g1 : (m * U64 + k) * U64 + (h * U64 + l) = ((m + c) * U64 + n1) * U64 + l := by
      have := S1.2
      have e : (m * U64 + k) * U64 + (h * U64 + l) = (m * U64 + (k + h + 0)) * U64 + l := by grind
      rw [e, ← this]; grind
    rw [g1]
    have g2 : (m + c) = d * q2 + r2 := by omega
    rw [g2]
    have g3 : ((d * q2 + r2) * U64 + n1) * U64 + l = (d * (q2 * U64) + (r2 * U64 + n1)) * U64 + l := by grind
    rw [g3, ← e1]
    have g4 : (d * (q2 * U64) + (d * q1 + r1)) * U64 + l = d * ((q2 * U64 + q1) * U64) + (r1 * U64 + l) := by grind
    rw [g4, ← e0]; grind
  have hq : (a * U64 + b) * n / d = (q2 * U64 + q1) * U64 + q0 := by
    rw [key, Nat.mul_add_div hd0, Nat.div_eq_of_lt m0, Nat.add_zero]
  have hq0 : q0 < U64 := by
    rw [D0.1]
    refine Nat.div_lt_of_lt_mul ?_
    have : (r1 + 1) * U64 ≤ d * U64 := Nat.mul_le_mul_right _ m1
    rw [Nat.add_mul] at this; have := H1.2.1; omega
  have hq2 : q2 = 0 := by
    rw [hq] at hX
    rcases Nat.eq_zero_or_pos q2 with z | z
    · exact z
    · exfalso
      have : U64 * U64 ≤ (q2 * U64 + q1) * U64 := Nat.mul_le_mul_right _ (Nat.le_trans (Nat.le_mul_of_pos_left _ z) (Nat.le_add_right _ _))
      omega
  rw [hq, hq2, Nat.zero_mul, Nat.zero_add]
  exact words _ q1 q0 rfl hq0

set_option maxRecDepth 100000 in
set_option maxHeartbeats 400000 in
theorem over_walk (a b n d : Nat) (w : World) (ha : a < U64) (hb : b < U64) (hn : n < 4294967296) (hd0 : 0 < d) (hd : d < 4294967296) (hX : Hid ((a * U64 + b) * n / d < U64 * U64)) :
    Calls Tryd.prog 99 #[.agg #[.int .u64 a, .int .u64 b], .int .u64 n, .int .u64 d] w fun e w' => e = .returned (fx ((a * U64 + b) * n / d)) ∧ Q w w' := by
  have hnu : n < U64 := by unfold U64; omega
  go_enter Tryd.func99, Tryd.ntmps99
  go_wp2_with fail
  refine (mul64_any _ _ hb hnu _).mono ?_
  rintro e w' ⟨h, l, rfl, rfl, H1⟩
  go_wp2_with fail
  refine (mul64_any _ _ ha hnu _).mono ?_
  rintro e w' ⟨m, k, rfl, rfl, H2⟩
  obtain ⟨n1, c, r1, hc, S1⟩ := add64_run k h 0 0 rfl H2.out.2.1 H1.out.1 (by omega)
  have hm : m < 4294967296 := by
    have h2 := H2.out.2.2
    refine Nat.lt_of_le_of_lt ?_ hn
    have h3 : a * n ≤ U64 * n := Nat.mul_le_mul_right _ (Nat.le_of_lt ha)
    have h4 : U64 * m ≤ U64 * n := by rw [Nat.mul_comm U64 m]; omega
    exact Nat.le_of_mul_le_mul_left h4 (by unfold U64; decide)
  have hmc : m + c < U64 := by unfold U64; omega
  go_wp2_with fail
  rw [show (m : Int) + (c : Int) = ((m + c : Nat) : Int) by simp]
  refine (div64_z (m + c) d _ hd0 hmc hd).mono ?_
  rintro e w1 ⟨q2, r2, rfl, Q2, D2⟩
  have l2 : r2 < d := by rw [D2.out.2]; exact Nat.mod_lt _ hd0
  go_wp2_with fail
  refine (div64_any r2 n1 d _ l2 S1.out.1 hd).mono ?_
  rintro e w2 ⟨q1, r1, rfl, Q1, D1⟩
  have l1 : r1 < d := by rw [D1.out.2]; exact Nat.mod_lt _ hd0
  go_wp2_with fail
  refine (div64_any r1 l d _ l1 H1.out.2.1 hd).mono ?_
  rintro e w3 ⟨q0, r0, rfl, Q0, D0⟩
  have hq := (Q2.trans Q1).trans Q0
  obtain ⟨hc1, hc2, hc3⟩ := hq.old
  have hq' := Q.trans ((Q.refl w).alloc _ |>.alloc _) hq
  clear hq Q2 Q1 Q0
  go_wp2_with fail
  obtain ⟨e1, e2⟩ := over_pure a b n d h l m k n1 c q2 r2 q1 r1 q0 r0 hd0 hX.out H1.out H2.out S1.out D2.out D1.out D0.out
  exact bodyPost_ret (v := fx ((a * U64 + b) * n / d)) (by simp [results, Tryd.results99, go_sem, hc1, e1, e2]) rfl ⟨rfl, (hq'.setCell (by simp) _).setCell (by simp) _⟩

end Go.Proofs.YtjbhnjnlpekpoaaDoor
