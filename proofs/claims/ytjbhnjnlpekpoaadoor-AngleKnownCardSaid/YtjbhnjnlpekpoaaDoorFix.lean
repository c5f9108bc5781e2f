/-
  Plain arithmetic of the fixed-point numbers: what the bits say as numbers.
-/
import Derived.Test.YtjbhnjnlpekpoaaDoorAngA
import Derived.Test.YtjbhnjnlpekpoaaDoorTrig
import Derived.Laws.Bits64b
import Derived.IntWalk
namespace Go.Proofs.YtjbhnjnlpekpoaaDoor
open Go.RowKit
set_option linter.unusedVariables false

theorem or_shift (x y : Nat) (hx : x < 4611686018427387904) (hy : y < 18446744073709551616) :
    bits .or .u64 ((4 * x : Nat) : Int) ((y / 4611686018427387904 : Nat) : Int) = ((4 * x + y / 4611686018427387904 : Nat) : Int) := by
  rw [bits_or_u64_nat _ _ (by omega) (by omega)]
  have h := Nat.two_pow_add_eq_or_of_lt (i := 2) (b := y / 4611686018427387904) (by omega) x
  rw [show (2 ^ 2 : Nat) = 4 from rfl] at h
  rw [h]

theorem wrap_u64 (x : Nat) : IntKind.u64.wrap (x : Int) = ((x % 18446744073709551616 : Nat) : Int) := by
  rw [IntKind.wrap_u64]
  omega

/-- two words, two bits further -/
theorem shifted (x y : Nat) (hy : y < 18446744073709551616) :
    bits .or .u64 (IntKind.u64.wrap ((x : Int) * 4)) ((y : Int) / 4611686018427387904) = ((4 * (x % 4611686018427387904) + y / 4611686018427387904 : Nat) : Int) := by
  rw [show (x : Int) * 4 = ((4 * x : Nat) : Int) by omega, wrap_u64, show 4 * x % 18446744073709551616 = 4 * (x % 4611686018427387904) by omega,
    show (y : Int) / 4611686018427387904 = ((y / 4611686018427387904 : Nat) : Int) by omega, or_shift _ y (by omega) hy]

theorem times_words (a b c d : Nat) (hb : b < 18446744073709551616) (hd : d < 18446744073709551616) :
    Trig.times (a * 18446744073709551616 + b) (c * 18446744073709551616 + d) = (a * c * 18446744073709551616 + a * d + b * c) / 4611686018427387904 := by
  unfold Trig.times
  rw [show (2 : Nat) ^ 64 = 18446744073709551616 from rfl, show (2 : Nat) ^ 62 = 4611686018427387904 from rfl,
    show (a * 18446744073709551616 + b) / 18446744073709551616 = a by omega, show (a * 18446744073709551616 + b) % 18446744073709551616 = b by omega,
    show (c * 18446744073709551616 + d) / 18446744073709551616 = c by omega, show (c * 18446744073709551616 + d) % 18446744073709551616 = d by omega]

theorem split_words (q u v : Nat) (hq : q = u * 18446744073709551616 + v) (hv : v < 18446744073709551616) : q / 18446744073709551616 = u ∧ q % 18446744073709551616 = v := by
  subst hq
  rw [Nat.mul_comm, Nat.mul_add_div (by decide), Nat.div_eq_of_lt hv, Nat.mul_add_mod, Nat.mod_eq_of_lt hv]
  exact ⟨rfl, rfl⟩

theorem two_further (H l n : Nat) (hn : n < 18446744073709551616) :
    (H * 340282366920938463463374607431768211456 + l * 18446744073709551616 + n) / 4611686018427387904 = (4 * H + l / 4611686018427387904) * 18446744073709551616 + (4 * (l % 4611686018427387904) + n / 4611686018427387904) := by
  have hl := Nat.div_add_mod l 4611686018427387904
  generalize l / 4611686018427387904 = x at *
  generalize l % 4611686018427387904 = y at *
  subst hl
  rw [show H * 340282366920938463463374607431768211456 + (4611686018427387904 * x + y) * 18446744073709551616 + n = 4611686018427387904 * ((4 * H + x) * 18446744073709551616 + 4 * y) + n by omega,
    Nat.mul_add_div (by decide)]
  omega

/-- what the words of 'times' say -/
theorem times_pure (a b c d h l m n o p n1 k1 l1 k2 l2 k3 : Nat) (hb : b < U64) (hd : d < U64) (hs : a * c * U64 + a * d + b * c < 4611686018427387904 * U64 * U64)
    (H1 : h < U64 ∧ l < U64 ∧ h * U64 + l = a * c) (H2 : m < U64 ∧ n < U64 ∧ m * U64 + n = a * d) (H3 : o < U64 ∧ p < U64 ∧ o * U64 + p = b * c)
    (S1 : n1 < U64 ∧ k1 * U64 + n1 = n + p + 0) (S2 : l1 < U64 ∧ k2 * U64 + l1 = l + m + k1) (S3 : l2 < U64 ∧ k3 * U64 + l2 = l1 + o + 0) :
    bits .or .u64 (IntKind.u64.wrap (IntKind.u64.wrap (IntKind.u64.wrap ((h : Int) + (k2 : Int)) + (k3 : Int)) * 4)) ((l2 : Int) / 4611686018427387904) = ((Trig.times (a * U64 + b) (c * U64 + d) / U64 : Nat) : Int) ∧
    bits .or .u64 (IntKind.u64.wrap ((l2 : Int) * 4)) ((n1 : Int) / 4611686018427387904) = ((Trig.times (a * U64 + b) (c * U64 + d) % U64 : Nat) : Int) ∧ Trig.times (a * U64 + b) (c * U64 + d) < U64 * U64 := by
  unfold U64 at *
  rw [times_words a b c d hb hd]
  have hT : a * c * 18446744073709551616 + a * d + b * c = (h + k2 + k3) * 340282366920938463463374607431768211456 + l2 * 18446744073709551616 + n1 := by omega
  have hH : h + k2 + k3 < 4611686018427387904 := by omega
  rw [hT, two_further _ _ _ S1.1]
  have hz : n1 / 4611686018427387904 < 4 := Nat.div_lt_of_lt_mul (by omega)
  have hy : l2 % 4611686018427387904 < 4611686018427387904 := Nat.mod_lt _ (by decide)
  have hx : l2 / 4611686018427387904 < 4 := Nat.div_lt_of_lt_mul (by omega)
  obtain ⟨w1, w2⟩ := split_words _ (4 * (h + k2 + k3) + l2 / 4611686018427387904) (4 * (l2 % 4611686018427387904) + n1 / 4611686018427387904) rfl (by clear hT; omega)
  rw [w1, w2, show (h : Int) + (k2 : Int) = ((h + k2 : Nat) : Int) by simp, wrap_u64, Nat.mod_eq_of_lt (by omega),
    show ((h + k2 : Nat) : Int) + (k3 : Int) = ((h + k2 + k3 : Nat) : Int) by simp, wrap_u64, Nat.mod_eq_of_lt (by omega), shifted _ _ S3.1, shifted _ _ S1.1, Nat.mod_eq_of_lt hH]
  refine ⟨rfl, rfl, ?_⟩
  clear hT H1 H2 H3 S1 S2 S3 hs w1 w2
  omega

theorem words (n : Nat) (u v : Nat) (hn : n = u * U64 + v) (hv : v < U64) : n / U64 = u ∧ n % U64 = v := by
  unfold U64 at *
  exact split_words n u v hn hv

theorem minus_pure (a b c d s1 k1 s2 k2 : Nat) (hb : b < U64) (hd : d < U64) (hk : k2 ≤ 1) (hs : c * U64 + d ≤ a * U64 + b)
    (S1 : s1 < U64 ∧ b + k1 * U64 = s1 + d + 0) (S2 : s2 < U64 ∧ a + k2 * U64 = s2 + c + k1) :
    (s2 : Int) = ((a * U64 + b - (c * U64 + d)) / U64 : Nat) ∧ (s1 : Int) = ((a * U64 + b - (c * U64 + d)) % U64 : Nat) := by
  obtain ⟨w1, w2⟩ := words (a * U64 + b - (c * U64 + d)) s2 s1 (by unfold U64 at *; omega) S1.1
  rw [w1, w2]
  exact ⟨rfl, rfl⟩

theorem units_pure (a b h l m n n1 k1 : Nat) (ha : a < U64) (hk : k1 ≤ 1) (H1 : h < U64 ∧ l < U64 ∧ h * U64 + l = b * 100000000) (H2 : m < U64 ∧ n < U64 ∧ m * U64 + n = a * 100000000)
    (S1 : n1 < U64 ∧ k1 * U64 + n1 = n + h + 0) :
    wrap64 (bits .or .u64 (IntKind.u64.wrap (IntKind.u64.wrap ((m : Int) + (k1 : Int)) * 4)) ((n1 : Int) / 4611686018427387904)) = ((Trig.units (a * U64 + b) : Nat) : Int) := by
  have hm : m < 100000000 := by unfold U64 at *; omega
  have hu : Trig.units (a * U64 + b) = 4 * (m + k1) + n1 / 4611686018427387904 := by
    rw [Trig.units_def]
    unfold U64 at *
    have hT : (a * 18446744073709551616 + b) * 100000000 = (m + k1) * 340282366920938463463374607431768211456 + n1 * 18446744073709551616 + l := by omega
    rw [hT, show (2 : Nat) ^ 126 = 4611686018427387904 * 18446744073709551616 from rfl, ← Nat.div_div_eq_div_mul, two_further _ _ _ H1.2.1]
    have hz : l / 4611686018427387904 < 4 := Nat.div_lt_of_lt_mul (by omega)
    have hy : n1 % 4611686018427387904 < 4611686018427387904 := Nat.mod_lt _ (by decide)
    exact (split_words _ _ (4 * (n1 % 4611686018427387904) + l / 4611686018427387904) rfl (by clear hT; omega)).1
  have hx : n1 / 4611686018427387904 < 4 := Nat.div_lt_of_lt_mul (by have := S1.1; unfold U64 at this; omega)
  rw [hu, show (m : Int) + (k1 : Int) = ((m + k1 : Nat) : Int) by simp, wrap_u64, Nat.mod_eq_of_lt (by omega), shifted _ _ (by have := S1.1; unfold U64 at this; exact this), Nat.mod_eq_of_lt (by omega)]
  exact IntWalk.wrap64_in _ ⟨by omega, by omega⟩

end Go.Proofs.YtjbhnjnlpekpoaaDoor
