/-
  Plain arithmetic: the two quotients of a division of two words by a small one.
-/
import Derived.Test.YtjbhnjnlpekpoaaDoorFix
namespace Go.Proofs.YtjbhnjnlpekpoaaDoor
open Go.RowKit
set_option linter.unusedVariables false

/-- what is known behind the first quotient -/
def Div1 (hi lo y s yn Y a b b1 b0 q r : Nat) : Prop := Y = yn * 4294967296 ∧ q < 4294967296 ∧ r < yn ∧ b1 < 4294967296 ∧ b0 < 4294967296 ∧ b = b1 * 4294967296 + b0 ∧ a = q * yn + r ∧ a < U64 ∧
  (hi * U64 + lo) * 2 ^ s = a * U64 + b
def Div2 (c q0 r0 b1 r yn : Nat) : Prop := c = r * 4294967296 + b1 ∧ c < U64 ∧ c = q0 * yn + r0 ∧ r0 < yn ∧ q0 < 4294967296

theorem wrap_nat (x y : Nat) (h : x = y) (hy : y < 18446744073709551616) : IntKind.u64.wrap (x : Int) = (y : Int) := by
  subst h; rw [wrap_u64, Nat.mod_eq_of_lt hy]

theorem two_words (x y : Nat) (hx : x < 4294967296) (hy : y < 4294967296) : x * 4294967296 < 18446744073709551616 ∧ x * 4294967296 + y < 18446744073709551616 := by omega

theorem wrap_self (x : Nat) (hx : x < 18446744073709551616) : IntKind.u64.wrap (x : Int) = (x : Int) := wrap_nat x x rfl hx

theorem wrap_sub_mod (x y c : Nat) (h : x = y + c) (hc : c < 18446744073709551616) : IntKind.u64.wrap (((x % 18446744073709551616 : Nat) : Int) - ((y % 18446744073709551616 : Nat) : Int)) = (c : Int) := by
  subst h
  rw [IntKind.wrap_u64, Nat.add_mod, Nat.mod_eq_of_lt hc]
  have := Nat.mod_lt y (show 0 < 18446744073709551616 by decide)
  generalize y % 18446744073709551616 = j at *
  by_cases hj : j + c < 18446744073709551616
  · rw [Nat.mod_eq_of_lt hj]; omega
  · rw [Nat.mod_eq_sub_mod (by omega), Nat.mod_eq_of_lt (by omega)]; omega

theorem and_low (x : Nat) (hx : x < 18446744073709551616) : bits .and .u64 (x : Int) 4294967295 = ((x % 4294967296 : Nat) : Int) := by
  rw [show (4294967295 : Int) = ((4294967295 : Nat) : Int) from rfl, bits_and_u64_nat _ _ hx (by omega)]
  rw [show (4294967295 : Nat) = 2 ^ 32 - 1 from rfl, Nat.and_two_pow_sub_one_eq_mod]

theorem div_first (hi lo y s yn : Nat) (h0 : 0 < hi) (h1 : hi < y) (hlo : lo < U64) (hs1 : 32 ≤ s) (hs2 : s ≤ 63) (hy : y * 2 ^ s = yn * 4294967296 ∧ 2147483648 ≤ yn ∧ yn < 4294967296) :
    ∃ Y u a b b1 b0 q p1 r : Nat,
    IntKind.u64.wrap ((y : Int) * 2 ^ s) = (Y : Int) ∧ (Y : Int) / 4294967296 = (yn : Int) ∧ bits .and .u64 (Y : Int) 4294967295 = 0 ∧ IntKind.u64.wrap ((hi : Int) * 2 ^ s) = (u : Int) ∧
    bits .or .u64 (u : Int) ((lo : Int) / 2 ^ (64 - s)) = (a : Int) ∧ IntKind.u64.wrap ((lo : Int) * 2 ^ s) = (b : Int) ∧ (b : Int) / 4294967296 = (b1 : Int) ∧ bits .and .u64 (b : Int) 4294967295 = (b0 : Int) ∧
    IntKind.u64.wrap ((a : Int) / (yn : Int)) = (q : Int) ∧ IntKind.u64.wrap ((q : Int) * (yn : Int)) = (p1 : Int) ∧ IntKind.u64.wrap ((a : Int) - (p1 : Int)) = (r : Int) ∧
    Div1 hi lo y s yn Y a b b1 b0 q r := by
  obtain ⟨hy, hy1, hy2⟩ := hy
  unfold Div1
  unfold U64 at *
  have hpt : 2 ^ s * 2 ^ (64 - s) = 18446744073709551616 := by rw [← Nat.pow_add, show s + (64 - s) = 64 by omega]
  have hp0 : 0 < 2 ^ s := Nat.two_pow_pos s
  have ht0 : 0 < 2 ^ (64 - s) := Nat.two_pow_pos _
  have ci : ∀ n : Nat, ((2 : Int) ^ n) = ((2 ^ n : Nat) : Int) := fun n => by simp
  have hv : lo / 2 ^ (64 - s) < 2 ^ s := Nat.div_lt_of_lt_mul (by rw [Nat.mul_comm, hpt]; exact hlo)
  have hor : bits .or .u64 ((hi * 2 ^ s : Nat) : Int) ((lo / 2 ^ (64 - s) : Nat) : Int) = ((hi * 2 ^ s + lo / 2 ^ (64 - s) : Nat) : Int) := by
    have hle : hi * 2 ^ s < y * 2 ^ s := Nat.mul_lt_mul_of_pos_right h1 hp0
    have hle2 : lo / 2 ^ (64 - s) ≤ lo := Nat.div_le_self _ _
    rw [bits_or_u64_nat _ _ (by omega) (by omega), Nat.mul_comm hi, Nat.two_pow_add_eq_or_of_lt hv]
  have ha : hi * 2 ^ s + lo / 2 ^ (64 - s) < yn * 4294967296 := by
    have : (hi + 1) * 2 ^ s ≤ y * 2 ^ s := Nat.mul_le_mul_right _ h1
    rw [Nat.add_mul] at this; omega
  have hb : lo * 2 ^ s = lo / 2 ^ (64 - s) * 18446744073709551616 + lo % 2 ^ (64 - s) * 2 ^ s := by
    have e := Nat.div_add_mod lo (2 ^ (64 - s))
    generalize lo / 2 ^ (64 - s) = v at *
    generalize lo % 2 ^ (64 - s) = x at *
    rw [← hpt, ← e]; grind
  have hbl : lo % 2 ^ (64 - s) * 2 ^ s < 18446744073709551616 := by
    rw [← hpt, Nat.mul_comm]
    exact Nat.mul_lt_mul_of_pos_left (Nat.mod_lt _ ht0) hp0
  rw [ci s, ci (64 - s)]
  rw [show (lo : Int) / ((2 ^ (64 - s) : Nat) : Int) = ((lo / 2 ^ (64 - s) : Nat) : Int) from rfl]
  generalize hA : hi * 2 ^ s + lo / 2 ^ (64 - s) = a at *
  generalize hB : lo % 2 ^ (64 - s) * 2 ^ s = b at *
  have hq := Nat.div_add_mod a yn
  have hr := Nat.mod_lt a (y := yn) (by omega)
  have hql : a / yn < 4294967296 := Nat.div_lt_of_lt_mul (by omega)
  have hqa : a / yn * yn ≤ a := Nat.div_mul_le_self a yn
  have hau : hi * 2 ^ s ≤ a := by omega
  refine ⟨yn * 4294967296, hi * 2 ^ s, a, b, b / 4294967296, b % 4294967296, a / yn, a / yn * yn, a % yn, ?_, ?_, ?_, ?_, ?_, ?_, ?_, ?_, ?_, ?_, ?_, rfl, hql, hr, ?_, ?_, ?_, ?_, ?_, ?_⟩
  · rw [← Int.natCast_mul]; exact wrap_nat _ _ hy (by omega)
  · omega
  · rw [and_low _ (by omega), Nat.mul_mod_left]; rfl
  · rw [← Int.natCast_mul]; exact wrap_nat _ _ rfl (by omega)
  · exact hor
  · rw [← Int.natCast_mul, wrap_u64, hb, Nat.mul_comm _ 18446744073709551616, Nat.mul_add_mod, Nat.mod_eq_of_lt hbl]
  · omega
  · exact and_low b hbl
  · exact wrap_nat (a / yn) _ rfl (by omega)
  · rw [← Int.natCast_mul]; exact wrap_nat _ _ rfl (by omega)
  · rw [← Int.natCast_sub hqa]; exact wrap_nat _ _ (by rw [Nat.mul_comm]; omega) (by omega)
  · exact Nat.div_lt_of_lt_mul (by omega)
  · exact Nat.mod_lt _ (by omega)
  · omega
  · rw [Nat.mul_comm]; omega
  · omega
  · rw [Nat.add_mul, hb, ← hA, Nat.add_mul, Nat.mul_right_comm]; omega

theorem div_second (hi lo y s yn Y a b b1 b0 q r : Nat) (hy : y * 2 ^ s = yn * 4294967296 ∧ 2147483648 ≤ yn ∧ yn < 4294967296) (G : Div1 hi lo y s yn Y a b b1 b0 q r) :
    ∃ a2 a3 p2 c q0 p3 r0 : Nat, IntKind.u64.wrap ((a : Int) * 4294967296) = (a2 : Int) ∧ IntKind.u64.wrap ((a2 : Int) + (b1 : Int)) = (a3 : Int) ∧
    IntKind.u64.wrap ((q : Int) * (Y : Int)) = (p2 : Int) ∧ IntKind.u64.wrap ((a3 : Int) - (p2 : Int)) = (c : Int) ∧
    IntKind.u64.wrap ((c : Int) / (yn : Int)) = (q0 : Int) ∧ IntKind.u64.wrap ((q0 : Int) * (yn : Int)) = (p3 : Int) ∧ IntKind.u64.wrap ((c : Int) - (p3 : Int)) = (r0 : Int) ∧ Div2 c q0 r0 b1 r yn := by
  obtain ⟨g1, g2, g3, g4, g5, g6, g7, g8, g9⟩ := G
  obtain ⟨hy, hy1, hy2⟩ := hy
  unfold Div2
  unfold U64 at *
  clear g9 hy g6 g8
  have hc : r * 4294967296 + b1 < yn * 4294967296 := by omega
  generalize hC : r * 4294967296 + b1 = c at *
  have hq := Nat.div_add_mod c yn
  have hr := Nat.mod_lt c (y := yn) (by omega)
  have hql : c / yn < 4294967296 := Nat.div_lt_of_lt_mul (by omega)
  have hqa : c / yn * yn ≤ c := Nat.div_mul_le_self c yn
  have hcl : c < 18446744073709551616 := by omega
  have hpl : c / yn * yn < 18446744073709551616 := by omega
  have hql2 : c / yn < 18446744073709551616 := by omega
  have hrl : c % yn < 18446744073709551616 := by omega
  have hsub : c - c / yn * yn = c % yn := by rw [Nat.mul_comm]; omega
  have hsum : c = c / yn * yn + c % yn := by rw [Nat.mul_comm]; omega
  clear hq hr hc
  refine ⟨a * 4294967296 % 18446744073709551616, (a * 4294967296 + b1) % 18446744073709551616, q * Y % 18446744073709551616, c, c / yn, c / yn * yn, c % yn, ?_, ?_, ?_, ?_, ?_, ?_, ?_, rfl, hcl, hsum, Nat.mod_lt _ (by omega), hql⟩
  · rw [show (a : Int) * 4294967296 = ((a * 4294967296 : Nat) : Int) by simp, wrap_u64]
  · rw [← Int.natCast_add, wrap_u64, Nat.mod_add_mod]
  · rw [← Int.natCast_mul, wrap_u64]
  · refine wrap_sub_mod _ _ _ ?_ hcl
    rw [g1, g7, show q * (yn * 4294967296) = q * yn * 4294967296 from (Nat.mul_assoc _ _ _).symm]
    rw [← hC, Nat.add_mul, Nat.add_assoc]
  · exact wrap_nat (c / yn) (c / yn) rfl hql2
  · rw [← Int.natCast_mul]; exact wrap_nat (c / yn * yn) (c / yn * yn) rfl hpl
  · rw [← Int.natCast_sub hqa]; exact wrap_nat _ _ hsub hrl

theorem div_third (hi lo y s yn Y a b b1 b0 q r c q0 r0 : Nat) (hy : y * 2 ^ s = yn * 4294967296 ∧ 2147483648 ≤ yn ∧ yn < 4294967296) (G : Div1 hi lo y s yn Y a b b1 b0 q r) (K : Div2 c q0 r0 b1 r yn) :
    ∃ q2 QQ c2 c3 p4 R2 R : Nat, IntKind.u64.wrap ((q : Int) * 4294967296) = (q2 : Int) ∧ IntKind.u64.wrap ((q2 : Int) + (q0 : Int)) = (QQ : Int) ∧
    IntKind.u64.wrap ((c : Int) * 4294967296) = (c2 : Int) ∧ IntKind.u64.wrap ((c2 : Int) + (b0 : Int)) = (c3 : Int) ∧ IntKind.u64.wrap ((q0 : Int) * (Y : Int)) = (p4 : Int) ∧ IntKind.u64.wrap ((c3 : Int) - (p4 : Int)) = (R2 : Int) ∧
    (R2 : Int) / 2 ^ s = (R : Int) ∧ QQ = (hi * U64 + lo) / y ∧ R = (hi * U64 + lo) % y := by
  obtain ⟨g1, g2, g3, g4, g5, g6, g7, g8, g9⟩ := G
  obtain ⟨k1, k2, k3, k4, k5⟩ := K
  obtain ⟨hy, hy1, hy2⟩ := hy
  unfold U64 at *
  have hp0 : 0 < 2 ^ s := Nat.two_pow_pos s
  have hy0 : 0 < y := by
    rcases Nat.eq_zero_or_pos y with h | h
    · rw [h] at hy; omega
    · exact h
  -- the whole, as a quotient and a rest
  have key : (hi * 18446744073709551616 + lo) * 2 ^ s = (q * 4294967296 + q0) * (y * 2 ^ s) + (r0 * 4294967296 + b0) := by
    rw [g9, hy]
    have e1 : (q * 4294967296 + q0) * (yn * 4294967296) = (q * yn) * 18446744073709551616 + (q0 * yn) * 4294967296 := by grind
    rw [e1]
    generalize q * yn = z at *
    generalize q0 * yn = x at *
    omega
  have hlt : r0 * 4294967296 + b0 < y * 2 ^ s := by rw [hy]; omega
  have hdiv : (hi * 18446744073709551616 + lo) / y = q * 4294967296 + q0 := by
    have := Nat.mul_div_mul_right (hi * 18446744073709551616 + lo) y hp0
    rw [← this, key, Nat.mul_comm (q * 4294967296 + q0), Nat.mul_add_div (by omega), Nat.div_eq_of_lt hlt, Nat.add_zero]
  have hmod : (r0 * 4294967296 + b0) / 2 ^ s = (hi * 18446744073709551616 + lo) % y := by
    have h1 := Nat.mul_mod_mul_right (2 ^ s) (hi * 18446744073709551616 + lo) y
    rw [key, Nat.mul_comm (q * 4294967296 + q0), Nat.mul_add_mod, Nat.mod_eq_of_lt hlt] at h1
    rw [h1, Nat.mul_div_cancel _ hp0]
  rw [hdiv, ← hmod]
  clear hdiv hmod key hlt hy hp0 hy0 g9
  obtain ⟨l1, l2⟩ := two_words q q0 g2 k5
  have l3 := (two_words r0 b0 (Nat.lt_trans k4 hy2) g5).2
  refine ⟨q * 4294967296, q * 4294967296 + q0, c * 4294967296 % 18446744073709551616, (c * 4294967296 + b0) % 18446744073709551616, q0 * Y % 18446744073709551616, r0 * 4294967296 + b0, (r0 * 4294967296 + b0) / 2 ^ s, ?_, ?_, ?_, ?_, ?_, ?_, ?_, rfl, rfl⟩
  · rw [show (q : Int) * 4294967296 = ((q * 4294967296 : Nat) : Int) by simp]; exact wrap_self _ l1
  · rw [← Int.natCast_add]; exact wrap_self _ l2
  · rw [show (c : Int) * 4294967296 = ((c * 4294967296 : Nat) : Int) by simp, wrap_u64]
  · rw [← Int.natCast_add, wrap_u64, Nat.mod_add_mod]
  · rw [← Int.natCast_mul, wrap_u64]
  · refine wrap_sub_mod _ _ _ ?_ l3
    clear l1 l2 l3
    rw [g1, k3, show q0 * (yn * 4294967296) = q0 * yn * 4294967296 from (Nat.mul_assoc _ _ _).symm, Nat.add_mul, Nat.add_assoc]
  · rw [show ((2 : Int) ^ s) = ((2 ^ s : Nat) : Int) by simp]; rfl

end Go.Proofs.YtjbhnjnlpekpoaaDoor
