/-
  Plain laws of the quotient that is cut towards zero.
-/
import GoSem.Core.Lib
namespace Go.Proofs.YtjbhnjnlpekpoaaDoor
set_option linter.unusedVariables false

theorem tdiv_parts (n d : Int) (hd : 0 < d) (hn : n < 0) : (n.tmod d = 0 ∧ n.tdiv d = n / d) ∨ (n.tmod d ≠ 0 ∧ n.tdiv d - 1 = n / d) := by
  have e1 := Int.mul_tdiv_add_tmod n d
  have b1 := Int.lt_tmod_of_pos n hd
  have b2 := Int.tmod_lt_of_pos n hd
  have b3 : n.tmod d ≤ 0 := by
    have e : n = -(-n) := by omega
    have := Int.tmod_nonneg d (show 0 ≤ -n by omega)
    rw [e, Int.neg_tmod]
    omega
  by_cases h : n.tmod d = 0
  · left
    refine ⟨h, ?_⟩
    rw [h, Int.add_zero] at e1
    rw [← e1]
    rw [Int.mul_tdiv_cancel_left _ (by omega), Int.mul_ediv_cancel_left _ (by omega)]
  · right
    refine ⟨h, ?_⟩
    have k : n = (n.tmod d + d) + d * (n.tdiv d - 1) := by rw [Int.mul_sub, Int.mul_one]; omega
    have : n / d = (n.tmod d + d) / d + (n.tdiv d - 1) := by
      conv => lhs; rw [k]
      rw [Int.add_mul_ediv_left _ _ (by omega)]
    rw [this, Int.ediv_eq_zero_of_lt (by omega) (by omega)]
    omega

theorem tdiv_bd (n d : Int) (hd : 0 < d) (h : -9000000000000000000 ≤ n ∧ n ≤ 9000000000000000000) : -9000000000000000000 ≤ n.tdiv d ∧ n.tdiv d ≤ 9000000000000000000 ∧ -9000000000000000000 ≤ n.tmod d ∧ n.tmod d ≤ 9000000000000000000 := by
  have a := Int.natAbs_tdiv_le_natAbs n d
  have b := Int.natAbs_tmod n d
  have c : n.natAbs % d.natAbs ≤ n.natAbs := Nat.mod_le _ _
  omega

end Go.Proofs.YtjbhnjnlpekpoaaDoor
