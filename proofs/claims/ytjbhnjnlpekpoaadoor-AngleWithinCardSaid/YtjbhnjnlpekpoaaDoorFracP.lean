/-
  The plain law of AngleFractions.
-/
import Derived.Test.YtjbhnjnlpekpoaaDoorArD
namespace Go.Proofs.YtjbhnjnlpekpoaaDoor
open Go.RowKit Go.Sort
set_option linter.unusedVariables false

theorem between (c u v t : Int) (h1 : u ≤ t) (h2 : t ≤ v) : (c * u ≤ c * t ∧ c * t ≤ c * v) ∨ (c * v ≤ c * t ∧ c * t ≤ c * u) := by
  rcases Int.lt_or_le c 0 with h | h
  · exact Or.inr ⟨Int.mul_le_mul_of_nonpos_left (by omega) h2, Int.mul_le_mul_of_nonpos_left (by omega) h1⟩
  · exact Or.inl ⟨Int.mul_le_mul_of_nonneg_left h1 h, Int.mul_le_mul_of_nonneg_left h2 h⟩

theorem flo_e8 (n : Int) : fLo n 100000000 * 100000000 ≤ n ∧ n ≤ fHi n 100000000 * 100000000 := by
  unfold fLo fHi
  rw [if_neg (by decide), if_neg (by decide), if_neg (by decide), if_neg (by decide)]
  omega

theorem times_in (x0 x1 y0 y1 a b : Int) (ha : x0 ≤ a ∧ a ≤ x1) (hb : y0 ≤ b ∧ b ≤ y1) :
    gLo (fun a b => a * b) (fun _ _ => 100000000) x0 x1 y0 y1 * 100000000 ≤ a * b ∧ a * b ≤ gHi (fun a b => a * b) (fun _ _ => 100000000) x0 x1 y0 y1 * 100000000 := by
  have k1 := between b x0 x1 a ha.1 ha.2
  have k2 := between x0 y0 y1 b hb.1 hb.2
  have k3 := between x1 y0 y1 b hb.1 hb.2
  rw [Int.mul_comm b x0, Int.mul_comm b a, Int.mul_comm b x1] at k1
  have e1 := flo_e8 (x0 * y0)
  have e2 := flo_e8 (x0 * y1)
  have e3 := flo_e8 (x1 * y0)
  have e4 := flo_e8 (x1 * y1)
  unfold gLo gHi mLo mHi jLo jHi
  simp only [List.foldl]
  generalize fLo (x0 * y0) 100000000 = a1 at *
  generalize fLo (x0 * y1) 100000000 = a2 at *
  generalize fLo (x1 * y0) 100000000 = a3 at *
  generalize fLo (x1 * y1) 100000000 = a4 at *
  generalize fHi (x0 * y0) 100000000 = b1 at *
  generalize fHi (x0 * y1) 100000000 = b2 at *
  generalize fHi (x1 * y0) 100000000 = b3 at *
  generalize fHi (x1 * y1) 100000000 = b4 at *
  generalize x0 * y0 = p1 at *
  generalize x0 * y1 = p2 at *
  generalize x1 * y0 = p3 at *
  generalize x1 * y1 = p4 at *
  generalize a * b = p at *
  generalize x0 * b = q1 at *
  generalize x1 * b = q2 at *
  omega

theorem div_cross (n1 d1 n b : Int) (hb : 0 < b) (hd : 0 < d1) (h : n1 * b ≤ n * d1) : n1 / d1 ≤ n / b := by
  refine (Int.le_ediv_iff_mul_le hb).2 ?_
  have h1 := Int.ediv_mul_le n1 (b := d1) (by omega)
  refine Int.le_of_mul_le_mul_right (a := d1) ?_ hd
  have h2 := Int.mul_le_mul_of_nonneg_right h1 (Int.le_of_lt hb)
  have h3 : n1 / d1 * b * d1 = n1 / d1 * d1 * b := by rw [Int.mul_assoc, Int.mul_comm b d1, ← Int.mul_assoc]
  rw [h3]
  exact Int.le_trans h2 h

theorem low_corner (u a s t b : Int) (h : u ≤ a) (hs : 0 < s) (h1 : s ≤ b) (h2 : b ≤ t) : (u * 100000000) / s ≤ (a * 100000000) / b ∨ (u * 100000000) / t ≤ (a * 100000000) / b := by
  rcases Int.lt_or_le u 0 with hu | hu
  · left
    refine div_cross _ _ _ _ (by omega) hs ?_
    have g1 := Int.mul_le_mul_of_nonpos_left (a := u) (by omega) h1
    have g2 := Int.mul_le_mul_of_nonneg_right h (Int.le_of_lt hs)
    have g3 : u * 100000000 * b = u * b * 100000000 := by rw [Int.mul_assoc, Int.mul_comm 100000000 b, ← Int.mul_assoc]
    have g4 : a * 100000000 * s = a * s * 100000000 := by rw [Int.mul_assoc, Int.mul_comm 100000000 s, ← Int.mul_assoc]
    rw [g3, g4]
    omega
  · right
    refine div_cross _ _ _ _ (by omega) (by omega) ?_
    have g1 := Int.mul_le_mul_of_nonneg_left h2 hu
    have g2 := Int.mul_le_mul_of_nonneg_right h (show 0 ≤ t by omega)
    have g3 : u * 100000000 * b = u * b * 100000000 := by rw [Int.mul_assoc, Int.mul_comm 100000000 b, ← Int.mul_assoc]
    have g4 : a * 100000000 * t = a * t * 100000000 := by rw [Int.mul_assoc, Int.mul_comm 100000000 t, ← Int.mul_assoc]
    rw [g3, g4]
    omega

/-- numerator and divisor, the divisor positive -/
abbrev nn (a b : Int) : Int := if b < 0 then -(a * 100000000) else a * 100000000
abbrev bb (b : Int) : Int := if b < 0 then -b else b

theorem over_in (x0 x1 y0 y1 a b : Int) (ha : x0 ≤ a ∧ a ≤ x1) (hb : y0 ≤ b ∧ b ≤ y1) (hz : ¬(y0 ≤ 0 ∧ 0 ≤ y1)) :
    gLo (fun a b => a * 100000000) (fun a b => b) x0 x1 y0 y1 ≤ nn a b / bb b ∧ -((-(nn a b)) / bb b) ≤ gHi (fun a b => a * 100000000) (fun a b => b) x0 x1 y0 y1 := by
  unfold gLo gHi mLo mHi jLo jHi nn bb
  simp only [List.foldl]
  rcases Int.lt_or_le 0 y0 with h | h
  · have t1 := low_corner x0 a y0 y1 b ha.1 h hb.1 hb.2
    have t2 := low_corner (-x1) (-a) y0 y1 b (by omega) h hb.1 hb.2
    rw [Int.neg_mul, Int.neg_mul] at t2
    rw [if_neg (by omega), if_neg (by omega)]
    unfold fLo fHi
    simp only [show ¬ y0 = 0 by omega, show ¬ y1 = 0 by omega, show ¬ y0 < 0 by omega, show ¬ y1 < 0 by omega, if_false]
    generalize a * 100000000 / b = q at *
    generalize -(a * 100000000) / b = q' at *
    generalize x0 * 100000000 / y0 = c1 at *
    generalize x0 * 100000000 / y1 = c2 at *
    generalize x1 * 100000000 / y0 = c3 at *
    generalize x1 * 100000000 / y1 = c4 at *
    generalize -(x0 * 100000000) / y0 = d1 at *
    generalize -(x0 * 100000000) / y1 = d2 at *
    generalize -(x1 * 100000000) / y0 = d3 at *
    generalize -(x1 * 100000000) / y1 = d4 at *
    omega
  · have t1 := low_corner (-x1) (-a) (-y1) (-y0) (-b) (by omega) (by omega) (by omega) (by omega)
    have t2 := low_corner x0 a (-y1) (-y0) (-b) (by omega) (by omega) (by omega) (by omega)
    rw [Int.neg_mul, Int.neg_mul] at t1
    rw [if_pos (by omega), if_pos (by omega), Int.neg_neg]
    unfold fLo fHi
    simp only [show ¬ y0 = 0 by omega, show ¬ y1 = 0 by omega, show y0 < 0 by omega, show y1 < 0 by omega, if_false, if_true]
    generalize a * 100000000 / -b = q at *
    generalize -(a * 100000000) / -b = q' at *
    generalize x0 * 100000000 / -y0 = c1 at *
    generalize x0 * 100000000 / -y1 = c2 at *
    generalize x1 * 100000000 / -y0 = c3 at *
    generalize x1 * 100000000 / -y1 = c4 at *
    generalize -(x0 * 100000000) / -y0 = d1 at *
    generalize -(x0 * 100000000) / -y1 = d2 at *
    generalize -(x1 * 100000000) / -y0 = d3 at *
    generalize -(x1 * 100000000) / -y1 = d4 at *
    omega

/-- a quotient and its rest, of the highest end -/
theorem ceil_le (n b B : Int) (hb : 0 < b) (h : -((-n) / b) ≤ B) : n / b ≤ B ∧ (B = n / b → n % b ≤ 0) := by
  have e1 := Int.ediv_mul_le (-n) (b := b) (by omega)
  have e2 := Int.mul_ediv_add_emod n b
  have e3 := Int.emod_nonneg n (b := b) (by omega)
  have e4 := Int.mul_le_mul_of_nonneg_right (show -B ≤ (-n) / b by omega) (Int.le_of_lt hb)
  rw [Int.neg_mul] at e4
  constructor
  · refine Int.le_of_mul_le_mul_right (a := b) ?_ hb
    rw [Int.mul_comm (n / b) b]
    omega
  · intro hB
    rw [hB, Int.mul_comm (n / b) b] at e4
    omega

end Go.Proofs.YtjbhnjnlpekpoaaDoor
