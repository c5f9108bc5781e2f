/-
  Plain mathematics: an angle and the searches of Arccos. No program in it.
-/
import Derived.Test.YtjbhnjnlpekpoaaDoorTrigB
namespace Go.Proofs.YtjbhnjnlpekpoaaDoor.Trig
attribute [local irreducible] sLo sHi

def cosLo (i : Nat) : Int := sineLo ((i : Int) + 90000000)
def cosHi (i : Nat) : Int := sineHi ((i : Int) + 90000000)

theorem sHi_two (a : Nat) : sHi a = sLo a ∨ sHi a = sLo a + 1 := by
  by_cases a0 : a = 0
  · subst a0; left; decide +kernel
  by_cases a1 : a = 30000000
  · subst a1; left; decide +kernel
  by_cases a2 : a = 90000000
  · subst a2; left; decide +kernel
  obtain ⟨h1, h2⟩ := sLo_gen a0 a1 a2
  right; omega

theorem sHi_exact {a : Nat} (h : sHi a = sLo a) : a = 0 ∨ a = 30000000 ∨ a = 90000000 := by
  by_cases a0 : a = 0
  · exact .inl a0
  by_cases a1 : a = 30000000
  · exact .inr (.inl a1)
  by_cases a2 : a = 90000000
  · exact .inr (.inr a2)
  obtain ⟨h1, h2⟩ := sLo_gen a0 a1 a2
  omega

theorem cos_wide (i : Nat) : cosLo i ≤ cosHi i ∧ cosHi i ≤ cosLo i + 1 := by
  unfold cosLo cosHi sineLo sineHi
  have := sHi_two (q4 ((i : Int) + 90000000))
  split <;> omega

theorem cos_exact {i : Nat} (hi : i ≤ 180000000) (h : cosLo i = cosHi i) : i = 0 ∨ i = 60000000 ∨ i = 90000000 ∨ i = 120000000 ∨ i = 180000000 := by
  have k : sHi (q4 ((i : Int) + 90000000)) = sLo (q4 ((i : Int) + 90000000)) := by
    unfold cosLo cosHi sineLo sineHi at h
    split at h <;> omega
  have e := sHi_exact k
  unfold q4 at e
  omega

theorem cos_apart (i : Nat) (hi : i < 180000000) : cosLo (i + 1) < cosHi i := by
  have m := (cos_anti (a := i) (b := i + 1) (by omega) (by omega)).1
  have m : cosLo (i + 1) ≤ cosLo i := m
  have w := cos_wide i
  by_cases h : cosLo i = cosHi i
  · rcases cos_exact (by omega) h with rfl | rfl | rfl | rfl | rfl
    · decide +kernel
    · decide +kernel
    · decide +kernel
    · decide +kernel
    · omega
  · omega

theorem cos_below {i j : Nat} (h : i < j) (hj : j ≤ 180000000) : cosLo j < cosHi i := by
  have a := cos_apart i (by omega)
  have m : cosLo j ≤ cosLo (i + 1) := (cos_anti (a := i + 1) (b := j) (by omega) hj).1
  omega

theorem pLow_iff (v : Int) (i : Nat) : pLow v i = decide (cosLo i < v) := rfl
theorem pHigh_iff (v : Int) (i : Nat) : pHigh v i = decide (cosHi i ≤ v) := rfl

/-- an angle lies in the enclosure of the angles with its cosine -/
theorem back_cos (a : Nat) (h : a ≤ 180000000) : (acLow (cosHi a) : Int) - 1 ≤ a ∧ (a : Int) ≤ acHigh (cosLo a) := by
  have c1 := acLow_cut (cosHi a)
  have c2 := acHigh_cut (cosLo a)
  constructor
  · rcases Nat.lt_or_ge (a + 1) (acLow (cosHi a)) with k | k
    · exfalso
      have := c1.2.1 (a + 1) k
      rw [pLow_iff, decide_eq_false_iff_not] at this
      have l := c1.1
      exact this (cos_apart a (by omega))
    · omega
  · rcases Nat.lt_or_ge (acHigh (cosLo a)) a with k | k
    · exfalso
      have := c2.2.2 (acHigh (cosLo a)) (Nat.le_refl _) (by omega)
      rw [pHigh_iff, decide_eq_true_iff] at this
      have l := cos_below k h
      omega
    · omega

theorem ac_value (v : Int) (h1 : -100000000 ≤ v) (h2 : v ≤ 100000000) :
    1 ≤ acLow v ∧ acLow v ≤ 180000001 ∧ acHigh v ≤ 180000000 ∧ acHigh v ≤ acLow v ∧ v ≤ cosLo (acLow v - 1) ∧ v ≤ cosHi (acLow v - 1) ∧ cosLo (acHigh v) ≤ v := by
  have c1 := acLow_cut v
  have c2 := acHigh_cut v
  have t0 : cosLo 0 = 100000000 := by decide +kernel
  have t1 : cosLo 180000000 = -100000000 := by decide +kernel
  have a1 : 1 ≤ acLow v := by
    rcases Nat.eq_zero_or_pos (acLow v) with z | z
    · exfalso
      have := c1.2.2 0 (by omega) (by omega)
      rw [pLow_iff, decide_eq_true_iff] at this
      omega
    · omega
  have a2 : v ≤ cosLo (acLow v - 1) := by
    have := c1.2.1 (acLow v - 1) (by omega)
    rw [pLow_iff, decide_eq_false_iff_not] at this
    omega
  have a3 : cosLo (acHigh v) ≤ v := by
    rcases Nat.lt_or_ge (acHigh v) 180000000 with k | k
    · have := c2.2.2 (acHigh v) (Nat.le_refl _) k
      rw [pHigh_iff, decide_eq_true_iff] at this
      have := cos_wide (acHigh v)
      omega
    · have : acHigh v = 180000000 := by have := c2.1; omega
      rw [this, t1]; exact h1
  have a4 : acHigh v ≤ acLow v := by
    rcases Nat.lt_or_ge (acLow v) (acHigh v) with k | k
    · exfalso
      have l := c2.1
      have x := c1.2.2 (acLow v) (Nat.le_refl _) (by omega)
      have y := c2.2.1 (acLow v) k
      rw [pLow_iff, decide_eq_true_iff] at x
      rw [pHigh_iff, decide_eq_false_iff_not] at y
      have := cos_wide (acLow v)
      omega
    · exact k
  have := cos_wide (acLow v - 1)
  exact ⟨a1, c1.1, c2.1, a4, a2, by omega, a3⟩

/-- the sine of a right angle less is the cosine of what is left to 180 degrees -/
theorem sine_less (a : Nat) (h : a ≤ 180000000) : sineLo ((a : Int) - 90000000) = cosLo (180000000 - a) ∧ sineHi ((a : Int) - 90000000) = cosHi (180000000 - a) := by
  have e1 : q4 ((a : Int) - 90000000) = q4 (((180000000 - a : Nat) : Int) + 90000000) := by unfold q4; omega
  have e2 : q4 ((a : Int) - 90000000) = 0 ∨ dn ((a : Int) - 90000000) = dn (((180000000 - a : Nat) : Int) + 90000000) := by
    unfold q4 dn
    by_cases k : a = 90000000
    · left; omega
    · right; exact decide_eq_decide.2 (by omega)
  unfold cosLo cosHi sineLo sineHi
  rw [← e1]
  rcases e2 with e | e
  · rw [e]
    have z : sLo 0 = 0 ∧ sHi 0 = 0 := by decide +kernel
    rw [z.1, z.2]
    constructor <;> (split <;> split <;> rfl)
  · rw [e]
    exact ⟨rfl, rfl⟩

end Go.Proofs.YtjbhnjnlpekpoaaDoor.Trig
