/-
  Plain laws: the sines rise and fall; the enclosure of the sines of many angles.
-/
import Derived.Test.YtjbhnjnlpekpoaaDoorAngJ
import Derived.Test.YtjbhnjnlpekpoaaDoorBack
namespace Go.Proofs.YtjbhnjnlpekpoaaDoor
open Go.RowKit Go.Sort Trig
set_option linter.unusedVariables false

theorem sine_shift (a b : Int) (h : a % 360000000 = b % 360000000) : sineLo a = sineLo b ∧ sineHi a = sineHi b := by
  have e1 : q4 a = q4 b := by unfold q4; rw [h]
  have e2 : dn a = dn b := by unfold dn; rw [h]
  unfold sineLo sineHi
  rw [e1, e2]
  exact ⟨rfl, rfl⟩

theorem sine_mirror (a b : Int) (h : (a + b) % 360000000 = 180000000) : sineLo a = sineLo b ∧ sineHi a = sineHi b := by
  have e1 : q4 a = q4 b := by unfold q4; omega
  have e2 : q4 a = 0 ∨ dn a = dn b := by
    unfold q4 dn
    by_cases k : a % 180000000 = 0
    · left; omega
    · right; exact decide_eq_decide.2 (by omega)
  unfold sineLo sineHi
  rw [← e1]
  rcases e2 with e | e
  · rw [e]
    have z : sLo 0 = 0 ∧ sHi 0 = 0 := by decide +kernel
    rw [z.1, z.2]
    constructor <;> (split <;> split <;> rfl)
  · rw [e]
    exact ⟨rfl, rfl⟩

theorem falls (k a b : Int) (h1 : 90000000 + 360000000 * k ≤ a) (h2 : a ≤ b) (h3 : b ≤ 270000000 + 360000000 * k) : sineLo b ≤ sineLo a ∧ sineHi b ≤ sineHi a := by
  have h := cos_anti (a := (a - 90000000 - 360000000 * k).toNat) (b := (b - 90000000 - 360000000 * k).toNat) (by omega) (by omega)
  have ea := sine_shift (((a - 90000000 - 360000000 * k).toNat : Int) + 90000000) a (by omega)
  have eb := sine_shift (((b - 90000000 - 360000000 * k).toNat : Int) + 90000000) b (by omega)
  rw [ea.1, ea.2, eb.1, eb.2] at h
  exact h

theorem rises (k a b : Int) (h1 : -90000000 + 360000000 * k ≤ a) (h2 : a ≤ b) (h3 : b ≤ 90000000 + 360000000 * k) : sineLo a ≤ sineLo b ∧ sineHi a ≤ sineHi b := by
  have h := falls (-k) (180000000 - b) (180000000 - a) (by omega) (by omega) (by omega)
  have ea := sine_mirror (180000000 - a) a (by omega)
  have eb := sine_mirror (180000000 - b) b (by omega)
  rw [ea.1, ea.2, eb.1, eb.2] at h
  exact h

attribute [local irreducible] sineLo sineHi

theorem all_holds (lo hi a : Int) (h1 : lo ≤ a) (h2 : a ≤ hi) : allLo lo hi ≤ sineLo a ∧ sineHi a ≤ allHi lo hi := by
  have b := sine_bds a
  unfold allLo allHi nextP
  constructor
  · split
    · omega
    · rename_i hn
      rcases Int.lt_or_le ((lo - 270000000) / 360000000 * 360000000 + 450000000) a with g | g
      · have := (falls ((lo - 270000000) / 360000000 + 1) a hi (by omega) h2 (by omega)).1
        omega
      · have := (rises ((lo - 270000000) / 360000000 + 1) lo a (by omega) h1 (by omega)).1
        omega
  · split
    · omega
    · rename_i hn
      rcases Int.lt_or_le ((lo - 90000000) / 360000000 * 360000000 + 270000000) a with g | g
      · have := (rises ((lo - 90000000) / 360000000 + 1) a hi (by omega) h2 (by omega)).2
        omega
      · have := (falls ((lo - 90000000) / 360000000) lo a (by omega) h1 (by omega)).2
        omega

theorem all_full (lo hi : Int) (h : 360000000 ≤ hi - lo) : allLo lo hi = -100000000 ∧ allHi lo hi = 100000000 := by
  unfold allLo allHi nextP
  rw [if_pos (by omega), if_pos (by omega)]
  exact ⟨rfl, rfl⟩

theorem all_reach (lo hi : Int) : (allLo lo hi = min (sineLo lo) (sineLo hi) ∨ allLo lo hi = -100000000) ∧ (allHi lo hi = max (sineHi lo) (sineHi hi) ∨ allHi lo hi = 100000000) := by
  unfold allLo allHi
  constructor
  · split
    · exact .inr rfl
    · exact .inl rfl
  · split
    · exact .inr rfl
    · exact .inl rfl

theorem all_bds (lo hi : Int) : -100000000 ≤ allLo lo hi ∧ allHi lo hi ≤ 100000000 := by
  have a := sine_bds lo
  have b := sine_bds hi
  unfold allLo allHi
  constructor <;> split <;> omega

end Go.Proofs.YtjbhnjnlpekpoaaDoor
