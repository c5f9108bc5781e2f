/-
  Plain mathematics: the reference's sine of every angle from 0 to 90 degrees is the program's. No program in it.
-/
import Derived.Test.YtjbhnjnlpekpoaaDoorRefT
import Derived.Test.YtjbhnjnlpekpoaaDoorChkA
import Derived.Test.YtjbhnjnlpekpoaaDoorChkB
import Derived.Test.YtjbhnjnlpekpoaaDoorChkC
namespace Go.Proofs.YtjbhnjnlpekpoaaDoor.Trig

theorem gap_all (a : Nat) (h0 : 0 < a) (h1 : a ≠ 30000000) (h2 : a < 90000000) : Gap a := by
  rcases Nat.lt_or_ge a 30000000 with k | k
  · exact gapA a h0 k
  · rcases Nat.lt_or_ge 66864000 a with g | g
    · exact gapC a g h2
    · exact gapB a (by omega) g

/-- the reference's sine of a steep angle is the program's -/
theorem sines_agree (a : Nat) (h0 : a ≠ 0) (h1 : a ≠ 30000000) (h2 : a < 90000000) :
    rdn (rsq (rx a)) (rx a) 20 ≤ rup (rsq (rx a)) (rx a) 20 ∧ rN a = sLo a ∧ rN a + 1 = sHi a := by
  obtain ⟨b1, b2⟩ := both_floor a (by omega) (gap_all a (by omega) h1 h2)
  obtain ⟨s1, s2⟩ := sLo_gen h0 h1 (by omega)
  rw [s1, s2, b2]
  exact ⟨b1, rfl, rfl⟩

end Go.Proofs.YtjbhnjnlpekpoaaDoor.Trig
