/-
  Plain mathematics: a part of the angles from 0 to 90 degrees, checked by the kernel. No program in it.
-/
import Derived.Test.YtjbhnjnlpekpoaaDoorGap
namespace Go.Proofs.YtjbhnjnlpekpoaaDoor.Trig
theorem chkB1 : rows2 30000000 100 30 = true := by decide +kernel
theorem chkB2 : rows2 42288000 100 30 = true := by decide +kernel
theorem chkB3 : rows2 54576000 100 30 = true := by decide +kernel
theorem gapB (a : Nat) (h1 : 30000000 < a) (h2 : a ≤ 66864000) : Gap a := by
  rcases Nat.lt_or_ge 42288000 a with k1 | k1
  · rcases Nat.lt_or_ge 54576000 a with k2 | k2
    · exact gap_rows _ _ _ chkB3 a k2 (by omega) (by omega)
    · exact gap_rows _ _ _ chkB2 a k1 (by omega) (by omega)
  · exact gap_rows _ _ _ chkB1 a h1 (by omega) (by omega)
end Go.Proofs.YtjbhnjnlpekpoaaDoor.Trig
