/-
  Plain mathematics: a part of the angles from 0 to 90 degrees, checked by the kernel. No program in it.
-/
import Derived.Test.YtjbhnjnlpekpoaaDoorGap
namespace Go.Proofs.YtjbhnjnlpekpoaaDoor.Trig
theorem chkC1 : rows2 66864000 100 30 = true := by decide +kernel
theorem chkC2 : rows2 79152000 100 26 = true := by decide +kernel
theorem chkC3 : rows2 89801600 48 1 = true := by decide +kernel
theorem chkC4 : rows2 89995903 1 1 = true := by decide +kernel
theorem gapC (a : Nat) (h1 : 66864000 < a) (h2 : a < 90000000) : Gap a := by
  rcases Nat.lt_or_ge 79152000 a with k1 | k1
  · rcases Nat.lt_or_ge 89801600 a with k2 | k2
    · rcases Nat.lt_or_ge 89995903 a with k3 | k3
      · exact gap_rows _ _ _ chkC4 a k3 (by omega) (by omega)
      · exact gap_rows _ _ _ chkC3 a k2 (by omega) (by omega)
    · exact gap_rows _ _ _ chkC2 a k1 (by omega) (by omega)
  · exact gap_rows _ _ _ chkC1 a h1 (by omega) (by omega)
end Go.Proofs.YtjbhnjnlpekpoaaDoor.Trig
