/-
  Plain mathematics: a part of the angles from 0 to 90 degrees, checked by the kernel. No program in it.
-/
import Derived.Test.YtjbhnjnlpekpoaaDoorGap
namespace Go.Proofs.YtjbhnjnlpekpoaaDoor.Trig
theorem chkA1 : rows2 0 100 30 = true := by decide +kernel
theorem chkA2 : rows2 12288000 100 30 = true := by decide +kernel
theorem chkA3 : rows2 24576000 100 13 = true := by decide +kernel
theorem chkA4 : rows2 29900800 24 1 = true := by decide +kernel
theorem chkA5 : rows2 29995903 1 1 = true := by decide +kernel
theorem gapA (a : Nat) (h1 : 0 < a) (h2 : a < 30000000) : Gap a := by
  rcases Nat.lt_or_ge 12288000 a with k1 | k1
  · rcases Nat.lt_or_ge 24576000 a with k2 | k2
    · rcases Nat.lt_or_ge 29900800 a with k3 | k3
      · rcases Nat.lt_or_ge 29995903 a with k4 | k4
        · exact gap_rows _ _ _ chkA5 a k4 (by omega) (by omega)
        · exact gap_rows _ _ _ chkA4 a k3 (by omega) (by omega)
      · exact gap_rows _ _ _ chkA3 a k2 (by omega) (by omega)
    · exact gap_rows _ _ _ chkA2 a k1 (by omega) (by omega)
  · exact gap_rows _ _ _ chkA1 a h1 (by omega) (by omega)
end Go.Proofs.YtjbhnjnlpekpoaaDoor.Trig
