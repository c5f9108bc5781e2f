/-
  AngleKnown: the known values, as contracts.
-/
import Derived.Test.YtjbhnjnlpekpoaaDoorBackA
import Derived.Test.YtjbhnjnlpekpoaaDoorArD
import Derived.Test.YtjbhnjnlpekpoaaDoorArcV
import Derived.Test.YtjbhnjnlpekpoaaDoorRootW
import Derived.Test.YtjbhnjnlpekpoaaDoorReadA
import Derived.Test.YtjbhnjnlpekpoaaDoorWriteA
namespace Go.Proofs.YtjbhnjnlpekpoaaDoor
open Go.RowKit Go.Sort
open Trig
set_option linter.unusedVariables false

theorem kSin30 : SC 16 30000000 50000000 50000000 := sc_sin _ _ _ (by omega) (by omega) (by decide +kernel) (by decide +kernel)
theorem kSin90 : SC 16 (-90000000) (-100000000) (-100000000) := sc_sin _ _ _ (by omega) (by omega) (by decide +kernel) (by decide +kernel)
theorem kCos60 : SC 17 60000000 50000000 50000000 := sc_cos _ _ _ (by omega) (by omega) (by decide +kernel) (by decide +kernel)
theorem kCos1 : SC 17 1000000 99984769 99984770 := sc_cos _ _ _ (by omega) (by omega) (by decide +kernel) (by decide +kernel)
theorem kCos450 : SC 17 450000000 0 0 := sc_cos _ _ _ (by omega) (by omega) (by decide +kernel) (by decide +kernel)

theorem ofOut_at (x y more lo hi : Int) (h : wildB x y 3600000000 = false) (h1 : allLo (x + more) (y + more) = lo) (h2 : allHi (x + more) (y + more) = hi) : ofOut x y more = .tuple #[encl lo hi, .int .i64 0] := by
  unfold ofOut
  rw [h, if_neg (by decide), h1, h2]

theorem kOf45 : FC 27 #[encl 45000000 135000000] (.tuple #[encl 70710678 100000000, .int .i64 0]) := by
  intro w
  have h := SinOf_any 45000000 135000000 w (by omega) (by omega)
  rw [ofOut_at 45000000 135000000 0 70710678 100000000 (by decide) (by decide +kernel) (by decide +kernel)] at h
  exact h

theorem kOf0 : FC 27 #[encl 0 30000000] (.tuple #[encl 0 50000000, .int .i64 0]) := by
  intro w
  have h := SinOf_any 0 30000000 w (by omega) (by omega)
  rw [ofOut_at 0 30000000 0 0 50000000 (by decide) (by decide +kernel) (by decide +kernel)] at h
  exact h

theorem arc45 : Trig.acLow 70710678 = 45000001 ∧ Trig.acHigh 70710678 = 45000001 := by
  have a : Trig.pLow 70710678 45000000 = false ∧ Trig.pLow 70710678 45000001 = true := by decide +kernel
  have b : Trig.pHigh 70710678 45000000 = false ∧ Trig.pHigh 70710678 45000001 = true := by decide +kernel
  exact ⟨(Trig.acLow_cut 70710678).at (k := 45000000) (by omega) a.1 a.2, (Trig.acHigh_cut 70710678).at (k := 45000000) (by omega) b.1 b.2⟩

theorem kAsn : FC 23 #[encl 70710678 70710678] (.tuple #[encl 44999999 45000000, .int .i64 0]) := by
  intro w
  refine Arcsin_any 70710678 70710678 44999999 45000000 0 w (by omega) (by omega) (.inr ⟨by decide, ?_, ?_, rfl⟩)
  · rw [arc45.2]; decide
  · rw [arc45.1]; decide

theorem kRoot2 : FC 40 #[encl 200000000 200000000] (.tuple #[encl 141421356 141421357, .int .i64 0]) := by
  intro w
  exact Root_any 200000000 200000000 141421356 141421357 0 w (by omega) (by omega) (.inr ⟨by decide, by unfold isRoot; decide +kernel, by unfold isUp; decide +kernel, rfl⟩)

theorem kRoot225 : FC 40 #[encl 0 225000000] (.tuple #[encl 0 150000000, .int .i64 0]) := by
  intro w
  exact Root_any 0 225000000 0 150000000 0 w (by omega) (by omega) (.inr ⟨by decide, by unfold isRoot; decide +kernel, by unfold isUp; decide +kernel, rfl⟩)

theorem kTimes3 : FC 32 #[encl 3 3, encl 50000000 50000000] (.tuple #[encl 1 2, .int .i64 0]) := by
  intro w
  exact Times_any 3 3 50000000 50000000 1 2 0 w ⟨by omega, by omega⟩ ⟨by omega, by omega⟩ ⟨by omega, by omega⟩ ⟨by omega, by omega⟩ (.inr ⟨by decide +kernel, by decide +kernel, by decide +kernel, rfl⟩)

theorem kTimes4 : FC 32 #[encl (-100000000) 200000000, encl 300000000 400000000] (.tuple #[encl (-400000000) 800000000, .int .i64 0]) := by
  intro w
  exact Times_any (-100000000) 200000000 300000000 400000000 (-400000000) 800000000 0 w ⟨by omega, by omega⟩ ⟨by omega, by omega⟩ ⟨by omega, by omega⟩ ⟨by omega, by omega⟩ (.inr ⟨by decide +kernel, by decide +kernel, by decide +kernel, rfl⟩)

theorem kOver3 : FC 33 #[encl 100000000 100000000, encl 300000000 300000000] (.tuple #[encl 33333333 33333334, .int .i64 0]) := by
  intro w
  exact Over_any 100000000 100000000 300000000 300000000 33333333 33333334 0 w ⟨by omega, by omega⟩ ⟨by omega, by omega⟩ ⟨by omega, by omega⟩ ⟨by omega, by omega⟩ (.inr ⟨by decide +kernel, .inr ⟨by decide +kernel, by decide +kernel, by decide +kernel, rfl⟩⟩)

theorem kOver0 : FC 33 #[encl 100000000 100000000, encl (-100000000) 100000000] (.tuple #[encl 0 0, .int .i64 8]) := by
  intro w
  exact Over_any 100000000 100000000 (-100000000) 100000000 0 0 8 w ⟨by omega, by omega⟩ ⟨by omega, by omega⟩ ⟨by omega, by omega⟩ ⟨by omega, by omega⟩ (.inl ⟨by decide +kernel, rfl, rfl, rfl⟩)

theorem kPlus : FC 34 #[encl 2000000000 2000000000, encl 2000000000 2000000000] (.tuple #[encl 0 0, .int .i64 7]) := by
  intro w
  exact Plus_any 2000000000 2000000000 2000000000 2000000000 0 0 7 w ⟨by omega, by omega⟩ ⟨by omega, by omega⟩ ⟨by omega, by omega⟩ ⟨by omega, by omega⟩ (.inl ⟨by decide +kernel, rfl, rfl, rfl⟩)

abbrev FT (f : FuncId) (xs : Array Value) (v : Value) : Prop := Hid (∀ w, Tables w → Calls Tryd.prog f xs w fun e w' => e = .returned v ∧ Q w w')

theorem kReadS : FT 44 #[.string ⟨#[48, 48, 55, 46, 53, 48, 83]⟩] (.tuple #[.int .i64 (-7500000), .int .i64 0, .int .i64 0]) := by
  intro w T
  have h := Read_any ⟨#[48, 48, 55, 46, 53, 48, 83]⟩ w T (by decide)
  have e : readS (ByteArray.mk #[48, 48, 55, 46, 53, 48, 83]).data.toList = (-7500000, 0, 0) := by decide +kernel
  rw [e] at h
  exact h

theorem kReadN : FT 44 #[.string ⟨#[57, 48, 46, 48, 48, 48, 48, 48, 49, 78]⟩] (.tuple #[.int .i64 0, .int .i64 0, .int .i64 7]) := by
  intro w T
  have h := Read_any ⟨#[57, 48, 46, 48, 48, 48, 48, 48, 49, 78]⟩ w T (by decide)
  have e : readS (ByteArray.mk #[57, 48, 46, 48, 48, 48, 48, 48, 49, 78]).data.toList = (0, 0, 7) := by decide +kernel
  rw [e] at h
  exact h

theorem kRead5 : FT 44 #[.string ⟨#[53, 32, 78]⟩] (.tuple #[.int .i64 0, .int .i64 0, .int .i64 6]) := by
  intro w T
  have h := Read_any ⟨#[53, 32, 78]⟩ w T (by decide)
  have e : readS (ByteArray.mk #[53, 32, 78]).data.toList = (0, 0, 6) := by decide +kernel
  rw [e] at h
  exact h

theorem kWrite : FT 46 #[.int .i64 (-180000000), .int .i64 1] (.tuple #[.string ⟨#[49, 56, 48, 87]⟩, .int .i64 0]) := by
  intro w T
  have h := Write_any (-180000000) 1 w T (by omega)
  have e : writeS (-180000000) 1 = ([49, 56, 48, 87], 0) := by decide +kernel
  rw [e] at h
  exact h

end Go.Proofs.YtjbhnjnlpekpoaaDoor
