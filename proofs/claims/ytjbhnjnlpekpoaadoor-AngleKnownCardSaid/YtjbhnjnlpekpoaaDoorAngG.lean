/-
  Write of package angle at the call that Awake makes; Awake returns true.
-/
import Derived.Test.YtjbhnjnlpekpoaaDoorAngF
import Derived.Laws.Rows
namespace Go.Proofs.YtjbhnjnlpekpoaaDoor
open Go.RowKit Go.Sort
set_option linter.unusedVariables false

/-- the cells of the table 'letters' -/
def letterCells : Array Value := #[.string ⟨#[78]⟩, .int .i64 0, .int .i64 1, .int .i64 90, .string ⟨#[83]⟩, .int .i64 0, .int .i64 (-1), .int .i64 90, .string ⟨#[69]⟩, .int .i64 1, .int .i64 1, .int .i64 180, .string ⟨#[87]⟩, .int .i64 1, .int .i64 (-1), .int .i64 180]

/-- what the package-level variables that are read hold -/
structure Tables (w : World) : Prop where
  letters : w.var? Tryd.prog "linkboy/angle.letters" = some letterCells
  pow10 : Lib.TabIs Tryd.prog w "internal/strconv.uint64pow10" .u64 Lib.pow10Tab

theorem var_mono {w w' : World} (q : Q w w') {n : String} {cs : Array Value} (h : w.var? Tryd.prog n = some cs) : w'.var? Tryd.prog n = some cs := by
  unfold World.var? at *
  cases hg : Tryd.prog.globalNamed n with
  | none => rw [hg] at h; cases h
  | some g =>
    rw [hg] at h
    simp only [Option.bind_some] at h ⊢
    have hlt : g < w.heap.size := by
      rcases Nat.lt_or_ge g w.heap.size with k | k
      · exact k
      · rw [Array.getElem?_eq_none k] at h; cases h
    rw [q.below.block g hlt]
    exact h

theorem Tables.mono {w w' : World} (T : Tables w) (q : Q w w') : Tables w' := ⟨var_mono q T.letters, var_mono q T.pow10⟩

theorem Tables.block {w : World} (T : Tables w) : ∃ t fr, w.heap[0]? = some (.cells letterCells t fr) := by
  have h := T.letters
  unfold World.var? at h
  rw [show Tryd.prog.globalNamed "linkboy/angle.letters" = some 0 by kernel_rfl] at h
  simp only [Option.bind_some] at h
  split at h
  · rename_i cs t fr hb
    cases h
    exact ⟨t, fr, hb⟩
  · cases h

theorem lettersSize : (Tryd.prog.info? 79).map (·.size) = some letterCells.size := by kernel_rfl
theorem letter0 (w : World) : (Instr.index 79 (.agg letterCells) (.int .i64 0)).run Tryd.prog w = .ok (.agg #[.string ⟨#[78]⟩, .int .i64 0, .int .i64 1, .int .i64 90]) w := by kernel_rfl

set_option maxRecDepth 100000 in
set_option maxHeartbeats 400000 in
theorem Write_known (w : World) (T : Tables w) :
    Calls Tryd.prog 46 #[.int .i64 51507400, .int .i64 0] w fun e w' => e = .returned (.tuple #[.string ⟨#[53, 49, 46, 53, 48, 55, 52, 78]⟩, .int .i64 0]) ∧ Q w w' := by
  obtain ⟨t, fr, hb⟩ := T.block
  have T1 : Tables (w.alloc (.cells #[.string ⟨#[78]⟩, .int .i64 0, .int .i64 1, .int .i64 90] 78)) := T.mono ((Q.refl w).alloc _)
  have Q1 : Q w (w.alloc (.cells #[.string ⟨#[78]⟩, .int .i64 0, .int .i64 1, .int .i64 90] 78)) := (Q.refl w).alloc _
  have hix := letter0
  have hmx : max (51507400 : Int) (-51507400) = 51507400 := by decide
  go_enter Tryd.func46, Tryd.ntmps46
  go_wp2_with (with_reducible refine wpList_load_row rfl 79 _ rfl 0 rfl t letterCells fr _ hb Tryd.underlying79 rfl lettersSize ?_)
  refine wp_loop_rounds 1 ?_
  rw [rounds_succ]
  go_wp2_with fail
  refine (Tryd.strconv_Itoa_small 51 (by omega) _).mono ?_
  rintro e w1 ⟨rfl, rfl⟩
  have e51 : Lib.decDigits 51 = [53, 49] := by decide +kernel
  rw [e51]
  go_wp2_with fail
  refine (Tryd.strconv_Itoa 1507400 (by omega) (by omega) _ T1.pow10).mono ?_
  rintro e w2 ⟨rfl, q, os, rfl⟩
  have ei : Lib.itoa 1507400 = [49, 53, 48, 55, 52, 48, 48] := by decide +kernel
  rw [ei]
  have Q2 := Q1.trans (Q.of_grow _ q os)
  have kN : (grow ((w.alloc (.cells #[.string ⟨#[78]⟩, .int .i64 0, .int .i64 1, .int .i64 90] 78)).drewN q) os).cell? ⟨w.heap.size, 0, none⟩ = some (.string ⟨#[78]⟩) := by
    rw [(Q.of_grow _ q os).cell _ (by simp)]; simp [go_sem]
  generalize grow ((w.alloc (.cells #[.string ⟨#[78]⟩, .int .i64 0, .int .i64 1, .int .i64 90] 78)).drewN q) os = w3 at *
  go_wp2_with fail
  refine (Tryd.strings_TrimRight_one _ 48 (by decide) _ (by decide +kernel)).mono ?_
  rintro e w4 ⟨rfl, rfl⟩
  have et : Lib.trimRightB ({ data := #[49, 53, 48, 55, 52, 48, 48] : ByteArray }.extract 1 7).data.toList 48 = [53, 48, 55, 52] := by decide +kernel
  rw [et]
  go_wp2_with fail
  go_ret2
  exact ⟨rfl, Q2⟩

end Go.Proofs.YtjbhnjnlpekpoaaDoor
