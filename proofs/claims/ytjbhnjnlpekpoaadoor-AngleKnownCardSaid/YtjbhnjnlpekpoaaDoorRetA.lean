/-
  A result that lies in the first block.
-/
import Derived.Test.YtjbhnjnlpekpoaaDoorCircW
namespace Go.Proofs.YtjbhnjnlpekpoaaDoor
open Go.RowKit Go.Sort
set_option linter.unusedVariables false

theorem ret_first {w W : World} (H : Has W w.heap.size 0 0) (QC : Q w W) (x y : Int) : ∃ V, V = (W.setCell ⟨w.heap.size, 0, none⟩ (.int .i64 x)).setCell ⟨w.heap.size, 1, none⟩ (.int .i64 y) ∧ Has V w.heap.size x y ∧ Q w V :=
  ⟨_, rfl, H.store x y, (QC.setCell (p := ⟨w.heap.size, 0, none⟩) (Nat.le_refl _) _).setCell (p := ⟨w.heap.size, 1, none⟩) (Nat.le_refl _) _⟩

end Go.Proofs.YtjbhnjnlpekpoaaDoor
