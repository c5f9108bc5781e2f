/-
  For the rows: an array of two small numbers among the arguments.
-/
import Derived.Test.YtjbhnjnlpekpoaaDoorRowE
namespace Go.Proofs.YtjbhnjnlpekpoaaDoor
open Go.ChangeShapes Go.WideShapes Go.ChangeAt Go.RowKit Go.Joins
set_option linter.unusedVariables false

theorem cellsTwo : Tryd.prog.cellsOf 39 = 2 := by kernel_rfl
theorem cellsU8 : Tryd.prog.cellsOf 5 = 1 := by kernel_rfl

set_option maxRecDepth 100000 in
theorem open_two {H : Type} {enc : TypeId × Value → H} {w : World} {base : Nat} {spare : Nat → Bool} {held : Bool} {r : Reach} {b0 : Nat} {v : Value} {d : DataW H} {p : List MemPlace}
    (hv : Value.okWide Tryd.prog w r b0 39 v) (h : DataW.Trod enc Tryd.prog w base spare held 39 v d p) :
    ∃ x y : Int, v = .agg #[.int .u8 x, .int .u8 y] ∧ d = .agg [.lit (.int .u8 x), .lit (.int .u8 y)] ∧ p = [] ∧ (Lit.int .u8 x).wf = true ∧ (Lit.int .u8 y).wf = true := by
  simp only [Value.okWide, Tryd.underlying39] at hv
  obtain ⟨cs, rfl, h2, _⟩ := hv
  obtain ⟨c0, c1, rfl⟩ := array2 (h2.trans cellsTwo)
  obtain ⟨fuel, hf⟩ := h
  cases fuel with
  | zero => simp [DataW.trod] at hf
  | succ m =>
    rw [DataW.trod_step] at hf
    unfold DataW.trodStep at hf
    simp only [Tryd.underlying39, Value.cells] at hf
    rw [if_pos (by rw [cellsTwo]; rfl)] at hf
    simp only [Option.map_eq_some_iff] at hf
    obtain ⟨ys, hy, e1⟩ := hf
    rw [show List.range 2 = [0, 1] from rfl, cellsU8] at hy
    simp only [List.mapM_cons, List.mapM_nil, bind, Option.bind_eq_some_iff, pure, Option.some.injEq] at hy
    obtain ⟨y0, h0, _, ⟨y1, h1, _, rfl, rfl⟩, rfl⟩ := hy
    obtain ⟨a, e0, rfl, wa⟩ := DataW.trod_int Tryd.underlying5 h0
    obtain ⟨b, e2, rfl, wb⟩ := DataW.trod_int Tryd.underlying5 h1
    simp at e0 e2 e1
    subst e0 e2
    exact ⟨a, b, rfl, e1.1.symm, e1.2, wa, wb⟩

set_option maxRecDepth 100000 in
theorem shut_two {H : Type} {enc : TypeId × Value → H} {w : World} {base : Nat} {spare : Nat → Bool} {held : Bool} {x y : Int} (hx : (Lit.int .u8 x).wf = true) (hy : (Lit.int .u8 y).wf = true) :
    DataW.Trod enc Tryd.prog w base spare held 39 (.agg #[.int .u8 x, .int .u8 y]) (.agg [.lit (.int .u8 x), .lit (.int .u8 y)]) [] := by
  refine ⟨2, ?_⟩
  simp [DataW.trod, Tryd.underlying39, Tryd.underlying5, cellsTwo, cellsU8, Value.cells, hx, hy, show List.range 2 = [0, 1] from rfl]

end Go.Proofs.YtjbhnjnlpekpoaaDoor
