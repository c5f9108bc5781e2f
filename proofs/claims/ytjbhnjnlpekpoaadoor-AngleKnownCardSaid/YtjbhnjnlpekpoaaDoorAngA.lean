/-
  Small functions of package angle: what each call returns, and that it lays new blocks alone.
-/
import Derived.Test.YtjbhnjnlpekpoaaDoorProg
import Derived.WalkKit
import Derived.Below
import Derived.OneCell
import Derived.Lib.Hide
import Derived.Deep.QuietTactic
import Derived.BigQuiet
import Derived.RegionTactic
import Derived.Laws.Externs
import Derived.Shelf.Spec.BitsCarry
import Derived.Test.YtjbhnjnlpekpoaaDoorShelf
namespace Go.Proofs.YtjbhnjnlpekpoaaDoor
open Go.RowKit
set_option linter.unusedVariables false

/-- New blocks and draws alone. -/
structure Q (w w' : World) : Prop where
  below : Below w.heap.size w w'
  drawn : w.drawn ≤ w'.drawn

theorem Q.refl (w : World) : Q w w := ⟨Below.refl _ _, Nat.le_refl _⟩
theorem Q.trans {a b c : World} (h : Q a b) (k : Q b c) : Q a c := ⟨h.below.trans (k.below.mono h.below.size), Nat.le_trans h.drawn k.drawn⟩
theorem Q.alloc {a w : World} (h : Q a w) (o : Obj) : Q a (w.alloc o) := ⟨h.below.alloc h.below.size o, h.drawn⟩
theorem Q.drew {a w : World} (h : Q a w) : Q a w.drew := ⟨h.below.drew, Nat.le_succ_of_le h.drawn⟩
theorem Q.setCell {a w : World} (h : Q a w) {p : Addr} (hp : a.heap.size ≤ p.block) (u : Value) : Q a (w.setCell p u) := ⟨h.below.setCell hp u, h.drawn⟩
theorem Q.size {a b : World} (h : Q a b) : a.heap.size ≤ b.heap.size := h.below.size
theorem Q.cell {a b : World} (h : Q a b) (p : Addr) (hp : p.block < a.heap.size) : b.cell? p = a.cell? p := h.below.cell hp
theorem Q.frozen {a b : World} (h : Q a b) (p : Addr) (hp : p.block < a.heap.size) : b.frozen? p = a.frozen? p := h.below.frozen hp

/-- what was there reads as before: two rules for the walk -/
theorem Q.old {W w1 : World} (h : Q W w1) : (∀ b o, b < W.heap.size → w1.cell? ⟨b, o, none⟩ = W.cell? ⟨b, o, none⟩) ∧ (∀ b o, b < W.heap.size → w1.frozen? ⟨b, o, none⟩ = W.frozen? ⟨b, o, none⟩) ∧ W.heap.size ≤ w1.heap.size :=
  ⟨fun b o k => h.cell ⟨b, o, none⟩ k, fun b o k => h.frozen ⟨b, o, none⟩ k, h.size⟩

def wildB (lo hi most : Int) : Bool := decide (hi < lo) || decide (lo < -most) || decide (most < hi)

theorem wild_any (lo hi most : Int) (w : World) (h1 : -9223372036854775808 ≤ lo ∧ lo ≤ 9223372036854775807) (h2 : -9223372036854775808 ≤ hi ∧ hi ≤ 9223372036854775807) (h3 : 0 ≤ most ∧ most ≤ 9223372036854775807) :
    Calls Tryd.prog 49 #[.agg #[.int .i64 lo, .int .i64 hi], .int .i64 most] w fun e w' => e = .returned (.bool (wildB lo hi most)) ∧ Q w w' := by
  go_enter Tryd.func49, Tryd.ntmps49
  go_wp2
  all_goals
    go_ret
    exact ⟨by simp [wildB, *], (Q.refl _).alloc _⟩

theorem opposite_any (lo hi : Int) (w : World) (h1 : -9223372036854775807 ≤ lo ∧ lo ≤ 9223372036854775807) (h2 : -9223372036854775807 ≤ hi ∧ hi ≤ 9223372036854775807) :
    Calls Tryd.prog 81 #[.agg #[.int .i64 lo, .int .i64 hi]] w fun e w' => e = .returned (.agg #[.int .i64 (-hi), .int .i64 (-lo)]) ∧ Q w w' := by
  go_enter Tryd.func81, Tryd.ntmps81
  go_wp2
  exact bodyPost_ret (v := .agg #[.int .i64 (-hi), .int .i64 (-lo)]) (by simp [results, Tryd.results81, go_sem]) rfl ⟨rfl, by repeat (first | exact Q.refl _ | assumption | apply Q.alloc | (refine Q.setCell ?_ (by simp) _))⟩

def U64 : Nat := 18446744073709551616

theorem mul64_any (x y : Nat) (hx : x < U64) (hy : y < U64) (w : World) :
    Calls Tryd.prog 121 #[.int .u64 x, .int .u64 y] w fun e w' => ∃ h l : Nat, e = .returned (.tuple #[.int .u64 h, .int .u64 l]) ∧ w' = w ∧ Hid (h < U64 ∧ l < U64 ∧ h * U64 + l = x * y) := by
  unfold U64 at *
  refine (Tryd.bits_Mul64 x y hx hy w).mono ?_
  rintro e w' ⟨rfl, rfl⟩
  refine ⟨_, _, rfl, rfl, ?_, Nat.mod_lt _ (by omega), ?_⟩
  · have h1 : x * y < 18446744073709551616 * 18446744073709551616 := Nat.mul_lt_mul'' hx hy
    exact Nat.div_lt_of_lt_mul h1
  · have := Nat.div_add_mod (x * y) 18446744073709551616
    omega

theorem add64_run (x y c : Nat) (ci : Int) (hci : ci = (c : Int)) (hx : x < U64) (hy : y < U64) (hc : c ≤ 1) : ∃ s k : Nat, (∀ w : World, (callFunc 122 #[.int .u64 x, .int .u64 y, .int .u64 ci]).run Tryd.prog w = .ok (.value (.tuple #[.int .u64 s, .int .u64 k])) w) ∧ k ≤ 1 ∧ Hid (s < U64 ∧ k * U64 + s = x + y + c) := by
  subst hci
  unfold U64 at *
  refine ⟨(x + y + c) % 18446744073709551616, (x + y + c) / 18446744073709551616, fun w => ?_, by omega, by unfold Hid; omega⟩
  rw [run_callFunc_extern Tryd.func122 (by kernel_rfl) (by kernel_rfl) (by kernel_rfl) (e := add64Entry) (by kernel_rfl), run_add64 x y c (by omega) (by omega) (by omega) (by omega)]
  simp only [Result.andThen]
  congr 5 <;> omega

theorem sub64_run (x y b : Nat) (ci : Int) (hci : ci = (b : Int)) (hx : x < U64) (hy : y < U64) (hb : b ≤ 1) : ∃ s k : Nat, (∀ w : World, (callFunc 124 #[.int .u64 x, .int .u64 y, .int .u64 ci]).run Tryd.prog w = .ok (.value (.tuple #[.int .u64 s, .int .u64 k])) w) ∧ k ≤ 1 ∧ Hid (s < U64 ∧ x + k * U64 = s + y + b) := by
  subst hci
  unfold U64 at *
  refine ⟨(x + 18446744073709551616 - y - b) % 18446744073709551616, if x < y + b then 1 else 0, fun w => ?_, by split <;> omega, by unfold Hid; split <;> omega⟩
  rw [run_callFunc_extern Tryd.func124 (by kernel_rfl) (by kernel_rfl) (by kernel_rfl) (e := sub64Entry) (by kernel_rfl), run_sub64 x y b hb]
  rfl

end Go.Proofs.YtjbhnjnlpekpoaaDoor
