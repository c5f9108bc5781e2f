/-
  Plain laws of the square root: the greatest integer whose square is not above a number, and the least whose square is not below it.
-/
import Derived.Test.YtjbhnjnlpekpoaaDoorAngA
import Derived.Test.YtjbhnjnlpekpoaaDoorSqrtP
namespace Go.Proofs.YtjbhnjnlpekpoaaDoor
open Go.RowKit
set_option linter.unusedVariables false

def isRoot (n r : Int) : Prop := 0 ≤ r ∧ r * r ≤ n ∧ n < (r + 1) * (r + 1)
def isUp (n r : Int) : Prop := 0 ≤ r ∧ n ≤ r * r ∧ (r = 0 ∨ (r - 1) * (r - 1) < n)

theorem isq_mono {a b : Int} (ha : 0 ≤ a) (h : a ≤ b) : a * a ≤ b * b := Int.mul_le_mul h h ha (by omega)
theorem isq_lt {a b : Int} (ha : 0 ≤ a) (hb : 0 ≤ b) (h : a * a < b * b) : a < b := by
  rcases Int.lt_or_le a b with c | c
  · exact c
  · have := isq_mono hb c; omega
theorem isq_succ (r : Int) : (r + 1) * (r + 1) = r * r + 2 * r + 1 := by rw [Int.add_mul, Int.mul_add]; omega
theorem isq_pred (r : Int) : (r - 1) * (r - 1) = r * r - 2 * r + 1 := by rw [Int.sub_mul, Int.mul_sub]; omega

theorem isRoot_ex : ∀ n : Nat, ∃ r : Int, isRoot (n : Int) r
  | 0 => ⟨0, by unfold isRoot; decide⟩
  | n + 1 => by
    obtain ⟨r, h1, h2, h3⟩ := isRoot_ex n
    by_cases c : (r + 1) * (r + 1) ≤ (n : Int) + 1
    · refine ⟨r + 1, by omega, by omega, ?_⟩
      have e := isq_succ (r + 1)
      omega
    · exact ⟨r, h1, by omega, by omega⟩
theorem root_ex {n : Int} (h : 0 ≤ n) : ∃ r, isRoot n r := by
  obtain ⟨k, rfl⟩ := Int.eq_ofNat_of_zero_le h
  exact isRoot_ex k

theorem root_mono {n m r s : Int} (h : n ≤ m) (h1 : isRoot n r) (h2 : isRoot m s) : r ≤ s := by
  obtain ⟨a1, a2, a3⟩ := h1
  obtain ⟨b1, b2, b3⟩ := h2
  have := isq_lt (a := r) (b := s + 1) a1 (by omega) (by omega)
  omega
theorem root_uniq {n r s : Int} (h1 : isRoot n r) (h2 : isRoot n s) : r = s := by
  have := root_mono (Int.le_refl _) h1 h2
  have := root_mono (Int.le_refl _) h2 h1
  omega
theorem up_mono {n m r s : Int} (h : n ≤ m) (h1 : isUp n r) (h2 : isUp m s) : r ≤ s := by
  obtain ⟨a1, a2, a3⟩ := h1
  obtain ⟨b1, b2, b3⟩ := h2
  rcases a3 with rfl | a3
  · exact b1
  · rcases Int.lt_or_le r 1 with c | c
    · omega
    · have := isq_lt (a := r - 1) (b := s) (by omega) b1 (by omega)
      omega
theorem up_uniq {n r s : Int} (h1 : isUp n r) (h2 : isUp n s) : r = s := by
  have := up_mono (Int.le_refl _) h1 h2
  have := up_mono (Int.le_refl _) h2 h1
  omega
theorem root_le_up {n m r s : Int} (h : n ≤ m) (h1 : isRoot n r) (h2 : isUp m s) : r ≤ s := by
  obtain ⟨a1, a2, a3⟩ := h1
  obtain ⟨b1, b2, b3⟩ := h2
  rcases Int.lt_or_le s r with c | c
  · have := isq_mono b1 (show s ≤ r by omega)
    have e := isq_mono (show 0 ≤ s + 1 by omega) (show s + 1 ≤ r by omega)
    have e2 := isq_succ s
    omega
  · exact c
theorem root_up {n r : Int} (h : isRoot n r) : isUp n (if r * r < n then r + 1 else r) := by
  obtain ⟨a1, a2, a3⟩ := h
  split
  · rename_i c
    refine ⟨by omega, by omega, .inr ?_⟩
    rw [show r + 1 - 1 = r by omega]; exact c
  · rename_i c
    refine ⟨a1, by omega, ?_⟩
    rcases Int.lt_or_le 0 r with d | d
    · right
      have := isq_pred r
      omega
    · left; omega
theorem root_bd {n r : Int} (h : isRoot n r) (hn : n ≤ 300000000000000000) : 0 ≤ r ∧ r ≤ 547722558 ∧ r * r ≤ 300000000000000000 := by
  obtain ⟨a1, a2, a3⟩ := h
  refine ⟨a1, ?_, by omega⟩
  have := isq_lt (a := r) (b := 547722558) a1 (by omega) (by omega)
  omega
theorem up_bd {n r : Int} (h : isUp n r) (hn : n ≤ 300000000000000000) : 0 ≤ r ∧ r ≤ 547722558 := by
  obtain ⟨a1, a2, a3⟩ := h
  refine ⟨a1, ?_⟩
  rcases a3 with rfl | a3
  · omega
  · rcases Int.lt_or_le r 1 with c | c
    · omega
    · have := isq_lt (a := r - 1) (b := 547722558) (by omega) (by omega) (by omega)
      omega

/-- what Root returns -/
def rootBad (x y : Int) : Bool := wildB x y 3000000000 || decide (x < 0)
abbrev rootRes (x y A B er : Int) : Prop := (rootBad x y = true ∧ A = 0 ∧ B = 0 ∧ er = 7) ∨ (rootBad x y = false ∧ isRoot (x * 100000000) A ∧ isUp (y * 100000000) B ∧ er = 0)

theorem wild_ok {x y M : Int} : wildB x y M = false ↔ (x ≤ y ∧ -M ≤ x ∧ y ≤ M) := by
  unfold wildB
  simp only [Bool.or_eq_false_iff, decide_eq_false_iff_not]
  omega

theorem rootRes_ex (x y : Int) : ∃ A B er, rootRes x y A B er := by
  cases h : rootBad x y with
  | true => exact ⟨0, 0, 7, .inl ⟨h, rfl, rfl, rfl⟩⟩
  | false =>
    have h0 := h
    unfold rootBad at h0
    rw [Bool.or_eq_false_iff, wild_ok, decide_eq_false_iff_not] at h0
    obtain ⟨A, hA⟩ := root_ex (n := x * 100000000) (by omega)
    obtain ⟨C, hC⟩ := root_ex (n := y * 100000000) (by omega)
    exact ⟨A, _, 0, .inr ⟨h, hA, root_up hC, rfl⟩⟩

end Go.Proofs.YtjbhnjnlpekpoaaDoor
