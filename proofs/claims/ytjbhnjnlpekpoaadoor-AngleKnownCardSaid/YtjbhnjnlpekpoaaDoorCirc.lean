/-
  The theorem of the circle, in whole numbers: what the statement AngleCircle compares.
-/
import Derived.Test.YtjbhnjnlpekpoaaDoorAngI
import Derived.Test.YtjbhnjnlpekpoaaDoorTrigC
namespace Go.Proofs.YtjbhnjnlpekpoaaDoor
open Trig
attribute [local irreducible] SN CN sineLo sineHi ez ep

theorem lin {a b x y m : Rat} (h1 : a ≤ x) (h2 : x ≤ b) (ha : m ≤ a * y) (hb : m ≤ b * y) : m ≤ x * y := by
  by_cases hy : 0 ≤ y
  · have := Rat.mul_nonneg (show 0 ≤ x - a by grind) hy; grind
  · have := Rat.mul_nonneg (show 0 ≤ b - x by grind) (show 0 ≤ -y by grind); grind

theorem lin_up {a b x y m : Rat} (h1 : a ≤ x) (h2 : x ≤ b) (ha : a * y ≤ m) (hb : b * y ≤ m) : x * y ≤ m := by
  by_cases hy : 0 ≤ y
  · have := Rat.mul_nonneg (show 0 ≤ b - x by grind) hy; grind
  · have := Rat.mul_nonneg (show 0 ≤ x - a by grind) (show 0 ≤ -y by grind); grind

theorem box {a b c d x y m : Rat} (h1 : a ≤ x) (h2 : x ≤ b) (h3 : c ≤ y) (h4 : y ≤ d) (k1 : m ≤ a * c) (k2 : m ≤ a * d) (k3 : m ≤ b * c) (k4 : m ≤ b * d) : m ≤ x * y := by
  have e1 : m ≤ y * a := lin h3 h4 (by grind) (by grind)
  have e2 : m ≤ y * b := lin h3 h4 (by grind) (by grind)
  exact lin h1 h2 (by grind) (by grind)

theorem box_up {a b c d x y m : Rat} (h1 : a ≤ x) (h2 : x ≤ b) (h3 : c ≤ y) (h4 : y ≤ d) (k1 : a * c ≤ m) (k2 : a * d ≤ m) (k3 : b * c ≤ m) (k4 : b * d ≤ m) : x * y ≤ m := by
  have e1 : y * a ≤ m := lin_up h3 h4 (by grind) (by grind)
  have e2 : y * b ≤ m := lin_up h3 h4 (by grind) (by grind)
  exact lin_up h1 h2 (by grind) (by grind)

/-- X lies between the whole numbers l and h, but for so much -/
def Enc (l h : Int) (X : Rat) : Prop := l ≤ h ∧ (l : Rat) - 2 * ez ≤ X ∧ X ≤ (h : Rat) + 2 * ez ∧ -200000000 ≤ (l : Rat) ∧ (h : Rat) ≤ 200000000

theorem Enc.clamp {l h : Int} {X : Rat} (E : Enc l h X) : ∃ x : Rat, (l : Rat) ≤ x ∧ x ≤ (h : Rat) ∧ Near X x (2 * ez) := by
  obtain ⟨h0, h1, h2, h3, h4⟩ := E
  have hlh : (l : Rat) ≤ (h : Rat) := Rat.intCast_le_intCast.2 h0
  have he := eps_bd.2.2.2.2.2
  unfold Near
  by_cases c1 : X ≤ (l : Rat)
  · exact ⟨l, by grind, hlh, by grind, by grind⟩
  · by_cases c2 : X ≤ (h : Rat)
    · exact ⟨X, by grind, c2, by grind, by grind⟩
    · exact ⟨h, hlh, by grind, by grind, by grind⟩

theorem cast_le {a b : Int} (h : a ≤ b) : (a : Rat) ≤ (b : Rat) := Rat.intCast_le_intCast.2 h

def tau : Rat := 1000000000 * ez

theorem near_mul {X Y x y : Rat} (hX : Near X x (2 * ez)) (hY : Near Y y (2 * ez)) (hx : -200000000 ≤ x ∧ x ≤ 200000000) (hy : -200000000 ≤ y ∧ y ≤ 200000000) : Near (X * Y) (x * y) tau := by
  have he := eps_bd.2.2.2.2.2
  have hs : 2 * ez ≤ 1 := by unfold ez; decide +kernel
  have a1 := mul_near hY hx
  have hY' : -200000001 ≤ Y ∧ Y ≤ 200000001 := by unfold Near at hY; grind
  have a2 := mul_near hX hY'
  unfold Near tau at *
  grind

theorem prod_encl {a b c d : Int} {X Y : Rat} (hX : Enc a b X) (hY : Enc c d Y) : (prLo a b c d : Rat) - tau ≤ X * Y ∧ X * Y ≤ (prHi a b c d : Rat) + tau := by
  obtain ⟨x, x1, x2, xn⟩ := hX.clamp
  obtain ⟨y, y1, y2, yn⟩ := hY.clamp
  have n := near_mul xn yn (by have := hX.2.2.2; grind) (by have := hY.2.2.2; grind)
  have l1 : prLo a b c d ≤ a * c ∧ prLo a b c d ≤ a * d ∧ prLo a b c d ≤ b * c ∧ prLo a b c d ≤ b * d := by unfold prLo; omega
  have u1 : a * c ≤ prHi a b c d ∧ a * d ≤ prHi a b c d ∧ b * c ≤ prHi a b c d ∧ b * d ≤ prHi a b c d := by unfold prHi; omega
  have L := box x1 x2 y1 y2 (m := (prLo a b c d : Rat)) (by rw [← Rat.intCast_mul]; exact cast_le l1.1) (by rw [← Rat.intCast_mul]; exact cast_le l1.2.1) (by rw [← Rat.intCast_mul]; exact cast_le l1.2.2.1) (by rw [← Rat.intCast_mul]; exact cast_le l1.2.2.2)
  have U := box_up x1 x2 y1 y2 (m := (prHi a b c d : Rat)) (by rw [← Rat.intCast_mul]; exact cast_le u1.1) (by rw [← Rat.intCast_mul]; exact cast_le u1.2.1) (by rw [← Rat.intCast_mul]; exact cast_le u1.2.2.1) (by rw [← Rat.intCast_mul]; exact cast_le u1.2.2.2)
  unfold Near at n
  constructor <;> grind

theorem sq_encl {a b : Int} {X : Rat} (hX : Enc a b X) : (sqLo a b : Rat) - tau ≤ X * X ∧ X * X ≤ (sqHi a b : Rat) + tau := by
  have P := prod_encl hX hX
  have ht : 0 ≤ tau := by unfold tau ez; decide +kernel
  unfold sqLo sqHi
  by_cases h : a ≤ 0 ∧ 0 ≤ b
  · rw [if_pos h, if_pos h]
    have := sq_nonneg X
    have c : ((0 : Int) : Rat) = 0 := rfl
    rw [c]
    exact ⟨by grind, P.2⟩
  · rw [if_neg h, if_neg h]
    obtain ⟨x, x1, x2, xn⟩ := hX.clamp
    have hab := hX.1
    have n := near_mul xn xn (by have := hX.2.2.2; grind) (by have := hX.2.2.2; grind)
    have aa : ((a * a : Int) : Rat) = (a : Rat) * (a : Rat) := Rat.intCast_mul a a
    have bb : ((b * b : Int) : Rat) = (b : Rat) * (b : Rat) := Rat.intCast_mul b b
    have m1 : ((min (a * a) (b * b) : Int) : Rat) ≤ (a : Rat) * (a : Rat) := by rw [← aa]; exact cast_le (Int.min_le_left _ _)
    have m2 : ((min (a * a) (b * b) : Int) : Rat) ≤ (b : Rat) * (b : Rat) := by rw [← bb]; exact cast_le (Int.min_le_right _ _)
    have m3 : (a : Rat) * (a : Rat) ≤ ((max (a * a) (b * b) : Int) : Rat) := by rw [← aa]; exact cast_le (Int.le_max_left _ _)
    have m4 : (b : Rat) * (b : Rat) ≤ ((max (a * a) (b * b) : Int) : Rat) := by rw [← bb]; exact cast_le (Int.le_max_right _ _)
    have key : (a : Rat) * (a : Rat) ≤ x * x ∧ x * x ≤ (b : Rat) * (b : Rat) ∨ (b : Rat) * (b : Rat) ≤ x * x ∧ x * x ≤ (a : Rat) * (a : Rat) := by
      by_cases ha : 0 ≤ a
      · have ha' : (0 : Rat) ≤ (a : Rat) := cast_le ha
        left
        have k1 := Rat.mul_nonneg (show 0 ≤ x - (a : Rat) by grind) (show 0 ≤ x + (a : Rat) by grind)
        have k2 := Rat.mul_nonneg (show 0 ≤ (b : Rat) - x by grind) (show 0 ≤ (b : Rat) + x by grind)
        constructor <;> grind
      · have hb : b ≤ 0 := by omega
        have hb' : (b : Rat) ≤ 0 := cast_le hb
        right
        have k1 := Rat.mul_nonneg (show 0 ≤ -x + (b : Rat) by grind) (show 0 ≤ -x - (b : Rat) by grind)
        have k2 := Rat.mul_nonneg (show 0 ≤ x - (a : Rat) by grind) (show 0 ≤ -(a : Rat) - x by grind)
        constructor <;> grind
    generalize ((min (a * a) (b * b) : Int) : Rat) = mn at *
    generalize ((max (a * a) (b * b) : Int) : Rat) = mx at *
    unfold Near at n
    rcases key with k | k
    · constructor <;> grind
    · constructor <;> grind

/-- the least step between whole numbers -/
theorem int_le {p q : Int} (h : (p : Rat) < (q : Rat) + 1) : p ≤ q := by
  have : ((p : Int) : Rat) < ((q + 1 : Int) : Rat) := by rw [Rat.intCast_add]; exact h
  have := Rat.intCast_lt_intCast.1 this
  omega

end Go.Proofs.YtjbhnjnlpekpoaaDoor
