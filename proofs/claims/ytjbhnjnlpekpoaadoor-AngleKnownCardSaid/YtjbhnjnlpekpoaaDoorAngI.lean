/-
  The helpers of the statement AngleCircle: meet, sum, square, product.
-/
import Derived.Test.YtjbhnjnlpekpoaaDoorAngH
import Derived.WalkLawsBesides
namespace Go.Proofs.YtjbhnjnlpekpoaaDoor
open Go.RowKit Go.Sort
set_option linter.unusedVariables false

theorem Q.drewN {a w : World} (h : Q a w) (n : Nat) : Q a (w.drewN n) := ⟨⟨h.below.os, h.below.tape, h.below.output, h.below.size, h.below.block⟩, Nat.le_trans h.drawn (Nat.le_add_right _ _)⟩

abbrev pair (x y : Int) : Value := .agg #[.int .i64 x, .int .i64 y]

def prLo (a b c d : Int) : Int := min (min (min (a * c) (a * d)) (b * c)) (b * d)
def prHi (a b c d : Int) : Int := max (max (max (a * c) (a * d)) (b * c)) (b * d)

/-- bounds of ends of enclosures of sines -/
def Small (x : Int) : Prop := -200000000 ≤ x ∧ x ≤ 200000000

theorem mul_small {x y : Int} (hx : Small x) (hy : Small y) : -40000000000000000 ≤ x * y ∧ x * y ≤ 40000000000000000 := by
  unfold Small at *
  have h1 : x.natAbs * y.natAbs ≤ 200000000 * 200000000 := Nat.mul_le_mul (by omega) (by omega)
  rw [← Int.natAbs_mul] at h1
  omega

theorem wrap_small {x y : Int} (hx : Small x) (hy : Small y) : wrap64 (x * y) = x * y ∧ IntKind.i64.wrap (x * y) = x * y := by
  have := mul_small hx hy
  exact ⟨IntWalk.wrap64_in _ (by omega), IntWalk.i64_in _ (by omega)⟩

theorem if_min (x y : Int) : (if y < x then y else x) = min x y := by split <;> omega
theorem if_max (x y : Int) : (if x < y then y else x) = max x y := by split <;> omega
theorem if_max' (x y : Int) : (if y > x then y else x) = max x y := by split <;> omega

theorem run_min4 (ts : Array TypeId) (t : TypeId) (p q r s : Int) (w : World) : (Builtin.min_ ts t #[.int .i64 p, .int .i64 q, .int .i64 r, .int .i64 s]).run Tryd.prog w = .ok (.int .i64 (min (min (min p q) r) s)) w := by
  rw [← if_min p q, ← if_min _ r, ← if_min _ s]
  simp [Builtin.min_, Builtin.min2]

theorem run_max4 (ts : Array TypeId) (t : TypeId) (p q r s : Int) (w : World) : (Builtin.max_ ts t #[.int .i64 p, .int .i64 q, .int .i64 r, .int .i64 s]).run Tryd.prog w = .ok (.int .i64 (max (max (max p q) r) s)) w := by
  rw [← if_max p q, ← if_max _ r, ← if_max _ s]
  simp [Builtin.max_, Builtin.max2]

set_option maxRecDepth 100000 in
theorem product_any (a b c d : Int) (w : World) (ha : Small a) (hb : Small b) (hc : Small c) (hd : Small d) :
    Calls Tryd.prog 21 #[pair a b, pair c d] w fun e w' => e = .returned (pair (prLo a b c d) (prHi a b c d)) ∧ Q w w' := by
  obtain ⟨e1, f1⟩ := wrap_small ha hc
  obtain ⟨e2, f2⟩ := wrap_small ha hd
  obtain ⟨e3, f3⟩ := wrap_small hb hc
  obtain ⟨e4, f4⟩ := wrap_small hb hd
  clear ha hb hc hd
  generalize hp : a * c = p at *
  generalize hq : a * d = q at *
  generalize hr : b * c = r at *
  generalize hs : b * d = s at *
  have HP := Lib.hid hp
  have HQ := Lib.hid hq
  have HR := Lib.hid hr
  have HS := Lib.hid hs
  have m4 := run_min4
  have x4 := run_max4
  go_enter Tryd.func21, Tryd.ntmps21
  go_wp2_with fail
  go_quiet (fail)
  clear hp hq hr hs
  go_wp2_with fail
  have e : prLo a b c d = min (min (min p q) r) s ∧ prHi a b c d = max (max (max p q) r) s := by
    unfold prLo prHi
    rw [HP.out, HQ.out, HR.out, HS.out]
    exact ⟨rfl, rfl⟩
  exact bodyPost_ret (v := pair (min (min (min p q) r) s) (max (max (max p q) r) s)) (by simp [results, Tryd.results21, go_sem]) rfl ⟨by rw [e.1, e.2], by repeat (first | exact Q.refl _ | assumption | (refine Q.drewN ?_ _) | apply Q.alloc | (refine Q.setCell ?_ (by simp; try omega) _))⟩

theorem sum_any (a b c d : Int) (w : World) (ha : -1000000000000000000 ≤ a ∧ a ≤ 1000000000000000000) (hb : -1000000000000000000 ≤ b ∧ b ≤ 1000000000000000000) (hc : -1000000000000000000 ≤ c ∧ c ≤ 1000000000000000000) (hd : -1000000000000000000 ≤ d ∧ d ≤ 1000000000000000000) :
    Calls Tryd.prog 19 #[pair a b, pair c d] w fun e w' => e = .returned (pair (a + c) (b + d)) ∧ Q w w' := by
  go_enter Tryd.func19, Tryd.ntmps19
  go_wp2_with fail
  exact bodyPost_ret (v := pair (a + c) (b + d)) (by simp [results, Tryd.results19, go_sem]) rfl ⟨rfl, by repeat (first | exact Q.refl _ | assumption | apply Q.alloc | (refine Q.setCell ?_ (by simp; try omega) _))⟩

def meetB (a b c d : Int) : Bool := decide (a ≤ d) && decide (c ≤ b)

theorem meet_any (a b c d : Int) (w : World) :
    Calls Tryd.prog 18 #[pair a b, pair c d] w fun e w' => e = .returned (.bool (meetB a b c d)) ∧ Q w w' := by
  by_cases h1 : a ≤ d
  · by_cases h2 : c ≤ b
    · have hm : meetB a b c d = true := by simp [meetB, h1, h2]
      rw [hm]
      go_enter Tryd.func18, Tryd.ntmps18
      go_wp2_with fail
      go_ret
      exact ⟨rfl, by repeat (first | exact Q.refl _ | apply Q.alloc)⟩
    · have hm : meetB a b c d = false := by simp [meetB, h2]
      rw [hm]
      go_enter Tryd.func18, Tryd.ntmps18
      go_wp2_with fail
      go_ret
      exact ⟨by simp, by repeat (first | exact Q.refl _ | apply Q.alloc)⟩
  · have hm : meetB a b c d = false := by simp [meetB, h1]
    rw [hm]
    go_enter Tryd.func18, Tryd.ntmps18
    go_wp2_with fail
    go_ret
    exact ⟨rfl, by repeat (first | exact Q.refl _ | apply Q.alloc)⟩

/-- the ends of a square -/
def sqLo (a b : Int) : Int := if a ≤ 0 ∧ 0 ≤ b then 0 else min (a * a) (b * b)
def sqHi (a b : Int) : Int := if a ≤ 0 ∧ 0 ≤ b then prHi a b a b else max (a * a) (b * b)

set_option maxRecDepth 100000 in
theorem square_yes (a b : Int) (w : World) (ha : Small a) (hb : Small b) (h1 : a ≤ 0) (h2 : 0 ≤ b) :
    Calls Tryd.prog 20 #[pair a b] w fun e w' => e = .returned (pair 0 (prHi a b a b)) ∧ Q w w' := by
  have hp := fun w => product_any a b a b w ha hb ha hb
  generalize prLo a b a b = l at *
  generalize prHi a b a b = h at *
  have HP := Lib.hid hp
  clear hp
  go_enter Tryd.func20, Tryd.ntmps20
  go_wp2_with fail
  refine (HP.out _).mono ?_
  rintro e w1 ⟨rfl, Q1⟩
  have k0 : w1.cell? ⟨w.heap.size, 0, none⟩ = some (.int .i64 a) := by rw [Q1.cell _ (by simp; omega)]; simp [go_sem]
  have k1 : w1.cell? ⟨w.heap.size, 1, none⟩ = some (.int .i64 b) := by rw [Q1.cell _ (by simp; omega)]; simp [go_sem]
  have z1 : w.heap.size + 1 < w1.heap.size := by have := Q1.size; simp at this; omega
  have z0 : w.heap.size < w1.heap.size := by omega
  obtain ⟨o1, o2, o3⟩ := Q1.old
  have Q2 := Q.trans (((Q.refl w).alloc _).alloc _) Q1
  clear Q1
  go_wp2_with fail
  exact bodyPost_ret (v := pair 0 h) (by simp [results, Tryd.results20, go_sem, o1, z1]) rfl ⟨rfl, by repeat (first | assumption | apply Q.alloc | (refine Q.setCell ?_ (by simp; try omega) _))⟩

set_option maxRecDepth 100000 in
theorem square_no (a b : Int) (w : World) (ha : Small a) (hb : Small b) (h1 : ¬ (a ≤ 0 ∧ 0 ≤ b)) :
    Calls Tryd.prog 20 #[pair a b] w fun e w' => e = .returned (pair (min (a * a) (b * b)) (max (a * a) (b * b))) ∧ Q w w' := by
  have hp := fun w => product_any a b a b w ha hb ha hb
  generalize prLo a b a b = l at *
  generalize prHi a b a b = h at *
  have HP := Lib.hid hp
  clear hp
  obtain ⟨e1, f1⟩ := wrap_small ha ha
  obtain ⟨e2, f2⟩ := wrap_small hb hb
  have b1 := mul_small ha ha
  have b2 := mul_small hb hb
  by_cases ha0 : a ≤ 0
  all_goals
    first
      | (have hb0 : b < 0 := by omega)
      | skip
    go_enter Tryd.func20, Tryd.ntmps20
    go_wp2_with fail
    refine (HP.out _).mono ?_
    rintro e w1 ⟨rfl, Q1⟩
    have k0 : w1.cell? ⟨w.heap.size, 0, none⟩ = some (.int .i64 a) := by rw [Q1.cell _ (by simp; omega)]; simp [go_sem]
    have k1 : w1.cell? ⟨w.heap.size, 1, none⟩ = some (.int .i64 b) := by rw [Q1.cell _ (by simp; omega)]; simp [go_sem]
    have z1 : w.heap.size + 1 < w1.heap.size := by have := Q1.size; simp at this; omega
    have z0 : w.heap.size < w1.heap.size := by omega
    obtain ⟨o1, o2, o3⟩ := Q1.old
    have Q2 := Q.trans (((Q.refl w).alloc _).alloc _) Q1
    clear Q1
    go_wp2_with fail
    exact bodyPost_ret (v := pair (min (a * a) (b * b)) (max (a * a) (b * b))) (by simp [results, Tryd.results20, go_sem, o1, z1]) rfl ⟨rfl, by repeat (first | assumption | apply Q.alloc | (refine Q.setCell ?_ (by simp; try omega) _))⟩

theorem square_any (a b : Int) (w : World) (ha : Small a) (hb : Small b) :
    Calls Tryd.prog 20 #[pair a b] w fun e w' => e = .returned (pair (sqLo a b) (sqHi a b)) ∧ Q w w' := by
  unfold sqLo sqHi
  by_cases h : a ≤ 0 ∧ 0 ≤ b
  · rw [if_pos h, if_pos h]; exact square_yes a b w ha hb h.1 h.2
  · rw [if_neg h, if_neg h]; exact square_no a b w ha hb h

end Go.Proofs.YtjbhnjnlpekpoaaDoor
