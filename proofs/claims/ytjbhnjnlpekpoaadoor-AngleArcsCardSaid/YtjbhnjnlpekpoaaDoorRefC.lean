/-
  The reference's numbers of six parts as whole numbers: what plus, minus, times and scaled come to.
-/
import Derived.Test.YtjbhnjnlpekpoaaDoorRefB
namespace Go.Proofs.YtjbhnjnlpekpoaaDoor
open Go.RowKit Go.Sort
set_option linter.unusedVariables false

def val (f : Nat → Int) : Int := f 0 * 1000000000000000000000000000000000000000000000 + f 1 * 1000000000000000000000000000000000000 + f 2 * 1000000000000000000000000000 + f 3 * 1000000000000000000 + f 4 * 1000000000 + f 5
/-- the parts of a whole number -/
def dg (X : Nat) : Nat → Int
  | 0 => ((X / 1000000000000000000000000000000000000000000000 % 1000000000 : Nat) : Int)
  | 1 => ((X / 1000000000000000000000000000000000000 % 1000000000 : Nat) : Int)
  | 2 => ((X / 1000000000000000000000000000 % 1000000000 : Nat) : Int)
  | 3 => ((X / 1000000000000000000 % 1000000000 : Nat) : Int)
  | 4 => ((X / 1000000000 % 1000000000 : Nat) : Int)
  | 5 => ((X % 1000000000 : Nat) : Int)
  | _ => 0
def TOP : Nat := 1000000000000000000000000000000000000000000000000000000

theorem dg_dig (X : Nat) : Dig (dg X) := by
  intro k hk
  match k, hk with
  | 0, _ | 1, _ | 2, _ | 3, _ | 4, _ | 5, _ => simp only [dg]; omega

theorem Dig.all {f : Nat → Int} (h : Dig f) : (0 ≤ f 0 ∧ f 0 < 1000000000) ∧ (0 ≤ f 1 ∧ f 1 < 1000000000) ∧ (0 ≤ f 2 ∧ f 2 < 1000000000) ∧ (0 ≤ f 3 ∧ f 3 < 1000000000) ∧ (0 ≤ f 4 ∧ f 4 < 1000000000) ∧ (0 ≤ f 5 ∧ f 5 < 1000000000) :=
  ⟨h 0 (by omega), h 1 (by omega), h 2 (by omega), h 3 (by omega), h 4 (by omega), h 5 (by omega)⟩
theorem Dig.mk6 {f : Nat → Int} (h0 : 0 ≤ f 0 ∧ f 0 < 1000000000) (h1 : 0 ≤ f 1 ∧ f 1 < 1000000000) (h2 : 0 ≤ f 2 ∧ f 2 < 1000000000) (h3 : 0 ≤ f 3 ∧ f 3 < 1000000000) (h4 : 0 ≤ f 4 ∧ f 4 < 1000000000) (h5 : 0 ≤ f 5 ∧ f 5 < 1000000000) : Dig f := by
  intro k hk
  match k, hk with
  | 0, _ => exact h0
  | 1, _ => exact h1
  | 2, _ => exact h2
  | 3, _ => exact h3
  | 4, _ => exact h4
  | 5, _ => exact h5

theorem val_dg (X : Nat) (h : X < TOP) : val (dg X) = X := by
  unfold TOP at h
  simp only [val, dg]
  omega

/-- the parts are those of the value -/
theorem arr_of {f : Nat → Int} {X : Nat} (h : Dig f) (e : val f = X) : arr f = arr (dg X) := by
  obtain ⟨h0, h1, h2, h3, h4, h5⟩ := h.all
  unfold val at e
  have k0 : f 0 = dg X 0 := by simp only [dg]; omega
  have k1 : f 1 = dg X 1 := by simp only [dg]; omega
  have k2 : f 2 = dg X 2 := by simp only [dg]; omega
  have k3 : f 3 = dg X 3 := by simp only [dg]; omega
  have k4 : f 4 = dg X 4 := by simp only [dg]; omega
  have k5 : f 5 = dg X 5 := by simp only [dg]; omega
  unfold arr
  rw [k0, k1, k2, k3, k4, k5]

theorem plus_val (f h : Nat → Int) (hf : Dig f) (hh : Dig h) (hs : val f + val h < 1000000000000000000000000000000000000000000000000000000) : Dig (plusL h 5 f 0) ∧ val (plusL h 5 f 0) = val f + val h := by
  obtain ⟨f0, f1, f2, f3, f4, f5⟩ := hf.all
  obtain ⟨h0, h1, h2, h3, h4, h5⟩ := hh.all
  obtain ⟨c1, e1⟩ : ∃ c, c = (f 5 + h 5 + 0) / 1000000000 := ⟨_, rfl⟩
  obtain ⟨c2, e2⟩ : ∃ c, c = (f 4 + h 4 + c1) / 1000000000 := ⟨_, rfl⟩
  obtain ⟨c3, e3⟩ : ∃ c, c = (f 3 + h 3 + c2) / 1000000000 := ⟨_, rfl⟩
  obtain ⟨c4, e4⟩ : ∃ c, c = (f 2 + h 2 + c3) / 1000000000 := ⟨_, rfl⟩
  obtain ⟨c5, e5⟩ : ∃ c, c = (f 1 + h 1 + c4) / 1000000000 := ⟨_, rfl⟩
  have r5 : plusL h 5 f 0 5 = (f 5 + h 5 + 0) % 1000000000 := by simp [plusL, upd]
  have r4 : plusL h 5 f 0 4 = (f 4 + h 4 + c1) % 1000000000 := by subst e1; simp [plusL, upd]
  have r3 : plusL h 5 f 0 3 = (f 3 + h 3 + c2) % 1000000000 := by subst e2 e1; simp [plusL, upd]
  have r2 : plusL h 5 f 0 2 = (f 2 + h 2 + c3) % 1000000000 := by subst e3 e2 e1; simp [plusL, upd]
  have r1 : plusL h 5 f 0 1 = (f 1 + h 1 + c4) % 1000000000 := by subst e4 e3 e2 e1; simp [plusL, upd]
  have r0 : plusL h 5 f 0 0 = f 0 + h 0 + c5 := by subst e5 e4 e3 e2 e1; simp [plusL, upd]
  generalize plusL h 5 f 0 = r at *
  have ev : val r = val f + val h := by
    unfold val at *
    omega
  refine ⟨?_, ev⟩
  rw [← ev] at hs
  have g0 : 0 ≤ r 0 := by omega
  have g1 : 0 ≤ r 1 ∧ r 1 < 1000000000 := by omega
  have g2 : 0 ≤ r 2 ∧ r 2 < 1000000000 := by omega
  have g3 : 0 ≤ r 3 ∧ r 3 < 1000000000 := by omega
  have g4 : 0 ≤ r 4 ∧ r 4 < 1000000000 := by omega
  have g5 : 0 ≤ r 5 ∧ r 5 < 1000000000 := by omega
  clear r0 r1 r2 r3 r4 r5 e1 e2 e3 e4 e5 ev f0 f1 f2 f3 f4 f5 h0 h1 h2 h3 h4 h5
  unfold val at hs
  exact Dig.mk6 ⟨g0, by omega⟩ g1 g2 g3 g4 g5

theorem plus_num (X Y : Nat) (w : World) (h : Hid (X + Y < TOP)) : Calls Tryd.prog 106 #[arr (dg X), arr (dg Y)] w fun e w' => e = .returned (arr (dg (X + Y))) ∧ Q w w' := by
  refine (plus_any (dg X) (dg Y) w (dg_dig X) (dg_dig Y)).mono ?_
  rintro e w' ⟨rfl, q⟩
  refine ⟨?_, q⟩
  have h := h.out
  have hx := val_dg X (by omega)
  have hy := val_dg Y (by omega)
  obtain ⟨a, b⟩ := plus_val (dg X) (dg Y) (dg_dig X) (dg_dig Y) (by rw [hx, hy]; unfold TOP at h; omega)
  rw [arr_of a (X := X + Y) (by rw [b, hx, hy]; omega)]

/-- one step of minus, with the borrow -/
theorem minL_step (h : Nat → Int) (i : Nat) (f : Nat → Int) : ∃ (b : Int) (g : Nat → Int), minL h (i + 1) f = minL h i g ∧ (b = 0 ∨ b = 1) ∧ (b = 1 → f (i + 1) - h (i + 1) < 0) ∧ (b = 0 → 0 ≤ f (i + 1) - h (i + 1)) ∧ g (i + 1) = f (i + 1) - h (i + 1) + b * 1000000000 ∧ g i = f i - b ∧ ∀ j, j ≠ i → j ≠ i + 1 → g j = f j := by
  by_cases k : f (i + 1) - h (i + 1) < 0
  · refine ⟨1, upd (upd (upd f (i + 1) (f (i + 1) - h (i + 1))) (i + 1) (f (i + 1) - h (i + 1) + 1000000000)) i (f i - 1), by simp only [minL]; rw [if_pos k], .inr rfl, fun _ => k, fun z => by omega, ?_, upd_same _ _ _, fun j h1 h2 => ?_⟩
    · rw [upd_other _ _ (by omega), upd_same]; omega
    · rw [upd_other _ _ h1, upd_other _ _ h2, upd_other _ _ h2]
  · refine ⟨0, upd f (i + 1) (f (i + 1) - h (i + 1)), by simp only [minL]; rw [if_neg k], .inl rfl, fun z => by omega, fun _ => by omega, ?_, ?_, fun j h1 h2 => ?_⟩
    · rw [upd_same]; omega
    · rw [upd_other _ _ (by omega)]; omega
    · rw [upd_other _ _ h2]

theorem minus_val (f h : Nat → Int) (hf : Dig f) (hh : Dig h) (hs : val h ≤ val f) : Dig (minL h 5 f) ∧ val (minL h 5 f) = val f - val h := by
  obtain ⟨f0, f1, f2, f3, f4, f5⟩ := hf.all
  obtain ⟨h0, h1, h2, h3, h4, h5⟩ := hh.all
  obtain ⟨b5, g5, e5, p5, q5, s5, u5, v5, w5⟩ := minL_step h 4 f
  obtain ⟨b4, g4, e4, p4, q4, s4, u4, v4, w4⟩ := minL_step h 3 g5
  obtain ⟨b3, g3, e3, p3, q3, s3, u3, v3, w3⟩ := minL_step h 2 g4
  obtain ⟨b2, g2, e2, p2, q2, s2, u2, v2, w2⟩ := minL_step h 1 g3
  obtain ⟨b1, g1, e1, p1, q1, s1, u1, v1, w1⟩ := minL_step h 0 g2
  have e : minL h 5 f = upd g1 0 (g1 0 - h 0) := by rw [e5, e4, e3, e2, e1]; rfl
  simp only [Nat.reduceAdd] at *
  have x50 := w5 0 (by omega) (by omega)
  have x51 := w5 1 (by omega) (by omega)
  have x52 := w5 2 (by omega) (by omega)
  have x53 := w5 3 (by omega) (by omega)
  have x40 := w4 0 (by omega) (by omega)
  have x41 := w4 1 (by omega) (by omega)
  have x42 := w4 2 (by omega) (by omega)
  have x45 := w4 5 (by omega) (by omega)
  have x30 := w3 0 (by omega) (by omega)
  have x31 := w3 1 (by omega) (by omega)
  have x34 := w3 4 (by omega) (by omega)
  have x35 := w3 5 (by omega) (by omega)
  have x20 := w2 0 (by omega) (by omega)
  have x23 := w2 3 (by omega) (by omega)
  have x24 := w2 4 (by omega) (by omega)
  have x25 := w2 5 (by omega) (by omega)
  have x12 := w1 2 (by omega) (by omega)
  have x13 := w1 3 (by omega) (by omega)
  have x14 := w1 4 (by omega) (by omega)
  have x15 := w1 5 (by omega) (by omega)
  clear w1 w2 w3 w4 w5 e1 e2 e3 e4 e5
  have r0 : minL h 5 f 0 = g1 0 - h 0 := by rw [e, upd_same]
  have r1 : minL h 5 f 1 = g1 1 := by rw [e, upd_other _ _ (by omega)]
  have r2 : minL h 5 f 2 = g1 2 := by rw [e, upd_other _ _ (by omega)]
  have r3 : minL h 5 f 3 = g1 3 := by rw [e, upd_other _ _ (by omega)]
  have r4 : minL h 5 f 4 = g1 4 := by rw [e, upd_other _ _ (by omega)]
  have r5 : minL h 5 f 5 = g1 5 := by rw [e, upd_other _ _ (by omega)]
  clear e
  generalize minL h 5 f = r at *
  have d5 : 0 ≤ r 5 ∧ r 5 < 1000000000 := by clear hs s1 s2 s3 s4 q1 q2 q3 q4; rcases p5 with z | z <;> subst z <;> simp only [Int.reduceEq, forall_const, false_implies] at * <;> omega
  have d4 : 0 ≤ r 4 ∧ r 4 < 1000000000 := by clear hs s1 s2 s3 s5 q1 q2 q3 q5 d5; rcases p4 with z | z <;> subst z <;> rcases p5 with y | y <;> subst y <;> simp only [Int.reduceEq, forall_const, false_implies] at * <;> omega
  have d3 : 0 ≤ r 3 ∧ r 3 < 1000000000 := by clear hs s1 s2 s4 s5 q1 q2 q4 q5 d5 d4; rcases p3 with z | z <;> subst z <;> rcases p4 with y | y <;> subst y <;> simp only [Int.reduceEq, forall_const, false_implies] at * <;> omega
  have d2 : 0 ≤ r 2 ∧ r 2 < 1000000000 := by clear hs s1 s3 s4 s5 q1 q3 q4 q5 d5 d4 d3; rcases p2 with z | z <;> subst z <;> rcases p3 with y | y <;> subst y <;> simp only [Int.reduceEq, forall_const, false_implies] at * <;> omega
  have d1 : 0 ≤ r 1 ∧ r 1 < 1000000000 := by clear hs s2 s3 s4 s5 q2 q3 q4 q5 d5 d4 d3 d2; rcases p1 with z | z <;> subst z <;> rcases p2 with y | y <;> subst y <;> simp only [Int.reduceEq, forall_const, false_implies] at * <;> omega
  have ev : val r = val f - val h := by clear p1 p2 p3 p4 p5 q1 q2 q3 q4 q5 s1 s2 s3 s4 s5 d1 d2 d3 d4 d5 hs; unfold val; omega
  refine ⟨?_, ev⟩
  have hv : val f < 1000000000000000000000000000000000000000000000000000000 := by clear ev d1 d2 d3 d4 d5 hs; unfold val; omega
  have hw : 0 ≤ val h := by clear ev d1 d2 d3 d4 d5 hs hv; unfold val; omega
  have l1 : 0 ≤ val r := by omega
  have l2 : val r < 1000000000000000000000000000000000000000000000000000000 := by omega
  unfold val at l1 l2
  exact Dig.mk6 (by clear ev hs hv hw; omega) d1 d2 d3 d4 d5

theorem minus_num (X Y : Nat) (w : World) (h : Hid (Y ≤ X ∧ X < TOP)) : Calls Tryd.prog 107 #[arr (dg X), arr (dg Y)] w fun e w' => e = .returned (arr (dg (X - Y))) ∧ Q w w' := by
  refine (minus_any (dg X) (dg Y) w (dg_dig X) (dg_dig Y)).mono ?_
  rintro e w' ⟨rfl, q⟩
  refine ⟨?_, q⟩
  obtain ⟨h1, h2⟩ := h.out
  have hx := val_dg X h2
  have hy := val_dg Y (by omega)
  obtain ⟨a, b⟩ := minus_val (dg X) (dg Y) (dg_dig X) (dg_dig Y) (by rw [hx, hy]; omega)
  rw [arr_of a (X := X - Y) (by rw [b, hx, hy]; omega)]

end Go.Proofs.YtjbhnjnlpekpoaaDoor
