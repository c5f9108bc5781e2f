/-
  The reference's numbers of six parts as whole numbers: what scaled comes to.
-/
import Derived.Test.YtjbhnjnlpekpoaaDoorRefD
namespace Go.Proofs.YtjbhnjnlpekpoaaDoor
open Go.RowKit Go.Sort
set_option linter.unusedVariables false

theorem mulL_val (f : Nat → Int) (n : Int) (hf : Dig f) (hn : 0 ≤ n) : (0 ≤ mulL n 5 f 0 0 ∧ ∀ k, 1 ≤ k → k < 6 → 0 ≤ mulL n 5 f 0 k ∧ mulL n 5 f 0 k < 1000000000) ∧ val (mulL n 5 f 0) = val f * n := by
  obtain ⟨f0, f1, f2, f3, f4, f5⟩ := hf.all
  obtain ⟨p0, x0⟩ : ∃ c, c = f 0 * n := ⟨_, rfl⟩
  have y0 := Int.mul_nonneg f0.1 hn
  obtain ⟨p1, x1⟩ : ∃ c, c = f 1 * n := ⟨_, rfl⟩
  have y1 := Int.mul_nonneg f1.1 hn
  obtain ⟨p2, x2⟩ : ∃ c, c = f 2 * n := ⟨_, rfl⟩
  have y2 := Int.mul_nonneg f2.1 hn
  obtain ⟨p3, x3⟩ : ∃ c, c = f 3 * n := ⟨_, rfl⟩
  have y3 := Int.mul_nonneg f3.1 hn
  obtain ⟨p4, x4⟩ : ∃ c, c = f 4 * n := ⟨_, rfl⟩
  have y4 := Int.mul_nonneg f4.1 hn
  obtain ⟨p5, x5⟩ : ∃ c, c = f 5 * n := ⟨_, rfl⟩
  have y5 := Int.mul_nonneg f5.1 hn
  obtain ⟨c1, e1⟩ : ∃ c, c = (p5 + 0) / 1000000000 := ⟨_, rfl⟩
  obtain ⟨c2, e2⟩ : ∃ c, c = (p4 + c1) / 1000000000 := ⟨_, rfl⟩
  obtain ⟨c3, e3⟩ : ∃ c, c = (p3 + c2) / 1000000000 := ⟨_, rfl⟩
  obtain ⟨c4, e4⟩ : ∃ c, c = (p2 + c3) / 1000000000 := ⟨_, rfl⟩
  obtain ⟨c5, e5⟩ : ∃ c, c = (p1 + c4) / 1000000000 := ⟨_, rfl⟩
  have r5 : mulL n 5 f 0 5 = (p5 + 0) % 1000000000 := by subst  x0 x1 x2 x3 x4 x5; simp [mulL, upd]
  have r4 : mulL n 5 f 0 4 = (p4 + c1) % 1000000000 := by subst e1 x0 x1 x2 x3 x4 x5; simp [mulL, upd]
  have r3 : mulL n 5 f 0 3 = (p3 + c2) % 1000000000 := by subst e2 e1 x0 x1 x2 x3 x4 x5; simp [mulL, upd]
  have r2 : mulL n 5 f 0 2 = (p2 + c3) % 1000000000 := by subst e3 e2 e1 x0 x1 x2 x3 x4 x5; simp [mulL, upd]
  have r1 : mulL n 5 f 0 1 = (p1 + c4) % 1000000000 := by subst e4 e3 e2 e1 x0 x1 x2 x3 x4 x5; simp [mulL, upd]
  have r0 : mulL n 5 f 0 0 = p0 + c5 := by subst e5 e4 e3 e2 e1 x0 x1 x2 x3 x4 x5; simp [mulL, upd]
  have ev : val f * n = p0 * 1000000000000000000000000000000000000000000000 + p1 * 1000000000000000000000000000000000000 + p2 * 1000000000000000000000000000 + p3 * 1000000000000000000 + p4 * 1000000000 + p5 := by
    unfold val
    rw [x0, x1, x2, x3, x4, x5]
    grind
  rw [← x0] at y0
  rw [← x1] at y1
  rw [← x2] at y2
  rw [← x3] at y3
  rw [← x4] at y4
  rw [← x5] at y5
  clear x0 x1 x2 x3 x4 x5
  generalize mulL n 5 f 0 = r at *
  refine ⟨⟨by omega, fun k h1 h2 => ?_⟩, ?_⟩
  · match k, h1, h2 with
    | 1, _, _ => omega
    | 2, _, _ => omega
    | 3, _, _ => omega
    | 4, _, _ => omega
    | 5, _, _ => omega
  · rw [ev]
    unfold val
    omega

theorem divL_parts (d : Int) (r : Nat → Int) : ∃ q0 q1 q2 q3 q4 q5 s1 s2 s3 s4 s5 s6 : Int,
    (divL d 6 r 0 0 = q0 ∧ divL d 6 r 0 1 = q1 ∧ divL d 6 r 0 2 = q2 ∧ divL d 6 r 0 3 = q3 ∧ divL d 6 r 0 4 = q4 ∧ divL d 6 r 0 5 = q5) ∧
    (q0 = (0 * 1000000000 + r 0) / d ∧ s1 = (0 * 1000000000 + r 0) % d) ∧ (q1 = (s1 * 1000000000 + r 1) / d ∧ s2 = (s1 * 1000000000 + r 1) % d) ∧ (q2 = (s2 * 1000000000 + r 2) / d ∧ s3 = (s2 * 1000000000 + r 2) % d) ∧
    (q3 = (s3 * 1000000000 + r 3) / d ∧ s4 = (s3 * 1000000000 + r 3) % d) ∧ (q4 = (s4 * 1000000000 + r 4) / d ∧ s5 = (s4 * 1000000000 + r 4) % d) ∧ (q5 = (s5 * 1000000000 + r 5) / d ∧ s6 = (s5 * 1000000000 + r 5) % d) := by
  refine ⟨_, _, _, _, _, _, _, _, _, _, _, _, ⟨?_, ?_, ?_, ?_, ?_, ?_⟩, ⟨rfl, rfl⟩, ⟨rfl, rfl⟩, ⟨rfl, rfl⟩, ⟨rfl, rfl⟩, ⟨rfl, rfl⟩, ⟨rfl, rfl⟩⟩ <;> simp [divL, upd]

theorem div_step {m d q s : Int} (hd : 0 < d) (hq : q = m / d) (hs : s = m % d) (hm : 0 ≤ m) : m = d * q + s ∧ 0 ≤ q ∧ 0 ≤ s ∧ s < d := by
  subst hq hs
  exact ⟨(Int.mul_ediv_add_emod m d).symm, Int.ediv_nonneg hm (by omega), Int.emod_nonneg m (by omega), Int.emod_lt_of_pos m hd⟩

theorem small_step {m d q s c : Int} (h : m = d * q + s) (hs : 0 ≤ s) (hm : m < d * c) (hd : 0 < d) : q < c := by
  have : d * q < d * c := by omega
  exact Int.lt_of_mul_lt_mul_left this (by omega)

theorem under {s d r : Int} (h1 : s < d) (h2 : r < 1000000000) : s * 1000000000 + r < d * 1000000000 := by omega

theorem divL_val (d : Int) (r : Nat → Int) (hd : 0 < d) (h0 : 0 ≤ r 0) (h : ∀ k, 1 ≤ k → k < 6 → 0 ≤ r k ∧ r k < 1000000000) (hs : val r / d < 1000000000000000000000000000000000000000000000000000000) :
    Dig (divL d 6 r 0) ∧ val (divL d 6 r 0) = val r / d := by
  obtain ⟨q0, q1, q2, q3, q4, q5, s1, s2, s3, s4, s5, s6, ⟨k0, k1, k2, k3, k4, k5⟩, ⟨a0, b0⟩, ⟨a1, b1⟩, ⟨a2, b2⟩, ⟨a3, b3⟩, ⟨a4, b4⟩, a5, b5⟩ := divL_parts d r
  have r1 := h 1 (by omega) (by omega)
  have r2 := h 2 (by omega) (by omega)
  have r3 := h 3 (by omega) (by omega)
  have r4 := h 4 (by omega) (by omega)
  have r5 := h 5 (by omega) (by omega)
  obtain ⟨m0, n0, o0, p0⟩ := div_step hd a0 b0 (by omega)
  obtain ⟨m1, n1, o1, p1⟩ := div_step hd a1 b1 (by omega)
  obtain ⟨m2, n2, o2, p2⟩ := div_step hd a2 b2 (by omega)
  obtain ⟨m3, n3, o3, p3⟩ := div_step hd a3 b3 (by omega)
  obtain ⟨m4, n4, o4, p4⟩ := div_step hd a4 b4 (by omega)
  obtain ⟨m5, n5, o5, p5⟩ := div_step hd a5 b5 (by omega)
  have t1 := small_step m1 o1 (under p0 r1.2) hd
  have t2 := small_step m2 o2 (under p1 r2.2) hd
  have t3 := small_step m3 o3 (under p2 r3.2) hd
  have t4 := small_step m4 o4 (under p3 r4.2) hd
  have t5 := small_step m5 o5 (under p4 r5.2) hd
  clear a0 a1 a2 a3 a4 a5 b0 b1 b2 b3 b4 b5
  have ev : val (divL d 6 r 0) = q0 * 1000000000000000000000000000000000000000000000 + q1 * 1000000000000000000000000000000000000 + q2 * 1000000000000000000000000000 + q3 * 1000000000000000000 + q4 * 1000000000 + q5 := by
    unfold val
    rw [k0, k1, k2, k3, k4, k5]
  have er : val r = val (divL d 6 r 0) * d + s6 := by
    rw [ev]
    have : val r = (d * q0) * 1000000000000000000000000000000000000000000000 + (d * q1) * 1000000000000000000000000000000000000 + (d * q2) * 1000000000000000000000000000 + (d * q3) * 1000000000000000000 + (d * q4) * 1000000000 + (d * q5) + s6 := by
      unfold val
      generalize d * q0 = z0 at *
      generalize d * q1 = z1 at *
      generalize d * q2 = z2 at *
      generalize d * q3 = z3 at *
      generalize d * q4 = z4 at *
      generalize d * q5 = z5 at *
      omega
    rw [this]
    grind
  have eq : val r / d = val (divL d 6 r 0) := by
    rw [er, Int.add_comm, Int.add_mul_ediv_right _ _ (by omega), Int.ediv_eq_zero_of_lt o5 p5]
    omega
  refine ⟨?_, eq.symm⟩
  rw [eq, ev] at hs
  clear eq er ev m0 m1 m2 m3 m4 m5 p0 p1 p2 p3 p4 p5 o0 o1 o2 o3 o4 o5 r1 r2 r3 r4 r5 h
  refine Dig.mk6 ?_ ?_ ?_ ?_ ?_ ?_
  · rw [k0]; omega
  · rw [k1]; omega
  · rw [k2]; omega
  · rw [k3]; omega
  · rw [k4]; omega
  · rw [k5]; omega

theorem scaled_num (X : Nat) (n d : Int) (n' d' : Nat) (w : World) (hn : n = n') (hd : d = d') (hn1 : n < 1000000000) (hd0 : 0 < d) (hd1 : d < 1000000000) (h : Hid (X < TOP ∧ X * n' / d' < TOP)) :
    Calls Tryd.prog 103 #[arr (dg X), .int .i64 n, .int .i64 d] w fun e w' => e = .returned (arr (dg (X * n' / d'))) ∧ Q w w' := by
  subst hn hd
  refine (scaled_any (dg X) n' d' w (dg_dig X) (by omega) hn1 hd0 hd1).mono ?_
  rintro e w' ⟨rfl, q⟩
  refine ⟨?_, q⟩
  obtain ⟨h1, h2⟩ := h.out
  obtain ⟨⟨a, b⟩, c⟩ := mulL_val (dg X) n' (dg_dig X) (by omega)
  rw [val_dg X h1, ← Int.natCast_mul] at c
  have e : val (mulL n' 5 (dg X) 0) / d' = ((X * n' / d' : Nat) : Int) := by rw [c]; exact (Int.natCast_ediv _ _).symm
  obtain ⟨x, y⟩ := divL_val d' (mulL n' 5 (dg X) 0) hd0 a b (by rw [e]; unfold TOP at h2; omega)
  rw [arr_of x (X := X * n' / d') (by rw [y, e])]

end Go.Proofs.YtjbhnjnlpekpoaaDoor
