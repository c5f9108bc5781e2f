/-
  Plain laws of AngleWithin: with smaller enclosures no result is greater.
-/
import Derived.Test.YtjbhnjnlpekpoaaDoorFracP
import Derived.Test.YtjbhnjnlpekpoaaDoorArP
import Derived.Test.YtjbhnjnlpekpoaaDoorEnclA
import Derived.Test.YtjbhnjnlpekpoaaDoorArcP
import Derived.Test.YtjbhnjnlpekpoaaDoorRootP
namespace Go.Proofs.YtjbhnjnlpekpoaaDoor
open Go.RowKit Go.Sort Trig
set_option linter.unusedVariables false

/-- the first result is good and within the second one, if that is good -/
abbrev inn (P0 P1 pe R0 R1 re : Int) : Prop := re = 0 → pe = 0 ∧ R0 ≤ P0 ∧ P1 ≤ R1

theorem corner_up (n b B : Int) (hb : 0 < b) (h : n ≤ B * b) : -((-n) / b) ≤ B := by
  have : -B ≤ (-n) / b := (Int.le_ediv_iff_mul_le hb).2 (by rw [Int.neg_mul]; omega)
  omega

theorem times_corner (x0 x1 y0 y1 a b : Int) (ha : x0 ≤ a ∧ a ≤ x1) (hb : y0 ≤ b ∧ b ≤ y1) :
    gLo (fun a b => a * b) (fun _ _ => 100000000) x0 x1 y0 y1 ≤ fLo (a * b) 100000000 ∧ fHi (a * b) 100000000 ≤ gHi (fun a b => a * b) (fun _ _ => 100000000) x0 x1 y0 y1 := by
  have h := times_in x0 x1 y0 y1 a b ha hb
  rw [(f_pos _ 100000000 (by decide)).1, (f_pos _ 100000000 (by decide)).2]
  exact ⟨(Int.le_ediv_iff_mul_le (by decide)).2 h.1, corner_up _ _ _ (by decide) h.2⟩

theorem over_corner (x0 x1 y0 y1 a b : Int) (ha : x0 ≤ a ∧ a ≤ x1) (hb : y0 ≤ b ∧ b ≤ y1) (hz : ¬(y0 ≤ 0 ∧ 0 ≤ y1)) :
    gLo (fun a b => a * 100000000) (fun a b => b) x0 x1 y0 y1 ≤ fLo (a * 100000000) b ∧ fHi (a * 100000000) b ≤ gHi (fun a b => a * 100000000) (fun a b => b) x0 x1 y0 y1 := by
  have h := over_in x0 x1 y0 y1 a b ha hb hz
  unfold nn bb at h
  rcases Int.lt_or_le 0 b with hp | hp
  · rw [if_neg (by omega), if_neg (by omega)] at h
    rw [(f_pos _ b hp).1, (f_pos _ b hp).2]
    exact h
  · have hn : b < 0 := by
      rcases Int.lt_or_le b 0 with k | k
      · exact k
      · exact absurd ⟨by omega, by omega⟩ hz
    rw [if_pos hn, if_pos hn, Int.neg_neg] at h
    rw [(f_negd _ b hn).1, (f_negd _ b hn).2]
    exact h

theorem plus_corner (x0 x1 y0 y1 a b : Int) (ha : x0 ≤ a ∧ a ≤ x1) (hb : y0 ≤ b ∧ b ≤ y1) :
    gLo (fun a b => a + b) (fun _ _ => 1) x0 x1 y0 y1 ≤ fLo (a + b) 1 ∧ fHi (a + b) 1 ≤ gHi (fun a b => a + b) (fun _ _ => 1) x0 x1 y0 y1 := by
  rw [(plus_ends x0 x1 y0 y1 (by omega) (by omega)).1, (plus_ends x0 x1 y0 y1 (by omega) (by omega)).2, (f_one _).1, (f_one _).2]
  omega
theorem minus_corner (x0 x1 y0 y1 a b : Int) (ha : x0 ≤ a ∧ a ≤ x1) (hb : y0 ≤ b ∧ b ≤ y1) :
    gLo (fun a b => a - b) (fun _ _ => 1) x0 x1 y0 y1 ≤ fLo (a - b) 1 ∧ fHi (a - b) 1 ≤ gHi (fun a b => a - b) (fun _ _ => 1) x0 x1 y0 y1 := by
  rw [(minus_ends x0 x1 y0 y1 (by omega) (by omega)).1, (minus_ends x0 x1 y0 y1 (by omega) (by omega)).2, (f_one _).1, (f_one _).2]
  omega

theorem f_le (n d : Int) : fLo n d ≤ fHi n d := by
  have key : ∀ m e : Int, 0 < e → m / e ≤ -((-m) / e) := fun m e he => by
    have h1 := Int.ediv_mul_le m (b := e) (by omega)
    have h2 := Int.ediv_mul_le (-m) (b := e) (by omega)
    rcases Int.lt_or_le (-((-m) / e)) (m / e) with k | k
    · have : (-((-m) / e) + 1) * e ≤ m / e * e := Int.mul_le_mul_of_nonneg_right (by omega) (by omega)
      rw [Int.add_mul, Int.neg_mul] at this
      omega
    · exact k
  unfold fLo fHi
  split
  · omega
  · split
    · have := key (-n) (-d) (by omega)
      rw [Int.neg_neg] at this
      exact this
    · exact key n d (by omega)

/-- the four ends of the smaller enclosures lie within the ends of the greater ones -/
theorem ends_in (n d : Int → Int → Int) (x0 x1 y0 y1 u0 u1 v0 v1 : Int)
    (hc : ∀ a b, (a = u0 ∨ a = u1) → (b = v0 ∨ b = v1) → gLo n d x0 x1 y0 y1 ≤ fLo (n a b) (d a b) ∧ fHi (n a b) (d a b) ≤ gHi n d x0 x1 y0 y1) :
    gLo n d x0 x1 y0 y1 ≤ gLo n d u0 u1 v0 v1 ∧ gHi n d u0 u1 v0 v1 ≤ gHi n d x0 x1 y0 y1 ∧ gLo n d u0 u1 v0 v1 ≤ gHi n d u0 u1 v0 v1 := by
  have a := hc u0 v0 (.inl rfl) (.inl rfl)
  have b := hc u0 v1 (.inl rfl) (.inr rfl)
  have c := hc u1 v0 (.inr rfl) (.inl rfl)
  have e := hc u1 v1 (.inr rfl) (.inr rfl)
  have k := f_le (n u0 v0) (d u0 v0)
  generalize gLo n d x0 x1 y0 y1 = G at *
  generalize gHi n d x0 x1 y0 y1 = H at *
  unfold gLo gHi mLo mHi jLo jHi
  simp only [List.foldl]
  generalize fLo (n u0 v0) (d u0 v0) = a0 at *
  generalize fLo (n u0 v1) (d u0 v1) = a1 at *
  generalize fLo (n u1 v0) (d u1 v0) = a2 at *
  generalize fLo (n u1 v1) (d u1 v1) = a3 at *
  generalize fHi (n u0 v0) (d u0 v0) = b0 at *
  generalize fHi (n u0 v1) (d u0 v1) = b1 at *
  generalize fHi (n u1 v0) (d u1 v0) = b2 at *
  generalize fHi (n u1 v1) (d u1 v1) = b3 at *
  omega

theorem gRes_inn (n d : Int → Int → Int) (x0 x1 y0 y1 u0 u1 v0 v1 P0 P1 pe R0 R1 re : Int) (hu : x0 ≤ u0 ∧ u0 ≤ u1 ∧ u1 ≤ x1) (hv : y0 ≤ v0 ∧ v0 ≤ v1 ∧ v1 ≤ y1)
    (hc : ∀ a b, (a = u0 ∨ a = u1) → (b = v0 ∨ b = v1) → gLo n d x0 x1 y0 y1 ≤ fLo (n a b) (d a b) ∧ fHi (n a b) (d a b) ≤ gHi n d x0 x1 y0 y1)
    (hp : gRes n d u0 u1 v0 v1 P0 P1 pe) (hr : gRes n d x0 x1 y0 y1 R0 R1 re) : inn P0 P1 pe R0 R1 re := by
  intro h0
  have e := ends_in n d x0 x1 y0 y1 u0 u1 v0 v1 hc
  rcases hr with ⟨_, _, _, h7⟩ | ⟨hb, rfl, rfl, _⟩
  · omega
  · unfold gBad at hb
    simp only [Bool.or_eq_false_iff] at hb
    have hx := wild_ok.1 hb.1.1
    have hy := wild_ok.1 hb.1.2
    have hg := wild_ok.1 hb.2
    have hb' : gBad n d u0 u1 v0 v1 = false := by
      unfold gBad
      simp only [Bool.or_eq_false_iff]
      exact ⟨⟨wild_ok.2 (by omega), wild_ok.2 (by omega)⟩, wild_ok.2 (by omega)⟩
    rcases hp with ⟨h, _⟩ | ⟨_, rfl, rfl, h⟩
    · rw [hb'] at h; cases h
    · exact ⟨h, e.1, e.2.1⟩

theorem oRes_inn (x0 x1 y0 y1 u0 u1 v0 v1 P0 P1 pe R0 R1 re : Int) (hu : x0 ≤ u0 ∧ u0 ≤ u1 ∧ u1 ≤ x1) (hv : y0 ≤ v0 ∧ v0 ≤ v1 ∧ v1 ≤ y1)
    (hp : oRes u0 u1 v0 v1 P0 P1 pe) (hr : oRes x0 x1 y0 y1 R0 R1 re) : inn P0 P1 pe R0 R1 re := by
  intro h0
  rcases hr with ⟨_, _, _, h8⟩ | ⟨z, hr⟩
  · omega
  · have hr' := hr
    rcases hr with ⟨_, _, _, h7⟩ | ⟨hb, _⟩
    · omega
    · unfold gBad at hb
      simp only [Bool.or_eq_false_iff] at hb
      have hz : ¬ (y0 ≤ 0 ∧ 0 ≤ y1) := by
        unfold zeroB at z
        rw [hb.1.1, hb.1.2] at z
        intro h
        simp [h.1, h.2] at z
      have z' : zeroB u0 u1 v0 v1 = false := by
        unfold zeroB
        have : decide (v0 ≤ 0) = false ∨ decide (0 ≤ v1) = false := by
          by_cases k : v0 ≤ 0
          · right; exact decide_eq_false (by omega)
          · left; exact decide_eq_false k
        rcases this with h | h <;> rw [h] <;> simp
      rcases hp with ⟨h, _⟩ | ⟨_, hp⟩
      · rw [z'] at h; cases h
      · refine gRes_inn _ _ x0 x1 y0 y1 u0 u1 v0 v1 P0 P1 pe R0 R1 re hu hv (fun a b ha hb => ?_) hp hr' h0
        exact over_corner x0 x1 y0 y1 a b (by omega) (by omega) hz

theorem root_inn (x0 x1 u0 u1 P0 P1 pe R0 R1 re : Int) (hu : x0 ≤ u0 ∧ u0 ≤ u1 ∧ u1 ≤ x1) (hp : rootRes u0 u1 P0 P1 pe) (hr : rootRes x0 x1 R0 R1 re) : inn P0 P1 pe R0 R1 re := by
  intro h0
  rcases hr with ⟨_, _, _, h7⟩ | ⟨hb, r1, r2, _⟩
  · omega
  · unfold rootBad at hb
    rw [Bool.or_eq_false_iff, wild_ok, decide_eq_false_iff_not] at hb
    have hb' : rootBad u0 u1 = false := by
      unfold rootBad
      rw [Bool.or_eq_false_iff, wild_ok, decide_eq_false_iff_not]
      omega
    rcases hp with ⟨h, _⟩ | ⟨_, p1, p2, h⟩
    · rw [hb'] at h; cases h
    · exact ⟨h, root_mono (by omega) r1 p1, up_mono (by omega) p2 r2⟩

theorem all_mono (x y u v : Int) (h1 : x ≤ u) (h2 : u ≤ v) (h3 : v ≤ y) : allLo x y ≤ allLo u v ∧ allHi u v ≤ allHi x y := by
  have a := all_holds x y u h1 (by omega)
  have b := all_holds x y v (by omega) h3
  have bd := all_bds x y
  have wu := sine_bds u
  have wv := sine_bds v
  constructor
  · unfold allLo at *
    by_cases k : nextP u 270000000 ≤ v
    · rw [if_pos k]
      have : nextP x 270000000 ≤ y := by unfold nextP at *; omega
      rw [if_pos this]
      omega
    · rw [if_neg k]
      generalize (if nextP x 270000000 ≤ y then -100000000 else min (sineLo x) (sineLo y)) = G at *
      omega
  · unfold allHi at *
    by_cases k : nextP u 90000000 ≤ v
    · rw [if_pos k]
      have : nextP x 90000000 ≤ y := by unfold nextP at *; omega
      rw [if_pos this]
      omega
    · rw [if_neg k]
      generalize (if nextP x 90000000 ≤ y then 100000000 else max (sineHi x) (sineHi y)) = G at *
      omega

end Go.Proofs.YtjbhnjnlpekpoaaDoor
