/-
  Plain laws: what 'arithmetic' returns for sums, differences, products and quotients, in the document's words.
-/
import Derived.Test.YtjbhnjnlpekpoaaDoorArD
import Derived.Test.YtjbhnjnlpekpoaaDoorVal
namespace Go.Proofs.YtjbhnjnlpekpoaaDoor
open Go.RowKit Go.Sort
set_option linter.unusedVariables false

/-- not both are enclosures of values -/
abbrev notV (x0 x1 y0 y1 : Int) : Prop := wildB x0 x1 3000000000 = true ∨ wildB x0 x1 3000000000 = false ∧ wildB y0 y1 3000000000 = true

theorem gRes_no {n d : Int → Int → Int} {x0 x1 y0 y1 A B er : Int} (h : notV x0 x1 y0 y1) (hr : gRes n d x0 x1 y0 y1 A B er) : A = 0 ∧ B = 0 ∧ er = 7 := by
  have hb : gBad n d x0 x1 y0 y1 = true := by
    unfold gBad
    rcases h with h | ⟨_, h⟩ <;> rw [h] <;> simp
  rcases hr with ⟨_, h1⟩ | ⟨h0, _⟩
  · exact h1
  · rw [hb] at h0; cases h0
theorem gRes_yes {n d : Int → Int → Int} {x0 x1 y0 y1 A B er lo hi : Int} (hx : wildB x0 x1 3000000000 = false) (hy : wildB y0 y1 3000000000 = false) (h1 : gLo n d x0 x1 y0 y1 = lo) (h2 : gHi n d x0 x1 y0 y1 = hi) (hr : gRes n d x0 x1 y0 y1 A B er) : rRes lo hi A B er := by
  subst h1 h2
  have hb : gBad n d x0 x1 y0 y1 = wildB (gLo n d x0 x1 y0 y1) (gHi n d x0 x1 y0 y1) 3000000000 := by
    unfold gBad
    rw [hx, hy]; rfl
  unfold gRes at hr
  rw [hb] at hr
  exact hr

theorem gRes_ex (n d : Int → Int → Int) (x0 x1 y0 y1 : Int) : ∃ A B er, gRes n d x0 x1 y0 y1 A B er := by
  cases h : gBad n d x0 x1 y0 y1 with
  | true => exact ⟨0, 0, 7, .inl ⟨h, rfl, rfl, rfl⟩⟩
  | false => exact ⟨_, _, 0, .inr ⟨h, rfl, rfl, rfl⟩⟩
theorem oRes_ex (x0 x1 y0 y1 : Int) : ∃ A B er, oRes x0 x1 y0 y1 A B er := by
  cases h : zeroB x0 x1 y0 y1 with
  | true => exact ⟨0, 0, 8, .inl ⟨h, rfl, rfl, rfl⟩⟩
  | false =>
    obtain ⟨A, B, er, hr⟩ := gRes_ex (fun a b => a * 100000000) (fun a b => b) x0 x1 y0 y1
    exact ⟨A, B, er, .inr ⟨h, hr⟩⟩

theorem f_one (n : Int) : fLo n 1 = n ∧ fHi n 1 = n := by
  unfold fLo fHi
  rw [if_neg (by decide), if_neg (by decide), if_neg (by decide), if_neg (by decide), Int.ediv_one, Int.ediv_one, Int.neg_neg]
  exact ⟨rfl, rfl⟩

theorem plus_ends (x0 x1 y0 y1 : Int) (hx : x0 ≤ x1) (hy : y0 ≤ y1) :
    gLo (fun a b => a + b) (fun _ _ => 1) x0 x1 y0 y1 = x0 + y0 ∧ gHi (fun a b => a + b) (fun _ _ => 1) x0 x1 y0 y1 = x1 + y1 := by
  unfold gLo gHi mLo mHi jLo jHi
  simp only [List.foldl, (f_one _).1, (f_one _).2]
  omega
theorem minus_ends (x0 x1 y0 y1 : Int) (hx : x0 ≤ x1) (hy : y0 ≤ y1) :
    gLo (fun a b => a - b) (fun _ _ => 1) x0 x1 y0 y1 = x0 - y1 ∧ gHi (fun a b => a - b) (fun _ _ => 1) x0 x1 y0 y1 = x1 - y0 := by
  unfold gLo gHi mLo mHi jLo jHi
  simp only [List.foldl, (f_one _).1, (f_one _).2]
  omega

/-- the document's least enclosure of four fractions -/
def lsLo (n0 n1 n2 n3 d0 d1 d2 d3 : Int) : Int := min (min (min (n0 / d0) (n1 / d1)) (n2 / d2)) (n3 / d3)
def lsHi (n0 n1 n2 n3 d0 d1 d2 d3 : Int) : Int := max (max (max (-((-n0) / d0)) (-((-n1) / d1))) (-((-n2) / d2))) (-((-n3) / d3))

theorem f_pos (n d : Int) (h : 0 < d) : fLo n d = n / d ∧ fHi n d = -((-n) / d) := by
  unfold fLo fHi
  rw [if_neg (by omega), if_neg (by omega), if_neg (by omega), if_neg (by omega)]
  exact ⟨rfl, rfl⟩
theorem f_negd (n d : Int) (h : d < 0) : fLo n d = (-n) / (-d) ∧ fHi n d = -(n / (-d)) := by
  unfold fLo fHi
  rw [if_neg (by omega), if_pos (by omega), if_neg (by omega), if_pos (by omega)]
  exact ⟨rfl, rfl⟩

theorem times_ends (x0 x1 y0 y1 : Int) :
    gLo (fun a b => a * b) (fun _ _ => 100000000) x0 x1 y0 y1 = lsLo (x0 * y0) (x0 * y1) (x1 * y0) (x1 * y1) 100000000 100000000 100000000 100000000 ∧
    gHi (fun a b => a * b) (fun _ _ => 100000000) x0 x1 y0 y1 = lsHi (x0 * y0) (x0 * y1) (x1 * y0) (x1 * y1) 100000000 100000000 100000000 100000000 := by
  unfold gLo gHi mLo mHi jLo jHi lsLo lsHi
  simp only [List.foldl, (f_pos _ 100000000 (by decide)).1, (f_pos _ 100000000 (by decide)).2]
  exact ⟨trivial, trivial⟩

theorem over_pos (x0 x1 y0 y1 : Int) (h0 : 0 < y0) (h1 : 0 < y1) :
    gLo (fun a b => a * 100000000) (fun a b => b) x0 x1 y0 y1 = lsLo (x0 * 100000000) (x0 * 100000000) (x1 * 100000000) (x1 * 100000000) y0 y1 y0 y1 ∧
    gHi (fun a b => a * 100000000) (fun a b => b) x0 x1 y0 y1 = lsHi (x0 * 100000000) (x0 * 100000000) (x1 * 100000000) (x1 * 100000000) y0 y1 y0 y1 := by
  unfold gLo gHi mLo mHi jLo jHi lsLo lsHi
  simp only [List.foldl, (f_pos _ y0 h0).1, (f_pos _ y0 h0).2, (f_pos _ y1 h1).1, (f_pos _ y1 h1).2]
  exact ⟨trivial, trivial⟩

theorem over_neg (x0 x1 y0 y1 : Int) (h0 : y0 < 0) (h1 : y1 < 0) :
    gLo (fun a b => a * 100000000) (fun a b => b) x0 x1 y0 y1 = lsLo (-x1 * 100000000) (-x1 * 100000000) (-x0 * 100000000) (-x0 * 100000000) (-y1) (-y0) (-y1) (-y0) ∧
    gHi (fun a b => a * 100000000) (fun a b => b) x0 x1 y0 y1 = lsHi (-x1 * 100000000) (-x1 * 100000000) (-x0 * 100000000) (-x0 * 100000000) (-y1) (-y0) (-y1) (-y0) := by
  unfold gLo gHi mLo mHi jLo jHi lsLo lsHi
  simp only [List.foldl, (f_negd _ y0 h0).1, (f_negd _ y0 h0).2, (f_negd _ y1 h1).1, (f_negd _ y1 h1).2, Int.neg_mul, Int.neg_neg]
  generalize -(x0 * 100000000) / -y0 = a1
  generalize -(x0 * 100000000) / -y1 = a2
  generalize -(x1 * 100000000) / -y0 = a3
  generalize -(x1 * 100000000) / -y1 = a4
  generalize x0 * 100000000 / -y0 = b1
  generalize x0 * 100000000 / -y1 = b2
  generalize x1 * 100000000 / -y0 = b3
  generalize x1 * 100000000 / -y1 = b4
  omega

end Go.Proofs.YtjbhnjnlpekpoaaDoor
