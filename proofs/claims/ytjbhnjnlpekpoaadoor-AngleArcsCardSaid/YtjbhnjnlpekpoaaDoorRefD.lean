/-
  The reference's numbers of six parts as whole numbers: what times and scaled come to.
-/
import Derived.Test.YtjbhnjnlpekpoaaDoorRefC
namespace Go.Proofs.YtjbhnjnlpekpoaaDoor
open Go.RowKit Go.Sort
set_option linter.unusedVariables false

def V (f : Nat → Int) : Int := f 0 * 1000000000000000000000000000000000000000000000000000000000000000000000000000000000000000000000000000 + f 1 * 1000000000000000000000000000000000000000000000000000000000000000000000000000000000000000000 + f 2 * 1000000000000000000000000000000000000000000000000000000000000000000000000000000000 + f 3 * 1000000000000000000000000000000000000000000000000000000000000000000000000 + f 4 * 1000000000000000000000000000000000000000000000000000000000000000 + f 5 * 1000000000000000000000000000000000000000000000000000000 + f 6 * 1000000000000000000000000000000000000000000000 + f 7 * 1000000000000000000000000000000000000 + f 8 * 1000000000000000000000000000 + f 9 * 1000000000000000000 + f 10 * 1000000000 + f 11

/-- one carry -/
theorem carL_step (i : Nat) (hi : i < 11) (f : Nat → Int) (hp : ∀ j, 0 ≤ f j) : ∃ g : Nat → Int, carL (i + 1) f = carL i g ∧ V g = V f ∧ (∀ j, 0 ≤ g j) ∧ g (i + 1) < 1000000000 ∧ ∀ j, i + 1 < j → g j = f j := by
  refine ⟨_, rfl, ?_, fun j => ?_, ?_, fun j hj => ?_⟩
  · match i, hi with
    | 0, _ | 1, _ | 2, _ | 3, _ | 4, _ | 5, _ | 6, _ | 7, _ | 8, _ | 9, _ | 10, _ =>
      simp only [V, upd, Nat.reduceAdd, Nat.reduceEqDiff, if_true, if_false]
      omega
  · have a := hp i
    have b := hp (i + 1)
    have c := hp j
    unfold upd
    split
    · omega
    · split <;> omega
  · rw [upd_same]; omega
  · rw [upd_other _ _ (by omega), upd_other _ _ (by omega)]

theorem carL_val (i : Nat) : ∀ f : Nat → Int, i ≤ 11 → (∀ j, 0 ≤ f j) → V (carL i f) = V f ∧ (∀ j, 0 ≤ carL i f j) ∧ (∀ j, 1 ≤ j → j ≤ i → carL i f j < 1000000000) ∧ ∀ j, i < j → carL i f j = f j := by
  induction i with
  | zero => intro f _ h; exact ⟨rfl, h, fun j _ _ => by omega, fun j _ => rfl⟩
  | succ i ih =>
    intro f hi h
    obtain ⟨g, e, v, p, l, k⟩ := carL_step i (by omega) f h
    obtain ⟨a, b, c, d⟩ := ih g (by omega) p
    rw [e]
    refine ⟨by rw [a, v], b, fun j h1 h2 => ?_, fun j hj => by rw [d j (by omega), k j hj]⟩
    rcases Nat.lt_or_ge j (i + 1) with z | z
    · exact c j h1 (by omega)
    · have : j = i + 1 := by omega
      subst this
      rw [d _ (by omega)]; exact l

/-- the sum of the products -/
theorem accK_val (x y : Nat → Int) (i : Nat) (m : Nat) : ∀ f : Nat → Int, m ≤ 6 → (∀ j, accK x y i m f j = f j + if i + (6 - m) ≤ j ∧ j < i + 6 then x i * y (j - i) else 0) := by
  induction m with
  | zero => intro f _ j; simp only [accK]; rw [if_neg (by omega)]; omega
  | succ m ih =>
    intro f hm j
    simp only [accK]
    rw [ih _ (by omega)]
    by_cases e : j = i + (5 - m)
    · subst e
      rw [upd_same, if_neg (by omega), if_pos (by omega), show i + (5 - m) - i = 5 - m by omega]; omega
    · rw [upd_other _ _ e]
      by_cases k : i + (6 - m) ≤ j ∧ j < i + 6
      · rw [if_pos k, if_pos (by omega)]
      · rw [if_neg k, if_neg (by omega)]
theorem acc_row (x y : Nat → Int) (i : Nat) (f : Nat → Int) (j : Nat) : accK x y i 6 f j = f j + if i ≤ j ∧ j < i + 6 then x i * y (j - i) else 0 := by
  rw [accK_val x y i 6 f (by omega) j]
  simp only [Nat.sub_self, Nat.add_zero]

theorem accI_nonneg (x y : Nat → Int) (hx : ∀ k, 0 ≤ x k) (hy : ∀ k, 0 ≤ y k) (m : Nat) : ∀ f : Nat → Int, (∀ j, 0 ≤ f j) → ∀ j, 0 ≤ accI x y m f j := by
  induction m with
  | zero => intro f h; exact h
  | succ m ih =>
    intro f h
    simp only [accI]
    refine ih _ (fun j => ?_)
    rw [acc_row]
    have := Int.mul_nonneg (hx (5 - m)) (hy (j - (5 - m)))
    have := h j
    split <;> omega

theorem conv (x y : Nat → Int) : accI x y 6 (fun _ => 0) 0 = x 0 * y 0 ∧ accI x y 6 (fun _ => 0) 1 = x 0 * y 1 + x 1 * y 0 ∧ accI x y 6 (fun _ => 0) 2 = x 0 * y 2 + x 1 * y 1 + x 2 * y 0 ∧ accI x y 6 (fun _ => 0) 3 = x 0 * y 3 + x 1 * y 2 + x 2 * y 1 + x 3 * y 0 ∧ accI x y 6 (fun _ => 0) 4 = x 0 * y 4 + x 1 * y 3 + x 2 * y 2 + x 3 * y 1 + x 4 * y 0 ∧ accI x y 6 (fun _ => 0) 5 = x 0 * y 5 + x 1 * y 4 + x 2 * y 3 + x 3 * y 2 + x 4 * y 1 + x 5 * y 0 ∧ accI x y 6 (fun _ => 0) 6 = x 1 * y 5 + x 2 * y 4 + x 3 * y 3 + x 4 * y 2 + x 5 * y 1 ∧ accI x y 6 (fun _ => 0) 7 = x 2 * y 5 + x 3 * y 4 + x 4 * y 3 + x 5 * y 2 ∧ accI x y 6 (fun _ => 0) 8 = x 3 * y 5 + x 4 * y 4 + x 5 * y 3 ∧ accI x y 6 (fun _ => 0) 9 = x 4 * y 5 + x 5 * y 4 ∧ accI x y 6 (fun _ => 0) 10 = x 5 * y 5 ∧ accI x y 6 (fun _ => 0) 11 = 0 := by
  refine ⟨?_, ?_, ?_, ?_, ?_, ?_, ?_, ?_, ?_, ?_, ?_, ?_⟩ <;> simp only [accI, acc_row] <;> simp

theorem conv_val (x y : Nat → Int) : V (accI x y 6 (fun _ => 0)) = val x * val y * 1000000000 := by
  obtain ⟨c0, c1, c2, c3, c4, c5, c6, c7, c8, c9, c10, c11⟩ := conv x y
  unfold V val
  rw [c0, c1, c2, c3, c4, c5, c6, c7, c8, c9, c10, c11]
  grind

theorem dg_nonneg (X : Nat) (k : Nat) : 0 ≤ dg X k := by
  match k with
  | 0 | 1 | 2 | 3 | 4 | 5 => simp only [dg]; omega
  | k + 6 => simp only [dg]; omega

theorem times_val (X Y : Nat) (hx : X < TOP) (hy : Y < TOP) (h : X * Y / 1000000000000000000000000000000000000000000000 < TOP) :
    arr (carL 11 (accI (dg X) (dg Y) 6 (fun _ => 0))) = arr (dg (X * Y / 1000000000000000000000000000000000000000000000)) := by
  obtain ⟨a, b, c, d⟩ := carL_val 11 (accI (dg X) (dg Y) 6 (fun _ => 0)) (by omega) (accI_nonneg _ _ (dg_nonneg X) (dg_nonneg Y) 6 _ (fun _ => by omega))
  rw [conv_val, val_dg X hx, val_dg Y hy, ← Int.natCast_mul] at a
  have d11 : carL 11 (accI (dg X) (dg Y) 6 (fun _ => 0)) 11 < 1000000000 := c 11 (by omega) (by omega)
  generalize X * Y = P at *
  generalize carL 11 (accI (dg X) (dg Y) 6 (fun _ => 0)) = r at *
  have b0 := b 0
  have b1 := b 1
  have c1 := c 1 (by omega) (by omega)
  have b2 := b 2
  have c2 := c 2 (by omega) (by omega)
  have b3 := b 3
  have c3 := c 3 (by omega) (by omega)
  have b4 := b 4
  have c4 := c 4 (by omega) (by omega)
  have b5 := b 5
  have c5 := c 5 (by omega) (by omega)
  have b6 := b 6
  have c6 := c 6 (by omega) (by omega)
  have b7 := b 7
  have c7 := c 7 (by omega) (by omega)
  have b8 := b 8
  have c8 := c 8 (by omega) (by omega)
  have b9 := b 9
  have c9 := c 9 (by omega) (by omega)
  have b10 := b 10
  have c10 := c 10 (by omega) (by omega)
  have b11 := b 11
  have c11 := c 11 (by omega) (by omega)
  clear b c d
  unfold V at a
  unfold TOP at *
  have ev : val r = ((P / 1000000000000000000000000000000000000000000000 : Nat) : Int) := by
    unfold val
    omega
  refine arr_of (Dig.mk6 ⟨b0, ?_⟩ ⟨b1, c1⟩ ⟨b2, c2⟩ ⟨b3, c3⟩ ⟨b4, c4⟩ ⟨b5, c5⟩) ev
  clear a b6 b7 b8 b9 b10 b11 c6 c7 c8 c9 c10 c11 d11
  unfold val at ev
  omega

theorem times_num (X Y : Nat) (w : World) (h : Hid (X < TOP ∧ Y < TOP ∧ X * Y / 1000000000000000000000000000000000000000000000 < TOP)) :
    Calls Tryd.prog 105 #[arr (dg X), arr (dg Y)] w fun e w' => e = .returned (arr (dg (X * Y / 1000000000000000000000000000000000000000000000))) ∧ Q w w' := by
  refine (times_any (dg X) (dg Y) w (dg_dig X) (dg_dig Y)).mono ?_
  rintro e w' ⟨rfl, q⟩
  obtain ⟨h1, h2, h3⟩ := h.out
  exact ⟨by rw [times_val X Y h1 h2 h3], q⟩

end Go.Proofs.YtjbhnjnlpekpoaaDoor
