/-
  Plain mathematics: the program's enclosures of sines, their order, and the searches of Arccos. No program in it.
-/
import Derived.Test.YtjbhnjnlpekpoaaDoorTrig
namespace Go.Proofs.YtjbhnjnlpekpoaaDoor.Trig
attribute [local irreducible] sLo sHi

/-- the cosine's enclosure in the first two quarters -/
theorem cos_low (a : Nat) (h : a < 90000000) : sineLo ((a : Int) + 90000000) = sLo (90000000 - a) ∧ sineHi ((a : Int) + 90000000) = sHi (90000000 - a) := by
  have h1 : ((a : Int) + 90000000) % 360000000 = (a : Int) + 90000000 := by omega
  have h2 : dn ((a : Int) + 90000000) = false := by unfold dn; rw [h1]; exact decide_eq_false (by omega)
  have h3 : q4 ((a : Int) + 90000000) = 90000000 - a := by
    unfold q4; rw [h1]
    have : ((a : Int) + 90000000).toNat = a + 90000000 := by omega
    rw [this, Nat.mod_eq_of_lt (by omega)]; omega
  unfold sineLo sineHi
  rw [h2, h3]
  exact ⟨rfl, rfl⟩

theorem q4_high (b : Nat) (h : b ≤ 90000000) (c : Int) (hc : c % 360000000 = (b : Int) + 180000000) : q4 c = b := by
  unfold q4; rw [hc]; omega

theorem dn_high (b : Nat) (c : Int) (hc : c % 360000000 = (b : Int) + 180000000) : dn c = true := by
  unfold dn; rw [hc]; exact decide_eq_true (by omega)

theorem cos_high (a : Nat) (h : 90000000 ≤ a) (h' : a ≤ 180000000) : sineLo ((a : Int) + 90000000) = -(sHi (a - 90000000) : Int) ∧ sineHi ((a : Int) + 90000000) = -(sLo (a - 90000000) : Int) := by
  have h1 : ((a : Int) + 90000000) % 360000000 = ((a - 90000000 : Nat) : Int) + 180000000 := by omega
  have h2 := dn_high (a - 90000000) _ h1
  have h3 := q4_high (a - 90000000) (by omega) _ h1
  unfold sineLo sineHi
  rw [h2, h3, if_pos rfl, if_pos rfl]
  exact ⟨Eq.refl _, Eq.refl _⟩

/-- the cosine does not grow from 0 to 180 degrees -/
theorem cos_anti {a b : Nat} (h : a ≤ b) (hb : b ≤ 180000000) : sineLo ((b : Int) + 90000000) ≤ sineLo ((a : Int) + 90000000) ∧ sineHi ((b : Int) + 90000000) ≤ sineHi ((a : Int) + 90000000) := by
  by_cases ha : a < 90000000
  · by_cases hb' : b < 90000000
    · rw [(cos_low a ha).1, (cos_low a ha).2, (cos_low b hb').1, (cos_low b hb').2]
      have := sLo_mono (show 90000000 - b ≤ 90000000 - a by omega) (by omega)
      omega
    · rw [(cos_low a ha).1, (cos_low a ha).2, (cos_high b (by omega) hb).1, (cos_high b (by omega) hb).2]
      omega
  · rw [(cos_high a (by omega) (by omega)).1, (cos_high a (by omega) (by omega)).2, (cos_high b (by omega) hb).1, (cos_high b (by omega) hb).2]
    have := sLo_mono (show a - 90000000 ≤ b - 90000000 by omega) (by omega)
    omega

/-- a search's answer: below it the test fails, from it on it holds -/
def Cut (n : Nat) (p : Nat → Bool) (r : Nat) : Prop := r ≤ n ∧ (∀ t, t < r → p t = false) ∧ (∀ t, r ≤ t → t < n → p t = true)

theorem Cut.unique {n : Nat} {p : Nat → Bool} {r s : Nat} (h : Cut n p r) (k : Cut n p s) : r = s := by
  obtain ⟨h1, h2, h3⟩ := h
  obtain ⟨k1, k2, k3⟩ := k
  rcases Nat.lt_trichotomy r s with c | c | c
  · have := h3 r (Nat.le_refl _) (by omega); rw [k2 r c] at this; cases this
  · exact c
  · have := k3 s (Nat.le_refl _) (by omega); rw [h2 s c] at this; cases this

theorem Cut.exists (n : Nat) (p : Nat → Bool) (hm : ∀ a b, a ≤ b → b < n → p a = true → p b = true) : ∃ r, Cut n p r := by
  induction n with
  | zero => exact ⟨0, Nat.le_refl _, fun t h => by omega, fun t _ h => by omega⟩
  | succ n ih =>
    obtain ⟨r, h1, h2, h3⟩ := ih (fun a b h1 h2 => hm a b h1 (by omega))
    by_cases hr : r = n
    · subst hr
      cases hp : p r with
      | true => exact ⟨r, by omega, h2, fun t ht1 ht2 => by have : t = r := by omega
                                                            subst this; exact hp⟩
      | false => exact ⟨r + 1, by omega, fun t ht => by by_cases e : t = r
                                                        · subst e; exact hp
                                                        · exact h2 t (by omega), fun t _ _ => by omega⟩
    · refine ⟨r, by omega, h2, fun t ht1 ht2 => ?_⟩
      by_cases e : t = n
      · subst e; exact hm r t (by omega) (by omega) (h3 r (Nat.le_refl _) (by omega))
      · exact h3 t ht1 (by omega)

/-- the two tests of Arccos -/
def pLow (v : Int) (i : Nat) : Bool := decide (sineLo ((i : Int) + 90000000) < v)
def pHigh (v : Int) (i : Nat) : Bool := decide (sineHi ((i : Int) + 90000000) ≤ v)

theorem pLow_mono (v : Int) : ∀ a b, a ≤ b → b < 180000001 → pLow v a = true → pLow v b = true := by
  intro a b h hb hp
  unfold pLow at *
  have := (cos_anti h (by omega)).1
  simp only [decide_eq_true_eq] at *
  omega

theorem pHigh_mono (v : Int) : ∀ a b, a ≤ b → b < 180000000 → pHigh v a = true → pHigh v b = true := by
  intro a b h hb hp
  unfold pHigh at *
  have := (cos_anti h (by omega)).2
  simp only [decide_eq_true_eq] at *
  omega

/-- where the cosine's lower end first is below v; where its upper end first is not above v -/
noncomputable def acLow (v : Int) : Nat := Classical.choose (Cut.exists 180000001 (pLow v) (pLow_mono v))
noncomputable def acHigh (v : Int) : Nat := Classical.choose (Cut.exists 180000000 (pHigh v) (pHigh_mono v))
theorem acLow_cut (v : Int) : Cut 180000001 (pLow v) (acLow v) := Classical.choose_spec (Cut.exists 180000001 (pLow v) (pLow_mono v))
theorem acHigh_cut (v : Int) : Cut 180000000 (pHigh v) (acHigh v) := Classical.choose_spec (Cut.exists 180000000 (pHigh v) (pHigh_mono v))

theorem Cut.at {n : Nat} {p : Nat → Bool} {r k : Nat} (h : Cut n p r) (hk : k + 1 < n) (h0 : p k = false) (h1 : p (k + 1) = true) : r = k + 1 := by
  obtain ⟨a, b, c⟩ := h
  rcases Nat.lt_trichotomy r (k + 1) with d | d | d
  · have := c k (by omega) (by omega); rw [h0] at this; cases this
  · exact d
  · have := b (k + 1) d; rw [h1] at this; cases this

end Go.Proofs.YtjbhnjnlpekpoaaDoor.Trig
