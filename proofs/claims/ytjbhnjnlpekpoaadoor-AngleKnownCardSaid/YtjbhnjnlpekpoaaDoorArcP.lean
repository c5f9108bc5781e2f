/-
  Plain laws of the arc cosine: the document's search comes to the program's; the ends against the value.
-/
import Derived.Test.YtjbhnjnlpekpoaaDoorBack
namespace Go.Proofs.YtjbhnjnlpekpoaaDoor.Trig
set_option linter.unusedVariables false

theorem cosHi_last : cosHi 180000000 = -100000000 := by decide +kernel

/-- the document's upper end is the program's -/
theorem ac_ref (v : Int) (h1 : -100000000 ≤ v) (h2 : v ≤ 100000000) : (acHigh v : Int) = (if cosHi (acLow v - 1) ≤ v then (acLow v : Int) - 1 else (acLow v : Int)) := by
  obtain ⟨a1, a2, a3, a4, a5, a6, a7⟩ := ac_value v h1 h2
  have cl := acLow_cut v
  have ch := acHigh_cut v
  obtain ⟨L, hL⟩ : ∃ L, acLow v = L + 1 := ⟨acLow v - 1, by omega⟩
  rw [hL] at a5 a6 cl a2 ⊢
  simp only [Nat.add_sub_cancel] at a5 a6 ⊢
  split
  · rename_i c
    have : Cut 180000000 (pHigh v) L := by
      refine ⟨by omega, fun t ht => ?_, fun t t1 t2 => ?_⟩
      · rw [pHigh_iff, decide_eq_false_iff_not]
        have := cos_below (i := t) (j := L) ht (by omega)
        omega
      · exact pHigh_mono v L t t1 t2 (by rw [pHigh_iff, decide_eq_true_iff]; exact c)
    have := ch.unique this
    omega
  · rename_i c
    have l1 : L ≠ 180000000 := by
      intro e
      rw [e, cosHi_last] at c
      omega
    have : Cut 180000000 (pHigh v) (L + 1) := by
      refine ⟨by omega, fun t ht => ?_, fun t t1 t2 => ?_⟩
      · rw [pHigh_iff, decide_eq_false_iff_not]
        have := (cos_anti (a := t) (b := L) (by omega) (by omega)).2
        unfold cosHi at *
        omega
      · have := cl.2.2 t t1 (by omega)
        rw [pLow_iff, decide_eq_true_iff] at this
        have := cos_wide t
        rw [pHigh_iff, decide_eq_true_iff]
        omega
    have := ch.unique this
    omega

theorem acLow_anti {v u : Int} (h : v ≤ u) : acLow u ≤ acLow v := by
  have c := acLow_cut v
  have d := acLow_cut u
  rcases Nat.lt_or_ge (acLow v) (acLow u) with k | k
  · have e1 := d.2.1 _ k
    have e2 := c.2.2 (acLow v) (Nat.le_refl _) (by have := d.1; omega)
    rw [pLow_iff, decide_eq_true_iff] at e2
    rw [pLow_iff, decide_eq_false_iff_not] at e1
    omega
  · exact k

theorem acHigh_anti {v u : Int} (h : v ≤ u) : acHigh u ≤ acHigh v := by
  have c := acHigh_cut v
  have d := acHigh_cut u
  rcases Nat.lt_or_ge (acHigh v) (acHigh u) with k | k
  · have e1 := d.2.1 _ k
    have e2 := c.2.2 (acHigh v) (Nat.le_refl _) (by have := d.1; omega)
    rw [pHigh_iff, decide_eq_true_iff] at e2
    rw [pHigh_iff, decide_eq_false_iff_not] at e1
    omega
  · exact k

end Go.Proofs.YtjbhnjnlpekpoaaDoor.Trig
