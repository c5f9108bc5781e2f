/-
  Arccos and Arcsin of package angle: what they return, for every enclosure.
-/
import Derived.Test.YtjbhnjnlpekpoaaDoorBackA
import Derived.Test.YtjbhnjnlpekpoaaDoorArcP
namespace Go.Proofs.YtjbhnjnlpekpoaaDoor
open Go.RowKit Go.Sort Trig
set_option linter.unusedVariables false

theorem acLow_bd (v : Int) : 0 ≤ (acLow v : Int) ∧ (acLow v : Int) ≤ 180000001 := by
  have := (acLow_cut v).1
  omega
theorem acHigh_bd (v : Int) : 0 ≤ (acHigh v : Int) ∧ (acHigh v : Int) ≤ 180000000 := by
  have := (acHigh_cut v).1
  omega

abbrev arcRes (x y A B er : Int) : Prop := (wildB x y 100000000 = true ∧ A = 0 ∧ B = 0 ∧ er = 7) ∨ (wildB x y 100000000 = false ∧ A = (acLow y : Int) - 1 ∧ B = (acHigh x : Int) ∧ er = 0)
abbrev asnRes (x y A B er : Int) : Prop := (wildB x y 100000000 = true ∧ A = 0 ∧ B = 0 ∧ er = 7) ∨ (wildB x y 100000000 = false ∧ A = 90000000 - (acHigh x : Int) ∧ B = 90000000 - ((acLow y : Int) - 1) ∧ er = 0)
theorem arcRes_ex (x y : Int) : ∃ A B er, arcRes x y A B er := by
  cases h : wildB x y 100000000 with
  | true => exact ⟨0, 0, 7, .inl ⟨h, rfl, rfl, rfl⟩⟩
  | false => exact ⟨_, _, 0, .inr ⟨h, rfl, rfl, rfl⟩⟩
theorem asnRes_ex (x y : Int) : ∃ A B er, asnRes x y A B er := by
  cases h : wildB x y 100000000 with
  | true => exact ⟨0, 0, 7, .inl ⟨h, rfl, rfl, rfl⟩⟩
  | false => exact ⟨_, _, 0, .inr ⟨h, rfl, rfl, rfl⟩⟩

theorem wild8_is {x y : Int} (h : wildB x y 100000000 = false) : x ≤ y ∧ -100000000 ≤ x ∧ y ≤ 100000000 := by
  unfold wildB at h
  simp only [Bool.or_eq_false_iff, decide_eq_false_iff_not] at h
  omega
theorem wild8_isnt {x y : Int} (h : wildB x y 100000000 = true) : y < x ∨ (¬ y < x ∧ x < -100000000) ∨ (¬ y < x ∧ ¬ x < -100000000 ∧ 100000000 < y) := by
  unfold wildB at h
  simp only [Bool.or_eq_true, decide_eq_true_eq] at h
  omega

theorem Arccos_any (x y A B er : Int) (w : World) (h1 : -9223372036854775808 ≤ x ∧ x ≤ 9223372036854775807) (h2 : -9223372036854775808 ≤ y ∧ y ≤ 9223372036854775807) (hr : arcRes x y A B er) :
    Calls Tryd.prog 22 #[encl x y] w fun e w' => e = .returned (.tuple #[encl A B, .int .i64 er]) ∧ Q w w' := by
  rcases hr with ⟨h, rfl, rfl, rfl⟩ | ⟨h, rfl, rfl, rfl⟩
  · exact Arccos_no x y w h h1 h2
  · exact Arccos_yes x y w h h1 h2

set_option maxRecDepth 100000 in
set_option maxHeartbeats 2000000 in
theorem Arcsin_no (x y : Int) (w : World) (h : Hid (wildB x y 100000000 = true)) (h1 : -9223372036854775808 ≤ x ∧ x ≤ 9223372036854775807) (h2 : -9223372036854775808 ≤ y ∧ y ≤ 9223372036854775807) :
    Calls Tryd.prog 23 #[encl x y] w fun e w' => e = .returned (.tuple #[encl 0 0, .int .i64 7]) ∧ Q w w' := by
  go_enter Tryd.func23, Tryd.ntmps23
  go_wp2_with fail
  refine (Arccos_no x y _ h (by omega) (by omega)).mono ?_
  rintro e w1 ⟨rfl, Q1⟩
  have z1 : w.heap.size + 1 < w1.heap.size := by have := Q1.size; simp at this; omega
  obtain ⟨o1, o2, o3⟩ := Q1.old
  have Q2 := Q.trans (((Q.refl w).alloc _).alloc _) Q1
  clear Q1 h
  go_wp2_with fail
  exact bodyPost_ret (v := .tuple #[encl 0 0, .int .i64 7]) (by simp [results, Tryd.results23, go_sem, o1, z1]) rfl ⟨rfl, by repeat (first | assumption | apply Q.alloc | (refine Q.setCell ?_ (by simp) _))⟩

theorem Arcsin_any (x y A B er : Int) (w : World) (h1 : -9223372036854775808 ≤ x ∧ x ≤ 9223372036854775807) (h2 : -9223372036854775808 ≤ y ∧ y ≤ 9223372036854775807) (hr : asnRes x y A B er) :
    Calls Tryd.prog 23 #[encl x y] w fun e w' => e = .returned (.tuple #[encl A B, .int .i64 er]) ∧ Q w w' := by
  rcases hr with ⟨h, rfl, rfl, rfl⟩ | ⟨h, rfl, rfl, rfl⟩
  · exact Arcsin_no x y w h h1 h2
  · have k := wild8_is h
    exact arcsin_yes x y w h (by omega) (by omega)

theorem arc_inn (x0 x1 u0 u1 P0 P1 pe R0 R1 re : Int) (hu : x0 ≤ u0 ∧ u0 ≤ u1 ∧ u1 ≤ x1) (hp : arcRes u0 u1 P0 P1 pe) (hr : arcRes x0 x1 R0 R1 re) : re = 0 → pe = 0 ∧ R0 ≤ P0 ∧ P1 ≤ R1 := by
  intro h0
  rcases hr with ⟨_, _, _, h7⟩ | ⟨hb, rfl, rfl, _⟩
  · omega
  · have k := wild8_is hb
    have hb' : wildB u0 u1 100000000 = false := wild_cos (by omega) (by omega) (by omega)
    rcases hp with ⟨h, _⟩ | ⟨_, rfl, rfl, h⟩
    · rw [hb'] at h; cases h
    · have a := acLow_anti (v := u1) (u := x1) (by omega)
      have b := acHigh_anti (v := x0) (u := u0) (by omega)
      exact ⟨h, by omega, by omega⟩
theorem asn_inn (x0 x1 u0 u1 P0 P1 pe R0 R1 re : Int) (hu : x0 ≤ u0 ∧ u0 ≤ u1 ∧ u1 ≤ x1) (hp : asnRes u0 u1 P0 P1 pe) (hr : asnRes x0 x1 R0 R1 re) : re = 0 → pe = 0 ∧ R0 ≤ P0 ∧ P1 ≤ R1 := by
  intro h0
  rcases hr with ⟨_, _, _, h7⟩ | ⟨hb, rfl, rfl, _⟩
  · omega
  · have k := wild8_is hb
    have hb' : wildB u0 u1 100000000 = false := wild_cos (by omega) (by omega) (by omega)
    rcases hp with ⟨h, _⟩ | ⟨_, rfl, rfl, h⟩
    · rw [hb'] at h; cases h
    · have a := acLow_anti (v := u1) (u := x1) (by omega)
      have b := acHigh_anti (v := x0) (u := u0) (by omega)
      exact ⟨h, by omega, by omega⟩

end Go.Proofs.YtjbhnjnlpekpoaaDoor
