/-
  What AngleCircle compares, with the ends that the program returns.
-/
import Derived.Test.YtjbhnjnlpekpoaaDoorCirc
namespace Go.Proofs.YtjbhnjnlpekpoaaDoor
open Trig
attribute [local irreducible] SN CN ez ep

theorem sHi_w (a : Nat) : (sLo a : Int) ≤ (sHi a : Int) ∧ (sHi a : Int) ≤ (sLo a : Int) + 1 := by
  unfold sHi
  split <;> omega

theorem sine_bds (a : Int) : sineLo a ≤ sineHi a ∧ sineHi a ≤ sineLo a + 1 ∧ -100000000 ≤ sineLo a ∧ sineHi a ≤ 100000000 := by
  have h1 := sHi_w (q4 a)
  have h2 := sLo_le (q4_le a)
  unfold sineLo sineHi
  split <;> omega

theorem sine_small (a : Int) : Small (sineLo a) ∧ Small (sineHi a) := by
  have := sine_bds a
  unfold Small
  omega

theorem sine_turn (a : Int) : sineLo (a + 360000000) = sineLo a ∧ sineHi (a + 360000000) = sineHi a := by
  have h : (a + 360000000) % 360000000 = a % 360000000 := Int.add_emod_right a 360000000
  unfold sineLo sineHi q4 dn
  rw [h]
  exact ⟨rfl, rfl⟩

attribute [local irreducible] sineLo sineHi

theorem enc_of {l h : Int} {X : Rat} (b : l ≤ h ∧ h ≤ l + 1 ∧ -100000000 ≤ l ∧ h ≤ 100000000) (k : (l : Rat) - 2 * ez ≤ X ∧ X ≤ (h : Rat) + 2 * ez) : Enc l h X := by
  have b1 := cast_le (show -200000000 ≤ l by omega)
  have b2 := cast_le (show h ≤ 200000000 by omega)
  exact ⟨b.1, k.1, k.2, b1, b2⟩

theorem enc_sine (a : Int) : Enc (sineLo a) (sineHi a) (100000000 * SN a) := by
  have h := encl_sine a
  have e := eps_bd.2.2.2.2.2
  exact enc_of (sine_bds a) (by constructor <;> grind)

theorem enc_cosine (a : Int) : Enc (sineLo (a + 90000000)) (sineHi (a + 90000000)) (100000000 * CN a) := enc_of (sine_bds _) (encl_cosine a)

theorem cast_add (a b : Int) : ((a + b : Int) : Rat) = (a : Rat) + (b : Rat) := Rat.intCast_add a b
theorem cast_sub (a b : Int) : ((a - b : Int) : Rat) = (a : Rat) - (b : Rat) := Rat.intCast_sub a b
theorem cast_e8 (a : Int) : ((a * 100000000 : Int) : Rat) = (a : Rat) * 100000000 := Rat.intCast_mul a 100000000

theorem tau_bd : 0 ≤ tau ∧ 8 * tau ≤ 1 / 4 ∧ 100000000 * 100000000 * (10 * ep) ≤ 1 / 4 ∧ 100000000 * (4 * ez) ≤ 1 / 4 ∧ 0 ≤ ez ∧ 0 ≤ ep := by
  unfold tau ez ep; decide +kernel

theorem circle1 (a : Int) : meetB (sqLo (sineLo a) (sineHi a) + sqLo (sineLo (a + 90000000)) (sineHi (a + 90000000))) (sqHi (sineLo a) (sineHi a) + sqHi (sineLo (a + 90000000)) (sineHi (a + 90000000))) 10000000000000000 10000000000000000 = true := by
  have s := sq_encl (enc_sine a)
  have c := sq_encl (enc_cosine a)
  have q := squares a
  obtain ⟨t1, t2, t3, t4, t5, t6⟩ := tau_bd
  unfold Near at q
  unfold meetB
  have k : ((10000000000000000 : Int) : Rat) = 10000000000000000 := rfl
  rw [decide_eq_true (int_le (by rw [cast_add, k]; grind)), decide_eq_true (int_le (by rw [cast_add, k]; grind))]
  rfl

theorem circle2 (a b : Int) : meetB (sineLo (a + b) * 100000000) (sineHi (a + b) * 100000000)
    (prLo (sineLo a) (sineHi a) (sineLo (b + 90000000)) (sineHi (b + 90000000)) + prLo (sineLo (a + 90000000)) (sineHi (a + 90000000)) (sineLo b) (sineHi b))
    (prHi (sineLo a) (sineHi a) (sineLo (b + 90000000)) (sineHi (b + 90000000)) + prHi (sineLo (a + 90000000)) (sineHi (a + 90000000)) (sineLo b) (sineHi b)) = true := by
  have p := prod_encl (enc_sine a) (enc_cosine b)
  have r := prod_encl (enc_cosine a) (enc_sine b)
  have q := (sum_angles a b).1
  obtain ⟨_, u1, u2, _, _⟩ := enc_sine (a + b)
  obtain ⟨t1, t2, t3, t4, t5, t6⟩ := tau_bd
  unfold Near at q
  unfold meetB
  rw [decide_eq_true (int_le (by rw [cast_add, cast_e8]; grind)), decide_eq_true (int_le (by rw [cast_add, cast_e8]; grind))]
  rfl

theorem circle3 (a b : Int) : meetB (sineLo (a + b + 90000000) * 100000000) (sineHi (a + b + 90000000) * 100000000)
    (prLo (sineLo (a + 90000000)) (sineHi (a + 90000000)) (sineLo (b + 90000000)) (sineHi (b + 90000000)) - prHi (sineLo a) (sineHi a) (sineLo b) (sineHi b))
    (prHi (sineLo (a + 90000000)) (sineHi (a + 90000000)) (sineLo (b + 90000000)) (sineHi (b + 90000000)) - prLo (sineLo a) (sineHi a) (sineLo b) (sineHi b)) = true := by
  have p := prod_encl (enc_cosine a) (enc_cosine b)
  have r := prod_encl (enc_sine a) (enc_sine b)
  have q := (sum_angles a b).2
  obtain ⟨_, u1, u2, _, _⟩ := enc_cosine (a + b)
  obtain ⟨t1, t2, t3, t4, t5, t6⟩ := tau_bd
  unfold Near at q
  unfold meetB
  rw [decide_eq_true (int_le (by rw [cast_sub, cast_e8]; grind)), decide_eq_true (int_le (by rw [cast_sub, cast_e8]; grind))]
  rfl

end Go.Proofs.YtjbhnjnlpekpoaaDoor
