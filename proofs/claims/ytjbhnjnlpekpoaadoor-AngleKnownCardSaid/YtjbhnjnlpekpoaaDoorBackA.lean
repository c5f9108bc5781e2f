/-
  AngleBack returns true, whatever the numbers.
-/
import Derived.Test.YtjbhnjnlpekpoaaDoorBackW
namespace Go.Proofs.YtjbhnjnlpekpoaaDoor
open Go.RowKit Go.Sort Trig
set_option linter.unusedVariables false

set_option maxRecDepth 100000 in
set_option maxHeartbeats 1000000 in
theorem back_out (a v : Int) (w : World) (T : Tables w) (h : (a < 0) ∨ (¬ a < 0 ∧ 180000000 < a) ∨ (¬ a < 0 ∧ ¬ 180000000 < a ∧ v < -100000000) ∨ (¬ a < 0 ∧ ¬ 180000000 < a ∧ ¬ v < -100000000 ∧ 100000000 < v)) :
    Calls Tryd.prog 4 #[.int .i64 a, .int .i64 v] w fun e w' => e = .returned (.bool true) ∧ Q w w' := by
  rcases h with h | ⟨h1, h2⟩ | ⟨h1, h2, h3⟩ | ⟨h1, h2, h3, h4⟩
  all_goals
    go_enter Tryd.func4, Tryd.ntmps4
    go_wp2_with fail
    refine (Awake_any _ T).mono ?_
    rintro e w1 ⟨rfl, Q1⟩
    go_wp2_with fail
    go_ret
    exact ⟨rfl, Q1⟩

theorem arcsin_yes (lo hi : Int) (w : World) (h : Hid (wildB lo hi 100000000 = false)) (h1 : -100000000 ≤ lo ∧ lo ≤ 100000000) (h2 : -100000000 ≤ hi ∧ hi ≤ 100000000) :
    Calls Tryd.prog 23 #[encl lo hi] w fun e w' => e = .returned (.tuple #[encl (90000000 - (acHigh lo : Int)) (90000000 - ((acLow hi : Int) - 1)), .int .i64 0]) ∧ Q w w' := by
  have c1 := (Trig.acLow_cut hi).1
  have c2 := (Trig.acHigh_cut lo).1
  have b1 : (Trig.acLow hi : Int) ≤ 180000001 := by omega
  have b2 : (Trig.acHigh lo : Int) ≤ 180000000 := by omega
  have b3 : 0 ≤ (Trig.acLow hi : Int) := by omega
  have b4 : 0 ≤ (Trig.acHigh lo : Int) := by omega
  clear c1 c2
  go_enter Tryd.func23, Tryd.ntmps23
  go_wp2_with fail
  refine (Arccos_yes lo hi _ h (by omega) (by omega)).mono ?_
  rintro e w1 ⟨rfl, Q1⟩
  have z1 : w.heap.size + 1 < w1.heap.size := by have := Q1.size; simp at this; omega
  obtain ⟨o1, o2, o3⟩ := Q1.old
  have Q2 := Q.trans (((Q.refl w).alloc _).alloc _) Q1
  clear Q1 h
  generalize hp : (acLow hi : Int) - 1 = p at *
  generalize hq : (acHigh lo : Int) = q at *
  have b5 : -1 ≤ p := by omega
  have b6 : p ≤ 180000000 := by omega
  have Hp := Lib.hid hp
  have Hq := Lib.hid hq
  clear hp hq b1 b3
  go_wp2_with fail
  exact bodyPost_ret (v := .tuple #[encl (90000000 - q) (90000000 - p), .int .i64 0]) (by simp [results, Tryd.results23, go_sem, o1, z1]) rfl ⟨by rw [Hp.out, Hq.out], by repeat (first | assumption | apply Q.alloc | (refine Q.setCell ?_ (by simp) _))⟩

theorem wild_cos {lo hi : Int} (h1 : lo ≤ hi) (h2 : -100000000 ≤ lo) (h3 : hi ≤ 100000000) : wildB lo hi 100000000 = false := by
  unfold wildB
  simp
  omega

theorem ec_arccos (x y p q : Int) (h1 : x ≤ y) (h2 : -100000000 ≤ x) (h3 : y ≤ 100000000) (hp : (acLow y : Int) - 1 = p) (hq : (acHigh x : Int) = q) : EC 22 x y p q := by
  intro w
  subst hp hq
  exact Arccos_yes x y w (wild_cos h1 h2 h3) (by omega) (by omega)
theorem ec_arcsin (x y p q : Int) (h1 : x ≤ y) (h2 : -100000000 ≤ x) (h3 : y ≤ 100000000) (hp : 90000000 - (acHigh x : Int) = p) (hq : 90000000 - ((acLow y : Int) - 1) = q) : EC 23 x y p q := by
  intro w
  subst hp hq
  exact arcsin_yes x y w (wild_cos h1 h2 h3) (by omega) (by omega)

theorem cosLo_at (i : Nat) : cosLo i = sineLo ((i : Int) + 90000000) := rfl
theorem cosHi_at (i : Nat) : cosHi i = sineHi ((i : Int) + 90000000) := rfl
attribute [local irreducible] sineLo sineHi acLow acHigh cosLo cosHi

theorem angleBack_all (a v : Int) (_ : (Lit.int .i64 a).wf = true) (_ : (Lit.int .i64 v).wf = true) (w : World) (T : Tables w) :
    Calls Tryd.prog 4 #[.int .i64 a, .int .i64 v] w fun e w' => e = .returned (.bool true) ∧ Q w w' := by
  by_cases h : (a < 0) ∨ (¬ a < 0 ∧ 180000000 < a) ∨ (¬ a < 0 ∧ ¬ 180000000 < a ∧ v < -100000000) ∨ (¬ a < 0 ∧ ¬ 180000000 < a ∧ ¬ v < -100000000 ∧ 100000000 < v)
  · exact back_out a v w T h
  · have k : 0 ≤ a ∧ a ≤ 180000000 ∧ -100000000 ≤ v ∧ v ≤ 100000000 := by omega
    clear h
    obtain ⟨a1, a2, v1, v2⟩ := k
    obtain ⟨n, rfl⟩ : ∃ n : Nat, a = n := ⟨a.toNat, by omega⟩
    have B1 := back_cos n (by omega)
    have B2 := back_cos (180000000 - n) (by omega)
    have less := sine_less n (by omega)
    obtain ⟨m1, m2, m3, m4, m5, m6, m7⟩ := ac_value v v1 v2
    have c1 := sine_bds ((n : Int) + 90000000)
    have c2 := sine_bds ((n : Int) - 90000000)
    have E1 := cosLo_at n
    have E2 := cosHi_at n
    rw [E1, E2] at B1
    rw [← less.1, ← less.2] at B2
    have ep : ((acLow v - 1 : Nat) : Int) = (acLow v : Int) - 1 := by omega
    have F1 : cosHi (acLow v - 1) = sineHi ((acLow v : Int) - 1 + 90000000) := by rw [cosHi_at, ep]
    rw [F1] at m6
    have F2 := cosLo_at (acHigh v)
    rw [F2] at m7
    clear E1 E2 F1 F2 ep less
    have r1 : -3600000000 ≤ (n : Int) ∧ (n : Int) ≤ 3600000000 ∧ -3600000000 ≤ (n : Int) - 90000000 ∧ (n : Int) - 90000000 ≤ 3600000000 := by clear B1 B2 m1 m2 m3 m4 m5 m6 m7 c1 c2; omega
    have r2 : -3600000000 ≤ (acLow v : Int) - 1 ∧ (acLow v : Int) - 1 ≤ 3600000000 ∧ -3600000000 ≤ (acHigh v : Int) ∧ (acHigh v : Int) ≤ 3600000000 ∧ 0 ≤ (acLow v : Int) - 1 ∧ (acHigh v : Int) ≤ 180000000 ∧ (acHigh v : Int) - ((acLow v : Int) - 1) ≤ 1 ∧ (acLow v : Int) - 1 ≤ 180000000 ∧ 0 ≤ (acHigh v : Int) := by
      clear B1 B2 m5 m6 m7 c1 c2 r1
      generalize acLow v = p at *
      generalize acHigh v = q at *
      omega
    have q1 := sc_cos n _ _ r1.1 r1.2.1 rfl rfl
    have q2 := ec_arccos (sineLo ((n : Int) + 90000000)) (sineHi ((n : Int) + 90000000)) _ _ c1.1 c1.2.2.1 c1.2.2.2 rfl rfl
    have q3 := sc_sin ((n : Int) - 90000000) _ _ r1.2.2.1 r1.2.2.2 rfl rfl
    have q4 := ec_arcsin (sineLo ((n : Int) - 90000000)) (sineHi ((n : Int) - 90000000)) _ _ c2.1 c2.2.2.1 c2.2.2.2 rfl rfl
    have q5 := ec_arccos v v _ _ (Int.le_refl v) v1 v2 rfl rfl
    have q6 := ec_arcsin v v _ _ (Int.le_refl v) v1 v2 rfl rfl
    have q7 := sc_cos ((acLow v : Int) - 1) _ _ r2.1 r2.2.1 rfl rfl
    have q8 := sc_cos (acHigh v) _ _ r2.2.2.1 r2.2.2.2.1 rfl rfl
    have B3 : 90000000 - (acHigh (sineLo ((n : Int) - 90000000)) : Int) ≤ (n : Int) - 90000000 ∧ (n : Int) - 90000000 ≤ 90000000 - ((acLow (sineHi ((n : Int) - 90000000)) : Int) - 1) := by
      clear B1 m1 m2 m3 m4 m5 m6 m7 c1 c2 r1 r2 q1 q2 q3 q4 q5 q6 q7 q8
      generalize acHigh (sineLo ((n : Int) - 90000000)) = p at *
      generalize acLow (sineHi ((n : Int) - 90000000)) = q at *
      omega
    exact back_in n v _ _ _ _ _ _ _ _ ((acLow v : Int) - 1) (acHigh v) _ _ _ _ w T a1 a2 v1 v2
      q1 q2 B1.1 B1.2 q3 q4 B3.1 B3.2 q5 q6 r2.2.2.2.2.1 r2.2.2.2.2.2.1 r2.2.2.2.2.2.2.1 r2.2.2.2.2.2.2.2.1 r2.2.2.2.2.2.2.2.2 q7 q8 m6 m7

end Go.Proofs.YtjbhnjnlpekpoaaDoor
