/-
  The square root of a float64 made of an integer, cut to an integer: some small natural number.
-/
import GoSem.Core.Float
namespace Go.Proofs.YtjbhnjnlpekpoaaDoor.Sq
open Ieee
set_option linter.unusedVariables false

theorem lt_pow_log (n : Nat) : n < 2 ^ (n.log2 + 1) := Nat.lt_log2_self

theorem shl (a b : Nat) : a <<< b = a * 2 ^ b := Nat.shiftLeft_eq a b

/-- what is kept of a number, at most -/
theorem kept_le (mag : Nat) (place last : Int) (h : place + mag.log2 - 52 ≤ last) :
    Toward.even.cut false (mag <<< (place - last).toNat) (last - place).toNat ≤ 2 ^ 53 := by
  unfold Toward.cut
  simp only
  have hl := lt_pow_log mag
  rcases Int.lt_or_le last place with hp | hp
  · have e1 : (last - place).toNat = 0 := by omega
    rw [e1, Nat.zero_min]
    simp only [shl, Nat.pow_zero, Nat.mul_one, Nat.div_one, Nat.mod_one, Nat.mul_zero]
    have : ((decide (1 < 0) || (1 == 0 && mag * 2 ^ (place - last).toNat % 2 == 1)) : Bool).toNat = 0 := by simp
    rw [this, Nat.add_zero]
    have h2 : mag * 2 ^ (place - last).toNat < 2 ^ (mag.log2 + 1) * 2 ^ (place - last).toNat := Nat.mul_lt_mul_of_pos_right hl (Nat.two_pow_pos _)
    rw [← Nat.pow_add] at h2
    have h3 : 2 ^ (mag.log2 + 1 + (place - last).toNat) ≤ 2 ^ 53 := Nat.pow_le_pow_right (by omega) (by omega)
    omega
  · have e1 : (place - last).toNat = 0 := by omega
    rw [e1]
    simp only [shl, Nat.pow_zero, Nat.mul_one, Nat.one_mul]
    generalize hg : min (last - place).toNat (mag.log2 + 2) = g
    have k1 : mag / 2 ^ g < 2 ^ 53 := by
      refine Nat.div_lt_of_lt_mul ?_
      rw [← Nat.pow_add]
      exact Nat.lt_of_lt_of_le hl (Nat.pow_le_pow_right (by omega) (by omega))
    have k2 : ∀ b : Bool, b.toNat ≤ 1 := fun b => by cases b <;> decide
    exact Nat.le_trans (Nat.add_le_add_left (k2 _) _) k1

theorem least : double.leastPlace = -1074 := by decide
theorem binade : double.binade = 2 ^ 52 := by decide
theorem inf : double.infRung = 2047 * 2 ^ 52 := by decide
theorem weight : double.signWeight = 2 ^ 63 := by decide

/-- the word nearest to a number below 2 ^ (T + 1) -/
theorem nearest_le (mag : Nat) (place : Int) (T : Nat) (h : place + mag.log2 ≤ T) : double.nearest false mag place ≤ (T + 1024) * 2 ^ 52 := by
  unfold Format.nearest
  rw [least]
  split
  · show 0 ≤ _
    exact Nat.zero_le _
  · simp only [Format.word]
    rw [show double.fractionBits = 52 from rfl]
    rw [if_neg (by decide)]
    refine Nat.le_trans (Nat.min_le_left _ _) ?_
    have k := kept_le mag place (max (place + mag.log2 - 52) (-1074)) (by omega)
    rw [binade]
    generalize Toward.even.cut false _ _ = kept at *
    have h1 : (max (place + ↑mag.log2 - ↑52) (-1074) - -1074).toNat ≤ T + 1022 := by omega
    have h2 := Nat.mul_le_mul_right (2 ^ 52) h1
    have h3 : (T + 1024) * 2 ^ 52 = (T + 1022) * 2 ^ 52 + 2 ^ 53 := by rw [show T + 1024 = (T + 1022) + 2 from rfl, Nat.add_mul]
    rw [h3]
    exact Nat.add_le_add h2 k

/-- what a small word stands for -/
theorem read_le (r T : Nat) (hT : T ≤ 1000) (h : r ≤ (T + 1024) * 2 ^ 52) : ∃ (m : Nat) (e : Int), double.read r = .number false m e ∧ m < 2 ^ 53 ∧ e ≤ (T : Int) - 51 := by
  unfold Format.read
  rw [least, binade, inf, weight]
  have h0 : r < 2 ^ 63 := by omega
  have e1 : r / 2 ^ 63 = 0 := Nat.div_eq_of_lt h0
  have e2 : r % 2 ^ 63 = r := Nat.mod_eq_of_lt h0
  simp only [e1, e2]
  have h1 : r / 2 ^ 52 ≤ T + 1024 := by
    refine Nat.div_le_of_le_mul ?_
    rw [Nat.mul_comm]; exact h
  by_cases c : r < 2 ^ 52
  · rw [if_pos c]
    exact ⟨r, -1074, rfl, by omega, by omega⟩
  · rw [if_neg c, if_pos (by omega)]
    have h2 : r % 2 ^ 52 < 2 ^ 52 := Nat.mod_lt _ (by omega)
    refine ⟨_, _, rfl, by omega, by omega⟩

theorem rootFrom_lt (n : Nat) : ∀ todo root, Datum.rootFrom n todo root < root + 2 ^ todo
  | 0, root => by simp [Datum.rootFrom]
  | todo + 1, root => by
    unfold Datum.rootFrom
    simp only
    have h1 := rootFrom_lt n todo (if (root + 1 <<< todo) * (root + 1 <<< todo) ≤ n then root + 1 <<< todo else root)
    have h2 : (if (root + 1 <<< todo) * (root + 1 <<< todo) ≤ n then root + 1 <<< todo else root) ≤ root + 2 ^ todo := by
      have h4 := Nat.two_pow_pos todo
      rw [shl, Nat.one_mul]
      split <;> omega
    have h3 : 2 ^ (todo + 1) = 2 ^ todo + 2 ^ todo := by rw [Nat.pow_succ]; omega
    omega

theorem log_le {n k : Nat} (h : n < 2 ^ (k + 1)) : n.log2 ≤ k := by
  by_cases h0 : n = 0
  · subst h0; exact Nat.zero_le _
  · have := (Nat.log2_lt h0 (k := k + 1)).2 h
    omega

/-- the root of a number below 2 ^ 60 is a number below 2 ^ 30 -/
theorem root_le (m : Nat) (i : Int) (hm : m < 2 ^ 53) (hi : i ≤ 7) : ∃ (k : Nat) (j : Int), Datum.root 54 (.number false m i) = some (.number false k j) ∧ (k = 0 ∨ j + k.log2 ≤ 29) := by
  unfold Datum.root
  by_cases h0 : m = 0
  · simp only [h0, if_true]
    exact ⟨0, i, rfl, .inl rfl⟩
  · simp only [h0, if_false, Bool.false_eq_true]
    have hl : m.log2 ≤ 52 := log_le hm
    generalize hq : 2 * 54 - m.log2 = more0
    generalize hp : ((i - (more0 : Int)) % 2).toNat = par
    have hpar : par ≤ 1 := by omega
    refine ⟨_, _, rfl, .inr ?_⟩
    generalize hn : m <<< (more0 + par) = n
    have nl : n.log2 ≤ 109 := by
      refine log_le ?_
      rw [← hn, shl]
      have a1 := lt_pow_log m
      have a2 : m * 2 ^ (more0 + par) < 2 ^ (m.log2 + 1) * 2 ^ (more0 + par) := Nat.mul_lt_mul_of_pos_right a1 (Nat.two_pow_pos _)
      rw [← Nat.pow_add] at a2
      exact Nat.lt_of_lt_of_le a2 (Nat.pow_le_pow_right (by omega) (by omega))
    have w1 := rootFrom_lt n (n.log2 / 2 + 1) 0
    have w2 : 2 ^ (n.log2 / 2 + 1) ≤ 2 ^ 55 := Nat.pow_le_pow_right (by omega) (by omega)
    generalize Datum.rootFrom n (n.log2 / 2 + 1) 0 = whole at *
    have k2 : ∀ b : Bool, b.toNat ≤ 1 := fun b => by cases b <;> decide
    have k3 := k2 (whole * whole != n)
    generalize (whole * whole != n).toNat = b at *
    have w3 : (2 * whole + b).log2 ≤ 55 := log_le (by omega)
    generalize (2 * whole + b).log2 = lg at *
    rw [Int.natCast_add]
    omega

theorem toInt_le (m : Nat) (e : Int) (hm : m < 2 ^ 53) (he : e ≤ -22) : ∃ r : Nat, (Datum.number false m e).toInt .zero = some (r : Int) ∧ r < 2 ^ 31 := by
  unfold Datum.toInt Datum.integral
  simp only
  refine ⟨Toward.zero.cut false (m <<< e.toNat) (-e).toNat, ?_, ?_⟩
  · simp [signed]
  · have e1 : e.toNat = 0 := by omega
    rw [e1]
    unfold Toward.cut
    simp only [shl, Nat.pow_zero, Nat.mul_one, Nat.one_mul, Bool.toNat_false, Nat.add_zero]
    refine Nat.div_lt_of_lt_mul ?_
    rw [← Nat.pow_add]
    have hl := lt_pow_log m
    rcases Nat.le_total (-e).toNat (m.log2 + 2) with c | c
    · rw [Nat.min_eq_left c]
      exact Nat.lt_of_lt_of_le hm (Nat.pow_le_pow_right (by omega) (by omega))
    · rw [Nat.min_eq_right c]
      exact Nat.lt_of_lt_of_le hl (Nat.pow_le_pow_right (by omega) (by omega))

theorem sqrt_ex (n : Nat) (h : n < 2 ^ 59) : ∃ s r : Nat, FloatKind.f64.format.sqrt (FloatKind.f64.nearest (n : Int)) = some s ∧ (FloatKind.f64.decode s).toInt .zero = some (r : Int) ∧ r < 2 ^ 31 := by
  have e0 : FloatKind.f64.nearest (n : Int) = double.nearest false n 0 := by
    unfold FloatKind.nearest FloatKind.encode
    have : decide ((n : Int) < 0) = false := decide_eq_false (by omega)
    rw [this]
    rfl
  rw [e0]
  have a1 := nearest_le n 0 58 (by have := log_le (k := 58) h; omega)
  obtain ⟨m, e, q1, q2, q3⟩ := read_le _ 58 (by omega) a1
  obtain ⟨k, j, q4, q5⟩ := root_le m e q2 (by omega)
  have a2 : double.nearest false k j ≤ (29 + 1024) * 2 ^ 52 := by
    rcases q5 with rfl | q5
    · show 0 ≤ _
      exact Nat.zero_le _
    · exact nearest_le k j 29 (by omega)
  obtain ⟨m', e', p1, p2, p3⟩ := read_le _ 29 (by omega) a2
  obtain ⟨r, p4, p5⟩ := toInt_le m' e' p2 (by omega)
  refine ⟨double.nearest false k j, r, ?_, ?_, p5⟩
  · show ((double.read (double.nearest false n 0)).root (52 + 2)).map double.write = _
    rw [q1, show 52 + 2 = 54 from rfl, q4]
    rfl
  · show (double.read (double.nearest false k j)).toInt .zero = _
    rw [p1, p4]

end Go.Proofs.YtjbhnjnlpekpoaaDoor.Sq
