/-
  Plain mathematics: the reference's decimal series for the sine, and that it rounds as the program's does. No program in it.
-/
import Derived.Test.YtjbhnjnlpekpoaaDoorGap
namespace Go.Proofs.YtjbhnjnlpekpoaaDoor.Trig
attribute [local irreducible] sn cs P H ep eta eu

/-- the reference's numbers have 45 decimal digits -/
def D45 : Nat := 10 ^ 45
def PI45 : Nat := 3141592653589793238462643383279502884197169399
def rx (a : Nat) : Nat := PI45 * a / 180000000
def rsq (x : Nat) : Nat := x * x / D45
/-- the k-th term of the reference's series -/
def rt (sq x : Nat) : Nat → Nat
  | 0 => x
  | k + 1 => rt sq x k * sq / D45 / (2 * (k + 1) * (2 * (k + 1) + 1))
def rup (sq x : Nat) : Nat → Nat
  | 0 => x
  | k + 1 => if (k + 1) % 2 = 0 then rup sq x k + rt sq x (k + 1) else rup sq x k
def rdn (sq x : Nat) : Nat → Nat
  | 0 => 0
  | k + 1 => if (k + 1) % 2 = 0 then rdn sq x k else rdn sq x k + rt sq x (k + 1)
def rS (a : Nat) : Nat := rup (rsq (rx a)) (rx a) 20 - rdn (rsq (rx a)) (rx a) 20
def rN (a : Nat) : Nat := rS a / 10 ^ 37

def dd (n : Nat) : Rat := (n : Rat) / ((10 ^ 45 : Nat) : Rat)
def v : Rat := 1 / ((10 ^ 45 : Nat) : Rat)

theorem Dpos : (0 : Rat) < ((10 ^ 45 : Nat) : Rat) := by decide +kernel
theorem v_bd : 0 < v ∧ 1000 * v ≤ ep ∧ v ≤ 1 / 1000 := by unfold v ep; decide +kernel
theorem dd_v (n : Nat) : dd n = (n : Rat) * v := by unfold dd v; grind
theorem dd_one : dd 1 = v := by rw [dd_v]; grind
theorem dd_add (m n : Nat) : dd (m + n) = dd m + dd n := by rw [dd_v, dd_v, dd_v, Rat.natCast_add]; grind
theorem dd_nonneg (n : Nat) : 0 ≤ dd n := by rw [dd_v]; exact Rat.mul_nonneg (nat_cast_nonneg n) (Rat.le_of_lt v_bd.1)
theorem dd_le {m n : Nat} (h : m ≤ n) : dd m ≤ dd n := by
  have a : (m : Rat) ≤ (n : Rat) := Rat.natCast_le_natCast.2 h
  have b := Rat.mul_nonneg (show 0 ≤ (n : Rat) - (m : Rat) by grind) (Rat.le_of_lt v_bd.1)
  rw [dd_v, dd_v]; grind
theorem dd_mul (n m : Nat) : dd (n * m) = dd n * (m : Rat) := by rw [dd_v, dd_v, Rat.natCast_mul]; grind
theorem dd_D (n : Nat) : (n : Rat) = dd n * ((10 ^ 45 : Nat) : Rat) := by unfold dd; have := Dpos; grind

/-- the product, rounded down -/
theorem dd_times (a b : Nat) : dd a * dd b - v ≤ dd (a * b / D45) ∧ dd (a * b / D45) ≤ dd a * dd b := by
  have h1 : a * b / D45 * D45 ≤ a * b := Nat.div_mul_le_self _ _
  have h2 : a * b ≤ (a * b / D45 + 1) * D45 := by
    have := Nat.div_add_mod (a * b) D45
    have := Nat.mod_lt (a * b) (y := D45) (by unfold D45; decide)
    rw [Nat.add_mul, Nat.mul_comm (a * b / D45)]; omega
  generalize a * b / D45 = q at *
  have g1 := dd_le h1
  have g2 := dd_le h2
  rw [dd_mul, dd_mul] at g1
  rw [dd_mul, dd_mul, dd_add, dd_one] at g2
  have e : ((D45 : Nat) : Rat) = ((10 ^ 45 : Nat) : Rat) := rfl
  rw [e, dd_D b] at g1 g2
  have hD := Dpos
  generalize ((10 ^ 45 : Nat) : Rat) = D at *
  generalize dd q = Q at *
  generalize dd a = A at *
  generalize dd b = B at *
  constructor
  · have : D * (A * B - v) ≤ D * Q := by grind
    exact Rat.le_of_mul_le_mul_left this hD
  · have : D * Q ≤ D * (A * B) := by grind
    exact Rat.le_of_mul_le_mul_left this hD

theorem dd_div (a m : Nat) : dd a / ((m + 1 : Nat) : Rat) - v ≤ dd (a / (m + 1)) ∧ dd (a / (m + 1)) ≤ dd a / ((m + 1 : Nat) : Rat) := by
  have h1 : a / (m + 1) * (m + 1) ≤ a := Nat.div_mul_le_self a (m + 1)
  have h2 : a ≤ (a / (m + 1) + 1) * (m + 1) := by
    have := Nat.div_add_mod a (m + 1)
    have := Nat.mod_lt a (y := m + 1) (by omega)
    rw [Nat.add_mul, Nat.mul_comm (a / (m + 1))]; omega
  have g1 := dd_le h1
  have g2 := dd_le h2
  rw [dd_mul] at g1
  rw [dd_mul, dd_add, dd_one] at g2
  have hm := cast_pos m
  have hq : ((m + 1 : Nat) : Rat) * (dd a / ((m + 1 : Nat) : Rat)) = dd a := by grind
  constructor
  · have : ((m + 1 : Nat) : Rat) * (dd a / ((m + 1 : Nat) : Rat) - v) ≤ ((m + 1 : Nat) : Rat) * dd (a / (m + 1)) := by grind
    exact Rat.le_of_mul_le_mul_left this hm
  · have : ((m + 1 : Nat) : Rat) * dd (a / (m + 1)) ≤ ((m + 1 : Nat) : Rat) * (dd a / ((m + 1 : Nat) : Rat)) := by grind
    exact Rat.le_of_mul_le_mul_left this hm

/-- the terms are near those of the series of the number itself -/
theorem rt_near (x : Nat) (hx : dd x ≤ 8 / 5) (k : Nat) : Near (dd (rt (rsq x) x k)) (e (2 * k + 1) (dd x)) (3 * v) ∧ e (2 * k + 1) (dd x) ≤ 8 / 5 ∧ 0 ≤ e (2 * k + 1) (dd x) := by
  obtain ⟨v0, v1, v2⟩ := v_bd
  have x0 := dd_nonneg x
  have q := dd_times x x
  have q0 : dd x * dd x ≤ 64 / 25 := by
    have := Rat.mul_nonneg x0 (show 0 ≤ 8 / 5 - dd x by grind)
    grind
  have e1 : e 1 (dd x) = dd x := by
    have := e_succ 0 (dd x)
    simp only [e] at this ⊢
    have c : ((0 + 1 : Nat) : Rat) = 1 := rfl
    rw [c] at this ⊢
    grind
  induction k with
  | zero =>
    show Near (dd x) (e 1 (dd x)) (3 * v) ∧ e 1 (dd x) ≤ 8 / 5 ∧ 0 ≤ e 1 (dd x)
    rw [e1]
    unfold Near
    refine ⟨⟨?_, ?_⟩, hx, x0⟩ <;> grind
  | succ k ih =>
    obtain ⟨n, t1, t0⟩ := ih
    have st := e_two (2 * k + 1) (dd x)
    have hd : 2 * (k + 1) * (2 * (k + 1) + 1) = (2 * k + 1 + 1) * (2 * k + 1 + 2) := by
      have a : 2 * (k + 1) = 2 * k + 1 + 1 := by omega
      rw [a]
    have h6 : 6 ≤ (2 * k + 1 + 1) * (2 * k + 1 + 2) := by
      have := Nat.mul_le_mul (show 2 ≤ 2 * k + 1 + 1 by omega) (show 3 ≤ 2 * k + 1 + 2 by omega); omega
    have er : rt (rsq x) x (k + 1) = rt (rsq x) x k * rsq x / D45 / (2 * (k + 1) * (2 * (k + 1) + 1)) := by simp only [rt]
    rw [show 2 * (k + 1) + 1 = 2 * k + 1 + 2 by omega, er, hd, st]
    obtain ⟨m1, m2⟩ := dd_times (rt (rsq x) x k) (rsq x)
    generalize rt (rsq x) x k = t at *
    generalize hz : t * rsq x / D45 = z at *
    rw [show (2 * k + 1 + 1) * (2 * k + 1 + 2) = ((2 * k + 1 + 1) * (2 * k + 1 + 2) - 1) + 1 by omega]
    obtain ⟨d1, d2⟩ := dd_div z ((2 * k + 1 + 1) * (2 * k + 1 + 2) - 1)
    have hinv : ∀ y : Rat, 0 ≤ y → 0 ≤ y / (((2 * k + 1 + 1) * (2 * k + 1 + 2) - 1 + 1 : Nat) : Rat) ∧ y / (((2 * k + 1 + 1) * (2 * k + 1 + 2) - 1 + 1 : Nat) : Rat) ≤ y / 6 := by
      intro y hy
      refine ⟨div_nonneg' hy _, ?_⟩
      have := div_mono_den (k := 5) (m := (2 * k + 1 + 1) * (2 * k + 1 + 2) - 1) hy (by omega)
      simpa using this
    generalize ((2 * k + 1 + 1) * (2 * k + 1 + 2) - 1 + 1 : Nat) = mn at *
    have s0 := dd_nonneg (rsq x)
    have t0' := dd_nonneg t
    have qq : dd x * dd x - v ≤ dd (rsq x) ∧ dd (rsq x) ≤ dd x * dd x := q
    clear q hz er hd st e1
    generalize dd (z / mn) = Z at *
    generalize dd z = Y at *
    generalize dd t = T at *
    generalize dd (rsq x) = S at *
    generalize e (2 * k + 1) (dd x) = E at *
    have q00 := Rat.mul_nonneg x0 x0
    generalize dd x * dd x = Q at *
    unfold Near at *
    -- Y between E Q - .. and E Q + ..
    have r1 := Rat.mul_nonneg t0' (show 0 ≤ Q - S by grind)
    have r2 := Rat.mul_nonneg t0 (show 0 ≤ S - Q + v by grind)
    have r3 := Rat.mul_nonneg s0 (show 0 ≤ T - E + 3 * v by grind)
    have r4 := Rat.mul_nonneg q00 (show 0 ≤ E + 3 * v - T by grind)
    have r5 := Rat.mul_nonneg (Rat.le_of_lt v0) (show 0 ≤ 64 / 25 - Q by grind)
    have r6 := Rat.mul_nonneg (Rat.le_of_lt v0) (show 0 ≤ 8 / 5 - E by grind)
    have r7 := Rat.mul_nonneg (Rat.le_of_lt v0) (show 0 ≤ Q - S by grind)
    have y1 : E * Q - 11 * v ≤ Y := by grind
    have y2 : Y ≤ E * Q + 8 * v := by grind
    have i1 := (hinv (Y - (E * Q - 11 * v)) (by grind)).1
    have i2 := (hinv (E * Q + 8 * v - Y) (by grind)).1
    have i3 := hinv v (Rat.le_of_lt v0)
    have i4 := hinv (E * Q) (Rat.mul_nonneg t0 q00)
    have f1 := Rat.mul_nonneg t0 (show 0 ≤ 64 / 25 - Q by grind)
    have ed : E * (Q / (mn : Rat)) = E * Q / (mn : Rat) := by grind
    rw [ed]
    generalize (mn : Rat) = m at *
    refine ⟨⟨?_, ?_⟩, ?_, i4.1⟩ <;> grind


theorem al_par (k : Nat) : al k = if k % 2 = 0 then 1 else -1 := by
  induction k with
  | zero => rfl
  | succ k ih =>
    simp only [al]
    rw [ih]
    by_cases h : k % 2 = 0
    · rw [if_pos h, if_neg (by omega)]
    · rw [if_neg h, if_pos (by omega)]; grind

theorem sums_near (x : Nat) (hx : dd x ≤ 8 / 5) (k : Nat) : Near (dd (rup (rsq x) x k) - dd (rdn (rsq x) x k)) (sm (k + 1) (fun i => al i * e (1 + 2 * i) (dd x))) (((k + 1 : Nat) : Rat) * (3 * v)) := by
  induction k with
  | zero =>
    have h := (rt_near x hx 0).1
    simp only [rup, rdn, sm, al]
    have z : dd 0 = 0 := by rw [dd_v]; decide +kernel
    have c : ((0 + 1 : Nat) : Rat) = 1 := rfl
    rw [z, c]
    simp only [rt, Nat.mul_zero, Nat.zero_add, Nat.add_zero] at h ⊢
    unfold Near at *
    constructor <;> grind
  | succ k ih =>
    have h := (rt_near x hx (k + 1)).1
    rw [show sm (k + 1 + 1) (fun i => al i * e (1 + 2 * i) (dd x)) = sm (k + 1) (fun i => al i * e (1 + 2 * i) (dd x)) + al (k + 1) * e (1 + 2 * (k + 1)) (dd x) from rfl]
    rw [show 2 * (k + 1) + 1 = 1 + 2 * (k + 1) by omega] at h
    rw [al_par (k + 1)]
    have c : ((k + 1 + 1 : Nat) : Rat) = ((k + 1 : Nat) : Rat) + 1 := by rw [Rat.natCast_add (k + 1) 1]; rfl
    rw [c]
    simp only [rup, rdn]
    generalize e (1 + 2 * (k + 1)) (dd x) = E at *
    generalize sm (k + 1) (fun i => al i * e (1 + 2 * i) (dd x)) = Sg at *
    generalize ((k + 1 : Nat) : Rat) = K at *
    unfold Near at *
    by_cases hk : (k + 1) % 2 = 0
    · rw [if_pos hk, if_pos hk, if_pos hk, dd_add]
      constructor <;> grind
    · rw [if_neg hk, if_neg hk, if_neg hk, dd_add]
      constructor <;> grind

theorem tail20 : pr (64 / 25) 20 1 ≤ ep / 10 := by unfold ep; decide +kernel
theorem pi_near : Near ((PI45 : Rat) / ((10 ^ 45 : Nat) : Rat)) P (1 / 50 * ep) := by unfold Near P H ep PI45; decide +kernel
theorem eta_ep : eta ≤ ep / 10 ∧ 0 ≤ eta := by unfold eta ep; decide +kernel

theorem rx_near (a : Nat) (h : a ≤ 90000000) : Near (dd (rx a)) (th (a : Rat)) (1 / 10 * ep) ∧ dd (rx a) ≤ 8 / 5 := by
  obtain ⟨v0, v1, v2⟩ := v_bd
  obtain ⟨n1, n2⟩ := pi_near
  have d := dd_div (PI45 * a) 179999999
  rw [show 179999999 + 1 = 180000000 from rfl] at d
  have e0 : dd (PI45 * a / 180000000) = dd (rx a) := rfl
  rw [e0, dd_mul] at d
  have e1 : dd PI45 = (PI45 : Rat) / ((10 ^ 45 : Nat) : Rat) := rfl
  rw [e1] at d
  have e2 : ((180000000 : Nat) : Rat) = 180000000 := rfl
  rw [e2] at d
  have a0 := nat_cast_nonneg a
  have a1 : (a : Rat) ≤ 90000000 := Rat.natCast_le_natCast.2 h
  obtain ⟨t1, t2⟩ := th_nat h
  rw [show ((90000000 : Nat) : Rat) = 90000000 from rfl, th_right] at t2
  obtain ⟨H1, H2⟩ := H_bd
  have ep1 : 0 ≤ ep ∧ ep ≤ 1 / 1000 := by unfold ep; decide +kernel
  have m := mul_bd (a := (PI45 : Rat) / ((10 ^ 45 : Nat) : Rat) - P) (A := 1 / 50 * ep) (x := (a : Rat)) (X := 90000000) n1 n2 (by grind) a1
  have ht : th (a : Rat) = P * (a : Rat) / 180000000 := by unfold th; grind
  generalize dd (rx a) = x at *
  generalize (PI45 : Rat) / ((10 ^ 45 : Nat) : Rat) = p at *
  clear e0 e1 e2 n1 n2
  have hN : Near x (th (a : Rat)) (1 / 10 * ep) := by
    rw [ht]
    unfold Near
    constructor <;> grind
  refine ⟨hN, ?_⟩
  unfold Near at hN
  grind

theorem sn_close {x y d : Rat} (hx : -11 ≤ x ∧ x ≤ 11) (hy : -11 ≤ y ∧ y ≤ 11) (h : Near x y d) (h1 : d ≤ 1) : Near (sn x) (sn y) (3 * d + eta) := by
  unfold Near at h
  by_cases k : y ≤ x
  · have l := lip (y := y) (d := x - y) (by constructor <;> grind) (by grind) (by grind)
    rw [show y + (x - y) = x by grind] at l
    exact near_mono l (by grind)
  · have l := lip (y := x) (d := y - x) (by constructor <;> grind) (by grind) (by grind)
    rw [show x + (y - x) = y by grind] at l
    exact near_mono (near_symm l) (by grind)

theorem sum_sn (a : Nat) (h : a ≤ 90000000) : Near (dd (rup (rsq (rx a)) (rx a) 20) - dd (rdn (rsq (rx a)) (rx a) 20)) (sn (th (a : Rat))) (2 * ep) := by
  obtain ⟨n, hx⟩ := rx_near a h
  obtain ⟨v0, v1, v2⟩ := v_bd
  obtain ⟨E1, E2⟩ := eta_ep
  have ep1 : 0 ≤ ep ∧ ep ≤ 1 / 1000 := by unfold ep; decide +kernel
  have s := sums_near (rx a) hx 20
  have x0 := dd_nonneg (rx a)
  have q0 : dd (rx a) * dd (rx a) ≤ 64 / 25 := by
    have := Rat.mul_nonneg x0 (show 0 ≤ 8 / 5 - dd (rx a) by grind)
    grind
  have qn := Rat.mul_nonneg x0 x0
  have hz := horner (dd (rx a)) 20 1
  have sh := sn_horner (dd (rx a))
  have tl := hn_tail (q := dd (rx a) * dd (rx a)) qn (by grind) 54 20 1 (by omega)
  have pm := (pr_mono qn q0 20 1).2
  have t20 := tail20
  have e1 : e 1 (dd (rx a)) = dd (rx a) := by
    have := e_succ 0 (dd (rx a))
    simp only [e] at this ⊢
    have c : ((0 + 1 : Nat) : Rat) = 1 := rfl
    rw [c] at this ⊢
    grind
  rw [e1] at hz
  rw [show 20 + 54 = 74 from rfl] at tl
  rw [← hz] at s
  obtain ⟨t1, t2⟩ := th_nat h
  rw [show ((90000000 : Nat) : Rat) = 90000000 from rfl, th_right] at t2
  obtain ⟨H1, H2⟩ := H_bd
  have cl := sn_close (x := dd (rx a)) (y := th (a : Rat)) (by constructor <;> grind) (by constructor <;> grind) n (by grind)
  have c21 : ((20 + 1 : Nat) : Rat) = 21 := rfl
  rw [c21] at s
  generalize dd (rup (rsq (rx a)) (rx a) 20) - dd (rdn (rsq (rx a)) (rx a) 20) = D at *
  generalize sn (th (a : Rat)) = Z at *
  generalize sn (dd (rx a)) = Y at *
  generalize dd (rx a) = x at *
  generalize hn (x * x) 74 1 = h74 at *
  generalize hn (x * x) 20 1 = h20 at *
  generalize pr (x * x) 20 1 = p at *
  have m1 := mul_bd (a := x) (A := 8 / 5) (x := h74 - h20) (X := ep / 10) (by grind) hx (by grind) (by grind)
  unfold Near at *
  constructor <;> grind

theorem rN_bd (S : Nat) : ((S / 10 ^ 37 : Nat) : Rat) ≤ 100000000 * dd S ∧ 100000000 * dd S ≤ ((S / 10 ^ 37 : Nat) : Rat) + 1 := by
  have e := Nat.div_add_mod S (10 ^ 37)
  have l := Nat.mod_lt S (show 10 ^ 37 > 0 by decide)
  have k1 : 10 ^ 37 * (S / 10 ^ 37) ≤ S := by omega
  have k2 : S ≤ 10 ^ 37 * (S / 10 ^ 37 + 1) := by omega
  clear e l
  generalize S / 10 ^ 37 = q at *
  have g1 := Rat.natCast_le_natCast.2 k1
  have g2 := Rat.natCast_le_natCast.2 k2
  clear k1 k2
  rw [Rat.natCast_mul, dd_D S] at g1 g2
  rw [Rat.natCast_add] at g2
  have c1 : ((1 : Nat) : Rat) = 1 := rfl
  rw [c1] at g2
  have W : ((10 ^ 45 : Nat) : Rat) = ((10 ^ 37 : Nat) : Rat) * 100000000 := by decide +kernel
  rw [W] at g1 g2
  have p37 : (0 : Rat) < ((10 ^ 37 : Nat) : Rat) := by decide +kernel
  generalize ((10 ^ 37 : Nat) : Rat) = A at *
  generalize dd S = y at *
  constructor
  · have : A * (q : Rat) ≤ A * (100000000 * y) := by grind
    exact Rat.le_of_mul_le_mul_left this p37
  · have : A * (100000000 * y) ≤ A * ((q : Rat) + 1) := by grind
    exact Rat.le_of_mul_le_mul_left this p37

theorem floor_eq {n m : Nat} {y g : Rat} (hg : 0 < g) (h1 : (n : Rat) + g ≤ y) (h2 : y ≤ (n : Rat) + 1 - g) (k1 : (m : Rat) ≤ y) (k2 : y ≤ (m : Rat) + 1) : m = n := by
  have a : (m : Rat) < ((n + 1 : Nat) : Rat) := by
    rw [Rat.natCast_add, show ((1 : Nat) : Rat) = 1 from rfl]; grind
  have b : (n : Rat) < ((m + 1 : Nat) : Rat) := by
    rw [Rat.natCast_add, show ((1 : Nat) : Rat) = 1 from rfl]; grind
  have a := Rat.natCast_lt_natCast.1 a
  have b := Rat.natCast_lt_natCast.1 b
  omega

theorem gg_bd : 0 < gg ∧ 100000000 * (3 * ep) ≤ gg / 2 ∧ 0 ≤ ep := by unfold gg ep; decide +kernel

/-- where the sine keeps away from whole numbers both computations round to the same one -/
theorem both_floor (a : Nat) (h : a ≤ 90000000) (G : Gap a) : rdn (rsq (rx a)) (rx a) 20 ≤ rup (rsq (rx a)) (rx a) 20 ∧ rN a = units (steepV a) := by
  obtain ⟨n, g1, g2⟩ := G
  obtain ⟨b1, b2, b3⟩ := gg_bd
  have s := sum_sn a h
  have p := steep_near a h
  have n0 := nat_cast_nonneg n
  have hle : rdn (rsq (rx a)) (rx a) 20 ≤ rup (rsq (rx a)) (rx a) 20 := by
    have : dd (rdn (rsq (rx a)) (rx a) 20) ≤ dd (rup (rsq (rx a)) (rx a) 20) := by
      generalize dd (rdn (rsq (rx a)) (rx a) 20) = x at *
      generalize dd (rup (rsq (rx a)) (rx a) 20) = y at *
      generalize sn (th (a : Rat)) = Z at *
      clear p
      unfold Near at s
      grind
    rcases Nat.lt_or_ge (rup (rsq (rx a)) (rx a) 20) (rdn (rsq (rx a)) (rx a) 20) with k | k
    · exfalso
      have := dd_le (show rup (rsq (rx a)) (rx a) 20 + 1 ≤ rdn (rsq (rx a)) (rx a) 20 by omega)
      rw [dd_add, dd_one] at this
      have v0 := v_bd.1
      grind
    · exact k
  refine ⟨hle, ?_⟩
  have hs : dd (rS a) = dd (rup (rsq (rx a)) (rx a) 20) - dd (rdn (rsq (rx a)) (rx a) 20) := by
    have : dd (rS a + rdn (rsq (rx a)) (rx a) 20) = dd (rup (rsq (rx a)) (rx a) 20) := by
      unfold rS; rw [Nat.sub_add_cancel hle]
    rw [dd_add] at this; grind
  rw [← hs] at s
  have r := rN_bd (rS a)
  have u := units_bd (steepV a)
  have e1 : rN a = rS a / 10 ^ 37 := rfl
  rw [e1]
  clear hs hle e1
  generalize rS a / 10 ^ 37 = m1 at *
  generalize dd (rS a) = y1 at *
  generalize units (steepV a) = m2 at *
  generalize tr (steepV a) = y2 at *
  generalize sn (th (a : Rat)) = Z at *
  unfold Near at s p
  have f1 : m1 = n := floor_eq (y := 100000000 * y1) (g := gg / 2) (by grind) (by grind) (by grind) r.1 r.2
  have f2 : m2 = n := floor_eq (y := 100000000 * y2) (g := gg / 2) (by grind) (by grind) (by grind) u.1 u.2
  rw [f1, f2]

end Go.Proofs.YtjbhnjnlpekpoaaDoor.Trig
