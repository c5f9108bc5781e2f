/-
  Plain mathematics: the program's enclosures hold the sine and the cosine of every whole angle; sums of angles. No program in it.
-/
import Derived.Test.YtjbhnjnlpekpoaaDoorTrigB
namespace Go.Proofs.YtjbhnjnlpekpoaaDoor.Trig
attribute [local irreducible] sLo sHi sn cs P H ep eta eu

/-- how far the ends may be off (in hundred-millionths) -/
def ez : Rat := 1 / ((10 ^ 26 : Nat) : Rat)

/-- sine and cosine of a whole angle, by its part of a turn -/
def SN (a : Int) : Rat := sn (th ((a % 360000000 : Int) : Rat))
def CN (a : Int) : Rat := cs (th ((a % 360000000 : Int) : Rat))

theorem eps_bd : 0 < ep ∧ 0 < eu ∧ 100000000 * (10 * ep) + eu ≤ ez ∧ 0 < eta ∧ eta ≤ ep ∧ 0 < ez := by
  unfold ep eu ez eta; decide +kernel

theorem th_cast (r : Nat) : ((r : Int) : Rat) = (r : Rat) := rfl

theorem th_range {r : Nat} (h : r < 360000000) : 0 ≤ th (r : Rat) ∧ th (r : Rat) ≤ P + P := by
  have h1 := th_nat (show r ≤ 360000000 by omega)
  rw [show ((360000000 : Nat) : Rat) = 360000000 from rfl, th_turn] at h1
  exact h1

theorem scale8 {s t l h d : Rat} (h1 : l - eu ≤ 100000000 * t) (h2 : 100000000 * t ≤ h + eu) (n : Near s t d) (hd : d ≤ 10 * ep) : l - ez ≤ 100000000 * s ∧ 100000000 * s ≤ h + ez := by
  obtain ⟨e1, e2, e3, e4, e5, e6⟩ := eps_bd
  unfold Near at n
  constructor <;> grind

theorem encl_low {r : Nat} (hr : r ≤ 90000000) : ∃ v, ((sLo r : Rat) - eu ≤ 100000000 * v ∧ 100000000 * v ≤ (sHi r : Rat) + eu) ∧ Near (sn (th (r : Rat))) v (2 * ep) := by
  obtain ⟨e1, e2, e3, e4, e5, e6⟩ := eps_bd
  refine ⟨sn (th (r : Rat)), steep_encl r hr, ?_⟩
  unfold Near; grind

theorem encl_mid {r : Nat} (h1 : 90000000 ≤ r) (h2 : r ≤ 180000000) : ∃ v, ((sLo (180000000 - r) : Rat) - eu ≤ 100000000 * v ∧ 100000000 * v ≤ (sHi (180000000 - r) : Rat) + eu) ∧ Near (sn (th (r : Rat))) v (2 * ep) := by
  have hp := P_bd
  have ht := th_range (show r < 360000000 by omega)
  have e : th ((180000000 - r : Nat) : Rat) = P - th (r : Rat) := by
    rw [← th_half, ← th_sub]
    congr 1
    have : ((180000000 - r : Nat) : Rat) + ((r : Nat) : Rat) = ((180000000 : Nat) : Rat) := by rw [← Rat.natCast_add]; congr 1; omega
    have c : ((180000000 : Nat) : Rat) = 180000000 := rfl
    rw [c] at this
    grind
  have g := steep_encl (180000000 - r) (by omega)
  rw [e] at g
  exact ⟨_, g, near_symm (half_less (x := th (r : Rat)) (by grind)).1⟩

theorem first_half (q : Nat) (hq : q < 180000000) : ∃ v, ((sLo (min q (180000000 - q)) : Rat) - eu ≤ 100000000 * v ∧ 100000000 * v ≤ (sHi (min q (180000000 - q)) : Rat) + eu) ∧ Near (sn (th (q : Rat))) v (2 * ep) := by
  by_cases h : q ≤ 90000000
  · rw [show min q (180000000 - q) = q by omega]; exact encl_low h
  · rw [show min q (180000000 - q) = 180000000 - q by omega]; exact encl_mid (by omega) (by omega)

theorem cast_back (r : Nat) (h : 180000000 ≤ r) : th (r : Rat) = th ((r - 180000000 : Nat) : Rat) + P := by
  rw [← th_half, ← th_add]
  congr 1
  have : ((r - 180000000 : Nat) : Rat) + ((180000000 : Nat) : Rat) = (r : Rat) := by rw [← Rat.natCast_add]; congr 1; omega
  have c : ((180000000 : Nat) : Rat) = 180000000 := rfl
  rw [c] at this
  grind

theorem neg_encl {s v l h : Rat} (f : (l - eu ≤ 100000000 * v ∧ 100000000 * v ≤ h + eu)) (n : Near s (-v) (10 * ep)) : -h - ez ≤ 100000000 * s ∧ 100000000 * s ≤ -l + ez :=
  scale8 (t := -v) (by grind) (by grind) n (by grind)

/-- the enclosure that the program returns holds the sine -/
theorem encl_sine (a : Int) : (sineLo a : Rat) - ez ≤ 100000000 * SN a ∧ 100000000 * SN a ≤ (sineHi a : Rat) + ez := by
  obtain ⟨e1, e2, e3, e4, e5, e6⟩ := eps_bd
  obtain ⟨r, hr, hlt⟩ : ∃ r : Nat, a % 360000000 = (r : Int) ∧ r < 360000000 := ⟨(a % 360000000).toNat, by omega, by omega⟩
  unfold SN
  rw [hr, th_cast]
  by_cases h : r < 180000000
  · obtain ⟨v, f, n⟩ := first_half r h
    have h2 : dn a = false := by unfold dn; rw [hr]; exact decide_eq_false (by omega)
    have h3 : q4 a = min r (180000000 - r) := by unfold q4; rw [hr, Int.toNat_natCast, Nat.mod_eq_of_lt h]
    unfold sineLo sineHi
    rw [h2, h3]
    exact scale8 f.1 f.2 n (by grind)
  · obtain ⟨v, f, n⟩ := first_half (r - 180000000) (by omega)
    have h2 : dn a = true := by unfold dn; rw [hr]; exact decide_eq_true (by omega)
    have hm : r % 180000000 = r - 180000000 := by omega
    have h3 : q4 a = min (r - 180000000) (180000000 - (r - 180000000)) := by unfold q4; rw [hr, Int.toNat_natCast, hm]
    unfold sineLo sineHi
    rw [h2, h3, if_pos rfl, if_pos rfl]
    have ht := th_range (show r - 180000000 < 360000000 by omega)
    have hp := P_bd
    have hm := (half_more (x := th ((r - 180000000 : Nat) : Rat)) (by clear hr hlt h h3 hm f n h2; grind)).1
    rw [← cast_back r (by omega)] at hm
    have hn : Near (sn (th (r : Rat))) (-v) (10 * ep) := near_mono (near_trans hm (near_neg n)) (by clear hr hlt h h3 f n h2; grind)
    generalize min (r - 180000000) (180000000 - (r - 180000000)) = k at *
    have c1 : ((-(sHi k : Int) : Int) : Rat) = -(sHi k : Rat) := by rw [Rat.intCast_neg]; rfl
    have c2 : ((-(sLo k : Int) : Int) : Rat) = -(sLo k : Rat) := by rw [Rat.intCast_neg]; rfl
    rw [c1, c2]
    exact neg_encl f hn

/-- a full turn less -/
theorem turn_less {x : Rat} (h0 : 0 ≤ x) (h : x ≤ P + P) : Near (sn (x + P + P)) (sn x) (4 * ep) ∧ Near (cs (x + P + P)) (cs x) (4 * ep) := by
  have hp := P_bd
  obtain ⟨a1, a2⟩ := half_more (x := x + P) (by grind)
  obtain ⟨b1, b2⟩ := half_more (x := x) (by grind)
  have := near_trans a1 (near_neg b1)
  have := near_trans a2 (near_neg b2)
  unfold Near at *
  constructor <;> grind

theorem th_int (r : Nat) : th ((r : Int) : Rat) = th (r : Rat) := rfl

theorem cast_sum {r s t : Nat} (h : r = s + t) : th (r : Rat) = th (s : Rat) + th (t : Rat) := by
  rw [h, Rat.natCast_add, th_add]

/-- the sine and the cosine of a sum -/
theorem sum_angles (a b : Int) : Near (SN a * CN b + CN a * SN b) (SN (a + b)) (5 * ep) ∧ Near (CN a * CN b - SN a * SN b) (CN (a + b)) (5 * ep) := by
  obtain ⟨e1, e2, e3, e4, e5, e6⟩ := eps_bd
  obtain ⟨r, hr, hr'⟩ : ∃ r : Nat, a % 360000000 = (r : Int) ∧ r < 360000000 := ⟨(a % 360000000).toNat, by omega, by omega⟩
  obtain ⟨s, hs, hs'⟩ : ∃ s : Nat, b % 360000000 = (s : Int) ∧ s < 360000000 := ⟨(b % 360000000).toNat, by omega, by omega⟩
  have hx := th_range hr'
  have hy := th_range hs'
  have hp := P_bd
  unfold SN CN
  rw [hr, hs, th_int, th_int]
  have hA : Near (sn (th (r : Rat)) * cs (th (s : Rat)) + cs (th (r : Rat)) * sn (th (s : Rat))) (sn (th (r : Rat) + th (s : Rat))) eta := sn_add (by clear hr hr' hs hs'; grind) (by clear hr hr' hs hs'; grind)
  have hB : Near (cs (th (r : Rat)) * cs (th (s : Rat)) - sn (th (r : Rat)) * sn (th (s : Rat))) (cs (th (r : Rat) + th (s : Rat))) eta := cs_add (by clear hr hr' hs hs'; grind) (by clear hr hr' hs hs'; grind)
  have c1 : eta ≤ 5 * ep := by grind
  have c2 : eta + 4 * ep ≤ 5 * ep := by grind
  by_cases h : r + s < 360000000
  · have e : (a + b) % 360000000 = ((r + s : Nat) : Int) := by omega
    rw [e, th_int, cast_sum (r := r + s) rfl]
    exact ⟨near_mono hA c1, near_mono hB c1⟩
  · obtain ⟨k, hk⟩ : ∃ k, r + s = k + 360000000 := ⟨r + s - 360000000, by omega⟩
    have e : (a + b) % 360000000 = ((k : Nat) : Int) := by omega
    have hz := th_range (show k < 360000000 by omega)
    have e2 : th (r : Rat) + th (s : Rat) = th (k : Rat) + P + P := by
      rw [← cast_sum (r := r + s) rfl, cast_sum hk]
      have c : ((360000000 : Nat) : Rat) = 360000000 := rfl
      rw [c, th_turn, Rat.add_assoc]
    obtain ⟨t1, t2⟩ := turn_less hz.1 hz.2
    rw [e, th_int]
    rw [e2] at hA hB
    exact ⟨near_mono (near_trans hA t1) c2, near_mono (near_trans hB t2) c2⟩

theorem SN_bd (a : Int) : (-(11 / 10) ≤ SN a ∧ SN a ≤ 11 / 10) ∧ (-(11 / 10) ≤ CN a ∧ CN a ≤ 11 / 10) := by
  obtain ⟨r, hr, hr'⟩ : ∃ r : Nat, a % 360000000 = (r : Int) ∧ r < 360000000 := ⟨(a % 360000000).toNat, by omega, by omega⟩
  have hx := th_range hr'
  have hp := P_bd
  unfold SN CN
  rw [hr, th_int]
  exact bd (by clear hr hr'; grind)

/-- the cosine is the sine of a right angle more -/
theorem right_more (a : Int) : Near (SN (a + 90000000)) (CN a) (10 * ep) := by
  obtain ⟨e1, e2, e3, e4, e5, e6⟩ := eps_bd
  have h := (sum_angles a 90000000).1
  have h1 : SN 90000000 = sn H := by unfold SN; rw [show ((90000000 : Int) % 360000000) = ((90000000 : Nat) : Int) from rfl, th_int, show ((90000000 : Nat) : Rat) = 90000000 from rfl, th_right]
  have h2 : CN 90000000 = cs H := by unfold CN; rw [show ((90000000 : Int) % 360000000) = ((90000000 : Nat) : Int) from rfl, th_int, show ((90000000 : Nat) : Rat) = 90000000 from rfl, th_right]
  rw [h1, h2] at h
  obtain ⟨b1, b2⟩ := SN_bd a
  have k1 := mul_near sn_H b2
  have k2 := mul_near cs_H b1
  have m := mu_eta
  unfold Near at *
  generalize SN a = x at *
  generalize CN a = y at *
  generalize SN (a + 90000000) = z at *
  clear h1 h2
  constructor <;> grind

/-- the squares -/
theorem squares (a : Int) : Near (SN a * SN a + CN a * CN a) 1 ep := by
  obtain ⟨e1, e2, e3, e4, e5, e6⟩ := eps_bd
  obtain ⟨r, hr, hr'⟩ : ∃ r : Nat, a % 360000000 = (r : Int) ∧ r < 360000000 := ⟨(a % 360000000).toNat, by omega, by omega⟩
  have hx := th_range hr'
  have hp := P_bd
  unfold SN CN
  rw [hr, th_int]
  exact near_mono (one_sq (by clear hr hr'; grind)) e5

/-- the enclosure that the program returns for a cosine -/
theorem encl_cosine (a : Int) : (sineLo (a + 90000000) : Rat) - 2 * ez ≤ 100000000 * CN a ∧ 100000000 * CN a ≤ (sineHi (a + 90000000) : Rat) + 2 * ez := by
  obtain ⟨e1, e2, e3, e4, e5, e6⟩ := eps_bd
  obtain ⟨h1, h2⟩ := encl_sine (a + 90000000)
  have n := right_more a
  unfold Near at n
  constructor <;> grind

end Go.Proofs.YtjbhnjnlpekpoaaDoor.Trig
