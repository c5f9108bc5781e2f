/-
  Plain mathematics: if the check of a row of lanes succeeds, the sines of its angles stay away from whole numbers of hundred-millionths. No program in it.
-/
import Derived.Test.YtjbhnjnlpekpoaaDoorLanes
namespace Go.Proofs.YtjbhnjnlpekpoaaDoor.Trig
attribute [local irreducible] sn cs P H ep eta eu

def q64 (n : Nat) : Rat := (n : Rat) / ((2 ^ 64 : Nat) : Rat)
def h64 : Rat := 1 / ((2 ^ 64 : Nat) : Rat)
/-- how far from a whole number the sines stay (in hundred-millionths) -/
def gg : Rat := 1 / ((2 ^ 32 : Nat) : Rat)

theorem K62_eq : K62 = 2 ^ 62 := by unfold K62; simp only [Nat.reducePow]
theorem div_gen (a k : Nat) : Nat.div a k = a / k := rfl
theorem sub_gen2 (a k : Nat) : Nat.sub a k = a - k := rfl
theorem svs_eq (t : Nat) : svs t = steepV t / 2 ^ 62 := by unfold svs; rw [div_gen, fsteep_eq, K62_eq]
theorem cvs_eq (t : Nat) : cvs t = steepV (90000000 - t) / 2 ^ 62 := by unfold cvs; rw [div_gen, fsteep_eq, K62_eq, sub_gen2]

theorem top : steepV 90000000 ≤ 2 ^ 126 := by decide +kernel
theorem V_le (a : Nat) (h : a ≤ 90000000) : steepV a / 2 ^ 62 ≤ 2 ^ 64 := by
  have := V_mono h (Nat.le_refl _)
  have := top
  omega

theorem pack_congr (f g : Nat → Nat) (d : Nat) : ∀ k, (∀ t, k ≤ t → t < k + 2 ^ d → f t = g t) → pack f d k = pack g d k := by
  induction d with
  | zero => intro k h; exact h k (Nat.le_refl _) (by simp)
  | succ d ih =>
    intro k h
    rw [pack_succ, pack_succ, ih k (fun t h1 h2 => h t h1 (by rw [Nat.pow_succ]; omega)), ih (k + 2 ^ d) (fun t h1 h2 => h t (by omega) (by rw [Nat.pow_succ]; omega))]

theorem lane_at (c : Nat) (hc : c ≤ 90000000) (h : okZ (row c) = true) (t : Nat) (h1 : 1 ≤ t) (h2 : t ≤ 4096) :
    2 ^ 98 ≤ (svs c * 100000000 * cvs t + (cvs c * 100000000 * svs t + 2 ^ 97)) % 2 ^ 128 := by
  rw [row_pack] at h
  rw [pack_congr _ (fun t => if t ≤ 4096 then svs c * 100000000 * cvs t + (cvs c * 100000000 * svs t + 2 ^ 97) else 0) 12 1 (fun t h1 h2 => by rw [if_pos (by omega)])] at h
  have := okZ_lanes _ (fun t => ?_) h t h1 h2
  · rw [if_pos h2] at this; exact this
  · split
    · have b1 : svs c ≤ 2 ^ 64 := by rw [svs_eq]; exact V_le _ hc
      have b2 : cvs t ≤ 2 ^ 64 := by rw [cvs_eq]; exact V_le _ (by omega)
      have b3 : cvs c ≤ 2 ^ 64 := by rw [cvs_eq]; exact V_le _ (by omega)
      have b4 : svs t ≤ 2 ^ 64 := by rw [svs_eq]; exact V_le _ (by omega)
      have m1 := Nat.mul_le_mul (Nat.mul_le_mul_right 100000000 b1) b2
      have m2 := Nat.mul_le_mul (Nat.mul_le_mul_right 100000000 b3) b4
      omega
    · decide

theorem q64_cut (v : Nat) : q64 (v / 2 ^ 62) ≤ tr v ∧ tr v ≤ q64 (v / 2 ^ 62) + h64 := by
  have e := Nat.div_add_mod v (2 ^ 62)
  have l := Nat.mod_lt v (show 2 ^ 62 > 0 by decide)
  have k1 : 2 ^ 62 * (v / 2 ^ 62) ≤ v := by omega
  have k2 : v ≤ 2 ^ 62 * (v / 2 ^ 62 + 1) := by omega
  generalize v / 2 ^ 62 = q at *
  have g1 := Rat.natCast_le_natCast.2 k1
  have g2 := Rat.natCast_le_natCast.2 k2
  rw [Rat.natCast_mul] at g1 g2
  rw [Rat.natCast_add] at g2
  have c1 : ((1 : Nat) : Rat) = 1 := rfl
  rw [c1] at g2
  have W : ((2 ^ 126 : Nat) : Rat) = ((2 ^ 62 : Nat) : Rat) * ((2 ^ 64 : Nat) : Rat) := by decide +kernel
  have p62 : (0 : Rat) < ((2 ^ 62 : Nat) : Rat) := by decide +kernel
  have p64 : (0 : Rat) < ((2 ^ 64 : Nat) : Rat) := by decide +kernel
  have p126 := Wpos
  have ev := tr_W v
  have eq : (q : Rat) = q64 q * ((2 ^ 64 : Nat) : Rat) := by unfold q64; grind
  have eh : 1 = h64 * ((2 ^ 64 : Nat) : Rat) := by unfold h64; grind
  rw [W] at ev p126
  generalize ((2 ^ 62 : Nat) : Rat) = A at *
  generalize ((2 ^ 64 : Nat) : Rat) = B at *
  generalize q64 q = x at *
  generalize tr v = y at *
  constructor
  · have : A * B * x ≤ A * B * y := by
      rw [eq] at g1; rw [ev] at g1; grind
    exact Rat.le_of_mul_le_mul_left this p126
  · have : A * B * y ≤ A * B * (x + h64) := by
      have k : A * (h64 * B) = A := by rw [← eh]; grind
      rw [eq] at g2; rw [ev] at g2; grind
    exact Rat.le_of_mul_le_mul_left this p126

theorem consts : 0 ≤ h64 ∧ 0 ≤ ep ∧ 0 ≤ eta ∧ h64 + 4 * ep ≤ 1 / 100 ∧ 100000000 * (6 * (h64 + 4 * ep) + eta) ≤ 1 / ((2 ^ 33 : Nat) : Rat) := by unfold h64 ep eta; decide +kernel

theorem two_thirds : (1 : Rat) / ((2 ^ 31 : Nat) : Rat) - 1 / ((2 ^ 33 : Nat) : Rat) ≥ gg := by unfold gg; decide +kernel

theorem s_near (a : Nat) (h : a ≤ 90000000) : Near (q64 (svs a)) (sn (th (a : Rat))) (h64 + 4 * ep) := by
  obtain ⟨c0, c1, c2, c3, c4⟩ := consts
  have s := steep_near a h
  have q := q64_cut (steepV a)
  rw [svs_eq]
  generalize steepV a = v at *
  generalize q64 (v / 2 ^ 62) = x at *
  generalize tr v = y at *
  generalize sn (th (a : Rat)) = z at *
  unfold Near at *
  constructor <;> grind

theorem c_near (a : Nat) (h : a ≤ 90000000) : Near (q64 (cvs a)) (cs (th (a : Rat))) (h64 + 4 * ep) := by
  obtain ⟨c0, c1, c2, c3, c4⟩ := consts
  have s := steep_near (90000000 - a) (by omega)
  have q := q64_cut (steepV (90000000 - a))
  have e : ((90000000 - a : Nat) : Rat) = 90000000 - (a : Rat) := by
    have : ((90000000 - a : Nat) : Rat) + (a : Rat) = ((90000000 : Nat) : Rat) := by rw [← Rat.natCast_add, Nat.sub_add_cancel h]
    have k : ((90000000 : Nat) : Rat) = 90000000 := rfl
    grind
  rw [e, th_sub, th_right] at s
  obtain ⟨t1, t2⟩ := th_nat h
  rw [show ((90000000 : Nat) : Rat) = 90000000 from rfl, th_right] at t2
  obtain ⟨H1, H2⟩ := H_bd
  have k := (quarter (x := th (a : Rat)) (by grind)).1
  rw [cvs_eq]
  generalize steepV (90000000 - a) = v at *
  generalize q64 (v / 2 ^ 62) = x at *
  generalize tr v = y at *
  generalize sn (H - th (a : Rat)) = z at *
  generalize cs (th (a : Rat)) = z' at *
  unfold Near at *
  constructor <;> grind

theorem prod_near {x y X Y d : Rat} (hx : Near x X d) (hy : Near y Y d) (h0 : 0 ≤ d) (h1 : d ≤ 1 / 100) (bX : -(11 / 10) ≤ X ∧ X ≤ 11 / 10) (bY : -(11 / 10) ≤ Y ∧ Y ≤ 11 / 10) : Near (x * y) (X * Y) (3 * d) := by
  unfold Near at *
  have e : x * y - X * Y = (x - X) * y + X * (y - Y) := by grind
  have m1 := mul_bd (a := x - X) (A := d) (x := y) (X := 6 / 5) hx.1 hx.2 (by grind) (by grind)
  have m2 := mul_bd (a := X) (A := 11 / 10) (x := y - Y) (X := d) bX.1 bX.2 hy.1 hy.2
  rw [e]
  constructor <;> grind

def Gap (a : Nat) : Prop := ∃ n : Nat, (n : Rat) + gg ≤ 100000000 * sn (th (a : Rat)) ∧ 100000000 * sn (th (a : Rat)) ≤ (n : Rat) + 1 - gg

theorem frac_nat (x y : Nat) (h : 2 ^ 98 ≤ (x + (y + 2 ^ 97)) % 2 ^ 128) : ∃ n : Nat, 2 ^ 128 * n + 2 ^ 97 ≤ x + y ∧ x + y + 2 ^ 97 ≤ 2 ^ 128 * (n + 1) := by
  have e1 := Nat.div_add_mod (x + (y + 2 ^ 97)) (2 ^ 128)
  have e2 := Nat.mod_lt (x + (y + 2 ^ 97)) (show 2 ^ 128 > 0 by decide)
  exact ⟨(x + (y + 2 ^ 97)) / 2 ^ 128, by omega, by omega⟩
theorem lane_frac (A B C D : Nat) (h : 2 ^ 98 ≤ (A * 100000000 * D + (B * 100000000 * C + 2 ^ 97)) % 2 ^ 128) :
    ∃ n : Nat, (n : Rat) + 1 / ((2 ^ 31 : Nat) : Rat) ≤ 100000000 * (q64 A * q64 D + q64 B * q64 C) ∧ 100000000 * (q64 A * q64 D + q64 B * q64 C) + 1 / ((2 ^ 31 : Nat) : Rat) ≤ (n : Rat) + 1 := by
  obtain ⟨n, g1, g2⟩ := frac_nat _ _ h
  clear h
  have r1 := Rat.natCast_le_natCast.2 g1
  have r2 := Rat.natCast_le_natCast.2 g2
  clear g1 g2
  simp only [Rat.natCast_add, Rat.natCast_mul] at r1 r2
  have w64 : (0 : Rat) < ((2 ^ 64 : Nat) : Rat) := by decide +kernel
  have w128 : ((2 ^ 128 : Nat) : Rat) = ((2 ^ 64 : Nat) : Rat) * ((2 ^ 64 : Nat) : Rat) := by decide +kernel
  have w97 : ((2 ^ 97 : Nat) : Rat) = ((2 ^ 64 : Nat) : Rat) * ((2 ^ 64 : Nat) : Rat) * (1 / ((2 ^ 31 : Nat) : Rat)) := by decide +kernel
  have m : ∀ z : Nat, (z : Rat) = q64 z * ((2 ^ 64 : Nat) : Rat) := fun z => by unfold q64; grind
  rw [m A, m B, m C, m D, w128, w97] at r1 r2
  have e8 : ((100000000 : Nat) : Rat) = 100000000 := rfl
  have e9 : ((1 : Nat) : Rat) = 1 := rfl
  rw [e8] at r1 r2
  rw [e9] at r2
  have w2 : (0 : Rat) < ((2 ^ 64 : Nat) : Rat) * ((2 ^ 64 : Nat) : Rat) := Rat.mul_pos w64 w64
  clear m w128 w97 e8 e9
  generalize (1 : Rat) / ((2 ^ 31 : Nat) : Rat) = t at *
  generalize ((2 ^ 64 : Nat) : Rat) = W at *
  generalize q64 A = a at *
  generalize q64 B = b at *
  generalize q64 C = c at *
  generalize q64 D = d at *
  refine ⟨n, ?_, ?_⟩
  · have : W * W * ((n : Rat) + t) ≤ W * W * (100000000 * (a * d + b * c)) := by grind
    exact Rat.le_of_mul_le_mul_left this w2
  · have : W * W * (100000000 * (a * d + b * c) + t) ≤ W * W * ((n : Rat) + 1) := by grind
    exact Rat.le_of_mul_le_mul_left this w2

theorem add_near (c t : Nat) (hct : c + t ≤ 90000000) : Near (q64 (svs c) * q64 (cvs t) + q64 (cvs c) * q64 (svs t)) (sn (th ((c + t : Nat) : Rat))) (6 * (h64 + 4 * ep) + eta) := by
  obtain ⟨c0, c1, c2, c3, c4⟩ := consts
  have s1 := s_near c (by omega)
  have s2 := s_near t (by omega)
  have k1 := c_near c (by omega)
  have k2 := c_near t (by omega)
  obtain ⟨u1, u2⟩ := th_nat (a := c) (n := 90000000) (by omega)
  obtain ⟨u3, u4⟩ := th_nat (a := t) (n := 90000000) (by omega)
  rw [show ((90000000 : Nat) : Rat) = 90000000 from rfl, th_right] at u2 u4
  obtain ⟨H1, H2⟩ := H_bd
  have b1 := bd (x := th (c : Rat)) (by constructor <;> grind)
  have b2 := bd (x := th (t : Rat)) (by constructor <;> grind)
  have A := sn_add (x := th (c : Rat)) (y := th (t : Rat)) (by constructor <;> grind) (by constructor <;> grind)
  rw [← th_add, show (c : Rat) + (t : Rat) = ((c + t : Nat) : Rat) from (Rat.natCast_add _ _).symm] at A
  generalize q64 (svs c) = x1 at *
  generalize q64 (cvs c) = y1 at *
  generalize q64 (svs t) = x2 at *
  generalize q64 (cvs t) = y2 at *
  generalize sn (th ((c + t : Nat) : Rat)) = Z at *
  generalize sn (th (c : Rat)) = X1 at *
  generalize cs (th (c : Rat)) = Y1 at *
  generalize sn (th (t : Rat)) = X2 at *
  generalize cs (th (t : Rat)) = Y2 at *
  have d0 : 0 ≤ h64 + 4 * ep := by grind
  have p1 := prod_near s1 k2 d0 c3 b1.1 b2.2
  have p2 := prod_near k1 s2 d0 c3 b1.2 b2.1
  clear s1 s2 k1 k2 b1 b2 u1 u2 u3 u4
  unfold Near at *
  generalize h64 + 4 * ep = d at *
  constructor <;> grind

theorem gap_of (c t : Nat) (hct : c + t ≤ 90000000) (h : okZ (row c) = true) (h1 : 1 ≤ t) (h2 : t ≤ 4096) : Gap (c + t) := by
  have L := lane_at c (by omega) h t h1 h2
  obtain ⟨n, z1, z2⟩ := lane_frac _ _ _ _ L
  have A := add_near c t hct
  obtain ⟨c0, c1, c2, c3, c4⟩ := consts
  have tt := two_thirds
  clear L h
  unfold Gap
  generalize q64 (svs c) * q64 (cvs t) + q64 (cvs c) * q64 (svs t) = U at *
  generalize sn (th ((c + t : Nat) : Rat)) = X at *
  generalize (1 : Rat) / ((2 ^ 31 : Nat) : Rat) = t31 at *
  generalize (1 : Rat) / ((2 ^ 33 : Nat) : Rat) = t33 at *
  generalize 6 * (h64 + 4 * ep) + eta = d at *
  unfold Near at A
  refine ⟨n, ?_, ?_⟩ <;> grind

theorem gap_rows (b n m : Nat) (h : rows2 b n m = true) (a : Nat) (h1 : b < a) (h2 : a ≤ b + m * (n * 4096)) (h3 : a ≤ 90000000) : Gap a := by
  obtain ⟨c, t, rfl, hc, t1, t2, ok⟩ := rows2_lane b n m h a h1 h2
  exact gap_of c t h3 ok t1 t2

end Go.Proofs.YtjbhnjnlpekpoaaDoor.Trig
