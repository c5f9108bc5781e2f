/-
  Plain mathematics: the truncated series of sine and cosine over the rationals, their addition theorem with a stated error, and the program's fixed-point sine against them. No program in it.
-/
namespace Go.Proofs.YtjbhnjnlpekpoaaDoor.Trig

theorem mul_bd {a A x X : Rat} (h1 : -A ≤ a) (h2 : a ≤ A) (h3 : -X ≤ x) (h4 : x ≤ X) : -(A * X) ≤ a * x ∧ a * x ≤ A * X := by
  have p1 : 0 ≤ (A - a) * (X - x) := Rat.mul_nonneg (by grind) (by grind)
  have p2 : 0 ≤ (A + a) * (X + x) := Rat.mul_nonneg (by grind) (by grind)
  have p3 : 0 ≤ (A - a) * (X + x) := Rat.mul_nonneg (by grind) (by grind)
  have p4 : 0 ≤ (A + a) * (X - x) := Rat.mul_nonneg (by grind) (by grind)
  constructor <;> grind

/-- x^k / k! -/
def e : Nat → Rat → Rat
  | 0, _ => 1
  | k + 1, x => e k x * x / ((k + 1 : Nat) : Rat)

def sm : Nat → (Nat → Rat) → Rat
  | 0, _ => 0
  | n + 1, f => sm n f + f n

theorem sm_congr {f g : Nat → Rat} (n : Nat) (h : ∀ k, k < n → f k = g k) : sm n f = sm n g := by
  induction n with
  | zero => rfl
  | succ n ih => simp only [sm]; rw [ih (fun k hk => h k (by omega)), h n (by omega)]

theorem sm_add (f g : Nat → Rat) (n : Nat) : sm n (fun k => f k + g k) = sm n f + sm n g := by
  induction n with
  | zero => simp only [sm]; grind
  | succ n ih => simp only [sm]; rw [ih]; grind

theorem sm_sub (f g : Nat → Rat) (n : Nat) : sm n (fun k => f k - g k) = sm n f - sm n g := by
  induction n with
  | zero => simp only [sm]; grind
  | succ n ih => simp only [sm]; rw [ih]; grind

theorem sm_mul (c : Rat) (f : Nat → Rat) (n : Nat) : sm n (fun k => c * f k) = c * sm n f := by
  induction n with
  | zero => simp [sm]
  | succ n ih => simp only [sm]; rw [ih]; grind

theorem sm_le {f g : Nat → Rat} (n : Nat) (h : ∀ k, k < n → f k ≤ g k) : sm n f ≤ sm n g := by
  induction n with
  | zero => simp [sm]
  | succ n ih =>
    have h1 := ih (fun k hk => h k (by omega))
    have h2 := h n (by omega)
    simp only [sm]; grind

theorem sm_bd {f g : Nat → Rat} (n : Nat) (h : ∀ k, k < n → -g k ≤ f k ∧ f k ≤ g k) : -sm n g ≤ sm n f ∧ sm n f ≤ sm n g := by
  induction n with
  | zero => simp [sm]
  | succ n ih =>
    have h1 := ih (fun k hk => h k (by omega))
    have h2 := h n (by omega)
    simp only [sm]; grind

theorem sm_first (f : Nat → Rat) (n : Nat) : sm (n + 1) f = f 0 + sm n (fun k => f (k + 1)) := by
  induction n with
  | zero => simp only [sm]; grind
  | succ n ih => rw [sm, ih]; simp only [sm]; grind

theorem sm_cut (f : Nat → Rat) (m n : Nat) (h : m ≤ n) : sm n (fun j => if j < m then f j else 0) = sm m f := by
  induction n with
  | zero => have : m = 0 := by omega
            subst this; rfl
  | succ n ih =>
    by_cases hm : m = n + 1
    · subst hm; exact sm_congr _ (fun k hk => by rw [if_pos hk])
    · simp only [sm]; rw [ih (by omega), if_neg (by omega)]; grind

theorem cast_ne (k : Nat) : ((k + 1 : Nat) : Rat) ≠ 0 := by
  intro h
  have : ((k + 1 : Nat) : Rat) = ((0 : Nat) : Rat) := by simpa using h
  exact absurd (Rat.natCast_inj.1 this) (by omega)

theorem e_succ (k : Nat) (x : Rat) : ((k + 1 : Nat) : Rat) * e (k + 1) x = e k x * x := by
  have h := cast_ne k
  simp only [e]; grind

/-- the binomial theorem -/
theorem e_add (x y : Rat) (n : Nat) : e n (x + y) = sm (n + 1) (fun i => e i x * e (n - i) y) := by
  induction n with
  | zero => show (1 : Rat) = 0 + 1 * 1; grind
  | succ n ih =>
    have hn := cast_ne n
    have key : ((n + 1 : Nat) : Rat) * e (n + 1) (x + y) = ((n + 1 : Nat) : Rat) * sm (n + 1 + 1) (fun i => e i x * e (n + 1 - i) y) := by
      rw [e_succ, ih, ← sm_mul]
      have h1 : sm (n + 1 + 1) (fun i => ((n + 1 : Nat) : Rat) * (e i x * e (n + 1 - i) y)) =
          sm (n + 1 + 1) (fun i => (i : Rat) * e i x * e (n + 1 - i) y) + sm (n + 1 + 1) (fun i => e i x * (((n + 1 - i : Nat) : Rat) * e (n + 1 - i) y)) := by
        rw [← sm_add]
        refine sm_congr _ (fun i hi => ?_)
        have : ((n + 1 : Nat) : Rat) = (i : Rat) + ((n + 1 - i : Nat) : Rat) := by
          rw [← Rat.natCast_add]; congr 1; omega
        rw [this]; grind
      rw [h1, sm_first (fun i => (i : Rat) * e i x * e (n + 1 - i) y)]
      have h2 : sm (n + 1) (fun k => ((k + 1 : Nat) : Rat) * e (k + 1) x * e (n + 1 - (k + 1)) y) = sm (n + 1) (fun k => x * (e k x * e (n - k) y)) := by
        refine sm_congr _ (fun i hi => ?_)
        rw [e_succ, show n + 1 - (i + 1) = n - i from by omega]; grind
      have h3 : sm (n + 1 + 1) (fun i => e i x * (((n + 1 - i : Nat) : Rat) * e (n + 1 - i) y)) = sm (n + 1) (fun k => y * (e k x * e (n - k) y)) := by
        rw [sm]
        have z : e (n + 1) x * (((n + 1 - (n + 1) : Nat) : Rat) * e (n + 1 - (n + 1)) y) = 0 := by
          rw [show n + 1 - (n + 1) = 0 from by omega]; simp
        rw [z]
        have : sm (n + 1) (fun i => e i x * (((n + 1 - i : Nat) : Rat) * e (n + 1 - i) y)) = sm (n + 1) (fun k => y * (e k x * e (n - k) y)) := by
          refine sm_congr _ (fun i hi => ?_)
          rw [show n + 1 - i = (n - i) + 1 from by omega, e_succ]; grind
        rw [this]; grind
      rw [h2, h3, sm_mul, sm_mul]
      simp; grind
    grind


theorem pow_nonneg' {r : Rat} (h : 0 ≤ r) (n : Nat) : 0 ≤ r ^ n := by
  induction n with
  | zero => simp; decide
  | succ n ih => rw [Rat.pow_succ]; exact Rat.mul_nonneg ih h

theorem cast_pos (k : Nat) : (0 : Rat) < ((k + 1 : Nat) : Rat) := by
  have : ((0 : Nat) : Rat) < ((k + 1 : Nat) : Rat) := Rat.natCast_lt_natCast.2 (by omega)
  simpa using this

theorem div_le {a b c : Rat} (hc : 0 < c) (h : a ≤ b) : a / c ≤ b / c := by
  rw [Rat.div_def, Rat.div_def]
  exact Rat.mul_le_mul_of_nonneg_right h (Rat.le_of_lt (Rat.inv_pos.2 hc))

theorem e_bd {x X : Rat} (h1 : -X ≤ x) (h2 : x ≤ X) (k : Nat) : -e k X ≤ e k x ∧ e k x ≤ e k X := by
  induction k with
  | zero => simp only [e]; decide
  | succ k ih =>
    obtain ⟨a, b⟩ := mul_bd ih.1 ih.2 h1 h2
    have hp := cast_pos k
    simp only [e]
    constructor
    · have := div_le hp a
      grind
    · exact div_le hp b

theorem e_nonneg {x : Rat} (h : 0 ≤ x) (k : Nat) : 0 ≤ e k x := by
  have := (e_bd (x := x) (X := x) (by grind) (by grind) k)
  grind

theorem e_scale (r x : Rat) (k : Nat) : e k (r * x) = r ^ k * e k x := by
  induction k with
  | zero => simp only [e, Rat.pow_zero]; grind
  | succ k ih => simp only [e]; rw [ih, Rat.pow_succ]; grind

theorem one_le_pow {r : Rat} (h : 1 ≤ r) (n : Nat) : 1 ≤ r ^ n := by
  induction n with
  | zero => simp
  | succ n ih => rw [Rat.pow_succ]; have : 0 ≤ (r ^ n - 1) * (r - 1) := Rat.mul_nonneg (by grind) (by grind)
                 grind

theorem pow_add' (r : Rat) (m n : Nat) : r ^ (m + n) = r ^ m * r ^ n := by
  induction n with
  | zero => rw [Rat.pow_zero, Nat.add_zero]; grind
  | succ n ih => rw [← Nat.add_assoc, Rat.pow_succ, ih, Rat.pow_succ]; grind

theorem pow_mono {r : Rat} (h : 1 ≤ r) {m n : Nat} (hmn : m ≤ n) : r ^ m ≤ r ^ n := by
  obtain ⟨d, rfl⟩ : ∃ d, n = m + d := ⟨n - m, by omega⟩
  rw [pow_add']
  have a := one_le_pow h m
  have b := one_le_pow h d
  have : 0 ≤ r ^ m * (r ^ d - 1) := Rat.mul_nonneg (by grind) (by grind)
  grind

/-- The product of two sums, against the sum of the products up to the diagonal. -/
theorem tri (s : Nat → Rat) (x y : Rat) (M : Nat) :
    sm M (fun i => sm (M - i) (fun j => s (i + j) * e i x * e j y)) = sm M (fun k => s k * e k (x + y)) := by
  induction M with
  | zero => rfl
  | succ M ih =>
    have h1 : sm (M + 1) (fun i => sm (M + 1 - i) (fun j => s (i + j) * e i x * e j y)) =
        sm (M + 1) (fun i => sm (M - i) (fun j => s (i + j) * e i x * e j y) + s M * (e i x * e (M - i) y)) := by
      refine sm_congr _ (fun i hi => ?_)
      rw [show M + 1 - i = (M - i) + 1 from by omega, sm, show i + (M - i) = M from by omega]; grind
    rw [h1, sm_add, sm_mul, ← e_add, sm, ih, show M - M = 0 from by omega]
    simp only [sm]; grind

theorem sgn_mul {s a A : Rat} (hs : -1 ≤ s ∧ s ≤ 1) (ha : -A ≤ a ∧ a ≤ A) : -A ≤ s * a ∧ s * a ≤ A := by
  have := mul_bd hs.1 hs.2 ha.1 ha.2
  grind

theorem rect (s : Nat → Rat) (hs : ∀ k, -1 ≤ s k ∧ s k ≤ 1) (r X Y x y : Rat) (hr : 1 ≤ r) (hx : -X ≤ x ∧ x ≤ X) (hy : -Y ≤ y ∧ y ≤ Y) (M : Nat) :
    -(sm M (fun k => e k (r * X)) * sm M (fun k => e k (r * Y))) ≤ r ^ M * (sm M (fun i => sm M (fun j => s (i + j) * e i x * e j y)) - sm M (fun k => s k * e k (x + y))) ∧
    r ^ M * (sm M (fun i => sm M (fun j => s (i + j) * e i x * e j y)) - sm M (fun k => s k * e k (x + y))) ≤ sm M (fun k => e k (r * X)) * sm M (fun k => e k (r * Y)) := by
  have hX : 0 ≤ X := by grind
  have hY : 0 ≤ Y := by grind
  have hd : r ^ M * (sm M (fun i => sm M (fun j => s (i + j) * e i x * e j y)) - sm M (fun k => s k * e k (x + y))) =
      sm M (fun i => sm M (fun j => r ^ M * (if j < M - i then 0 else s (i + j) * e i x * e j y))) := by
    rw [← tri, ← sm_sub, ← sm_mul]
    refine sm_congr _ (fun i hi => ?_)
    rw [← sm_cut (fun j => s (i + j) * e i x * e j y) (M - i) M (by omega), ← sm_sub, ← sm_mul]
    refine sm_congr _ (fun j hj => ?_)
    by_cases h : j < M - i
    · rw [if_pos h, if_pos h]; grind
    · rw [if_neg h, if_neg h]; grind
  have hp : sm M (fun k => e k (r * X)) * sm M (fun k => e k (r * Y)) = sm M (fun i => sm M (fun j => e i (r * X) * e j (r * Y))) := by
    have : sm M (fun i => sm M (fun j => e i (r * X) * e j (r * Y))) = sm M (fun i => sm M (fun j => e j (r * Y)) * e i (r * X)) :=
      sm_congr _ (fun i hi => by rw [sm_mul]; grind)
    rw [this, sm_mul]; grind
  rw [hd, hp]
  refine sm_bd _ (fun i hi => sm_bd _ (fun j hj => ?_))
  have hpos : 0 ≤ e i (r * X) * e j (r * Y) := by
    apply Rat.mul_nonneg <;> apply e_nonneg <;> apply Rat.mul_nonneg <;> grind
  by_cases h : j < M - i
  · rw [if_pos h]; grind
  · rw [if_neg h]
    have ex := e_bd hx.1 hx.2 i
    have ey := e_bd hy.1 hy.2 j
    have b1 := mul_bd ex.1 ex.2 ey.1 ey.2
    have b2 := sgn_mul (hs (i + j)) b1
    rw [e_scale, e_scale]
    have hpow : r ^ M ≤ r ^ i * r ^ j := by rw [← pow_add']; exact pow_mono hr (by omega)
    have hr0 := pow_nonneg' (r := r) (by grind) M
    have hE : 0 ≤ e i X * e j Y := Rat.mul_nonneg (e_nonneg hX i) (e_nonneg hY j)
    have b3 : 0 ≤ (r ^ i * r ^ j - r ^ M) * (e i X * e j Y) := Rat.mul_nonneg (by grind) hE
    have b4 : 0 ≤ r ^ M * (e i X * e j Y - s (i + j) * (e i x * e j y)) := Rat.mul_nonneg hr0 (by grind)
    have b5 : 0 ≤ r ^ M * (e i X * e j Y + s (i + j) * (e i x * e j y)) := Rat.mul_nonneg hr0 (by grind)
    constructor <;> grind

def sg : Nat → Rat
  | 0 => 0
  | 1 => 1
  | n + 2 => -(sg n)

def cg : Nat → Rat
  | 0 => 1
  | 1 => 0
  | n + 2 => -(cg n)

theorem sg_cg (n : Nat) : sg (n + 1) = cg n ∧ cg (n + 1) = -(sg n) := by
  induction n with
  | zero => simp [sg, cg]
  | succ n ih => obtain ⟨a, b⟩ := ih; simp only [sg, cg]; rw [a, b]; grind

theorem sg_cg_bd (n : Nat) : (-1 ≤ sg n ∧ sg n ≤ 1) ∧ (-1 ≤ cg n ∧ cg n ≤ 1) := by
  induction n with
  | zero => simp only [sg, cg]; grind
  | succ n ih => obtain ⟨a, b⟩ := sg_cg n; rw [a, b]; grind

theorem sg_cg_add (i j : Nat) : sg (i + j) = sg i * cg j + cg i * sg j ∧ cg (i + j) = cg i * cg j - sg i * sg j := by
  induction i with
  | zero => simp only [sg, cg, Nat.zero_add]; grind
  | succ i ih =>
    obtain ⟨a, b⟩ := ih
    rw [show i + 1 + j = (i + j) + 1 from by omega, (sg_cg (i + j)).1, (sg_cg (i + j)).2, (sg_cg i).1, (sg_cg i).2, a, b]
    grind

/-- how many terms -/
def M : Nat := 150

def sn (x : Rat) : Rat := sm M (fun k => sg k * e k x)
def cs (x : Rat) : Rat := sm M (fun k => cg k * e k x)

/-- an upper bound of the sum of the first terms of the exponential series of a natural number -/
def eb (X : Nat) : Nat → Nat → Nat → Nat → Nat
  | 0, _, _, acc => acc
  | n + 1, k, t, acc => eb X n (k + 1) (t * X / (k + 1) + 1) (acc + t)

theorem eb_le (X : Nat) (n : Nat) : ∀ (k t acc : Nat), e k (X : Rat) ≤ (t : Rat) → sm k (fun k => e k (X : Rat)) ≤ (acc : Rat) →
    sm (k + n) (fun k => e k (X : Rat)) ≤ ((eb X n k t acc : Nat) : Rat) := by
  induction n with
  | zero => intro k t acc h1 h2; exact h2
  | succ n ih =>
    intro k t acc h1 h2
    rw [show k + (n + 1) = (k + 1) + n from by omega]
    refine ih (k + 1) _ _ ?_ ?_
    · have hp := cast_pos k
      have hX : (0 : Rat) ≤ (X : Rat) := by
        have : ((0 : Nat) : Rat) ≤ (X : Rat) := Rat.natCast_le_natCast.2 (by omega)
        simpa using this
      have h3 : t * X ≤ (t * X / (k + 1) + 1) * (k + 1) := by
        have := Nat.div_add_mod (t * X) (k + 1)
        have := Nat.mod_lt (t * X) (y := k + 1) (by omega)
        rw [Nat.add_mul, Nat.mul_comm (t * X / (k + 1))]; omega
      have h4 : ((t * X : Nat) : Rat) ≤ (((t * X / (k + 1) + 1) * (k + 1) : Nat) : Rat) := Rat.natCast_le_natCast.2 h3
      rw [Rat.natCast_mul, Rat.natCast_mul] at h4
      have h5 : e k (X : Rat) * X ≤ t * X := Rat.mul_le_mul_of_nonneg_right h1 hX
      have h6 := e_succ k (X : Rat)
      have h7 : ((k + 1 : Nat) : Rat) * e (k + 1) (X : Rat) ≤ ((k + 1 : Nat) : Rat) * ((t * X / (k + 1) + 1 : Nat) : Rat) := by grind
      exact Rat.le_of_mul_le_mul_left h7 hp
    · rw [Rat.natCast_add]; simp only [sm]; grind

theorem exp78 : sm M (fun k => e k ((78 : Nat) : Rat)) ≤ ((10 ^ 34 : Nat) : Rat) := by
  have h := eb_le 78 150 0 1 0 (by simp [e]) (by simp [sm])
  rw [Nat.zero_add] at h
  refine Rat.le_trans h (Rat.natCast_le_natCast.2 ?_)
  decide +kernel

/-- what the sums leave open -/
def eta : Rat := 1 / ((10 ^ 48 : Nat) : Rat)

theorem rect13 (s : Nat → Rat) (hs : ∀ k, -1 ≤ s k ∧ s k ≤ 1) (x y : Rat) (hx : -13 ≤ x ∧ x ≤ 13) (hy : -13 ≤ y ∧ y ≤ 13) :
    -eta ≤ sm M (fun i => sm M (fun j => s (i + j) * e i x * e j y)) - sm M (fun k => s k * e k (x + y)) ∧
    sm M (fun i => sm M (fun j => s (i + j) * e i x * e j y)) - sm M (fun k => s k * e k (x + y)) ≤ eta := by
  have h := rect s hs 6 13 13 x y (by decide) hx hy M
  rw [show (6 : Rat) * 13 = ((78 : Nat) : Rat) from by decide +kernel] at h
  generalize sm M (fun i => sm M (fun j => s (i + j) * e i x * e j y)) - sm M (fun k => s k * e k (x + y)) = d at *
  have h0 : 0 ≤ sm M (fun k => e k ((78 : Nat) : Rat)) := by
    have := sm_le (f := fun _ => 0) (g := fun k => e k ((78 : Nat) : Rat)) M (fun k _ => e_nonneg (by decide) k)
    have z : sm M (fun _ => 0) = 0 := by decide +kernel
    grind
  have h1 := exp78
  generalize sm M (fun k => e k ((78 : Nat) : Rat)) = B at *
  have h2 : B * B ≤ ((10 ^ 34 : Nat) : Rat) * ((10 ^ 34 : Nat) : Rat) := by
    have a : 0 ≤ (((10 ^ 34 : Nat) : Rat) - B) * (((10 ^ 34 : Nat) : Rat) + B) := Rat.mul_nonneg (by grind) (by grind)
    grind
  have h3 : ((10 ^ 34 : Nat) : Rat) * ((10 ^ 34 : Nat) : Rat) ≤ (6 : Rat) ^ M * eta := by decide +kernel
  have h4 : (0 : Rat) < 6 ^ M := by decide +kernel
  constructor
  · have : (6 : Rat) ^ M * (-eta) ≤ 6 ^ M * d := by grind
    exact Rat.le_of_mul_le_mul_left this h4
  · have : (6 : Rat) ^ M * d ≤ 6 ^ M * eta := by grind
    exact Rat.le_of_mul_le_mul_left this h4

theorem sn_add {x y : Rat} (hx : -13 ≤ x ∧ x ≤ 13) (hy : -13 ≤ y ∧ y ≤ 13) :
    -eta ≤ sn x * cs y + cs x * sn y - sn (x + y) ∧ sn x * cs y + cs x * sn y - sn (x + y) ≤ eta := by
  have h := rect13 sg (fun k => (sg_cg_bd k).1) x y hx hy
  have : sm M (fun i => sm M (fun j => sg (i + j) * e i x * e j y)) = sn x * cs y + cs x * sn y := by
    have h1 : sm M (fun i => sm M (fun j => sg (i + j) * e i x * e j y)) = sm M (fun i => cs y * (sg i * e i x) + sn y * (cg i * e i x)) := by
      refine sm_congr _ (fun i _ => ?_)
      have : sm M (fun j => sg (i + j) * e i x * e j y) = sm M (fun j => (sg i * e i x) * (cg j * e j y) + (cg i * e i x) * (sg j * e j y)) :=
        sm_congr _ (fun j _ => by rw [(sg_cg_add i j).1]; grind)
      rw [this, sm_add, sm_mul, sm_mul]; unfold sn cs; grind
    rw [h1, sm_add, sm_mul, sm_mul]; unfold sn cs; grind
  rw [this] at h
  exact h

theorem cs_add {x y : Rat} (hx : -13 ≤ x ∧ x ≤ 13) (hy : -13 ≤ y ∧ y ≤ 13) :
    -eta ≤ cs x * cs y - sn x * sn y - cs (x + y) ∧ cs x * cs y - sn x * sn y - cs (x + y) ≤ eta := by
  have h := rect13 cg (fun k => (sg_cg_bd k).2) x y hx hy
  have : sm M (fun i => sm M (fun j => cg (i + j) * e i x * e j y)) = cs x * cs y - sn x * sn y := by
    have h1 : sm M (fun i => sm M (fun j => cg (i + j) * e i x * e j y)) = sm M (fun i => cs y * (cg i * e i x) - sn y * (sg i * e i x)) := by
      refine sm_congr _ (fun i _ => ?_)
      have : sm M (fun j => cg (i + j) * e i x * e j y) = sm M (fun j => (cg i * e i x) * (cg j * e j y) - (sg i * e i x) * (sg j * e j y)) :=
        sm_congr _ (fun j _ => by rw [(sg_cg_add i j).2]; grind)
      rw [this, sm_sub, sm_mul, sm_mul]; unfold sn cs; grind
    rw [h1, sm_sub, sm_mul, sm_mul]; unfold sn cs; grind
  rw [this] at h
  exact h

theorem e_neg (k : Nat) (x : Rat) : sg k * e k (-x) = -(sg k * e k x) ∧ cg k * e k (-x) = cg k * e k x := by
  have h1 : ∀ k, e (k + 2) (-x) = e k (-x) * x * x / ((k + 1 : Nat) : Rat) / ((k + 2 : Nat) : Rat) := fun k => by simp only [e]; grind
  have h2 : ∀ k, e (k + 2) x = e k x * x * x / ((k + 1 : Nat) : Rat) / ((k + 2 : Nat) : Rat) := fun k => by simp only [e]; grind
  have key : ∀ n, (sg (2 * n) = 0 ∧ e (2 * n) (-x) = e (2 * n) x) ∧ (cg (2 * n + 1) = 0 ∧ e (2 * n + 1) (-x) = -(e (2 * n + 1) x)) := by
    intro n
    induction n with
    | zero => simp only [sg, cg, e, Nat.zero_add]; grind
    | succ n ih =>
      rw [show 2 * (n + 1) = 2 * n + 2 from by omega, show 2 * n + 2 + 1 = 2 * n + 1 + 2 from by omega, h1, h1, h2, h2]
      simp only [sg, cg]
      grind
  rcases Nat.mod_two_eq_zero_or_one k with hk | hk
  · obtain ⟨n, rfl⟩ : ∃ n, k = 2 * n := ⟨k / 2, by omega⟩
    have := key n; grind
  · obtain ⟨n, rfl⟩ : ∃ n, k = 2 * n + 1 := ⟨k / 2, by omega⟩
    have := key n; grind

theorem sn_neg (x : Rat) : sn (-x) = -(sn x) := by
  unfold sn
  rw [show -(sm M (fun k => sg k * e k x)) = (-1) * sm M (fun k => sg k * e k x) from by grind, ← sm_mul]
  exact sm_congr _ (fun k _ => by rw [(e_neg k x).1]; grind)

theorem cs_neg (x : Rat) : cs (-x) = cs x := sm_congr _ (fun k _ => (e_neg k x).2)


/-- Horner's scheme of the alternating series -/
def hn (q : Rat) : Nat → Nat → Rat
  | 0, _ => 1
  | n + 1, p => 1 - q / (((p + 1) * (p + 2) : Nat) : Rat) * hn q n (p + 2)

def al : Nat → Rat
  | 0 => 1
  | n + 1 => -(al n)

theorem e_two (p : Nat) (x : Rat) : e (p + 2) x = e p x * ((x * x) / (((p + 1) * (p + 2) : Nat) : Rat)) := by
  have h1 := cast_ne p
  have h2 := cast_ne (p + 1)
  rw [Rat.natCast_mul]
  simp only [e]
  grind

theorem horner (x : Rat) (n : Nat) : ∀ p, e p x * hn (x * x) n p = sm (n + 1) (fun i => al i * e (p + 2 * i) x) := by
  induction n with
  | zero => intro p; simp only [hn, sm, al, Nat.mul_zero, Nat.add_zero]; grind
  | succ n ih =>
    intro p
    rw [sm_first]
    have h1 : sm (n + 1) (fun k => al (k + 1) * e (p + 2 * (k + 1)) x) = (-1) * sm (n + 1) (fun k => al k * e ((p + 2) + 2 * k) x) := by
      rw [← sm_mul]
      exact sm_congr _ (fun k _ => by rw [show p + 2 * (k + 1) = p + 2 + 2 * k from by omega]; simp only [al]; grind)
    rw [h1, ← ih (p + 2), e_two]
    simp only [hn, al, Nat.mul_zero, Nat.add_zero]
    grind

theorem odd_terms (x : Rat) (n : Nat) : sm (2 * n) (fun k => sg k * e k x) = sm n (fun i => al i * e (1 + 2 * i) x) := by
  have hs : ∀ n, sg (2 * n) = 0 ∧ sg (2 * n + 1) = al n := by
    intro n
    induction n with
    | zero => simp [sg, al]
    | succ n ih => rw [show 2 * (n + 1) = 2 * n + 2 from by omega, show 2 * n + 2 + 1 = 2 * n + 1 + 2 from by omega]; simp only [sg, al]; grind
  induction n with
  | zero => rfl
  | succ n ih =>
    rw [show 2 * (n + 1) = 2 * n + 1 + 1 from by omega]
    simp only [sm]
    rw [ih, (hs n).1, (hs n).2, show 1 + 2 * n = 2 * n + 1 from by omega]
    grind

theorem even_terms (x : Rat) (n : Nat) : sm (2 * n) (fun k => cg k * e k x) = sm n (fun i => al i * e (0 + 2 * i) x) := by
  have hs : ∀ n, cg (2 * n) = al n ∧ cg (2 * n + 1) = 0 := by
    intro n
    induction n with
    | zero => simp [cg, al]
    | succ n ih => rw [show 2 * (n + 1) = 2 * n + 2 from by omega, show 2 * n + 2 + 1 = 2 * n + 1 + 2 from by omega]; simp only [cg, al]; grind
  induction n with
  | zero => rfl
  | succ n ih =>
    rw [show 2 * (n + 1) = 2 * n + 1 + 1 from by omega]
    simp only [sm]
    rw [ih, (hs n).1, (hs n).2, show 0 + 2 * n = 2 * n from by omega]
    grind

theorem sn_horner (x : Rat) : sn x = x * hn (x * x) 74 1 := by
  unfold sn
  rw [show M = 2 * 75 from rfl, odd_terms, ← horner]
  simp only [e]
  grind

theorem cs_horner (x : Rat) : cs x = hn (x * x) 74 0 := by
  unfold cs
  rw [show M = 2 * 75 from rfl, even_terms, ← horner]
  simp only [e]
  grind

theorem div_nonneg' {a : Rat} (h : 0 ≤ a) (k : Nat) : 0 ≤ a / ((k + 1 : Nat) : Rat) := by
  have := div_le (cast_pos k) h
  grind

theorem div_mono_den {a : Rat} (h : 0 ≤ a) {k m : Nat} (hk : k ≤ m) : a / ((m + 1 : Nat) : Rat) ≤ a / ((k + 1 : Nat) : Rat) := by
  have p1 := cast_pos k
  have p2 := cast_pos m
  have hle : ((k + 1 : Nat) : Rat) ≤ ((m + 1 : Nat) : Rat) := Rat.natCast_le_natCast.2 (by omega)
  have h1 := div_nonneg' h k
  have h2 : 0 ≤ (((m + 1 : Nat) : Rat) - ((k + 1 : Nat) : Rat)) * (a / ((k + 1 : Nat) : Rat)) := Rat.mul_nonneg (by grind) h1
  have h3 : ((m + 1 : Nat) : Rat) * (a / ((m + 1 : Nat) : Rat)) = a := by grind
  have h4 : ((k + 1 : Nat) : Rat) * (a / ((k + 1 : Nat) : Rat)) = a := by grind
  have h5 : ((m + 1 : Nat) : Rat) * (a / ((m + 1 : Nat) : Rat)) ≤ ((m + 1 : Nat) : Rat) * (a / ((k + 1 : Nat) : Rat)) := by grind
  exact Rat.le_of_mul_le_mul_left h5 p2

theorem den (p : Nat) : (p + 1) * (p + 2) = ((p + 1) * (p + 2) - 1) + 1 := by
  have : 0 < (p + 1) * (p + 2) := Nat.mul_pos (by omega) (by omega)
  omega

theorem coef {q : Rat} (h0 : 0 ≤ q) (p : Nat) (hp : 1 ≤ p) : 0 ≤ q / (((p + 1) * (p + 2) : Nat) : Rat) ∧ q / (((p + 1) * (p + 2) : Nat) : Rat) ≤ q / 6 := by
  rw [den]
  refine ⟨div_nonneg' h0 _, ?_⟩
  have h6 : 6 ≤ (p + 1) * (p + 2) := by
    have := Nat.mul_le_mul (show 2 ≤ p + 1 by omega) (show 3 ≤ p + 2 by omega); omega
  have := div_mono_den (k := 5) (m := (p + 1) * (p + 2) - 1) h0 (by omega)
  simpa using this

theorem hn_unit {q : Rat} (h0 : 0 ≤ q) (h6 : q ≤ 6) (n : Nat) : ∀ p, 1 ≤ p → 0 ≤ hn q n p ∧ hn q n p ≤ 1 := by
  induction n with
  | zero => intro p _; simp only [hn]; decide
  | succ n ih =>
    intro p hp
    obtain ⟨a, b⟩ := ih (p + 2) (by omega)
    obtain ⟨c, d⟩ := coef h0 p hp
    simp only [hn]
    generalize q / (((p + 1) * (p + 2) : Nat) : Rat) = t at *
    generalize hn q n (p + 2) = h at *
    have h1 : 0 ≤ t * h := Rat.mul_nonneg c a
    have h2 : 0 ≤ t * (1 - h) := Rat.mul_nonneg c (by grind)
    constructor <;> grind

/-- the product of the coefficients -/
def pr (q : Rat) : Nat → Nat → Rat
  | 0, p => q / (((p + 1) * (p + 2) : Nat) : Rat)
  | n + 1, p => q / (((p + 1) * (p + 2) : Nat) : Rat) * pr q n (p + 2)

theorem pr_mono {q Q : Rat} (h0 : 0 ≤ q) (h : q ≤ Q) (n : Nat) : ∀ p, 0 ≤ pr q n p ∧ pr q n p ≤ pr Q n p := by
  have hQ : 0 ≤ Q := by grind
  induction n with
  | zero =>
    intro p
    simp only [pr]
    rw [den]
    exact ⟨div_nonneg' h0 _, div_le (cast_pos _) h⟩
  | succ n ih =>
    intro p
    obtain ⟨a, b⟩ := ih (p + 2)
    simp only [pr]
    rw [den]
    have c := div_nonneg' h0 ((p + 1) * (p + 2) - 1)
    have d := div_le (cast_pos ((p + 1) * (p + 2) - 1)) h
    generalize q / ((((p + 1) * (p + 2) - 1) + 1 : Nat) : Rat) = t at *
    generalize Q / ((((p + 1) * (p + 2) - 1) + 1 : Nat) : Rat) = T at *
    have h1 := Rat.mul_nonneg c a
    have h2 := Rat.mul_nonneg (show 0 ≤ T - t by grind) (show 0 ≤ pr Q n (p + 2) by grind)
    have h3 := Rat.mul_nonneg c (show 0 ≤ pr Q n (p + 2) - pr q n (p + 2) by grind)
    constructor <;> grind

theorem hn_tail {q : Rat} (h0 : 0 ≤ q) (h6 : q ≤ 6) (m n : Nat) : ∀ p, 1 ≤ p → -(pr q n p) ≤ hn q (n + m) p - hn q n p ∧ hn q (n + m) p - hn q n p ≤ pr q n p := by
  induction n with
  | zero =>
    intro p hp
    rw [Nat.zero_add]
    cases m with
    | zero =>
      have := (coef h0 p hp).1
      simp only [hn, pr]
      grind
    | succ m =>
      obtain ⟨a, b⟩ := hn_unit h0 h6 m (p + 2) (by omega)
      obtain ⟨c, d⟩ := coef h0 p hp
      simp only [hn, pr]
      generalize q / (((p + 1) * (p + 2) : Nat) : Rat) = t at *
      generalize hn q m (p + 2) = h at *
      have h1 : 0 ≤ t * h := Rat.mul_nonneg c a
      have h2 : 0 ≤ t * (1 - h) := Rat.mul_nonneg c (by grind)
      constructor <;> grind
  | succ n ih =>
    intro p hp
    obtain ⟨a, b⟩ := ih (p + 2) (by omega)
    obtain ⟨c, d⟩ := coef h0 p hp
    rw [show n + 1 + m = (n + m) + 1 from by omega]
    simp only [hn, pr]
    generalize q / (((p + 1) * (p + 2) : Nat) : Rat) = t at *
    generalize hn q (n + m) (p + 2) = h at *
    generalize hn q n (p + 2) = k at *
    generalize pr q n (p + 2) = w at *
    have h1 : 0 ≤ t * (w - (h - k)) := Rat.mul_nonneg c (by grind)
    have h2 : 0 ≤ t * (w + (h - k)) := Rat.mul_nonneg c (by grind)
    constructor <;> grind


def Near (a b d : Rat) : Prop := -d ≤ a - b ∧ a - b ≤ d

def piN : Nat := 0xC90FDAA22168C234C4C6628B80DC1CD1
/-- half of what stands for pi -/
def H : Rat := (piN : Rat) / ((2 ^ 127 : Nat) : Rat)
def P : Rat := H + H
def mu : Rat := 1 / ((10 ^ 37 : Nat) : Rat)
def ep : Rat := 1 / ((10 ^ 36 : Nat) : Rat)

theorem mu_eta : 0 < eta ∧ eta ≤ mu / 1000 ∧ 0 < mu ∧ ep = 10 * mu ∧ mu ≤ 1 / 1000 := by
  unfold eta mu ep; decide +kernel

theorem sn_H : Near (sn H) 1 mu := by
  rw [sn_horner]; unfold Near; decide +kernel

theorem cs_H : Near (cs H) 0 mu := by
  rw [cs_horner]; unfold Near; decide +kernel

theorem H_bd : (157 : Rat) / 100 ≤ H ∧ H ≤ (158 : Rat) / 100 := by decide +kernel

theorem sn_zero : sn 0 = 0 := by rw [sn_horner]; grind
theorem cs_zero : cs 0 = 1 := by rw [cs_horner]; decide +kernel

theorem one_sq {x : Rat} (hx : -13 ≤ x ∧ x ≤ 13) : Near (sn x * sn x + cs x * cs x) 1 eta := by
  have h := cs_add hx (y := -x) (by grind)
  rw [cs_neg, sn_neg, show x + -x = 0 from by grind, cs_zero] at h
  unfold Near
  grind

theorem sq_le {a b : Rat} (h : a * a ≤ b * b) (hb : 0 < b) : -b ≤ a ∧ a ≤ b := by
  constructor
  · by_cases c : -b ≤ a
    · exact c
    · exfalso
      have : 0 < (-a - b) * (b - a) := Rat.mul_pos (by grind) (by grind)
      grind
  · by_cases c : a ≤ b
    · exact c
    · exfalso
      have : 0 < (a - b) * (b + a) := Rat.mul_pos (by grind) (by grind)
      grind

theorem sq_nonneg (a : Rat) : 0 ≤ a * a := by
  by_cases h : 0 ≤ a
  · exact Rat.mul_nonneg h h
  · have : 0 ≤ (-a) * (-a) := Rat.mul_nonneg (by grind) (by grind)
    grind

theorem bd {x : Rat} (hx : -13 ≤ x ∧ x ≤ 13) : (-(11 / 10) ≤ sn x ∧ sn x ≤ 11 / 10) ∧ (-(11 / 10) ≤ cs x ∧ cs x ≤ 11 / 10) := by
  obtain ⟨h1, h2⟩ := one_sq hx
  obtain ⟨m1, m2, m3, m4, m5⟩ := mu_eta
  have a := sq_nonneg (sn x)
  have b := sq_nonneg (cs x)
  exact ⟨sq_le (by grind) (by decide +kernel), sq_le (by grind) (by decide +kernel)⟩

theorem mul_near {a b d x X : Rat} (h : Near a b d) (hx : -X ≤ x ∧ x ≤ X) : Near (x * a) (x * b) (X * d) := by
  have := mul_bd hx.1 hx.2 h.1 h.2
  unfold Near
  grind

/-- a quarter of a turn less -/
theorem quarter {x : Rat} (hx : -13 ≤ x ∧ x ≤ 13) : Near (sn (H - x)) (cs x) ep ∧ Near (cs (H - x)) (sn x) ep := by
  obtain ⟨m1, m2, m3, m4, m5⟩ := mu_eta
  obtain ⟨p1, p2⟩ := H_bd
  have h1 := sn_add (x := H) (y := -x) (by grind) (by grind)
  have h2 := cs_add (x := H) (y := -x) (by grind) (by grind)
  obtain ⟨b1, b2⟩ := bd hx
  have a1 := mul_near sn_H b2
  have a2 := mul_near cs_H b1
  have a3 := mul_near sn_H b1
  have a4 := mul_near cs_H b2
  rw [sn_neg, cs_neg, show H + -x = H - x from by grind] at h1
  rw [sn_neg, cs_neg, show H + -x = H - x from by grind] at h2
  unfold Near at *
  generalize sn x = s at *
  generalize cs x = c at *
  generalize sn H = sh at *
  generalize cs H = ch at *
  constructor <;> grind

theorem near_trans {a b c d f : Rat} (h1 : Near a b d) (h2 : Near b c f) : Near a c (d + f) := by unfold Near at *; grind
theorem near_symm {a b d : Rat} (h : Near a b d) : Near b a d := by unfold Near at *; grind
theorem near_neg {a b d : Rat} (h : Near a b d) : Near (-a) (-b) d := by unfold Near at *; grind
theorem near_mono {a b d f : Rat} (h : Near a b d) (hd : d ≤ f) : Near a b f := by unfold Near at *; grind

/-- two right angles less -/
theorem half_less {x : Rat} (hx : -11 ≤ x ∧ x ≤ 11) : Near (sn (P - x)) (sn x) (2 * ep) ∧ Near (cs (P - x)) (-(cs x)) (2 * ep) := by
  obtain ⟨p1, p2⟩ := H_bd
  obtain ⟨a1, a2⟩ := quarter (x := x - H) (by grind)
  obtain ⟨b1, b2⟩ := quarter (x := x) (by grind)
  rw [show H - (x - H) = P - x from by unfold P; grind] at a1 a2
  rw [show x - H = -(H - x) from by grind, cs_neg] at a1
  rw [show x - H = -(H - x) from by grind, sn_neg] at a2
  have c := near_neg b1
  unfold Near at *
  generalize sn x = s at *
  generalize cs x = c at *
  constructor <;> grind

theorem half_more {x : Rat} (hx : -11 ≤ x ∧ x ≤ 11) : Near (sn (x + P)) (-(sn x)) (2 * ep) ∧ Near (cs (x + P)) (-(cs x)) (2 * ep) := by
  obtain ⟨a, b⟩ := half_less (x := -x) (by grind)
  rw [sn_neg, show P - -x = x + P from by grind] at a
  rw [cs_neg, show P - -x = x + P from by grind] at b
  exact ⟨a, b⟩

/-- small angles -/
theorem sn_small {d : Rat} (h0 : 0 ≤ d) (h : d * d ≤ 3) : d / 2 ≤ sn d ∧ sn d ≤ d := by
  have hq := sq_nonneg d
  obtain ⟨a, b⟩ := hn_unit hq (by grind) 73 3 (by decide)
  obtain ⟨a', b'⟩ := hn_unit hq (by grind) 74 1 (by decide)
  rw [sn_horner]
  have hh : hn (d * d) 74 1 = 1 - d * d / 6 * hn (d * d) 73 3 := rfl
  have h1 : 0 ≤ d * (1 - hn (d * d) 74 1) := Rat.mul_nonneg h0 (by grind)
  have h2 : 0 ≤ (d * d) * (1 - hn (d * d) 73 3) := Rat.mul_nonneg hq (by grind)
  have h3 : 1 / 2 ≤ hn (d * d) 74 1 := by grind
  have h4 : 0 ≤ d * (hn (d * d) 74 1 - 1 / 2) := Rat.mul_nonneg h0 (by grind)
  constructor <;> grind

theorem cs_small {d : Rat} (h : d * d ≤ 6) : 1 - d * d / 2 ≤ cs d ∧ cs d ≤ 1 := by
  have hq := sq_nonneg d
  obtain ⟨a, b⟩ := hn_unit hq (by grind) 73 2 (by decide)
  rw [cs_horner]
  have hh : hn (d * d) 74 0 = 1 - d * d / 2 * hn (d * d) 73 2 := rfl
  have h1 : 0 ≤ (d * d) * (1 - hn (d * d) 73 2) := Rat.mul_nonneg hq (by grind)
  have h2 : 0 ≤ (d * d) * hn (d * d) 73 2 := Rat.mul_nonneg hq (by grind)
  constructor <;> grind

/-- the sine moves no more than its angle, but for a factor -/
theorem lip {y d : Rat} (hy : -12 ≤ y ∧ y ≤ 12) (h0 : 0 ≤ d) (h1 : d ≤ 1) : Near (sn (y + d)) (sn y) (3 * d + eta) := by
  obtain ⟨b1, b2⟩ := bd (x := y) (by grind)
  have hd2 : d * d ≤ d := by have := Rat.mul_nonneg h0 (show 0 ≤ 1 - d by grind); grind
  obtain ⟨s1, s2⟩ := sn_small h0 (by grind)
  obtain ⟨c1, c2⟩ := cs_small (d := d) (by grind)
  have h := sn_add (x := y) (y := d) (by grind) (by grind)
  have k1 := mul_bd b1.1 b1.2 (x := cs d - 1) (X := d) (by grind) (by grind)
  have k2 := mul_bd b2.1 b2.2 (x := sn d) (X := d) (by grind) (by grind)
  unfold Near
  grind

/-- the sine grows from m - h to m + h, if m + h is at most a right angle -/
theorem grow {m h : Rat} (hm : 0 ≤ m) (hh : 0 ≤ h) (hle : m + h ≤ H) : h * h / 2 - 6 * ep ≤ sn (m + h) - sn (m - h) := by
  obtain ⟨m1, m2, m3, m4, m5⟩ := mu_eta
  obtain ⟨p1, p2⟩ := H_bd
  have e1 := sn_add (x := m) (y := h) (by grind) (by grind)
  have e2 := sn_add (x := m) (y := -h) (by grind) (by grind)
  rw [sn_neg, cs_neg, show m + -h = m - h from by grind] at e2
  have hsq : ∀ d : Rat, 0 ≤ d → d ≤ 17 / 10 → d * d ≤ 3 := by
    intro d d0 d1
    have := Rat.mul_nonneg d0 (show 0 ≤ 17 / 10 - d by grind)
    grind
  obtain ⟨s1, s2⟩ := sn_small hh (hsq h hh (by grind))
  obtain ⟨t1, t2⟩ := sn_small (d := H - m) (by grind) (hsq _ (by grind) (by grind))
  obtain ⟨q1, q2⟩ := quarter (x := H - m) (by grind)
  rw [show H - (H - m) = m from by grind] at q2
  have hc : h / 2 - ep ≤ cs m := by unfold Near at q2; grind
  have z1 : 0 ≤ sn h := by grind
  have z2 := Rat.mul_nonneg (show 0 ≤ cs m - (h / 2 - ep) by grind) z1
  have z3 := Rat.mul_nonneg hh (show 0 ≤ sn h - h / 2 by grind)
  have z4 := Rat.mul_nonneg (show 0 ≤ ep by grind) (show 0 ≤ 2 - sn h by grind)
  grind


def times (a b : Nat) : Nat := (a / 2 ^ 64 * (b / 2 ^ 64) * 2 ^ 64 + a / 2 ^ 64 * (b % 2 ^ 64) + a % 2 ^ 64 * (b / 2 ^ 64)) / 2 ^ 62
/-- what the program's loop computes: n rounds, of which the last one divides by (p + 1) (p + 2) -/
def srs (sq : Nat) : Nat → Nat → Nat
  | 0, _ => 2 ^ 126
  | n + 1, p => 2 ^ 126 - times sq (srs sq n (p + 2)) / ((p + 1) * (p + 2))
def xang (a : Nat) : Nat := piN * a / 180000000
def steepV (a : Nat) : Nat := times (xang a) (srs (times (xang a) (xang a)) 17 1)

theorem times_bd (a b : Nat) : times a b * 2 ^ 126 ≤ a * b ∧ a * b ≤ (times a b + 5) * 2 ^ 126 := by
  have ha := Nat.div_add_mod a (2 ^ 64)
  have hb := Nat.div_add_mod b (2 ^ 64)
  have la := Nat.mod_lt a (show 2 ^ 64 > 0 by decide)
  have lb := Nat.mod_lt b (show 2 ^ 64 > 0 by decide)
  unfold times
  generalize a / 2 ^ 64 = p at *
  generalize b / 2 ^ 64 = q at *
  generalize a % 2 ^ 64 = r at *
  generalize b % 2 ^ 64 = s at *
  have hrs : r * s ≤ 2 ^ 64 * 2 ^ 64 := Nat.mul_le_mul (by omega) (by omega)
  have key : a * b = p * q * 2 ^ 128 + (p * s + r * q) * 2 ^ 64 + r * s := by
    rw [← ha, ← hb]; grind
  rw [key]
  generalize p * q = A at *
  generalize p * s = B at *
  generalize r * q = C at *
  generalize r * s = D at *
  omega

def tr (n : Nat) : Rat := (n : Rat) / ((2 ^ 126 : Nat) : Rat)
def u : Rat := 1 / ((2 ^ 126 : Nat) : Rat)

theorem Wpos : (0 : Rat) < ((2 ^ 126 : Nat) : Rat) := by decide +kernel
theorem u_bd : 0 < u ∧ 100 * u ≤ 2 * ep ∧ u ≤ 1 / 1000 := by unfold u ep; decide +kernel

theorem tr_u (n : Nat) : tr n = (n : Rat) * u := by unfold tr u; grind
theorem tr_mul (n m : Nat) : tr (n * m) = tr n * (m : Rat) := by unfold tr; rw [Rat.natCast_mul]; grind
theorem tr_one : tr (2 ^ 126) = 1 := by unfold tr; have := Wpos; grind
theorem tr_le {m n : Nat} (h : m ≤ n) : tr m ≤ tr n := by
  have a : (m : Rat) ≤ (n : Rat) := Rat.natCast_le_natCast.2 h
  have b := Rat.mul_nonneg (show 0 ≤ (n : Rat) - (m : Rat) by grind) (Rat.le_of_lt u_bd.1)
  rw [tr_u, tr_u]; grind
theorem tr_nonneg (n : Nat) : 0 ≤ tr n := by
  have := tr_le (Nat.zero_le n)
  have z : tr 0 = 0 := by unfold tr; decide +kernel
  grind
theorem tr_add (m n : Nat) : tr (m + n) = tr m + tr n := by rw [tr_u, tr_u, tr_u, Rat.natCast_add]; grind
theorem tr_W (n : Nat) : (n : Rat) = tr n * ((2 ^ 126 : Nat) : Rat) := by unfold tr; have := Wpos; grind

theorem tr_times (a b : Nat) : tr a * tr b - 5 * u ≤ tr (times a b) ∧ tr (times a b) ≤ tr a * tr b := by
  obtain ⟨h1, h2⟩ := times_bd a b
  have g1 := tr_le h1
  have g2 := tr_le h2
  rw [tr_mul, tr_mul a b, tr_W b] at g1
  rw [tr_mul, tr_mul, tr_W b, tr_add] at g2
  have five : tr 5 = 5 * u := by rw [tr_u]; rfl
  rw [five] at g2
  have hW := Wpos
  constructor
  · have : ((2 ^ 126 : Nat) : Rat) * (tr a * tr b - 5 * u) ≤ ((2 ^ 126 : Nat) : Rat) * tr (times a b) := by grind
    exact Rat.le_of_mul_le_mul_left this hW
  · have : ((2 ^ 126 : Nat) : Rat) * tr (times a b) ≤ ((2 ^ 126 : Nat) : Rat) * (tr a * tr b) := by grind
    exact Rat.le_of_mul_le_mul_left this hW

theorem tr_div (a m : Nat) : tr a / ((m + 1 : Nat) : Rat) - u ≤ tr (a / (m + 1)) ∧ tr (a / (m + 1)) ≤ tr a / ((m + 1 : Nat) : Rat) := by
  have h1 : a / (m + 1) * (m + 1) ≤ a := Nat.div_mul_le_self a (m + 1)
  have h2 : a ≤ (a / (m + 1) + 1) * (m + 1) := by
    have := Nat.div_add_mod a (m + 1)
    have := Nat.mod_lt a (y := m + 1) (by omega)
    rw [Nat.add_mul, Nat.mul_comm (a / (m + 1))]; omega
  have g1 := tr_le h1
  have g2 := tr_le h2
  rw [tr_mul] at g1
  rw [tr_mul, tr_add] at g2
  have one : tr 1 = u := by rw [tr_u]; grind
  rw [one] at g2
  have hm := cast_pos m
  have hq : ((m + 1 : Nat) : Rat) * (tr a / ((m + 1 : Nat) : Rat)) = tr a := by grind
  constructor
  · have : ((m + 1 : Nat) : Rat) * (tr a / ((m + 1 : Nat) : Rat) - u) ≤ ((m + 1 : Nat) : Rat) * tr (a / (m + 1)) := by grind
    exact Rat.le_of_mul_le_mul_left this hm
  · have : ((m + 1 : Nat) : Rat) * tr (a / (m + 1)) ≤ ((m + 1 : Nat) : Rat) * (tr a / ((m + 1 : Nat) : Rat)) := by grind
    exact Rat.le_of_mul_le_mul_left this hm

theorem srs_near (sq : Nat) (Q : Rat) (hQ : Q ≤ 5 / 2) (h1 : Q - 5 * u ≤ tr sq) (h2 : tr sq ≤ Q) (n : Nat) :
    ∀ p, 1 ≤ p → Near (tr (srs sq n p)) (hn Q n p) (5 * u) ∧ tr (srs sq n p) ≤ 1 := by
  obtain ⟨u0, u1, u2⟩ := u_bd
  have hq0 := tr_nonneg sq
  induction n with
  | zero => intro p _; simp only [srs, hn]; rw [tr_one]; unfold Near; grind
  | succ n ih =>
    intro p hp
    obtain ⟨⟨n1, n2⟩, s1⟩ := ih (p + 2) (by omega)
    obtain ⟨a, b⟩ := hn_unit (q := Q) (by grind) (by grind) n (p + 2) (by omega)
    have s0 := tr_nonneg (srs sq n (p + 2))
    obtain ⟨t1, t2⟩ := tr_times sq (srs sq n (p + 2))
    simp only [srs, hn]
    have h6 : 6 ≤ (p + 1) * (p + 2) := by
      have := Nat.mul_le_mul (show 2 ≤ p + 1 by omega) (show 3 ≤ p + 2 by omega); omega
    rw [show (p + 1) * (p + 2) = ((p + 1) * (p + 2) - 1) + 1 by omega]
    obtain ⟨d1, d2⟩ := tr_div (times sq (srs sq n (p + 2))) ((p + 1) * (p + 2) - 1)
    have hinv : ∀ z : Rat, 0 ≤ z → 0 ≤ z / (((p + 1) * (p + 2) - 1 + 1 : Nat) : Rat) ∧ z / (((p + 1) * (p + 2) - 1 + 1 : Nat) : Rat) ≤ z / 6 := by
      intro z hz
      refine ⟨div_nonneg' hz _, ?_⟩
      have := div_mono_den (k := 5) (m := (p + 1) * (p + 2) - 1) hz (by omega)
      simpa using this
    have hpos := cast_pos ((p + 1) * (p + 2) - 1)
    generalize (((p + 1) * (p + 2) - 1 + 1 : Nat) : Rat) = m at *
    generalize (p + 1) * (p + 2) - 1 + 1 = mn at *
    have hXW : times sq (srs sq n (p + 2)) / mn ≤ 2 ^ 126 := by
      have hle : tr (times sq (srs sq n (p + 2)) / mn) ≤ 1 := by
        have k1 := Rat.mul_nonneg hq0 (show 0 ≤ 1 - tr (srs sq n (p + 2)) by grind)
        have k2 := (hinv (tr (times sq (srs sq n (p + 2)))) (tr_nonneg _)).2
        grind
      have : ((times sq (srs sq n (p + 2)) / mn : Nat) : Rat) ≤ ((2 ^ 126 : Nat) : Rat) := by
        rw [tr_W (times sq (srs sq n (p + 2)) / mn)]
        have := Rat.mul_nonneg (show 0 ≤ 1 - tr (times sq (srs sq n (p + 2)) / mn) by grind) (Rat.le_of_lt Wpos)
        grind
      exact Rat.natCast_le_natCast.1 this
    have hsub : tr (2 ^ 126 - times sq (srs sq n (p + 2)) / mn) = 1 - tr (times sq (srs sq n (p + 2)) / mn) := by
      have : tr (2 ^ 126 - times sq (srs sq n (p + 2)) / mn + times sq (srs sq n (p + 2)) / mn) = 1 := by
        rw [Nat.sub_add_cancel hXW, tr_one]
      rw [tr_add] at this; grind
    have y0 := tr_nonneg (times sq (srs sq n (p + 2)) / mn)
    rw [hsub]
    generalize tr (times sq (srs sq n (p + 2)) / mn) = y at *
    generalize tr (times sq (srs sq n (p + 2))) = x at *
    generalize tr (srs sq n (p + 2)) = s at *
    generalize hn Q n (p + 2) = h at *
    generalize tr sq = q at *
    have r1 := Rat.mul_nonneg (show 0 ≤ Q - q by grind) s0
    have r2 := Rat.mul_nonneg (show 0 ≤ q - Q + 5 * u by grind) s0
    have r3 := Rat.mul_nonneg (show 0 ≤ Q by grind) (show 0 ≤ h + 5 * u - s by grind)
    have r4 := Rat.mul_nonneg (show 0 ≤ Q by grind) (show 0 ≤ s - h + 5 * u by grind)
    have r5 := Rat.mul_nonneg (Rat.le_of_lt u0) (show 0 ≤ 1 - s by grind)
    have r6 := Rat.mul_nonneg (Rat.le_of_lt u0) (show 0 ≤ 5 / 2 - Q by grind)
    -- x between Q h - (5 Q + 10) u and Q h + 5 Q u
    have x1 : Q * h - 45 / 2 * u ≤ x := by grind
    have x2 : x ≤ Q * h + 25 / 2 * u := by grind
    have i1 := (hinv (x - (Q * h - 45 / 2 * u)) (by grind)).1
    have i2 := (hinv (Q * h + 25 / 2 * u - x) (by grind)).1
    have i3 := (hinv u (by grind))
    refine ⟨?_, by grind⟩
    unfold Near
    constructor <;> grind

theorem pr25 : pr (5 / 2) 17 1 ≤ 11 / 10 * ep := by unfold ep; decide +kernel

/-- the angle of so many millionths of a degree -/
def th (a : Rat) : Rat := a * P / 180000000

theorem P_tr : P = tr piN := by unfold P H tr; decide +kernel

theorem steep_near (a : Nat) (ha : a ≤ 90000000) : Near (tr (steepV a)) (sn (th (a : Rat))) (3 * ep) := by
  obtain ⟨u0, u1, u2⟩ := u_bd
  obtain ⟨m1, m2, m3, m4, m5⟩ := mu_eta
  obtain ⟨H1, H2⟩ := H_bd
  have hx := tr_div (piN * a) (180000000 - 1)
  rw [tr_mul, ← P_tr] at hx
  have haR : (a : Rat) ≤ ((90000000 : Nat) : Rat) := Rat.natCast_le_natCast.2 ha
  have ha0 : ((0 : Nat) : Rat) ≤ (a : Rat) := Rat.natCast_le_natCast.2 (by omega)
  have c1 : ((90000000 : Nat) : Rat) = 90000000 := rfl
  have c2 : (((180000000 - 1 : Nat) + 1 : Nat) : Rat) = 180000000 := rfl
  have c3 : ((0 : Nat) : Rat) = 0 := rfl
  rw [c1] at haR
  rw [c3] at ha0
  rw [c2, show P * (a : Rat) / 180000000 = th (a : Rat) by unfold th; grind, show 180000000 - 1 + 1 = 180000000 from rfl] at hx
  have hth : 0 ≤ th (a : Rat) ∧ th (a : Rat) ≤ H := by
    have k0 := Rat.mul_nonneg ha0 (show 0 ≤ P by unfold P; grind)
    have k1 := Rat.mul_nonneg (show 0 ≤ 90000000 - (a : Rat) by grind) (show 0 ≤ P by unfold P; grind)
    unfold th; unfold P at *; constructor <;> grind
  have x0 := tr_nonneg (xang a)
  have hx' : th (a : Rat) - u ≤ tr (xang a) ∧ tr (xang a) ≤ th (a : Rat) := hx
  unfold steepV
  generalize xang a = x at *
  generalize th (a : Rat) = t at *
  have hQ : tr x * tr x ≤ 5 / 2 := by
    have := Rat.mul_nonneg x0 (show 0 ≤ 158 / 100 - tr x by grind)
    grind
  obtain ⟨s1, s2⟩ := tr_times x x
  obtain ⟨⟨n1, n2⟩, s1'⟩ := srs_near (times x x) (tr x * tr x) hQ s1 s2 17 1 (by decide)
  obtain ⟨v1, v2⟩ := tr_times x (srs (times x x) 17 1)
  have hq0 := sq_nonneg (tr x)
  obtain ⟨w1, w2⟩ := hn_tail hq0 (by grind) 57 17 1 (by decide)
  rw [show 17 + 57 = 74 from rfl] at w1 w2
  have pb := (pr_mono hq0 hQ 17 1).2
  have pb' := pr25
  have hsx := sn_horner (tr x)
  have hl := lip (y := tr x) (d := t - tr x) (by grind) (by grind) (by grind)
  rw [show tr x + (t - tr x) = t by grind] at hl
  generalize tr (times x (srs (times x x) 17 1)) = v at *
  generalize tr (srs (times x x) 17 1) = s at *
  generalize pr (tr x * tr x) 17 1 = p1 at *
  generalize pr (5 / 2) 17 1 = p2 at *
  generalize hn (tr x * tr x) 17 1 = h17 at *
  generalize hn (tr x * tr x) 74 1 = h74 at *
  generalize tr x = X at *
  have r1 := Rat.mul_nonneg x0 (show 0 ≤ h17 + 5 * u - s by grind)
  have r2 := Rat.mul_nonneg x0 (show 0 ≤ s - h17 + 5 * u by grind)
  have r3 := Rat.mul_nonneg x0 (show 0 ≤ h74 - h17 + 11 / 10 * ep by grind)
  have r4 := Rat.mul_nonneg x0 (show 0 ≤ h17 - h74 + 11 / 10 * ep by grind)
  have r5 := Rat.mul_nonneg (show 0 ≤ 158 / 100 - X by grind) (Rat.le_of_lt u0)
  have r6 := Rat.mul_nonneg (show 0 ≤ 158 / 100 - X by grind) (show 0 ≤ ep by grind)
  unfold Near at *
  constructor <;> grind

attribute [local irreducible] steepV sn cs P H ep eta tr

theorem th_add (a b : Rat) : th (a + b) = th a + th b := by unfold th; grind
theorem th_sub (a b : Rat) : th (a - b) = th a - th b := by unfold th; grind
theorem th_neg (a : Rat) : th (-a) = -(th a) := by unfold th; grind
theorem th_right : th 90000000 = H := by unfold th P; grind
theorem th_half : th 180000000 = P := by unfold th; grind
theorem th_turn : th 360000000 = P + P := by unfold th; grind

theorem P_bd : (314 : Rat) / 100 ≤ P ∧ P ≤ 316 / 100 := by
  have := H_bd; unfold P; grind

theorem th_mono {a b : Rat} (h : a ≤ b) : th a ≤ th b := by
  have := Rat.mul_nonneg (show 0 ≤ b - a by grind) (show 0 ≤ P by have := P_bd; grind)
  unfold th; grind

theorem nat_cast_nonneg (a : Nat) : (0 : Rat) ≤ (a : Rat) := by
  have : ((0 : Nat) : Rat) ≤ (a : Rat) := Rat.natCast_le_natCast.2 (by omega)
  simpa using this

theorem th_nat {a n : Nat} (h : a ≤ n) : 0 ≤ th (a : Rat) ∧ th (a : Rat) ≤ th (n : Rat) := by
  refine ⟨?_, th_mono (Rat.natCast_le_natCast.2 h)⟩
  have h0 := th_mono (nat_cast_nonneg a)
  have : th 0 = 0 := by unfold th; grind
  grind

/-- from one angle to the next one the program's value does not fall -/
theorem step_core {x y d va vb : Rat} (hx : 0 ≤ x) (hy : y ≤ H) (hxy : y = x + d) (hd0 : 0 ≤ d) (hd : 20 * ep ≤ d * d / 8) (a : Near va (sn x) (3 * ep)) (b : Near vb (sn y) (3 * ep)) : va < vb := by
  have hp : 0 < ep := by unfold ep; decide +kernel
  have hg := grow (m := x + d / 2) (h := d / 2) (by grind) (by grind) (by grind)
  rw [show x + d / 2 + d / 2 = y by grind, show x + d / 2 - d / 2 = x by grind] at hg
  unfold Near at *
  grind

theorem th_one : 0 ≤ th 1 ∧ 20 * ep ≤ th 1 * th 1 / 8 := by unfold th P H ep; decide +kernel

theorem th_succ (a : Nat) : th ((a + 1 : Nat) : Rat) = th (a : Rat) + th 1 := by rw [Rat.natCast_add, ← th_add]; rfl

/-- from one angle to the next one the program's value does not fall -/
theorem V_step (a : Nat) (ha : a + 1 ≤ 90000000) : steepV a ≤ steepV (a + 1) := by
  have A := steep_near a (by omega)
  have B := steep_near (a + 1) ha
  have c2 := (th_nat ha).2
  have c3 := (th_nat (show a ≤ 90000000 by omega)).1
  rw [show ((90000000 : Nat) : Rat) = 90000000 from rfl, th_right] at c2
  have hlt := step_core c3 c2 (th_succ a) th_one.1 th_one.2 A B
  by_cases h : steepV a ≤ steepV (a + 1)
  · exact h
  · exact absurd (tr_le (show steepV (a + 1) ≤ steepV a by omega)) (Rat.not_le.2 hlt)

theorem V_mono {a b : Nat} (h : a ≤ b) (hb : b ≤ 90000000) : steepV a ≤ steepV b := by
  obtain ⟨d, rfl⟩ : ∃ d, b = a + d := ⟨b - a, by omega⟩
  clear h
  induction d with
  | zero => exact Nat.le_refl _
  | succ d ih => exact Nat.le_trans (ih (by omega)) (V_step (a + d) (by omega))

def units (v : Nat) : Nat := v * 100000000 / 2 ^ 126
theorem units_def (v : Nat) : units v = v * 100000000 / 2 ^ 126 := rfl
attribute [local irreducible] units

def sLo (a : Nat) : Nat := if a = 0 then 0 else if a = 30000000 then 50000000 else if a = 90000000 then 100000000 else units (steepV a)
def exact? (a : Nat) : Bool := a == 0 || a == 30000000 || a == 90000000
def sHi (a : Nat) : Nat := if exact? a then sLo a else sLo a + 1

theorem units_mono {a b : Nat} (h : a ≤ b) : units a ≤ units b := by rw [units_def, units_def]; exact Nat.div_le_div_right (Nat.mul_le_mul_right _ h)

theorem sLo_gen {a : Nat} (h0 : a ≠ 0) (h1 : a ≠ 30000000) (h2 : a ≠ 90000000) : sLo a = units (steepV a) ∧ sHi a = units (steepV a) + 1 := by
  unfold sHi exact? sLo
  rw [if_neg h0, if_neg h1, if_neg h2]
  simp [h0, h1, h2]

theorem at_near30 : units (steepV 29999999) = 49999998 ∧ units (steepV 30000001) = 50000001 ∧ units (steepV 89999999) = 99999999 ∧ units (steepV 1) = 1 := by decide +kernel

theorem sLo_mono {a b : Nat} (h : a ≤ b) (hb : b ≤ 90000000) : sLo a ≤ sLo b ∧ sHi a ≤ sHi b := by
  obtain ⟨k1, k2, k3, k4⟩ := at_near30
  have big : ∀ c, c < 90000000 → units (steepV c) ≤ 99999999 := fun c hc => by rw [← k3]; exact units_mono (V_mono (by omega) (by omega))
  have low : ∀ c, c < 30000000 → units (steepV c) ≤ 49999998 := fun c hc => by rw [← k1]; exact units_mono (V_mono (by omega) (by omega))
  have high : ∀ c, 30000000 < c → c ≤ 90000000 → 50000001 ≤ units (steepV c) := fun c hc hc' => by rw [← k2]; exact units_mono (V_mono (by omega) (by omega))
  have e0 : sLo 0 = 0 ∧ sHi 0 = 0 := by decide
  have e1 : sLo 30000000 = 50000000 ∧ sHi 30000000 = 50000000 := by decide +kernel
  have e2 : sLo 90000000 = 100000000 ∧ sHi 90000000 = 100000000 := by decide +kernel
  by_cases hab : a = b
  · subst hab; exact ⟨Nat.le_refl _, Nat.le_refl _⟩
  by_cases a0 : a = 0
  · subst a0; rw [e0.1, e0.2]; exact ⟨Nat.zero_le _, Nat.zero_le _⟩
  by_cases b2 : b = 90000000
  · subst b2
    rw [e2.1, e2.2]
    by_cases a1 : a = 30000000
    · subst a1; rw [e1.1, e1.2]; decide
    · obtain ⟨x, y⟩ := sLo_gen a0 a1 hab
      have := big a (by omega)
      omega
  by_cases a1 : a = 30000000
  · subst a1
    rw [e1.1, e1.2]
    obtain ⟨x, y⟩ := sLo_gen (a := b) (by omega) (by omega) b2
    have := high b (by omega) hb
    omega
  by_cases b1 : b = 30000000
  · subst b1
    rw [e1.1, e1.2]
    obtain ⟨x, y⟩ := sLo_gen a0 a1 (by omega)
    have := low a (by omega)
    omega
  obtain ⟨x, y⟩ := sLo_gen a0 a1 (by omega)
  obtain ⟨x', y'⟩ := sLo_gen (a := b) (by omega) b1 b2
  have := units_mono (V_mono h hb)
  omega

/-- an end of an enclosure may be off by so much (in hundred-millionths) -/
def eu : Rat := 1 / ((10 ^ 27 : Nat) : Rat)

theorem sn_30 : Near (sn (th 30000000)) (1 / 2) (3 * ep) := by
  rw [sn_horner]; unfold Near th P H ep; decide +kernel

theorem units_bd (v : Nat) : (units v : Rat) ≤ 100000000 * tr v ∧ 100000000 * tr v ≤ (units v : Rat) + 1 := by
  have h1 : units v * 2 ^ 126 ≤ v * 100000000 := by rw [units_def]; exact Nat.div_mul_le_self _ _
  have h2 : v * 100000000 ≤ (units v + 1) * 2 ^ 126 := by
    rw [units_def]
    exact Nat.le_of_lt (by rw [Nat.mul_comm (_ + 1)]; exact Nat.lt_mul_div_succ _ (Nat.two_pow_pos 126))
  have g1 := tr_le h1
  have g2 := tr_le h2
  rw [tr_mul, tr_mul, show tr (units v) * ((2 ^ 126 : Nat) : Rat) = (units v : Rat) from (tr_W _).symm] at g1
  rw [tr_mul, tr_mul, show tr (units v + 1) * ((2 ^ 126 : Nat) : Rat) = ((units v + 1 : Nat) : Rat) from (tr_W _).symm, Rat.natCast_add] at g2
  have c : ((100000000 : Nat) : Rat) = 100000000 := rfl
  have c1 : ((1 : Nat) : Rat) = 1 := rfl
  rw [c] at g1 g2
  rw [c1] at g2
  constructor <;> grind

theorem encl_core {s v l h : Rat} (n : Near v s (3 * ep)) (h1 : l ≤ 100000000 * v) (h2 : 100000000 * v ≤ h) : l - eu ≤ 100000000 * s ∧ 100000000 * s ≤ h + eu := by
  have he : 100000000 * (3 * ep) ≤ eu := by unfold eu ep; decide +kernel
  unfold Near at n
  constructor <;> grind

theorem steep_encl (a : Nat) (ha : a ≤ 90000000) : (sLo a : Rat) - eu ≤ 100000000 * sn (th (a : Rat)) ∧ 100000000 * sn (th (a : Rat)) ≤ (sHi a : Rat) + eu := by
  by_cases a0 : a = 0
  · subst a0
    have h := encl_core (s := 0) (v := 0) (l := 0) (h := 0) (by unfold Near ep; decide +kernel) (by decide +kernel) (by decide +kernel)
    rw [show ((0 : Nat) : Rat) = 0 from rfl, show th 0 = 0 by unfold th; grind, sn_zero]
    have e : ((sLo 0 : Nat) : Rat) = 0 ∧ ((sHi 0 : Nat) : Rat) = 0 := by decide +kernel
    rw [e.1, e.2]
    exact h
  by_cases a1 : a = 30000000
  · subst a1
    have e : ((sLo 30000000 : Nat) : Rat) = 50000000 ∧ ((sHi 30000000 : Nat) : Rat) = 50000000 := by decide +kernel
    rw [e.1, e.2]
    exact encl_core (near_symm sn_30) (by decide +kernel) (by decide +kernel)
  by_cases a2 : a = 90000000
  · subst a2
    have e : ((sLo 90000000 : Nat) : Rat) = 100000000 ∧ ((sHi 90000000 : Nat) : Rat) = 100000000 := by decide +kernel
    rw [e.1, e.2, show ((90000000 : Nat) : Rat) = 90000000 from rfl, th_right]
    refine encl_core (v := 1) (near_mono (near_symm sn_H) ?_) (by decide +kernel) (by decide +kernel)
    unfold mu ep; decide +kernel
  obtain ⟨x, y⟩ := sLo_gen a0 a1 a2
  obtain ⟨u1, u2⟩ := units_bd (steepV a)
  have n := steep_near a ha
  rw [x, y, Rat.natCast_add]
  exact encl_core n u1 u2


/-- the angle of the first quarter with the same sine but for the sign -/
def q4 (a : Int) : Nat := min ((a % 360000000).toNat % 180000000) (180000000 - (a % 360000000).toNat % 180000000)
/-- is the sine below 0 ? -/
def dn (a : Int) : Bool := decide (180000000 ≤ a % 360000000)
/-- the ends of the program's enclosure of the sine -/
def sineLo (a : Int) : Int := if dn a then -(sHi (q4 a) : Int) else (sLo (q4 a) : Int)
def sineHi (a : Int) : Int := if dn a then -(sLo (q4 a) : Int) else (sHi (q4 a) : Int)

theorem q4_le (a : Int) : q4 a ≤ 90000000 := by unfold q4; omega

theorem sLo_le {a : Nat} (h : a ≤ 90000000) : sLo a ≤ 100000000 ∧ sHi a ≤ 100000000 := by
  have h1 := sLo_mono h (Nat.le_refl 90000000)
  have e2 : sLo 90000000 = 100000000 ∧ sHi 90000000 = 100000000 := by decide +kernel
  rw [e2.1, e2.2] at h1
  exact h1

end Go.Proofs.YtjbhnjnlpekpoaaDoor.Trig
