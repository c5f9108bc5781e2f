/-
  Plain mathematics: sines of many angles at once in the lanes of one great number; what a check of all lanes says of each. No program in it.
-/
import Derived.Test.YtjbhnjnlpekpoaaDoorTrigC
namespace Go.Proofs.YtjbhnjnlpekpoaaDoor.Trig

def L64 : Nat := 18446744073709551616
def K62 : Nat := 4611686018427387904
def W126 : Nat := 85070591730234615865843651857942052864
def PIN : Nat := 267257146016241686964920093290467695825
def HALF : Nat := 180000000
/-- 'times' by its words, in the kernel's own words -/
def mulW (a1 a0 b : Nat) : Nat := Nat.div (Nat.add (Nat.add (Nat.mul (Nat.mul a1 (Nat.div b L64)) L64) (Nat.mul a1 (Nat.mod b L64))) (Nat.mul a0 (Nat.div b L64))) K62
theorem mulW_gen (L K a1 a0 b : Nat) : Nat.div (Nat.add (Nat.add (Nat.mul (Nat.mul a1 (Nat.div b L)) L) (Nat.mul a1 (Nat.mod b L))) (Nat.mul a0 (Nat.div b L))) K = (a1 * (b / L) * L + a1 * (b % L) + a0 * (b / L)) / K := rfl
theorem mulW_eq (a b : Nat) : mulW (a / L64) (a % L64) b = times a b := by
  unfold mulW
  rw [mulW_gen]
  unfold times L64 K62
  simp only [Nat.reducePow]
noncomputable def serG (st : Nat → Nat → Nat) (l : List Nat) : Nat → Nat := List.rec (fun s => s) (fun d _ ih s => ih (st d s)) l
def stp (q1 q0 d s : Nat) : Nat := Nat.sub W126 (Nat.div (mulW q1 q0 s) d)
def dens : List Nat := [1190,1056,930,812,702,600,506,420,342,272,210,156,110,72,42,20,6]
noncomputable def fsx (x : Nat) : Nat := (fun x1 x0 => (fun q => mulW x1 x0 (serG (stp (Nat.div q L64) (Nat.mod q L64)) dens W126)) (mulW x1 x0 x)) (Nat.div x L64) (Nat.mod x L64)
noncomputable def fsteep (a : Nat) : Nat := fsx (Nat.div (Nat.mul PIN a) HALF)
theorem serG_nil (st : Nat → Nat → Nat) (s : Nat) : serG st [] s = s := rfl
theorem serG_cons (st : Nat → Nat → Nat) (d : Nat) (l : List Nat) (s : Nat) : serG st (d :: l) s = serG st l (st d s) := rfl
theorem sub_gen (w a d : Nat) : Nat.sub w (Nat.div a d) = w - a / d := rfl
theorem stp_eq (q1 q0 d s : Nat) : stp q1 q0 d s = W126 - mulW q1 q0 s / d := by unfold stp; rw [sub_gen]
theorem W126_eq : W126 = 2 ^ 126 := by unfold W126; simp only [Nat.reducePow]
theorem srs_z (q p : Nat) : 2 ^ 126 = srs q 0 p := by simp only [srs]
theorem srs_s {q n p m d X : Nat} (hd : (p + 1) * (p + 2) = d) (hm : p + 2 = m) (h : X = srs q n m) : 2 ^ 126 - times q X / d = srs q (n + 1) p := by
  subst hd hm h
  simp only [srs]
theorem ser_srs (q : Nat) : serG (stp (q / L64) (q % L64)) dens W126 = srs q 17 1 := by
  unfold dens
  rw [serG_cons, serG_cons, serG_cons, serG_cons, serG_cons, serG_cons, serG_cons, serG_cons, serG_cons, serG_cons, serG_cons, serG_cons, serG_cons, serG_cons, serG_cons, serG_cons, serG_cons, serG_nil]
  rw [stp_eq, stp_eq, stp_eq, stp_eq, stp_eq, stp_eq, stp_eq, stp_eq, stp_eq, stp_eq, stp_eq, stp_eq, stp_eq, stp_eq, stp_eq, stp_eq, stp_eq]
  rw [mulW_eq, mulW_eq, mulW_eq, mulW_eq, mulW_eq, mulW_eq, mulW_eq, mulW_eq, mulW_eq, mulW_eq, mulW_eq, mulW_eq, mulW_eq, mulW_eq, mulW_eq, mulW_eq, mulW_eq]
  rw [W126_eq]
  exact srs_s (n := 16) (p := 1) (m := 3) rfl rfl (srs_s (n := 15) (p := 3) (m := 5) rfl rfl (srs_s (n := 14) (p := 5) (m := 7) rfl rfl (srs_s (n := 13) (p := 7) (m := 9) rfl rfl (srs_s (n := 12) (p := 9) (m := 11) rfl rfl (srs_s (n := 11) (p := 11) (m := 13) rfl rfl (srs_s (n := 10) (p := 13) (m := 15) rfl rfl (srs_s (n := 9) (p := 15) (m := 17) rfl rfl (srs_s (n := 8) (p := 17) (m := 19) rfl rfl (srs_s (n := 7) (p := 19) (m := 21) rfl rfl (srs_s (n := 6) (p := 21) (m := 23) rfl rfl (srs_s (n := 5) (p := 23) (m := 25) rfl rfl (srs_s (n := 4) (p := 25) (m := 27) rfl rfl (srs_s (n := 3) (p := 27) (m := 29) rfl rfl (srs_s (n := 2) (p := 29) (m := 31) rfl rfl (srs_s (n := 1) (p := 31) (m := 33) rfl rfl (srs_s (n := 0) (p := 33) (m := 35) rfl rfl (srs_z q 35)))))))))))))))))
theorem fsx_gen (x L : Nat) (g : Nat → Nat → Nat) (h : Nat → Nat → Nat → Nat) : (fun x1 x0 => (fun q => h x1 x0 (g (Nat.div q L) (Nat.mod q L))) (h x1 x0 x)) (Nat.div x L) (Nat.mod x L) = h (x / L) (x % L) (g (h (x / L) (x % L) x / L) (h (x / L) (x % L) x % L)) := rfl
theorem fsx_eq (x : Nat) : fsx x = times x (srs (times x x) 17 1) := by
  unfold fsx
  rw [fsx_gen x L64 (fun a b => serG (stp a b) dens W126) mulW]
  simp only [mulW_eq, ser_srs]
theorem xang_gen (p a h : Nat) : Nat.div (Nat.mul p a) h = p * a / h := rfl
theorem xang_eq (a : Nat) : Nat.div (Nat.mul PIN a) HALF = xang a := by rw [xang_gen]; unfold xang PIN piN HALF; rfl
theorem fsteep_eq (a : Nat) : fsteep a = steepV a := by unfold fsteep; rw [fsx_eq, xang_eq]; rfl

/-- 2^d lanes of 160 bits: f k, f (k + 1), .. -/
noncomputable def pack (f : Nat → Nat) (d : Nat) : Nat → Nat := Nat.rec (fun k => f k) (fun d ih k => Nat.add (ih k) (Nat.mul (Nat.pow 2 (Nat.mul 160 (Nat.pow 2 d))) (ih (Nat.add k (Nat.pow 2 d))))) d
noncomputable def rep (x : Nat) (d : Nat) : Nat := Nat.rec x (fun d ih => Nat.add ih (Nat.mul (Nat.pow 2 (Nat.mul 160 (Nat.pow 2 d))) ih)) d

theorem pack_zero (f : Nat → Nat) (k : Nat) : pack f 0 k = f k := rfl
theorem pack_succ (f : Nat → Nat) (d k : Nat) : pack f (d + 1) k = pack f d k + 2 ^ (160 * 2 ^ d) * pack f d (k + 2 ^ d) := rfl
theorem rep_zero (x : Nat) : rep x 0 = x := rfl
theorem rep_succ (x d : Nat) : rep x (d + 1) = rep x d + 2 ^ (160 * 2 ^ d) * rep x d := rfl

theorem rep_pack (x d : Nat) : ∀ k, rep x d = pack (fun _ => x) d k := by
  induction d with
  | zero => intro k; rfl
  | succ d ih => intro k; rw [rep_succ, pack_succ, ← ih, ← ih]

theorem width (d : Nat) : 2 ^ (160 * 2 ^ (d + 1)) = 2 ^ (160 * 2 ^ d) * 2 ^ (160 * 2 ^ d) := by
  rw [← Nat.pow_add, Nat.pow_succ]; congr 1; omega

theorem pack_lt (f : Nat → Nat) (hf : ∀ k, f k < 2 ^ 160) (d : Nat) : ∀ k, pack f d k < 2 ^ (160 * 2 ^ d) := by
  induction d with
  | zero => intro k; rw [pack_zero]; simpa using hf k
  | succ d ih =>
    intro k
    rw [pack_succ, width]
    have h1 := ih k
    have h2 := ih (k + 2 ^ d)
    generalize 2 ^ (160 * 2 ^ d) = W at *
    have := Nat.mul_le_mul_left W (show pack f d (k + 2 ^ d) + 1 ≤ W by omega)
    rw [Nat.mul_add] at this
    omega

theorem pack_add (f g : Nat → Nat) (d : Nat) : ∀ k, pack f d k + pack g d k = pack (fun t => f t + g t) d k := by
  induction d with
  | zero => intro k; rfl
  | succ d ih =>
    intro k
    rw [pack_succ, pack_succ, pack_succ, ← ih, ← ih, Nat.mul_add]; omega

theorem pack_mul (c : Nat) (f : Nat → Nat) (d : Nat) : ∀ k, c * pack f d k = pack (fun t => c * f t) d k := by
  induction d with
  | zero => intro k; rfl
  | succ d ih =>
    intro k
    rw [pack_succ, pack_succ, ← ih, ← ih, Nat.mul_add, Nat.mul_left_comm]

theorem and_split (w x y X Y : Nat) (hx : x < 2 ^ w) (hy : y < 2 ^ w) : (x + 2 ^ w * X) &&& (y + 2 ^ w * Y) = (x &&& y) + 2 ^ w * (X &&& Y) := by
  have hxy : x &&& y < 2 ^ w := Nat.lt_of_le_of_lt Nat.and_le_left hx
  apply Nat.eq_of_testBit_eq
  intro i
  rw [Nat.testBit_and, Nat.add_comm x, Nat.add_comm y, Nat.add_comm (x &&& y), Nat.testBit_two_pow_mul_add _ hx, Nat.testBit_two_pow_mul_add _ hy, Nat.testBit_two_pow_mul_add _ hxy]
  split <;> rw [Nat.testBit_and]

theorem pack_and (f g : Nat → Nat) (hf : ∀ k, f k < 2 ^ 160) (hg : ∀ k, g k < 2 ^ 160) (d : Nat) : ∀ k, pack f d k &&& pack g d k = pack (fun t => f t &&& g t) d k := by
  induction d with
  | zero => intro k; rfl
  | succ d ih =>
    intro k
    rw [pack_succ, pack_succ, pack_succ, and_split _ _ _ _ _ (pack_lt f hf d k) (pack_lt g hg d k), ih, ih]

theorem pack_inj (f g : Nat → Nat) (hf : ∀ k, f k < 2 ^ 160) (hg : ∀ k, g k < 2 ^ 160) (d : Nat) : ∀ k, pack f d k = pack g d k → ∀ t, k ≤ t → t < k + 2 ^ d → f t = g t := by
  induction d with
  | zero => intro k h t h1 h2; have : t = k := by simp at h2; omega
            subst this; exact h
  | succ d ih =>
    intro k h t h1 h2
    rw [pack_succ, pack_succ] at h
    have a1 := pack_lt f hf d k
    have a2 := pack_lt g hg d k
    generalize 2 ^ (160 * 2 ^ d) = W at *
    have m : pack f d k = pack g d k := by
      have := congrArg (· % W) h
      simp only [Nat.add_mul_mod_self_left, Nat.mod_eq_of_lt a1, Nat.mod_eq_of_lt a2] at this
      exact this
    have q : pack f d (k + 2 ^ d) = pack g d (k + 2 ^ d) := by
      rw [m] at h
      exact Nat.eq_of_mul_eq_mul_left (by omega) (Nat.add_left_cancel h)
    rcases Nat.lt_or_ge t (k + 2 ^ d) with h3 | h3
    · exact ih k m t h1 h3
    · exact ih _ q t h3 (by rw [Nat.pow_succ] at h2; omega)

/-- one lane -/
theorem lane (x : Nat) (h : ((x &&& (2 ^ 128 - 2 ^ 98)) + (2 ^ 128 - 2 ^ 98)) &&& 2 ^ 128 = 2 ^ 128) : 2 ^ 98 ≤ x % 2 ^ 128 := by
  have e1 : x &&& (2 ^ 128 - 2 ^ 98) = 2 ^ 98 * (x / 2 ^ 98 % 2 ^ 30) := by
    have := and_split 98 (x % 2 ^ 98) 0 (x / 2 ^ 98) (2 ^ 30 - 1) (Nat.mod_lt _ (by decide)) (by decide)
    rw [Nat.mod_add_div, Nat.and_zero, Nat.zero_add, Nat.zero_add, Nat.and_two_pow_sub_one_eq_mod] at this
    exact this
  rw [e1] at h
  have e2 : ∀ y, y &&& 2 ^ 128 = 2 ^ 128 * (y / 2 ^ 128 % 2) := by
    intro y
    have := and_split 128 (y % 2 ^ 128) 0 (y / 2 ^ 128) (2 ^ 1 - 1) (Nat.mod_lt _ (by decide)) (by decide)
    rw [Nat.mod_add_div, Nat.and_zero, Nat.zero_add, Nat.zero_add, Nat.and_two_pow_sub_one_eq_mod] at this
    exact this
  rw [e2] at h
  omega

noncomputable def cvs (t : Nat) : Nat := Nat.div (fsteep (Nat.sub 90000000 t)) K62
noncomputable def svs (t : Nat) : Nat := Nat.div (fsteep t) K62
noncomputable def CV : Nat := pack cvs 12 1
noncomputable def SV : Nat := pack svs 12 1
noncomputable def ON : Nat := rep (2 ^ 97) 12
noncomputable def MK : Nat := rep (2 ^ 128 - 2 ^ 98) 12
noncomputable def TP : Nat := rep (2 ^ 128) 12
noncomputable def okZ (z : Nat) : Bool := Nat.beq (Nat.land (Nat.add (Nat.land z MK) MK) TP) TP
noncomputable def row (b : Nat) : Nat := Nat.add (Nat.mul (Nat.mul (svs b) 100000000) CV) (Nat.add (Nat.mul (Nat.mul (cvs b) 100000000) SV) ON)
noncomputable def allB (t : Nat → Bool) (n : Nat) : Bool := Nat.rec true (fun k ih => (t k).rec false ih) n
noncomputable def rows (b n : Nat) : Bool := allB (fun k => okZ (row (Nat.add b (Nat.mul k 4096)))) n
noncomputable def rows2 (b n m : Nat) : Bool := allB (fun k => rows (Nat.add b (Nat.mul k (Nat.mul n 4096))) n) m

theorem land_gen (z m t : Nat) (h : Nat.beq (Nat.land (Nat.add (Nat.land z m) m) t) t = true) : ((z &&& m) + m) &&& t = t := Nat.eq_of_beq_eq_true h
theorem okZ_eq (z : Nat) (h : okZ z = true) : ((z &&& MK) + MK) &&& TP = TP := by
  unfold okZ at h
  exact land_gen _ _ _ h

theorem okZ_lanes (f : Nat → Nat) (hf : ∀ t, f t < 2 ^ 160) (h : okZ (pack f 12 1) = true) : ∀ t, 1 ≤ t → t ≤ 4096 → 2 ^ 98 ≤ f t % 2 ^ 128 := by
  intro t h1 h2
  have h := okZ_eq _ h
  unfold MK TP at h
  rw [rep_pack (2 ^ 128 - 2 ^ 98) 12 1, rep_pack (2 ^ 128) 12 1, pack_and f _ hf (fun _ => by decide), pack_add, pack_and _ _ _ (fun _ => by decide)] at h
  · have := pack_inj _ _ (fun k => Nat.lt_of_le_of_lt Nat.and_le_right (by decide)) (fun _ => by decide) 12 1 h t h1 (by omega)
    exact lane _ this
  · intro k
    have : f k &&& (2 ^ 128 - 2 ^ 98) ≤ 2 ^ 128 - 2 ^ 98 := Nat.and_le_right
    omega

theorem rec_true {a b : Bool} (h : Bool.rec (motive := fun _ => Bool) false b a = true) : a = true ∧ b = true := by
  cases a
  · exact absurd h (by simp)
  · exact ⟨rfl, h⟩

theorem row_gen (s c C S O m : Nat) : Nat.add (Nat.mul (Nat.mul s m) C) (Nat.add (Nat.mul (Nat.mul c m) S) O) = s * m * C + (c * m * S + O) := rfl
theorem lanes_gen (s c o : Nat) (f g : Nat → Nat) (d k : Nat) : s * pack f d k + (c * pack g d k + rep o d) = pack (fun t => s * f t + (c * g t + o)) d k := by
  rw [rep_pack o d k, pack_mul, pack_mul, pack_add, pack_add]
theorem row_pack (b : Nat) : row b = pack (fun t => svs b * 100000000 * cvs t + (cvs b * 100000000 * svs t + 2 ^ 97)) 12 1 := by
  unfold row
  rw [row_gen]
  unfold CV SV ON
  rw [lanes_gen]

theorem allB_succ (t : Nat → Bool) (n : Nat) : allB t (n + 1) = Bool.rec (motive := fun _ => Bool) false (allB t n) (t n) := rfl
theorem allB_at (t : Nat → Bool) (n : Nat) (h : allB t n = true) (k : Nat) (hk : k < n) : t k = true := by
  induction n with
  | zero => omega
  | succ n ih =>
    rw [allB_succ] at h
    obtain ⟨h1, h2⟩ := rec_true h
    rcases Nat.lt_or_ge k n with g | g
    · exact ih h2 g
    · have : k = n := by omega
      subst this; exact h1
theorem step_gen (b k c : Nat) : Nat.add b (Nat.mul k c) = b + k * c := rfl
theorem step2_gen (b k n c : Nat) : Nat.add b (Nat.mul k (Nat.mul n c)) = b + k * (n * c) := rfl
theorem rows_at (b n : Nat) (h : rows b n = true) (k : Nat) (hk : k < n) : okZ (row (b + k * 4096)) = true := by
  unfold rows at h
  have := allB_at _ n h k hk
  rw [step_gen] at this
  exact this
theorem rows2_at (b n m : Nat) (h : rows2 b n m = true) (k : Nat) (hk : k < m) : rows (b + k * (n * 4096)) n = true := by
  unfold rows2 at h
  have := allB_at _ m h k hk
  rw [step2_gen] at this
  exact this

/-- every angle of the stretch lies in a lane -/
theorem rows2_lane (b n m : Nat) (h : rows2 b n m = true) (a : Nat) (h1 : b < a) (h2 : a ≤ b + m * (n * 4096)) :
    ∃ c t, a = c + t ∧ b ≤ c ∧ 1 ≤ t ∧ t ≤ 4096 ∧ okZ (row c) = true := by
  have hn : 0 < n * 4096 := by
    rcases Nat.eq_zero_or_pos (n * 4096) with z | z
    · rw [z] at h2; omega
    · exact z
  have e1 := Nat.div_add_mod (a - b - 1) (n * 4096)
  have e2 := Nat.mod_lt (a - b - 1) hn
  have e3 : (a - b - 1) / (n * 4096) < m := by
    rw [Nat.div_lt_iff_lt_mul hn]; omega
  have r1 := rows2_at b n m h _ e3
  have e4 : (a - b - 1) % (n * 4096) / 4096 < n := by
    rw [Nat.div_lt_iff_lt_mul (by decide)]; exact e2
  have r2 := rows_at _ n r1 _ e4
  refine ⟨_, (a - b - 1) % (n * 4096) % 4096 + 1, ?_, ?_, by omega, by omega, r2⟩
  · have := Nat.div_add_mod ((a - b - 1) % (n * 4096)) 4096
    rw [Nat.mul_comm] at e1
    omega
  · omega


end Go.Proofs.YtjbhnjnlpekpoaaDoor.Trig
