/-
  Plain laws of the strings of angles: what Read returns, as a function of the bytes.
-/
import Derived.Lib.Atoi
import Derived.Lib.SlTrimSet
namespace Go.Proofs.YtjbhnjnlpekpoaaDoor
set_option linter.unusedVariables false

def isD (c : UInt8) : Bool := decide (48 ≤ c.toNat) && decide (c.toNat ≤ 57)
def digs : List UInt8 := [48, 49, 50, 51, 52, 53, 54, 55, 56, 57]

theorem digs_fin : ∀ f : Fin 256, digs.contains (UInt8.ofNat f.val) = isD (UInt8.ofNat f.val) := by decide +kernel
theorem digs_is (c : UInt8) : digs.contains c = isD c := by
  have h := digs_fin ⟨c.toNat, c.toNat_lt⟩
  simpa using h
theorem trim_digs (l : List UInt8) : Lib.trimLeftS l digs = l.dropWhile isD := by
  unfold Lib.trimLeftS
  congr 1
  funext c
  exact digs_is c

/-- the number that digits spell, behind others -/
def vl : List UInt8 → Nat → Nat
  | [], acc => acc
  | b :: r, acc => vl r (acc * 10 + (b.toNat - 48))
abbrev val (acc : Nat) (l : List UInt8) : Nat := vl l acc
theorem val_nil (acc : Nat) : val acc [] = acc := rfl
theorem val_cons (b : UInt8) (r : List UInt8) (acc : Nat) : val acc (b :: r) = val (acc * 10 + (b.toNat - 48)) r := rfl

theorem isD_iff {c : UInt8} : isD c = true ↔ 48 ≤ c.toNat ∧ c.toNat ≤ 57 := by
  unfold isD; simp

theorem decFrom_val : ∀ (l : List UInt8) (acc : Nat), (∀ b ∈ l, isD b = true) → Lib.decFrom acc l = some (val acc l)
  | [], acc, _ => rfl
  | b :: r, acc, h => by
    have hb := isD_iff.1 (h b (by simp))
    unfold Lib.decFrom Lib.digitVal
    rw [if_pos hb, val_cons]
    exact decFrom_val r _ (fun c hc => h c (by simp [hc]))

theorem atoi_val (l : List UInt8) (h0 : l ≠ []) (h : ∀ b ∈ l, isD b = true) : Lib.atoi l = some ((val 0 l : Nat) : Int) := by
  cases l with
  | nil => exact absurd rfl h0
  | cons b r =>
    have hb := isD_iff.1 (h b (by simp))
    have n1 : (b == 45) = false := by
      rw [beq_eq_false_iff_ne]; intro e; rw [e] at hb; simp at hb
    have n2 : (b == 43) = false := by
      rw [beq_eq_false_iff_ne]; intro e; rw [e] at hb; simp at hb
    unfold Lib.atoi
    dsimp only
    rw [n1, n2]
    unfold Lib.decNat
    simp only [Bool.false_eq_true, if_false, List.isEmpty_cons]
    rw [decFrom_val _ _ h]
    rfl

theorem val_append (a b : List UInt8) : ∀ acc, val acc (a ++ b) = val (val acc a) b := by
  induction a with
  | nil => intro acc; rfl
  | cons x r ih => intro acc; exact ih _

attribute [local irreducible] vl

theorem val_ar1 (acc t : Nat) : acc * 10 * t = acc * (t * 10) := by rw [Nat.mul_assoc, Nat.mul_comm 10 t]
theorem val_ar2 (acc t d v : Nat) : (acc * 10 + d) * t + v = acc * (t * 10) + (d * t + v) := by
  rw [Nat.add_mul, val_ar1 acc t, Nat.add_assoc]
theorem val_ar3 (d : Nat) : 0 * 10 + d = d := by omega
theorem val_ar (acc t d v : Nat) : (acc * 10 + d) * t + v = acc * (t * 10) + ((0 * 10 + d) * t + v) := by
  rw [val_ar3]
  exact val_ar2 acc t d v

theorem val_acc (l : List UInt8) : ∀ (acc : Nat), val acc l = acc * 10 ^ l.length + val 0 l := by
  induction l with
  | nil =>
    intro acc
    rw [val_nil, val_nil]
    simp
  | cons b r ih =>
    intro acc
    rw [val_cons, val_cons, ih (acc * 10 + (b.toNat - 48)), ih (0 * 10 + (b.toNat - 48)), List.length_cons, Nat.pow_succ]
    exact val_ar acc _ _ _

theorem val_lt (l : List UInt8) : ∀ (acc : Nat), (∀ b ∈ l, isD b = true) → val acc l < (acc + 1) * 10 ^ l.length := by
  induction l with
  | nil =>
    intro acc _
    rw [val_nil]
    simp
  | cons b r ih =>
    intro acc h
    have hb := isD_iff.1 (h b (by simp))
    have k := ih (acc * 10 + (b.toNat - 48)) (fun c hc => h c (by simp [hc]))
    rw [val_cons]
    refine Nat.lt_of_lt_of_le k ?_
    rw [List.length_cons, Nat.pow_succ, Nat.mul_comm (10 ^ r.length) 10, ← Nat.mul_assoc]
    exact Nat.mul_le_mul_right _ (by omega)

theorem take_isD (l : List UInt8) : ∀ b ∈ l.takeWhile isD, isD b = true := fun b hb => List.all_eq_true.1 (List.all_takeWhile (p := isD) (l := l)) b hb

/-- six digits behind the point -/
def zeros6 : List UInt8 := [48, 48, 48, 48, 48, 48]
def pad (p : List UInt8) : List UInt8 := (p ++ zeros6).take 6
theorem pad_length (p : List UInt8) : (pad p).length = 6 := by unfold pad zeros6; simp
theorem pad_isD (p : List UInt8) (h : ∀ b ∈ p, isD b = true) : ∀ b ∈ pad p, isD b = true := by
  intro b hb
  have := List.mem_of_mem_take hb
  rw [List.mem_append] at this
  rcases this with k | k
  · exact h b k
  · unfold zeros6 at k
    have : b = 48 := by simpa using k
    rw [this]; decide
theorem pad_five (p : List UInt8) (h : p ≠ []) : (p ++ [48, 48, 48, 48, 48]).take 6 = pad p := by
  unfold pad zeros6
  have : 1 ≤ p.length := by
    cases p with
    | nil => exact absurd rfl h
    | cons _ _ => simp
  rw [show ([48, 48, 48, 48, 48, 48] : List UInt8) = [48, 48, 48, 48, 48] ++ [48] from rfl, ← List.append_assoc]
  rw [List.take_append_of_le_length (l₁ := p ++ [48, 48, 48, 48, 48]) (by simp; omega)]

def readN (w p : List UInt8) : Nat := val 0 w * 1000000 + val 0 (pad p)
theorem readN_one (w p : List UInt8) : val 0 (w ++ pad p) = readN w p := by
  unfold readN
  rw [val_append, val_acc (pad p), pad_length]

theorem readN_zero (w : List UInt8) : readN w [48] = val 0 w * 1000000 := by
  unfold readN
  rw [show val 0 (pad [48]) = 0 from by decide +kernel, Nat.add_zero]

theorem readN_lt (w p : List UInt8) (hw : ∀ b ∈ w, isD b = true) (hp : ∀ b ∈ p, isD b = true) (hl : w.length ≤ 3) : readN w p < 1000000000 := by
  have a := val_lt w 0 hw
  have b := val_lt (pad p) 0 (pad_isD p hp)
  rw [pad_length] at b
  have c : (10 : Nat) ^ w.length ≤ 10 ^ 3 := Nat.pow_le_pow_right (by omega) hl
  unfold readN
  omega

/-- what is behind the digits decides -/
def fin (n : Nat) (t : List UInt8) : Int × Int × Int :=
  if t = [78] then (if 90000000 < n then (0, 0, 7) else ((n : Int), 0, 0))
  else if t = [83] then (if 90000000 < n then (0, 0, 7) else (-(n : Int), 0, 0))
  else if t = [69] then (if 180000000 < n then (0, 0, 7) else ((n : Int), 1, 0))
  else if t = [87] then (if 180000000 < n then (0, 0, 7) else (-(n : Int), 1, 0))
  else (0, 0, 6)

def dot (r : List UInt8) : Bool := r.head? == some 46
def partOf (r : List UInt8) : List UInt8 := if dot r then (r.drop 1).takeWhile isD else [48]
def tailOf (r : List UInt8) : List UInt8 := if dot r then (r.drop 1).dropWhile isD else r

def readS (l : List UInt8) : Int × Int × Int :=
  if 20 < l.length then (0, 0, 3) else
  if l.takeWhile isD = [] ∨ 3 < (l.takeWhile isD).length ∨ partOf (l.dropWhile isD) = [] ∨ 6 < (partOf (l.dropWhile isD)).length then (0, 0, 6)
  else fin (readN (l.takeWhile isD) (partOf (l.dropWhile isD))) (tailOf (l.dropWhile isD))

theorem part_isD (r : List UInt8) : ∀ b ∈ partOf r, isD b = true := by
  unfold partOf
  split
  · exact take_isD _
  · intro b hb
    have : b = 48 := by simpa using hb
    rw [this]; decide

end Go.Proofs.YtjbhnjnlpekpoaaDoor
