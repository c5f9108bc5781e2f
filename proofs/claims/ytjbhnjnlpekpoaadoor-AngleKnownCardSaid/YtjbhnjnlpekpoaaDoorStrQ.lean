/-
  Plain laws of the strings of angles: what Write returns; Read of it is the angle again.
-/
import Derived.Test.YtjbhnjnlpekpoaaDoorStrP
import Derived.Lib.ItoaNum
import Derived.Lib.TrimByte
namespace Go.Proofs.YtjbhnjnlpekpoaaDoor
set_option linter.unusedVariables false

theorem byte_fin : ∀ i : Fin 10, (UInt8.ofNat (48 + i.val)).toNat = 48 + i.val := by decide +kernel
theorem byte_nat {i : Nat} (h : i < 10) : (UInt8.ofNat (48 + i)).toNat = 48 + i := byte_fin ⟨i, h⟩
theorem byte_isD {i : Nat} (h : i < 10) : isD (UInt8.ofNat (48 + i)) = true := by
  rw [isD_iff, byte_nat h]; omega

theorem val_snoc (l : List UInt8) (b : UInt8) : val 0 (l ++ [b]) = val 0 l * 10 + (b.toNat - 48) := by
  rw [val_append, val_cons, val_nil]

theorem dec_small {u : Nat} (h : u < 10) : Lib.decDigits u = [UInt8.ofNat (48 + u)] := by rw [Lib.decDigits, dif_pos h]
theorem dec_big {u : Nat} (h : ¬ u < 10) : Lib.decDigits u = Lib.decDigits (u / 10) ++ [UInt8.ofNat (48 + u % 10)] := by rw [Lib.decDigits, dif_neg h]

theorem dec_val (u : Nat) : val 0 (Lib.decDigits u) = u ∧ (∀ b ∈ Lib.decDigits u, isD b = true) ∧ Lib.decDigits u ≠ [] := by
  induction u using Nat.strongRecOn with
  | _ u ih =>
    by_cases h : u < 10
    · rw [dec_small h]
      refine ⟨?_, ?_, by simp⟩
      · rw [val_cons, val_nil, byte_nat h]; omega
      · intro b hb
        have : b = UInt8.ofNat (48 + u) := by simpa using hb
        rw [this]; exact byte_isD h
    · obtain ⟨h1, h2, h3⟩ := ih (u / 10) (by omega)
      rw [dec_big h]
      have hm : u % 10 < 10 := Nat.mod_lt _ (by omega)
      refine ⟨?_, ?_, by simp⟩
      · rw [val_snoc, h1, byte_nat hm]; omega
      · intro b hb
        rw [List.mem_append] at hb
        rcases hb with k | k
        · exact h2 b k
        · have : b = UInt8.ofNat (48 + u % 10) := by simpa using k
          rw [this]; exact byte_isD hm

theorem dec_len3 {u : Nat} (h : u < 1000) : (Lib.decDigits u).length ≤ 3 := by
  rw [Lib.decDigits_length]
  by_cases h1 : u < 10
  · rw [Lib.nDigits_small h1]; omega
  · rw [Lib.nDigits_big h1]
    by_cases h2 : u / 10 < 10
    · rw [Lib.nDigits_small h2]; omega
    · rw [Lib.nDigits_big h2, Lib.nDigits_small (by omega)]
      omega
theorem dec_len7 {r : Nat} (h : r < 1000000) : (Lib.decDigits (1000000 + r)).length = 7 := by
  rw [Lib.decDigits_length]
  exact Lib.nDigits_unique 6 _ (by omega) (by omega)

/-- the last six digits of a number with seven that begins with a one -/
theorem dec_tail {r : Nat} (h : r < 1000000) : ((Lib.decDigits (1000000 + r)).drop 1).length = 6 ∧ (∀ b ∈ (Lib.decDigits (1000000 + r)).drop 1, isD b = true) ∧ val 0 ((Lib.decDigits (1000000 + r)).drop 1) = r := by
  obtain ⟨h1, h2, h3⟩ := dec_val (1000000 + r)
  have hl := dec_len7 h
  cases hd : Lib.decDigits (1000000 + r) with
  | nil => exact absurd hd h3
  | cons b t =>
    rw [hd] at h1 h2 hl
    have ht : t.length = 6 := by simpa using hl
    have hb := isD_iff.1 (h2 b (by simp))
    have hd' : ∀ c ∈ t, isD c = true := fun c hc => h2 c (by simp [hc])
    have hv := val_lt t 0 hd'
    rw [ht] at hv
    rw [val_cons, val_acc t, ht] at h1
    refine ⟨by simpa using ht, by simpa using hd', ?_⟩
    show val 0 t = r
    omega

theorem strip (l : List UInt8) : ∃ k, l = Lib.trimRightB l 48 ++ List.replicate k 48 := by
  unfold Lib.trimRightB
  have h := List.takeWhile_append_dropWhile (p := (· == (48 : UInt8))) (l := l.reverse)
  refine ⟨(l.reverse.takeWhile (· == 48)).length, ?_⟩
  have e : l = (l.reverse.dropWhile (· == 48)).reverse ++ (l.reverse.takeWhile (· == 48)).reverse := by
    rw [← List.reverse_append, h, List.reverse_reverse]
  conv => lhs; rw [e]
  congr 1
  refine List.eq_replicate_iff.2 ⟨by simp, fun b hb => ?_⟩
  have := List.all_eq_true.1 (List.all_takeWhile (p := (· == (48 : UInt8))) (l := l.reverse)) b (by simpa using hb)
  simpa using this

theorem val_zeros : ∀ (k acc : Nat), val acc (List.replicate k 48) = acc * 10 ^ k
  | 0, acc => by rw [List.replicate_zero, val_nil, Nat.pow_zero, Nat.mul_one]
  | k + 1, acc => by
    rw [List.replicate_succ, val_cons, val_zeros k]
    rw [show (48 : UInt8).toNat - 48 = 0 from rfl, Nat.add_zero, Nat.pow_succ, Nat.mul_assoc, Nat.mul_comm 10]

theorem strip_pad {l : List UInt8} (h6 : l.length = 6) (hd : ∀ b ∈ l, isD b = true) (hv : val 0 l ≠ 0) : Lib.trimRightB l 48 ≠ [] ∧ (Lib.trimRightB l 48).length ≤ 6 ∧ (∀ b ∈ Lib.trimRightB l 48, isD b = true) ∧ pad (Lib.trimRightB l 48) = l := by
  obtain ⟨k, hk⟩ := strip l
  have hlen : (Lib.trimRightB l 48).length + k = 6 := by
    have := congrArg List.length hk
    rw [List.length_append, List.length_replicate] at this
    omega
  refine ⟨?_, by omega, fun b hb => ?_, ?_⟩
  · intro e
    rw [e, List.nil_append] at hk
    rw [hk, val_zeros] at hv
    exact hv (by rw [Nat.zero_mul])
  · refine hd b ?_
    rw [hk, List.mem_append]
    exact .inl hb
  · unfold pad
    have e : zeros6 = List.replicate k 48 ++ List.replicate (6 - k) 48 := by
      rw [List.replicate_append_replicate, show k + (6 - k) = 6 by omega]
      rfl
    rw [e, ← List.append_assoc, ← hk, List.take_append_of_le_length (by omega), List.take_of_length_le (by omega)]

/-- the digits of an angle that is not negative -/
def frac6 (r : Nat) : List UInt8 := if r = 0 then [] else 46 :: Lib.trimRightB ((Lib.decDigits (1000000 + r)).drop 1) 48
def numS (n : Nat) : List UInt8 := Lib.decDigits (n / 1000000) ++ frac6 (n % 1000000)
def wr (a lim : Int) (c d : UInt8) : List UInt8 × Int := if a < -lim ∨ lim < a then ([], 7) else (numS a.natAbs ++ [if a < 0 then d else c], 0)
def writeS (a x : Int) : List UInt8 × Int := if x = 0 then wr a 90000000 78 83 else if x = 1 then wr a 180000000 69 87 else ([], 2)

theorem takeWhile_digits (w r : List UInt8) (c : UInt8) (hw : ∀ b ∈ w, isD b = true) (hc : isD c = false) : (w ++ c :: r).takeWhile isD = w ∧ (w ++ c :: r).dropWhile isD = c :: r := by
  constructor
  · rw [List.takeWhile_append_of_pos hw, List.takeWhile_cons, hc]
    simp
  · rw [List.dropWhile_append_of_pos hw, List.dropWhile_cons, hc]
    simp

theorem readS_num (n : Nat) (c : UInt8) (hn : n ≤ 180000000) (hc : isD c = false) (h46 : c ≠ 46) : readS (numS n ++ [c]) = fin n [c] := by
  obtain ⟨d1, d2, d3⟩ := dec_val (n / 1000000)
  have d4 := dec_len3 (u := n / 1000000) (by omega)
  unfold numS frac6
  by_cases hr : n % 1000000 = 0
  · rw [if_pos hr, List.append_nil]
    obtain ⟨t1, t2⟩ := takeWhile_digits (Lib.decDigits (n / 1000000)) [] c d2 hc
    have hdot : dot [c] = false := by
      unfold dot
      simp
      exact h46
    unfold readS partOf tailOf
    rw [t1, t2, hdot]
    simp only [Bool.false_eq_true, if_false]
    rw [if_neg (by simp; omega), if_neg (by simp [d3]; omega), readN_zero, d1]
    congr 1
    omega
  · rw [if_neg hr]
    have hm : n % 1000000 < 1000000 := Nat.mod_lt _ (by omega)
    obtain ⟨e1, e2, e3⟩ := dec_tail hm
    obtain ⟨p1, p2, p3, p4⟩ := strip_pad e1 e2 (by rw [e3]; exact hr)
    generalize Lib.trimRightB ((Lib.decDigits (1000000 + n % 1000000)).drop 1) 48 = P at *
    rw [List.append_assoc, List.cons_append]
    obtain ⟨t1, t2⟩ := takeWhile_digits (Lib.decDigits (n / 1000000)) (P ++ [c]) 46 d2 (by decide)
    obtain ⟨t3, t4⟩ := takeWhile_digits P [] c p3 hc
    have hdot : dot (46 :: (P ++ [c])) = true := by unfold dot; simp
    unfold readS partOf tailOf
    rw [t1, t2, hdot]
    rw [if_neg (by simp; omega), if_pos rfl, if_pos rfl, List.drop_succ_cons, List.drop_zero, t3, t4]
    rw [if_neg (by simp [d3, p1]; omega)]
    unfold readN
    rw [p4, d1, e3]
    congr 1
    omega

theorem read_wr0 (a : Int) (h : ¬ (a < -90000000 ∨ 90000000 < a)) : readS (numS a.natAbs ++ [if a < 0 then 83 else 78]) = (a, 0, 0) := by
  by_cases k : a < 0
  · rw [if_pos k, readS_num _ 83 (by omega) (by decide) (by decide)]
    unfold fin
    rw [if_neg (by decide), if_pos rfl, if_neg (by omega)]
    congr 1
    omega
  · rw [if_neg k, readS_num _ 78 (by omega) (by decide) (by decide)]
    unfold fin
    rw [if_pos rfl, if_neg (by omega)]
    congr 1
    omega
theorem read_wr1 (a : Int) (h : ¬ (a < -180000000 ∨ 180000000 < a)) : readS (numS a.natAbs ++ [if a < 0 then 87 else 69]) = (a, 1, 0) := by
  by_cases k : a < 0
  · rw [if_pos k, readS_num _ 87 (by omega) (by decide) (by decide)]
    unfold fin
    rw [if_neg (by decide), if_neg (by decide), if_neg (by decide), if_pos rfl, if_neg (by omega)]
    congr 1
    omega
  · rw [if_neg k, readS_num _ 69 (by omega) (by decide) (by decide)]
    unfold fin
    rw [if_neg (by decide), if_neg (by decide), if_pos rfl, if_neg (by omega)]
    congr 1
    omega

theorem read_write (a x : Int) (h : (writeS a x).2 = 0) : readS (writeS a x).1 = (a, x, 0) := by
  unfold writeS wr at *
  by_cases hx : x = 0
  · rw [if_pos hx] at h ⊢
    by_cases k : a < -90000000 ∨ 90000000 < a
    · rw [if_pos k] at h; cases h
    · rw [if_neg k, hx]; exact read_wr0 a k
  · rw [if_neg hx] at h ⊢
    by_cases hx1 : x = 1
    · rw [if_pos hx1] at h ⊢
      by_cases k : a < -180000000 ∨ 180000000 < a
      · rw [if_pos k] at h; cases h
      · rw [if_neg k, hx1]; exact read_wr1 a k
    · rw [if_neg hx1] at h; cases h

theorem fin_good (n : Nat) (t : List UInt8) (h : (fin n t).2.2 = 0) : (writeS (fin n t).1 (fin n t).2.1).2 = 0 := by
  have key : ∀ (lim : Nat) (c d : UInt8) (a : Int), ¬ lim < n → (a = n ∨ a = -(n : Int)) → (wr a lim c d).2 = 0 := fun lim c d a h1 h2 => by
    unfold wr
    rw [if_neg (by omega)]
  unfold fin at *
  split at h
  · rename_i e1
    rw [if_pos e1]
    split at h
    · cases h
    · rename_i e2
      rw [if_neg e2]
      exact key 90000000 78 83 _ e2 (.inl rfl)
  · rename_i n1
    rw [if_neg n1]
    split at h
    · rename_i e1
      rw [if_pos e1]
      split at h
      · cases h
      · rename_i e2
        rw [if_neg e2]
        exact key 90000000 78 83 _ e2 (.inr rfl)
    · rename_i n2
      rw [if_neg n2]
      split at h
      · rename_i e1
        rw [if_pos e1]
        split at h
        · cases h
        · rename_i e2
          rw [if_neg e2]
          exact key 180000000 69 87 _ e2 (.inl rfl)
      · rename_i n3
        rw [if_neg n3]
        split at h
        · rename_i e1
          rw [if_pos e1]
          split at h
          · cases h
          · rename_i e2
            rw [if_neg e2]
            exact key 180000000 69 87 _ e2 (.inr rfl)
        · cases h

theorem write_read (l : List UInt8) (h : (readS l).2.2 = 0) : (writeS (readS l).1 (readS l).2.1).2 = 0 := by
  unfold readS at *
  split at h
  · cases h
  · rename_i h1
    rw [if_neg h1]
    split at h
    · cases h
    · rename_i h2
      rw [if_neg h2]
      exact fin_good _ _ h

end Go.Proofs.YtjbhnjnlpekpoaaDoor
