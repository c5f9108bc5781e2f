/-
  'sine' of package angle, Sin and Cos: what they return, as the plain functions say.
-/
import Derived.Test.YtjbhnjnlpekpoaaDoorAngD
namespace Go.Proofs.YtjbhnjnlpekpoaaDoor
open Go.RowKit
set_option linter.unusedVariables false

set_option maxRecDepth 100000 in
set_option maxHeartbeats 400000 in
theorem steep_exact (a n : Nat) (w : World) (h : (a = 0 ∧ n = 0) ∨ (a = 30000000 ∧ n = 50000000) ∨ (a = 90000000 ∧ n = 100000000)) :
    Calls Tryd.prog 80 #[.int .i64 a] w fun e w' => e = .returned (.tuple #[.int .i64 n, .bool true]) ∧ Q w w' := by
  rcases h with ⟨rfl, rfl⟩ | ⟨rfl, rfl⟩ | ⟨rfl, rfl⟩
  · go_enter Tryd.func80, Tryd.ntmps80
    go_wp2_with fail
    go_ret2
    exact ⟨rfl, Q.refl _⟩
  · go_enter Tryd.func80, Tryd.ntmps80
    go_wp2_with fail
    go_ret2
    exact ⟨rfl, Q.refl _⟩
  · go_enter Tryd.func80, Tryd.ntmps80
    go_wp2_with fail
    go_ret2
    exact ⟨rfl, Q.refl _⟩

theorem steep_any (a : Nat) (w : World) (ha : a ≤ 90000000) :
    Calls Tryd.prog 80 #[.int .i64 a] w fun e w' => e = .returned (.tuple #[.int .i64 (Trig.sLo a : Nat), .bool (Trig.exact? a)]) ∧ Q w w' := by
  by_cases a0 : a = 0
  · subst a0
    exact steep_exact 0 0 w (Or.inl ⟨rfl, rfl⟩)
  by_cases a1 : a = 30000000
  · subst a1
    have h := steep_exact 30000000 50000000 w (Or.inr (Or.inl ⟨rfl, rfl⟩))
    have e1 : Trig.sLo 30000000 = 50000000 := by decide +kernel
    have e2 : Trig.exact? 30000000 = true := by decide +kernel
    rw [e1, e2]; exact h
  by_cases a2 : a = 90000000
  · subst a2
    have h := steep_exact 90000000 100000000 w (Or.inr (Or.inr ⟨rfl, rfl⟩))
    have e1 : Trig.sLo 90000000 = 100000000 := by decide +kernel
    have e2 : Trig.exact? 90000000 = true := by decide +kernel
    rw [e1, e2]; exact h
  have h := steep_gen a w (beq_eq_false_iff_ne.2 (by omega)) (beq_eq_false_iff_ne.2 (by omega)) (beq_eq_false_iff_ne.2 (by omega)) ha
  have e1 := (Trig.sLo_gen a0 a1 a2).1
  have e2 : Trig.exact? a = false := by unfold Trig.exact?; simp [a0, a1, a2]
  rw [e1, e2]; exact h

abbrev encl (lo hi : Int) : Value := .agg #[.int .i64 lo, .int .i64 hi]

theorem fold_pure (a : Int) : ∃ r : Nat, (a.tmod 360000000 + 360000000) % 360000000 = (r : Int) ∧ a % 360000000 = (r : Int) ∧ r < 360000000 ∧ Trig.q4 a = min (r % 180000000) (180000000 - r % 180000000) ∧ Trig.dn a = decide (180000000 ≤ (r : Int)) := by
  refine ⟨(a % 360000000).toNat, ?_, by omega, by omega, rfl, ?_⟩
  · have h1 : a.tmod 360000000 = a - 360000000 * a.tdiv 360000000 := by have := Int.mul_tdiv_add_tmod a 360000000; omega
    rw [h1]
    generalize a.tdiv 360000000 = k
    omega
  · unfold Trig.dn
    congr 1
    have : ((a % 360000000).toNat : Int) = a % 360000000 := by omega
    rw [this]

set_option maxRecDepth 100000 in
set_option maxHeartbeats 400000 in
theorem sine_any (a : Int) (w : World) (h1 : -9000000000000000000 ≤ a) (h2 : a ≤ 9000000000000000000) :
    Calls Tryd.prog 52 #[.int .i64 a] w fun e w' => e = .returned (encl (Trig.sineLo a) (Trig.sineHi a)) ∧ Q w w' := by
  obtain ⟨r, hr, hr0, hr1, hq, hd⟩ := fold_pure a
  have HQ := Lib.hid hq
  have HD := Lib.hid hd
  clear hq hd hr0
  have b1 : -360000000 < a.tmod 360000000 := Int.lt_tmod_of_pos a (by decide)
  have b2 : a.tmod 360000000 < 360000000 := Int.tmod_lt_of_pos a (by decide)
  go_enter Tryd.func52, Tryd.ntmps52
  go_wp2_with fail
  rw [show min ((r : Int) % 180000000) (180000000 - (r : Int) % 180000000) = ((Trig.q4 a : Nat) : Int) by rw [HQ.out]; omega]
  refine (steep_any (Trig.q4 a) _ (Trig.q4_le a)).mono ?_
  rintro e w1 ⟨rfl, Q1⟩
  have hn1 : (Trig.sLo (Trig.q4 a) : Int) ≤ 100000000 := by have := Trig.sLo_le (Trig.q4_le a); omega
  have hlo : Trig.sineLo a = if Trig.dn a then -(Trig.sHi (Trig.q4 a) : Int) else (Trig.sLo (Trig.q4 a) : Int) := rfl
  have hhi : Trig.sineHi a = if Trig.dn a then -(Trig.sLo (Trig.q4 a) : Int) else (Trig.sHi (Trig.q4 a) : Int) := rfl
  have hsh : Trig.sHi (Trig.q4 a) = if Trig.exact? (Trig.q4 a) then Trig.sLo (Trig.q4 a) else Trig.sLo (Trig.q4 a) + 1 := rfl
  rw [HD.out] at hlo hhi
  rw [hsh] at hlo hhi
  clear hsh
  generalize Trig.sLo (Trig.q4 a) = n at *
  generalize Trig.exact? (Trig.q4 a) = ex at *
  have HLO := Lib.hid hlo
  have HHI := Lib.hid hhi
  clear hlo hhi
  obtain ⟨o1, o2, o3⟩ := Q1.old
  have Q2 := Q.trans ((Q.refl w).alloc _) Q1
  have hz : w.heap.size < w1.heap.size := by simp at o3; omega
  clear Q1
  cases hd : decide (180000000 ≤ (r : Int)) <;> cases ex
  · go_wp2_with fail
    have e1 := HLO.out
    have e2 := HHI.out
    rw [hd] at e1 e2
    simp at e1 e2
    rw [e1, e2]
    exact bodyPost_ret (v := encl n ((n : Int) + 1)) (by simp [results, Tryd.results52, go_sem, o1, hz]) rfl ⟨rfl, by repeat (first | assumption | apply Q.alloc | (refine Q.setCell ?_ (by simp) _))⟩
  · go_wp2_with fail
    have e1 := HLO.out
    have e2 := HHI.out
    rw [hd] at e1 e2
    simp at e1 e2
    rw [e1, e2]
    exact bodyPost_ret (v := encl n n) (by simp [results, Tryd.results52, go_sem, o1, hz]) rfl ⟨rfl, by repeat (first | assumption | apply Q.alloc | (refine Q.setCell ?_ (by simp) _))⟩
  · go_wp2_with fail
    refine (opposite_any n ((n : Int) + 1) _ (by omega) (by omega)).mono ?_
    rintro e w2 ⟨rfl, Q3⟩
    obtain ⟨p1, p2, p3⟩ := Q3.old
    have Q4 := Q.trans (Q2.alloc _) Q3
    have hz2 : w.heap.size < w2.heap.size := by simp at p3; omega
    have hz3 : w.heap.size < w1.heap.size + 1 := by omega
    clear Q2 Q3
    go_wp2_with fail
    have e1 := HLO.out
    have e2 := HHI.out
    rw [hd] at e1 e2
    simp at e1 e2
    rw [e1, e2]
    exact bodyPost_ret (v := encl (-((n : Int) + 1)) (-(n : Int))) (by simp [results, Tryd.results52, go_sem, o1, p1, hz, hz3]; try omega) rfl ⟨by first | rfl | (congr 3; omega), by repeat (first | assumption | apply Q.alloc | (refine Q.setCell ?_ (by simp) _))⟩
  · go_wp2_with fail
    refine (opposite_any n n _ (by omega) (by omega)).mono ?_
    rintro e w2 ⟨rfl, Q3⟩
    obtain ⟨p1, p2, p3⟩ := Q3.old
    have Q4 := Q.trans (Q2.alloc _) Q3
    have hz2 : w.heap.size < w2.heap.size := by simp at p3; omega
    have hz3 : w.heap.size < w1.heap.size + 1 := by omega
    clear Q2 Q3
    go_wp2_with fail
    have e1 := HLO.out
    have e2 := HHI.out
    rw [hd] at e1 e2
    simp at e1 e2
    rw [e1, e2]
    exact bodyPost_ret (v := encl (-(n : Int)) (-(n : Int))) (by simp [results, Tryd.results52, go_sem, o1, p1, hz, hz3]; try omega) rfl ⟨by first | rfl | (congr 3; omega), by repeat (first | assumption | apply Q.alloc | (refine Q.setCell ?_ (by simp) _))⟩

theorem one_no (a more : Int) (w : World) (h : Hid (wildB a a 3600000000 = true)) (h1 : -9223372036854775808 ≤ a ∧ a ≤ 9223372036854775807) :
    Calls Tryd.prog 48 #[.int .i64 a, .int .i64 more] w fun e w' => e = .returned (.tuple #[encl 0 0, .int .i64 7]) ∧ Q w w' := by
  go_enter Tryd.func48, Tryd.ntmps48
  go_wp2_with fail
  refine (wild_any a a 3600000000 _ h1 h1 (by omega)).mono ?_
  rintro e w1 ⟨rfl, Q1⟩
  rw [h.out]
  obtain ⟨o1, o2, o3⟩ := Q1.old
  have Q2 := Q.trans ((Q.refl w).alloc _) Q1
  clear Q1
  go_wp2_with fail
  exact bodyPost_ret (v := .tuple #[encl 0 0, .int .i64 7]) (by simp [results, Tryd.results48, go_sem, o1]) rfl ⟨rfl, by repeat (first | assumption | apply Q.alloc | (refine Q.setCell ?_ (by simp) _))⟩

theorem one_yes (a more : Int) (w : World) (h : Hid (wildB a a 3600000000 = false)) (h1 : -3600000000 ≤ a ∧ a ≤ 3600000000) (h2 : 0 ≤ more ∧ more ≤ 90000000) :
    Calls Tryd.prog 48 #[.int .i64 a, .int .i64 more] w fun e w' => e = .returned (.tuple #[encl (Trig.sineLo (a + more)) (Trig.sineHi (a + more)), .int .i64 0]) ∧ Q w w' := by
  go_enter Tryd.func48, Tryd.ntmps48
  go_wp2_with fail
  refine (wild_any a a 3600000000 _ (by omega) (by omega) (by omega)).mono ?_
  rintro e w1 ⟨rfl, Q1⟩
  rw [h.out]
  have Q2 := Q.trans ((Q.refl w).alloc _) Q1
  have hz : w.heap.size < w1.heap.size := by have := Q1.size; simp at this; omega
  obtain ⟨o1, o2, o3⟩ := Q1.old
  clear Q1
  go_wp2_with fail
  refine (sine_any (a + more) _ (by omega) (by omega)).mono ?_
  rintro e w2 ⟨rfl, Q3⟩
  obtain ⟨p1, p2, p3⟩ := Q3.old
  have Q4 := Q2.trans Q3
  clear Q2 Q3
  go_wp2_with fail
  exact bodyPost_ret (v := .tuple #[encl (Trig.sineLo (a + more)) (Trig.sineHi (a + more)), .int .i64 0]) (by simp [results, Tryd.results48, go_sem, o1, p1, hz]) rfl ⟨rfl, by repeat (first | assumption | apply Q.alloc | (refine Q.setCell ?_ (by simp) _))⟩

/-- what Sin and Cos return: an enclosure and an error -/
def sinOut (a more : Int) : Value := if wildB a a 3600000000 then .tuple #[encl 0 0, .int .i64 7] else .tuple #[encl (Trig.sineLo (a + more)) (Trig.sineHi (a + more)), .int .i64 0]

theorem wild_iff (a : Int) : wildB a a 3600000000 = false ↔ (-3600000000 ≤ a ∧ a ≤ 3600000000) := by
  unfold wildB
  simp

theorem one_any (a more : Int) (w : World) (h1 : -9223372036854775808 ≤ a ∧ a ≤ 9223372036854775807) (h2 : 0 ≤ more ∧ more ≤ 90000000) :
    Calls Tryd.prog 48 #[.int .i64 a, .int .i64 more] w fun e w' => e = .returned (sinOut a more) ∧ Q w w' := by
  unfold sinOut
  cases h : wildB a a 3600000000 with
  | true => exact one_no a more w h h1
  | false => exact one_yes a more w h ((wild_iff a).1 h) h2

theorem sinOut_form (a more : Int) : ∃ lo hi e : Int, sinOut a more = .tuple #[encl lo hi, .int .i64 e] := by
  unfold sinOut
  split
  · exact ⟨_, _, _, rfl⟩
  · exact ⟨_, _, _, rfl⟩

theorem Sin_any (a : Int) (w : World) (h1 : -9223372036854775808 ≤ a ∧ a ≤ 9223372036854775807) :
    Calls Tryd.prog 16 #[.int .i64 a] w fun e w' => e = .returned (sinOut a 0) ∧ Q w w' := by
  have ho := one_any a 0
  obtain ⟨lo, hi, er, hf⟩ := sinOut_form a 0
  rw [hf] at ho ⊢
  have HO := Lib.hid ho
  clear ho hf
  go_enter Tryd.func16, Tryd.ntmps16
  go_wp2_with fail
  refine (HO.out _ h1 (by omega)).mono ?_
  rintro e w1 ⟨rfl, Q1⟩
  obtain ⟨o1, o2, o3⟩ := Q1.old
  have Q2 := Q.trans ((Q.refl w).alloc _) Q1
  clear Q1
  go_wp2_with fail
  exact bodyPost_ret (v := .tuple #[encl lo hi, .int .i64 er]) (by simp [results, Tryd.results16, go_sem, o1]) rfl ⟨rfl, by repeat (first | assumption | apply Q.alloc | (refine Q.setCell ?_ (by simp) _))⟩

theorem Cos_any (a : Int) (w : World) (h1 : -9223372036854775808 ≤ a ∧ a ≤ 9223372036854775807) :
    Calls Tryd.prog 17 #[.int .i64 a] w fun e w' => e = .returned (sinOut a 90000000) ∧ Q w w' := by
  have ho := one_any a 90000000
  obtain ⟨lo, hi, er, hf⟩ := sinOut_form a 90000000
  rw [hf] at ho ⊢
  have HO := Lib.hid ho
  clear ho hf
  go_enter Tryd.func17, Tryd.ntmps17
  go_wp2_with fail
  refine (HO.out _ h1 (by omega)).mono ?_
  rintro e w1 ⟨rfl, Q1⟩
  obtain ⟨o1, o2, o3⟩ := Q1.old
  have Q2 := Q.trans ((Q.refl w).alloc _) Q1
  clear Q1
  go_wp2_with fail
  exact bodyPost_ret (v := .tuple #[encl lo hi, .int .i64 er]) (by simp [results, Tryd.results17, go_sem, o1]) rfl ⟨rfl, by repeat (first | assumption | apply Q.alloc | (refine Q.setCell ?_ (by simp) _))⟩

end Go.Proofs.YtjbhnjnlpekpoaaDoor
