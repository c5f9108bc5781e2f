/-
  The reference's sine, Sin, Cos: they are the program's.
-/
import Derived.Test.YtjbhnjnlpekpoaaDoorRefF
import Derived.Test.YtjbhnjnlpekpoaaDoorRetA
namespace Go.Proofs.YtjbhnjnlpekpoaaDoor
open Go.RowKit Go.Sort
set_option linter.unusedVariables false

theorem negative_any (lo hi : Int) (w : World) (h1 : -9223372036854775807 ≤ lo ∧ lo ≤ 9223372036854775807) (h2 : -9223372036854775807 ≤ hi ∧ hi ≤ 9223372036854775807) :
    Calls Tryd.prog 66 #[.agg #[.int .i64 lo, .int .i64 hi]] w fun e w' => e = .returned (.agg #[.int .i64 (-hi), .int .i64 (-lo)]) ∧ Q w w' := by
  go_enter Tryd.func66, Tryd.ntmps66
  go_wp2
  exact bodyPost_ret (v := .agg #[.int .i64 (-hi), .int .i64 (-lo)]) (by simp [results, Tryd.results66, go_sem]) rfl ⟨rfl, by repeat (first | exact Q.refl _ | assumption | apply Q.alloc | (refine Q.setCell ?_ (by simp) _))⟩

/-- the end of a function whose result is the first block that it makes -/
theorem fold_hi (r : Nat) (h1 : 180000000 ≤ r) (h2 : r < 360000000) : r % 180000000 = r - 180000000 := by omega
theorem fold_lo (r : Nat) (h : r < 180000000) : min (r : Int) (180000000 - (r : Int)) = ((min r (180000000 - r) : Nat) : Int) := by omega

set_option maxRecDepth 100000 in
set_option maxHeartbeats 1000000 in
theorem refsine_low (a : Int) (m : Nat) (w : World) (h0 : 0 ≤ a) (ha : a < 180000000) (m9 : m ≤ 90000000) (hm : Hid (min a (180000000 - a) = (m : Int))) :
    Calls Tryd.prog 55 #[.int .i64 a] w fun e w' => e = .returned (encl (Trig.sLo m) (Trig.sHi m)) ∧ Q w w' := by
  have b1 : (a % 360000000 + 360000000) % 360000000 = a := by omega
  have HX := Lib.hid b1
  clear b1
  go_enter Tryd.func55, Tryd.ntmps55
  have H := Has.new w 0 0 24
  have QC := (Q.refl w).alloc (.cells #[.int .i64 0, .int .i64 0] 24)
  go_upto_region 2 with fail
  rw [HX.out]
  go_wp2_with fail
  rw [hm.out]
  refine (refsteep_any m _ m9).mono ?_
  rintro e w1 ⟨rfl, Q1⟩
  replace H := H.mono Q1
  replace QC := QC.trans Q1
  clear Q1
  generalize hx : (Trig.sLo m : Int) = x at *
  generalize hy : (Trig.sHi m : Int) = y at *
  have HX1 := Lib.hid hx
  have HX2 := Lib.hid hy
  clear hx hy
  obtain ⟨z2, k20, k21, f20, f21⟩ := id H
  obtain ⟨V, hV, HV, QV⟩ := ret_first H QC x y
  have HVV := Lib.hid hV
  clear H QC hV
  go_wp2_with fail
  rw [← HVV.out]
  obtain ⟨_, r0, r1, _, _⟩ := HV
  exact bodyPost_ret (v := encl x y) (by simp [results, Tryd.results55, go_sem, r0, r1]) rfl ⟨by rw [HX1.out, HX2.out], QV⟩

set_option maxRecDepth 100000 in
set_option maxHeartbeats 1000000 in
theorem refsine_any (a : Int) (w : World) (h1 : -9000000000000000000 ≤ a) (h2 : a ≤ 9000000000000000000) :
    Calls Tryd.prog 55 #[.int .i64 a] w fun e w' => e = .returned (encl (Trig.sineLo a) (Trig.sineHi a)) ∧ Q w w' := by
  obtain ⟨r, hr, hr0, hr1, hq, hd⟩ := fold_pure a
  have hlo : Trig.sineLo a = if Trig.dn a then -(Trig.sHi (Trig.q4 a) : Int) else (Trig.sLo (Trig.q4 a) : Int) := rfl
  have hhi : Trig.sineHi a = if Trig.dn a then -(Trig.sLo (Trig.q4 a) : Int) else (Trig.sHi (Trig.q4 a) : Int) := rfl
  have q9 := Trig.q4_le a
  have s9 := Trig.sLo_le q9
  generalize Trig.q4 a = q at *
  rw [hd] at hlo hhi
  have b1 : -360000000 < a.tmod 360000000 := Int.lt_tmod_of_pos a (by decide)
  have b2 : a.tmod 360000000 < 360000000 := Int.tmod_lt_of_pos a (by decide)
  clear hr0 hd
  generalize Trig.sineLo a = X at *
  generalize Trig.sineHi a = Y at *
  by_cases hh : 180000000 ≤ r
  · rw [decide_eq_true (by omega), if_pos rfl] at hlo hhi
    have hm : min ((r : Int) - 180000000) (180000000 - ((r : Int) - 180000000)) = (q : Int) := by
      have e : r % 180000000 = r - 180000000 := fold_hi r hh hr1
      rw [hq, e, ← fold_lo (r - 180000000) (by omega)]
      rw [show ((r - 180000000 : Nat) : Int) = (r : Int) - 180000000 by omega]
    have HM := Lib.hid hm
    have HLO := Lib.hid hlo
    have HHI := Lib.hid hhi
    clear hq hm hlo hhi
    have b3 : 180000000 ≤ (r : Int) := by omega
    have b4 : (r : Int) < 360000000 := by omega
    go_enter Tryd.func55, Tryd.ntmps55
    have H := Has.new w 0 0 24
    have QC := (Q.refl w).alloc (.cells #[.int .i64 0, .int .i64 0] 24)
    go_wp2_with fail
    refine (refsine_low ((r : Int) - 180000000) q _ (by omega) (by omega) q9 HM).mono ?_
    rintro e w1 ⟨rfl, Q1⟩
    replace H := H.mono Q1
    replace QC := QC.trans Q1
    clear Q1
    go_wp2_with fail
    refine (negative_any _ _ _ (by omega) (by omega)).mono ?_
    rintro e w2 ⟨rfl, Q2⟩
    rw [← HLO.out, ← HHI.out]
    replace H := H.mono Q2
    replace QC := QC.trans Q2
    clear Q2
    obtain ⟨z2, k20, k21, f20, f21⟩ := id H
    obtain ⟨V, hV, HV, QV⟩ := ret_first H QC X Y
    have HVV := Lib.hid hV
    clear H QC hV HM HLO HHI
    go_wp2_with fail
    rw [← HVV.out]
    obtain ⟨_, r0, r1, _, _⟩ := HV
    exact bodyPost_ret (v := encl X Y) (by simp [results, Tryd.results55, go_sem, r0, r1]) rfl ⟨rfl, QV⟩
  · rw [decide_eq_false (by omega), if_neg (by simp)] at hlo hhi
    have hm : min (r : Int) (180000000 - (r : Int)) = (q : Int) := by
      have e : r % 180000000 = r := Nat.mod_eq_of_lt (by omega)
      rw [hq, e]
      exact fold_lo r (by omega)
    have HM := Lib.hid hm
    have HLO := Lib.hid hlo
    have HHI := Lib.hid hhi
    clear hq hm hlo hhi
    have b3 : (r : Int) < 180000000 := by omega
    have b4 : 0 ≤ (r : Int) := by omega
    clear hh hr1
    generalize (r : Int) = ri at *
    go_enter Tryd.func55, Tryd.ntmps55
    have H := Has.new w 0 0 24
    have QC := (Q.refl w).alloc (.cells #[.int .i64 0, .int .i64 0] 24)
    go_upto_region 2 with fail
    rw [hr]
    clear hr b1 b2
    go_wp2_with fail
    rw [HM.out]
    refine (refsteep_any q _ q9).mono ?_
    rintro e w1 ⟨rfl, Q1⟩
    rw [← HLO.out, ← HHI.out]
    replace H := H.mono Q1
    replace QC := QC.trans Q1
    clear Q1
    obtain ⟨z2, k20, k21, f20, f21⟩ := id H
    obtain ⟨V, hV, HV, QV⟩ := ret_first H QC X Y
    have HVV := Lib.hid hV
    clear H QC hV HM HLO HHI
    go_wp2_with fail
    rw [← HVV.out]
    obtain ⟨_, r0, r1, _, _⟩ := HV
    exact bodyPost_ret (v := encl X Y) (by simp [results, Tryd.results55, go_sem, r0, r1]) rfl ⟨rfl, QV⟩

def angB (a : Int) : Bool := decide (-3600000000 ≤ a) && decide (a ≤ 3600000000)
theorem angB_yes {a : Int} (h1 : -3600000000 ≤ a) (h2 : a ≤ 3600000000) : angB a = true := by unfold angB; rw [decide_eq_true h1, decide_eq_true h2]; rfl
theorem angB_no {a : Int} (h : ¬ (-3600000000 ≤ a ∧ a ≤ 3600000000)) : angB a = false := by
  unfold angB
  by_cases h1 : -3600000000 ≤ a
  · rw [decide_eq_true h1, decide_eq_false (fun k => h ⟨h1, k⟩)]; rfl
  · rw [decide_eq_false h1]; rfl
theorem angled_any (a : Int) (w : World) :
    Calls Tryd.prog 54 #[.int .i64 a] w fun e w' => e = .returned (.bool (angB a)) ∧ w' = w := by
  by_cases h1 : -3600000000 ≤ a
  · by_cases h2 : a ≤ 3600000000
    · have H := Lib.hid (angB_yes h1 h2)
      go_enter Tryd.func54, Tryd.ntmps54
      go_wp2_with fail
      go_ret
      exact ⟨by rw [H.out]; rfl, rfl⟩
    · have H := Lib.hid (angB_no (a := a) (fun k => h2 k.2))
      go_enter Tryd.func54, Tryd.ntmps54
      go_wp2_with fail
      go_ret
      exact ⟨by rw [H.out]; rfl, rfl⟩
  · have H := Lib.hid (angB_no (a := a) (fun k => h1 k.1))
    go_enter Tryd.func54, Tryd.ntmps54
    go_wp2_with fail
    go_ret
    exact ⟨by rw [H.out]; rfl, rfl⟩

set_option maxRecDepth 100000 in
set_option maxHeartbeats 1000000 in
theorem refSin_any (a : Int) (w : World) (h1 : -9223372036854775808 ≤ a ∧ a ≤ 9223372036854775807) :
    Calls Tryd.prog 25 #[.int .i64 a] w fun e w' => e = .returned (sinOut a 0) ∧ Q w w' := by
  cases hb : wildB a a 3600000000 with
  | true =>
    have ha : angB a = false := angB_no (fun k => by rw [(wild_iff a).2 k] at hb; cases hb)
    have ho : sinOut a 0 = .tuple #[encl 0 0, .int .i64 7] := by unfold sinOut; rw [hb]; rfl
    rw [ho]
    have HA := Lib.hid ha
    clear ha ho hb
    go_enter Tryd.func25, Tryd.ntmps25
    have H := Has.new w 0 0 24
    have QC := (Q.refl w).alloc (.cells #[.int .i64 0, .int .i64 0] 24)
    go_wp2_with fail
    refine (angled_any a _).mono ?_
    rintro e w1 ⟨rfl, rfl⟩
    rw [HA.out]
    go_wp2_with fail
    exact bodyPost_ret (v := .tuple #[encl 0 0, .int .i64 7]) (by simp [results, Tryd.results25, go_sem]) rfl ⟨rfl, by repeat (first | exact Q.refl _ | assumption | apply Q.alloc | (refine Q.setCell ?_ (by simp) _))⟩
  | false =>
    have hr := (wild_iff a).1 hb
    have ha : angB a = true := angB_yes hr.1 hr.2
    have ho : sinOut a 0 = .tuple #[encl (Trig.sineLo (a + 0)) (Trig.sineHi (a + 0)), .int .i64 0] := by unfold sinOut; rw [hb]; rfl
    rw [ho]
    have HA := Lib.hid ha
    clear ha ho hb
    have HS := Lib.hid (fun W => refsine_any (a + 0) W (by omega) (by omega))
    rw [Int.add_zero] at HS ⊢
    generalize Trig.sineLo a = x at *
    generalize Trig.sineHi a = y at *
    go_enter Tryd.func25, Tryd.ntmps25
    have H := Has.new w 0 0 24
    have QC := (Q.refl w).alloc (.cells #[.int .i64 0, .int .i64 0] 24)
    go_wp2_with fail
    refine (angled_any a _).mono ?_
    rintro e w1 ⟨rfl, rfl⟩
    rw [HA.out]
    generalize w.alloc (.cells #[.int .i64 0, .int .i64 0] 24) = w2 at *
    go_wp2_with fail
    refine (HS.out _).mono ?_
    rintro e w3 ⟨rfl, Q3⟩
    replace H := H.mono Q3
    replace QC := QC.trans Q3
    clear Q3 HS HA
    obtain ⟨z2, k20, k21, f20, f21⟩ := id H
    obtain ⟨V, hV, HV, QV⟩ := ret_first H QC x y
    have HVV := Lib.hid hV
    clear H QC hV
    go_wp2_with fail
    rw [← HVV.out]
    obtain ⟨_, r0, r1, _, _⟩ := HV
    exact bodyPost_ret (v := .tuple #[encl x y, .int .i64 0]) (by simp [results, Tryd.results25, go_sem, r0, r1]) rfl ⟨rfl, QV⟩

set_option maxRecDepth 100000 in
set_option maxHeartbeats 1000000 in
theorem refCos_any (a : Int) (w : World) (h1 : -9223372036854775808 ≤ a ∧ a ≤ 9223372036854775807) :
    Calls Tryd.prog 26 #[.int .i64 a] w fun e w' => e = .returned (sinOut a 90000000) ∧ Q w w' := by
  cases hb : wildB a a 3600000000 with
  | true =>
    have ha : angB a = false := angB_no (fun k => by rw [(wild_iff a).2 k] at hb; cases hb)
    have ho : sinOut a 90000000 = .tuple #[encl 0 0, .int .i64 7] := by unfold sinOut; rw [hb]; rfl
    rw [ho]
    have HA := Lib.hid ha
    clear ha ho hb
    go_enter Tryd.func26, Tryd.ntmps26
    have H := Has.new w 0 0 24
    have QC := (Q.refl w).alloc (.cells #[.int .i64 0, .int .i64 0] 24)
    go_wp2_with fail
    refine (angled_any a _).mono ?_
    rintro e w1 ⟨rfl, rfl⟩
    rw [HA.out]
    go_wp2_with fail
    exact bodyPost_ret (v := .tuple #[encl 0 0, .int .i64 7]) (by simp [results, Tryd.results26, go_sem]) rfl ⟨rfl, by repeat (first | exact Q.refl _ | assumption | apply Q.alloc | (refine Q.setCell ?_ (by simp) _))⟩
  | false =>
    have hr := (wild_iff a).1 hb
    have ha : angB a = true := angB_yes hr.1 hr.2
    have ho : sinOut a 90000000 = .tuple #[encl (Trig.sineLo (a + 90000000)) (Trig.sineHi (a + 90000000)), .int .i64 0] := by unfold sinOut; rw [hb]; rfl
    rw [ho]
    have HA := Lib.hid ha
    clear ha ho hb
    have HS := Lib.hid (fun W => refsine_any (a + 90000000) W (by omega) (by omega))
    skip
    generalize Trig.sineLo (a + 90000000) = x at *
    generalize Trig.sineHi (a + 90000000) = y at *
    go_enter Tryd.func26, Tryd.ntmps26
    have H := Has.new w 0 0 24
    have QC := (Q.refl w).alloc (.cells #[.int .i64 0, .int .i64 0] 24)
    go_wp2_with fail
    refine (angled_any a _).mono ?_
    rintro e w1 ⟨rfl, rfl⟩
    rw [HA.out]
    generalize w.alloc (.cells #[.int .i64 0, .int .i64 0] 24) = w2 at *
    go_wp2_with fail
    refine (HS.out _).mono ?_
    rintro e w3 ⟨rfl, Q3⟩
    replace H := H.mono Q3
    replace QC := QC.trans Q3
    clear Q3 HS HA
    obtain ⟨z2, k20, k21, f20, f21⟩ := id H
    obtain ⟨V, hV, HV, QV⟩ := ret_first H QC x y
    have HVV := Lib.hid hV
    clear H QC hV
    go_wp2_with fail
    rw [← HVV.out]
    obtain ⟨_, r0, r1, _, _⟩ := HV
    exact bodyPost_ret (v := .tuple #[encl x y, .int .i64 0]) (by simp [results, Tryd.results26, go_sem, r0, r1]) rfl ⟨rfl, QV⟩

end Go.Proofs.YtjbhnjnlpekpoaaDoor
