/-
  The document's Read: what it returns, for every string.
-/
import Derived.Test.YtjbhnjnlpekpoaaDoorRefStr
import Derived.Deep.DeepCutAuto
namespace Go.Proofs.YtjbhnjnlpekpoaaDoor
open Go.RowKit Go.Sort
set_option linter.unusedVariables false

theorem rr_long (s : ByteArray) (w : World) (h : 20 < s.size) (hm : s.size ≤ 9223372036854775807) :
    Calls Tryd.prog 45 #[.string s] w fun e w' => e = .returned (.tuple #[.int .i64 0, .int .i64 0, .int .i64 3]) ∧ Q w w' := by
  go_enter Tryd.func45, Tryd.ntmps45
  go_wp2_with fail
  go_ret3
  exact ⟨rfl, Q.refl _⟩

set_option maxRecDepth 100000 in
theorem rr_form (s : ByteArray) (K : Nat) (w : World) (h : s.size ≤ 20) (hK : Hid ((K : Int) = ((s.data.toList.takeWhile isD).length : Int))) (hb : K < 1 ∨ 3 < K) :
    Calls Tryd.prog 45 #[.string s] w fun e w' => e = .returned (.tuple #[.int .i64 0, .int .i64 0, .int .i64 6]) ∧ Q w w' := by
  rcases hb with hb | hb
  all_goals
    go_enter Tryd.func45, Tryd.ntmps45
    go_wp2_with fail
    refine (reffigures_any s K _ (by omega) hK).mono ?_
    rintro e w1 ⟨rfl, rfl⟩
    go_wp2_with fail
    go_ret3
    exact ⟨rfl, Q.refl _⟩

theorem not_bytes2 {V : ByteArray} {l : List UInt8} (h : V.data.toList ≠ l) : (V.toList == l) = false := by
  rw [Lib.toList_data, beq_eq_false_iff_ne]
  exact h

set_option maxRecDepth 100000 in
set_option maxHeartbeats 2000000 in
theorem rr_form2 (s A R : ByteArray) (K : Nat) (n1 : Int) (w : World) (h : s.size ≤ 20) (hK : Hid ((K : Int) = ((s.data.toList.takeWhile isD).length : Int))) (k1 : 1 ≤ K) (k3 : K ≤ 3) (kl : K ≤ s.size) (hA : s.extract 0 K = A) (hR : s.extract K s.size = R) (sA : A.size ≤ 3) (sR : R.size ≤ 20) (dA : Hid (∀ b ∈ A.data.toList, isD b = true)) (nA : Hid (n1 = (val 0 A.data.toList : Nat))) (b1 : 0 ≤ n1 ∧ n1 < 1000) (U : ByteArray) (J : Nat) (z0 : 0 < R.size) (hz : (((R[0]'z0).toNat : Int) == 46) = true) (hU : R.extract 1 R.size = U) (sU : U.size ≤ 20) (hJ : Hid ((J : Int) = ((U.data.toList.takeWhile isD).length : Int))) (hb : J < 1 ∨ 6 < J) :
    Calls Tryd.prog 45 #[.string s] w fun e w' => e = .returned (.tuple #[.int .i64 0, .int .i64 0, .int .i64 6]) ∧ Q w w' := by
  rcases hb with hb | hb
  all_goals
    go_enter Tryd.func45, Tryd.ntmps45
    go_wp2_with fail
    refine (reffigures_any s K _ (by omega) hK).mono ?_
    rintro e w1 ⟨rfl, rfl⟩
    go_upto_region 6 with fail
    have v1 : IntKind.i64.wrap (n1 * 1000000) = n1 * 1000000 := IntWalk.i64_in _ (by omega)
    go_quiet (with_reducible exact Calls.quiet_of_same (refnumber_any A n1 _ (by omega) dA nA))
    have QC : Q w1 (w1.drewN nq) := (Q.refl w1).drewN nq
    generalize w1.drewN nq = w2 at *
    go_wp2_with fail
    refine (reffigures_any U J _ (by omega) hJ).mono ?_
    rintro e w3 ⟨rfl, rfl⟩
    go_wp2_with fail
    go_ret3
    exact ⟨rfl, QC⟩

set_option maxRecDepth 100000 in
set_option maxHeartbeats 2000000 in
theorem rr_d_0 (s A R : ByteArray) (K : Nat) (n1 : Int) (w : World) (h : s.size ≤ 20) (hK : Hid ((K : Int) = ((s.data.toList.takeWhile isD).length : Int))) (k1 : 1 ≤ K) (k3 : K ≤ 3) (kl : K ≤ s.size) (hA : s.extract 0 K = A) (hR : s.extract K s.size = R) (sA : A.size ≤ 3) (sR : R.size ≤ 20) (dA : Hid (∀ b ∈ A.data.toList, isD b = true)) (nA : Hid (n1 = (val 0 A.data.toList : Nat))) (b1 : 0 ≤ n1 ∧ n1 < 1000) (U : ByteArray) (J : Nat) (z0 : 0 < R.size) (hz : (((R[0]'z0).toNat : Int) == 46) = true) (hU : R.extract 1 R.size = U) (sU : U.size ≤ 20) (hJ : Hid ((J : Int) = ((U.data.toList.takeWhile isD).length : Int))) (P V PP : ByteArray) (n2 : Int) (j1 : 1 ≤ J) (j6 : J ≤ 6) (jl : 1 + J ≤ R.size) (hP : R.extract 1 (1 + J) = P) (hV : R.extract (1 + J) R.size = V) (sP : P.size ≤ 6) (sP1 : 1 ≤ P.size) (hPP : (P ++ ⟨#[48, 48, 48, 48, 48, 48]⟩).extract 0 6 = PP) (sPP : PP.size ≤ 6) (dP : Hid (∀ b ∈ PP.data.toList, isD b = true)) (nP : Hid (n2 = (val 0 PP.data.toList : Nat))) (b2 : 0 ≤ n2 ∧ n2 < 1000000) (N : Int) (hN : n1 * 1000000 + n2 = N) (bN : 0 ≤ N ∧ N ≤ 1000000000) (hv : V = ⟨#[78]⟩) (hn2 : N ≤ 90000000) :
    Calls Tryd.prog 45 #[.string s] w fun e w' => e = .returned (.tuple #[.int .i64 N, .int .i64 0, .int .i64 0]) ∧ Q w w' := by
  have HV := Lib.hid hv
  clear hv
  go_enter Tryd.func45, Tryd.ntmps45
  go_wp2_with fail
  refine (reffigures_any s K _ (by omega) hK).mono ?_
  rintro e w1 ⟨rfl, rfl⟩
  go_upto_region 6 with fail
  have v1 : IntKind.i64.wrap (n1 * 1000000) = n1 * 1000000 := IntWalk.i64_in _ (by omega)
  go_quiet (with_reducible exact Calls.quiet_of_same (refnumber_any A n1 _ (by omega) dA nA))
  have QC : Q w1 (w1.drewN nq) := (Q.refl w1).drewN nq
  generalize w1.drewN nq = w2 at *
  go_wp2_with fail
  refine (reffigures_any U J _ (by omega) hJ).mono ?_
  rintro e w3 ⟨rfl, rfl⟩
  go_upto_region 11 with fail
  have v2 : IntKind.i64.wrap (n1 * 1000000 + n2) = N := by rw [hN]; exact IntWalk.i64_in _ (by omega)
  have v3 : IntKind.i64.wrap (1 + (J : Int)) = 1 + (J : Int) := IntWalk.i64_in _ (by omega)
  have v4 : (1 + (J : Int)).toNat = 1 + J := by omega
  have v5 : 0 ≤ 1 + (J : Int) := by omega
  have v6 : 1 + (J : Int) ≤ R.size := by omega
  have v7 : 1 ≤ 1 + (J : Int) := by omega
  go_quiet (with_reducible exact Calls.quiet_of_same (refnumber_any PP n2 _ (by omega) dP nP))
  replace QC := QC.drewN nq
  generalize w3.drewN nq = w4 at *
  clear v1 v2 v3 v4 v5 v6 v7
  have hv := HV.out
  clear HV hA hR hU hz hP hPP hV dA nA dP nP hK hJ hN
  subst hv
  go_wp2_with fail
  refine (most_any 0 90000000 _ (.inl ⟨rfl, rfl⟩)).mono ?_
  rintro e w9 ⟨rfl, rfl⟩
  go_wp2_with fail
  go_ret3
  exact ⟨rfl, QC⟩

set_option maxRecDepth 100000 in
set_option maxHeartbeats 2000000 in
theorem rr_d_0o (s A R : ByteArray) (K : Nat) (n1 : Int) (w : World) (h : s.size ≤ 20) (hK : Hid ((K : Int) = ((s.data.toList.takeWhile isD).length : Int))) (k1 : 1 ≤ K) (k3 : K ≤ 3) (kl : K ≤ s.size) (hA : s.extract 0 K = A) (hR : s.extract K s.size = R) (sA : A.size ≤ 3) (sR : R.size ≤ 20) (dA : Hid (∀ b ∈ A.data.toList, isD b = true)) (nA : Hid (n1 = (val 0 A.data.toList : Nat))) (b1 : 0 ≤ n1 ∧ n1 < 1000) (U : ByteArray) (J : Nat) (z0 : 0 < R.size) (hz : (((R[0]'z0).toNat : Int) == 46) = true) (hU : R.extract 1 R.size = U) (sU : U.size ≤ 20) (hJ : Hid ((J : Int) = ((U.data.toList.takeWhile isD).length : Int))) (P V PP : ByteArray) (n2 : Int) (j1 : 1 ≤ J) (j6 : J ≤ 6) (jl : 1 + J ≤ R.size) (hP : R.extract 1 (1 + J) = P) (hV : R.extract (1 + J) R.size = V) (sP : P.size ≤ 6) (sP1 : 1 ≤ P.size) (hPP : (P ++ ⟨#[48, 48, 48, 48, 48, 48]⟩).extract 0 6 = PP) (sPP : PP.size ≤ 6) (dP : Hid (∀ b ∈ PP.data.toList, isD b = true)) (nP : Hid (n2 = (val 0 PP.data.toList : Nat))) (b2 : 0 ≤ n2 ∧ n2 < 1000000) (N : Int) (hN : n1 * 1000000 + n2 = N) (bN : 0 ≤ N ∧ N ≤ 1000000000) (hv : V = ⟨#[78]⟩) (hn2 : 90000000 < N) :
    Calls Tryd.prog 45 #[.string s] w fun e w' => e = .returned (.tuple #[.int .i64 0, .int .i64 0, .int .i64 7]) ∧ Q w w' := by
  have HV := Lib.hid hv
  clear hv
  go_enter Tryd.func45, Tryd.ntmps45
  go_wp2_with fail
  refine (reffigures_any s K _ (by omega) hK).mono ?_
  rintro e w1 ⟨rfl, rfl⟩
  go_upto_region 6 with fail
  have v1 : IntKind.i64.wrap (n1 * 1000000) = n1 * 1000000 := IntWalk.i64_in _ (by omega)
  go_quiet (with_reducible exact Calls.quiet_of_same (refnumber_any A n1 _ (by omega) dA nA))
  have QC : Q w1 (w1.drewN nq) := (Q.refl w1).drewN nq
  generalize w1.drewN nq = w2 at *
  go_wp2_with fail
  refine (reffigures_any U J _ (by omega) hJ).mono ?_
  rintro e w3 ⟨rfl, rfl⟩
  go_upto_region 11 with fail
  have v2 : IntKind.i64.wrap (n1 * 1000000 + n2) = N := by rw [hN]; exact IntWalk.i64_in _ (by omega)
  have v3 : IntKind.i64.wrap (1 + (J : Int)) = 1 + (J : Int) := IntWalk.i64_in _ (by omega)
  have v4 : (1 + (J : Int)).toNat = 1 + J := by omega
  have v5 : 0 ≤ 1 + (J : Int) := by omega
  have v6 : 1 + (J : Int) ≤ R.size := by omega
  have v7 : 1 ≤ 1 + (J : Int) := by omega
  go_quiet (with_reducible exact Calls.quiet_of_same (refnumber_any PP n2 _ (by omega) dP nP))
  replace QC := QC.drewN nq
  generalize w3.drewN nq = w4 at *
  clear v1 v2 v3 v4 v5 v6 v7
  have hv := HV.out
  clear HV hA hR hU hz hP hPP hV dA nA dP nP hK hJ hN
  subst hv
  go_wp2_with fail
  refine (most_any 0 90000000 _ (.inl ⟨rfl, rfl⟩)).mono ?_
  rintro e w9 ⟨rfl, rfl⟩
  go_wp2_with fail
  go_ret3
  exact ⟨rfl, QC⟩

set_option maxRecDepth 100000 in
set_option maxHeartbeats 2000000 in
theorem rr_d_1 (s A R : ByteArray) (K : Nat) (n1 : Int) (w : World) (h : s.size ≤ 20) (hK : Hid ((K : Int) = ((s.data.toList.takeWhile isD).length : Int))) (k1 : 1 ≤ K) (k3 : K ≤ 3) (kl : K ≤ s.size) (hA : s.extract 0 K = A) (hR : s.extract K s.size = R) (sA : A.size ≤ 3) (sR : R.size ≤ 20) (dA : Hid (∀ b ∈ A.data.toList, isD b = true)) (nA : Hid (n1 = (val 0 A.data.toList : Nat))) (b1 : 0 ≤ n1 ∧ n1 < 1000) (U : ByteArray) (J : Nat) (z0 : 0 < R.size) (hz : (((R[0]'z0).toNat : Int) == 46) = true) (hU : R.extract 1 R.size = U) (sU : U.size ≤ 20) (hJ : Hid ((J : Int) = ((U.data.toList.takeWhile isD).length : Int))) (P V PP : ByteArray) (n2 : Int) (j1 : 1 ≤ J) (j6 : J ≤ 6) (jl : 1 + J ≤ R.size) (hP : R.extract 1 (1 + J) = P) (hV : R.extract (1 + J) R.size = V) (sP : P.size ≤ 6) (sP1 : 1 ≤ P.size) (hPP : (P ++ ⟨#[48, 48, 48, 48, 48, 48]⟩).extract 0 6 = PP) (sPP : PP.size ≤ 6) (dP : Hid (∀ b ∈ PP.data.toList, isD b = true)) (nP : Hid (n2 = (val 0 PP.data.toList : Nat))) (b2 : 0 ≤ n2 ∧ n2 < 1000000) (N : Int) (hN : n1 * 1000000 + n2 = N) (bN : 0 ≤ N ∧ N ≤ 1000000000) (hv : V = ⟨#[83]⟩) (hn2 : N ≤ 90000000) :
    Calls Tryd.prog 45 #[.string s] w fun e w' => e = .returned (.tuple #[.int .i64 (-N), .int .i64 0, .int .i64 0]) ∧ Q w w' := by
  have HV := Lib.hid hv
  clear hv
  go_enter Tryd.func45, Tryd.ntmps45
  go_wp2_with fail
  refine (reffigures_any s K _ (by omega) hK).mono ?_
  rintro e w1 ⟨rfl, rfl⟩
  go_upto_region 6 with fail
  have v1 : IntKind.i64.wrap (n1 * 1000000) = n1 * 1000000 := IntWalk.i64_in _ (by omega)
  go_quiet (with_reducible exact Calls.quiet_of_same (refnumber_any A n1 _ (by omega) dA nA))
  have QC : Q w1 (w1.drewN nq) := (Q.refl w1).drewN nq
  generalize w1.drewN nq = w2 at *
  go_wp2_with fail
  refine (reffigures_any U J _ (by omega) hJ).mono ?_
  rintro e w3 ⟨rfl, rfl⟩
  go_upto_region 11 with fail
  have v2 : IntKind.i64.wrap (n1 * 1000000 + n2) = N := by rw [hN]; exact IntWalk.i64_in _ (by omega)
  have v3 : IntKind.i64.wrap (1 + (J : Int)) = 1 + (J : Int) := IntWalk.i64_in _ (by omega)
  have v4 : (1 + (J : Int)).toNat = 1 + J := by omega
  have v5 : 0 ≤ 1 + (J : Int) := by omega
  have v6 : 1 + (J : Int) ≤ R.size := by omega
  have v7 : 1 ≤ 1 + (J : Int) := by omega
  go_quiet (with_reducible exact Calls.quiet_of_same (refnumber_any PP n2 _ (by omega) dP nP))
  replace QC := QC.drewN nq
  generalize w3.drewN nq = w4 at *
  clear v1 v2 v3 v4 v5 v6 v7
  have hv := HV.out
  clear HV hA hR hU hz hP hPP hV dA nA dP nP hK hJ hN
  subst hv
  go_wp2_with fail
  refine (most_any 0 90000000 _ (.inl ⟨rfl, rfl⟩)).mono ?_
  rintro e w9 ⟨rfl, rfl⟩
  go_wp2_with fail
  go_ret3
  exact ⟨rfl, QC⟩

set_option maxRecDepth 100000 in
set_option maxHeartbeats 2000000 in
theorem rr_d_1o (s A R : ByteArray) (K : Nat) (n1 : Int) (w : World) (h : s.size ≤ 20) (hK : Hid ((K : Int) = ((s.data.toList.takeWhile isD).length : Int))) (k1 : 1 ≤ K) (k3 : K ≤ 3) (kl : K ≤ s.size) (hA : s.extract 0 K = A) (hR : s.extract K s.size = R) (sA : A.size ≤ 3) (sR : R.size ≤ 20) (dA : Hid (∀ b ∈ A.data.toList, isD b = true)) (nA : Hid (n1 = (val 0 A.data.toList : Nat))) (b1 : 0 ≤ n1 ∧ n1 < 1000) (U : ByteArray) (J : Nat) (z0 : 0 < R.size) (hz : (((R[0]'z0).toNat : Int) == 46) = true) (hU : R.extract 1 R.size = U) (sU : U.size ≤ 20) (hJ : Hid ((J : Int) = ((U.data.toList.takeWhile isD).length : Int))) (P V PP : ByteArray) (n2 : Int) (j1 : 1 ≤ J) (j6 : J ≤ 6) (jl : 1 + J ≤ R.size) (hP : R.extract 1 (1 + J) = P) (hV : R.extract (1 + J) R.size = V) (sP : P.size ≤ 6) (sP1 : 1 ≤ P.size) (hPP : (P ++ ⟨#[48, 48, 48, 48, 48, 48]⟩).extract 0 6 = PP) (sPP : PP.size ≤ 6) (dP : Hid (∀ b ∈ PP.data.toList, isD b = true)) (nP : Hid (n2 = (val 0 PP.data.toList : Nat))) (b2 : 0 ≤ n2 ∧ n2 < 1000000) (N : Int) (hN : n1 * 1000000 + n2 = N) (bN : 0 ≤ N ∧ N ≤ 1000000000) (hv : V = ⟨#[83]⟩) (hn2 : 90000000 < N) :
    Calls Tryd.prog 45 #[.string s] w fun e w' => e = .returned (.tuple #[.int .i64 0, .int .i64 0, .int .i64 7]) ∧ Q w w' := by
  have HV := Lib.hid hv
  clear hv
  go_enter Tryd.func45, Tryd.ntmps45
  go_wp2_with fail
  refine (reffigures_any s K _ (by omega) hK).mono ?_
  rintro e w1 ⟨rfl, rfl⟩
  go_upto_region 6 with fail
  have v1 : IntKind.i64.wrap (n1 * 1000000) = n1 * 1000000 := IntWalk.i64_in _ (by omega)
  go_quiet (with_reducible exact Calls.quiet_of_same (refnumber_any A n1 _ (by omega) dA nA))
  have QC : Q w1 (w1.drewN nq) := (Q.refl w1).drewN nq
  generalize w1.drewN nq = w2 at *
  go_wp2_with fail
  refine (reffigures_any U J _ (by omega) hJ).mono ?_
  rintro e w3 ⟨rfl, rfl⟩
  go_upto_region 11 with fail
  have v2 : IntKind.i64.wrap (n1 * 1000000 + n2) = N := by rw [hN]; exact IntWalk.i64_in _ (by omega)
  have v3 : IntKind.i64.wrap (1 + (J : Int)) = 1 + (J : Int) := IntWalk.i64_in _ (by omega)
  have v4 : (1 + (J : Int)).toNat = 1 + J := by omega
  have v5 : 0 ≤ 1 + (J : Int) := by omega
  have v6 : 1 + (J : Int) ≤ R.size := by omega
  have v7 : 1 ≤ 1 + (J : Int) := by omega
  go_quiet (with_reducible exact Calls.quiet_of_same (refnumber_any PP n2 _ (by omega) dP nP))
  replace QC := QC.drewN nq
  generalize w3.drewN nq = w4 at *
  clear v1 v2 v3 v4 v5 v6 v7
  have hv := HV.out
  clear HV hA hR hU hz hP hPP hV dA nA dP nP hK hJ hN
  subst hv
  go_wp2_with fail
  refine (most_any 0 90000000 _ (.inl ⟨rfl, rfl⟩)).mono ?_
  rintro e w9 ⟨rfl, rfl⟩
  go_wp2_with fail
  go_ret3
  exact ⟨rfl, QC⟩

set_option maxRecDepth 100000 in
set_option maxHeartbeats 2000000 in
theorem rr_d_2 (s A R : ByteArray) (K : Nat) (n1 : Int) (w : World) (h : s.size ≤ 20) (hK : Hid ((K : Int) = ((s.data.toList.takeWhile isD).length : Int))) (k1 : 1 ≤ K) (k3 : K ≤ 3) (kl : K ≤ s.size) (hA : s.extract 0 K = A) (hR : s.extract K s.size = R) (sA : A.size ≤ 3) (sR : R.size ≤ 20) (dA : Hid (∀ b ∈ A.data.toList, isD b = true)) (nA : Hid (n1 = (val 0 A.data.toList : Nat))) (b1 : 0 ≤ n1 ∧ n1 < 1000) (U : ByteArray) (J : Nat) (z0 : 0 < R.size) (hz : (((R[0]'z0).toNat : Int) == 46) = true) (hU : R.extract 1 R.size = U) (sU : U.size ≤ 20) (hJ : Hid ((J : Int) = ((U.data.toList.takeWhile isD).length : Int))) (P V PP : ByteArray) (n2 : Int) (j1 : 1 ≤ J) (j6 : J ≤ 6) (jl : 1 + J ≤ R.size) (hP : R.extract 1 (1 + J) = P) (hV : R.extract (1 + J) R.size = V) (sP : P.size ≤ 6) (sP1 : 1 ≤ P.size) (hPP : (P ++ ⟨#[48, 48, 48, 48, 48, 48]⟩).extract 0 6 = PP) (sPP : PP.size ≤ 6) (dP : Hid (∀ b ∈ PP.data.toList, isD b = true)) (nP : Hid (n2 = (val 0 PP.data.toList : Nat))) (b2 : 0 ≤ n2 ∧ n2 < 1000000) (N : Int) (hN : n1 * 1000000 + n2 = N) (bN : 0 ≤ N ∧ N ≤ 1000000000) (hv : V = ⟨#[69]⟩) (hn2 : N ≤ 180000000) :
    Calls Tryd.prog 45 #[.string s] w fun e w' => e = .returned (.tuple #[.int .i64 N, .int .i64 1, .int .i64 0]) ∧ Q w w' := by
  have HV := Lib.hid hv
  clear hv
  go_enter Tryd.func45, Tryd.ntmps45
  go_wp2_with fail
  refine (reffigures_any s K _ (by omega) hK).mono ?_
  rintro e w1 ⟨rfl, rfl⟩
  go_upto_region 6 with fail
  have v1 : IntKind.i64.wrap (n1 * 1000000) = n1 * 1000000 := IntWalk.i64_in _ (by omega)
  go_quiet (with_reducible exact Calls.quiet_of_same (refnumber_any A n1 _ (by omega) dA nA))
  have QC : Q w1 (w1.drewN nq) := (Q.refl w1).drewN nq
  generalize w1.drewN nq = w2 at *
  go_wp2_with fail
  refine (reffigures_any U J _ (by omega) hJ).mono ?_
  rintro e w3 ⟨rfl, rfl⟩
  go_upto_region 11 with fail
  have v2 : IntKind.i64.wrap (n1 * 1000000 + n2) = N := by rw [hN]; exact IntWalk.i64_in _ (by omega)
  have v3 : IntKind.i64.wrap (1 + (J : Int)) = 1 + (J : Int) := IntWalk.i64_in _ (by omega)
  have v4 : (1 + (J : Int)).toNat = 1 + J := by omega
  have v5 : 0 ≤ 1 + (J : Int) := by omega
  have v6 : 1 + (J : Int) ≤ R.size := by omega
  have v7 : 1 ≤ 1 + (J : Int) := by omega
  go_quiet (with_reducible exact Calls.quiet_of_same (refnumber_any PP n2 _ (by omega) dP nP))
  replace QC := QC.drewN nq
  generalize w3.drewN nq = w4 at *
  clear v1 v2 v3 v4 v5 v6 v7
  have hv := HV.out
  clear HV hA hR hU hz hP hPP hV dA nA dP nP hK hJ hN
  subst hv
  go_wp2_with fail
  refine (most_any 1 180000000 _ (.inr ⟨by decide, rfl⟩)).mono ?_
  rintro e w9 ⟨rfl, rfl⟩
  go_wp2_with fail
  go_ret3
  exact ⟨rfl, QC⟩

set_option maxRecDepth 100000 in
set_option maxHeartbeats 2000000 in
theorem rr_d_2o (s A R : ByteArray) (K : Nat) (n1 : Int) (w : World) (h : s.size ≤ 20) (hK : Hid ((K : Int) = ((s.data.toList.takeWhile isD).length : Int))) (k1 : 1 ≤ K) (k3 : K ≤ 3) (kl : K ≤ s.size) (hA : s.extract 0 K = A) (hR : s.extract K s.size = R) (sA : A.size ≤ 3) (sR : R.size ≤ 20) (dA : Hid (∀ b ∈ A.data.toList, isD b = true)) (nA : Hid (n1 = (val 0 A.data.toList : Nat))) (b1 : 0 ≤ n1 ∧ n1 < 1000) (U : ByteArray) (J : Nat) (z0 : 0 < R.size) (hz : (((R[0]'z0).toNat : Int) == 46) = true) (hU : R.extract 1 R.size = U) (sU : U.size ≤ 20) (hJ : Hid ((J : Int) = ((U.data.toList.takeWhile isD).length : Int))) (P V PP : ByteArray) (n2 : Int) (j1 : 1 ≤ J) (j6 : J ≤ 6) (jl : 1 + J ≤ R.size) (hP : R.extract 1 (1 + J) = P) (hV : R.extract (1 + J) R.size = V) (sP : P.size ≤ 6) (sP1 : 1 ≤ P.size) (hPP : (P ++ ⟨#[48, 48, 48, 48, 48, 48]⟩).extract 0 6 = PP) (sPP : PP.size ≤ 6) (dP : Hid (∀ b ∈ PP.data.toList, isD b = true)) (nP : Hid (n2 = (val 0 PP.data.toList : Nat))) (b2 : 0 ≤ n2 ∧ n2 < 1000000) (N : Int) (hN : n1 * 1000000 + n2 = N) (bN : 0 ≤ N ∧ N ≤ 1000000000) (hv : V = ⟨#[69]⟩) (hn2 : 180000000 < N) :
    Calls Tryd.prog 45 #[.string s] w fun e w' => e = .returned (.tuple #[.int .i64 0, .int .i64 0, .int .i64 7]) ∧ Q w w' := by
  have HV := Lib.hid hv
  clear hv
  go_enter Tryd.func45, Tryd.ntmps45
  go_wp2_with fail
  refine (reffigures_any s K _ (by omega) hK).mono ?_
  rintro e w1 ⟨rfl, rfl⟩
  go_upto_region 6 with fail
  have v1 : IntKind.i64.wrap (n1 * 1000000) = n1 * 1000000 := IntWalk.i64_in _ (by omega)
  go_quiet (with_reducible exact Calls.quiet_of_same (refnumber_any A n1 _ (by omega) dA nA))
  have QC : Q w1 (w1.drewN nq) := (Q.refl w1).drewN nq
  generalize w1.drewN nq = w2 at *
  go_wp2_with fail
  refine (reffigures_any U J _ (by omega) hJ).mono ?_
  rintro e w3 ⟨rfl, rfl⟩
  go_upto_region 11 with fail
  have v2 : IntKind.i64.wrap (n1 * 1000000 + n2) = N := by rw [hN]; exact IntWalk.i64_in _ (by omega)
  have v3 : IntKind.i64.wrap (1 + (J : Int)) = 1 + (J : Int) := IntWalk.i64_in _ (by omega)
  have v4 : (1 + (J : Int)).toNat = 1 + J := by omega
  have v5 : 0 ≤ 1 + (J : Int) := by omega
  have v6 : 1 + (J : Int) ≤ R.size := by omega
  have v7 : 1 ≤ 1 + (J : Int) := by omega
  go_quiet (with_reducible exact Calls.quiet_of_same (refnumber_any PP n2 _ (by omega) dP nP))
  replace QC := QC.drewN nq
  generalize w3.drewN nq = w4 at *
  clear v1 v2 v3 v4 v5 v6 v7
  have hv := HV.out
  clear HV hA hR hU hz hP hPP hV dA nA dP nP hK hJ hN
  subst hv
  go_wp2_with fail
  refine (most_any 1 180000000 _ (.inr ⟨by decide, rfl⟩)).mono ?_
  rintro e w9 ⟨rfl, rfl⟩
  go_wp2_with fail
  go_ret3
  exact ⟨rfl, QC⟩

set_option maxRecDepth 100000 in
set_option maxHeartbeats 2000000 in
theorem rr_d_3 (s A R : ByteArray) (K : Nat) (n1 : Int) (w : World) (h : s.size ≤ 20) (hK : Hid ((K : Int) = ((s.data.toList.takeWhile isD).length : Int))) (k1 : 1 ≤ K) (k3 : K ≤ 3) (kl : K ≤ s.size) (hA : s.extract 0 K = A) (hR : s.extract K s.size = R) (sA : A.size ≤ 3) (sR : R.size ≤ 20) (dA : Hid (∀ b ∈ A.data.toList, isD b = true)) (nA : Hid (n1 = (val 0 A.data.toList : Nat))) (b1 : 0 ≤ n1 ∧ n1 < 1000) (U : ByteArray) (J : Nat) (z0 : 0 < R.size) (hz : (((R[0]'z0).toNat : Int) == 46) = true) (hU : R.extract 1 R.size = U) (sU : U.size ≤ 20) (hJ : Hid ((J : Int) = ((U.data.toList.takeWhile isD).length : Int))) (P V PP : ByteArray) (n2 : Int) (j1 : 1 ≤ J) (j6 : J ≤ 6) (jl : 1 + J ≤ R.size) (hP : R.extract 1 (1 + J) = P) (hV : R.extract (1 + J) R.size = V) (sP : P.size ≤ 6) (sP1 : 1 ≤ P.size) (hPP : (P ++ ⟨#[48, 48, 48, 48, 48, 48]⟩).extract 0 6 = PP) (sPP : PP.size ≤ 6) (dP : Hid (∀ b ∈ PP.data.toList, isD b = true)) (nP : Hid (n2 = (val 0 PP.data.toList : Nat))) (b2 : 0 ≤ n2 ∧ n2 < 1000000) (N : Int) (hN : n1 * 1000000 + n2 = N) (bN : 0 ≤ N ∧ N ≤ 1000000000) (hv : V = ⟨#[87]⟩) (hn2 : N ≤ 180000000) :
    Calls Tryd.prog 45 #[.string s] w fun e w' => e = .returned (.tuple #[.int .i64 (-N), .int .i64 1, .int .i64 0]) ∧ Q w w' := by
  have HV := Lib.hid hv
  clear hv
  go_enter Tryd.func45, Tryd.ntmps45
  go_wp2_with fail
  refine (reffigures_any s K _ (by omega) hK).mono ?_
  rintro e w1 ⟨rfl, rfl⟩
  go_upto_region 6 with fail
  have v1 : IntKind.i64.wrap (n1 * 1000000) = n1 * 1000000 := IntWalk.i64_in _ (by omega)
  go_quiet (with_reducible exact Calls.quiet_of_same (refnumber_any A n1 _ (by omega) dA nA))
  have QC : Q w1 (w1.drewN nq) := (Q.refl w1).drewN nq
  generalize w1.drewN nq = w2 at *
  go_wp2_with fail
  refine (reffigures_any U J _ (by omega) hJ).mono ?_
  rintro e w3 ⟨rfl, rfl⟩
  go_upto_region 11 with fail
  have v2 : IntKind.i64.wrap (n1 * 1000000 + n2) = N := by rw [hN]; exact IntWalk.i64_in _ (by omega)
  have v3 : IntKind.i64.wrap (1 + (J : Int)) = 1 + (J : Int) := IntWalk.i64_in _ (by omega)
  have v4 : (1 + (J : Int)).toNat = 1 + J := by omega
  have v5 : 0 ≤ 1 + (J : Int) := by omega
  have v6 : 1 + (J : Int) ≤ R.size := by omega
  have v7 : 1 ≤ 1 + (J : Int) := by omega
  go_quiet (with_reducible exact Calls.quiet_of_same (refnumber_any PP n2 _ (by omega) dP nP))
  replace QC := QC.drewN nq
  generalize w3.drewN nq = w4 at *
  clear v1 v2 v3 v4 v5 v6 v7
  have hv := HV.out
  clear HV hA hR hU hz hP hPP hV dA nA dP nP hK hJ hN
  subst hv
  go_wp2_with fail
  refine (most_any 1 180000000 _ (.inr ⟨by decide, rfl⟩)).mono ?_
  rintro e w9 ⟨rfl, rfl⟩
  go_wp2_with fail
  go_ret3
  exact ⟨rfl, QC⟩

set_option maxRecDepth 100000 in
set_option maxHeartbeats 2000000 in
theorem rr_d_3o (s A R : ByteArray) (K : Nat) (n1 : Int) (w : World) (h : s.size ≤ 20) (hK : Hid ((K : Int) = ((s.data.toList.takeWhile isD).length : Int))) (k1 : 1 ≤ K) (k3 : K ≤ 3) (kl : K ≤ s.size) (hA : s.extract 0 K = A) (hR : s.extract K s.size = R) (sA : A.size ≤ 3) (sR : R.size ≤ 20) (dA : Hid (∀ b ∈ A.data.toList, isD b = true)) (nA : Hid (n1 = (val 0 A.data.toList : Nat))) (b1 : 0 ≤ n1 ∧ n1 < 1000) (U : ByteArray) (J : Nat) (z0 : 0 < R.size) (hz : (((R[0]'z0).toNat : Int) == 46) = true) (hU : R.extract 1 R.size = U) (sU : U.size ≤ 20) (hJ : Hid ((J : Int) = ((U.data.toList.takeWhile isD).length : Int))) (P V PP : ByteArray) (n2 : Int) (j1 : 1 ≤ J) (j6 : J ≤ 6) (jl : 1 + J ≤ R.size) (hP : R.extract 1 (1 + J) = P) (hV : R.extract (1 + J) R.size = V) (sP : P.size ≤ 6) (sP1 : 1 ≤ P.size) (hPP : (P ++ ⟨#[48, 48, 48, 48, 48, 48]⟩).extract 0 6 = PP) (sPP : PP.size ≤ 6) (dP : Hid (∀ b ∈ PP.data.toList, isD b = true)) (nP : Hid (n2 = (val 0 PP.data.toList : Nat))) (b2 : 0 ≤ n2 ∧ n2 < 1000000) (N : Int) (hN : n1 * 1000000 + n2 = N) (bN : 0 ≤ N ∧ N ≤ 1000000000) (hv : V = ⟨#[87]⟩) (hn2 : 180000000 < N) :
    Calls Tryd.prog 45 #[.string s] w fun e w' => e = .returned (.tuple #[.int .i64 0, .int .i64 0, .int .i64 7]) ∧ Q w w' := by
  have HV := Lib.hid hv
  clear hv
  go_enter Tryd.func45, Tryd.ntmps45
  go_wp2_with fail
  refine (reffigures_any s K _ (by omega) hK).mono ?_
  rintro e w1 ⟨rfl, rfl⟩
  go_upto_region 6 with fail
  have v1 : IntKind.i64.wrap (n1 * 1000000) = n1 * 1000000 := IntWalk.i64_in _ (by omega)
  go_quiet (with_reducible exact Calls.quiet_of_same (refnumber_any A n1 _ (by omega) dA nA))
  have QC : Q w1 (w1.drewN nq) := (Q.refl w1).drewN nq
  generalize w1.drewN nq = w2 at *
  go_wp2_with fail
  refine (reffigures_any U J _ (by omega) hJ).mono ?_
  rintro e w3 ⟨rfl, rfl⟩
  go_upto_region 11 with fail
  have v2 : IntKind.i64.wrap (n1 * 1000000 + n2) = N := by rw [hN]; exact IntWalk.i64_in _ (by omega)
  have v3 : IntKind.i64.wrap (1 + (J : Int)) = 1 + (J : Int) := IntWalk.i64_in _ (by omega)
  have v4 : (1 + (J : Int)).toNat = 1 + J := by omega
  have v5 : 0 ≤ 1 + (J : Int) := by omega
  have v6 : 1 + (J : Int) ≤ R.size := by omega
  have v7 : 1 ≤ 1 + (J : Int) := by omega
  go_quiet (with_reducible exact Calls.quiet_of_same (refnumber_any PP n2 _ (by omega) dP nP))
  replace QC := QC.drewN nq
  generalize w3.drewN nq = w4 at *
  clear v1 v2 v3 v4 v5 v6 v7
  have hv := HV.out
  clear HV hA hR hU hz hP hPP hV dA nA dP nP hK hJ hN
  subst hv
  go_wp2_with fail
  refine (most_any 1 180000000 _ (.inr ⟨by decide, rfl⟩)).mono ?_
  rintro e w9 ⟨rfl, rfl⟩
  go_wp2_with fail
  go_ret3
  exact ⟨rfl, QC⟩

set_option maxRecDepth 100000 in
set_option maxHeartbeats 2000000 in
theorem rr_d_n (s A R : ByteArray) (K : Nat) (n1 : Int) (w : World) (h : s.size ≤ 20) (hK : Hid ((K : Int) = ((s.data.toList.takeWhile isD).length : Int))) (k1 : 1 ≤ K) (k3 : K ≤ 3) (kl : K ≤ s.size) (hA : s.extract 0 K = A) (hR : s.extract K s.size = R) (sA : A.size ≤ 3) (sR : R.size ≤ 20) (dA : Hid (∀ b ∈ A.data.toList, isD b = true)) (nA : Hid (n1 = (val 0 A.data.toList : Nat))) (b1 : 0 ≤ n1 ∧ n1 < 1000) (U : ByteArray) (J : Nat) (z0 : 0 < R.size) (hz : (((R[0]'z0).toNat : Int) == 46) = true) (hU : R.extract 1 R.size = U) (sU : U.size ≤ 20) (hJ : Hid ((J : Int) = ((U.data.toList.takeWhile isD).length : Int))) (P V PP : ByteArray) (n2 : Int) (j1 : 1 ≤ J) (j6 : J ≤ 6) (jl : 1 + J ≤ R.size) (hP : R.extract 1 (1 + J) = P) (hV : R.extract (1 + J) R.size = V) (sP : P.size ≤ 6) (sP1 : 1 ≤ P.size) (hPP : (P ++ ⟨#[48, 48, 48, 48, 48, 48]⟩).extract 0 6 = PP) (sPP : PP.size ≤ 6) (dP : Hid (∀ b ∈ PP.data.toList, isD b = true)) (nP : Hid (n2 = (val 0 PP.data.toList : Nat))) (b2 : 0 ≤ n2 ∧ n2 < 1000000) (N : Int) (hN : n1 * 1000000 + n2 = N) (bN : 0 ≤ N ∧ N ≤ 1000000000) (hv : V.data.toList ≠ [78] ∧ V.data.toList ≠ [83] ∧ V.data.toList ≠ [69] ∧ V.data.toList ≠ [87]) :
    Calls Tryd.prog 45 #[.string s] w fun e w' => e = .returned (.tuple #[.int .i64 0, .int .i64 0, .int .i64 6]) ∧ Q w w' := by
  have u1 := not_bytes2 hv.1
  have u2 := not_bytes2 hv.2.1
  have u3 := not_bytes2 hv.2.2.1
  have u4 := not_bytes2 hv.2.2.2
  clear hv
  go_enter Tryd.func45, Tryd.ntmps45
  go_wp2_with fail
  refine (reffigures_any s K _ (by omega) hK).mono ?_
  rintro e w1 ⟨rfl, rfl⟩
  go_upto_region 6 with fail
  have v1 : IntKind.i64.wrap (n1 * 1000000) = n1 * 1000000 := IntWalk.i64_in _ (by omega)
  go_quiet (with_reducible exact Calls.quiet_of_same (refnumber_any A n1 _ (by omega) dA nA))
  have QC : Q w1 (w1.drewN nq) := (Q.refl w1).drewN nq
  generalize w1.drewN nq = w2 at *
  go_wp2_with fail
  refine (reffigures_any U J _ (by omega) hJ).mono ?_
  rintro e w3 ⟨rfl, rfl⟩
  go_upto_region 11 with fail
  have v2 : IntKind.i64.wrap (n1 * 1000000 + n2) = N := by rw [hN]; exact IntWalk.i64_in _ (by omega)
  have v3 : IntKind.i64.wrap (1 + (J : Int)) = 1 + (J : Int) := IntWalk.i64_in _ (by omega)
  have v4 : (1 + (J : Int)).toNat = 1 + J := by omega
  have v5 : 0 ≤ 1 + (J : Int) := by omega
  have v6 : 1 + (J : Int) ≤ R.size := by omega
  have v7 : 1 ≤ 1 + (J : Int) := by omega
  go_quiet (with_reducible exact Calls.quiet_of_same (refnumber_any PP n2 _ (by omega) dP nP))
  replace QC := QC.drewN nq
  generalize w3.drewN nq = w4 at *
  clear v1 v2 v3 v4 v5 v6 v7
  go_wp2_with fail
  go_ret3
  exact ⟨rfl, QC⟩

set_option maxRecDepth 100000 in
set_option maxHeartbeats 2000000 in
theorem rr_p_0 (s A R : ByteArray) (K : Nat) (n1 : Int) (w : World) (h : s.size ≤ 20) (hK : Hid ((K : Int) = ((s.data.toList.takeWhile isD).length : Int))) (k1 : 1 ≤ K) (k3 : K ≤ 3) (kl : K ≤ s.size) (hA : s.extract 0 K = A) (hR : s.extract K s.size = R) (sA : A.size ≤ 3) (sR : R.size ≤ 20) (dA : Hid (∀ b ∈ A.data.toList, isD b = true)) (nA : Hid (n1 = (val 0 A.data.toList : Nat))) (b1 : 0 ≤ n1 ∧ n1 < 1000) (N : Int) (hN : n1 * 1000000 = N) (bN : 0 ≤ N ∧ N ≤ 1000000000) (hv : R = ⟨#[78]⟩) (hn2 : N ≤ 90000000) :
    Calls Tryd.prog 45 #[.string s] w fun e w' => e = .returned (.tuple #[.int .i64 N, .int .i64 0, .int .i64 0]) ∧ Q w w' := by
  have HV := Lib.hid hv
  clear hv
  go_enter Tryd.func45, Tryd.ntmps45
  go_wp2_with fail
  refine (reffigures_any s K _ (by omega) hK).mono ?_
  rintro e w1 ⟨rfl, rfl⟩
  go_upto_region 6 with fail
  have v1 : IntKind.i64.wrap (n1 * 1000000) = N := by rw [hN]; exact IntWalk.i64_in _ (by omega)
  go_quiet (with_reducible exact Calls.quiet_of_same (refnumber_any A n1 _ (by omega) dA nA))
  have QC : Q w1 (w1.drewN nq) := (Q.refl w1).drewN nq
  generalize w1.drewN nq = w2 at *
  have hv := HV.out
  clear HV v1 dA nA hK hN hR
  subst hv
  go_wp2_with fail
  refine (most_any 0 90000000 _ (.inl ⟨rfl, rfl⟩)).mono ?_
  rintro e w9 ⟨rfl, rfl⟩
  go_wp2_with fail
  go_ret3
  exact ⟨rfl, QC⟩

set_option maxRecDepth 100000 in
set_option maxHeartbeats 2000000 in
theorem rr_p_0o (s A R : ByteArray) (K : Nat) (n1 : Int) (w : World) (h : s.size ≤ 20) (hK : Hid ((K : Int) = ((s.data.toList.takeWhile isD).length : Int))) (k1 : 1 ≤ K) (k3 : K ≤ 3) (kl : K ≤ s.size) (hA : s.extract 0 K = A) (hR : s.extract K s.size = R) (sA : A.size ≤ 3) (sR : R.size ≤ 20) (dA : Hid (∀ b ∈ A.data.toList, isD b = true)) (nA : Hid (n1 = (val 0 A.data.toList : Nat))) (b1 : 0 ≤ n1 ∧ n1 < 1000) (N : Int) (hN : n1 * 1000000 = N) (bN : 0 ≤ N ∧ N ≤ 1000000000) (hv : R = ⟨#[78]⟩) (hn2 : 90000000 < N) :
    Calls Tryd.prog 45 #[.string s] w fun e w' => e = .returned (.tuple #[.int .i64 0, .int .i64 0, .int .i64 7]) ∧ Q w w' := by
  have HV := Lib.hid hv
  clear hv
  go_enter Tryd.func45, Tryd.ntmps45
  go_wp2_with fail
  refine (reffigures_any s K _ (by omega) hK).mono ?_
  rintro e w1 ⟨rfl, rfl⟩
  go_upto_region 6 with fail
  have v1 : IntKind.i64.wrap (n1 * 1000000) = N := by rw [hN]; exact IntWalk.i64_in _ (by omega)
  go_quiet (with_reducible exact Calls.quiet_of_same (refnumber_any A n1 _ (by omega) dA nA))
  have QC : Q w1 (w1.drewN nq) := (Q.refl w1).drewN nq
  generalize w1.drewN nq = w2 at *
  have hv := HV.out
  clear HV v1 dA nA hK hN hR
  subst hv
  go_wp2_with fail
  refine (most_any 0 90000000 _ (.inl ⟨rfl, rfl⟩)).mono ?_
  rintro e w9 ⟨rfl, rfl⟩
  go_wp2_with fail
  go_ret3
  exact ⟨rfl, QC⟩

set_option maxRecDepth 100000 in
set_option maxHeartbeats 2000000 in
theorem rr_p_1 (s A R : ByteArray) (K : Nat) (n1 : Int) (w : World) (h : s.size ≤ 20) (hK : Hid ((K : Int) = ((s.data.toList.takeWhile isD).length : Int))) (k1 : 1 ≤ K) (k3 : K ≤ 3) (kl : K ≤ s.size) (hA : s.extract 0 K = A) (hR : s.extract K s.size = R) (sA : A.size ≤ 3) (sR : R.size ≤ 20) (dA : Hid (∀ b ∈ A.data.toList, isD b = true)) (nA : Hid (n1 = (val 0 A.data.toList : Nat))) (b1 : 0 ≤ n1 ∧ n1 < 1000) (N : Int) (hN : n1 * 1000000 = N) (bN : 0 ≤ N ∧ N ≤ 1000000000) (hv : R = ⟨#[83]⟩) (hn2 : N ≤ 90000000) :
    Calls Tryd.prog 45 #[.string s] w fun e w' => e = .returned (.tuple #[.int .i64 (-N), .int .i64 0, .int .i64 0]) ∧ Q w w' := by
  have HV := Lib.hid hv
  clear hv
  go_enter Tryd.func45, Tryd.ntmps45
  go_wp2_with fail
  refine (reffigures_any s K _ (by omega) hK).mono ?_
  rintro e w1 ⟨rfl, rfl⟩
  go_upto_region 6 with fail
  have v1 : IntKind.i64.wrap (n1 * 1000000) = N := by rw [hN]; exact IntWalk.i64_in _ (by omega)
  go_quiet (with_reducible exact Calls.quiet_of_same (refnumber_any A n1 _ (by omega) dA nA))
  have QC : Q w1 (w1.drewN nq) := (Q.refl w1).drewN nq
  generalize w1.drewN nq = w2 at *
  have hv := HV.out
  clear HV v1 dA nA hK hN hR
  subst hv
  go_wp2_with fail
  refine (most_any 0 90000000 _ (.inl ⟨rfl, rfl⟩)).mono ?_
  rintro e w9 ⟨rfl, rfl⟩
  go_wp2_with fail
  go_ret3
  exact ⟨rfl, QC⟩

set_option maxRecDepth 100000 in
set_option maxHeartbeats 2000000 in
theorem rr_p_1o (s A R : ByteArray) (K : Nat) (n1 : Int) (w : World) (h : s.size ≤ 20) (hK : Hid ((K : Int) = ((s.data.toList.takeWhile isD).length : Int))) (k1 : 1 ≤ K) (k3 : K ≤ 3) (kl : K ≤ s.size) (hA : s.extract 0 K = A) (hR : s.extract K s.size = R) (sA : A.size ≤ 3) (sR : R.size ≤ 20) (dA : Hid (∀ b ∈ A.data.toList, isD b = true)) (nA : Hid (n1 = (val 0 A.data.toList : Nat))) (b1 : 0 ≤ n1 ∧ n1 < 1000) (N : Int) (hN : n1 * 1000000 = N) (bN : 0 ≤ N ∧ N ≤ 1000000000) (hv : R = ⟨#[83]⟩) (hn2 : 90000000 < N) :
    Calls Tryd.prog 45 #[.string s] w fun e w' => e = .returned (.tuple #[.int .i64 0, .int .i64 0, .int .i64 7]) ∧ Q w w' := by
  have HV := Lib.hid hv
  clear hv
  go_enter Tryd.func45, Tryd.ntmps45
  go_wp2_with fail
  refine (reffigures_any s K _ (by omega) hK).mono ?_
  rintro e w1 ⟨rfl, rfl⟩
  go_upto_region 6 with fail
  have v1 : IntKind.i64.wrap (n1 * 1000000) = N := by rw [hN]; exact IntWalk.i64_in _ (by omega)
  go_quiet (with_reducible exact Calls.quiet_of_same (refnumber_any A n1 _ (by omega) dA nA))
  have QC : Q w1 (w1.drewN nq) := (Q.refl w1).drewN nq
  generalize w1.drewN nq = w2 at *
  have hv := HV.out
  clear HV v1 dA nA hK hN hR
  subst hv
  go_wp2_with fail
  refine (most_any 0 90000000 _ (.inl ⟨rfl, rfl⟩)).mono ?_
  rintro e w9 ⟨rfl, rfl⟩
  go_wp2_with fail
  go_ret3
  exact ⟨rfl, QC⟩

set_option maxRecDepth 100000 in
set_option maxHeartbeats 2000000 in
theorem rr_p_2 (s A R : ByteArray) (K : Nat) (n1 : Int) (w : World) (h : s.size ≤ 20) (hK : Hid ((K : Int) = ((s.data.toList.takeWhile isD).length : Int))) (k1 : 1 ≤ K) (k3 : K ≤ 3) (kl : K ≤ s.size) (hA : s.extract 0 K = A) (hR : s.extract K s.size = R) (sA : A.size ≤ 3) (sR : R.size ≤ 20) (dA : Hid (∀ b ∈ A.data.toList, isD b = true)) (nA : Hid (n1 = (val 0 A.data.toList : Nat))) (b1 : 0 ≤ n1 ∧ n1 < 1000) (N : Int) (hN : n1 * 1000000 = N) (bN : 0 ≤ N ∧ N ≤ 1000000000) (hv : R = ⟨#[69]⟩) (hn2 : N ≤ 180000000) :
    Calls Tryd.prog 45 #[.string s] w fun e w' => e = .returned (.tuple #[.int .i64 N, .int .i64 1, .int .i64 0]) ∧ Q w w' := by
  have HV := Lib.hid hv
  clear hv
  go_enter Tryd.func45, Tryd.ntmps45
  go_wp2_with fail
  refine (reffigures_any s K _ (by omega) hK).mono ?_
  rintro e w1 ⟨rfl, rfl⟩
  go_upto_region 6 with fail
  have v1 : IntKind.i64.wrap (n1 * 1000000) = N := by rw [hN]; exact IntWalk.i64_in _ (by omega)
  go_quiet (with_reducible exact Calls.quiet_of_same (refnumber_any A n1 _ (by omega) dA nA))
  have QC : Q w1 (w1.drewN nq) := (Q.refl w1).drewN nq
  generalize w1.drewN nq = w2 at *
  have hv := HV.out
  clear HV v1 dA nA hK hN hR
  subst hv
  go_wp2_with fail
  refine (most_any 1 180000000 _ (.inr ⟨by decide, rfl⟩)).mono ?_
  rintro e w9 ⟨rfl, rfl⟩
  go_wp2_with fail
  go_ret3
  exact ⟨rfl, QC⟩

set_option maxRecDepth 100000 in
set_option maxHeartbeats 2000000 in
theorem rr_p_2o (s A R : ByteArray) (K : Nat) (n1 : Int) (w : World) (h : s.size ≤ 20) (hK : Hid ((K : Int) = ((s.data.toList.takeWhile isD).length : Int))) (k1 : 1 ≤ K) (k3 : K ≤ 3) (kl : K ≤ s.size) (hA : s.extract 0 K = A) (hR : s.extract K s.size = R) (sA : A.size ≤ 3) (sR : R.size ≤ 20) (dA : Hid (∀ b ∈ A.data.toList, isD b = true)) (nA : Hid (n1 = (val 0 A.data.toList : Nat))) (b1 : 0 ≤ n1 ∧ n1 < 1000) (N : Int) (hN : n1 * 1000000 = N) (bN : 0 ≤ N ∧ N ≤ 1000000000) (hv : R = ⟨#[69]⟩) (hn2 : 180000000 < N) :
    Calls Tryd.prog 45 #[.string s] w fun e w' => e = .returned (.tuple #[.int .i64 0, .int .i64 0, .int .i64 7]) ∧ Q w w' := by
  have HV := Lib.hid hv
  clear hv
  go_enter Tryd.func45, Tryd.ntmps45
  go_wp2_with fail
  refine (reffigures_any s K _ (by omega) hK).mono ?_
  rintro e w1 ⟨rfl, rfl⟩
  go_upto_region 6 with fail
  have v1 : IntKind.i64.wrap (n1 * 1000000) = N := by rw [hN]; exact IntWalk.i64_in _ (by omega)
  go_quiet (with_reducible exact Calls.quiet_of_same (refnumber_any A n1 _ (by omega) dA nA))
  have QC : Q w1 (w1.drewN nq) := (Q.refl w1).drewN nq
  generalize w1.drewN nq = w2 at *
  have hv := HV.out
  clear HV v1 dA nA hK hN hR
  subst hv
  go_wp2_with fail
  refine (most_any 1 180000000 _ (.inr ⟨by decide, rfl⟩)).mono ?_
  rintro e w9 ⟨rfl, rfl⟩
  go_wp2_with fail
  go_ret3
  exact ⟨rfl, QC⟩

set_option maxRecDepth 100000 in
set_option maxHeartbeats 2000000 in
theorem rr_p_3 (s A R : ByteArray) (K : Nat) (n1 : Int) (w : World) (h : s.size ≤ 20) (hK : Hid ((K : Int) = ((s.data.toList.takeWhile isD).length : Int))) (k1 : 1 ≤ K) (k3 : K ≤ 3) (kl : K ≤ s.size) (hA : s.extract 0 K = A) (hR : s.extract K s.size = R) (sA : A.size ≤ 3) (sR : R.size ≤ 20) (dA : Hid (∀ b ∈ A.data.toList, isD b = true)) (nA : Hid (n1 = (val 0 A.data.toList : Nat))) (b1 : 0 ≤ n1 ∧ n1 < 1000) (N : Int) (hN : n1 * 1000000 = N) (bN : 0 ≤ N ∧ N ≤ 1000000000) (hv : R = ⟨#[87]⟩) (hn2 : N ≤ 180000000) :
    Calls Tryd.prog 45 #[.string s] w fun e w' => e = .returned (.tuple #[.int .i64 (-N), .int .i64 1, .int .i64 0]) ∧ Q w w' := by
  have HV := Lib.hid hv
  clear hv
  go_enter Tryd.func45, Tryd.ntmps45
  go_wp2_with fail
  refine (reffigures_any s K _ (by omega) hK).mono ?_
  rintro e w1 ⟨rfl, rfl⟩
  go_upto_region 6 with fail
  have v1 : IntKind.i64.wrap (n1 * 1000000) = N := by rw [hN]; exact IntWalk.i64_in _ (by omega)
  go_quiet (with_reducible exact Calls.quiet_of_same (refnumber_any A n1 _ (by omega) dA nA))
  have QC : Q w1 (w1.drewN nq) := (Q.refl w1).drewN nq
  generalize w1.drewN nq = w2 at *
  have hv := HV.out
  clear HV v1 dA nA hK hN hR
  subst hv
  go_wp2_with fail
  refine (most_any 1 180000000 _ (.inr ⟨by decide, rfl⟩)).mono ?_
  rintro e w9 ⟨rfl, rfl⟩
  go_wp2_with fail
  go_ret3
  exact ⟨rfl, QC⟩

set_option maxRecDepth 100000 in
set_option maxHeartbeats 2000000 in
theorem rr_p_3o (s A R : ByteArray) (K : Nat) (n1 : Int) (w : World) (h : s.size ≤ 20) (hK : Hid ((K : Int) = ((s.data.toList.takeWhile isD).length : Int))) (k1 : 1 ≤ K) (k3 : K ≤ 3) (kl : K ≤ s.size) (hA : s.extract 0 K = A) (hR : s.extract K s.size = R) (sA : A.size ≤ 3) (sR : R.size ≤ 20) (dA : Hid (∀ b ∈ A.data.toList, isD b = true)) (nA : Hid (n1 = (val 0 A.data.toList : Nat))) (b1 : 0 ≤ n1 ∧ n1 < 1000) (N : Int) (hN : n1 * 1000000 = N) (bN : 0 ≤ N ∧ N ≤ 1000000000) (hv : R = ⟨#[87]⟩) (hn2 : 180000000 < N) :
    Calls Tryd.prog 45 #[.string s] w fun e w' => e = .returned (.tuple #[.int .i64 0, .int .i64 0, .int .i64 7]) ∧ Q w w' := by
  have HV := Lib.hid hv
  clear hv
  go_enter Tryd.func45, Tryd.ntmps45
  go_wp2_with fail
  refine (reffigures_any s K _ (by omega) hK).mono ?_
  rintro e w1 ⟨rfl, rfl⟩
  go_upto_region 6 with fail
  have v1 : IntKind.i64.wrap (n1 * 1000000) = N := by rw [hN]; exact IntWalk.i64_in _ (by omega)
  go_quiet (with_reducible exact Calls.quiet_of_same (refnumber_any A n1 _ (by omega) dA nA))
  have QC : Q w1 (w1.drewN nq) := (Q.refl w1).drewN nq
  generalize w1.drewN nq = w2 at *
  have hv := HV.out
  clear HV v1 dA nA hK hN hR
  subst hv
  go_wp2_with fail
  refine (most_any 1 180000000 _ (.inr ⟨by decide, rfl⟩)).mono ?_
  rintro e w9 ⟨rfl, rfl⟩
  go_wp2_with fail
  go_ret3
  exact ⟨rfl, QC⟩

set_option maxRecDepth 100000 in
set_option maxHeartbeats 2000000 in
theorem rr_p_n (s A R : ByteArray) (K : Nat) (n1 : Int) (w : World) (h : s.size ≤ 20) (hK : Hid ((K : Int) = ((s.data.toList.takeWhile isD).length : Int))) (k1 : 1 ≤ K) (k3 : K ≤ 3) (kl : K ≤ s.size) (hA : s.extract 0 K = A) (hR : s.extract K s.size = R) (sA : A.size ≤ 3) (sR : R.size ≤ 20) (dA : Hid (∀ b ∈ A.data.toList, isD b = true)) (nA : Hid (n1 = (val 0 A.data.toList : Nat))) (b1 : 0 ≤ n1 ∧ n1 < 1000) (N : Int) (hN : n1 * 1000000 = N) (bN : 0 ≤ N ∧ N ≤ 1000000000) (hv : R.data.toList ≠ [78] ∧ R.data.toList ≠ [83] ∧ R.data.toList ≠ [69] ∧ R.data.toList ≠ [87]) (hz : R.size = 0 ∨ ∃ z0 : 0 < R.size, (((R[0]'z0).toNat : Int) == 46) = false) :
    Calls Tryd.prog 45 #[.string s] w fun e w' => e = .returned (.tuple #[.int .i64 0, .int .i64 0, .int .i64 6]) ∧ Q w w' := by
  have u1 := not_bytes2 hv.1
  have u2 := not_bytes2 hv.2.1
  have u3 := not_bytes2 hv.2.2.1
  have u4 := not_bytes2 hv.2.2.2
  clear hv
  have HZ := Lib.hid hz
  clear hz
  go_enter Tryd.func45, Tryd.ntmps45
  go_wp2_with fail
  refine (reffigures_any s K _ (by omega) hK).mono ?_
  rintro e w1 ⟨rfl, rfl⟩
  go_upto_region 6 with fail
  have v1 : IntKind.i64.wrap (n1 * 1000000) = N := by rw [hN]; exact IntWalk.i64_in _ (by omega)
  go_quiet (with_reducible exact Calls.quiet_of_same (refnumber_any A n1 _ (by omega) dA nA))
  have QC : Q w1 (w1.drewN nq) := (Q.refl w1).drewN nq
  generalize w1.drewN nq = w2 at *
  rcases HZ.out with hz | ⟨z0, hz⟩
  all_goals
    clear HZ
    go_wp2_with fail
    go_ret3
    exact ⟨rfl, QC⟩

end Go.Proofs.YtjbhnjnlpekpoaaDoor
