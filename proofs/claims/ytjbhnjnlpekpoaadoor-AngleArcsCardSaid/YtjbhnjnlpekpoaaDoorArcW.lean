/-
  The document's arc cosine and arc sine: they are the program's.
-/
import Derived.Test.YtjbhnjnlpekpoaaDoorRefG
import Derived.Test.YtjbhnjnlpekpoaaDoorBackA
import Derived.Test.YtjbhnjnlpekpoaaDoorArcP
import Derived.Deep.RegionHeld3
import Derived.Deep.DeepCutAuto
namespace Go.Proofs.YtjbhnjnlpekpoaaDoor
open Go.RowKit Go.Sort Trig
set_option linter.unusedVariables false

def AInv (w : World) (v : Int) (a b : Value) (wr : World) : Prop :=
  ∃ l h : Nat, a = .int .i64 l ∧ b = .int .i64 h ∧ l < h ∧ h ≤ 180000001 ∧ Hid (v ≤ cosLo l) ∧ Hid (h = 180000001 ∨ cosLo h < v) ∧ Has wr w.heap.size 0 0 ∧ Q w wr

theorem low_found {v : Int} {l : Nat} (hl : l ≤ 180000000) (h1 : v ≤ cosLo l) (h2 : l + 1 = 180000001 ∨ cosLo (l + 1) < v) : acLow v = l + 1 := by
  refine (acLow_cut v).unique ⟨by omega, fun t ht => ?_, fun t t1 t2 => ?_⟩
  · rw [pLow_iff, decide_eq_false_iff_not]
    have := (cos_anti (a := t) (b := l) (by omega) (by omega)).1
    unfold cosLo at *
    omega
  · rcases h2 with h2 | h2
    · omega
    · exact pLow_mono v (l + 1) t t1 t2 (by rw [pLow_iff, decide_eq_true_iff]; exact h2)

theorem cosLo_mid (m : Nat) : sineLo ((m : Int) + 90000000) = cosLo m := rfl
theorem cosHi_mid (m : Nat) : sineHi ((m : Int) + 90000000) = cosHi m := rfl

attribute [local irreducible] cosLo cosHi

set_option maxRecDepth 100000 in
set_option maxHeartbeats 2000000 in
theorem refarccos_any (v A B : Int) (w : World) (h1 : -100000000 ≤ v ∧ v ≤ 100000000) (hA : Hid (A = (acLow v : Int) - 1)) (hB : Hid (B = (acHigh v : Int))) :
    Calls Tryd.prog 69 #[.int .i64 v] w fun e w' => e = .returned (encl A B) ∧ Q w w' := by
  have c0 : v ≤ cosLo 0 := by
    have : cosLo 0 = 100000000 := by decide +kernel
    omega
  have C0 := Lib.hid c0
  have CA : ∀ (m : Nat) (W : World), m ≤ 180000000 → Calls Tryd.prog 55 #[.int .i64 ((m : Int) + 90000000)] W fun e w' => e = .returned (encl (cosLo m) (cosHi m)) ∧ Q W w' := fun m W hm => by
    rw [← cosLo_mid, ← cosHi_mid]
    exact refsine_any ((m : Int) + 90000000) W (by omega) (by omega)
  have CS := Lib.hid CA
  clear c0 CA
  have f0 := field_lo
  have f1 := field_hi
  go_enter Tryd.func69, Tryd.ntmps69
  go_wp2_with fail
  go_loopw [3, 4] (fun a b wr => AInv w v a b wr) (fun a b _ => (intOf b).toNat - (intOf a).toNat)
  case atStart => exact ⟨0, 180000001, rfl, rfl, by omega, by omega, C0, .inl rfl, Has.new w 0 0 _, (Q.refl w).alloc _⟩
  case round =>
    obtain ⟨l, h, rfl, rfl, hlt, hh, K1, K2, B2, Q1⟩ := hrel
    by_cases hd : (1 : Int) < (h : Int) - l
    · obtain ⟨m, hm⟩ : ∃ m : Nat, m = (l + h) / 2 := ⟨_, rfl⟩
      have hm' : ((l : Int) + (h : Int)) / 2 = (m : Int) := by omega
      have m1 : l < m := by omega
      have m2 : m < h := by omega
      have m3 : (m : Int) ≤ 180000000 := by omega
      clear hm
      go_wp2_with fail
      refine (CS.out m _ (by omega)).mono ?_
      rintro e w3 ⟨rfl, Q3⟩
      by_cases c : v ≤ cosLo m
      · have HC := Lib.hid c
        go_wp2_with fail
        go_roundw
        case rel => exact ⟨m, h, rfl, rfl, m2, hh, HC, K2, B2.mono Q3, Q1.trans Q3⟩
        case measure => simp [intOf]; omega
      · have HC := Lib.hid (show m = 180000001 ∨ cosLo m < v from .inr (by omega))
        go_wp2_with fail
        go_roundw
        case rel => exact ⟨l, m, rfl, rfl, m1, by omega, K1, HC, B2.mono Q3, Q1.trans Q3⟩
        case measure => simp [intOf]; omega
    · obtain rfl : h = l + 1 := by omega
      have e1 := low_found (by omega) K1.out (by rcases K2.out with k | k; · exact .inl k
                                                 · exact .inr k)
      have e2 := ac_ref v h1.1 h1.2
      rw [e1, Nat.add_sub_cancel] at e2
      have ea : A = (l : Int) := by rw [hA.out, e1]; omega
      have HE := Lib.hid e2
      have HA := Lib.hid ea
      have hl : (l : Int) ≤ 180000000 := by omega
      clear e1 e2 ea K1 K2 hA hd
      go_wp2_with fail
      refine (CS.out l _ (by omega)).mono ?_
      rintro e w3 ⟨rfl, Q3⟩
      replace B2 := B2.mono Q3
      have QC := Q1.trans Q3
      clear Q1 Q3
      obtain ⟨z2, k20, k21, f20, f21⟩ := id B2
      by_cases c : cosHi l ≤ v
      · have eb : B = (l : Int) := by rw [hB.out, HE.out, if_pos c]; omega
        have HB := Lib.hid eb
        clear eb hB HE
        obtain ⟨V, hV, HV, QV⟩ := ret_first B2 QC (l : Int) (l : Int)
        have HVV := Lib.hid hV
        clear hV B2 QC
        go_wp2_with fail
        rw [← HVV.out]
        obtain ⟨_, r0, r1, _, _⟩ := HV
        exact bodyPost_ret (v := encl (l : Int) (l : Int)) (by simp [results, Tryd.results69, go_sem, r0, r1]) rfl ⟨by rw [HA.out, HB.out], QV⟩
      · have eb : B = (l : Int) + 1 := by rw [hB.out, HE.out, if_neg c]; omega
        have HB := Lib.hid eb
        clear eb hB HE
        obtain ⟨V, hV, HV, QV⟩ := ret_first B2 QC (l : Int) ((l : Int) + 1)
        have HVV := Lib.hid hV
        clear hV B2 QC
        go_wp2_with fail
        rw [← HVV.out]
        obtain ⟨_, r0, r1, _, _⟩ := HV
        exact bodyPost_ret (v := encl (l : Int) ((l : Int) + 1)) (by simp [results, Tryd.results69, go_sem, r0, r1]) rfl ⟨by rw [HA.out, HB.out], QV⟩

abbrev arcRes (x y A B er : Int) : Prop := (wildB x y 100000000 = true ∧ A = 0 ∧ B = 0 ∧ er = 7) ∨ (wildB x y 100000000 = false ∧ A = (acLow y : Int) - 1 ∧ B = (acHigh x : Int) ∧ er = 0)
abbrev asnRes (x y A B er : Int) : Prop := (wildB x y 100000000 = true ∧ A = 0 ∧ B = 0 ∧ er = 7) ∨ (wildB x y 100000000 = false ∧ A = 90000000 - (acHigh x : Int) ∧ B = 90000000 - ((acLow y : Int) - 1) ∧ er = 0)
theorem arcRes_ex (x y : Int) : ∃ A B er, arcRes x y A B er := by
  cases h : wildB x y 100000000 with
  | true => exact ⟨0, 0, 7, .inl ⟨h, rfl, rfl, rfl⟩⟩
  | false => exact ⟨_, _, 0, .inr ⟨h, rfl, rfl, rfl⟩⟩
theorem asnRes_ex (x y : Int) : ∃ A B er, asnRes x y A B er := by
  cases h : wildB x y 100000000 with
  | true => exact ⟨0, 0, 7, .inl ⟨h, rfl, rfl, rfl⟩⟩
  | false => exact ⟨_, _, 0, .inr ⟨h, rfl, rfl, rfl⟩⟩

theorem wild8_is {x y : Int} (h : wildB x y 100000000 = false) : x ≤ y ∧ -100000000 ≤ x ∧ y ≤ 100000000 := by
  unfold wildB at h
  simp only [Bool.or_eq_false_iff, decide_eq_false_iff_not] at h
  omega
theorem wild8_isnt {x y : Int} (h : wildB x y 100000000 = true) : y < x ∨ (¬ y < x ∧ x < -100000000) ∨ (¬ y < x ∧ ¬ x < -100000000 ∧ 100000000 < y) := by
  unfold wildB at h
  simp only [Bool.or_eq_true, decide_eq_true_eq] at h
  omega

theorem Arccos_any (x y A B er : Int) (w : World) (h1 : -9223372036854775808 ≤ x ∧ x ≤ 9223372036854775807) (h2 : -9223372036854775808 ≤ y ∧ y ≤ 9223372036854775807) (hr : arcRes x y A B er) :
    Calls Tryd.prog 22 #[encl x y] w fun e w' => e = .returned (.tuple #[encl A B, .int .i64 er]) ∧ Q w w' := by
  rcases hr with ⟨h, rfl, rfl, rfl⟩ | ⟨h, rfl, rfl, rfl⟩
  · exact Arccos_no x y w h h1 h2
  · exact Arccos_yes x y w h h1 h2

set_option maxRecDepth 100000 in
set_option maxHeartbeats 2000000 in
theorem Arcsin_no (x y : Int) (w : World) (h : Hid (wildB x y 100000000 = true)) (h1 : -9223372036854775808 ≤ x ∧ x ≤ 9223372036854775807) (h2 : -9223372036854775808 ≤ y ∧ y ≤ 9223372036854775807) :
    Calls Tryd.prog 23 #[encl x y] w fun e w' => e = .returned (.tuple #[encl 0 0, .int .i64 7]) ∧ Q w w' := by
  go_enter Tryd.func23, Tryd.ntmps23
  go_wp2_with fail
  refine (Arccos_no x y _ h (by omega) (by omega)).mono ?_
  rintro e w1 ⟨rfl, Q1⟩
  have z1 : w.heap.size + 1 < w1.heap.size := by have := Q1.size; simp at this; omega
  obtain ⟨o1, o2, o3⟩ := Q1.old
  have Q2 := Q.trans (((Q.refl w).alloc _).alloc _) Q1
  clear Q1 h
  go_wp2_with fail
  exact bodyPost_ret (v := .tuple #[encl 0 0, .int .i64 7]) (by simp [results, Tryd.results23, go_sem, o1, z1]) rfl ⟨rfl, by repeat (first | assumption | apply Q.alloc | (refine Q.setCell ?_ (by simp) _))⟩

theorem Arcsin_any (x y A B er : Int) (w : World) (h1 : -9223372036854775808 ≤ x ∧ x ≤ 9223372036854775807) (h2 : -9223372036854775808 ≤ y ∧ y ≤ 9223372036854775807) (hr : asnRes x y A B er) :
    Calls Tryd.prog 23 #[encl x y] w fun e w' => e = .returned (.tuple #[encl A B, .int .i64 er]) ∧ Q w w' := by
  rcases hr with ⟨h, rfl, rfl, rfl⟩ | ⟨h, rfl, rfl, rfl⟩
  · exact Arcsin_no x y w h h1 h2
  · have k := wild8_is h
    exact arcsin_yes x y w h (by omega) (by omega)

set_option maxRecDepth 100000 in
set_option maxHeartbeats 2000000 in
theorem refArccos_no (x y : Int) (w : World) (h : y < x ∨ (¬ y < x ∧ x < -100000000) ∨ (¬ y < x ∧ ¬ x < -100000000 ∧ 100000000 < y)) :
    Calls Tryd.prog 41 #[encl x y] w fun e w' => e = .returned (.tuple #[encl 0 0, .int .i64 7]) ∧ Q w w' := by
  have H := Lib.hid h
  clear h
  go_enter Tryd.func41, Tryd.ntmps41
  go_upto_region 1 with fail
  have B1 : Has ((w.alloc (.cells #[.int .i64 x, .int .i64 y] 24)).alloc (.cells #[.int .i64 0, .int .i64 0] 24)) w.heap.size x y := (Has.new w x y 24).alloc _
  have B2 : Has ((w.alloc (.cells #[.int .i64 x, .int .i64 y] 24)).alloc (.cells #[.int .i64 0, .int .i64 0] 24)) (w.heap.size + 1) 0 0 := Has.newAt (by simp)
  have QC := ((Q.refl w).alloc (.cells #[.int .i64 x, .int .i64 y] 24)).alloc (.cells #[.int .i64 0, .int .i64 0] 24)
  generalize (w.alloc (.cells #[.int .i64 x, .int .i64 y] 24)).alloc (.cells #[.int .i64 0, .int .i64 0] 24) = W4 at *
  obtain ⟨z1, k10, k11, f10, f11⟩ := id B1
  obtain ⟨z2, k20, k21, f20, f21⟩ := id B2
  have R := B2.store 0 0
  replace QC := (QC.setCell (p := ⟨w.heap.size + 1, 0, none⟩) (by simp) (.int .i64 0)).setCell (p := ⟨w.heap.size + 1, 1, none⟩) (by simp) (.int .i64 0)
  rcases H.out with h | ⟨h1, h2⟩ | ⟨h1, h2, h3⟩
  all_goals
    clear H B1 B2
    go_wp2_with fail
    generalize (W4.setCell ⟨w.heap.size + 1, 0, none⟩ (.int .i64 0)).setCell ⟨w.heap.size + 1, 1, none⟩ (.int .i64 0) = w7 at *
    obtain ⟨_, r0, r1, _, _⟩ := R
    exact bodyPost_ret (v := .tuple #[encl 0 0, .int .i64 7]) (by simp [results, Tryd.results41, go_sem, r0, r1]) rfl ⟨rfl, QC⟩

set_option maxRecDepth 100000 in
set_option maxHeartbeats 4000000 in
theorem refArccos_yes (x y a0 a1 b0 b1 : Int) (w : World) (hx : x ≤ y ∧ -100000000 ≤ x ∧ y ≤ 100000000)
    (CY : FC 69 #[.int .i64 y] (encl a0 a1)) (CX : FC 69 #[.int .i64 x] (encl b0 b1)) :
    Calls Tryd.prog 41 #[encl x y] w fun e w' => e = .returned (.tuple #[encl a0 b1, .int .i64 0]) ∧ Q w w' := by
  go_enter Tryd.func41, Tryd.ntmps41
  go_upto_region 1 with fail
  have B1 : Has ((w.alloc (.cells #[.int .i64 x, .int .i64 y] 24)).alloc (.cells #[.int .i64 0, .int .i64 0] 24)) w.heap.size x y := (Has.new w x y 24).alloc _
  have B2 : Has ((w.alloc (.cells #[.int .i64 x, .int .i64 y] 24)).alloc (.cells #[.int .i64 0, .int .i64 0] 24)) (w.heap.size + 1) 0 0 := Has.newAt (by simp)
  have QC := ((Q.refl w).alloc (.cells #[.int .i64 x, .int .i64 y] 24)).alloc (.cells #[.int .i64 0, .int .i64 0] 24)
  generalize (w.alloc (.cells #[.int .i64 x, .int .i64 y] 24)).alloc (.cells #[.int .i64 0, .int .i64 0] 24) = W4 at *
  obtain ⟨z1, k10, k11, f10, f11⟩ := id B1
  have i1 : ¬ y < x := by omega
  have i2 : ¬ x < -100000000 := by omega
  have i3 : ¬ 100000000 < y := by omega
  go_upto_region 3 with fail
  clear i1 i2 i3 z1 k10 k11 f10 f11
  have f0 := field_lo
  have f1 := field_hi
  obtain ⟨z1, k10, k11, f10, f11⟩ := id B1
  obtain ⟨z2, k20, k21, f20, f21⟩ := id B2
  go_region_with (first
      | (go_at_call_of 69 y; refine (CY.out _).mono ?_; rintro e wa ⟨rfl, Qa1⟩; have Qb1 := Q.trans (a := W4) (by repeat (first | assumption | exact Q.refl _ | apply Q.alloc | apply Q.drew)) Qa1; obtain ⟨za1, ka10, ka11, _, _⟩ := B1.mono Qb1; obtain ⟨zb1, kb10, kb11, fb10, fb11⟩ := B2.mono Qb1; clear Qa1)
      | (go_at_call_of 69 x; refine (CX.out _).mono ?_; rintro e wb ⟨rfl, Qa2⟩; have Qb2 := Q.trans (a := W4) (by repeat (first | assumption | exact Q.refl _ | apply Q.alloc | apply Q.drew)) Qa2; obtain ⟨za2, ka20, ka21, _, _⟩ := B1.mono Qb2; obtain ⟨zb2, kb20, kb21, fb20, fb21⟩ := B2.mono Qb2; clear Qa2))
  all_goals
    clear B1 B2 CX CY z1 k10 k11 f10 f11 z2 k20 k21 f20 f21
    go_wp2_with fail
    refine bodyPost_ret (v := .tuple #[encl a0 b1, .int .i64 0]) (by simp [results, Tryd.results41, go_sem, *]) rfl ⟨rfl, ?_⟩
    repeat (first | exact QC.trans Qb2 | exact QC.trans Qb1 | with_reducible apply Q.drew | with_reducible (refine Q.setCell ?_ (by simp) _))

theorem refArccos_any (x y A B er : Int) (w : World) (hr : arcRes x y A B er) :
    Calls Tryd.prog 41 #[encl x y] w fun e w' => e = .returned (.tuple #[encl A B, .int .i64 er]) ∧ Q w w' := by
  rcases hr with ⟨h, rfl, rfl, rfl⟩ | ⟨h, rfl, rfl, rfl⟩
  · exact refArccos_no x y w (wild8_isnt h)
  · have k := wild8_is h
    exact refArccos_yes x y _ _ _ _ w k (fun W => refarccos_any y _ _ W (by omega) rfl rfl) (fun W => refarccos_any x _ _ W (by omega) rfl rfl)

theorem acLow_bd (v : Int) : 0 ≤ (acLow v : Int) ∧ (acLow v : Int) ≤ 180000001 := by
  have := (acLow_cut v).1
  omega
theorem acHigh_bd (v : Int) : 0 ≤ (acHigh v : Int) ∧ (acHigh v : Int) ≤ 180000000 := by
  have := (acHigh_cut v).1
  omega

set_option maxRecDepth 100000 in
set_option maxHeartbeats 2000000 in
theorem refArcsin_in (x y A B er p q : Int) (w : World) (ha : -1 ≤ A ∧ A ≤ 180000000) (hb : -1 ≤ B ∧ B ≤ 180000000) (CA : FC 41 #[encl x y] (.tuple #[encl A B, .int .i64 er]))
    (hr : (er = 7 ∧ p = 0 ∧ q = 0) ∨ (er = 0 ∧ p = 90000000 - B ∧ q = 90000000 - A)) :
    Calls Tryd.prog 42 #[encl x y] w fun e w' => e = .returned (.tuple #[encl p q, .int .i64 er]) ∧ Q w w' := by
  have HR := Lib.hid hr
  clear hr
  go_enter Tryd.func42, Tryd.ntmps42
  go_wp2_with fail
  refine (CA.out _).mono ?_
  rintro e w1 ⟨rfl, Q1⟩
  have z1 : w.heap.size + 1 < w1.heap.size := by have := Q1.size; simp at this; omega
  obtain ⟨o1, o2, o3⟩ := Q1.old
  have Q2 := Q.trans (((Q.refl w).alloc _).alloc _) Q1
  clear Q1 CA
  rcases HR.out with ⟨rfl, rfl, rfl⟩ | ⟨rfl, rfl, rfl⟩
  all_goals
    clear HR
    go_wp2_with fail
  · exact bodyPost_ret (v := .tuple #[encl 0 0, .int .i64 7]) (by simp [results, Tryd.results42, go_sem, o1, z1]) rfl ⟨rfl, by repeat (first | assumption | apply Q.alloc | (refine Q.setCell ?_ (by simp) _))⟩
  · exact bodyPost_ret (v := .tuple #[encl (90000000 - B) (90000000 - A), .int .i64 0]) (by simp [results, Tryd.results42, go_sem, o1, z1]) rfl ⟨rfl, by repeat (first | assumption | apply Q.alloc | (refine Q.setCell ?_ (by simp) _))⟩

theorem refArcsin_any (x y A B er : Int) (w : World) (hr : asnRes x y A B er) :
    Calls Tryd.prog 42 #[encl x y] w fun e w' => e = .returned (.tuple #[encl A B, .int .i64 er]) ∧ Q w w' := by
  have b1 := acLow_bd y
  have b2 := acHigh_bd x
  rcases hr with ⟨h, rfl, rfl, rfl⟩ | ⟨h, rfl, rfl, rfl⟩
  · exact refArcsin_in x y 0 0 7 0 0 w (by omega) (by omega) (fun W => refArccos_any x y 0 0 7 W (.inl ⟨h, rfl, rfl, rfl⟩)) (.inl ⟨rfl, rfl, rfl⟩)
  · exact refArcsin_in x y ((acLow y : Int) - 1) (acHigh x : Int) 0 _ _ w (by omega) (by omega) (fun W => refArccos_any x y _ _ 0 W (.inr ⟨h, rfl, rfl, rfl⟩)) (.inr ⟨rfl, rfl, rfl⟩)

end Go.Proofs.YtjbhnjnlpekpoaaDoor
