/-
  The reference's SinOf, CosOf: they are the program's.
-/
import Derived.Test.YtjbhnjnlpekpoaaDoorRefH
import Derived.Test.YtjbhnjnlpekpoaaDoorEnclA
namespace Go.Proofs.YtjbhnjnlpekpoaaDoor
open Go.RowKit Go.Sort
set_option linter.unusedVariables false

set_option maxRecDepth 100000 in
set_option maxHeartbeats 2000000 in
theorem refSinOf_no (x y : Int) (w : World) (h : (y < x) ∨ (x ≤ y ∧ angB x = false) ∨ (x ≤ y ∧ angB x = true ∧ angB y = false)) :
    Calls Tryd.prog 28 #[encl x y] w fun e w' => e = .returned (.tuple #[encl 0 0, .int .i64 7]) ∧ Q w w' := by
  rcases h with h | ⟨h, h1⟩ | ⟨h, h1, h2⟩
  · skip
    go_enter Tryd.func28, Tryd.ntmps28
    go_upto_region 1 with fail
    have B1 : Has ((w.alloc (.cells #[.int .i64 x, .int .i64 y] 24)).alloc (.cells #[.int .i64 0, .int .i64 0] 24)) w.heap.size x y := (Has.new w x y 24).alloc _
    have B2 : Has ((w.alloc (.cells #[.int .i64 x, .int .i64 y] 24)).alloc (.cells #[.int .i64 0, .int .i64 0] 24)) (w.heap.size + 1) 0 0 := Has.newAt (by simp)
    have QC := ((Q.refl w).alloc (.cells #[.int .i64 x, .int .i64 y] 24)).alloc (.cells #[.int .i64 0, .int .i64 0] 24)
    generalize (w.alloc (.cells #[.int .i64 x, .int .i64 y] 24)).alloc (.cells #[.int .i64 0, .int .i64 0] 24) = W4 at *
    obtain ⟨z1, k10, k11, _, _⟩ := id B1
    obtain ⟨z2, k20, k21, f20, f21⟩ := id B2
    have R := B2.store 0 0
    replace QC := (QC.setCell (p := ⟨w.heap.size + 1, 0, none⟩) (by simp) (.int .i64 0)).setCell (p := ⟨w.heap.size + 1, 1, none⟩) (by simp) (.int .i64 0)
    clear B1 B2
    go_wp2_with fail
    generalize (W4.setCell ⟨w.heap.size + 1, 0, none⟩ (.int .i64 0)).setCell ⟨w.heap.size + 1, 1, none⟩ (.int .i64 0) = v7 at *
    obtain ⟨_, r0, r1, _, _⟩ := R
    exact bodyPost_ret (v := .tuple #[encl 0 0, .int .i64 7]) (by simp [results, Tryd.results28, go_sem, r0, r1]) rfl ⟨rfl, QC⟩
  · have H1 := Lib.hid h1
    clear h1
    go_enter Tryd.func28, Tryd.ntmps28
    go_upto_region 1 with fail
    have B1 : Has ((w.alloc (.cells #[.int .i64 x, .int .i64 y] 24)).alloc (.cells #[.int .i64 0, .int .i64 0] 24)) w.heap.size x y := (Has.new w x y 24).alloc _
    have B2 : Has ((w.alloc (.cells #[.int .i64 x, .int .i64 y] 24)).alloc (.cells #[.int .i64 0, .int .i64 0] 24)) (w.heap.size + 1) 0 0 := Has.newAt (by simp)
    have QC := ((Q.refl w).alloc (.cells #[.int .i64 x, .int .i64 y] 24)).alloc (.cells #[.int .i64 0, .int .i64 0] 24)
    generalize (w.alloc (.cells #[.int .i64 x, .int .i64 y] 24)).alloc (.cells #[.int .i64 0, .int .i64 0] 24) = W4 at *
    obtain ⟨z1, k10, k11, _, _⟩ := id B1
    obtain ⟨z2, k20, k21, f20, f21⟩ := id B2
    go_wp2_with fail
    refine (angled_any x _).mono ?_
    rintro e w5 ⟨rfl, rfl⟩
    rw [H1.out]
    have R := B2.store 0 0
    replace QC := (QC.setCell (p := ⟨w.heap.size + 1, 0, none⟩) (by simp) (.int .i64 0)).setCell (p := ⟨w.heap.size + 1, 1, none⟩) (by simp) (.int .i64 0)
    clear B1 B2
    go_wp2_with fail
    generalize (w5.setCell ⟨w.heap.size + 1, 0, none⟩ (.int .i64 0)).setCell ⟨w.heap.size + 1, 1, none⟩ (.int .i64 0) = v7 at *
    obtain ⟨_, r0, r1, _, _⟩ := R
    exact bodyPost_ret (v := .tuple #[encl 0 0, .int .i64 7]) (by simp [results, Tryd.results28, go_sem, r0, r1]) rfl ⟨rfl, QC⟩
  · have H1 := Lib.hid h1
    have H2 := Lib.hid h2
    clear h1 h2
    go_enter Tryd.func28, Tryd.ntmps28
    go_upto_region 1 with fail
    have B1 : Has ((w.alloc (.cells #[.int .i64 x, .int .i64 y] 24)).alloc (.cells #[.int .i64 0, .int .i64 0] 24)) w.heap.size x y := (Has.new w x y 24).alloc _
    have B2 : Has ((w.alloc (.cells #[.int .i64 x, .int .i64 y] 24)).alloc (.cells #[.int .i64 0, .int .i64 0] 24)) (w.heap.size + 1) 0 0 := Has.newAt (by simp)
    have QC := ((Q.refl w).alloc (.cells #[.int .i64 x, .int .i64 y] 24)).alloc (.cells #[.int .i64 0, .int .i64 0] 24)
    generalize (w.alloc (.cells #[.int .i64 x, .int .i64 y] 24)).alloc (.cells #[.int .i64 0, .int .i64 0] 24) = W4 at *
    obtain ⟨z1, k10, k11, _, _⟩ := id B1
    obtain ⟨z2, k20, k21, f20, f21⟩ := id B2
    go_wp2_with fail
    refine (angled_any x _).mono ?_
    rintro e w5 ⟨rfl, rfl⟩
    rw [H1.out]
    go_wp2_with fail
    refine (angled_any y _).mono ?_
    rintro e w6 ⟨rfl, rfl⟩
    rw [H2.out]
    have R := B2.store 0 0
    replace QC := (QC.setCell (p := ⟨w.heap.size + 1, 0, none⟩) (by simp) (.int .i64 0)).setCell (p := ⟨w.heap.size + 1, 1, none⟩) (by simp) (.int .i64 0)
    clear B1 B2
    go_wp2_with fail
    generalize (w6.setCell ⟨w.heap.size + 1, 0, none⟩ (.int .i64 0)).setCell ⟨w.heap.size + 1, 1, none⟩ (.int .i64 0) = v7 at *
    obtain ⟨_, r0, r1, _, _⟩ := R
    exact bodyPost_ret (v := .tuple #[encl 0 0, .int .i64 7]) (by simp [results, Tryd.results28, go_sem, r0, r1]) rfl ⟨rfl, QC⟩

set_option maxRecDepth 100000 in
set_option maxHeartbeats 2000000 in
theorem refSinOf_yes (x y A B : Int) (w : World) (h : x ≤ y) (b1 : -3600000000 ≤ x) (b2 : y ≤ 3600000000) (hA : Hid (A = allLo (x + 0) (y + 0))) (hB : Hid (B = allHi (x + 0) (y + 0))) :
    Calls Tryd.prog 28 #[encl x y] w fun e w' => e = .returned (.tuple #[encl A B, .int .i64 0]) ∧ Q w w' := by
    have H1 := Lib.hid (angB_yes b1 (show x ≤ 3600000000 by omega))
    have H2 := Lib.hid (angB_yes (show -3600000000 ≤ y by omega) b2)
    have HS := Lib.hid (fun W => sines_walk (x + 0) (y + 0) A B W (by omega) (by omega) (by omega) hA hB)
    rw [Int.add_zero, Int.add_zero] at HS
    go_enter Tryd.func28, Tryd.ntmps28
    go_upto_region 1 with fail
    have B1 : Has ((w.alloc (.cells #[.int .i64 x, .int .i64 y] 24)).alloc (.cells #[.int .i64 0, .int .i64 0] 24)) w.heap.size x y := (Has.new w x y 24).alloc _
    have B2 : Has ((w.alloc (.cells #[.int .i64 x, .int .i64 y] 24)).alloc (.cells #[.int .i64 0, .int .i64 0] 24)) (w.heap.size + 1) 0 0 := Has.newAt (by simp)
    have QC := ((Q.refl w).alloc (.cells #[.int .i64 x, .int .i64 y] 24)).alloc (.cells #[.int .i64 0, .int .i64 0] 24)
    generalize (w.alloc (.cells #[.int .i64 x, .int .i64 y] 24)).alloc (.cells #[.int .i64 0, .int .i64 0] 24) = W4 at *
    obtain ⟨z1, k10, k11, _, _⟩ := id B1
    obtain ⟨z2, k20, k21, f20, f21⟩ := id B2
    go_wp2_with fail
    refine (angled_any x _).mono ?_
    rintro e w5 ⟨rfl, rfl⟩
    rw [H1.out]
    go_wp2_with fail
    refine (angled_any y _).mono ?_
    rintro e w6 ⟨rfl, rfl⟩
    rw [H2.out]
    go_wp2_with fail
    refine (HS.out _).mono ?_
    rintro e w8 ⟨rfl, Q8⟩
    replace B1 := B1.mono Q8
    replace B2 := B2.mono Q8
    replace QC := QC.trans Q8
    clear Q8 HS H1 H2 z1 k10 k11 z2 k20 k21 f20 f21
    obtain ⟨z2, k20, k21, f20, f21⟩ := id B2
    have R := B2.store A B
    replace QC := (QC.setCell (p := ⟨w.heap.size + 1, 0, none⟩) (by simp) (.int .i64 A)).setCell (p := ⟨w.heap.size + 1, 1, none⟩) (by simp) (.int .i64 B)
    clear B1 B2
    go_wp2_with fail
    generalize (w8.setCell ⟨w.heap.size + 1, 0, none⟩ (.int .i64 A)).setCell ⟨w.heap.size + 1, 1, none⟩ (.int .i64 B) = v7 at *
    obtain ⟨_, r0, r1, _, _⟩ := R
    exact bodyPost_ret (v := .tuple #[encl A B, .int .i64 0]) (by simp [results, Tryd.results28, go_sem, r0, r1]) rfl ⟨rfl, QC⟩

theorem refSinOf_any (x y : Int) (w : World) :
    Calls Tryd.prog 28 #[encl x y] w fun e w' => e = .returned (ofOut x y 0) ∧ Q w w' := by
  cases hb : wildB x y 3600000000 with
  | true =>
    rw [of_no x y 0 hb]
    refine refSinOf_no x y w ?_
    by_cases c1 : x ≤ y
    · by_cases c2 : -3600000000 ≤ x ∧ x ≤ 3600000000
      · refine .inr (.inr ⟨c1, angB_yes c2.1 c2.2, angB_no (fun k => ?_)⟩)
        have := (wild2_iff x y 3600000000).2 ⟨c1, c2.1, k.2⟩
        rw [hb] at this; cases this
      · exact .inr (.inl ⟨c1, angB_no c2⟩)
    · exact .inl (by omega)
  | false =>
    rw [of_yes x y 0 hb]
    obtain ⟨c1, c2, c3⟩ := (wild2_iff x y 3600000000).1 hb
    exact refSinOf_yes x y _ _ w c1 c2 c3 rfl rfl

set_option maxRecDepth 100000 in
set_option maxHeartbeats 2000000 in
theorem refCosOf_no (x y : Int) (w : World) (h : (y < x) ∨ (x ≤ y ∧ angB x = false) ∨ (x ≤ y ∧ angB x = true ∧ angB y = false)) :
    Calls Tryd.prog 30 #[encl x y] w fun e w' => e = .returned (.tuple #[encl 0 0, .int .i64 7]) ∧ Q w w' := by
  rcases h with h | ⟨h, h1⟩ | ⟨h, h1, h2⟩
  · skip
    go_enter Tryd.func30, Tryd.ntmps30
    go_upto_region 1 with fail
    have B1 : Has ((w.alloc (.cells #[.int .i64 x, .int .i64 y] 24)).alloc (.cells #[.int .i64 0, .int .i64 0] 24)) w.heap.size x y := (Has.new w x y 24).alloc _
    have B2 : Has ((w.alloc (.cells #[.int .i64 x, .int .i64 y] 24)).alloc (.cells #[.int .i64 0, .int .i64 0] 24)) (w.heap.size + 1) 0 0 := Has.newAt (by simp)
    have QC := ((Q.refl w).alloc (.cells #[.int .i64 x, .int .i64 y] 24)).alloc (.cells #[.int .i64 0, .int .i64 0] 24)
    generalize (w.alloc (.cells #[.int .i64 x, .int .i64 y] 24)).alloc (.cells #[.int .i64 0, .int .i64 0] 24) = W4 at *
    obtain ⟨z1, k10, k11, _, _⟩ := id B1
    obtain ⟨z2, k20, k21, f20, f21⟩ := id B2
    have R := B2.store 0 0
    replace QC := (QC.setCell (p := ⟨w.heap.size + 1, 0, none⟩) (by simp) (.int .i64 0)).setCell (p := ⟨w.heap.size + 1, 1, none⟩) (by simp) (.int .i64 0)
    clear B1 B2
    go_wp2_with fail
    generalize (W4.setCell ⟨w.heap.size + 1, 0, none⟩ (.int .i64 0)).setCell ⟨w.heap.size + 1, 1, none⟩ (.int .i64 0) = v7 at *
    obtain ⟨_, r0, r1, _, _⟩ := R
    exact bodyPost_ret (v := .tuple #[encl 0 0, .int .i64 7]) (by simp [results, Tryd.results30, go_sem, r0, r1]) rfl ⟨rfl, QC⟩
  · have H1 := Lib.hid h1
    clear h1
    go_enter Tryd.func30, Tryd.ntmps30
    go_upto_region 1 with fail
    have B1 : Has ((w.alloc (.cells #[.int .i64 x, .int .i64 y] 24)).alloc (.cells #[.int .i64 0, .int .i64 0] 24)) w.heap.size x y := (Has.new w x y 24).alloc _
    have B2 : Has ((w.alloc (.cells #[.int .i64 x, .int .i64 y] 24)).alloc (.cells #[.int .i64 0, .int .i64 0] 24)) (w.heap.size + 1) 0 0 := Has.newAt (by simp)
    have QC := ((Q.refl w).alloc (.cells #[.int .i64 x, .int .i64 y] 24)).alloc (.cells #[.int .i64 0, .int .i64 0] 24)
    generalize (w.alloc (.cells #[.int .i64 x, .int .i64 y] 24)).alloc (.cells #[.int .i64 0, .int .i64 0] 24) = W4 at *
    obtain ⟨z1, k10, k11, _, _⟩ := id B1
    obtain ⟨z2, k20, k21, f20, f21⟩ := id B2
    go_wp2_with fail
    refine (angled_any x _).mono ?_
    rintro e w5 ⟨rfl, rfl⟩
    rw [H1.out]
    have R := B2.store 0 0
    replace QC := (QC.setCell (p := ⟨w.heap.size + 1, 0, none⟩) (by simp) (.int .i64 0)).setCell (p := ⟨w.heap.size + 1, 1, none⟩) (by simp) (.int .i64 0)
    clear B1 B2
    go_wp2_with fail
    generalize (w5.setCell ⟨w.heap.size + 1, 0, none⟩ (.int .i64 0)).setCell ⟨w.heap.size + 1, 1, none⟩ (.int .i64 0) = v7 at *
    obtain ⟨_, r0, r1, _, _⟩ := R
    exact bodyPost_ret (v := .tuple #[encl 0 0, .int .i64 7]) (by simp [results, Tryd.results30, go_sem, r0, r1]) rfl ⟨rfl, QC⟩
  · have H1 := Lib.hid h1
    have H2 := Lib.hid h2
    clear h1 h2
    go_enter Tryd.func30, Tryd.ntmps30
    go_upto_region 1 with fail
    have B1 : Has ((w.alloc (.cells #[.int .i64 x, .int .i64 y] 24)).alloc (.cells #[.int .i64 0, .int .i64 0] 24)) w.heap.size x y := (Has.new w x y 24).alloc _
    have B2 : Has ((w.alloc (.cells #[.int .i64 x, .int .i64 y] 24)).alloc (.cells #[.int .i64 0, .int .i64 0] 24)) (w.heap.size + 1) 0 0 := Has.newAt (by simp)
    have QC := ((Q.refl w).alloc (.cells #[.int .i64 x, .int .i64 y] 24)).alloc (.cells #[.int .i64 0, .int .i64 0] 24)
    generalize (w.alloc (.cells #[.int .i64 x, .int .i64 y] 24)).alloc (.cells #[.int .i64 0, .int .i64 0] 24) = W4 at *
    obtain ⟨z1, k10, k11, _, _⟩ := id B1
    obtain ⟨z2, k20, k21, f20, f21⟩ := id B2
    go_wp2_with fail
    refine (angled_any x _).mono ?_
    rintro e w5 ⟨rfl, rfl⟩
    rw [H1.out]
    go_wp2_with fail
    refine (angled_any y _).mono ?_
    rintro e w6 ⟨rfl, rfl⟩
    rw [H2.out]
    have R := B2.store 0 0
    replace QC := (QC.setCell (p := ⟨w.heap.size + 1, 0, none⟩) (by simp) (.int .i64 0)).setCell (p := ⟨w.heap.size + 1, 1, none⟩) (by simp) (.int .i64 0)
    clear B1 B2
    go_wp2_with fail
    generalize (w6.setCell ⟨w.heap.size + 1, 0, none⟩ (.int .i64 0)).setCell ⟨w.heap.size + 1, 1, none⟩ (.int .i64 0) = v7 at *
    obtain ⟨_, r0, r1, _, _⟩ := R
    exact bodyPost_ret (v := .tuple #[encl 0 0, .int .i64 7]) (by simp [results, Tryd.results30, go_sem, r0, r1]) rfl ⟨rfl, QC⟩

set_option maxRecDepth 100000 in
set_option maxHeartbeats 2000000 in
theorem refCosOf_yes (x y A B : Int) (w : World) (h : x ≤ y) (b1 : -3600000000 ≤ x) (b2 : y ≤ 3600000000) (hA : Hid (A = allLo (x + 90000000) (y + 90000000))) (hB : Hid (B = allHi (x + 90000000) (y + 90000000))) :
    Calls Tryd.prog 30 #[encl x y] w fun e w' => e = .returned (.tuple #[encl A B, .int .i64 0]) ∧ Q w w' := by
    have H1 := Lib.hid (angB_yes b1 (show x ≤ 3600000000 by omega))
    have H2 := Lib.hid (angB_yes (show -3600000000 ≤ y by omega) b2)
    have HS := Lib.hid (fun W => sines_walk (x + 90000000) (y + 90000000) A B W (by omega) (by omega) (by omega) hA hB)
    skip
    go_enter Tryd.func30, Tryd.ntmps30
    go_upto_region 1 with fail
    have B1 : Has ((w.alloc (.cells #[.int .i64 x, .int .i64 y] 24)).alloc (.cells #[.int .i64 0, .int .i64 0] 24)) w.heap.size x y := (Has.new w x y 24).alloc _
    have B2 : Has ((w.alloc (.cells #[.int .i64 x, .int .i64 y] 24)).alloc (.cells #[.int .i64 0, .int .i64 0] 24)) (w.heap.size + 1) 0 0 := Has.newAt (by simp)
    have QC := ((Q.refl w).alloc (.cells #[.int .i64 x, .int .i64 y] 24)).alloc (.cells #[.int .i64 0, .int .i64 0] 24)
    generalize (w.alloc (.cells #[.int .i64 x, .int .i64 y] 24)).alloc (.cells #[.int .i64 0, .int .i64 0] 24) = W4 at *
    obtain ⟨z1, k10, k11, _, _⟩ := id B1
    obtain ⟨z2, k20, k21, f20, f21⟩ := id B2
    go_wp2_with fail
    refine (angled_any x _).mono ?_
    rintro e w5 ⟨rfl, rfl⟩
    rw [H1.out]
    go_wp2_with fail
    refine (angled_any y _).mono ?_
    rintro e w6 ⟨rfl, rfl⟩
    rw [H2.out]
    go_wp2_with fail
    refine (HS.out _).mono ?_
    rintro e w8 ⟨rfl, Q8⟩
    replace B1 := B1.mono Q8
    replace B2 := B2.mono Q8
    replace QC := QC.trans Q8
    clear Q8 HS H1 H2 z1 k10 k11 z2 k20 k21 f20 f21
    obtain ⟨z2, k20, k21, f20, f21⟩ := id B2
    have R := B2.store A B
    replace QC := (QC.setCell (p := ⟨w.heap.size + 1, 0, none⟩) (by simp) (.int .i64 A)).setCell (p := ⟨w.heap.size + 1, 1, none⟩) (by simp) (.int .i64 B)
    clear B1 B2
    go_wp2_with fail
    generalize (w8.setCell ⟨w.heap.size + 1, 0, none⟩ (.int .i64 A)).setCell ⟨w.heap.size + 1, 1, none⟩ (.int .i64 B) = v7 at *
    obtain ⟨_, r0, r1, _, _⟩ := R
    exact bodyPost_ret (v := .tuple #[encl A B, .int .i64 0]) (by simp [results, Tryd.results30, go_sem, r0, r1]) rfl ⟨rfl, QC⟩

theorem refCosOf_any (x y : Int) (w : World) :
    Calls Tryd.prog 30 #[encl x y] w fun e w' => e = .returned (ofOut x y 90000000) ∧ Q w w' := by
  cases hb : wildB x y 3600000000 with
  | true =>
    rw [of_no x y 90000000 hb]
    refine refCosOf_no x y w ?_
    by_cases c1 : x ≤ y
    · by_cases c2 : -3600000000 ≤ x ∧ x ≤ 3600000000
      · refine .inr (.inr ⟨c1, angB_yes c2.1 c2.2, angB_no (fun k => ?_)⟩)
        have := (wild2_iff x y 3600000000).2 ⟨c1, c2.1, k.2⟩
        rw [hb] at this; cases this
      · exact .inr (.inl ⟨c1, angB_no c2⟩)
    · exact .inl (by omega)
  | false =>
    rw [of_yes x y 90000000 hb]
    obtain ⟨c1, c2, c3⟩ := (wild2_iff x y 3600000000).1 hb
    exact refCosOf_yes x y _ _ w c1 c2 c3 rfl rfl

end Go.Proofs.YtjbhnjnlpekpoaaDoor
