/-
  The document's sums and differences.
-/
import Derived.Test.YtjbhnjnlpekpoaaDoorArP
import Derived.Test.YtjbhnjnlpekpoaaDoorRefDown
namespace Go.Proofs.YtjbhnjnlpekpoaaDoor
open Go.RowKit Go.Sort
set_option linter.unusedVariables false

theorem vBad_notV (x0 x1 y0 y1 : Int) : vBad [(x0, x1), (y0, y1)] = true ↔ notV x0 x1 y0 y1 := by
  rw [vBad_two]
  unfold notV
  cases wildB x0 x1 3000000000 <;> cases wildB y0 y1 3000000000 <;> simp
theorem vBad_no {x0 x1 y0 y1 : Int} (h : vBad [(x0, x1), (y0, y1)] = false) : wildB x0 x1 3000000000 = false ∧ wildB y0 y1 3000000000 = false ∧ (-3000000000 ≤ x0 ∧ x1 ≤ 3000000000 ∧ x0 ≤ x1) ∧ (-3000000000 ≤ y0 ∧ y1 ≤ 3000000000 ∧ y0 ≤ y1) := by
  rw [vBad_two, Bool.or_eq_false_iff] at h
  have a := wild_is h.1
  have b := wild_is h.2
  exact ⟨h.1, h.2, by omega, by omega⟩

set_option maxRecDepth 100000 in
set_option maxHeartbeats 2000000 in
theorem refPlus_no (x0 x1 y0 y1 : Int) (w : World) (h : vBad [(x0, x1), (y0, y1)] = true) :
    Calls Tryd.prog 35 #[encl x0 x1, encl y0 y1] w fun e w' => e = .returned (.tuple #[encl 0 0, .int .i64 7]) ∧ Q w w' := by
  have he : (7 : Int) = if vBad [(x0, x1), (y0, y1)] then 7 else 0 := by rw [h]; rfl
  have HE := Lib.hid he
  clear h he
  go_enter Tryd.func35, Tryd.ntmps35
  go_upto_region 1 with fail
  generalize hW : ((w.alloc (Obj.cells #[Value.int IntKind.i64 x0, Value.int IntKind.i64 x1] 24)).alloc (Obj.cells #[Value.int IntKind.i64 y0, Value.int IntKind.i64 y1] 24)).alloc (Obj.cells #[Value.int IntKind.i64 0, Value.int IntKind.i64 0] 24) = W
  have B2 : Has W w.heap.size x0 x1 := by subst hW; exact ((Has.new w x0 x1 _).alloc _).alloc _
  have B3 : Has W (w.heap.size + 1) y0 y1 := by subst hW; exact (Has.newAt (by simp)).alloc _
  have B4 : Has W (w.heap.size + 1 + 1) 0 0 := by subst hW; exact Has.newAt (by simp)
  have QC : Q w W := by subst hW; exact (((Q.refl w).alloc _).alloc _).alloc _
  clear hW
  obtain ⟨z2, k20, k21, f20, f21⟩ := id B2
  obtain ⟨z3, k30, k31, f30, f31⟩ := id B3
  go_wp2_with fail
  refine (valued_any [(x0, x1), (y0, y1)] W.heap.size _ 7 (by simp) (Pairs.new2At rfl) HE).mono ?_
  rintro e w1 ⟨rfl, Q1⟩
  replace Q1 := ((Q.refl W).alloc _).trans Q1
  replace B4 := B4.mono Q1
  replace QC := QC.trans Q1
  clear Q1 z2 k20 k21 f20 f21 z3 k30 k31 f30 f31 B2 B3
  generalize W.heap.size = gs at *
  have S4 := B4.store 0 0
  have QS := (QC.setCell (p := ⟨w.heap.size + 1 + 1, 0, none⟩) (by dsimp only; omega) (.int .i64 0)).setCell (p := ⟨w.heap.size + 1 + 1, 1, none⟩) (by dsimp only; omega) (.int .i64 0)
  obtain ⟨z4, k40, k41, f40, f41⟩ := id B4
  obtain ⟨_, s40, s41, _, _⟩ := S4
  go_wp2_with fail
  exact bodyPost_ret (v := .tuple #[encl 0 0, .int .i64 7]) (by simp [results, Tryd.results35, go_sem, s40, s41]) rfl ⟨rfl, QS⟩

set_option maxRecDepth 100000 in
set_option maxHeartbeats 2000000 in
theorem refMinus_no (x0 x1 y0 y1 : Int) (w : World) (h : vBad [(x0, x1), (y0, y1)] = true) :
    Calls Tryd.prog 37 #[encl x0 x1, encl y0 y1] w fun e w' => e = .returned (.tuple #[encl 0 0, .int .i64 7]) ∧ Q w w' := by
  have he : (7 : Int) = if vBad [(x0, x1), (y0, y1)] then 7 else 0 := by rw [h]; rfl
  have HE := Lib.hid he
  clear h he
  go_enter Tryd.func37, Tryd.ntmps37
  go_upto_region 1 with fail
  generalize hW : ((w.alloc (Obj.cells #[Value.int IntKind.i64 x0, Value.int IntKind.i64 x1] 24)).alloc (Obj.cells #[Value.int IntKind.i64 y0, Value.int IntKind.i64 y1] 24)).alloc (Obj.cells #[Value.int IntKind.i64 0, Value.int IntKind.i64 0] 24) = W
  have B2 : Has W w.heap.size x0 x1 := by subst hW; exact ((Has.new w x0 x1 _).alloc _).alloc _
  have B3 : Has W (w.heap.size + 1) y0 y1 := by subst hW; exact (Has.newAt (by simp)).alloc _
  have B4 : Has W (w.heap.size + 1 + 1) 0 0 := by subst hW; exact Has.newAt (by simp)
  have QC : Q w W := by subst hW; exact (((Q.refl w).alloc _).alloc _).alloc _
  clear hW
  obtain ⟨z2, k20, k21, f20, f21⟩ := id B2
  obtain ⟨z3, k30, k31, f30, f31⟩ := id B3
  go_wp2_with fail
  refine (valued_any [(x0, x1), (y0, y1)] W.heap.size _ 7 (by simp) (Pairs.new2At rfl) HE).mono ?_
  rintro e w1 ⟨rfl, Q1⟩
  replace Q1 := ((Q.refl W).alloc _).trans Q1
  replace B4 := B4.mono Q1
  replace QC := QC.trans Q1
  clear Q1 z2 k20 k21 f20 f21 z3 k30 k31 f30 f31 B2 B3
  generalize W.heap.size = gs at *
  have S4 := B4.store 0 0
  have QS := (QC.setCell (p := ⟨w.heap.size + 1 + 1, 0, none⟩) (by dsimp only; omega) (.int .i64 0)).setCell (p := ⟨w.heap.size + 1 + 1, 1, none⟩) (by dsimp only; omega) (.int .i64 0)
  obtain ⟨z4, k40, k41, f40, f41⟩ := id B4
  obtain ⟨_, s40, s41, _, _⟩ := S4
  go_wp2_with fail
  exact bodyPost_ret (v := .tuple #[encl 0 0, .int .i64 7]) (by simp [results, Tryd.results37, go_sem, s40, s41]) rfl ⟨rfl, QS⟩

set_option maxRecDepth 100000 in
set_option maxHeartbeats 2000000 in
theorem refTimes_no (x0 x1 y0 y1 : Int) (w : World) (h : vBad [(x0, x1), (y0, y1)] = true) :
    Calls Tryd.prog 38 #[encl x0 x1, encl y0 y1] w fun e w' => e = .returned (.tuple #[encl 0 0, .int .i64 7]) ∧ Q w w' := by
  have he : (7 : Int) = if vBad [(x0, x1), (y0, y1)] then 7 else 0 := by rw [h]; rfl
  have HE := Lib.hid he
  clear h he
  go_enter Tryd.func38, Tryd.ntmps38
  go_upto_region 1 with fail
  generalize hW : ((w.alloc (Obj.cells #[Value.int IntKind.i64 x0, Value.int IntKind.i64 x1] 24)).alloc (Obj.cells #[Value.int IntKind.i64 y0, Value.int IntKind.i64 y1] 24)).alloc (Obj.cells #[Value.int IntKind.i64 0, Value.int IntKind.i64 0] 24) = W
  have B2 : Has W w.heap.size x0 x1 := by subst hW; exact ((Has.new w x0 x1 _).alloc _).alloc _
  have B3 : Has W (w.heap.size + 1) y0 y1 := by subst hW; exact (Has.newAt (by simp)).alloc _
  have B4 : Has W (w.heap.size + 1 + 1) 0 0 := by subst hW; exact Has.newAt (by simp)
  have QC : Q w W := by subst hW; exact (((Q.refl w).alloc _).alloc _).alloc _
  clear hW
  obtain ⟨z2, k20, k21, f20, f21⟩ := id B2
  obtain ⟨z3, k30, k31, f30, f31⟩ := id B3
  go_wp2_with fail
  refine (valued_any [(x0, x1), (y0, y1)] W.heap.size _ 7 (by simp) (Pairs.new2At rfl) HE).mono ?_
  rintro e w1 ⟨rfl, Q1⟩
  replace Q1 := ((Q.refl W).alloc _).trans Q1
  replace B4 := B4.mono Q1
  replace QC := QC.trans Q1
  clear Q1 z2 k20 k21 f20 f21 z3 k30 k31 f30 f31 B2 B3
  generalize W.heap.size = gs at *
  have S4 := B4.store 0 0
  have QS := (QC.setCell (p := ⟨w.heap.size + 1 + 1, 0, none⟩) (by dsimp only; omega) (.int .i64 0)).setCell (p := ⟨w.heap.size + 1 + 1, 1, none⟩) (by dsimp only; omega) (.int .i64 0)
  obtain ⟨z4, k40, k41, f40, f41⟩ := id B4
  obtain ⟨_, s40, s41, _, _⟩ := S4
  go_wp2_with fail
  exact bodyPost_ret (v := .tuple #[encl 0 0, .int .i64 7]) (by simp [results, Tryd.results38, go_sem, s40, s41]) rfl ⟨rfl, QS⟩

set_option maxRecDepth 100000 in
set_option maxHeartbeats 2000000 in
theorem refOver_no (x0 x1 y0 y1 : Int) (w : World) (h : vBad [(x0, x1), (y0, y1)] = true) :
    Calls Tryd.prog 39 #[encl x0 x1, encl y0 y1] w fun e w' => e = .returned (.tuple #[encl 0 0, .int .i64 7]) ∧ Q w w' := by
  have he : (7 : Int) = if vBad [(x0, x1), (y0, y1)] then 7 else 0 := by rw [h]; rfl
  have HE := Lib.hid he
  clear h he
  go_enter Tryd.func39, Tryd.ntmps39
  go_upto_region 1 with fail
  generalize hW : ((w.alloc (Obj.cells #[Value.int IntKind.i64 x0, Value.int IntKind.i64 x1] 24)).alloc (Obj.cells #[Value.int IntKind.i64 y0, Value.int IntKind.i64 y1] 24)).alloc (Obj.cells #[Value.int IntKind.i64 0, Value.int IntKind.i64 0] 24) = W
  have B2 : Has W w.heap.size x0 x1 := by subst hW; exact ((Has.new w x0 x1 _).alloc _).alloc _
  have B3 : Has W (w.heap.size + 1) y0 y1 := by subst hW; exact (Has.newAt (by simp)).alloc _
  have B4 : Has W (w.heap.size + 1 + 1) 0 0 := by subst hW; exact Has.newAt (by simp)
  have QC : Q w W := by subst hW; exact (((Q.refl w).alloc _).alloc _).alloc _
  clear hW
  obtain ⟨z2, k20, k21, f20, f21⟩ := id B2
  obtain ⟨z3, k30, k31, f30, f31⟩ := id B3
  go_wp2_with fail
  refine (valued_any [(x0, x1), (y0, y1)] W.heap.size _ 7 (by simp) (Pairs.new2At rfl) HE).mono ?_
  rintro e w1 ⟨rfl, Q1⟩
  replace Q1 := ((Q.refl W).alloc _).trans Q1
  replace B4 := B4.mono Q1
  replace QC := QC.trans Q1
  clear Q1 z2 k20 k21 f20 f21 z3 k30 k31 f30 f31 B2 B3
  generalize W.heap.size = gs at *
  have S4 := B4.store 0 0
  have QS := (QC.setCell (p := ⟨w.heap.size + 1 + 1, 0, none⟩) (by dsimp only; omega) (.int .i64 0)).setCell (p := ⟨w.heap.size + 1 + 1, 1, none⟩) (by dsimp only; omega) (.int .i64 0)
  obtain ⟨z4, k40, k41, f40, f41⟩ := id B4
  obtain ⟨_, s40, s41, _, _⟩ := S4
  go_wp2_with fail
  exact bodyPost_ret (v := .tuple #[encl 0 0, .int .i64 7]) (by simp [results, Tryd.results39, go_sem, s40, s41]) rfl ⟨rfl, QS⟩

set_option maxRecDepth 100000 in
set_option maxHeartbeats 2000000 in
theorem refPlus_yes (x0 x1 y0 y1 A B er : Int) (w : World) (h : vBad [(x0, x1), (y0, y1)] = false) (hx : -3000000000 ≤ x0 ∧ x1 ≤ 3000000000 ∧ x0 ≤ x1) (hy : -3000000000 ≤ y0 ∧ y1 ≤ 3000000000 ∧ y0 ≤ y1) (hr : Hid (rRes (x0 + y0) (x1 + y1) A B er)) :
    Calls Tryd.prog 35 #[encl x0 x1, encl y0 y1] w fun e w' => e = .returned (.tuple #[encl A B, .int .i64 er]) ∧ Q w w' := by
  have he : (0 : Int) = if vBad [(x0, x1), (y0, y1)] then 7 else 0 := by rw [h]; rfl
  have HE := Lib.hid he
  clear h he
  go_enter Tryd.func35, Tryd.ntmps35
  go_upto_region 1 with fail
  generalize hW : ((w.alloc (Obj.cells #[Value.int IntKind.i64 x0, Value.int IntKind.i64 x1] 24)).alloc (Obj.cells #[Value.int IntKind.i64 y0, Value.int IntKind.i64 y1] 24)).alloc (Obj.cells #[Value.int IntKind.i64 0, Value.int IntKind.i64 0] 24) = W
  have B2 : Has W w.heap.size x0 x1 := by subst hW; exact ((Has.new w x0 x1 _).alloc _).alloc _
  have B3 : Has W (w.heap.size + 1) y0 y1 := by subst hW; exact (Has.newAt (by simp)).alloc _
  have B4 : Has W (w.heap.size + 1 + 1) 0 0 := by subst hW; exact Has.newAt (by simp)
  have QC : Q w W := by subst hW; exact (((Q.refl w).alloc _).alloc _).alloc _
  clear hW
  obtain ⟨z2, k20, k21, f20, f21⟩ := id B2
  obtain ⟨z3, k30, k31, f30, f31⟩ := id B3
  go_wp2_with fail
  refine (valued_any [(x0, x1), (y0, y1)] W.heap.size _ 0 (by simp) (Pairs.new2At rfl) HE).mono ?_
  rintro e w1 ⟨rfl, Q1⟩
  replace Q1 := ((Q.refl W).alloc _).trans Q1
  replace B2 := B2.mono Q1
  replace B3 := B3.mono Q1
  replace B4 := B4.mono Q1
  replace QC := QC.trans Q1
  clear Q1 z2 k20 k21 f20 f21 z3 k30 k31 f30 f31 HE
  generalize W.heap.size = gs at *
  obtain ⟨z2, k20, k21, f20, f21⟩ := id B2
  obtain ⟨z3, k30, k31, f30, f31⟩ := id B3
  go_wp2_with fail
  refine (result_any (x0 + y0) (x1 + y1) A B er _ hr).mono ?_
  clear z2 k20 k21 f20 f21 z3 k30 k31 f30 f31 B2 B3
  rintro e w3 ⟨rfl, Q1⟩
  replace B4 := B4.mono Q1
  replace QC := QC.trans Q1
  clear Q1
  have S4 := B4.store A B
  have QS := (QC.setCell (p := ⟨w.heap.size + 1 + 1, 0, none⟩) (by dsimp only; omega) (.int .i64 A)).setCell (p := ⟨w.heap.size + 1 + 1, 1, none⟩) (by dsimp only; omega) (.int .i64 B)
  obtain ⟨z4, k40, k41, f40, f41⟩ := id B4
  obtain ⟨_, s40, s41, _, _⟩ := S4
  go_wp2_with fail
  exact bodyPost_ret (v := .tuple #[encl A B, .int .i64 er]) (by simp [results, Tryd.results35, go_sem, s40, s41]) rfl ⟨rfl, QS⟩

set_option maxRecDepth 100000 in
set_option maxHeartbeats 2000000 in
theorem refMinus_yes (x0 x1 y0 y1 A B er : Int) (w : World) (h : vBad [(x0, x1), (y0, y1)] = false) (hx : -3000000000 ≤ x0 ∧ x1 ≤ 3000000000 ∧ x0 ≤ x1) (hy : -3000000000 ≤ y0 ∧ y1 ≤ 3000000000 ∧ y0 ≤ y1) (hr : Hid (rRes (x0 - y1) (x1 - y0) A B er)) :
    Calls Tryd.prog 37 #[encl x0 x1, encl y0 y1] w fun e w' => e = .returned (.tuple #[encl A B, .int .i64 er]) ∧ Q w w' := by
  have he : (0 : Int) = if vBad [(x0, x1), (y0, y1)] then 7 else 0 := by rw [h]; rfl
  have HE := Lib.hid he
  clear h he
  go_enter Tryd.func37, Tryd.ntmps37
  go_upto_region 1 with fail
  generalize hW : ((w.alloc (Obj.cells #[Value.int IntKind.i64 x0, Value.int IntKind.i64 x1] 24)).alloc (Obj.cells #[Value.int IntKind.i64 y0, Value.int IntKind.i64 y1] 24)).alloc (Obj.cells #[Value.int IntKind.i64 0, Value.int IntKind.i64 0] 24) = W
  have B2 : Has W w.heap.size x0 x1 := by subst hW; exact ((Has.new w x0 x1 _).alloc _).alloc _
  have B3 : Has W (w.heap.size + 1) y0 y1 := by subst hW; exact (Has.newAt (by simp)).alloc _
  have B4 : Has W (w.heap.size + 1 + 1) 0 0 := by subst hW; exact Has.newAt (by simp)
  have QC : Q w W := by subst hW; exact (((Q.refl w).alloc _).alloc _).alloc _
  clear hW
  obtain ⟨z2, k20, k21, f20, f21⟩ := id B2
  obtain ⟨z3, k30, k31, f30, f31⟩ := id B3
  go_wp2_with fail
  refine (valued_any [(x0, x1), (y0, y1)] W.heap.size _ 0 (by simp) (Pairs.new2At rfl) HE).mono ?_
  rintro e w1 ⟨rfl, Q1⟩
  replace Q1 := ((Q.refl W).alloc _).trans Q1
  replace B2 := B2.mono Q1
  replace B3 := B3.mono Q1
  replace B4 := B4.mono Q1
  replace QC := QC.trans Q1
  clear Q1 z2 k20 k21 f20 f21 z3 k30 k31 f30 f31 HE
  generalize W.heap.size = gs at *
  obtain ⟨z2, k20, k21, f20, f21⟩ := id B2
  obtain ⟨z3, k30, k31, f30, f31⟩ := id B3
  go_wp2_with fail
  refine (result_any (x0 - y1) (x1 - y0) A B er _ hr).mono ?_
  clear z2 k20 k21 f20 f21 z3 k30 k31 f30 f31 B2 B3
  rintro e w3 ⟨rfl, Q1⟩
  replace B4 := B4.mono Q1
  replace QC := QC.trans Q1
  clear Q1
  have S4 := B4.store A B
  have QS := (QC.setCell (p := ⟨w.heap.size + 1 + 1, 0, none⟩) (by dsimp only; omega) (.int .i64 A)).setCell (p := ⟨w.heap.size + 1 + 1, 1, none⟩) (by dsimp only; omega) (.int .i64 B)
  obtain ⟨z4, k40, k41, f40, f41⟩ := id B4
  obtain ⟨_, s40, s41, _, _⟩ := S4
  go_wp2_with fail
  exact bodyPost_ret (v := .tuple #[encl A B, .int .i64 er]) (by simp [results, Tryd.results37, go_sem, s40, s41]) rfl ⟨rfl, QS⟩

theorem refPlus_any (x0 x1 y0 y1 A B er : Int) (w : World) (hr : gRes (fun a b => a + b) (fun _ _ => 1) x0 x1 y0 y1 A B er) :
    Calls Tryd.prog 35 #[encl x0 x1, encl y0 y1] w fun e w' => e = .returned (.tuple #[encl A B, .int .i64 er]) ∧ Q w w' := by
  cases h : vBad [(x0, x1), (y0, y1)] with
  | true =>
    have hv := (vBad_notV _ _ _ _).1 h
    obtain ⟨rfl, rfl, rfl⟩ := gRes_no hv hr
    exact refPlus_no x0 x1 y0 y1 w h
  | false =>
    obtain ⟨vx, vy, bx, by'⟩ := vBad_no h
    exact refPlus_yes x0 x1 y0 y1 A B er w h bx by' (gRes_yes vx vy (plus_ends x0 x1 y0 y1 bx.2.2 by'.2.2).1 (plus_ends x0 x1 y0 y1 bx.2.2 by'.2.2).2 hr)

theorem refMinus_any (x0 x1 y0 y1 A B er : Int) (w : World) (hr : gRes (fun a b => a - b) (fun _ _ => 1) x0 x1 y0 y1 A B er) :
    Calls Tryd.prog 37 #[encl x0 x1, encl y0 y1] w fun e w' => e = .returned (.tuple #[encl A B, .int .i64 er]) ∧ Q w w' := by
  cases h : vBad [(x0, x1), (y0, y1)] with
  | true =>
    have hv := (vBad_notV _ _ _ _).1 h
    obtain ⟨rfl, rfl, rfl⟩ := gRes_no hv hr
    exact refMinus_no x0 x1 y0 y1 w h
  | false =>
    obtain ⟨vx, vy, bx, by'⟩ := vBad_no h
    exact refMinus_yes x0 x1 y0 y1 A B er w h bx by' (gRes_yes vx vy (minus_ends x0 x1 y0 y1 bx.2.2 by'.2.2).1 (minus_ends x0 x1 y0 y1 bx.2.2 by'.2.2).2 hr)

end Go.Proofs.YtjbhnjnlpekpoaaDoor
