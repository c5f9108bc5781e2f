/-
  The document's Over.
-/
import Derived.Test.YtjbhnjnlpekpoaaDoorArS
namespace Go.Proofs.YtjbhnjnlpekpoaaDoor
open Go.RowKit Go.Sort
set_option linter.unusedVariables false

set_option maxRecDepth 100000 in
theorem negative_eq (x y a b : Int) (w : World) (h1 : -3000000000 ≤ x ∧ x ≤ 3000000000) (h2 : -3000000000 ≤ y ∧ y ≤ 3000000000) (ha : Hid (a = -y)) (hb : Hid (b = -x)) :
    Calls Tryd.prog 66 #[encl x y] w fun e w' => e = .returned (encl a b) ∧ Q w w' := by
  go_enter Tryd.func66, Tryd.ntmps66
  go_wp2_with fail
  exact bodyPost_ret (v := encl (-y) (-x)) (by simp [results, Tryd.results66, go_sem]) rfl ⟨by rw [ha.out, hb.out], by repeat (first | exact Q.refl _ | assumption | apply Q.alloc | (refine Q.setCell ?_ (by simp) _))⟩

set_option maxRecDepth 100000 in
set_option maxHeartbeats 2000000 in
theorem refOver_zero (x0 x1 y0 y1 : Int) (w : World) (h : vBad [(x0, x1), (y0, y1)] = false) (h0 : y0 ≤ 0) (h1 : 0 ≤ y1) :
    Calls Tryd.prog 39 #[encl x0 x1, encl y0 y1] w fun e w' => e = .returned (.tuple #[encl 0 0, .int .i64 8]) ∧ Q w w' := by
  have he : (0 : Int) = if vBad [(x0, x1), (y0, y1)] then 7 else 0 := by rw [h]; rfl
  have HE := Lib.hid he
  clear h he
  go_enter Tryd.func39, Tryd.ntmps39
  go_upto_region 1 with fail
  generalize hW : ((w.alloc (Obj.cells #[Value.int IntKind.i64 x0, Value.int IntKind.i64 x1] 24)).alloc (Obj.cells #[Value.int IntKind.i64 y0, Value.int IntKind.i64 y1] 24)).alloc (Obj.cells #[Value.int IntKind.i64 0, Value.int IntKind.i64 0] 24) = W
  have B2 : Has W w.heap.size x0 x1 := by subst hW; exact ((Has.new w x0 x1 _).alloc _).alloc _
  have B3 : Has W (w.heap.size + 1) y0 y1 := by subst hW; exact (Has.newAt (by simp)).alloc _
  have B4 : Has W (w.heap.size + 1 + 1) 0 0 := by subst hW; exact Has.newAt (by simp)
  have QC : Q w W := by subst hW; exact (((Q.refl w).alloc _).alloc _).alloc _
  clear hW
  obtain ⟨z2, k20, k21, f20, f21⟩ := id B2
  obtain ⟨z3, k30, k31, f30, f31⟩ := id B3
  go_wp2_with fail
  refine (valued_any [(x0, x1), (y0, y1)] W.heap.size _ 0 (by simp) (Pairs.new2At rfl) HE).mono ?_
  rintro e w1 ⟨rfl, Q1⟩
  replace Q1 := ((Q.refl W).alloc _).trans Q1
  replace B2 := B2.mono Q1
  replace B3 := B3.mono Q1
  replace B4 := B4.mono Q1
  replace QC := QC.trans Q1
  clear Q1 z2 k20 k21 f20 f21 z3 k30 k31 f30 f31 HE
  generalize W.heap.size = gs at *
  obtain ⟨z3, k30, k31, f30, f31⟩ := id B3
  have S4 := B4.store 0 0
  have QS := (QC.setCell (p := ⟨w.heap.size + 1 + 1, 0, none⟩) (by dsimp only; omega) (.int .i64 0)).setCell (p := ⟨w.heap.size + 1 + 1, 1, none⟩) (by dsimp only; omega) (.int .i64 0)
  obtain ⟨z4, k40, k41, f40, f41⟩ := id B4
  obtain ⟨_, s40, s41, _, _⟩ := S4
  go_wp2_with fail
  exact bodyPost_ret (v := .tuple #[encl 0 0, .int .i64 8]) (by simp [results, Tryd.results39, go_sem, s40, s41]) rfl ⟨rfl, QS⟩

set_option maxRecDepth 100000 in
set_option maxHeartbeats 2000000 in
theorem refOver_pos (x0 x1 y0 y1 A B er : Int) (w : World) (h : vBad [(x0, x1), (y0, y1)] = false) (hx : -3000000000 ≤ x0 ∧ x1 ≤ 3000000000 ∧ x0 ≤ x1) (hy : -3000000000 ≤ y0 ∧ y1 ≤ 3000000000 ∧ y0 ≤ y1) (hp : 0 < y0)
    (hr : rRes (lsLo (x0 * 100000000) (x0 * 100000000) (x1 * 100000000) (x1 * 100000000) y0 y1 y0 y1) (lsHi (x0 * 100000000) (x0 * 100000000) (x1 * 100000000) (x1 * 100000000) y0 y1 y0 y1) A B er) :
    Calls Tryd.prog 39 #[encl x0 x1, encl y0 y1] w fun e w' => e = .returned (.tuple #[encl A B, .int .i64 er]) ∧ Q w w' := by
  obtain ⟨lo, hi, h1, h2, hr⟩ := ls_ex _ _ _ _ _ _ _ _ _ _ _ hr
  have L := Lib.hid (fun W => least_four (x0 * 100000000) (x0 * 100000000) (x1 * 100000000) (x1 * 100000000) y0 y1 y0 y1 lo hi W (by omega) (by omega) (by omega) (by omega) (by omega) (by omega) (by omega) (by omega) h1 h2)
  have p1 : ¬ y0 ≤ 0 := by omega
  have p2 : ¬ y1 < 0 := by omega
  clear h1 h2
  have he : (0 : Int) = if vBad [(x0, x1), (y0, y1)] then 7 else 0 := by rw [h]; rfl
  have HE := Lib.hid he
  clear h he
  go_enter Tryd.func39, Tryd.ntmps39
  go_upto_region 1 with fail
  generalize hW : ((w.alloc (Obj.cells #[Value.int IntKind.i64 x0, Value.int IntKind.i64 x1] 24)).alloc (Obj.cells #[Value.int IntKind.i64 y0, Value.int IntKind.i64 y1] 24)).alloc (Obj.cells #[Value.int IntKind.i64 0, Value.int IntKind.i64 0] 24) = W
  have B2 : Has W w.heap.size x0 x1 := by subst hW; exact ((Has.new w x0 x1 _).alloc _).alloc _
  have B3 : Has W (w.heap.size + 1) y0 y1 := by subst hW; exact (Has.newAt (by simp)).alloc _
  have B4 : Has W (w.heap.size + 1 + 1) 0 0 := by subst hW; exact Has.newAt (by simp)
  have QC : Q w W := by subst hW; exact (((Q.refl w).alloc _).alloc _).alloc _
  clear hW
  obtain ⟨z2, k20, k21, f20, f21⟩ := id B2
  obtain ⟨z3, k30, k31, f30, f31⟩ := id B3
  go_wp2_with fail
  refine (valued_any [(x0, x1), (y0, y1)] W.heap.size _ 0 (by simp) (Pairs.new2At rfl) HE).mono ?_
  rintro e w1 ⟨rfl, Q1⟩
  replace Q1 := ((Q.refl W).alloc _).trans Q1
  replace B2 := B2.mono Q1
  replace B3 := B3.mono Q1
  replace B4 := B4.mono Q1
  replace QC := QC.trans Q1
  clear Q1 z2 k20 k21 f20 f21 z3 k30 k31 f30 f31 HE
  generalize W.heap.size = gs at *
  obtain ⟨z2, k20, k21, f20, f21⟩ := id B2
  obtain ⟨z3, k30, k31, f30, f31⟩ := id B3
  have v0 : IntKind.i64.wrap (x0 * 100000000) = x0 * 100000000 := IntWalk.i64_in _ (by omega)
  have v1 : IntKind.i64.wrap (x1 * 100000000) = x1 * 100000000 := IntWalk.i64_in _ (by omega)
  go_wp2_with fail
  refine (L.out _).mono ?_
  clear z2 k20 k21 f20 f21 z3 k30 k31 f30 f31 B2 B3 L v0 v1
  rintro e w2 ⟨rfl, Q1⟩
  replace B4 := B4.mono Q1
  replace QC := QC.trans Q1
  clear Q1
  go_wp2_with fail
  refine (result_any lo hi A B er _ hr).mono ?_
  rintro e w3 ⟨rfl, Q1⟩
  replace B4 := B4.mono Q1
  replace QC := QC.trans Q1
  clear Q1
  have S4 := B4.store A B
  have QS := (QC.setCell (p := ⟨w.heap.size + 1 + 1, 0, none⟩) (by dsimp only; omega) (.int .i64 A)).setCell (p := ⟨w.heap.size + 1 + 1, 1, none⟩) (by dsimp only; omega) (.int .i64 B)
  obtain ⟨z4, k40, k41, f40, f41⟩ := id B4
  obtain ⟨_, s40, s41, _, _⟩ := S4
  go_wp2_with fail
  exact bodyPost_ret (v := .tuple #[encl A B, .int .i64 er]) (by simp [results, Tryd.results39, go_sem, s40, s41]) rfl ⟨rfl, QS⟩

set_option maxRecDepth 100000 in
set_option maxHeartbeats 4000000 in
theorem refOver_neg (x0 x1 y0 y1 X0 X1 Y0 Y1 A B er : Int) (w : World) (h : vBad [(x0, x1), (y0, y1)] = false) (hx : -3000000000 ≤ x0 ∧ x1 ≤ 3000000000 ∧ x0 ≤ x1) (hy : -3000000000 ≤ y0 ∧ y1 ≤ 3000000000 ∧ y0 ≤ y1) (hp : y1 < 0)
    (e0 : Hid (X0 = -x1)) (e1 : Hid (X1 = -x0)) (e2 : Hid (Y0 = -y1)) (e3 : Hid (Y1 = -y0)) (bx : -3000000000 ≤ X0 ∧ X0 ≤ 3000000000 ∧ -3000000000 ≤ X1 ∧ X1 ≤ 3000000000) (by' : 0 < Y0 ∧ Y0 ≤ 3000000000 ∧ 0 < Y1 ∧ Y1 ≤ 3000000000)
    (hr : rRes (lsLo (X0 * 100000000) (X0 * 100000000) (X1 * 100000000) (X1 * 100000000) Y0 Y1 Y0 Y1) (lsHi (X0 * 100000000) (X0 * 100000000) (X1 * 100000000) (X1 * 100000000) Y0 Y1 Y0 Y1) A B er) :
    Calls Tryd.prog 39 #[encl x0 x1, encl y0 y1] w fun e w' => e = .returned (.tuple #[encl A B, .int .i64 er]) ∧ Q w w' := by
  obtain ⟨lo, hi, h1, h2, hr⟩ := ls_ex _ _ _ _ _ _ _ _ _ _ _ hr
  have L := Lib.hid (fun W => least_four (X0 * 100000000) (X0 * 100000000) (X1 * 100000000) (X1 * 100000000) Y0 Y1 Y0 Y1 lo hi W (by omega) (by omega) (by omega) (by omega) (by omega) (by omega) (by omega) (by omega) h1 h2)
  have CX := Lib.hid (fun W => negative_eq x0 x1 X0 X1 W (by omega) (by omega) e0 e1)
  have CY := Lib.hid (fun W => negative_eq y0 y1 Y0 Y1 W (by omega) (by omega) e2 e3)
  have p1 : ¬ 0 ≤ y1 := by omega
  clear h1 h2 e0 e1 e2 e3
  have he : (0 : Int) = if vBad [(x0, x1), (y0, y1)] then 7 else 0 := by rw [h]; rfl
  have HE := Lib.hid he
  clear h he
  go_enter Tryd.func39, Tryd.ntmps39
  go_upto_region 1 with fail
  generalize hW : ((w.alloc (Obj.cells #[Value.int IntKind.i64 x0, Value.int IntKind.i64 x1] 24)).alloc (Obj.cells #[Value.int IntKind.i64 y0, Value.int IntKind.i64 y1] 24)).alloc (Obj.cells #[Value.int IntKind.i64 0, Value.int IntKind.i64 0] 24) = W
  have B2 : Has W w.heap.size x0 x1 := by subst hW; exact ((Has.new w x0 x1 _).alloc _).alloc _
  have B3 : Has W (w.heap.size + 1) y0 y1 := by subst hW; exact (Has.newAt (by simp)).alloc _
  have B4 : Has W (w.heap.size + 1 + 1) 0 0 := by subst hW; exact Has.newAt (by simp)
  have QC : Q w W := by subst hW; exact (((Q.refl w).alloc _).alloc _).alloc _
  clear hW
  obtain ⟨z2, k20, k21, f20, f21⟩ := id B2
  obtain ⟨z3, k30, k31, f30, f31⟩ := id B3
  go_wp2_with fail
  refine (valued_any [(x0, x1), (y0, y1)] W.heap.size _ 0 (by simp) (Pairs.new2At rfl) HE).mono ?_
  rintro e w1 ⟨rfl, Q1⟩
  replace Q1 := ((Q.refl W).alloc _).trans Q1
  replace B2 := B2.mono Q1
  replace B3 := B3.mono Q1
  replace B4 := B4.mono Q1
  replace QC := QC.trans Q1
  clear Q1 z2 k20 k21 f20 f21 z3 k30 k31 f30 f31 HE
  generalize W.heap.size = gs at *
  obtain ⟨z2, k20, k21, f20, f21⟩ := id B2
  obtain ⟨z3, k30, k31, f30, f31⟩ := id B3
  by_cases p2 : y0 ≤ 0
  rotate_left
  · exact absurd p2 (by omega)
  go_upto_region 7 with fail
  go_cut [6] (fun s6 wx => s6 = .int .i64 0 ∧ Has wx w.heap.size X0 X1 ∧ Has wx (w.heap.size + 1) Y0 Y1 ∧ Has wx (w.heap.size + 1 + 1) 0 0 ∧ Q w wx)
  case first =>
    clear L hr p1 p2 hp
    go_region_with (first
      | (go_at_call_of 66 x0; refine (CX.out _).mono ?_; rintro e wa ⟨rfl, Qa1⟩; have Qb1 := Q.trans (a := w1) (by repeat (first | assumption | exact Q.refl _ | apply Q.alloc | apply Q.drew)) Qa1; obtain ⟨za1, ka10, ka11, fa10, fa11⟩ := B2.mono Qb1; obtain ⟨zb1, kb10, kb11, fb10, fb11⟩ := B3.mono Qb1; clear Qa1)
      | (go_at_call_of 66 y0; refine (CY.out _).mono ?_; rintro e wb ⟨rfl, Qa2⟩; have Qb2 := Q.trans (a := w1) (by repeat (first | assumption | exact Q.refl _ | apply Q.alloc | apply Q.drew)) Qa2; obtain ⟨za2, ka20, ka21, fa20, fa21⟩ := B2.mono Qb2; obtain ⟨zb2, kb20, kb21, fb20, fb21⟩ := B3.mono Qb2; clear Qa2))
    all_goals
      go_wp2_with fail
      go_meet
      clear z2 k20 k21 f20 f21 z3 k30 k31 f30 f31
      refine ⟨rfl, ?h1, ?h2, ?h3, ?h4⟩
      case h1 => repeat (first | exact B2.mono Qb2 | exact B2.mono Qb1 | with_reducible refine Has.drew ?_ | with_reducible refine Has.store (x0 := x0) (y0 := x1) ?_ _ _ | (with_reducible refine Has.apart2 ?_ ?_ _ _; rotate_left; (solve | omega)))
      case h2 => repeat (first | exact B3.mono Qb2 | exact B3.mono Qb1 | with_reducible refine Has.drew ?_ | with_reducible refine Has.store (x0 := y0) (y0 := y1) ?_ _ _ | (with_reducible refine Has.apart2 ?_ ?_ _ _; rotate_left; (solve | omega)))
      case h3 => repeat (first | exact B4.mono Qb2 | exact B4.mono Qb1 | with_reducible refine Has.drew ?_ | (with_reducible refine Has.apart2 ?_ ?_ _ _; rotate_left; (solve | omega)))
      case h4 => repeat (first | exact QC.trans Qb2 | exact QC.trans Qb1 | with_reducible apply Q.drew | with_reducible (refine Q.setCell ?_ (by dsimp only; omega) _))
  case rest =>
    clear B2 B3 B4 QC z2 k20 k21 f20 f21 z3 k30 k31 f30 f31 CX CY p1 p2
    obtain ⟨rfl, B2, B3, B4, QC⟩ := hcut
    obtain ⟨z2, k20, k21, f20, f21⟩ := id B2
    obtain ⟨z3, k30, k31, f30, f31⟩ := id B3
    have v0 : IntKind.i64.wrap (X0 * 100000000) = X0 * 100000000 := IntWalk.i64_in _ (by omega)
    have v1 : IntKind.i64.wrap (X1 * 100000000) = X1 * 100000000 := IntWalk.i64_in _ (by omega)
    go_wp2_with fail
    refine (L.out _).mono ?_
    clear z2 k20 k21 f20 f21 z3 k30 k31 f30 f31 B2 B3 L v0 v1
    rintro e w2 ⟨rfl, Q1⟩
    replace B4 := B4.mono Q1
    replace QC := QC.trans Q1
    clear Q1
    go_wp2_with fail
    refine (result_any lo hi A B er _ hr).mono ?_
    rintro e w3 ⟨rfl, Q1⟩
    replace B4 := B4.mono Q1
    replace QC := QC.trans Q1
    clear Q1
    have S4 := B4.store A B
    have QS := (QC.setCell (p := ⟨w.heap.size + 1 + 1, 0, none⟩) (by dsimp only; omega) (.int .i64 A)).setCell (p := ⟨w.heap.size + 1 + 1, 1, none⟩) (by dsimp only; omega) (.int .i64 B)
    obtain ⟨z4, k40, k41, f40, f41⟩ := id B4
    obtain ⟨_, s40, s41, _, _⟩ := S4
    go_wp2_with fail
    exact bodyPost_ret (v := .tuple #[encl A B, .int .i64 er]) (by simp [results, Tryd.results39, go_sem, s40, s41]) rfl ⟨rfl, QS⟩
theorem refOver_any (x0 x1 y0 y1 A B er : Int) (w : World) (hr : oRes x0 x1 y0 y1 A B er) :
    Calls Tryd.prog 39 #[encl x0 x1, encl y0 y1] w fun e w' => e = .returned (.tuple #[encl A B, .int .i64 er]) ∧ Q w w' := by
  cases h : vBad [(x0, x1), (y0, y1)] with
  | true =>
    have hv := (vBad_notV _ _ _ _).1 h
    have z : zeroB x0 x1 y0 y1 = false := by
      unfold zeroB
      rcases hv with h | ⟨_, h⟩ <;> rw [h] <;> simp
    rcases hr with ⟨h1, _⟩ | ⟨_, hr⟩
    · rw [z] at h1; cases h1
    · obtain ⟨rfl, rfl, rfl⟩ := gRes_no hv hr
      exact refOver_no x0 x1 y0 y1 w h
  | false =>
    obtain ⟨vx, vy, bx, by'⟩ := vBad_no h
    rcases hr with ⟨z, rfl, rfl, rfl⟩ | ⟨z, hr⟩
    · unfold zeroB at z
      rw [vx, vy] at z
      simp at z
      exact refOver_zero x0 x1 y0 y1 w h z.1 z.2
    · unfold zeroB at z
      rw [vx, vy] at z
      simp at z
      rcases Int.lt_or_le 0 y0 with hp | hp
      · exact refOver_pos x0 x1 y0 y1 A B er w h bx by' hp (gRes_yes vx vy (over_pos x0 x1 y0 y1 hp (by omega)).1 (over_pos x0 x1 y0 y1 hp (by omega)).2 hr)
      · have hn := z hp
        exact refOver_neg x0 x1 y0 y1 _ _ _ _ A B er w h bx by' hn rfl rfl rfl rfl (by omega) (by omega) (gRes_yes vx vy (over_neg x0 x1 y0 y1 (by omega) hn).1 (over_neg x0 x1 y0 y1 (by omega) hn).2 hr)

end Go.Proofs.YtjbhnjnlpekpoaaDoor
