/-
  Over of package angle.
-/
import Derived.Test.YtjbhnjnlpekpoaaDoorArC
namespace Go.Proofs.YtjbhnjnlpekpoaaDoor
open Go.RowKit Go.Sort
set_option linter.unusedVariables false

/-- the divisor holds zero -/
def zeroB (x0 x1 y0 y1 : Int) : Bool := !wildB x0 x1 3000000000 && !wildB y0 y1 3000000000 && decide (y0 ≤ 0) && decide (0 ≤ y1)
abbrev oRes (x0 x1 y0 y1 A B er : Int) : Prop := (zeroB x0 x1 y0 y1 = true ∧ A = 0 ∧ B = 0 ∧ er = 8) ∨ (zeroB x0 x1 y0 y1 = false ∧ gRes (fun a b => a * 100000000) (fun a b => b) x0 x1 y0 y1 A B er)

set_option maxRecDepth 100000 in
set_option maxHeartbeats 1000000 in
theorem Over_any (x0 x1 y0 y1 A B er : Int) (w : World) (bx0 : i64ok x0) (bx1 : i64ok x1) (by0 : i64ok y0) (by1 : i64ok y1) (hr : oRes x0 x1 y0 y1 A B er) :
    Calls Tryd.prog 33 #[encl x0 x1, encl y0 y1] w fun e w' => e = .returned (.tuple #[encl A B, .int .i64 er]) ∧ Q w w' := by
  have C := Lib.hid (fun (hr : gRes (fun a b => a * 100000000) (fun a b => b) x0 x1 y0 y1 A B er) W => arith_any 60 (fun a b => a * 100000000) (fun a b => b) x0 x1 y0 y1 A B er W (enters_of Tryd.func60 (by kernel_rfl) rfl) bx0 bx1 by0 by1 (fun hx hy a b ha hb => by
    have hh := ends_bd hx hy ha hb
    exact ⟨frOver a b (by omega), by omega, by omega⟩) hr)
  have HR := Lib.hid hr
  clear hr
  go_enter Tryd.func33, Tryd.ntmps33
  go_upto_region 1 with fail
  generalize hW : ((w.alloc (Obj.cells #[Value.int IntKind.i64 x0, Value.int IntKind.i64 x1] 24)).alloc (Obj.cells #[Value.int IntKind.i64 y0, Value.int IntKind.i64 y1] 24)).alloc (Obj.cells #[Value.int IntKind.i64 0, Value.int IntKind.i64 0] 24) = W
  have B2 : Has W w.heap.size x0 x1 := by subst hW; exact ((Has.new w x0 x1 _).alloc _).alloc _
  have B3 : Has W (w.heap.size + 1) y0 y1 := by subst hW; exact (Has.newAt (by simp)).alloc _
  have B4 : Has W (w.heap.size + 1 + 1) 0 0 := by subst hW; exact Has.newAt (by simp)
  have QC : Q w W := by subst hW; exact (((Q.refl w).alloc _).alloc _).alloc _
  clear hW
  obtain ⟨z2, k20, k21, f20, f21⟩ := id B2
  go_wp2_with fail
  refine (wild_any x0 x1 3000000000 _ bx0 bx1 (by omega)).mono ?_
  rintro e w1 ⟨rfl, Q1⟩
  replace B2 := B2.mono Q1
  replace B3 := B3.mono Q1
  replace B4 := B4.mono Q1
  replace QC := QC.trans Q1
  clear Q1 z2 k20 k21 f20 f21 W
  obtain ⟨z2, k20, k21, f20, f21⟩ := id B2
  obtain ⟨z3, k30, k31, f30, f31⟩ := id B3
  unfold i64ok at *
  have HR := HR.out
  unfold oRes zeroB at HR
  cases hx : wildB x0 x1 3000000000 with
  | true =>
    rw [hx] at HR
    simp only [Bool.not_true, Bool.false_and, Bool.false_eq_true, false_and, false_or, true_and] at HR
    have C := Lib.hid (C.out HR)
    clear HR hx
    go_wp2_with fail
    refine (C.out _).mono ?_
    rintro e w3 ⟨rfl, Q1⟩
    clear z2 k20 k21 f20 f21 z3 k30 k31 f30 f31 B2 B3
    replace B4 := B4.mono Q1
    replace QC := QC.trans Q1
    clear Q1
    have S4 := B4.store A B
    have QS := (QC.setCell (p := ⟨w.heap.size + 1 + 1, 0, none⟩) (by dsimp only; omega) (.int .i64 A)).setCell (p := ⟨w.heap.size + 1 + 1, 1, none⟩) (by dsimp only; omega) (.int .i64 B)
    obtain ⟨z4, k40, k41, f40, f41⟩ := id B4
    obtain ⟨_, s40, s41, _, _⟩ := S4
    go_wp2_with fail
    exact bodyPost_ret (v := .tuple #[encl A B, .int .i64 er]) (by simp [results, Tryd.results33, go_sem, s40, s41]) rfl ⟨rfl, QS⟩
  | false =>
    rw [hx] at HR
    go_wp2_with fail
    refine (wild_any y0 y1 3000000000 _ by0 by1 (by omega)).mono ?_
    rintro e w2 ⟨rfl, Q1⟩
    replace B2 := B2.mono Q1
    replace B3 := B3.mono Q1
    replace B4 := B4.mono Q1
    replace QC := QC.trans Q1
    clear Q1 z2 k20 k21 f20 f21 z3 k30 k31 f30 f31 hx
    obtain ⟨z2, k20, k21, f20, f21⟩ := id B2
    obtain ⟨z3, k30, k31, f30, f31⟩ := id B3
    cases hy : wildB y0 y1 3000000000 with
    | true =>
      rw [hy] at HR
      simp only [Bool.not_true, Bool.not_false, Bool.and_false, Bool.false_and, Bool.false_eq_true, false_and, false_or, true_and] at HR
      have C := Lib.hid (C.out HR)
      clear HR hy
      go_wp2_with fail
      refine (C.out _).mono ?_
      rintro e w3 ⟨rfl, Q1⟩
      clear z2 k20 k21 f20 f21 z3 k30 k31 f30 f31 B2 B3
      replace B4 := B4.mono Q1
      replace QC := QC.trans Q1
      clear Q1
      have S4 := B4.store A B
      have QS := (QC.setCell (p := ⟨w.heap.size + 1 + 1, 0, none⟩) (by dsimp only; omega) (.int .i64 A)).setCell (p := ⟨w.heap.size + 1 + 1, 1, none⟩) (by dsimp only; omega) (.int .i64 B)
      obtain ⟨z4, k40, k41, f40, f41⟩ := id B4
      obtain ⟨_, s40, s41, _, _⟩ := S4
      go_wp2_with fail
      exact bodyPost_ret (v := .tuple #[encl A B, .int .i64 er]) (by simp [results, Tryd.results33, go_sem, s40, s41]) rfl ⟨rfl, QS⟩
    | false =>
      rw [hy] at HR
      simp only [Bool.not_false, Bool.true_and] at HR
      clear hy
      by_cases t1 : y0 ≤ 0
      · by_cases t2 : 0 ≤ y1
        · simp only [t1, t2, decide_true, Bool.and_self, Bool.true_eq_false, true_and, false_and, or_false] at HR
          obtain ⟨rfl, rfl, rfl⟩ := HR
          clear C
          have S4 := B4.store 0 0
          have QS := (QC.setCell (p := ⟨w.heap.size + 1 + 1, 0, none⟩) (by dsimp only; omega) (.int .i64 0)).setCell (p := ⟨w.heap.size + 1 + 1, 1, none⟩) (by dsimp only; omega) (.int .i64 0)
          obtain ⟨z4, k40, k41, f40, f41⟩ := id B4
          obtain ⟨_, s40, s41, _, _⟩ := S4
          go_wp2_with fail
          exact bodyPost_ret (v := .tuple #[encl 0 0, .int .i64 8]) (by simp [results, Tryd.results33, go_sem, s40, s41]) rfl ⟨rfl, QS⟩
        · simp only [t1, t2, decide_true, decide_false, Bool.and_false, Bool.false_eq_true, true_and, false_and, false_or] at HR
          have C := Lib.hid (C.out HR)
          clear HR
          go_wp2_with fail
          refine (C.out _).mono ?_
          rintro e w3 ⟨rfl, Q1⟩
          clear z2 k20 k21 f20 f21 z3 k30 k31 f30 f31 B2 B3
          replace B4 := B4.mono Q1
          replace QC := QC.trans Q1
          clear Q1
          have S4 := B4.store A B
          have QS := (QC.setCell (p := ⟨w.heap.size + 1 + 1, 0, none⟩) (by dsimp only; omega) (.int .i64 A)).setCell (p := ⟨w.heap.size + 1 + 1, 1, none⟩) (by dsimp only; omega) (.int .i64 B)
          obtain ⟨z4, k40, k41, f40, f41⟩ := id B4
          obtain ⟨_, s40, s41, _, _⟩ := S4
          go_wp2_with fail
          exact bodyPost_ret (v := .tuple #[encl A B, .int .i64 er]) (by simp [results, Tryd.results33, go_sem, s40, s41]) rfl ⟨rfl, QS⟩
      · simp only [t1, decide_false, Bool.false_and, Bool.false_eq_true, true_and, false_and, false_or] at HR
        have C := Lib.hid (C.out HR)
        clear HR
        go_wp2_with fail
        refine (C.out _).mono ?_
        rintro e w3 ⟨rfl, Q1⟩
        clear z2 k20 k21 f20 f21 z3 k30 k31 f30 f31 B2 B3
        replace B4 := B4.mono Q1
        replace QC := QC.trans Q1
        clear Q1
        have S4 := B4.store A B
        have QS := (QC.setCell (p := ⟨w.heap.size + 1 + 1, 0, none⟩) (by dsimp only; omega) (.int .i64 A)).setCell (p := ⟨w.heap.size + 1 + 1, 1, none⟩) (by dsimp only; omega) (.int .i64 B)
        obtain ⟨z4, k40, k41, f40, f41⟩ := id B4
        obtain ⟨_, s40, s41, _, _⟩ := S4
        go_wp2_with fail
        exact bodyPost_ret (v := .tuple #[encl A B, .int .i64 er]) (by simp [results, Tryd.results33, go_sem, s40, s41]) rfl ⟨rfl, QS⟩

end Go.Proofs.YtjbhnjnlpekpoaaDoor
