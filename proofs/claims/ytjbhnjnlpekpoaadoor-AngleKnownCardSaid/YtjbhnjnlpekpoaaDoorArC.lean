/-
  The four of package angle.
-/
import Derived.Test.YtjbhnjnlpekpoaaDoorArB
namespace Go.Proofs.YtjbhnjnlpekpoaaDoor
open Go.RowKit Go.Sort
set_option linter.unusedVariables false

theorem f_bd (n d : Int) (hn : -9000000000000000000 ≤ n ∧ n ≤ 9000000000000000000) : -9000000000000000000 ≤ fLo n d ∧ fLo n d ≤ 9000000000000000000 ∧ -9000000000000000000 ≤ fHi n d ∧ fHi n d ≤ 9000000000000000000 := by
  unfold fLo fHi
  by_cases h0 : d = 0
  · rw [if_pos h0, if_pos h0]; omega
  rw [if_neg h0, if_neg h0]
  by_cases h1 : d < 0
  · rw [if_pos h1, if_pos h1]
    have b1 := fr_bd (-n) (-d) (by omega) (by omega)
    have b2 := fr_bd n (-d) (by omega) (by omega)
    omega
  · rw [if_neg h1, if_neg h1]
    have b1 := fr_bd (-n) d (by omega) (by omega)
    have b2 := fr_bd n d (by omega) (by omega)
    omega

theorem m_bd (L H : Int → Int → Int) (x0 x1 y0 y1 : Int) (h : ∀ a b, (a = x0 ∨ a = x1) → (b = y0 ∨ b = y1) → -9000000000000000000 ≤ L a b ∧ L a b ≤ 9000000000000000000 ∧ -9000000000000000000 ≤ H a b ∧ H a b ≤ 9000000000000000000) :
    -9000000000000000000 ≤ mLo L H x0 x1 y0 y1 ∧ mLo L H x0 x1 y0 y1 ≤ 9000000000000000000 ∧ -9000000000000000000 ≤ mHi L H x0 x1 y0 y1 ∧ mHi L H x0 x1 y0 y1 ≤ 9000000000000000000 := by
  have h1 := h x0 y0 (by simp) (by simp)
  have h2 := h x0 y1 (by simp) (by simp)
  have h3 := h x1 y0 (by simp) (by simp)
  have h4 := h x1 y1 (by simp) (by simp)
  unfold mLo mHi jLo jHi
  simp only [List.foldl]
  generalize L x0 y0 = a1 at *
  generalize L x0 y1 = a2 at *
  generalize L x1 y0 = a3 at *
  generalize L x1 y1 = a4 at *
  generalize H x0 y0 = b1 at *
  generalize H x0 y1 = b2 at *
  generalize H x1 y0 = b3 at *
  generalize H x1 y1 = b4 at *
  omega

/-- what arithmetic returns -/
abbrev gLo (n d : Int → Int → Int) (x0 x1 y0 y1 : Int) : Int := mLo (fun a b => fLo (n a b) (d a b)) (fun a b => fHi (n a b) (d a b)) x0 x1 y0 y1
abbrev gHi (n d : Int → Int → Int) (x0 x1 y0 y1 : Int) : Int := mHi (fun a b => fLo (n a b) (d a b)) (fun a b => fHi (n a b) (d a b)) x0 x1 y0 y1
def gBad (n d : Int → Int → Int) (x0 x1 y0 y1 : Int) : Bool := wildB x0 x1 3000000000 || wildB y0 y1 3000000000 || wildB (gLo n d x0 x1 y0 y1) (gHi n d x0 x1 y0 y1) 3000000000

abbrev i64ok (x : Int) : Prop := -9223372036854775808 ≤ x ∧ x ≤ 9223372036854775807

theorem arith_any (fr : FuncId) (n d : Int → Int → Int) (x0 x1 y0 y1 A B er : Int) (w : World) (eg : ∀ args w, (callFunc fr args).run Tryd.prog w = .ok (.enter fr args) w) (bx0 : i64ok x0) (bx1 : i64ok x1) (by0 : i64ok y0) (by1 : i64ok y1)
    (hf : wildB x0 x1 3000000000 = false → wildB y0 y1 3000000000 = false → ∀ a b, (a = x0 ∨ a = x1) → (b = y0 ∨ b = y1) → FR fr a b (n a b) (d a b) ∧ (-9000000000000000000 ≤ n a b ∧ n a b ≤ 9000000000000000000) ∧ (-9000000000000000000 ≤ d a b ∧ d a b ≤ 9000000000000000000))
    (hr : (gBad n d x0 x1 y0 y1 = true ∧ A = 0 ∧ B = 0 ∧ er = 7) ∨ (gBad n d x0 x1 y0 y1 = false ∧ A = gLo n d x0 x1 y0 y1 ∧ B = gHi n d x0 x1 y0 y1 ∧ er = 0)) :
    Calls Tryd.prog 58 #[encl x0 x1, encl y0 y1, .func (.func fr) #[] #[]] w fun e w' => e = .returned (.tuple #[encl A B, .int .i64 er]) ∧ Q w w' := by
  unfold i64ok at *
  unfold gBad at hr
  cases hx : wildB x0 x1 3000000000 with
  | true =>
    rw [hx] at hr
    simp only [Bool.true_or] at hr
    obtain ⟨_, rfl, rfl, rfl⟩ | ⟨h, _⟩ := hr
    · exact arith_no fr x0 x1 y0 y1 w (by omega) (by omega) (Or.inl hx)
    · exact absurd h (by decide)
  | false =>
    cases hy : wildB y0 y1 3000000000 with
    | true =>
      rw [hx, hy] at hr
      simp only [Bool.true_or, Bool.or_true] at hr
      obtain ⟨_, rfl, rfl, rfl⟩ | ⟨h, _⟩ := hr
      · exact arith_no fr x0 x1 y0 y1 w (by omega) (by omega) (Or.inr ⟨hx, hy⟩)
      · exact absurd h (by decide)
    | false =>
      rw [hx, hy] at hr
      simp only [Bool.false_or] at hr
      have vx := (wild2_iff x0 x1 3000000000).1 hx
      have vy := (wild2_iff y0 y1 3000000000).1 hy
      have hf := hf hx hy
      refine arith_core fr (fun a b => fLo (n a b) (d a b)) (fun a b => fHi (n a b) (d a b)) x0 x1 y0 y1 w hx hy (by omega) (by omega) ?_ A B er hr ?_
      · intro a b W ha hb hg hc
        obtain ⟨f1, f2, f3⟩ := hf a b ha hb
        exact end_any fr a b _ _ _ W eg hg hc f1 f2 f3
      · exact m_bd _ _ x0 x1 y0 y1 (fun a b ha hb => f_bd _ _ (hf a b ha hb).2.1)

set_option maxRecDepth 100000 in
theorem frTimes (a b : Int) (h : -9000000000000000000 ≤ a * b ∧ a * b ≤ 9000000000000000000) : FR 59 a b (a * b) (100000000) := by
  intro W
  have e : IntKind.i64.wrap (a * b) = a * b := IntWalk.i64_in _ (by omega)
  generalize hp : a * b = p at *
  go_enter Tryd.func59, Tryd.ntmps59
  go_wp2_with fail
  exact bodyPost_ret (v := .tuple #[.int .i64 p, .int .i64 (100000000)]) (by simp [results, Tryd.results59, go_sem]) rfl ⟨rfl, rfl⟩

set_option maxRecDepth 100000 in
theorem frOver (a b : Int) (h : -3000000000 ≤ a ∧ a ≤ 3000000000) : FR 60 a b (a * 100000000) (b) := by
  intro W
  have e : IntKind.i64.wrap (a * 100000000) = a * 100000000 := IntWalk.i64_in _ (by omega)
  generalize hp : a * 100000000 = p at *
  go_enter Tryd.func60, Tryd.ntmps60
  go_wp2_with fail
  exact bodyPost_ret (v := .tuple #[.int .i64 p, .int .i64 (b)]) (by simp [results, Tryd.results60, go_sem]) rfl ⟨rfl, rfl⟩

set_option maxRecDepth 100000 in
theorem frPlus (a b : Int) (h : -3000000000 ≤ a ∧ a ≤ 3000000000 ∧ -3000000000 ≤ b ∧ b ≤ 3000000000) : FR 61 a b (a + b) (1) := by
  intro W
  have e : IntKind.i64.wrap (a + b) = a + b := IntWalk.i64_in _ (by omega)
  generalize hp : a + b = p at *
  go_enter Tryd.func61, Tryd.ntmps61
  go_wp2_with fail
  exact bodyPost_ret (v := .tuple #[.int .i64 p, .int .i64 (1)]) (by simp [results, Tryd.results61, go_sem]) rfl ⟨rfl, rfl⟩

set_option maxRecDepth 100000 in
theorem frMinus (a b : Int) (h : -3000000000 ≤ a ∧ a ≤ 3000000000 ∧ -3000000000 ≤ b ∧ b ≤ 3000000000) : FR 64 a b (a - b) (1) := by
  intro W
  have e : IntKind.i64.wrap (a - b) = a - b := IntWalk.i64_in _ (by omega)
  generalize hp : a - b = p at *
  go_enter Tryd.func64, Tryd.ntmps64
  go_wp2_with fail
  exact bodyPost_ret (v := .tuple #[.int .i64 p, .int .i64 (1)]) (by simp [results, Tryd.results64, go_sem]) rfl ⟨rfl, rfl⟩

theorem mul_bd (a b : Int) (ha : -3000000000 ≤ a ∧ a ≤ 3000000000) (hb : -3000000000 ≤ b ∧ b ≤ 3000000000) : -9000000000000000000 ≤ a * b ∧ a * b ≤ 9000000000000000000 := by
  have h1 := Int.mul_nonneg (show 0 ≤ 3000000000 - a by omega) (show 0 ≤ 3000000000 - b by omega)
  have h2 := Int.mul_nonneg (show 0 ≤ 3000000000 + a by omega) (show 0 ≤ 3000000000 + b by omega)
  have h3 := Int.mul_nonneg (show 0 ≤ 3000000000 - a by omega) (show 0 ≤ 3000000000 + b by omega)
  have h4 := Int.mul_nonneg (show 0 ≤ 3000000000 + a by omega) (show 0 ≤ 3000000000 - b by omega)
  simp only [Int.sub_mul, Int.add_mul, Int.mul_sub, Int.mul_add] at h1 h2 h3 h4
  omega

/-- 'which of the two' -/
abbrev gRes (n d : Int → Int → Int) (x0 x1 y0 y1 A B er : Int) : Prop := (gBad n d x0 x1 y0 y1 = true ∧ A = 0 ∧ B = 0 ∧ er = 7) ∨ (gBad n d x0 x1 y0 y1 = false ∧ A = gLo n d x0 x1 y0 y1 ∧ B = gHi n d x0 x1 y0 y1 ∧ er = 0)

/-- the valid ends lie within three thousand millions -/
theorem ends_bd {x0 x1 y0 y1 a b : Int} (hx : wildB x0 x1 3000000000 = false) (hy : wildB y0 y1 3000000000 = false) (ha : a = x0 ∨ a = x1) (hb : b = y0 ∨ b = y1) :
    (-3000000000 ≤ a ∧ a ≤ 3000000000) ∧ -3000000000 ≤ b ∧ b ≤ 3000000000 := by
  have vx := (wild2_iff x0 x1 3000000000).1 hx
  have vy := (wild2_iff y0 y1 3000000000).1 hy
  omega

set_option maxRecDepth 100000 in
set_option maxHeartbeats 1000000 in
theorem Times_any (x0 x1 y0 y1 A B er : Int) (w : World) (bx0 : i64ok x0) (bx1 : i64ok x1) (by0 : i64ok y0) (by1 : i64ok y1) (hr : gRes (fun a b => a * b) (fun a b => 100000000) x0 x1 y0 y1 A B er) :
    Calls Tryd.prog 32 #[encl x0 x1, encl y0 y1] w fun e w' => e = .returned (.tuple #[encl A B, .int .i64 er]) ∧ Q w w' := by
  have C := Lib.hid (fun W => arith_any 59 (fun a b => a * b) (fun a b => 100000000) x0 x1 y0 y1 A B er W (enters_of Tryd.func59 (by kernel_rfl) rfl) bx0 bx1 by0 by1 (fun hx hy a b ha hb => by
    have hh := ends_bd hx hy ha hb
    exact ⟨frTimes a b (mul_bd a b hh.1 hh.2), mul_bd a b hh.1 hh.2, by omega, by omega⟩) hr)
  clear hr bx0 bx1 by0 by1
  go_enter Tryd.func32, Tryd.ntmps32
  go_upto_region 1 with fail
  generalize hW : ((w.alloc (Obj.cells #[Value.int IntKind.i64 x0, Value.int IntKind.i64 x1] 24)).alloc (Obj.cells #[Value.int IntKind.i64 y0, Value.int IntKind.i64 y1] 24)).alloc (Obj.cells #[Value.int IntKind.i64 0, Value.int IntKind.i64 0] 24) = W
  have B2 : Has W w.heap.size x0 x1 := by subst hW; exact ((Has.new w x0 x1 _).alloc _).alloc _
  have B3 : Has W (w.heap.size + 1) y0 y1 := by subst hW; exact (Has.newAt (by simp)).alloc _
  have B4 : Has W (w.heap.size + 1 + 1) 0 0 := by subst hW; exact Has.newAt (by simp)
  have QC : Q w W := by subst hW; exact (((Q.refl w).alloc _).alloc _).alloc _
  clear hW
  obtain ⟨z2, k20, k21, f20, f21⟩ := id B2
  obtain ⟨z3, k30, k31, f30, f31⟩ := id B3
  go_wp2_with fail
  refine (C.out _).mono ?_
  rintro e w1 ⟨rfl, Q1⟩
  clear z2 k20 k21 f20 f21 z3 k30 k31 f30 f31 B2 B3
  replace B4 := B4.mono Q1
  replace QC := QC.trans Q1
  clear Q1
  have S4 := B4.store A B
  have QS := (QC.setCell (p := ⟨w.heap.size + 1 + 1, 0, none⟩) (by dsimp only; omega) (.int .i64 A)).setCell (p := ⟨w.heap.size + 1 + 1, 1, none⟩) (by dsimp only; omega) (.int .i64 B)
  obtain ⟨z4, k40, k41, f40, f41⟩ := id B4
  obtain ⟨_, s40, s41, _, _⟩ := S4
  go_wp2_with fail
  exact bodyPost_ret (v := .tuple #[encl A B, .int .i64 er]) (by simp [results, Tryd.results32, go_sem, s40, s41]) rfl ⟨rfl, QS⟩

set_option maxRecDepth 100000 in
set_option maxHeartbeats 1000000 in
theorem Plus_any (x0 x1 y0 y1 A B er : Int) (w : World) (bx0 : i64ok x0) (bx1 : i64ok x1) (by0 : i64ok y0) (by1 : i64ok y1) (hr : gRes (fun a b => a + b) (fun a b => 1) x0 x1 y0 y1 A B er) :
    Calls Tryd.prog 34 #[encl x0 x1, encl y0 y1] w fun e w' => e = .returned (.tuple #[encl A B, .int .i64 er]) ∧ Q w w' := by
  have C := Lib.hid (fun W => arith_any 61 (fun a b => a + b) (fun a b => 1) x0 x1 y0 y1 A B er W (enters_of Tryd.func61 (by kernel_rfl) rfl) bx0 bx1 by0 by1 (fun hx hy a b ha hb => by
    have hh := ends_bd hx hy ha hb
    exact ⟨frPlus a b (by omega), by omega, by omega⟩) hr)
  clear hr bx0 bx1 by0 by1
  go_enter Tryd.func34, Tryd.ntmps34
  go_upto_region 1 with fail
  generalize hW : ((w.alloc (Obj.cells #[Value.int IntKind.i64 x0, Value.int IntKind.i64 x1] 24)).alloc (Obj.cells #[Value.int IntKind.i64 y0, Value.int IntKind.i64 y1] 24)).alloc (Obj.cells #[Value.int IntKind.i64 0, Value.int IntKind.i64 0] 24) = W
  have B2 : Has W w.heap.size x0 x1 := by subst hW; exact ((Has.new w x0 x1 _).alloc _).alloc _
  have B3 : Has W (w.heap.size + 1) y0 y1 := by subst hW; exact (Has.newAt (by simp)).alloc _
  have B4 : Has W (w.heap.size + 1 + 1) 0 0 := by subst hW; exact Has.newAt (by simp)
  have QC : Q w W := by subst hW; exact (((Q.refl w).alloc _).alloc _).alloc _
  clear hW
  obtain ⟨z2, k20, k21, f20, f21⟩ := id B2
  obtain ⟨z3, k30, k31, f30, f31⟩ := id B3
  go_wp2_with fail
  refine (C.out _).mono ?_
  rintro e w1 ⟨rfl, Q1⟩
  clear z2 k20 k21 f20 f21 z3 k30 k31 f30 f31 B2 B3
  replace B4 := B4.mono Q1
  replace QC := QC.trans Q1
  clear Q1
  have S4 := B4.store A B
  have QS := (QC.setCell (p := ⟨w.heap.size + 1 + 1, 0, none⟩) (by dsimp only; omega) (.int .i64 A)).setCell (p := ⟨w.heap.size + 1 + 1, 1, none⟩) (by dsimp only; omega) (.int .i64 B)
  obtain ⟨z4, k40, k41, f40, f41⟩ := id B4
  obtain ⟨_, s40, s41, _, _⟩ := S4
  go_wp2_with fail
  exact bodyPost_ret (v := .tuple #[encl A B, .int .i64 er]) (by simp [results, Tryd.results34, go_sem, s40, s41]) rfl ⟨rfl, QS⟩

set_option maxRecDepth 100000 in
set_option maxHeartbeats 1000000 in
theorem Minus_any (x0 x1 y0 y1 A B er : Int) (w : World) (bx0 : i64ok x0) (bx1 : i64ok x1) (by0 : i64ok y0) (by1 : i64ok y1) (hr : gRes (fun a b => a - b) (fun a b => 1) x0 x1 y0 y1 A B er) :
    Calls Tryd.prog 36 #[encl x0 x1, encl y0 y1] w fun e w' => e = .returned (.tuple #[encl A B, .int .i64 er]) ∧ Q w w' := by
  have C := Lib.hid (fun W => arith_any 64 (fun a b => a - b) (fun a b => 1) x0 x1 y0 y1 A B er W (enters_of Tryd.func64 (by kernel_rfl) rfl) bx0 bx1 by0 by1 (fun hx hy a b ha hb => by
    have hh := ends_bd hx hy ha hb
    exact ⟨frMinus a b (by omega), by omega, by omega⟩) hr)
  clear hr bx0 bx1 by0 by1
  go_enter Tryd.func36, Tryd.ntmps36
  go_upto_region 1 with fail
  generalize hW : ((w.alloc (Obj.cells #[Value.int IntKind.i64 x0, Value.int IntKind.i64 x1] 24)).alloc (Obj.cells #[Value.int IntKind.i64 y0, Value.int IntKind.i64 y1] 24)).alloc (Obj.cells #[Value.int IntKind.i64 0, Value.int IntKind.i64 0] 24) = W
  have B2 : Has W w.heap.size x0 x1 := by subst hW; exact ((Has.new w x0 x1 _).alloc _).alloc _
  have B3 : Has W (w.heap.size + 1) y0 y1 := by subst hW; exact (Has.newAt (by simp)).alloc _
  have B4 : Has W (w.heap.size + 1 + 1) 0 0 := by subst hW; exact Has.newAt (by simp)
  have QC : Q w W := by subst hW; exact (((Q.refl w).alloc _).alloc _).alloc _
  clear hW
  obtain ⟨z2, k20, k21, f20, f21⟩ := id B2
  obtain ⟨z3, k30, k31, f30, f31⟩ := id B3
  go_wp2_with fail
  refine (C.out _).mono ?_
  rintro e w1 ⟨rfl, Q1⟩
  clear z2 k20 k21 f20 f21 z3 k30 k31 f30 f31 B2 B3
  replace B4 := B4.mono Q1
  replace QC := QC.trans Q1
  clear Q1
  have S4 := B4.store A B
  have QS := (QC.setCell (p := ⟨w.heap.size + 1 + 1, 0, none⟩) (by dsimp only; omega) (.int .i64 A)).setCell (p := ⟨w.heap.size + 1 + 1, 1, none⟩) (by dsimp only; omega) (.int .i64 B)
  obtain ⟨z4, k40, k41, f40, f41⟩ := id B4
  obtain ⟨_, s40, s41, _, _⟩ := S4
  go_wp2_with fail
  exact bodyPost_ret (v := .tuple #[encl A B, .int .i64 er]) (by simp [results, Tryd.results36, go_sem, s40, s41]) rfl ⟨rfl, QS⟩

end Go.Proofs.YtjbhnjnlpekpoaaDoor
