/-
  'arithmetic' of package angle: what it returns for a function of fractions.
-/
import Derived.Test.YtjbhnjnlpekpoaaDoorArA
namespace Go.Proofs.YtjbhnjnlpekpoaaDoor
open Go.RowKit Go.Sort
set_option linter.unusedVariables false

theorem Pairs.new3At {W : World} {g : Nat} {a b c d e f : Int} {t : TypeId} (h : g = W.heap.size) : Pairs (W.alloc (.cells #[.int .i64 a, .int .i64 b, .int .i64 c, .int .i64 d, .int .i64 e, .int .i64 f] t)) g [(a, b), (c, d), (e, f)] := by
  subst h
  refine ⟨by simp, fun k hk => ?_, fun k hk => ?_⟩
  · match k, hk with
    | 0, _ | 1, _ | 2, _ => simp [go_sem]
  · match k, hk with
    | 0, _ | 1, _ | 2, _ => simp [go_sem]
theorem Pairs.alloc {W : World} {g : Nat} {xs : List (Int × Int)} (h : Pairs W g xs) (o : Obj) : Pairs (W.alloc o) g xs := h.mono ((Q.refl W).alloc o)
theorem Pairs.drew {W : World} {g : Nat} {xs : List (Int × Int)} (h : Pairs W g xs) : Pairs W.drew g xs := h.mono (Q.refl W).drew

/-- the four ends -/
abbrev mLo (L : Int → Int → Int) (H : Int → Int → Int) (x0 x1 y0 y1 : Int) : Int := jLo (L x0 y0) [(L x0 y1, H x0 y1), (L x1 y0, H x1 y0), (L x1 y1, H x1 y1)]
abbrev mHi (L : Int → Int → Int) (H : Int → Int → Int) (x0 x1 y0 y1 : Int) : Int := jHi (H x0 y0) [(L x0 y1, H x0 y1), (L x1 y0, H x1 y0), (L x1 y1, H x1 y1)]

/-- what is kept while the ends are computed -/
theorem keep5 {W W' : World} {w : World} {x0 x1 y0 y1 : Int} {v : Value} (B3 : Has W w.heap.size x0 x1) (B4 : Has W (w.heap.size + 1) y0 y1) (l5 : w.heap.size + 1 + 1 < W.heap.size) (c5 : W.cell? ⟨w.heap.size + 1 + 1, 0, none⟩ = some v) (q : Q W W') :
    Q W W' ∧ w.heap.size + 1 + 1 < W'.heap.size ∧ W'.cell? ⟨w.heap.size, 0, none⟩ = some (.int .i64 x0) ∧ W'.cell? ⟨w.heap.size, 1, none⟩ = some (.int .i64 x1) ∧ W'.cell? ⟨w.heap.size + 1, 0, none⟩ = some (.int .i64 y0) ∧ W'.cell? ⟨w.heap.size + 1, 1, none⟩ = some (.int .i64 y1) ∧ W'.cell? ⟨w.heap.size + 1 + 1, 0, none⟩ = some v :=
  ⟨q, Nat.lt_of_lt_of_le l5 q.size, (B3.mono q).c0, (B3.mono q).c1, (B4.mono q).c0, (B4.mono q).c1, by rw [q.cell _ l5]; exact c5⟩

theorem lt5 {W W' : World} {g : Nat} (l5 : g < W.heap.size) (q : Q W W') : g < W'.heap.size := Nat.lt_of_lt_of_le l5 q.size
theorem ce5 {W W' : World} {g : Nat} {v : Value} (c5 : W.cell? ⟨g, 0, none⟩ = some v) (l5 : g < W.heap.size) (q : Q W W') : W'.cell? ⟨g, 0, none⟩ = some v := by rw [q.cell _ l5]; exact c5

/-- the contract of the ends, as arithmetic uses it -/
abbrev EN (fr : FuncId) (g : Nat) (L H : Int → Int → Int) (x0 x1 y0 y1 : Int) : Prop := Hid (∀ (a b : Int) (W : World), (a = x0 ∨ a = x1) → (b = y0 ∨ b = y1) → g < W.heap.size → W.cell? ⟨g, 0, none⟩ = some (.func (.func fr) #[] #[]) →
  Calls Tryd.prog 86 #[.int .i64 a, .int .i64 b, .pointer (some ⟨g, 0, none⟩)] W fun e w' => e = .returned (encl (L a b) (H a b)) ∧ Q W w')

set_option maxRecDepth 100000 in
set_option maxHeartbeats 8000000 in
theorem arith_core (fr : FuncId) (L H : Int → Int → Int) (x0 x1 y0 y1 : Int) (w : World) (vx : Hid (wildB x0 x1 3000000000 = false)) (vy : Hid (wildB y0 y1 3000000000 = false))
    (hx : -3000000000 ≤ x0 ∧ x1 ≤ 3000000000 ∧ x0 ≤ x1) (hy : -3000000000 ≤ y0 ∧ y1 ≤ 3000000000 ∧ y0 ≤ y1) (HE : EN fr (w.heap.size + 1 + 1) L H x0 x1 y0 y1) (A B er : Int)
    (hr : Hid ((wildB (mLo L H x0 x1 y0 y1) (mHi L H x0 x1 y0 y1) 3000000000 = true ∧ A = 0 ∧ B = 0 ∧ er = 7) ∨ (wildB (mLo L H x0 x1 y0 y1) (mHi L H x0 x1 y0 y1) 3000000000 = false ∧ A = mLo L H x0 x1 y0 y1 ∧ B = mHi L H x0 x1 y0 y1 ∧ er = 0)))
    (hb : -9000000000000000000 ≤ mLo L H x0 x1 y0 y1 ∧ mLo L H x0 x1 y0 y1 ≤ 9000000000000000000 ∧ -9000000000000000000 ≤ mHi L H x0 x1 y0 y1 ∧ mHi L H x0 x1 y0 y1 ≤ 9000000000000000000) :
    Calls Tryd.prog 58 #[encl x0 x1, encl y0 y1, .func (.func fr) #[] #[]] w fun e w' => e = .returned (.tuple #[encl A B, .int .i64 er]) ∧ Q w w' := by
  have HB := Lib.hid hb
  clear hb
  go_enter Tryd.func58, Tryd.ntmps58
  go_upto_region 1 with fail
  generalize hW : (((w.alloc (Obj.cells #[Value.int IntKind.i64 x0, Value.int IntKind.i64 x1] 24)).alloc (Obj.cells #[Value.int IntKind.i64 y0, Value.int IntKind.i64 y1] 24)).alloc (Obj.cells #[Value.func (Fn.func fr) #[] #[]] 61)).alloc (Obj.cells #[Value.int IntKind.i64 0, Value.int IntKind.i64 0] 24) = W
  have B3 : Has W w.heap.size x0 x1 := by subst hW; exact (((Has.new w x0 x1 _).alloc _).alloc _).alloc _
  have B4 : Has W (w.heap.size + 1) y0 y1 := by subst hW; exact ((Has.newAt (by simp)).alloc _).alloc _
  have B6 : Has W (w.heap.size + 1 + 1 + 1) 0 0 := by subst hW; exact Has.newAt (by simp)
  have l5 : w.heap.size + 1 + 1 < W.heap.size := Nat.lt_of_succ_lt B6.lt
  have c5 : W.cell? ⟨w.heap.size + 1 + 1, 0, none⟩ = some (.func (.func fr) #[] #[]) := by subst hW; simp [go_sem]
  have QC : Q w W := by subst hW; exact ((((Q.refl w).alloc _).alloc _).alloc _).alloc _
  clear hW
  obtain ⟨z3, k30, k31, f30, f31⟩ := id B3
  go_wp2_with fail
  refine (wild_any x0 x1 3000000000 _ (by omega) (by omega) (by omega)).mono ?_
  rintro e w1 ⟨rfl, Q1⟩
  rw [vx.out]
  have c5 : w1.cell? ⟨w.heap.size + 1 + 1, 0, none⟩ = some (.func (.func fr) #[] #[]) := by rw [Q1.cell _ l5]; exact c5
  have l5 := Nat.lt_of_lt_of_le l5 Q1.size
  replace B3 := B3.mono Q1
  replace B4 := B4.mono Q1
  replace B6 := B6.mono Q1
  replace QC := QC.trans Q1
  clear Q1 z3 k30 k31 f30 f31
  obtain ⟨z4, k40, k41, f40, f41⟩ := id B4
  go_wp2_with fail
  refine (wild_any y0 y1 3000000000 _ (by omega) (by omega) (by omega)).mono ?_
  rintro e w2 ⟨rfl, Q1⟩
  rw [vy.out]
  have c5 : w2.cell? ⟨w.heap.size + 1 + 1, 0, none⟩ = some (.func (.func fr) #[] #[]) := by rw [Q1.cell _ l5]; exact c5
  have l5 := Nat.lt_of_lt_of_le l5 Q1.size
  replace B3 := B3.mono Q1
  replace B4 := B4.mono Q1
  replace B6 := B6.mono Q1
  replace QC := QC.trans Q1
  clear Q1 z4 k40 k41 f40 f41
  go_upto_region 4 with fail
  go_cut [9] (fun s9 wx => ∃ p : Nat, s9 = .pointer (some ⟨p, 0, none⟩) ∧ w2.heap.size ≤ p ∧ Has wx p (mLo L H x0 x1 y0 y1) (mHi L H x0 x1 y0 y1) ∧ Q w2 wx)
  case first =>
    clear HB hx hy hr
    go_region_held3 (fun w' => Q w2 w' ∧ w.heap.size + 1 + 1 < w'.heap.size ∧ w'.cell? ⟨w.heap.size, 0, none⟩ = some (.int .i64 x0) ∧ w'.cell? ⟨w.heap.size, 1, none⟩ = some (.int .i64 x1) ∧ w'.cell? ⟨w.heap.size + 1, 0, none⟩ = some (.int .i64 y0) ∧ w'.cell? ⟨w.heap.size + 1, 1, none⟩ = some (.int .i64 y1) ∧ w'.cell? ⟨w.heap.size + 1 + 1, 0, none⟩ = some (.func (.func fr) #[] #[]))
      ((refine keep5 B3 B4 l5 c5 ?_; repeat (first | assumption | exact Q.refl _ | exact And.left (a := Q w2 _) (by assumption) | apply Q.alloc | apply Q.drew | (refine Q.setCell ?_ (by dsimp only; omega) _))))
      (first
        | (go_at_call_of 86 x0; go_at_call_of 86 y0; refine (HE.out x0 y0 _ (by simp) (by simp) (lt5 l5 (by repeat (first | assumption | exact Q.refl _ | exact And.left (a := Q w2 _) (by assumption) | apply Q.alloc | apply Q.drew))) (ce5 c5 l5 (by repeat (first | assumption | exact Q.refl _ | exact And.left (a := Q w2 _) (by assumption) | apply Q.alloc | apply Q.drew)))).mono ?_; rintro e wa ⟨rfl, Qa0⟩; have Qb0 := Q.trans (a := w2) (by repeat (first | assumption | exact Q.refl _ | exact And.left (a := Q w2 _) (by assumption) | apply Q.alloc | apply Q.drew)) Qa0; have yy0 := Qb0.size; (try (have P00 : Has wa (w2.heap.size) 0 0 := (by refine Has.mono ?_ Qa0; (repeat (first | with_reducible assumption | (with_reducible refine Has.newAt ?_; (solve | rfl | simp)) | with_reducible refine Has.drew ?_ | with_reducible refine Has.alloc ?_ _)); fail_if_success (focus skip)); obtain ⟨z00, c00, d00, f00, g00⟩ := id P00)))
        | (go_at_call_of 86 x0; go_at_call_of 86 y1; refine (HE.out x0 y1 _ (by simp) (by simp) (lt5 l5 (by repeat (first | assumption | exact Q.refl _ | exact And.left (a := Q w2 _) (by assumption) | apply Q.alloc | apply Q.drew))) (ce5 c5 l5 (by repeat (first | assumption | exact Q.refl _ | exact And.left (a := Q w2 _) (by assumption) | apply Q.alloc | apply Q.drew)))).mono ?_; rintro e wb ⟨rfl, Qa1⟩; have Qb1 := Q.trans (a := w2) (by repeat (first | assumption | exact Q.refl _ | exact And.left (a := Q w2 _) (by assumption) | apply Q.alloc | apply Q.drew)) Qa1; have yy1 := Qb1.size; (try (have P10 : Has wb (w2.heap.size) 0 0 := (by refine Has.mono ?_ Qa1; (repeat (first | with_reducible assumption | (with_reducible refine Has.newAt ?_; (solve | rfl | simp)) | with_reducible refine Has.drew ?_ | with_reducible refine Has.alloc ?_ _)); fail_if_success (focus skip)); obtain ⟨z10, c10, d10, f10, g10⟩ := id P10)); (try (have P11 : Has wb (wa.heap.size) 0 0 := (by refine Has.mono ?_ Qa1; (repeat (first | with_reducible assumption | (with_reducible refine Has.newAt ?_; (solve | rfl | simp)) | with_reducible refine Has.drew ?_ | with_reducible refine Has.alloc ?_ _)); fail_if_success (focus skip)); obtain ⟨z11, c11, d11, f11, g11⟩ := id P11)))
        | (go_at_call_of 86 x1; go_at_call_of 86 y0; refine (HE.out x1 y0 _ (by simp) (by simp) (lt5 l5 (by repeat (first | assumption | exact Q.refl _ | exact And.left (a := Q w2 _) (by assumption) | apply Q.alloc | apply Q.drew))) (ce5 c5 l5 (by repeat (first | assumption | exact Q.refl _ | exact And.left (a := Q w2 _) (by assumption) | apply Q.alloc | apply Q.drew)))).mono ?_; rintro e wc ⟨rfl, Qa2⟩; have Qb2 := Q.trans (a := w2) (by repeat (first | assumption | exact Q.refl _ | exact And.left (a := Q w2 _) (by assumption) | apply Q.alloc | apply Q.drew)) Qa2; have yy2 := Qb2.size; (try (have P20 : Has wc (w2.heap.size) 0 0 := (by refine Has.mono ?_ Qa2; (repeat (first | with_reducible assumption | (with_reducible refine Has.newAt ?_; (solve | rfl | simp)) | with_reducible refine Has.drew ?_ | with_reducible refine Has.alloc ?_ _)); fail_if_success (focus skip)); obtain ⟨z20, c20, d20, f20, g20⟩ := id P20)); (try (have P21 : Has wc (wa.heap.size) 0 0 := (by refine Has.mono ?_ Qa2; (repeat (first | with_reducible assumption | (with_reducible refine Has.newAt ?_; (solve | rfl | simp)) | with_reducible refine Has.drew ?_ | with_reducible refine Has.alloc ?_ _)); fail_if_success (focus skip)); obtain ⟨z21, c21, d21, f21, g21⟩ := id P21)); (try (have P22 : Has wc (wb.heap.size) 0 0 := (by refine Has.mono ?_ Qa2; (repeat (first | with_reducible assumption | (with_reducible refine Has.newAt ?_; (solve | rfl | simp)) | with_reducible refine Has.drew ?_ | with_reducible refine Has.alloc ?_ _)); fail_if_success (focus skip)); obtain ⟨z22, c22, d22, f22, g22⟩ := id P22)))
        | (go_at_call_of 86 x1; go_at_call_of 86 y1; refine (HE.out x1 y1 _ (by simp) (by simp) (lt5 l5 (by repeat (first | assumption | exact Q.refl _ | exact And.left (a := Q w2 _) (by assumption) | apply Q.alloc | apply Q.drew))) (ce5 c5 l5 (by repeat (first | assumption | exact Q.refl _ | exact And.left (a := Q w2 _) (by assumption) | apply Q.alloc | apply Q.drew)))).mono ?_; rintro e wd ⟨rfl, Qa3⟩; have Qb3 := Q.trans (a := w2) (by repeat (first | assumption | exact Q.refl _ | exact And.left (a := Q w2 _) (by assumption) | apply Q.alloc | apply Q.drew)) Qa3; have yy3 := Qb3.size; (try (have P30 : Has wd (w2.heap.size) 0 0 := (by refine Has.mono ?_ Qa3; (repeat (first | with_reducible assumption | (with_reducible refine Has.newAt ?_; (solve | rfl | simp)) | with_reducible refine Has.drew ?_ | with_reducible refine Has.alloc ?_ _)); fail_if_success (focus skip)); obtain ⟨z30, c30, d30, f30, g30⟩ := id P30)); (try (have P31 : Has wd (wa.heap.size) 0 0 := (by refine Has.mono ?_ Qa3; (repeat (first | with_reducible assumption | (with_reducible refine Has.newAt ?_; (solve | rfl | simp)) | with_reducible refine Has.drew ?_ | with_reducible refine Has.alloc ?_ _)); fail_if_success (focus skip)); obtain ⟨z31, c31, d31, f31, g31⟩ := id P31)); (try (have P32 : Has wd (wb.heap.size) 0 0 := (by refine Has.mono ?_ Qa3; (repeat (first | with_reducible assumption | (with_reducible refine Has.newAt ?_; (solve | rfl | simp)) | with_reducible refine Has.drew ?_ | with_reducible refine Has.alloc ?_ _)); fail_if_success (focus skip)); obtain ⟨z32, c32, d32, f32, g32⟩ := id P32)); (try (have P33 : Has wd (wc.heap.size) 0 0 := (by refine Has.mono ?_ Qa3; (repeat (first | with_reducible assumption | (with_reducible refine Has.newAt ?_; (solve | rfl | simp)) | with_reducible refine Has.drew ?_ | with_reducible refine Has.alloc ?_ _)); fail_if_success (focus skip)); obtain ⟨z33, c33, d33, f33, g33⟩ := id P33)))
        | (go_at_call 83; refine (join_any _ _ [(L x0 y1, H x0 y1), (L x1 y0, H x1 y0), (L x1 y1, H x1 y1)] _ _ (by simp) ?_).mono ?_; (repeat (first | (with_reducible refine Pairs.new3At ?_; (solve | rfl | simp)) | with_reducible refine Pairs.alloc ?_ _ | with_reducible refine Pairs.drew ?_)); rintro e we ⟨rfl, Qa4⟩; have Qb4 := Q.trans (a := w2) (by repeat (first | assumption | exact Q.refl _ | exact And.left (a := Q w2 _) (by assumption) | apply Q.alloc | apply Q.drew)) Qa4; have yy4 := Qb4.size; (try (have P40 : Has we (w2.heap.size) 0 0 := (by refine Has.mono ?_ Qa4; (repeat (first | with_reducible assumption | (with_reducible refine Has.newAt ?_; (solve | rfl | simp)) | with_reducible refine Has.drew ?_ | with_reducible refine Has.alloc ?_ _)); fail_if_success (focus skip)); obtain ⟨z40, c40, d40, f40, g40⟩ := id P40)); (try (have P41 : Has we (wa.heap.size) 0 0 := (by refine Has.mono ?_ Qa4; (repeat (first | with_reducible assumption | (with_reducible refine Has.newAt ?_; (solve | rfl | simp)) | with_reducible refine Has.drew ?_ | with_reducible refine Has.alloc ?_ _)); fail_if_success (focus skip)); obtain ⟨z41, c41, d41, f41, g41⟩ := id P41)); (try (have P42 : Has we (wb.heap.size) 0 0 := (by refine Has.mono ?_ Qa4; (repeat (first | with_reducible assumption | (with_reducible refine Has.newAt ?_; (solve | rfl | simp)) | with_reducible refine Has.drew ?_ | with_reducible refine Has.alloc ?_ _)); fail_if_success (focus skip)); obtain ⟨z42, c42, d42, f42, g42⟩ := id P42)); (try (have P43 : Has we (wc.heap.size) 0 0 := (by refine Has.mono ?_ Qa4; (repeat (first | with_reducible assumption | (with_reducible refine Has.newAt ?_; (solve | rfl | simp)) | with_reducible refine Has.drew ?_ | with_reducible refine Has.alloc ?_ _)); fail_if_success (focus skip)); obtain ⟨z43, c43, d43, f43, g43⟩ := id P43)); (try (have P44 : Has we (wd.heap.size) 0 0 := (by refine Has.mono ?_ Qa4; (repeat (first | with_reducible assumption | (with_reducible refine Has.newAt ?_; (solve | rfl | simp)) | with_reducible refine Has.drew ?_ | with_reducible refine Has.alloc ?_ _)); fail_if_success (focus skip)); obtain ⟨z44, c44, d44, f44, g44⟩ := id P44)); (try (have P44 : Has we (wd.heap.size + 1) 0 0 := (by refine Has.mono ?_ Qa4; (repeat (first | with_reducible assumption | (with_reducible refine Has.newAt ?_; (solve | rfl | simp)) | with_reducible refine Has.drew ?_ | with_reducible refine Has.alloc ?_ _)); fail_if_success (focus skip)); obtain ⟨z44, c44, d44, f44, g44⟩ := id P44))))
    all_goals
      clear HE B3 B4 B6 l5 c5 QC
      go_wp2_with fail
      go_meet
      refine ⟨_, rfl, ?h1, ?h2, ?h3⟩
      case h1 => first | omega | (simp; omega)
      case h3 => repeat (first | with_reducible assumption | exact Q.refl _ | with_reducible apply Q.alloc | with_reducible apply Q.drew | with_reducible (refine Q.setCell ?_ (by dsimp only; omega) _))
      case h2 =>
        repeat (first
          | with_reducible assumption
          | (with_reducible refine Has.newAt ?_; (simp; done))
          | with_reducible refine Has.drew ?_
          | with_reducible refine Has.store (x0 := 0) (y0 := 0) ?_ _ _
          | with_reducible refine Has.alloc ?_ _)
  case rest =>
    obtain ⟨g9, rfl, L9, B9, QW⟩ := hcut
    have l6 : w.heap.size + 1 + 1 + 1 < w2.heap.size := B6.lt
    replace B6 := B6.mono QW
    replace QC := QC.trans QW
    clear QW HE B3 B4 l5 c5
    generalize mLo L H x0 x1 y0 y1 = m at *
    generalize mHi L H x0 x1 y0 y1 = M at *
    obtain ⟨z9, k90, k91, f90, f91⟩ := id B9
    go_wp2_with fail
    refine (wild_any m M 3000000000 _ (by have := HB.out; omega) (by have := HB.out; omega) (by omega)).mono ?_
    rintro e w7 ⟨rfl, Q7⟩
    replace B6 := B6.mono Q7
    replace B9 := B9.mono Q7
    replace QC := QC.trans Q7
    clear Q7 z9 k90 k91 f90 f91 HB
    obtain ⟨z6, k60, k61, f60, f61⟩ := id B6
    obtain ⟨z9, k90, k91, f90, f91⟩ := id B9
    rcases hr.out with ⟨hw, rfl, rfl, rfl⟩ | ⟨hw, rfl, rfl, rfl⟩
    · rw [hw]
      have S6 := B6.store 0 0
      have QS := (QC.setCell (p := ⟨w.heap.size + 1 + 1 + 1, 0, none⟩) (by dsimp only; omega) (.int .i64 0)).setCell (p := ⟨w.heap.size + 1 + 1 + 1, 1, none⟩) (by dsimp only; omega) (.int .i64 0)
      obtain ⟨_, s60, s61, _, _⟩ := S6
      go_wp2_with fail
      exact bodyPost_ret (v := .tuple #[encl 0 0, .int .i64 7]) (by simp [results, Tryd.results58, go_sem, s60, s61]) rfl ⟨rfl, QS⟩
    · rw [hw]
      have S6 := B6.store A B
      have QS := (QC.setCell (p := ⟨w.heap.size + 1 + 1 + 1, 0, none⟩) (by dsimp only; omega) (.int .i64 A)).setCell (p := ⟨w.heap.size + 1 + 1 + 1, 1, none⟩) (by dsimp only; omega) (.int .i64 B)
      obtain ⟨_, s60, s61, _, _⟩ := S6
      go_wp2_with fail
      exact bodyPost_ret (v := .tuple #[encl A B, .int .i64 0]) (by simp [results, Tryd.results58, go_sem, s60, s61]) rfl ⟨rfl, QS⟩

set_option maxRecDepth 100000 in
set_option maxHeartbeats 2000000 in
theorem arith_no (fr : FuncId) (x0 x1 y0 y1 : Int) (w : World) (bx : -9223372036854775808 ≤ x0 ∧ x0 ≤ 9223372036854775807 ∧ -9223372036854775808 ≤ x1 ∧ x1 ≤ 9223372036854775807) (by' : -9223372036854775808 ≤ y0 ∧ y0 ≤ 9223372036854775807 ∧ -9223372036854775808 ≤ y1 ∧ y1 ≤ 9223372036854775807)
    (hv : wildB x0 x1 3000000000 = true ∨ wildB x0 x1 3000000000 = false ∧ wildB y0 y1 3000000000 = true) :
    Calls Tryd.prog 58 #[encl x0 x1, encl y0 y1, .func (.func fr) #[] #[]] w fun e w' => e = .returned (.tuple #[encl 0 0, .int .i64 7]) ∧ Q w w' := by
  go_enter Tryd.func58, Tryd.ntmps58
  go_upto_region 1 with fail
  generalize hW : (((w.alloc (Obj.cells #[Value.int IntKind.i64 x0, Value.int IntKind.i64 x1] 24)).alloc (Obj.cells #[Value.int IntKind.i64 y0, Value.int IntKind.i64 y1] 24)).alloc (Obj.cells #[Value.func (Fn.func fr) #[] #[]] 61)).alloc (Obj.cells #[Value.int IntKind.i64 0, Value.int IntKind.i64 0] 24) = W
  have B3 : Has W w.heap.size x0 x1 := by subst hW; exact (((Has.new w x0 x1 _).alloc _).alloc _).alloc _
  have B4 : Has W (w.heap.size + 1) y0 y1 := by subst hW; exact ((Has.newAt (by simp)).alloc _).alloc _
  have B6 : Has W (w.heap.size + 1 + 1 + 1) 0 0 := by subst hW; exact Has.newAt (by simp)
  have QC : Q w W := by subst hW; exact ((((Q.refl w).alloc _).alloc _).alloc _).alloc _
  clear hW
  obtain ⟨z3, k30, k31, f30, f31⟩ := id B3
  go_wp2_with fail
  refine (wild_any x0 x1 3000000000 _ (by omega) (by omega) (by omega)).mono ?_
  rintro e w1 ⟨rfl, Q1⟩
  replace B4 := B4.mono Q1
  replace B6 := B6.mono Q1
  replace QC := QC.trans Q1
  clear Q1 z3 k30 k31 f30 f31
  have S6 := B6.store 0 0
  rcases hv with hv | ⟨hv, hy⟩
  · rw [hv]
    have QS := (QC.setCell (p := ⟨w.heap.size + 1 + 1 + 1, 0, none⟩) (by dsimp only; omega) (.int .i64 0)).setCell (p := ⟨w.heap.size + 1 + 1 + 1, 1, none⟩) (by dsimp only; omega) (.int .i64 0)
    obtain ⟨z6, k60, k61, f60, f61⟩ := id B6
    obtain ⟨_, s60, s61, _, _⟩ := S6
    go_wp2_with fail
    exact bodyPost_ret (v := .tuple #[encl 0 0, .int .i64 7]) (by simp [results, Tryd.results58, go_sem, s60, s61]) rfl ⟨rfl, QS⟩
  · rw [hv]
    clear S6
    obtain ⟨z4, k40, k41, f40, f41⟩ := id B4
    go_wp2_with fail
    refine (wild_any y0 y1 3000000000 _ (by omega) (by omega) (by omega)).mono ?_
    rintro e w2 ⟨rfl, Q1⟩
    rw [hy]
    replace B6 := B6.mono Q1
    replace QC := QC.trans Q1
    clear Q1 z4 k40 k41 f40 f41
    have S6 := B6.store 0 0
    have QS := (QC.setCell (p := ⟨w.heap.size + 1 + 1 + 1, 0, none⟩) (by dsimp only; omega) (.int .i64 0)).setCell (p := ⟨w.heap.size + 1 + 1 + 1, 1, none⟩) (by dsimp only; omega) (.int .i64 0)
    obtain ⟨z6, k60, k61, f60, f61⟩ := id B6
    obtain ⟨_, s60, s61, _, _⟩ := S6
    go_wp2_with fail
    exact bodyPost_ret (v := .tuple #[encl 0 0, .int .i64 7]) (by simp [results, Tryd.results58, go_sem, s60, s61]) rfl ⟨rfl, QS⟩

end Go.Proofs.YtjbhnjnlpekpoaaDoor
