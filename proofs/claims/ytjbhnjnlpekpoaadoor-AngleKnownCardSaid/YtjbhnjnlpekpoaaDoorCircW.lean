/-
  The walk of AngleCircle.
-/
import Derived.Test.YtjbhnjnlpekpoaaDoorCirc2
import Derived.Deep.RegionHeld3
import Derived.Deep.DeepCutAuto
namespace Go.Proofs.YtjbhnjnlpekpoaaDoor
open Go.RowKit Go.Sort
set_option linter.unusedVariables false

/-- a block of two integers -/
structure Has (W : World) (g : Nat) (x y : Int) : Prop where
  lt : g < W.heap.size
  c0 : W.cell? ⟨g, 0, none⟩ = some (.int .i64 x)
  c1 : W.cell? ⟨g, 1, none⟩ = some (.int .i64 y)
  f0 : W.frozen? ⟨g, 0, none⟩ = false
  f1 : W.frozen? ⟨g, 1, none⟩ = false

theorem Has.new (W : World) (x y : Int) (t : TypeId) : Has (W.alloc (.cells #[.int .i64 x, .int .i64 y] t)) W.heap.size x y :=
  ⟨by simp, by simp [go_sem], by simp [go_sem], by simp [go_sem], by simp [go_sem]⟩

theorem Has.mono {W W' : World} {g : Nat} {x y : Int} (h : Has W g x y) (q : Q W W') : Has W' g x y :=
  ⟨Nat.lt_of_lt_of_le h.lt q.size, by rw [q.cell _ h.lt]; exact h.c0, by rw [q.cell _ h.lt]; exact h.c1, by rw [q.frozen _ h.lt]; exact h.f0, by rw [q.frozen _ h.lt]; exact h.f1⟩

theorem Has.newAt {W : World} {g : Nat} {x y : Int} {t : TypeId} (h : g = W.heap.size) : Has (W.alloc (.cells #[.int .i64 x, .int .i64 y] t)) g x y := by
  subst h; exact Has.new W x y t

theorem Has.drew {W : World} {g : Nat} {x y : Int} (h : Has W g x y) : Has W.drew g x y := h.mono (Q.refl W).drew

theorem Has.alloc {W : World} {g : Nat} {x y : Int} (h : Has W g x y) (o : Obj) : Has (W.alloc o) g x y := h.mono ((Q.refl W).alloc o)

theorem Has.store {W : World} {g : Nat} {x0 y0 : Int} (h : Has W g x0 y0) (x y : Int) : Has ((W.setCell ⟨g, 0, none⟩ (.int .i64 x)).setCell ⟨g, 1, none⟩ (.int .i64 y)) g x y := by
  obtain ⟨lt, c0, c1, f0, f1⟩ := h
  exact ⟨by simp [lt], by simp [go_sem, c0], by simp [go_sem, c1], by simp [go_sem, f0], by simp [go_sem, f1]⟩

theorem Has.apart2 {W : World} {g g' : Nat} {x y : Int} (h : Has W g x y) (_ : g' ≠ g) (u v : Value) : Has ((W.setCell ⟨g', 0, none⟩ u).setCell ⟨g', 1, none⟩ v) g x y := by
  obtain ⟨lt, c0, c1, f0, f1⟩ := h
  exact ⟨by simp [lt], by simp [go_sem, c0], by simp [go_sem, c1], by simp [go_sem, f0], by simp [go_sem, f1]⟩

theorem keep8 {W W' : World} {g5 g7 g9 g11 : Nat} {s0 s1 c0 c1 t0 t1 d0 d1 : Int} (B5 : Has W g5 s0 s1) (B7 : Has W g7 c0 c1) (B9 : Has W g9 t0 t1) (B11 : Has W g11 d0 d1) (q : Q W W') :
    Q W W' ∧ W'.cell? ⟨g5, 0, none⟩ = some (.int .i64 s0) ∧ W'.cell? ⟨g5, 1, none⟩ = some (.int .i64 s1) ∧ W'.cell? ⟨g7, 0, none⟩ = some (.int .i64 c0) ∧ W'.cell? ⟨g7, 1, none⟩ = some (.int .i64 c1) ∧ W'.cell? ⟨g9, 0, none⟩ = some (.int .i64 t0) ∧ W'.cell? ⟨g9, 1, none⟩ = some (.int .i64 t1) ∧ W'.cell? ⟨g11, 0, none⟩ = some (.int .i64 d0) ∧ W'.cell? ⟨g11, 1, none⟩ = some (.int .i64 d1) :=
  ⟨q, (B5.mono q).c0, (B5.mono q).c1, (B7.mono q).c0, (B7.mono q).c1, (B9.mono q).c0, (B9.mono q).c1, (B11.mono q).c0, (B11.mono q).c1⟩

abbrev SC (f : FuncId) (a lo hi : Int) : Prop := Hid (∀ w, Calls Tryd.prog f #[.int .i64 a] w fun e w' => e = .returned (.tuple #[encl lo hi, .int .i64 0]) ∧ Q w w')

abbrev FC (f : FuncId) (xs : Array Value) (v : Value) : Prop := Hid (∀ w, Calls Tryd.prog f xs w fun e w' => e = .returned v ∧ Q w w')

set_option maxRecDepth 100000 in
set_option maxHeartbeats 20000000 in
theorem circle_in (a b s0 s1 c0 c1 t0 t1 d0 d1 u0 u1 v0 v1 A0 A1 B0 B1 E0 E1 U0 U1 F0 F1 G0 G1 H0 H1 V0 V1 I0 I1 J0 J1 K0 K1 : Int) (w : World) (T : Tables w)
    (ha1 : -1800000000 ≤ a) (ha2 : a ≤ 1800000000) (hb1 : -1800000000 ≤ b) (hb2 : b ≤ 1800000000)
    (Sa : SC 16 a s0 s1) (Ca : SC 17 a c0 c1) (Sb : SC 16 b t0 t1) (Cb : SC 17 b d0 d1)
    (Sab : SC 16 (a + b) u0 u1) (Cab : SC 17 (a + b) v0 v1) 
    (q1 : FC 20 #[encl s0 s1] (pair A0 A1)) (q2 : FC 20 #[encl c0 c1] (pair B0 B1)) (q3 : FC 19 #[pair A0 A1, pair B0 B1] (pair E0 E1)) (q4 : FC 18 #[pair E0 E1, pair 10000000000000000 10000000000000000] (.bool true))
    (q5 : FC 21 #[encl s0 s1, encl d0 d1] (pair F0 F1)) (q6 : FC 21 #[encl c0 c1, encl t0 t1] (pair G0 G1)) (q7 : FC 19 #[pair F0 F1, pair G0 G1] (pair H0 H1)) (q8 : FC 18 #[pair U0 U1, pair H0 H1] (.bool true))
    (q9 : FC 21 #[encl c0 c1, encl d0 d1] (pair I0 I1)) (q10 : FC 21 #[encl s0 s1, encl t0 t1] (pair J0 J1)) (q11 : FC 18 #[pair V0 V1, pair K0 K1] (.bool true))
    (f1 : IntKind.i64.wrap (u0 * 100000000) = U0) (f2 : IntKind.i64.wrap (u1 * 100000000) = U1) (f3 : IntKind.i64.wrap (v0 * 100000000) = V0) (f4 : IntKind.i64.wrap (v1 * 100000000) = V1) (f5 : IntKind.i64.wrap (I0 - J1) = K0) (f6 : IntKind.i64.wrap (I1 - J0) = K1)
    (St : SC 16 (a + 360000000) s0 s1) (Sr : SC 16 (a + 90000000) c0 c1)
    (hs : s0 ≤ s1 ∧ s1 ≤ s0 + 1 ∧ -100000000 ≤ s0 ∧ s1 ≤ 100000000) (hc : c0 ≤ c1 ∧ c1 ≤ c0 + 1 ∧ -100000000 ≤ c0 ∧ c1 ≤ 100000000) :
    Calls Tryd.prog 3 #[.int .i64 a, .int .i64 b] w fun e w' => e = .returned (.bool true) ∧ Q w w' := by
  obtain ⟨hs1, hs2, hs3, hs4⟩ := hs
  obtain ⟨hc1, hc2, hc3, hc4⟩ := hc
  have X1 := Lib.hid f1
  have X2 := Lib.hid f2
  have X3 := Lib.hid f3
  have X4 := Lib.hid f4
  have X5 := Lib.hid f5
  have X6 := Lib.hid f6
  clear f1 f2 f3 f4 f5 f6
  go_enter Tryd.func3, Tryd.ntmps3
  go_wp2_with fail
  refine (Sa.out _).mono ?_
  rintro e w1 ⟨rfl, Q1⟩
  go_wp2_with fail
  refine (Ca.out _).mono ?_
  rintro e w2 ⟨rfl, Q2⟩
  have B5 := (Has.new w1 s0 s1 24).mono Q2
  have QA := (Q1.alloc (.cells #[.int .i64 s0, .int .i64 s1] 24)).trans Q2
  clear Q1 Q2
  go_wp2_with fail
  refine (Sb.out _).mono ?_
  rintro e w3 ⟨rfl, Q3⟩
  have B5 := (B5.mono ((Q.refl w2).alloc (.cells #[.int .i64 c0, .int .i64 c1] 24))).mono Q3
  have B7 := (Has.new w2 c0 c1 24).mono Q3
  have QB := (QA.alloc (.cells #[.int .i64 c0, .int .i64 c1] 24)).trans Q3
  clear Q3 QA
  go_wp2_with fail
  refine (Cb.out _).mono ?_
  rintro e w4 ⟨rfl, Q4⟩
  have B5 := ((B5.mono ((Q.refl w3).alloc (.cells #[.int .i64 t0, .int .i64 t1] 24))).mono Q4).mono ((Q.refl w4).alloc (.cells #[.int .i64 d0, .int .i64 d1] 24))
  have B7 := ((B7.mono ((Q.refl w3).alloc (.cells #[.int .i64 t0, .int .i64 t1] 24))).mono Q4).mono ((Q.refl w4).alloc (.cells #[.int .i64 d0, .int .i64 d1] 24))
  have B9 := ((Has.new w3 t0 t1 24).mono Q4).mono ((Q.refl w4).alloc (.cells #[.int .i64 d0, .int .i64 d1] 24))
  have B11 := Has.new w4 d0 d1 24
  have QC := ((QB.alloc (.cells #[.int .i64 t0, .int .i64 t1] 24)).trans Q4).alloc (.cells #[.int .i64 d0, .int .i64 d1] 24)
  clear Q4 QB
  go_upto_region 7 with fail
  generalize w4.alloc (.cells #[.int .i64 d0, .int .i64 d1] 24) = W at *
  generalize w1.heap.size = g5 at *
  generalize w2.heap.size = g7 at *
  generalize w3.heap.size = g9 at *
  generalize w4.heap.size = g11 at *
  obtain ⟨z5, k50, k51, _, _⟩ := id B5
  obtain ⟨z7, k70, k71, _, _⟩ := id B7
  obtain ⟨z9, k90, k91, _, _⟩ := id B9
  obtain ⟨z11, kb0, kb1, _, _⟩ := id B11
  have e1 : IntKind.i64.wrap (s1 - s0) = s1 - s0 := IntWalk.i64_in _ (by omega)
  have e2 : IntKind.i64.wrap (c1 - c0) = c1 - c0 := IntWalk.i64_in _ (by omega)
  go_upto_region 9 with fail
  have g50 := fun n os => cell_grown (a := ⟨g5, 0, none⟩) z5 k50 n os
  have g51 := fun n os => cell_grown (a := ⟨g5, 1, none⟩) z5 k51 n os
  have g70 := fun n os => cell_grown (a := ⟨g7, 0, none⟩) z7 k70 n os
  have g71 := fun n os => cell_grown (a := ⟨g7, 1, none⟩) z7 k71 n os
  have g90 := fun n os => cell_grown (a := ⟨g9, 0, none⟩) z9 k90 n os
  have g91 := fun n os => cell_grown (a := ⟨g9, 1, none⟩) z9 k91 n os
  have gb0 := fun n os => cell_grown (a := ⟨g11, 0, none⟩) z11 kb0 n os
  have gb1 := fun n os => cell_grown (a := ⟨g11, 1, none⟩) z11 kb1 n os
  have mixed : Tryd.prog.follows .mixedOrders = true := by kernel_rfl
  go_quiet_grown (first
    | (go_at_call_of 20 s0; exact Calls.of_Q (v := pair A0 A1) (q1.out _))
    | (go_at_call_of 20 c0; exact Calls.of_Q (v := pair B0 B1) (q2.out _))
    | (go_at_call 19; exact Calls.of_Q (v := pair E0 E1) (q3.out _))
    | (go_at_call 18; exact Calls.of_Q (v := .bool true) (q4.out _)))
  have QW := Q.of_grow W nq osq
  replace B5 := B5.mono QW
  replace B7 := B7.mono QW
  replace B9 := B9.mono QW
  replace B11 := B11.mono QW
  replace QC := QC.trans QW
  clear QW g50 g51 g70 g71 g90 g91 gb0 gb1 k50 k51 k70 k71 k90 k91 kb0 kb1 z5 z7 z9 z11 e1 e2 q1 q2 q3 q4
  generalize grow (W.drewN nq) osq = W2 at *
  have e3 : IntKind.i64.wrap (a + b) = a + b := IntWalk.i64_in _ (by omega)
  go_wp2_with fail
  refine (Sab.out _).mono ?_
  rintro e w5 ⟨rfl, Q5⟩
  go_wp2_with fail
  refine (Cab.out _).mono ?_
  rintro e w6 ⟨rfl, Q6⟩
  go_upto_region 13 with fail
  have L13 : w.heap.size ≤ w5.heap.size := (QC.trans Q5).size
  have d5 : g5 < w5.heap.size := Nat.lt_of_lt_of_le B5.lt Q5.size
  have d7 : g7 < w5.heap.size := Nat.lt_of_lt_of_le B7.lt Q5.size
  have L14 : w5.heap.size < w6.heap.size := by have := Q6.size; simp at this; omega
  have P1 := (Q5.alloc (.cells #[.int .i64 u0, .int .i64 u1] 24)).trans (Q6.alloc (.cells #[.int .i64 v0, .int .i64 v1] 24))
  have B13 := (Has.new w5 u0 u1 24).mono (Q6.alloc (.cells #[.int .i64 v0, .int .i64 v1] 24))
  have B14 := Has.new w6 v0 v1 24
  replace B5 := B5.mono P1
  replace B7 := B7.mono P1
  replace B9 := B9.mono P1
  replace B11 := B11.mono P1
  replace QC := QC.trans P1
  clear Q5 Q6 P1 e3
  generalize w6.alloc (.cells #[.int .i64 v0, .int .i64 v1] 24) = W3 at *
  generalize w5.heap.size = g13 at *
  generalize w6.heap.size = g14 at *
  obtain ⟨z5, k50, k51, _, _⟩ := id B5
  obtain ⟨z7, k70, k71, _, _⟩ := id B7
  obtain ⟨z9, k90, k91, _, _⟩ := id B9
  obtain ⟨z11, kb0, kb1, _, _⟩ := id B11
  obtain ⟨z13, kc0, kc1, _, _⟩ := id B13
  have g50 := fun n os => cell_grown (a := ⟨g5, 0, none⟩) z5 k50 n os
  have g51 := fun n os => cell_grown (a := ⟨g5, 1, none⟩) z5 k51 n os
  have g70 := fun n os => cell_grown (a := ⟨g7, 0, none⟩) z7 k70 n os
  have g71 := fun n os => cell_grown (a := ⟨g7, 1, none⟩) z7 k71 n os
  have g90 := fun n os => cell_grown (a := ⟨g9, 0, none⟩) z9 k90 n os
  have g91 := fun n os => cell_grown (a := ⟨g9, 1, none⟩) z9 k91 n os
  have gb0 := fun n os => cell_grown (a := ⟨g11, 0, none⟩) z11 kb0 n os
  have gb1 := fun n os => cell_grown (a := ⟨g11, 1, none⟩) z11 kb1 n os
  have gc0 := fun n os => cell_grown (a := ⟨g13, 0, none⟩) z13 kc0 n os
  have gc1 := fun n os => cell_grown (a := ⟨g13, 1, none⟩) z13 kc1 n os
  have y1 := X1.out
  have y2 := X2.out
  go_quiet_grown (first
    | (go_at_call_of 21 s0; exact Calls.of_Q (v := pair F0 F1) (q5.out _))
    | (go_at_call_of 21 c0; exact Calls.of_Q (v := pair G0 G1) (q6.out _))
    | (go_at_call 19; exact Calls.of_Q (v := pair H0 H1) (q7.out _))
    | (go_at_call 18; exact Calls.of_Q (v := .bool true) (q8.out _)))
  have QW := Q.of_grow W3 nq osq
  replace B5 := B5.mono QW
  replace B7 := B7.mono QW
  replace B9 := B9.mono QW
  replace B11 := B11.mono QW
  replace B13 := B13.mono QW
  replace B14 := B14.mono QW
  replace QC := QC.trans QW
  clear QW g50 g51 g70 g71 g90 g91 gb0 gb1 gc0 gc1 k50 k51 k70 k71 k90 k91 kb0 kb1 kc0 kc1 z5 z7 z9 z11 z13 y1 y2 q5 q6 q7 q8
  generalize grow (W3.drewN nq) osq = W4 at *
  go_upto_region 15 with fail
  go_cut [15, 16] (fun s15 s16 wx => ∃ p q : Nat, s15 = .pointer (some ⟨p, 0, none⟩) ∧ s16 = .pointer (some ⟨q, 0, none⟩) ∧ Has wx p I0 I1 ∧ Has wx q J0 J1 ∧ Q W4 wx)
  case first =>
    go_region_held3 (fun w' => Q W4 w' ∧ w'.cell? ⟨g5, 0, none⟩ = some (.int .i64 s0) ∧ w'.cell? ⟨g5, 1, none⟩ = some (.int .i64 s1) ∧ w'.cell? ⟨g7, 0, none⟩ = some (.int .i64 c0) ∧ w'.cell? ⟨g7, 1, none⟩ = some (.int .i64 c1) ∧ w'.cell? ⟨g9, 0, none⟩ = some (.int .i64 t0) ∧ w'.cell? ⟨g9, 1, none⟩ = some (.int .i64 t1) ∧ w'.cell? ⟨g11, 0, none⟩ = some (.int .i64 d0) ∧ w'.cell? ⟨g11, 1, none⟩ = some (.int .i64 d1))
      ((refine keep8 B5 B7 B9 B11 ?_; repeat (first | assumption | exact Q.refl _ | exact And.left (a := Q W4 _) (by assumption) | apply Q.alloc | apply Q.drew | (refine Q.setCell ?_ (by dsimp only; omega) _))))
      (first
        | (go_at_call_of 21 c0; refine (q9.out _).mono ?_; rintro e wa ⟨rfl, Qa1⟩; have Qb1 := Q.trans (a := W4) (by repeat (first | assumption | exact Q.refl _ | exact And.left (a := Q W4 _) (by assumption) | apply Q.alloc | apply Q.drew)) Qa1; obtain ⟨o1, o2, o3⟩ := Qa1.old; have yy := Qb1.size; (try simp at o3); (try (have z1 : W4.heap.size < wa.heap.size := by omega)); (try (have z2 : W4.heap.size + 1 < wa.heap.size := by omega)))
        | (go_at_call_of 21 s0; refine (q10.out _).mono ?_; rintro e wb ⟨rfl, Qa2⟩; have Qb2 := Q.trans (a := W4) (by repeat (first | assumption | exact Q.refl _ | exact And.left (a := Q W4 _) (by assumption) | apply Q.alloc | apply Q.drew)) Qa2; obtain ⟨o1, o2, o3⟩ := Qa2.old; have yy := Qb2.size; (try simp at o3); (try (have z1 : W4.heap.size < wb.heap.size := by omega)); (try (have z2 : W4.heap.size + 1 < wb.heap.size := by omega)); (try (have z3 : wa.heap.size < wb.heap.size := by omega)); (try (have z4 : wa.heap.size + 1 < wb.heap.size := by omega))))
    all_goals
      try have n1 : W4.heap.size ≠ wa.heap.size := by omega
      try have n3 : W4.heap.size < wb.heap.size := by omega
      try have n4 : wa.heap.size < wb.heap.size := by omega
      clear B5 B7 B9 B11 B13 B14 q9 q10 q11 Sa Ca Sb Cb Sab Cab St Sr X1 X2 X3 X4 X5 X6 hs1 hs2 hs3 hs4 hc1 hc2 hc3 hc4 ha1 ha2 hb1 hb2 T L13 L14 QC o1 o2
      go_wp2_with fail
      go_meet
      refine ⟨_, _, rfl, rfl, ?h1, ?h2, ?h3⟩
      case h3 => repeat (first | with_reducible assumption | exact Q.refl _ | with_reducible apply Q.alloc | with_reducible (refine Q.setCell ?_ (by dsimp only; omega) _))
      case h1 =>
        clear Qb1 Qb2
        repeat (first
          | (with_reducible refine Has.newAt ?_; (simp; done))
          | with_reducible refine Has.drew ?_
          | with_reducible refine Has.store (x0 := 0) (y0 := 0) ?_ _ _
          | with_reducible refine Has.alloc ?_ _
          | (with_reducible refine Has.apart2 ?_ ?_ _ _; rotate_left; (solve | omega))
          | with_reducible refine Has.mono ?_ Qa1
          | with_reducible refine Has.mono ?_ Qa2)
      case h2 =>
        clear Qb1 Qb2
        repeat (first
          | (with_reducible refine Has.newAt ?_; (simp; done))
          | with_reducible refine Has.drew ?_
          | with_reducible refine Has.store (x0 := 0) (y0 := 0) ?_ _ _
          | with_reducible refine Has.alloc ?_ _
          | (with_reducible refine Has.apart2 ?_ ?_ _ _; rotate_left; (solve | omega))
          | with_reducible refine Has.mono ?_ Qa1
          | with_reducible refine Has.mono ?_ Qa2)
  case rest =>
    obtain ⟨p, q, rfl, rfl, BP, BQ, QW⟩ := hcut
    replace B5 := B5.mono QW
    replace B7 := B7.mono QW
    have z13 : g13 < W4.heap.size := B13.lt
    replace B13 := B13.mono QW
    replace B14 := B14.mono QW
    replace QC := QC.trans QW
    clear QW B9 B11 q9 q10 Sb Cb Sab Cab X1 X2
    obtain ⟨zp, kp0, kp1, _, _⟩ := id BP
    obtain ⟨zq, kq0, kq1, _, _⟩ := id BQ
    obtain ⟨z14, k0, k1, _, _⟩ := id B14
    have y3 := X3.out
    have y4 := X4.out
    have y5 := X5.out
    have y6 := X6.out
    go_wp2_with fail
    refine (q11.out _).mono ?_
    rintro e w7 ⟨rfl, Q7⟩
    replace B5 := B5.mono Q7
    replace B7 := B7.mono Q7
    replace B13 := B13.mono Q7
    replace B14 := B14.mono Q7
    replace QC := QC.trans Q7
    clear Q7 BP BQ zp kp0 kp1 zq kq0 kq1 z14 k0 k1 y3 y4 y5 y6
    have e3 : IntKind.i64.wrap (a + 360000000) = a + 360000000 := IntWalk.i64_in _ (by omega)
    have e4 : IntKind.i64.wrap (a + 90000000) = a + 90000000 := IntWalk.i64_in _ (by omega)
    go_wp2_with fail
    refine (St.out _).mono ?_
    rintro e w8 ⟨rfl, Q8⟩
    replace B5 := B5.mono Q8
    replace B7 := B7.mono Q8
    replace B13 := B13.mono Q8
    replace B14 := B14.mono Q8
    replace QC := QC.trans Q8
    clear Q8
    obtain ⟨z13, k0, k1, f0, f1⟩ := id B13
    go_wp2_with fail
    clear z13 k0 k1 f0 f1
    refine (Sr.out _).mono ?_
    rintro e w9 ⟨rfl, Q9⟩
    have C5 := (B5.apart2 (g' := g13) (by omega) (.int .i64 s0) (.int .i64 s1)).mono Q9
    have C7 := (B7.apart2 (g' := g13) (by omega) (.int .i64 s0) (.int .i64 s1)).mono Q9
    have C14 := (B14.apart2 (g' := g13) (by omega) (.int .i64 s0) (.int .i64 s1)).mono Q9
    have C13 := (B13.store s0 s1).mono Q9
    replace QC := ((QC.setCell (p := ⟨g13, 0, none⟩) L13 (.int .i64 s0)).setCell (p := ⟨g13, 1, none⟩) L13 (.int .i64 s1)).trans Q9
    clear Q9 B5 B7 B14 B13
    obtain ⟨z14, m0, m1, mf0, mf1⟩ := id C14
    go_upto_region 20 with fail
    clear z14 m0 m1 mf0 mf1
    have L14' : w.heap.size ≤ g14 := by omega
    replace C5 := C5.apart2 (g' := g14) (by omega) (.int .i64 c0) (.int .i64 c1)
    replace C7 := C7.apart2 (g' := g14) (by omega) (.int .i64 c0) (.int .i64 c1)
    replace C13 := C13.apart2 (g' := g14) (by omega) (.int .i64 c0) (.int .i64 c1)
    replace C14 := C14.store c0 c1
    replace QC := ((QC.setCell (p := ⟨g14, 0, none⟩) L14' (.int .i64 c0)).setCell (p := ⟨g14, 1, none⟩) L14' (.int .i64 c1))
    generalize (w9.setCell ⟨g14, 0, none⟩ (.int .i64 c0)).setCell ⟨g14, 1, none⟩ (.int .i64 c1) = w10 at *
    have T10 := T.mono QC
    have QH := Lib.hid QC
    clear QC T L14' L14 L13 d5 d7 ha1 ha2 hb1 hb2 hs1 hs2 hs3 hs4 hc1 hc2 hc3 hc4
    obtain ⟨_, k50, k51, _, _⟩ := C5
    obtain ⟨_, k70, k71, _, _⟩ := C7
    obtain ⟨_, kc0, kc1, _, _⟩ := C13
    obtain ⟨_, kd0, kd1, _, _⟩ := C14
    have he := encl_eq
    go_wp2_with fail
    refine (Awake_any _ T10).mono ?_
    rintro e w11 ⟨rfl, Q11⟩
    go_wp2_with fail
    go_ret
    exact ⟨rfl, QH.out.trans Q11⟩

end Go.Proofs.YtjbhnjnlpekpoaaDoor
