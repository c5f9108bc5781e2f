/-
  The walk of AngleFractions.
-/
import Derived.Test.YtjbhnjnlpekpoaaDoorFracP
import Derived.Test.YtjbhnjnlpekpoaaDoorEnclA
namespace Go.Proofs.YtjbhnjnlpekpoaaDoor
open Go.RowKit Go.Sort
set_option linter.unusedVariables false

theorem floor_fix (n d : Int) (hd : 0 < d) : (n.tmod d < 0 ∧ n.tdiv d - 1 = n / d ∧ n.tmod d + d = n % d) ∨ (¬ n.tmod d < 0 ∧ n.tdiv d = n / d ∧ n.tmod d = n % d) := by
  have e1 := Int.mul_tdiv_add_tmod n d
  have e2 := Int.mul_ediv_add_emod n d
  rcases Int.lt_or_le n 0 with h | h
  · have e : n = -(-n) := by omega
    have b := Int.tmod_nonneg d (show 0 ≤ -n by omega)
    have b3 : n.tmod d ≤ 0 := by rw [e, Int.neg_tmod]; omega
    rcases tdiv_parts n d hd h with ⟨p1, p2⟩ | ⟨p1, p2⟩
    · rw [p2] at e1
      exact .inr ⟨by omega, p2, by omega⟩
    · rw [← p2, Int.mul_sub, Int.mul_one] at e2
      exact .inl ⟨by omega, p2, by omega⟩
  · rw [Int.tdiv_eq_ediv_of_nonneg h, Int.tmod_eq_emod_of_nonneg h]
    have := Int.emod_nonneg n (b := d) (by omega)
    exact .inr ⟨by omega, rfl, rfl⟩

/-- a block of two bytes -/
structure HasU (W : World) (g : Nat) (x y : Int) : Prop where
  lt : g < W.heap.size
  c0 : W.cell? ⟨g, 0, none⟩ = some (.int .u8 x)
  c1 : W.cell? ⟨g, 1, none⟩ = some (.int .u8 y)
theorem HasU.newAt {W : World} {g : Nat} {x y : Int} {t : TypeId} (h : g = W.heap.size) : HasU (W.alloc (.cells #[.int .u8 x, .int .u8 y] t)) g x y := by
  subst h; exact ⟨by simp, by simp [go_sem], by simp [go_sem]⟩
theorem HasU.mono {W W' : World} {g : Nat} {x y : Int} (h : HasU W g x y) (q : Q W W') : HasU W' g x y :=
  ⟨Nat.lt_of_lt_of_le h.lt q.size, by rw [q.cell _ h.lt]; exact h.c0, by rw [q.cell _ h.lt]; exact h.c1⟩

set_option maxRecDepth 100000 in
set_option maxHeartbeats 4000000 in
theorem frac_in (x0 x1 y0 y1 f0 f1 p a p' b A1 B1 e1 A2 B2 e2 : Int) (w : World) (T : Tables w) 
    (hx : -3000000000 ≤ x0 ∧ x1 ≤ 3000000000 ∧ x0 ≤ x1) (hy : -3000000000 ≤ y0 ∧ y1 ≤ 3000000000 ∧ y0 ≤ y1) (hf0 : 0 ≤ f0 ∧ f0 ≤ 255) (hf1 : 0 ≤ f1 ∧ f1 ≤ 255)
    (hp : Hid ((x1 - x0) * f0 = p)) (hp0 : 0 ≤ p ∧ p ≤ 1900000000000) (ha : Hid (x0 + p / 255 = a)) (hp' : Hid ((y1 - y0) * f1 = p')) (hp0' : 0 ≤ p' ∧ p' ≤ 1900000000000) (hb : Hid (y0 + p' / 255 = b))
    (h1 : e1 = 0 → (A1 * 100000000 ≤ a * b ∧ a * b ≤ B1 * 100000000) ∧ (-3000000000 ≤ A1 ∧ A1 ≤ 3000000000) ∧ (-3000000000 ≤ B1 ∧ B1 ≤ 3000000000)) (hab : -9000000000000000000 ≤ a * b ∧ a * b ≤ 9000000000000000000)
    (hra : -3000000000 ≤ a ∧ a ≤ 3000000000) (hrb : y0 ≤ b ∧ b ≤ y1) (h2 : e2 = 0 → A2 ≤ nn a b / bb b ∧ nn a b / bb b ≤ B2 ∧ (B2 = nn a b / bb b → nn a b % bb b ≤ 0)) (h3 : e2 = 8 ↔ (y0 ≤ 0 ∧ 0 ≤ y1))
    (CT : FC 32 #[encl x0 x1, encl y0 y1] (.tuple #[encl A1 B1, .int .i64 e1])) (CO : FC 33 #[encl x0 x1, encl y0 y1] (.tuple #[encl A2 B2, .int .i64 e2])) :
    Calls Tryd.prog 7 #[encl x0 x1, encl y0 y1, .agg #[.int .u8 f0, .int .u8 f1]] w fun e w' => e = .returned (.bool true) ∧ Q w w' := by
  have H1 := Lib.hid h1
  have H2 := Lib.hid h2
  have H3 := Lib.hid h3
  have HAB := Lib.hid hab
  clear h1 h2 h3 hab
  go_enter Tryd.func7, Tryd.ntmps7
  go_upto_region 1 with fail
  generalize hW : ((w.alloc (Obj.cells #[Value.int IntKind.i64 x0, Value.int IntKind.i64 x1] 24)).alloc (Obj.cells #[Value.int IntKind.i64 y0, Value.int IntKind.i64 y1] 24)).alloc (Obj.cells #[Value.int IntKind.u8 f0, Value.int IntKind.u8 f1] 39) = W
  have B3 : Has W w.heap.size x0 x1 := by subst hW; exact ((Has.new w x0 x1 _).alloc _).alloc _
  have B4 : Has W (w.heap.size + 1) y0 y1 := by subst hW; exact (Has.newAt (by simp)).alloc _
  have B5 : HasU W (w.heap.size + 1 + 1) f0 f1 := by subst hW; exact HasU.newAt (by simp)
  have QC : Q w W := by subst hW; exact (((Q.refl w).alloc _).alloc _).alloc _
  clear hW
  obtain ⟨z3, k30, k31, f30, f31⟩ := id B3
  obtain ⟨z4, k40, k41, f40, f41⟩ := id B4
  go_wp2_with fail
  refine (CT.out _).mono ?_
  rintro e w1 ⟨rfl, Q1⟩
  replace B3 := B3.mono Q1
  replace B4 := B4.mono Q1
  replace B5 := B5.mono Q1
  replace QC := QC.trans Q1
  clear Q1 z3 k30 k31 f30 f31 z4 k40 k41 f40 f41
  go_upto_region 2 with fail
  have L3 := B3.lt
  have L4 := B4.lt
  have L5 := B5.lt
  replace B3 := B3.alloc (.cells #[.int .i64 A1, .int .i64 B1] 24)
  replace B4 := B4.alloc (.cells #[.int .i64 A1, .int .i64 B1] 24)
  replace B5 := B5.mono ((Q.refl w1).alloc (.cells #[.int .i64 A1, .int .i64 B1] 24))
  have B7 := Has.new w1 A1 B1 24
  replace QC := QC.alloc (.cells #[.int .i64 A1, .int .i64 B1] 24)
  generalize w1.alloc (.cells #[.int .i64 A1, .int .i64 B1] 24) = v1 at *
  generalize w1.heap.size = g7 at *
  obtain ⟨z3, k30, k31, f30, f31⟩ := id B3
  obtain ⟨z4, k40, k41, f40, f41⟩ := id B4
  go_wp2_with fail
  refine (CO.out _).mono ?_
  rintro e w2 ⟨rfl, Q1⟩
  replace B3 := B3.mono Q1
  replace B4 := B4.mono Q1
  replace B5 := B5.mono Q1
  replace B7 := B7.mono Q1
  replace QC := QC.trans Q1
  clear Q1 z3 k30 k31 f30 f31 z4 k40 k41 f40 f41 CT CO
  go_upto_region 3 with fail
  have L7 := B7.lt
  have L3 := B3.lt
  have L4 := B4.lt
  have L5 := B5.lt
  replace B3 := B3.alloc (.cells #[.int .i64 A2, .int .i64 B2] 24)
  replace B4 := B4.alloc (.cells #[.int .i64 A2, .int .i64 B2] 24)
  replace B5 := B5.mono ((Q.refl w2).alloc (.cells #[.int .i64 A2, .int .i64 B2] 24))
  replace B7 := B7.alloc (.cells #[.int .i64 A2, .int .i64 B2] 24)
  have B9 := Has.new w2 A2 B2 24
  replace QC := QC.alloc (.cells #[.int .i64 A2, .int .i64 B2] 24)
  generalize w2.alloc (.cells #[.int .i64 A2, .int .i64 B2] 24) = v2 at *
  generalize w2.heap.size = g9 at *
  obtain ⟨z3, k30, k31, f30, f31⟩ := id B3
  obtain ⟨z4, k40, k41, f40, f41⟩ := id B4
  obtain ⟨z5, k50, k51⟩ := id B5
  obtain ⟨z7, k70, k71, f70, f71⟩ := id B7
  obtain ⟨z9, k90, k91, f90, f91⟩ := id B9
  have i1 : ¬ x1 < x0 := by omega
  have i2 : ¬ y1 < y0 := by omega
  have i3 : ¬ x0 < -3000000000 := by omega
  have i4 : ¬ 3000000000 < x1 := by omega
  have i5 : ¬ y0 < -3000000000 := by omega
  have i6 : ¬ 3000000000 < y1 := by omega
  go_upto_region 5 with fail
  clear i1 i2 i3 i4 i5 i6
  have hpo := hp.out
  have hpo' := hp'.out
  have d1 : IntKind.i64.wrap (x1 - x0) = x1 - x0 := IntWalk.i64_in _ (by omega)
  have d2 : IntKind.i64.wrap (y1 - y0) = y1 - y0 := IntWalk.i64_in _ (by omega)
  have d3 : IntKind.i64.wrap p = p := IntWalk.i64_in _ (by omega)
  have d4 : IntKind.i64.wrap p' = p' := IntWalk.i64_in _ (by omega)
  have d5 : IntKind.i64.wrap (p / 255) = p / 255 := IntWalk.i64_in _ (by omega)
  have d6 : IntKind.i64.wrap (p' / 255) = p' / 255 := IntWalk.i64_in _ (by omega)
  have d7 : IntKind.i64.wrap (x0 + p / 255) = x0 + p / 255 := IntWalk.i64_in _ (by omega)
  have d8 : IntKind.i64.wrap (y0 + p' / 255) = y0 + p' / 255 := IntWalk.i64_in _ (by omega)
  have c1 : IntKind.i64.wrap f0 = f0 := IntWalk.i64_in _ (by omega)
  have c2 : IntKind.i64.wrap f1 = f1 := IntWalk.i64_in _ (by omega)
  have n1 : p.tdiv 255 = p / 255 := Int.tdiv_eq_ediv_of_nonneg hp0.1
  have n2 : p'.tdiv 255 = p' / 255 := Int.tdiv_eq_ediv_of_nonneg hp0'.1
  go_quiet (fail)
  clear c1 c2 n1 n2 d1 d2 d3 d4 d5 d6 d7 d8 hpo hpo' z5 k50 k51 B5
  have QW : Q v2 (v2.drewN nq) := (Q.refl v2).drewN nq
  replace B3 := B3.mono QW
  replace B4 := B4.mono QW
  replace B7 := B7.mono QW
  replace B9 := B9.mono QW
  replace QC := QC.trans QW
  clear QW z3 k30 k31 f30 f31 z4 k40 k41 f40 f41 z7 k70 k71 f70 f71 z9 k90 k91 f90 f91
  generalize v2.drewN nq = v3 at *
  have hao := ha.out
  have hbo := hb.out
  clear ha hb
  generalize x0 + p / 255 = a' at *
  generalize y0 + p' / 255 = b' at *
  subst hao hbo
  clear hp hp0 hp' hp0' hf0 hf1
  by_cases t1 : e1 = 0
  · obtain ⟨⟨u1, u2⟩, u3, u4⟩ := H1.out t1
    have hab := HAB.out
    have d1 : IntKind.i64.wrap (A1 * 100000000) = A1 * 100000000 := IntWalk.i64_in _ (by omega)
    have d2 : IntKind.i64.wrap (B1 * 100000000) = B1 * 100000000 := IntWalk.i64_in _ (by omega)
    have d3 : IntKind.i64.wrap (a' * b') = a' * b' := IntWalk.i64_in _ (by omega)
    have d4 : ¬ a' * b' < A1 * 100000000 := by omega
    have d5 : ¬ B1 * 100000000 < a' * b' := by omega
    clear H1 HAB u1 u2 u3 u4 hab
    obtain ⟨z7, k70, k71, f70, f71⟩ := id B7
    go_upto_region 8 with fail
    clear d1 d2 d3 d4 d5 z7 k70 k71 f70 f71 B7 t1
    by_cases t2 : e2 = 0
    · obtain ⟨u1, u2, u3⟩ := H2.out t2
      have nz : ¬ (y0 ≤ 0 ∧ 0 ≤ y1) := fun h => by have := H3.out.2 h; omega
      have t8 : (e2 == 8) = false := by simp [t2]
      clear H2 H3
      have d1 : IntKind.i64.wrap (a' * 100000000) = a' * 100000000 := IntWalk.i64_in _ (by omega)
      have hn1 : -300000000000000000 ≤ a' * 100000000 ∧ a' * 100000000 ≤ 300000000000000000 := by omega
      by_cases t3 : b' < 0
      · have t6 : y0 ≤ 0 := by omega
        have t7 : ¬ 0 ≤ y1 := fun h => nz ⟨t6, h⟩
        rw [show nn a' b' = -(a' * 100000000) from if_pos t3, show bb b' = -b' from if_pos t3] at u1 u2 u3
        clear d1
        obtain ⟨n1, en⟩ : ∃ n1, n1 = a' * 100000000 := ⟨_, rfl⟩
        obtain ⟨N, eN⟩ : ∃ N, N = -n1 := ⟨_, rfl⟩
        obtain ⟨D, eD⟩ : ∃ D, D = -b' := ⟨_, rfl⟩
        rw [← en, ← eN, ← eD] at u1 u2 u3
        rw [← en] at hn1
        have en' := en.symm
        have eN' := eN.symm
        have eD' := eD.symm
        have hD : 0 < D := by omega
        have hD2 : D ≤ 3000000000 := by omega
        have hN : -300000000000000000 ≤ N ∧ N ≤ 300000000000000000 := by omega
        have d1 : IntKind.i64.wrap n1 = n1 := IntWalk.i64_in _ (by omega)
        have d2 : IntKind.i64.wrap N = N := IntWalk.i64_in _ (by omega)
        have d3 : IntKind.i64.wrap D = D := IntWalk.i64_in _ (by omega)
        have d4 : wrap64 n1 = n1 := IntWalk.wrap64_in _ (by omega)
        have d5 : wrap64 N = N := IntWalk.wrap64_in _ (by omega)
        have d6 : wrap64 D = D := IntWalk.wrap64_in _ (by omega)
        clear en eN eD
        go_upto_region 12 with fail
        clear d1 d2 d3 d4 d5 d6 t2
        have hN' := hN
        have fx := floor_fix N D hD
        have bd := tdiv_bd N D hD (by omega)
        have dz : D ≠ 0 := by omega
        have dz' : (D == 0) = false := by simp [dz]
        obtain ⟨q, hq⟩ : ∃ q, q = N.tdiv D := ⟨_, rfl⟩
        obtain ⟨r, hr⟩ : ∃ r, r = N.tmod D := ⟨_, rfl⟩
        rw [← hq, ← hr] at fx bd
        have hq' := hq.symm
        have hr' := hr.symm
        have w1' : IntKind.i64.wrap q = q := IntWalk.i64_in _ (by omega)
        have w2' : IntKind.i64.wrap r = r := IntWalk.i64_in _ (by omega)
        have w3' : wrap64 q = q := IntWalk.wrap64_in _ (by omega)
        have w4' : wrap64 r = r := IntWalk.wrap64_in _ (by omega)
        clear hq hr
        go_region
        clear w1' w2' w3' w4' dz dz' hq' hr'
        replace B4 := B4.drew
        replace B9 := B9.drew
        replace QC := QC.drew
        generalize v3.drew = v4 at *
        generalize N / D = qq at *
        generalize N % D = rr at *
        obtain ⟨g1, g2, g3⟩ | ⟨g1, g2, g3⟩ := fx
        · obtain ⟨z9, k90, k91, f90, f91⟩ := id B9
          obtain ⟨z4, k40, k41, f40, f41⟩ := id B4
          have g4 : IntKind.i64.wrap qq = qq := IntWalk.i64_in _ (by omega)
          have g5 : IntKind.i64.wrap rr = rr := IntWalk.i64_in _ (by omega)
          have c1 : ¬ qq < A2 := by omega
          have c2 : ¬ B2 < qq := by omega
          by_cases t5 : B2 = qq
          · have c3 : ¬ 0 < rr := by have := u3 t5; omega
            go_upto_region 17 with fail
            clear c1 c2 c3 t5 u1 u2 u3 g1 g2 g3 g4 g5 z9 k90 k91 f90 f91 B9
            clear hx hy hra hrb L3 L4 L5 L7 nz
            go_wp2_with fail
            refine (Awake_any _ (T.mono QC)).mono ?_
            rintro e w9 ⟨rfl, Q9⟩
            go_wp2_with fail
            go_ret
            exact ⟨rfl, QC.trans Q9⟩
          · go_upto_region 17 with fail
            clear c1 c2 t5 u1 u2 u3 g1 g2 g3 g4 g5 z9 k90 k91 f90 f91 B9
            clear hx hy hra hrb L3 L4 L5 L7 nz
            go_wp2_with fail
            refine (Awake_any _ (T.mono QC)).mono ?_
            rintro e w9 ⟨rfl, Q9⟩
            go_wp2_with fail
            go_ret
            exact ⟨rfl, QC.trans Q9⟩
        · obtain ⟨z9, k90, k91, f90, f91⟩ := id B9
          obtain ⟨z4, k40, k41, f40, f41⟩ := id B4
          have g4 : IntKind.i64.wrap qq = qq := IntWalk.i64_in _ (by omega)
          have g5 : IntKind.i64.wrap rr = rr := IntWalk.i64_in _ (by omega)
          have c1 : ¬ qq < A2 := by omega
          have c2 : ¬ B2 < qq := by omega
          by_cases t5 : B2 = qq
          · have c3 : ¬ 0 < rr := by have := u3 t5; omega
            go_upto_region 17 with fail
            clear c1 c2 c3 t5 u1 u2 u3 g1 g2 g3 g4 g5 z9 k90 k91 f90 f91 B9
            clear hx hy hra hrb L3 L4 L5 L7 nz
            go_wp2_with fail
            refine (Awake_any _ (T.mono QC)).mono ?_
            rintro e w9 ⟨rfl, Q9⟩
            go_wp2_with fail
            go_ret
            exact ⟨rfl, QC.trans Q9⟩
          · go_upto_region 17 with fail
            clear c1 c2 t5 u1 u2 u3 g1 g2 g3 g4 g5 z9 k90 k91 f90 f91 B9
            clear hx hy hra hrb L3 L4 L5 L7 nz
            go_wp2_with fail
            refine (Awake_any _ (T.mono QC)).mono ?_
            rintro e w9 ⟨rfl, Q9⟩
            go_wp2_with fail
            go_ret
            exact ⟨rfl, QC.trans Q9⟩
      · have t6 : ¬ y0 ≤ 0 := fun h => nz ⟨h, by omega⟩
        rw [show nn a' b' = a' * 100000000 from if_neg t3, show bb b' = b' from if_neg t3] at u1 u2 u3
        clear d1
        obtain ⟨N, en⟩ : ∃ n1, n1 = a' * 100000000 := ⟨_, rfl⟩
        rw [← en] at u1 u2 u3 hn1
        have en' := en.symm
        have hD : 0 < b' := by omega
        have hD2 : b' ≤ 3000000000 := by omega
        have d1 : IntKind.i64.wrap N = N := IntWalk.i64_in _ (by omega)
        have d2 : wrap64 N = N := IntWalk.wrap64_in _ (by omega)
        clear en
        go_upto_region 12 with fail
        clear d1 d2 t2
        generalize b' = D at *
        have hN := hn1
        have fx := floor_fix N D hD
        have bd := tdiv_bd N D hD (by omega)
        have dz : D ≠ 0 := by omega
        have dz' : (D == 0) = false := by simp [dz]
        obtain ⟨q, hq⟩ : ∃ q, q = N.tdiv D := ⟨_, rfl⟩
        obtain ⟨r, hr⟩ : ∃ r, r = N.tmod D := ⟨_, rfl⟩
        rw [← hq, ← hr] at fx bd
        have hq' := hq.symm
        have hr' := hr.symm
        have w1' : IntKind.i64.wrap q = q := IntWalk.i64_in _ (by omega)
        have w2' : IntKind.i64.wrap r = r := IntWalk.i64_in _ (by omega)
        have w3' : wrap64 q = q := IntWalk.wrap64_in _ (by omega)
        have w4' : wrap64 r = r := IntWalk.wrap64_in _ (by omega)
        clear hq hr
        go_region
        clear w1' w2' w3' w4' dz dz' hq' hr'
        replace B4 := B4.drew
        replace B9 := B9.drew
        replace QC := QC.drew
        generalize v3.drew = v4 at *
        generalize N / D = qq at *
        generalize N % D = rr at *
        obtain ⟨g1, g2, g3⟩ | ⟨g1, g2, g3⟩ := fx
        · obtain ⟨z9, k90, k91, f90, f91⟩ := id B9
          obtain ⟨z4, k40, k41, f40, f41⟩ := id B4
          have g4 : IntKind.i64.wrap qq = qq := IntWalk.i64_in _ (by omega)
          have g5 : IntKind.i64.wrap rr = rr := IntWalk.i64_in _ (by omega)
          have c1 : ¬ qq < A2 := by omega
          have c2 : ¬ B2 < qq := by omega
          by_cases t5 : B2 = qq
          · have c3 : ¬ 0 < rr := by have := u3 t5; omega
            go_upto_region 17 with fail
            clear c1 c2 c3 t5 u1 u2 u3 g1 g2 g3 g4 g5 z9 k90 k91 f90 f91 B9
            clear hx hy hra hrb L3 L4 L5 L7 nz
            go_wp2_with fail
            refine (Awake_any _ (T.mono QC)).mono ?_
            rintro e w9 ⟨rfl, Q9⟩
            go_wp2_with fail
            go_ret
            exact ⟨rfl, QC.trans Q9⟩
          · go_upto_region 17 with fail
            clear c1 c2 t5 u1 u2 u3 g1 g2 g3 g4 g5 z9 k90 k91 f90 f91 B9
            clear hx hy hra hrb L3 L4 L5 L7 nz
            go_wp2_with fail
            refine (Awake_any _ (T.mono QC)).mono ?_
            rintro e w9 ⟨rfl, Q9⟩
            go_wp2_with fail
            go_ret
            exact ⟨rfl, QC.trans Q9⟩
        · obtain ⟨z9, k90, k91, f90, f91⟩ := id B9
          obtain ⟨z4, k40, k41, f40, f41⟩ := id B4
          have g4 : IntKind.i64.wrap qq = qq := IntWalk.i64_in _ (by omega)
          have g5 : IntKind.i64.wrap rr = rr := IntWalk.i64_in _ (by omega)
          have c1 : ¬ qq < A2 := by omega
          have c2 : ¬ B2 < qq := by omega
          by_cases t5 : B2 = qq
          · have c3 : ¬ 0 < rr := by have := u3 t5; omega
            go_upto_region 17 with fail
            clear c1 c2 c3 t5 u1 u2 u3 g1 g2 g3 g4 g5 z9 k90 k91 f90 f91 B9
            clear hx hy hra hrb L3 L4 L5 L7 nz
            go_wp2_with fail
            refine (Awake_any _ (T.mono QC)).mono ?_
            rintro e w9 ⟨rfl, Q9⟩
            go_wp2_with fail
            go_ret
            exact ⟨rfl, QC.trans Q9⟩
          · go_upto_region 17 with fail
            clear c1 c2 t5 u1 u2 u3 g1 g2 g3 g4 g5 z9 k90 k91 f90 f91 B9
            clear hx hy hra hrb L3 L4 L5 L7 nz
            go_wp2_with fail
            refine (Awake_any _ (T.mono QC)).mono ?_
            rintro e w9 ⟨rfl, Q9⟩
            go_wp2_with fail
            go_ret
            exact ⟨rfl, QC.trans Q9⟩
    · by_cases t4 : y0 ≤ 0 ∧ 0 ≤ y1
      · have t5 := H3.out.2 t4
        obtain ⟨t6, t7⟩ := t4
        obtain ⟨z4, k40, k41, f40, f41⟩ := id B4
        clear H2 H3
        go_wp2_with fail
        refine (Awake_any _ (T.mono QC)).mono ?_
        rintro e w9 ⟨rfl, Q9⟩
        go_wp2_with fail
        go_ret
        exact ⟨rfl, QC.trans Q9⟩
      · have t5 : ¬ e2 = 8 := fun h => t4 (H3.out.1 h)
        have nz := t4
        have t8 : (e2 == 8) = false := by simp [t5]
        clear t5
        obtain ⟨z4, k40, k41, f40, f41⟩ := id B4
        clear H2 H3 t4
        clear hx hy hra hrb L3 L4 L5 L7
        by_cases t6 : y0 ≤ 0
        · have t7 : ¬ 0 ≤ y1 := fun h => nz ⟨t6, h⟩
          go_wp2_with fail
          refine (Awake_any _ (T.mono QC)).mono ?_
          rintro e w9 ⟨rfl, Q9⟩
          go_wp2_with fail
          go_ret
          exact ⟨rfl, QC.trans Q9⟩
        · clear nz
          go_wp2_with fail
          refine (Awake_any _ (T.mono QC)).mono ?_
          rintro e w9 ⟨rfl, Q9⟩
          go_wp2_with fail
          go_ret
          exact ⟨rfl, QC.trans Q9⟩
  · clear H1 HAB
    go_upto_region 8 with fail
    clear B7 t1
    by_cases t2 : e2 = 0
    · obtain ⟨u1, u2, u3⟩ := H2.out t2
      have nz : ¬ (y0 ≤ 0 ∧ 0 ≤ y1) := fun h => by have := H3.out.2 h; omega
      have t8 : (e2 == 8) = false := by simp [t2]
      clear H2 H3
      have d1 : IntKind.i64.wrap (a' * 100000000) = a' * 100000000 := IntWalk.i64_in _ (by omega)
      have hn1 : -300000000000000000 ≤ a' * 100000000 ∧ a' * 100000000 ≤ 300000000000000000 := by omega
      by_cases t3 : b' < 0
      · have t6 : y0 ≤ 0 := by omega
        have t7 : ¬ 0 ≤ y1 := fun h => nz ⟨t6, h⟩
        rw [show nn a' b' = -(a' * 100000000) from if_pos t3, show bb b' = -b' from if_pos t3] at u1 u2 u3
        clear d1
        obtain ⟨n1, en⟩ : ∃ n1, n1 = a' * 100000000 := ⟨_, rfl⟩
        obtain ⟨N, eN⟩ : ∃ N, N = -n1 := ⟨_, rfl⟩
        obtain ⟨D, eD⟩ : ∃ D, D = -b' := ⟨_, rfl⟩
        rw [← en, ← eN, ← eD] at u1 u2 u3
        rw [← en] at hn1
        have en' := en.symm
        have eN' := eN.symm
        have eD' := eD.symm
        have hD : 0 < D := by omega
        have hD2 : D ≤ 3000000000 := by omega
        have hN : -300000000000000000 ≤ N ∧ N ≤ 300000000000000000 := by omega
        have d1 : IntKind.i64.wrap n1 = n1 := IntWalk.i64_in _ (by omega)
        have d2 : IntKind.i64.wrap N = N := IntWalk.i64_in _ (by omega)
        have d3 : IntKind.i64.wrap D = D := IntWalk.i64_in _ (by omega)
        have d4 : wrap64 n1 = n1 := IntWalk.wrap64_in _ (by omega)
        have d5 : wrap64 N = N := IntWalk.wrap64_in _ (by omega)
        have d6 : wrap64 D = D := IntWalk.wrap64_in _ (by omega)
        clear en eN eD
        go_upto_region 12 with fail
        clear d1 d2 d3 d4 d5 d6 t2
        have hN' := hN
        have fx := floor_fix N D hD
        have bd := tdiv_bd N D hD (by omega)
        have dz : D ≠ 0 := by omega
        have dz' : (D == 0) = false := by simp [dz]
        obtain ⟨q, hq⟩ : ∃ q, q = N.tdiv D := ⟨_, rfl⟩
        obtain ⟨r, hr⟩ : ∃ r, r = N.tmod D := ⟨_, rfl⟩
        rw [← hq, ← hr] at fx bd
        have hq' := hq.symm
        have hr' := hr.symm
        have w1' : IntKind.i64.wrap q = q := IntWalk.i64_in _ (by omega)
        have w2' : IntKind.i64.wrap r = r := IntWalk.i64_in _ (by omega)
        have w3' : wrap64 q = q := IntWalk.wrap64_in _ (by omega)
        have w4' : wrap64 r = r := IntWalk.wrap64_in _ (by omega)
        clear hq hr
        go_region
        clear w1' w2' w3' w4' dz dz' hq' hr'
        replace B4 := B4.drew
        replace B9 := B9.drew
        replace QC := QC.drew
        generalize v3.drew = v4 at *
        generalize N / D = qq at *
        generalize N % D = rr at *
        obtain ⟨g1, g2, g3⟩ | ⟨g1, g2, g3⟩ := fx
        · obtain ⟨z9, k90, k91, f90, f91⟩ := id B9
          obtain ⟨z4, k40, k41, f40, f41⟩ := id B4
          have g4 : IntKind.i64.wrap qq = qq := IntWalk.i64_in _ (by omega)
          have g5 : IntKind.i64.wrap rr = rr := IntWalk.i64_in _ (by omega)
          have c1 : ¬ qq < A2 := by omega
          have c2 : ¬ B2 < qq := by omega
          by_cases t5 : B2 = qq
          · have c3 : ¬ 0 < rr := by have := u3 t5; omega
            go_upto_region 17 with fail
            clear c1 c2 c3 t5 u1 u2 u3 g1 g2 g3 g4 g5 z9 k90 k91 f90 f91 B9
            clear hx hy hra hrb L3 L4 L5 L7 nz
            go_wp2_with fail
            refine (Awake_any _ (T.mono QC)).mono ?_
            rintro e w9 ⟨rfl, Q9⟩
            go_wp2_with fail
            go_ret
            exact ⟨rfl, QC.trans Q9⟩
          · go_upto_region 17 with fail
            clear c1 c2 t5 u1 u2 u3 g1 g2 g3 g4 g5 z9 k90 k91 f90 f91 B9
            clear hx hy hra hrb L3 L4 L5 L7 nz
            go_wp2_with fail
            refine (Awake_any _ (T.mono QC)).mono ?_
            rintro e w9 ⟨rfl, Q9⟩
            go_wp2_with fail
            go_ret
            exact ⟨rfl, QC.trans Q9⟩
        · obtain ⟨z9, k90, k91, f90, f91⟩ := id B9
          obtain ⟨z4, k40, k41, f40, f41⟩ := id B4
          have g4 : IntKind.i64.wrap qq = qq := IntWalk.i64_in _ (by omega)
          have g5 : IntKind.i64.wrap rr = rr := IntWalk.i64_in _ (by omega)
          have c1 : ¬ qq < A2 := by omega
          have c2 : ¬ B2 < qq := by omega
          by_cases t5 : B2 = qq
          · have c3 : ¬ 0 < rr := by have := u3 t5; omega
            go_upto_region 17 with fail
            clear c1 c2 c3 t5 u1 u2 u3 g1 g2 g3 g4 g5 z9 k90 k91 f90 f91 B9
            clear hx hy hra hrb L3 L4 L5 L7 nz
            go_wp2_with fail
            refine (Awake_any _ (T.mono QC)).mono ?_
            rintro e w9 ⟨rfl, Q9⟩
            go_wp2_with fail
            go_ret
            exact ⟨rfl, QC.trans Q9⟩
          · go_upto_region 17 with fail
            clear c1 c2 t5 u1 u2 u3 g1 g2 g3 g4 g5 z9 k90 k91 f90 f91 B9
            clear hx hy hra hrb L3 L4 L5 L7 nz
            go_wp2_with fail
            refine (Awake_any _ (T.mono QC)).mono ?_
            rintro e w9 ⟨rfl, Q9⟩
            go_wp2_with fail
            go_ret
            exact ⟨rfl, QC.trans Q9⟩
      · have t6 : ¬ y0 ≤ 0 := fun h => nz ⟨h, by omega⟩
        rw [show nn a' b' = a' * 100000000 from if_neg t3, show bb b' = b' from if_neg t3] at u1 u2 u3
        clear d1
        obtain ⟨N, en⟩ : ∃ n1, n1 = a' * 100000000 := ⟨_, rfl⟩
        rw [← en] at u1 u2 u3 hn1
        have en' := en.symm
        have hD : 0 < b' := by omega
        have hD2 : b' ≤ 3000000000 := by omega
        have d1 : IntKind.i64.wrap N = N := IntWalk.i64_in _ (by omega)
        have d2 : wrap64 N = N := IntWalk.wrap64_in _ (by omega)
        clear en
        go_upto_region 12 with fail
        clear d1 d2 t2
        generalize b' = D at *
        have hN := hn1
        have fx := floor_fix N D hD
        have bd := tdiv_bd N D hD (by omega)
        have dz : D ≠ 0 := by omega
        have dz' : (D == 0) = false := by simp [dz]
        obtain ⟨q, hq⟩ : ∃ q, q = N.tdiv D := ⟨_, rfl⟩
        obtain ⟨r, hr⟩ : ∃ r, r = N.tmod D := ⟨_, rfl⟩
        rw [← hq, ← hr] at fx bd
        have hq' := hq.symm
        have hr' := hr.symm
        have w1' : IntKind.i64.wrap q = q := IntWalk.i64_in _ (by omega)
        have w2' : IntKind.i64.wrap r = r := IntWalk.i64_in _ (by omega)
        have w3' : wrap64 q = q := IntWalk.wrap64_in _ (by omega)
        have w4' : wrap64 r = r := IntWalk.wrap64_in _ (by omega)
        clear hq hr
        go_region
        clear w1' w2' w3' w4' dz dz' hq' hr'
        replace B4 := B4.drew
        replace B9 := B9.drew
        replace QC := QC.drew
        generalize v3.drew = v4 at *
        generalize N / D = qq at *
        generalize N % D = rr at *
        obtain ⟨g1, g2, g3⟩ | ⟨g1, g2, g3⟩ := fx
        · obtain ⟨z9, k90, k91, f90, f91⟩ := id B9
          obtain ⟨z4, k40, k41, f40, f41⟩ := id B4
          have g4 : IntKind.i64.wrap qq = qq := IntWalk.i64_in _ (by omega)
          have g5 : IntKind.i64.wrap rr = rr := IntWalk.i64_in _ (by omega)
          have c1 : ¬ qq < A2 := by omega
          have c2 : ¬ B2 < qq := by omega
          by_cases t5 : B2 = qq
          · have c3 : ¬ 0 < rr := by have := u3 t5; omega
            go_upto_region 17 with fail
            clear c1 c2 c3 t5 u1 u2 u3 g1 g2 g3 g4 g5 z9 k90 k91 f90 f91 B9
            clear hx hy hra hrb L3 L4 L5 L7 nz
            go_wp2_with fail
            refine (Awake_any _ (T.mono QC)).mono ?_
            rintro e w9 ⟨rfl, Q9⟩
            go_wp2_with fail
            go_ret
            exact ⟨rfl, QC.trans Q9⟩
          · go_upto_region 17 with fail
            clear c1 c2 t5 u1 u2 u3 g1 g2 g3 g4 g5 z9 k90 k91 f90 f91 B9
            clear hx hy hra hrb L3 L4 L5 L7 nz
            go_wp2_with fail
            refine (Awake_any _ (T.mono QC)).mono ?_
            rintro e w9 ⟨rfl, Q9⟩
            go_wp2_with fail
            go_ret
            exact ⟨rfl, QC.trans Q9⟩
        · obtain ⟨z9, k90, k91, f90, f91⟩ := id B9
          obtain ⟨z4, k40, k41, f40, f41⟩ := id B4
          have g4 : IntKind.i64.wrap qq = qq := IntWalk.i64_in _ (by omega)
          have g5 : IntKind.i64.wrap rr = rr := IntWalk.i64_in _ (by omega)
          have c1 : ¬ qq < A2 := by omega
          have c2 : ¬ B2 < qq := by omega
          by_cases t5 : B2 = qq
          · have c3 : ¬ 0 < rr := by have := u3 t5; omega
            go_upto_region 17 with fail
            clear c1 c2 c3 t5 u1 u2 u3 g1 g2 g3 g4 g5 z9 k90 k91 f90 f91 B9
            clear hx hy hra hrb L3 L4 L5 L7 nz
            go_wp2_with fail
            refine (Awake_any _ (T.mono QC)).mono ?_
            rintro e w9 ⟨rfl, Q9⟩
            go_wp2_with fail
            go_ret
            exact ⟨rfl, QC.trans Q9⟩
          · go_upto_region 17 with fail
            clear c1 c2 t5 u1 u2 u3 g1 g2 g3 g4 g5 z9 k90 k91 f90 f91 B9
            clear hx hy hra hrb L3 L4 L5 L7 nz
            go_wp2_with fail
            refine (Awake_any _ (T.mono QC)).mono ?_
            rintro e w9 ⟨rfl, Q9⟩
            go_wp2_with fail
            go_ret
            exact ⟨rfl, QC.trans Q9⟩
    · by_cases t4 : y0 ≤ 0 ∧ 0 ≤ y1
      · have t5 := H3.out.2 t4
        obtain ⟨t6, t7⟩ := t4
        obtain ⟨z4, k40, k41, f40, f41⟩ := id B4
        clear H2 H3
        go_wp2_with fail
        refine (Awake_any _ (T.mono QC)).mono ?_
        rintro e w9 ⟨rfl, Q9⟩
        go_wp2_with fail
        go_ret
        exact ⟨rfl, QC.trans Q9⟩
      · have t5 : ¬ e2 = 8 := fun h => t4 (H3.out.1 h)
        have nz := t4
        have t8 : (e2 == 8) = false := by simp [t5]
        clear t5
        obtain ⟨z4, k40, k41, f40, f41⟩ := id B4
        clear H2 H3 t4
        clear hx hy hra hrb L3 L4 L5 L7
        by_cases t6 : y0 ≤ 0
        · have t7 : ¬ 0 ≤ y1 := fun h => nz ⟨t6, h⟩
          go_wp2_with fail
          refine (Awake_any _ (T.mono QC)).mono ?_
          rintro e w9 ⟨rfl, Q9⟩
          go_wp2_with fail
          go_ret
          exact ⟨rfl, QC.trans Q9⟩
        · clear nz
          go_wp2_with fail
          refine (Awake_any _ (T.mono QC)).mono ?_
          rintro e w9 ⟨rfl, Q9⟩
          go_wp2_with fail
          go_ret
          exact ⟨rfl, QC.trans Q9⟩

end Go.Proofs.YtjbhnjnlpekpoaaDoor
