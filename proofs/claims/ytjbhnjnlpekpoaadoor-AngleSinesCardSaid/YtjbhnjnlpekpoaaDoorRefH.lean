/-
  The reference's down, passes, sines, SinOf, CosOf: they are the program's.
-/
import Derived.Test.YtjbhnjnlpekpoaaDoorRefG
import Derived.Test.YtjbhnjnlpekpoaaDoorEnclP
import Derived.Deep.RegionHeld3
import Derived.Deep.DeepCutAuto
namespace Go.Proofs.YtjbhnjnlpekpoaaDoor
open Go.RowKit Go.Sort
set_option linter.unusedVariables false

theorem tdiv_parts (n d : Int) (hd : 0 < d) (hn : n < 0) : (n.tmod d = 0 ∧ n.tdiv d = n / d) ∨ (n.tmod d ≠ 0 ∧ n.tdiv d - 1 = n / d) := by
  have e1 := Int.mul_tdiv_add_tmod n d
  have b1 := Int.lt_tmod_of_pos n hd
  have b2 := Int.tmod_lt_of_pos n hd
  have b3 : n.tmod d ≤ 0 := by
    have e : n = -(-n) := by omega
    have := Int.tmod_nonneg d (show 0 ≤ -n by omega)
    rw [e, Int.neg_tmod]
    omega
  by_cases h : n.tmod d = 0
  · left
    refine ⟨h, ?_⟩
    rw [h, Int.add_zero] at e1
    rw [← e1]
    rw [Int.mul_tdiv_cancel_left _ (by omega), Int.mul_ediv_cancel_left _ (by omega)]
  · right
    refine ⟨h, ?_⟩
    have k : n = (n.tmod d + d) + d * (n.tdiv d - 1) := by rw [Int.mul_sub, Int.mul_one]; omega
    have : n / d = (n.tmod d + d) / d + (n.tdiv d - 1) := by
      conv => lhs; rw [k]
      rw [Int.add_mul_ediv_left _ _ (by omega)]
    rw [this, Int.ediv_eq_zero_of_lt (by omega) (by omega)]
    omega

theorem tdiv_bd (n d : Int) (hd : 0 < d) (h : -9000000000000000000 ≤ n ∧ n ≤ 9000000000000000000) : -9000000000000000000 ≤ n.tdiv d ∧ n.tdiv d ≤ 9000000000000000000 ∧ -9000000000000000000 ≤ n.tmod d ∧ n.tmod d ≤ 9000000000000000000 := by
  have a := Int.natAbs_tdiv_le_natAbs n d
  have b := Int.natAbs_tmod n d
  have c : n.natAbs % d.natAbs ≤ n.natAbs := Nat.mod_le _ _
  omega

set_option maxRecDepth 100000 in
set_option maxHeartbeats 1000000 in
theorem refdown_any (n d : Int) (w : World) (hd : 0 < d) (hn : -9000000000000000000 ≤ n ∧ n ≤ 9000000000000000000) (hd2 : d ≤ 9000000000000000000) :
    Calls Tryd.prog 88 #[.int .i64 n, .int .i64 d] w fun e w' => e = .returned (.int .i64 (n / d)) ∧ w' = w := by
  obtain ⟨c1, c2, c3, c4⟩ := tdiv_bd n d hd hn
  have q0 : (d == 0) = false := by simp; omega
  by_cases h0 : 0 ≤ n
  · have t1 : n.tdiv d = n / d := Int.tdiv_eq_ediv_of_nonneg h0
    rw [t1] at c1 c2
    have e1 : wrap64 (n.tdiv d) = n / d := by rw [t1]; exact IntWalk.wrap64_in _ (by omega)
    have e2 : IntKind.i64.wrap (n.tdiv d) = n / d := by rw [t1]; exact IntWalk.i64_in _ (by omega)
    have e3 : wrap64 (n / d) = n / d := IntWalk.wrap64_in _ (by omega)
    clear t1 c3 c4
    generalize n / d = q at *
    go_enter Tryd.func88, Tryd.ntmps88
    go_wp2_with fail
    go_ret
    exact ⟨rfl, rfl⟩
  · have P := tdiv_parts n d hd (by omega)
    have e1 : wrap64 (n.tdiv d) = n.tdiv d := IntWalk.wrap64_in _ (by omega)
    have e2 : IntKind.i64.wrap (n.tdiv d) = n.tdiv d := IntWalk.i64_in _ (by omega)
    have e3 : wrap64 (n.tmod d) = n.tmod d := IntWalk.wrap64_in _ (by omega)
    have e4 : IntKind.i64.wrap (n.tmod d) = n.tmod d := IntWalk.i64_in _ (by omega)
    rcases P with ⟨p1, p2⟩ | ⟨p1, p2⟩
    · have u1 : (n.tmod d == 0) = true := by simp [p1]
      have u2 : (n.tmod d != 0) = false := by simp [p1]
      have HP := Lib.hid p2
      clear p1 p2
      go_enter Tryd.func88, Tryd.ntmps88
      go_wp2_with fail
      go_ret
      exact ⟨by rw [← HP.out]; rfl, rfl⟩
    · have u1 : (n.tmod d == 0) = false := by simp [p1]
      have u2 : (n.tmod d != 0) = true := by simp [p1]
      have HP := Lib.hid p2
      clear p1 p2
      go_enter Tryd.func88, Tryd.ntmps88
      go_wp2_with fail
      go_ret
      exact ⟨by rw [← HP.out]; rfl, rfl⟩

def passB (lo hi a : Int) : Bool := decide ((lo - 1 - a) / 360000000 < (hi - a) / 360000000)

set_option maxRecDepth 100000 in
theorem passes_any (lo hi a : Int) (w : World) (h1 : -4000000000 ≤ lo ∧ lo ≤ 4000000000) (h2 : -4000000000 ≤ hi ∧ hi ≤ 4000000000) (h3 : 0 ≤ a ∧ a ≤ 360000000) :
    Calls Tryd.prog 85 #[.int .i64 lo, .int .i64 hi, .int .i64 a] w fun e w' => e = .returned (.bool (passB lo hi a)) ∧ w' = w := by
  generalize hb : passB lo hi a = b
  have HB := Lib.hid hb
  clear hb
  go_enter Tryd.func85, Tryd.ntmps85
  go_wp2_with fail
  refine (refdown_any (hi - a) 360000000 _ (by omega) (by omega) (by omega)).mono ?_
  rintro e w1 ⟨rfl, rfl⟩
  go_wp2_with fail
  refine (refdown_any (lo - 1 - a) 360000000 _ (by omega) (by omega) (by omega)).mono ?_
  rintro e w2 ⟨rfl, rfl⟩
  go_wp2_with fail
  go_ret
  exact ⟨by rw [← HB.out]; rfl, rfl⟩

theorem pass_next (lo hi a : Int) (h : lo ≤ hi) : passB lo hi a = decide (nextP lo a ≤ hi) := by
  unfold passB nextP
  exact decide_eq_decide.2 (by omega)

theorem keep2 {W W' : World} {g : Nat} {x y : Int} (B : Has W g x y) (q : Q W W') : Q W W' ∧ W'.cell? ⟨g, 0, none⟩ = some (.int .i64 x) ∧ W'.cell? ⟨g, 1, none⟩ = some (.int .i64 y) :=
  ⟨q, (B.mono q).c0, (B.mono q).c1⟩

set_option maxRecDepth 100000 in
set_option maxHeartbeats 4000000 in
theorem sines_walk (x y A B : Int) (w : World) (hxy : x ≤ y) (h1 : -3600000000 ≤ x ∧ x ≤ 3690000000) (h2 : -3600000000 ≤ y ∧ y ≤ 3690000000) (hA : Hid (A = allLo x y)) (hB : Hid (B = allHi x y)) :
    Calls Tryd.prog 57 #[encl x y] w fun e w' => e = .returned (encl A B) ∧ Q w w' := by
  have S1 := Lib.hid (fun W => refsine_any x W (by omega) (by omega))
  have S2 := Lib.hid (fun W => refsine_any y W (by omega) (by omega))
  have hA := allLo_hid hA
  have hB := allHi_hid hB
  generalize Trig.sineLo x = s0 at *
  generalize Trig.sineHi x = s1 at *
  generalize Trig.sineLo y = t0 at *
  generalize Trig.sineHi y = t1 at *
  go_enter Tryd.func57, Tryd.ntmps57
  go_upto_region 1 with fail
  have B1 : Has ((w.alloc (.cells #[.int .i64 x, .int .i64 y] 24)).alloc (.cells #[.int .i64 0, .int .i64 0] 24)) w.heap.size x y := (Has.new w x y 24).alloc _
  have B2 : Has ((w.alloc (.cells #[.int .i64 x, .int .i64 y] 24)).alloc (.cells #[.int .i64 0, .int .i64 0] 24)) (w.heap.size + 1) 0 0 := Has.newAt (by simp)
  have QC := ((Q.refl w).alloc (.cells #[.int .i64 x, .int .i64 y] 24)).alloc (.cells #[.int .i64 0, .int .i64 0] 24)
  generalize (w.alloc (.cells #[.int .i64 x, .int .i64 y] 24)).alloc (.cells #[.int .i64 0, .int .i64 0] 24) = W4 at *
  have z1 := B1.lt
  go_cut [3, 4] (fun s3 s4 wx => ∃ p q : Nat, s3 = .pointer (some ⟨p, 0, none⟩) ∧ s4 = .pointer (some ⟨q, 0, none⟩) ∧ W4.heap.size ≤ p ∧ W4.heap.size ≤ q ∧ Has wx p s0 s1 ∧ Has wx q t0 t1 ∧ Q W4 wx)
  case first =>
    go_region_held3 (fun w' => Q W4 w' ∧ w'.cell? ⟨w.heap.size, 0, none⟩ = some (.int .i64 x) ∧ w'.cell? ⟨w.heap.size, 1, none⟩ = some (.int .i64 y))
      ((refine keep2 B1 ?_; repeat (first | assumption | exact Q.refl _ | exact And.left (a := Q W4 _) (by assumption) | apply Q.alloc | apply Q.drew | (refine Q.setCell ?_ (by dsimp only; omega) _))))
      (first
        | (go_at_call_of 55 x; refine (S1.out _).mono ?_; rintro e wa ⟨rfl, Qa1⟩; have Qb1 := Q.trans (a := W4) (by repeat (first | assumption | exact Q.refl _ | exact And.left (a := Q W4 _) (by assumption) | apply Q.alloc | apply Q.drew)) Qa1; obtain ⟨o1, o2, o3⟩ := Qa1.old; have yy := Qb1.size; (try simp at o3); (try (have z1 : W4.heap.size < wa.heap.size := by omega)); (try (have z2 : W4.heap.size + 1 < wa.heap.size := by omega)))
        | (go_at_call_of 55 y; refine (S2.out _).mono ?_; rintro e wb ⟨rfl, Qa2⟩; have Qb2 := Q.trans (a := W4) (by repeat (first | assumption | exact Q.refl _ | exact And.left (a := Q W4 _) (by assumption) | apply Q.alloc | apply Q.drew)) Qa2; obtain ⟨o1, o2, o3⟩ := Qa2.old; have yy := Qb2.size; (try simp at o3); (try (have z1 : W4.heap.size < wb.heap.size := by omega)); (try (have z2 : W4.heap.size + 1 < wb.heap.size := by omega)); (try (have z3 : wa.heap.size < wb.heap.size := by omega)); (try (have z4 : wa.heap.size + 1 < wb.heap.size := by omega))))
    all_goals
      try have n1 : W4.heap.size ≠ wa.heap.size := by omega
      try have n3 : W4.heap.size < wb.heap.size := by omega
      try have n4 : wa.heap.size < wb.heap.size := by omega
      clear B1 B2 S1 S2 hA hB h1 h2 hxy QC o1 o2
      go_wp2_with fail
      go_meet
      refine ⟨_, _, rfl, rfl, ?h4, ?h5, ?h1, ?h2, ?h3⟩
      case h4 => first | omega | (simp; omega)
      case h5 => first | omega | (simp; omega)
      case h3 => repeat (first | with_reducible assumption | exact Q.refl _ | with_reducible apply Q.alloc | with_reducible apply Q.drew | with_reducible (refine Q.setCell ?_ (by dsimp only; omega) _))
      case h1 =>
        clear Qb1 Qb2
        repeat (first
          | (with_reducible refine Has.newAt ?_; (simp; done))
          | with_reducible refine Has.drew ?_
          | with_reducible refine Has.store (x0 := 0) (y0 := 0) ?_ _ _
          | with_reducible refine Has.alloc ?_ _
          | (with_reducible refine Has.apart2 ?_ ?_ _ _; rotate_left; (solve | omega))
          | with_reducible refine Has.mono ?_ Qa1
          | with_reducible refine Has.mono ?_ Qa2)
      case h2 =>
        clear Qb1 Qb2
        repeat (first
          | (with_reducible refine Has.newAt ?_; (simp; done))
          | with_reducible refine Has.drew ?_
          | with_reducible refine Has.store (x0 := 0) (y0 := 0) ?_ _ _
          | with_reducible refine Has.alloc ?_ _
          | (with_reducible refine Has.apart2 ?_ ?_ _ _; rotate_left; (solve | omega))
          | with_reducible refine Has.mono ?_ Qa1
          | with_reducible refine Has.mono ?_ Qa2)
  case rest =>
    obtain ⟨g3, g4, rfl, rfl, L3, L4, B3, B4, QW⟩ := hcut
    have z2 : w.heap.size + 1 < W4.heap.size := B2.lt
    replace B1 := B1.mono QW
    replace B2 := B2.mono QW
    replace QC := QC.trans QW
    clear QW S1 S2
    obtain ⟨za, ka0, ka1, _, _⟩ := id B3
    obtain ⟨zb, kb0, kb1, _, _⟩ := id B4
    have m2 := run_min2
    have x2 := run_max2
    go_upto_region 3 with fail
    clear za ka0 ka1 zb kb0 kb1 m2 x2 B3 B4
    generalize min s0 t0 = m at *
    generalize max s1 t1 = M at *
    have l25 : w.heap.size + 1 < wc.heap.size := B2.lt
    have L5 : w.heap.size ≤ wc.heap.size := QC.size
    replace B1 := B1.alloc (.cells #[.int .i64 m, .int .i64 M] 24)
    replace B2 := B2.alloc (.cells #[.int .i64 m, .int .i64 M] 24)
    have B5 := Has.new wc m M 24
    replace QC := QC.alloc (.cells #[.int .i64 m, .int .i64 M] 24)
    generalize wc.alloc (.cells #[.int .i64 m, .int .i64 M] 24) = w5 at *
    generalize wc.heap.size = g5 at *
    obtain ⟨z8, k80, k81, f80, f81⟩ := id B1
    go_wp2_with fail
    clear z8 k80 k81 f80 f81
    refine (passes_any x y 90000000 _ (by omega) (by omega) (by omega)).mono ?_
    rintro e w6 ⟨rfl, rfl⟩
    rw [pass_next x y 90000000 hxy]
    generalize nextP x 90000000 = n1 at *
    by_cases u1 : n1 ≤ y
    · rw [decide_eq_true u1]
      obtain ⟨z8, k80, k81, f80, f81⟩ := id B5
      go_upto_region 5 with fail
      clear z8 k80 k81 f80 f81
      replace B1 := B1.apart (g' := g5) (o := 1) (by omega) (.int .i64 100000000)
      replace B2 := B2.apart (g' := g5) (o := 1) (by omega) (.int .i64 100000000)
      replace B5 := B5.set1 100000000
      replace QC := QC.setCell (p := ⟨g5, 1, none⟩) L5 (.int .i64 100000000)
      generalize w6.setCell ⟨g5, 1, none⟩ (.int .i64 100000000) = v5 at *
      obtain ⟨z8, k80, k81, f80, f81⟩ := id B1
      go_wp2_with fail
      clear z8 k80 k81 f80 f81
      refine (passes_any x y 270000000 _ (by omega) (by omega) (by omega)).mono ?_
      rintro e w6 ⟨rfl, rfl⟩
      rw [pass_next x y 270000000 hxy]
      generalize nextP x 270000000 = n2 at *
      by_cases u2 : n2 ≤ y
      · rw [decide_eq_true u2]
        obtain ⟨z8, k80, k81, f80, f81⟩ := id B5
        go_upto_region 7 with fail
        clear z8 k80 k81 f80 f81
        replace B2 := B2.apart (g' := g5) (o := 0) (by omega) (.int .i64 (-100000000))
        replace B5 := B5.set0 (-100000000)
        replace QC := QC.setCell (p := ⟨g5, 0, none⟩) L5 (.int .i64 (-100000000))
        generalize w6.setCell ⟨g5, 0, none⟩ (.int .i64 (-100000000)) = v6 at *
        obtain ⟨z8, k80, k81, f80, f81⟩ := id B5
        obtain ⟨z4, k40, k41, f40, f41⟩ := id B2
        have R := B2.store ((-100000000)) (100000000)
        replace QC := (QC.setCell (p := ⟨w.heap.size + 1, 0, none⟩) (by simp) (.int .i64 ((-100000000)))).setCell (p := ⟨w.heap.size + 1, 1, none⟩) (by simp) (.int .i64 (100000000))
        clear B2 B5 B1
        have ea : A = (-100000000) := by rw [hA.out]; exact if_pos u2
        have eb : B = 100000000 := by rw [hB.out]; exact if_pos u1
        have EA := Lib.hid ea
        have EB := Lib.hid eb
        clear hA hB ea eb u1 u2
        go_wp2_with fail
        generalize (v6.setCell ⟨w.heap.size + 1, 0, none⟩ (.int .i64 ((-100000000)))).setCell ⟨w.heap.size + 1, 1, none⟩ (.int .i64 (100000000)) = v7 at *
        obtain ⟨_, r0, r1, _, _⟩ := R
        exact bodyPost_ret (v := encl ((-100000000)) (100000000)) (by simp [results, Tryd.results57, go_sem, r0, r1]) rfl ⟨by rw [EA.out, EB.out], QC⟩
      · rw [decide_eq_false u2]
        go_upto_region 7 with fail
        obtain ⟨z8, k80, k81, f80, f81⟩ := id B5
        obtain ⟨z4, k40, k41, f40, f41⟩ := id B2
        have R := B2.store (m) (100000000)
        replace QC := (QC.setCell (p := ⟨w.heap.size + 1, 0, none⟩) (by simp) (.int .i64 (m))).setCell (p := ⟨w.heap.size + 1, 1, none⟩) (by simp) (.int .i64 (100000000))
        clear B2 B5 B1
        have ea : A = m := by rw [hA.out]; exact if_neg (by omega)
        have eb : B = 100000000 := by rw [hB.out]; exact if_pos u1
        have EA := Lib.hid ea
        have EB := Lib.hid eb
        clear hA hB ea eb u1 u2
        go_wp2_with fail
        generalize (w6.setCell ⟨w.heap.size + 1, 0, none⟩ (.int .i64 (m))).setCell ⟨w.heap.size + 1, 1, none⟩ (.int .i64 (100000000)) = v7 at *
        obtain ⟨_, r0, r1, _, _⟩ := R
        exact bodyPost_ret (v := encl (m) (100000000)) (by simp [results, Tryd.results57, go_sem, r0, r1]) rfl ⟨by rw [EA.out, EB.out], QC⟩
    · rw [decide_eq_false u1]
      go_upto_region 5 with fail
      obtain ⟨z8, k80, k81, f80, f81⟩ := id B1
      go_wp2_with fail
      clear z8 k80 k81 f80 f81
      refine (passes_any x y 270000000 _ (by omega) (by omega) (by omega)).mono ?_
      rintro e w6 ⟨rfl, rfl⟩
      rw [pass_next x y 270000000 hxy]
      generalize nextP x 270000000 = n2 at *
      by_cases u2 : n2 ≤ y
      · rw [decide_eq_true u2]
        obtain ⟨z8, k80, k81, f80, f81⟩ := id B5
        go_upto_region 7 with fail
        clear z8 k80 k81 f80 f81
        replace B2 := B2.apart (g' := g5) (o := 0) (by omega) (.int .i64 (-100000000))
        replace B5 := B5.set0 (-100000000)
        replace QC := QC.setCell (p := ⟨g5, 0, none⟩) L5 (.int .i64 (-100000000))
        generalize w6.setCell ⟨g5, 0, none⟩ (.int .i64 (-100000000)) = v6 at *
        obtain ⟨z8, k80, k81, f80, f81⟩ := id B5
        obtain ⟨z4, k40, k41, f40, f41⟩ := id B2
        have R := B2.store ((-100000000)) (M)
        replace QC := (QC.setCell (p := ⟨w.heap.size + 1, 0, none⟩) (by simp) (.int .i64 ((-100000000)))).setCell (p := ⟨w.heap.size + 1, 1, none⟩) (by simp) (.int .i64 (M))
        clear B2 B5 B1
        have ea : A = (-100000000) := by rw [hA.out]; exact if_pos u2
        have eb : B = M := by rw [hB.out]; exact if_neg (by omega)
        have EA := Lib.hid ea
        have EB := Lib.hid eb
        clear hA hB ea eb u1 u2
        go_wp2_with fail
        generalize (v6.setCell ⟨w.heap.size + 1, 0, none⟩ (.int .i64 ((-100000000)))).setCell ⟨w.heap.size + 1, 1, none⟩ (.int .i64 (M)) = v7 at *
        obtain ⟨_, r0, r1, _, _⟩ := R
        exact bodyPost_ret (v := encl ((-100000000)) (M)) (by simp [results, Tryd.results57, go_sem, r0, r1]) rfl ⟨by rw [EA.out, EB.out], QC⟩
      · rw [decide_eq_false u2]
        go_upto_region 7 with fail
        obtain ⟨z8, k80, k81, f80, f81⟩ := id B5
        obtain ⟨z4, k40, k41, f40, f41⟩ := id B2
        have R := B2.store (m) (M)
        replace QC := (QC.setCell (p := ⟨w.heap.size + 1, 0, none⟩) (by simp) (.int .i64 (m))).setCell (p := ⟨w.heap.size + 1, 1, none⟩) (by simp) (.int .i64 (M))
        clear B2 B5 B1
        have ea : A = m := by rw [hA.out]; exact if_neg (by omega)
        have eb : B = M := by rw [hB.out]; exact if_neg (by omega)
        have EA := Lib.hid ea
        have EB := Lib.hid eb
        clear hA hB ea eb u1 u2
        go_wp2_with fail
        generalize (w6.setCell ⟨w.heap.size + 1, 0, none⟩ (.int .i64 (m))).setCell ⟨w.heap.size + 1, 1, none⟩ (.int .i64 (M)) = v7 at *
        obtain ⟨_, r0, r1, _, _⟩ := R
        exact bodyPost_ret (v := encl (m) (M)) (by simp [results, Tryd.results57, go_sem, r0, r1]) rfl ⟨by rw [EA.out, EB.out], QC⟩

end Go.Proofs.YtjbhnjnlpekpoaaDoor
