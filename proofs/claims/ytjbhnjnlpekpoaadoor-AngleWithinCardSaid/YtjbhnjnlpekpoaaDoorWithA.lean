/-
  AngleWithin returns true, whatever the enclosures and the two numbers.
-/
import Derived.Test.YtjbhnjnlpekpoaaDoorWithW
namespace Go.Proofs.YtjbhnjnlpekpoaaDoor
open Go.RowKit Go.Sort Trig
set_option linter.unusedVariables false

set_option maxRecDepth 100000 in
set_option maxHeartbeats 4000000 in
theorem with_out (y0 y1 z0 z1 p q : Int) (w : World) (T : Tables w) (h : y1 < y0 ∨ (¬ y1 < y0 ∧ y0 < -3600000000) ∨ (¬ y1 < y0 ∧ ¬ y0 < -3600000000 ∧ 3600000000 < y1)) :
    Calls Tryd.prog 11 #[encl y0 y1, encl z0 z1, .agg #[.int .u8 p, .int .u8 q]] w fun e w' => e = .returned (.bool true) ∧ Q w w' := by
  have m8 := run_min8
  have x8 := run_max8
  have H := Lib.hid h
  clear h
  go_enter Tryd.func11, Tryd.ntmps11
  go_upto_region 1 with fail
  generalize hW : ((w.alloc (Obj.cells #[Value.int IntKind.i64 y0, Value.int IntKind.i64 y1] 24)).alloc (Obj.cells #[Value.int IntKind.i64 z0, Value.int IntKind.i64 z1] 24)).alloc (Obj.cells #[Value.int IntKind.u8 p, Value.int IntKind.u8 q] 39) = W
  have B3 : Has W w.heap.size y0 y1 := by subst hW; exact ((Has.new w y0 y1 _).alloc _).alloc _
  have B5 : HasB W (w.heap.size + 1 + 1) p q := by subst hW; exact HasB.newAt (by simp)
  have QC : Q w W := by subst hW; exact (((Q.refl w).alloc _).alloc _).alloc _
  clear hW
  obtain ⟨z5, k50, k51⟩ := id B5
  go_quiet (fail)
  have QW : Q W (W.drewN nq) := (Q.refl W).drewN nq
  replace B3 := B3.mono QW
  replace QC := QC.trans QW
  clear QW z5 k50 k51 B5 m8 x8
  generalize W.drewN nq = v1 at *
  have T1 := T.mono QC
  obtain ⟨z3, k30, k31, f30, f31⟩ := id B3
  rcases H.out with h | ⟨h1, h2⟩ | ⟨h1, h2, h3⟩
  all_goals
    clear H T B3
    go_wp2_with fail
    refine (Awake_any _ T1).mono ?_
    rintro e w4 ⟨rfl, Q4⟩
    go_wp2_with fail
    go_ret
    exact ⟨rfl, QC.trans Q4⟩

abbrev ofRes (x y more A B er : Int) : Prop := (wildB x y 3600000000 = true ∧ A = 0 ∧ B = 0 ∧ er = 7) ∨ (wildB x y 3600000000 = false ∧ A = allLo (x + more) (y + more) ∧ B = allHi (x + more) (y + more) ∧ er = 0)
theorem ofRes_ex (x y more : Int) : ∃ A B er, ofRes x y more A B er := by
  cases h : wildB x y 3600000000 with
  | true => exact ⟨0, 0, 7, .inl ⟨h, rfl, rfl, rfl⟩⟩
  | false => exact ⟨_, _, 0, .inr ⟨h, rfl, rfl, rfl⟩⟩
theorem ofRes_out {x y more A B er : Int} (h : ofRes x y more A B er) : ofOut x y more = .tuple #[encl A B, .int .i64 er] := by
  rcases h with ⟨h, rfl, rfl, rfl⟩ | ⟨h, rfl, rfl, rfl⟩
  · exact of_no x y more h
  · exact of_yes x y more h
theorem of_inn (x0 x1 u0 u1 more P0 P1 pe R0 R1 re : Int) (hu : x0 ≤ u0 ∧ u0 ≤ u1 ∧ u1 ≤ x1) (hp : ofRes u0 u1 more P0 P1 pe) (hr : ofRes x0 x1 more R0 R1 re) : inn P0 P1 pe R0 R1 re := by
  intro h0
  rcases hr with ⟨_, _, _, h7⟩ | ⟨hb, rfl, rfl, _⟩
  · omega
  · have k := wild_ok.1 hb
    have hb' : wildB u0 u1 3600000000 = false := wild_ok.2 (by omega)
    rcases hp with ⟨h, _⟩ | ⟨_, rfl, rfl, h⟩
    · rw [hb'] at h; cases h
    · have m := all_mono (x0 + more) (x1 + more) (u0 + more) (u1 + more) (by omega) (by omega) (by omega)
      exact ⟨h, m.1, m.2⟩

abbrev b64 (x : Int) : Prop := -9223372036854775808 ≤ x ∧ x ≤ 9223372036854775807

theorem good_ones (s0 s1 y0 y1 : Int) (hs : y0 ≤ s0 ∧ s0 ≤ s1 ∧ s1 ≤ y1) (b0 : b64 y0) (b1 : b64 y1) (c0 : b64 s0) (c1 : b64 s1) (k : Nat) (hk : k < 5) : Good1 (ones k) s0 s1 y0 y1 := by
  match k, hk with
  | 0, _ =>
    obtain ⟨P0, P1, pe, hp⟩ := ofRes_ex s0 s1 0
    obtain ⟨R0, R1, re, hr⟩ := ofRes_ex y0 y1 0
    exact ⟨P0, P1, pe, R0, R1, re, (fun w => by rw [← ofRes_out hp]; exact SinOf_any s0 s1 w c0 c1), (fun w => by rw [← ofRes_out hr]; exact SinOf_any y0 y1 w b0 b1), of_inn y0 y1 s0 s1 0 P0 P1 pe R0 R1 re hs hp hr⟩
  | 1, _ =>
    obtain ⟨P0, P1, pe, hp⟩ := ofRes_ex s0 s1 90000000
    obtain ⟨R0, R1, re, hr⟩ := ofRes_ex y0 y1 90000000
    exact ⟨P0, P1, pe, R0, R1, re, (fun w => by rw [← ofRes_out hp]; exact CosOf_any s0 s1 w c0 c1), (fun w => by rw [← ofRes_out hr]; exact CosOf_any y0 y1 w b0 b1), of_inn y0 y1 s0 s1 90000000 P0 P1 pe R0 R1 re hs hp hr⟩
  | 2, _ =>
    obtain ⟨P0, P1, pe, hp⟩ := arcRes_ex s0 s1
    obtain ⟨R0, R1, re, hr⟩ := arcRes_ex y0 y1
    exact ⟨P0, P1, pe, R0, R1, re, (fun w => Arccos_any s0 s1 P0 P1 pe w c0 c1 hp), (fun w => Arccos_any y0 y1 R0 R1 re w b0 b1 hr), arc_inn y0 y1 s0 s1 P0 P1 pe R0 R1 re hs hp hr⟩
  | 3, _ =>
    obtain ⟨P0, P1, pe, hp⟩ := asnRes_ex s0 s1
    obtain ⟨R0, R1, re, hr⟩ := asnRes_ex y0 y1
    exact ⟨P0, P1, pe, R0, R1, re, (fun w => Arcsin_any s0 s1 P0 P1 pe w c0 c1 hp), (fun w => Arcsin_any y0 y1 R0 R1 re w b0 b1 hr), asn_inn y0 y1 s0 s1 P0 P1 pe R0 R1 re hs hp hr⟩
  | 4, _ =>
    obtain ⟨P0, P1, pe, hp⟩ := rootRes_ex s0 s1
    obtain ⟨R0, R1, re, hr⟩ := rootRes_ex y0 y1
    exact ⟨P0, P1, pe, R0, R1, re, (fun w => Root_any s0 s1 P0 P1 pe w c0 c1 hp), (fun w => Root_any y0 y1 R0 R1 re w b0 b1 hr), root_inn y0 y1 s0 s1 P0 P1 pe R0 R1 re hs hp hr⟩

theorem good_fr (f : FuncId) (n d : Int → Int → Int) (s0 s1 y0 y1 z0 z1 : Int) (hs : y0 ≤ s0 ∧ s0 ≤ s1 ∧ s1 ≤ y1) (b0 : b64 y0) (b1 : b64 y1) (c0 : b64 s0) (c1 : b64 s1) (e0 : b64 z0) (e1 : b64 z1)
    (hf : ∀ (x0 x1 u0 u1 A B er : Int) (w : World), b64 x0 → b64 x1 → b64 u0 → b64 u1 → gRes n d x0 x1 u0 u1 A B er → Calls Tryd.prog f #[encl x0 x1, encl u0 u1] w fun e w' => e = .returned (.tuple #[encl A B, .int .i64 er]) ∧ Q w w')
    (hc : ∀ x0 x1 u0 u1 a b : Int, (x0 ≤ a ∧ a ≤ x1) → (u0 ≤ b ∧ b ≤ u1) → gLo n d x0 x1 u0 u1 ≤ fLo (n a b) (d a b) ∧ fHi (n a b) (d a b) ≤ gHi n d x0 x1 u0 u1) : Good2 f s0 s1 y0 y1 z0 z1 := by
  constructor
  · obtain ⟨P0, P1, pe, hp⟩ := gRes_ex n d s0 s1 z0 z1
    obtain ⟨R0, R1, re, hr⟩ := gRes_ex n d y0 y1 z0 z1
    refine ⟨P0, P1, pe, R0, R1, re, (fun w => hf s0 s1 z0 z1 P0 P1 pe w c0 c1 e0 e1 hp), (fun w => hf y0 y1 z0 z1 R0 R1 re w b0 b1 e0 e1 hr), fun h0 => ?_⟩
    rcases Int.lt_or_le z1 z0 with hz | hz
    · rcases hr with ⟨_, _, _, h7⟩ | ⟨hb, _⟩
      · omega
      · unfold gBad at hb
        simp only [Bool.or_eq_false_iff] at hb
        have := wild_ok.1 hb.1.2
        omega
    · exact gRes_inn n d y0 y1 z0 z1 s0 s1 z0 z1 P0 P1 pe R0 R1 re hs ⟨Int.le_refl _, hz, Int.le_refl _⟩ (fun a b ha hb => hc y0 y1 z0 z1 a b (by omega) (by omega)) hp hr h0
  · obtain ⟨P0, P1, pe, hp⟩ := gRes_ex n d z0 z1 s0 s1
    obtain ⟨R0, R1, re, hr⟩ := gRes_ex n d z0 z1 y0 y1
    refine ⟨P0, P1, pe, R0, R1, re, (fun w => hf z0 z1 s0 s1 P0 P1 pe w e0 e1 c0 c1 hp), (fun w => hf z0 z1 y0 y1 R0 R1 re w e0 e1 b0 b1 hr), fun h0 => ?_⟩
    rcases Int.lt_or_le z1 z0 with hz | hz
    · rcases hr with ⟨_, _, _, h7⟩ | ⟨hb, _⟩
      · omega
      · unfold gBad at hb
        simp only [Bool.or_eq_false_iff] at hb
        have := wild_ok.1 hb.1.1
        omega
    · exact gRes_inn n d z0 z1 y0 y1 z0 z1 s0 s1 P0 P1 pe R0 R1 re ⟨Int.le_refl _, hz, Int.le_refl _⟩ hs (fun a b ha hb => hc z0 z1 y0 y1 a b (by omega) (by omega)) hp hr h0

theorem good_over (s0 s1 y0 y1 z0 z1 : Int) (hs : y0 ≤ s0 ∧ s0 ≤ s1 ∧ s1 ≤ y1) (b0 : b64 y0) (b1 : b64 y1) (c0 : b64 s0) (c1 : b64 s1) (e0 : b64 z0) (e1 : b64 z1) : Good2 33 s0 s1 y0 y1 z0 z1 := by
  have bad : ∀ {a b c d A B er : Int}, oRes a b c d A B er → er = 0 → a ≤ b ∧ c ≤ d := fun {a b c d A B er} h h0 => by
    rcases h with ⟨_, _, _, h8⟩ | ⟨_, h⟩
    · omega
    · rcases h with ⟨_, _, _, h7⟩ | ⟨hb, _⟩
      · omega
      · unfold gBad at hb
        simp only [Bool.or_eq_false_iff] at hb
        have k1 := wild_ok.1 hb.1.1
        have k2 := wild_ok.1 hb.1.2
        omega
  constructor
  · obtain ⟨P0, P1, pe, hp⟩ := oRes_ex s0 s1 z0 z1
    obtain ⟨R0, R1, re, hr⟩ := oRes_ex y0 y1 z0 z1
    exact ⟨P0, P1, pe, R0, R1, re, (fun w => Over_any s0 s1 z0 z1 P0 P1 pe w c0 c1 e0 e1 hp), (fun w => Over_any y0 y1 z0 z1 R0 R1 re w b0 b1 e0 e1 hr), fun h0 =>
      oRes_inn y0 y1 z0 z1 s0 s1 z0 z1 P0 P1 pe R0 R1 re hs ⟨Int.le_refl _, (bad hr h0).2, Int.le_refl _⟩ hp hr h0⟩
  · obtain ⟨P0, P1, pe, hp⟩ := oRes_ex z0 z1 s0 s1
    obtain ⟨R0, R1, re, hr⟩ := oRes_ex z0 z1 y0 y1
    exact ⟨P0, P1, pe, R0, R1, re, (fun w => Over_any z0 z1 s0 s1 P0 P1 pe w e0 e1 c0 c1 hp), (fun w => Over_any z0 z1 y0 y1 R0 R1 re w e0 e1 b0 b1 hr), fun h0 =>
      oRes_inn z0 z1 y0 y1 z0 z1 s0 s1 P0 P1 pe R0 R1 re ⟨Int.le_refl _, (bad hr h0).1, Int.le_refl _⟩ hs hp hr h0⟩

theorem good_twos (s0 s1 y0 y1 z0 z1 : Int) (hs : y0 ≤ s0 ∧ s0 ≤ s1 ∧ s1 ≤ y1) (b0 : b64 y0) (b1 : b64 y1) (c0 : b64 s0) (c1 : b64 s1) (e0 : b64 z0) (e1 : b64 z1) (k : Nat) (hk : k < 4) : Good2 (twos k) s0 s1 y0 y1 z0 z1 := by
  match k, hk with
  | 0, _ => exact good_fr _ (fun a b => a + b) (fun _ _ => 1) s0 s1 y0 y1 z0 z1 hs b0 b1 c0 c1 e0 e1 (fun x0 x1 u0 u1 A B er w h1 h2 h3 h4 h => Plus_any x0 x1 u0 u1 A B er w h1 h2 h3 h4 h) (fun x0 x1 u0 u1 a b ha hb => plus_corner x0 x1 u0 u1 a b ha hb)
  | 1, _ => exact good_fr _ (fun a b => a - b) (fun _ _ => 1) s0 s1 y0 y1 z0 z1 hs b0 b1 c0 c1 e0 e1 (fun x0 x1 u0 u1 A B er w h1 h2 h3 h4 h => Minus_any x0 x1 u0 u1 A B er w h1 h2 h3 h4 h) (fun x0 x1 u0 u1 a b ha hb => minus_corner x0 x1 u0 u1 a b ha hb)
  | 2, _ => exact good_fr _ (fun a b => a * b) (fun _ _ => 100000000) s0 s1 y0 y1 z0 z1 hs b0 b1 c0 c1 e0 e1 (fun x0 x1 u0 u1 A B er w h1 h2 h3 h4 h => Times_any x0 x1 u0 u1 A B er w h1 h2 h3 h4 h) (fun x0 x1 u0 u1 a b ha hb => times_corner x0 x1 u0 u1 a b ha hb)
  | 3, _ => exact good_over s0 s1 y0 y1 z0 z1 hs b0 b1 c0 c1 e0 e1

theorem part_mul (x0 x1 f g : Int) (hx : -3600000000 ≤ x0 ∧ x1 ≤ 3600000000 ∧ x0 ≤ x1) (hf : 0 ≤ f ∧ f ≤ g ∧ g ≤ 255) : 0 ≤ (x1 - x0) * f ∧ (x1 - x0) * g ≤ 1900000000000 ∧ (x1 - x0) * f ≤ (x1 - x0) * g ∧ x0 + (x1 - x0) * g / 255 ≤ x1 := by
  have m0 : 0 ≤ (x1 - x0) * f := Int.mul_nonneg (by omega) hf.1
  have m1 : (x1 - x0) * g ≤ (x1 - x0) * 255 := Int.mul_le_mul_of_nonneg_left hf.2.2 (by omega)
  have m2 : (x1 - x0) * f ≤ (x1 - x0) * g := Int.mul_le_mul_of_nonneg_left hf.2.1 (by omega)
  generalize (x1 - x0) * f = p at *
  generalize (x1 - x0) * g = q at *
  omega

theorem angleWithin_all (y0 y1 z0 z1 p q : Int) (hy0 : (Lit.int .i64 y0).wf = true) (hy1 : (Lit.int .i64 y1).wf = true) (hz0 : (Lit.int .i64 z0).wf = true) (hz1 : (Lit.int .i64 z1).wf = true) (hp : (Lit.int .u8 p).wf = true) (hq : (Lit.int .u8 q).wf = true) (w : World) (T : Tables w) :
    Calls Tryd.prog 11 #[encl y0 y1, encl z0 z1, .agg #[.int .u8 p, .int .u8 q]] w fun e w' => e = .returned (.bool true) ∧ Q w w' := by
  have hy0 := bounds_i64 hy0
  have hy1 := bounds_i64 hy1
  have hz0 := bounds_i64 hz0
  have hz1 := bounds_i64 hz1
  have hp := bounds_u8 hp
  have hq := bounds_u8 hq
  by_cases hv : y0 ≤ y1 ∧ -3600000000 ≤ y0 ∧ y1 ≤ 3600000000
  · obtain ⟨m0, m1, m2, m3⟩ := part_mul y0 y1 (min p q) (max p q) (by omega) (by omega)
    generalize hpl : (y1 - y0) * min p q = pl at *
    generalize hph : (y1 - y0) * max p q = ph at *
    have hs : y0 ≤ y0 + pl / 255 ∧ y0 + pl / 255 ≤ y0 + ph / 255 ∧ y0 + ph / 255 ≤ y1 := by omega
    generalize hs0 : y0 + pl / 255 = s0 at *
    generalize hs1 : y0 + ph / 255 = s1 at *
    exact with_in y0 y1 z0 z1 p q pl ph s0 s1 w T (by omega) hpl hph (by omega) (by omega) (by omega) hs0 hs1
      (fun k hk => good_ones s0 s1 y0 y1 hs hy0 hy1 (by unfold b64; omega) (by unfold b64; omega) k hk) (fun k hk => good_twos s0 s1 y0 y1 z0 z1 hs hy0 hy1 (by unfold b64; omega) (by unfold b64; omega) hz0 hz1 k hk)
  · exact with_out y0 y1 z0 z1 p q w T (by omega)

end Go.Proofs.YtjbhnjnlpekpoaaDoor
