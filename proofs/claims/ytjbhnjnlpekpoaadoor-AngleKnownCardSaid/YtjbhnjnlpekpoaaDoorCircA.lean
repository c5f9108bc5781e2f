/-
  AngleCircle returns true, whatever the numbers.
-/
import Derived.Test.YtjbhnjnlpekpoaaDoorCircW
namespace Go.Proofs.YtjbhnjnlpekpoaaDoor
open Go.RowKit Go.Sort Trig
set_option linter.unusedVariables false

set_option maxRecDepth 100000 in
set_option maxHeartbeats 1000000 in
theorem circle_out (a b : Int) (w : World) (T : Tables w) (h : (a < -1800000000) ∨ (¬ a < -1800000000 ∧ 1800000000 < a) ∨ (¬ a < -1800000000 ∧ ¬ 1800000000 < a ∧ b < -1800000000) ∨ (¬ a < -1800000000 ∧ ¬ 1800000000 < a ∧ ¬ b < -1800000000 ∧ 1800000000 < b)) :
    Calls Tryd.prog 3 #[.int .i64 a, .int .i64 b] w fun e w' => e = .returned (.bool true) ∧ Q w w' := by
  rcases h with h | ⟨h1, h2⟩ | ⟨h1, h2, h3⟩ | ⟨h1, h2, h3, h4⟩
  all_goals
    go_enter Tryd.func3, Tryd.ntmps3
    go_wp2_with fail
    refine (Awake_any _ T).mono ?_
    rintro e w1 ⟨rfl, Q1⟩
    go_wp2_with fail
    go_ret
    exact ⟨rfl, Q1⟩

theorem small_of (a more lo hi : Int) (h1 : -3600000000 ≤ a) (h2 : a ≤ 3600000000) (hm : 0 ≤ more ∧ more ≤ 90000000) (e1 : sineLo (a + more) = lo) (e2 : sineHi (a + more) = hi) : sinOut a more = .tuple #[encl lo hi, .int .i64 0] := by
  unfold sinOut
  rw [if_neg (by rw [(wild_iff a).2 ⟨h1, h2⟩]; simp), e1, e2]

theorem sc_sin (a lo hi : Int) (h1 : -3600000000 ≤ a) (h2 : a ≤ 3600000000) (e1 : sineLo a = lo) (e2 : sineHi a = hi) : SC 16 a lo hi := by
  intro w
  refine (Sin_any a w (by omega)).mono ?_
  rintro e w' ⟨rfl, q⟩
  rw [small_of a 0 lo hi h1 h2 (by omega) (by rw [Int.add_zero]; exact e1) (by rw [Int.add_zero]; exact e2)]
  exact ⟨rfl, q⟩
theorem sc_cos (a lo hi : Int) (h1 : -3600000000 ≤ a) (h2 : a ≤ 3600000000) (e1 : sineLo (a + 90000000) = lo) (e2 : sineHi (a + 90000000) = hi) : SC 17 a lo hi := by
  intro w
  refine (Cos_any a w (by omega)).mono ?_
  rintro e w' ⟨rfl, q⟩
  rw [small_of a 90000000 lo hi h1 h2 (by omega) e1 e2]
  exact ⟨rfl, q⟩

theorem angleCircle_all (a b : Int) (_ : (Lit.int .i64 a).wf = true) (_ : (Lit.int .i64 b).wf = true) (w : World) (T : Tables w) :
    Calls Tryd.prog 3 #[.int .i64 a, .int .i64 b] w fun e w' => e = .returned (.bool true) ∧ Q w w' := by
  by_cases h : (a < -1800000000) ∨ (¬ a < -1800000000 ∧ 1800000000 < a) ∨ (¬ a < -1800000000 ∧ ¬ 1800000000 < a ∧ b < -1800000000) ∨ (¬ a < -1800000000 ∧ ¬ 1800000000 < a ∧ ¬ b < -1800000000 ∧ 1800000000 < b)
  · exact circle_out a b w T h
  · have k : -1800000000 ≤ a ∧ a ≤ 1800000000 ∧ -1800000000 ≤ b ∧ b ≤ 1800000000 := by omega
    clear h
    obtain ⟨a1, a2, b1, b2⟩ := k
    have ba := sine_bds a
    have bb := sine_bds b
    have ca := sine_bds (a + 90000000)
    have cb := sine_bds (b + 90000000)
    have sa := sine_small a
    have sb := sine_small b
    have ta := sine_small (a + 90000000)
    have tb := sine_small (b + 90000000)
    have bu := sine_bds (a + b)
    have bv := sine_bds (a + b + 90000000)
    have E := sine_turn a
    have W8 : ∀ x : Int, -100000001 ≤ x → x ≤ 100000001 → IntKind.i64.wrap (x * 100000000) = x * 100000000 := fun x h1 h2 => IntWalk.i64_in _ (by omega)
    have M : ∀ {x y : Int}, Small x → Small y → -40000000000000000 ≤ x * y ∧ x * y ≤ 40000000000000000 := fun h k => mul_small h k
    have P : ∀ {p q r s : Int}, Small p → Small q → Small r → Small s → (-40000000000000000 ≤ prLo p q r s ∧ prLo p q r s ≤ 40000000000000000) ∧ (-40000000000000000 ≤ prHi p q r s ∧ prHi p q r s ≤ 40000000000000000) := by
      intro p q r s hp hq hr hs
      have m1 := M hp hr
      have m2 := M hp hs
      have m3 := M hq hr
      have m4 := M hq hs
      unfold prLo prHi
      omega
    have sqb : ∀ {p q : Int}, Small p → Small q → (-40000000000000000 ≤ sqLo p q ∧ sqLo p q ≤ 40000000000000000) ∧ (-40000000000000000 ≤ sqHi p q ∧ sqHi p q ≤ 40000000000000000) := by
      intro p q hp hq
      have m1 := M hp hp
      have m2 := M hq hq
      have m3 := P hp hq hp hq
      unfold sqLo sqHi
      split <;> omega
    have wr : ∀ x y : Int, -40000000000000000 ≤ x → x ≤ 40000000000000000 → -40000000000000000 ≤ y → y ≤ 40000000000000000 → IntKind.i64.wrap (x - y) = x - y := fun x y _ _ _ _ => IntWalk.i64_in _ (by omega)
    have q1 := sqb sa.1 sa.2
    have q2 := sqb ta.1 ta.2
    have p1 := P sa.1 sa.2 tb.1 tb.2
    have p2 := P ta.1 ta.2 sb.1 sb.2
    have p3 := P ta.1 ta.2 tb.1 tb.2
    have p4 := P sa.1 sa.2 sb.1 sb.2
    refine circle_in a b (sineLo a) (sineHi a) (sineLo (a + 90000000)) (sineHi (a + 90000000)) (sineLo b) (sineHi b) (sineLo (b + 90000000)) (sineHi (b + 90000000)) (sineLo (a + b)) (sineHi (a + b)) (sineLo (a + b + 90000000)) (sineHi (a + b + 90000000))
      _ _ _ _ _ _ _ _ _ _ _ _ _ _ _ _ _ _ _ _ _ _ w T a1 a2 b1 b2 (sc_sin a _ _ (by omega) (by omega) rfl rfl) (sc_cos a _ _ (by omega) (by omega) rfl rfl) (sc_sin b _ _ (by omega) (by omega) rfl rfl) (sc_cos b _ _ (by omega) (by omega) rfl rfl)
      (sc_sin (a + b) _ _ (by omega) (by omega) rfl rfl) (sc_cos (a + b) _ _ (by omega) (by omega) rfl rfl)
      (fun w => square_any _ _ w sa.1 sa.2) (fun w => square_any _ _ w ta.1 ta.2) (fun w => sum_any _ _ _ _ w (by omega) (by omega) (by omega) (by omega))
      (fun w => (meet_any _ _ _ _ w).mono fun _ _ ⟨h, k⟩ => ⟨by rw [h, circle1], k⟩)
      (fun w => product_any _ _ _ _ w sa.1 sa.2 tb.1 tb.2) (fun w => product_any _ _ _ _ w ta.1 ta.2 sb.1 sb.2) (fun w => sum_any _ _ _ _ w (by omega) (by omega) (by omega) (by omega))
      (fun w => (meet_any _ _ _ _ w).mono fun _ _ ⟨h, k⟩ => ⟨by rw [h, circle2], k⟩)
      (fun w => product_any _ _ _ _ w ta.1 ta.2 tb.1 tb.2) (fun w => product_any _ _ _ _ w sa.1 sa.2 sb.1 sb.2)
      (fun w => (meet_any _ _ _ _ w).mono fun _ _ ⟨h, k⟩ => ⟨by rw [h, circle3], k⟩)
      (W8 _ (by omega) (by omega)) (W8 _ (by omega) (by omega)) (W8 _ (by omega) (by omega)) (W8 _ (by omega) (by omega)) (wr _ _ (by omega) (by omega) (by omega) (by omega)) (wr _ _ (by omega) (by omega) (by omega) (by omega))
      (sc_sin (a + 360000000) _ _ (by omega) (by omega) E.1 E.2) (sc_sin (a + 90000000) _ _ (by omega) (by omega) rfl rfl) ba ca

end Go.Proofs.YtjbhnjnlpekpoaaDoor
