/-
  Root of package angle: what it returns.
-/
import Derived.Test.YtjbhnjnlpekpoaaDoorAngJ
import Derived.Test.YtjbhnjnlpekpoaaDoorRootP
namespace Go.Proofs.YtjbhnjnlpekpoaaDoor
open Go.RowKit Go.Sort
set_option linter.unusedVariables false

theorem sqrt_run (x s : Nat) (h : FloatKind.f64.format.sqrt x = some s) (w : World) : (callFunc 89 #[.float .f64 x]).run Tryd.prog w = .ok (.value (.float .f64 s)) w := by
  rw [run_callFunc_extern Tryd.func89 (by kernel_rfl) (by kernel_rfl) (by kernel_rfl) (e := Extern.MathSqrt.sqrt) (by kernel_rfl)]
  have : (Extern.MathSqrt.sqrt #[.float .f64 x]).run Tryd.prog w = .ok (.float .f64 s) w := by
    have e : Extern.MathSqrt.sqrt #[.float .f64 x] = (match FloatKind.f64.format.sqrt x with
      | some r => pure (.float .f64 r)
      | none => do pure (.float .f64 (← choose (.nanBits .f64 x x)))) := rfl
    rw [e, h]
    rfl
  rw [this]
  rfl

theorem msqrt_any (x s : Nat) (w : World) (h : Hid (FloatKind.f64.format.sqrt x = some s)) :
    Calls Tryd.prog 68 #[.float .f64 x] w fun e w' => e = .returned (.float .f64 s) ∧ w' = w := by
  have h0 := sqrt_run x s h.out
  go_enter Tryd.func68, Tryd.ntmps68
  go_wp2_with fail
  go_ret
  exact ⟨rfl, rfl⟩

theorem conv_out (s r : Nat) (h : (FloatKind.f64.decode s).toInt .zero = some (r : Int)) (hr : r < 2147483648) (w : World) : (convert 66 3 (.float .f64 s)).run Tryd.prog w = .ok (.int .i64 r) w := by
  have e : (convert 66 3 (.float .f64 s)).run Tryd.prog w = (Conv.floatToInt .f64 s .i64).run Tryd.prog w := by kernel_rfl
  rw [e]
  unfold Conv.floatToInt
  rw [h]
  simp only
  rw [if_pos ⟨by show (-9223372036854775808 : Int) ≤ r; omega, by show (r : Int) ≤ 9223372036854775807; omega⟩]
  rfl

def RInv1 (v : Value) : Prop := ∃ r : Int, v = .int .i64 r ∧ 0 ≤ r ∧ r ≤ 2147483648
def RInv2 (n : Int) (v : Value) : Prop := ∃ r : Int, v = .int .i64 r ∧ 0 ≤ r ∧ r ≤ 600000000 ∧ Hid (r * r ≤ n)

set_option maxRecDepth 100000 in
set_option maxHeartbeats 1000000 in
theorem root_prog (n r0 : Int) (w : World) (hn : 0 ≤ n ∧ n ≤ 300000000000000000) (hr : Hid (isRoot n r0)) :
    Calls Tryd.prog 67 #[.int .i64 n] w fun e w' => e = .returned (.int .i64 r0) ∧ w' = w := by
  obtain ⟨s, q, e1, e2, e3⟩ := Sq.sqrt_ex n.toNat (by omega)
  rw [Int.toNat_of_nonneg hn.1] at e1
  have HS := Lib.hid e1
  have C := conv_out s q e2 e3
  clear e1 e2
  go_enter Tryd.func67, Tryd.ntmps67
  go_wp2_with fail
  refine (msqrt_any _ s _ HS).mono ?_
  rintro e w1 ⟨rfl, rfl⟩
  go_wp2_with fail
  go_loop [3] (fun v => RInv1 v) (fun v => (intOf v).toNat)
  case atStart => exact ⟨q, rfl, by omega, by omega⟩
  case round =>
    obtain ⟨r, rfl, r1, r2⟩ := hrel
    have b1 : 0 ≤ r * r := Int.mul_nonneg r1 r1
    have b2 : r * r ≤ 2147483648 * 2147483648 := Int.mul_le_mul r2 r2 r1 (by omega)
    have w1 : wrap64 (r * r) = r * r := IntWalk.wrap64_in _ (by omega)
    have w2 : IntKind.i64.wrap (r * r) = r * r := IntWalk.i64_in _ (by omega)
    by_cases c : n < r * r
    · have r3 : 1 ≤ r := by
        rcases Int.lt_or_le r 1 with k | k
        · obtain rfl : r = 0 := by omega
          omega
        · exact k
      clear b1 b2
      go_wp2_with fail
      go_round
      case rel => exact ⟨r - 1, rfl, by omega, by omega⟩
      case measure => simp [intOf]; omega
    · have c' : r * r ≤ n := by omega
      have r3 : r ≤ 600000000 := by
        rcases Int.lt_or_le 600000000 r with k | k
        · have := isq_mono (a := 600000000) (b := r) (by omega) (by omega)
          omega
        · exact k
      have HC := Lib.hid c'
      clear b1 b2 c'
      go_wp2_with fail
      clear w1 w2 c HS C
      go_loop [3] (fun v => RInv2 n v) (fun v => (600000000 - intOf v).toNat)
      case atStart => exact ⟨r, rfl, by omega, by omega, HC⟩
      case round =>
        clear HC r1 r2 r3
        obtain ⟨t, rfl, t1, t2, t3⟩ := hrel
        have b1 : 0 ≤ (t + 1) * (t + 1) := Int.mul_nonneg (by omega) (by omega)
        have b2 : (t + 1) * (t + 1) ≤ 600000001 * 600000001 := Int.mul_le_mul (by omega) (by omega) (by omega) (by omega)
        have w1 : wrap64 ((t + 1) * (t + 1)) = (t + 1) * (t + 1) := IntWalk.wrap64_in _ (by omega)
        have w2 : IntKind.i64.wrap ((t + 1) * (t + 1)) = (t + 1) * (t + 1) := IntWalk.i64_in _ (by omega)
        by_cases c : (t + 1) * (t + 1) ≤ n
        · have t4 : t + 1 ≤ 600000000 := by
            rcases Int.lt_or_le 600000000 (t + 1) with k | k
            · have := isq_mono (a := 600000000) (b := t + 1) (by omega) (by omega)
              omega
            · exact k
          have HC := Lib.hid c
          clear b1 b2
          go_wp2_with fail
          go_round
          case rel => exact ⟨t + 1, rfl, by omega, by omega, HC⟩
          case measure => simp [intOf]; omega
        · have e : t = r0 := root_uniq ⟨t1, t3.out, by omega⟩ hr.out
          have HE := Lib.hid e
          clear b1 b2 e
          go_wp2_with fail
          go_ret
          exact ⟨by rw [HE.out]; rfl, rfl⟩

theorem root_func (n r0 : Int) (w : World) (hn : 0 ≤ n ∧ n ≤ 300000000000000000) (hr : Hid (isRoot n r0)) :
    Calls Tryd.prog 67 #[.int .i64 n] w fun e w' => e = .returned (.int .i64 r0) ∧ w' = w := root_prog n r0 w hn hr

set_option maxRecDepth 100000 in
set_option maxHeartbeats 2000000 in
theorem Root_yes (x y r s B : Int) (w : World) (hx : 0 ≤ x ∧ x ≤ y ∧ y ≤ 3000000000) (h1 : Hid (isRoot (x * 100000000) r)) (h2 : Hid (isRoot (y * 100000000) s)) (hB : Hid (B = if s * s < y * 100000000 then s + 1 else s)) :
    Calls Tryd.prog 40 #[encl x y] w fun e w' => e = .returned (.tuple #[encl r B, .int .i64 0]) ∧ Q w w' := by
  have hv : wildB x y 3000000000 = false := wild_ok.2 (by omega)
  have bs := root_bd h2.out (by omega)
  have HR := Lib.hid (fun W => root_prog (x * 100000000) r W (by omega) h1)
  have HS := Lib.hid (fun W => root_prog (y * 100000000) s W (by omega) h2)
  obtain ⟨bs1, bs2, bs3⟩ := bs
  have HV := Lib.hid hv
  have wx : wrap64 (x * 100000000) = x * 100000000 := IntWalk.wrap64_in _ (by omega)
  have wy : wrap64 (y * 100000000) = y * 100000000 := IntWalk.wrap64_in _ (by omega)
  have vx : IntKind.i64.wrap (x * 100000000) = x * 100000000 := IntWalk.i64_in _ (by omega)
  have vy : IntKind.i64.wrap (y * 100000000) = y * 100000000 := IntWalk.i64_in _ (by omega)
  have hx0 : ¬ x < 0 := by omega
  have s0 := Int.mul_nonneg bs1 bs1
  have w1 : wrap64 (s * s) = s * s := IntWalk.wrap64_in _ (by omega)
  have w2 : IntKind.i64.wrap (s * s) = s * s := IntWalk.i64_in _ (by omega)
  clear hv bs3 s0
  go_enter Tryd.func40, Tryd.ntmps40
  go_upto_region 1 with fail
  have B1 : Has ((w.alloc (.cells #[.int .i64 x, .int .i64 y] 24)).alloc (.cells #[.int .i64 0, .int .i64 0] 24)) w.heap.size x y := (Has.new w x y 24).alloc _
  have B2 : Has ((w.alloc (.cells #[.int .i64 x, .int .i64 y] 24)).alloc (.cells #[.int .i64 0, .int .i64 0] 24)) (w.heap.size + 1) 0 0 := Has.newAt (by simp)
  have QC := ((Q.refl w).alloc (.cells #[.int .i64 x, .int .i64 y] 24)).alloc (.cells #[.int .i64 0, .int .i64 0] 24)
  generalize (w.alloc (.cells #[.int .i64 x, .int .i64 y] 24)).alloc (.cells #[.int .i64 0, .int .i64 0] 24) = W4 at *
  obtain ⟨z1, k10, k11, f10, f11⟩ := id B1
  go_wp2_with fail
  refine (wild_any x y 3000000000 _ (by omega) (by omega) (by omega)).mono ?_
  rintro e w1' ⟨rfl, Q1⟩
  rw [HV.out]
  replace B1 := B1.mono Q1
  replace B2 := B2.mono Q1
  replace QC := QC.trans Q1
  clear z1 k10 k11 f10 f11 Q1
  obtain ⟨z1, k10, k11, f10, f11⟩ := id B1
  go_upto_region 4 with fail
  have eg : ∀ args w, (callFunc 67 args).run Tryd.prog w = .ok (.enter 67 args) w := enters_of Tryd.func67 (by kernel_rfl) rfl
  go_quiet ((first | (go_at_call_of 67 x; exact Calls.quiet_of_same (HR.out _)) | (go_at_call_of 67 y; exact Calls.quiet_of_same (HS.out _))))
  have QW : Q w1' (w1'.drewN nq) := (Q.refl w1').drewN nq
  replace B1 := B1.mono QW
  replace B2 := B2.mono QW
  replace QC := QC.trans QW
  clear QW z1 k10 k11 f10 f11
  generalize w1'.drewN nq = w5 at *
  clear HR HS eg h1 h2 HV
  obtain ⟨z1, k10, k11, f10, f11⟩ := id B1
  obtain ⟨z2, k20, k21, f20, f21⟩ := id B2
  by_cases c : s * s < y * 100000000
  · have eb : B = s + 1 := by rw [hB.out, if_pos c]
    have R := B2.store r (s + 1)
    replace QC := (QC.setCell (p := ⟨w.heap.size + 1, 0, none⟩) (by simp) (.int .i64 r)).setCell (p := ⟨w.heap.size + 1, 1, none⟩) (by simp) (.int .i64 (s + 1))
    have EB := Lib.hid eb
    clear eb hB B1 B2
    go_wp2_with fail
    generalize (w5.setCell ⟨w.heap.size + 1, 0, none⟩ (.int .i64 r)).setCell ⟨w.heap.size + 1, 1, none⟩ (.int .i64 (s + 1)) = w7 at *
    obtain ⟨_, r0, r1, _, _⟩ := R
    exact bodyPost_ret (v := .tuple #[encl r (s + 1), .int .i64 0]) (by simp [results, Tryd.results40, go_sem, r0, r1]) rfl ⟨by rw [EB.out], QC⟩
  · have eb : B = s := by rw [hB.out, if_neg c]
    have R := B2.store r s
    replace QC := (QC.setCell (p := ⟨w.heap.size + 1, 0, none⟩) (by simp) (.int .i64 r)).setCell (p := ⟨w.heap.size + 1, 1, none⟩) (by simp) (.int .i64 s)
    have EB := Lib.hid eb
    clear eb hB B1 B2
    go_wp2_with fail
    generalize (w5.setCell ⟨w.heap.size + 1, 0, none⟩ (.int .i64 r)).setCell ⟨w.heap.size + 1, 1, none⟩ (.int .i64 s) = w7 at *
    obtain ⟨_, r0, r1, _, _⟩ := R
    exact bodyPost_ret (v := .tuple #[encl r s, .int .i64 0]) (by simp [results, Tryd.results40, go_sem, r0, r1]) rfl ⟨by rw [EB.out], QC⟩

set_option maxRecDepth 100000 in
set_option maxHeartbeats 2000000 in
theorem Root_no (x y : Int) (w : World) (bx : -9223372036854775808 ≤ x ∧ x ≤ 9223372036854775807) (by' : -9223372036854775808 ≤ y ∧ y ≤ 9223372036854775807) (h : wildB x y 3000000000 = true ∨ wildB x y 3000000000 = false ∧ x < 0) :
    Calls Tryd.prog 40 #[encl x y] w fun e w' => e = .returned (.tuple #[encl 0 0, .int .i64 7]) ∧ Q w w' := by
  go_enter Tryd.func40, Tryd.ntmps40
  go_upto_region 1 with fail
  have B1 : Has ((w.alloc (.cells #[.int .i64 x, .int .i64 y] 24)).alloc (.cells #[.int .i64 0, .int .i64 0] 24)) w.heap.size x y := (Has.new w x y 24).alloc _
  have B2 : Has ((w.alloc (.cells #[.int .i64 x, .int .i64 y] 24)).alloc (.cells #[.int .i64 0, .int .i64 0] 24)) (w.heap.size + 1) 0 0 := Has.newAt (by simp)
  have QC := ((Q.refl w).alloc (.cells #[.int .i64 x, .int .i64 y] 24)).alloc (.cells #[.int .i64 0, .int .i64 0] 24)
  generalize (w.alloc (.cells #[.int .i64 x, .int .i64 y] 24)).alloc (.cells #[.int .i64 0, .int .i64 0] 24) = W4 at *
  obtain ⟨z1, k10, k11, f10, f11⟩ := id B1
  go_wp2_with fail
  refine (wild_any x y 3000000000 _ bx by' (by omega)).mono ?_
  rintro e w1 ⟨rfl, Q1⟩
  replace B1 := B1.mono Q1
  replace B2 := B2.mono Q1
  replace QC := QC.trans Q1
  clear z1 k10 k11 f10 f11 Q1
  have R := B2.store 0 0
  replace QC := (QC.setCell (p := ⟨w.heap.size + 1, 0, none⟩) (by simp) (.int .i64 0)).setCell (p := ⟨w.heap.size + 1, 1, none⟩) (by simp) (.int .i64 0)
  obtain ⟨z1, k10, k11, f10, f11⟩ := id B1
  obtain ⟨z2, k20, k21, f20, f21⟩ := id B2
  rcases h with h | ⟨h, h0⟩
  all_goals
    rw [h]
    clear h B1 B2
    go_wp2_with fail
    generalize (w1.setCell ⟨w.heap.size + 1, 0, none⟩ (.int .i64 0)).setCell ⟨w.heap.size + 1, 1, none⟩ (.int .i64 0) = w7 at *
    obtain ⟨_, r0, r1, _, _⟩ := R
    exact bodyPost_ret (v := .tuple #[encl 0 0, .int .i64 7]) (by simp [results, Tryd.results40, go_sem, r0, r1]) rfl ⟨rfl, QC⟩

theorem rootBad_cases {x y : Int} (h : rootBad x y = true) : wildB x y 3000000000 = true ∨ wildB x y 3000000000 = false ∧ x < 0 := by
  unfold rootBad at h
  cases hw : wildB x y 3000000000 with
  | true => exact .inl rfl
  | false => rw [hw] at h; simp at h; exact .inr ⟨rfl, h⟩
theorem rootBad_not {x y : Int} (h : rootBad x y = false) : 0 ≤ x ∧ x ≤ y ∧ y ≤ 3000000000 := by
  unfold rootBad at h
  rw [Bool.or_eq_false_iff, wild_ok, decide_eq_false_iff_not] at h
  omega

theorem Root_any (x y A B er : Int) (w : World) (bx : -9223372036854775808 ≤ x ∧ x ≤ 9223372036854775807) (by' : -9223372036854775808 ≤ y ∧ y ≤ 9223372036854775807) (hr : rootRes x y A B er) :
    Calls Tryd.prog 40 #[encl x y] w fun e w' => e = .returned (.tuple #[encl A B, .int .i64 er]) ∧ Q w w' := by
  rcases hr with ⟨h, rfl, rfl, rfl⟩ | ⟨h, h1, h2, rfl⟩
  · exact Root_no x y w bx by' (rootBad_cases h)
  · have hx := rootBad_not h
    obtain ⟨s, hs⟩ := root_ex (n := y * 100000000) (by omega)
    have e : B = _ := up_uniq h2 (root_up hs)
    exact Root_yes x y A s B w hx h1 hs e

end Go.Proofs.YtjbhnjnlpekpoaaDoor
