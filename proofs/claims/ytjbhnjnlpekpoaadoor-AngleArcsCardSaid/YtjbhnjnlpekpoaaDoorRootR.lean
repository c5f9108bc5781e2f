/-
  The document's Root: it is the program's.
-/
import Derived.Test.YtjbhnjnlpekpoaaDoorRootW
import Derived.Test.YtjbhnjnlpekpoaaDoorVal
namespace Go.Proofs.YtjbhnjnlpekpoaaDoor
open Go.RowKit Go.Sort
set_option linter.unusedVariables false

def TInv (n : Int) (a b : Value) : Prop := ∃ l h : Int, a = .int .i64 l ∧ b = .int .i64 h ∧ 0 ≤ l ∧ l < h ∧ h ≤ 2147483648 ∧ Hid (l * l ≤ n) ∧ Hid (n < h * h)

set_option maxRecDepth 100000 in
set_option maxHeartbeats 1000000 in
theorem refroot_any (n r0 : Int) (w : World) (hn : 0 ≤ n ∧ n ≤ 300000000000000000) (hr : Hid (isRoot n r0)) :
    Calls Tryd.prog 70 #[.int .i64 n] w fun e w' => e = .returned (.int .i64 r0) ∧ w' = w := by
  go_enter Tryd.func70, Tryd.ntmps70
  go_wp2_with fail
  go_loop [3, 4] (fun a b => TInv n a b) (fun a b => (intOf b).toNat - (intOf a).toNat)
  case atStart => exact ⟨0, 2147483648, rfl, rfl, by omega, by omega, by omega, hn.1, show n < 2147483648 * 2147483648 by omega⟩
  case round =>
    obtain ⟨l, h, rfl, rfl, l0, lh, hh, H1, H2⟩ := hrel
    by_cases hd : 1 < h - l
    · obtain ⟨m, hm⟩ : ∃ m : Int, (l + h) / 2 = m := ⟨_, rfl⟩
      have m1 : l < m := by omega
      have m2 : m < h := by omega
      have b1 : 0 ≤ m * m := Int.mul_nonneg (by omega) (by omega)
      have b2 : m * m ≤ 2147483648 * 2147483648 := Int.mul_le_mul (by omega) (by omega) (by omega) (by omega)
      have w1 : wrap64 (m * m) = m * m := IntWalk.wrap64_in _ (by omega)
      have w2 : IntKind.i64.wrap (m * m) = m * m := IntWalk.i64_in _ (by omega)
      clear b1 b2
      by_cases c : m * m ≤ n
      · have HC := Lib.hid c
        go_wp2_with fail
        go_round
        case rel => exact ⟨m, h, by rw [hm], rfl, by omega, by omega, hh, HC, H2⟩
        case measure => simp [intOf]; omega
      · have HC := Lib.hid (show n < m * m by omega)
        go_wp2_with fail
        go_round
        case rel => exact ⟨l, m, rfl, by rw [hm], by omega, by omega, by omega, H1, HC⟩
        case measure => simp [intOf]; omega
    · obtain rfl : h = l + 1 := by omega
      have e : l = r0 := root_uniq ⟨l0, H1.out, H2.out⟩ hr.out
      have HE := Lib.hid e
      clear e
      go_wp2_with fail
      go_ret
      exact ⟨by rw [HE.out]; rfl, rfl⟩

set_option maxRecDepth 100000 in
set_option maxHeartbeats 2000000 in
theorem refRoot_no (x y er : Int) (w : World) (h : wildB x y 3000000000 = true ∨ wildB x y 3000000000 = false ∧ x < 0) :
    Calls Tryd.prog 43 #[encl x y] w fun e w' => e = .returned (.tuple #[encl 0 0, .int .i64 7]) ∧ Q w w' := by
  go_enter Tryd.func43, Tryd.ntmps43
  go_upto_region 1 with fail
  have B1 : Has ((w.alloc (.cells #[.int .i64 x, .int .i64 y] 24)).alloc (.cells #[.int .i64 0, .int .i64 0] 24)) w.heap.size x y := (Has.new w x y 24).alloc _
  have B2 : Has ((w.alloc (.cells #[.int .i64 x, .int .i64 y] 24)).alloc (.cells #[.int .i64 0, .int .i64 0] 24)) (w.heap.size + 1) 0 0 := Has.newAt (by simp)
  have QC := ((Q.refl w).alloc (.cells #[.int .i64 x, .int .i64 y] 24)).alloc (.cells #[.int .i64 0, .int .i64 0] 24)
  generalize (w.alloc (.cells #[.int .i64 x, .int .i64 y] 24)).alloc (.cells #[.int .i64 0, .int .i64 0] 24) = W at *
  obtain ⟨z1, k10, k11, f10, f11⟩ := id B1
  obtain ⟨ev, he⟩ : ∃ ev : Int, ev = if vBad [(x, y)] then 7 else 0 := ⟨_, rfl⟩
  have HE := Lib.hid he
  clear he
  go_wp2_with fail
  refine (valued_any [(x, y)] W.heap.size _ ev (by simp) (Pairs.new1At rfl) HE).mono ?_
  rintro e w1 ⟨rfl, Q1⟩
  replace Q1 := ((Q.refl W).alloc _).trans Q1
  replace B1 := B1.mono Q1
  replace B2 := B2.mono Q1
  replace QC := QC.trans Q1
  clear Q1 z1 k10 k11 f10 f11
  generalize W.heap.size = gs at *
  obtain ⟨z1, k10, k11, f10, f11⟩ := id B1
  obtain ⟨z2, k20, k21, f20, f21⟩ := id B2
  have he := HE.out
  rw [vBad_one] at he
  have R := B2.store 0 0
  have QS := (QC.setCell (p := ⟨w.heap.size + 1, 0, none⟩) (by simp) (.int .i64 0)).setCell (p := ⟨w.heap.size + 1, 1, none⟩) (by simp) (.int .i64 0)
  obtain ⟨_, r0, r1, _, _⟩ := R
  rcases h with h | ⟨h, h0⟩
  · rw [h] at he
    obtain rfl : ev = 7 := he
    clear HE h B1 B2
    go_wp2_with fail
    exact bodyPost_ret (v := .tuple #[encl 0 0, .int .i64 7]) (by simp [results, Tryd.results43, go_sem, r0, r1]) rfl ⟨rfl, QS⟩
  · rw [h] at he
    obtain rfl : ev = 0 := he
    clear HE h B1 B2
    go_wp2_with fail
    exact bodyPost_ret (v := .tuple #[encl 0 0, .int .i64 7]) (by simp [results, Tryd.results43, go_sem, r0, r1]) rfl ⟨rfl, QS⟩

set_option maxRecDepth 100000 in
set_option maxHeartbeats 2000000 in
theorem refRoot_yes (x y r s B : Int) (w : World) (hx : 0 ≤ x ∧ x ≤ y ∧ y ≤ 3000000000) (h1 : Hid (isRoot (x * 100000000) r)) (h2 : Hid (isRoot (y * 100000000) s)) (hB : Hid (B = if s * s < y * 100000000 then s + 1 else s)) :
    Calls Tryd.prog 43 #[encl x y] w fun e w' => e = .returned (.tuple #[encl r B, .int .i64 0]) ∧ Q w w' := by
  have hv : wildB x y 3000000000 = false := wild_ok.2 (by omega)
  have bs := root_bd h2.out (by omega)
  have br := root_bd h1.out (by omega)
  have hup : isUp (y * 100000000) B := by rw [hB.out]; exact root_up h2.out
  have bu := up_bd hup (by omega)
  have rB := root_le_up (show x * 100000000 ≤ y * 100000000 by omega) h1.out hup
  have RR : Hid (rRes r B r B 0) := .inr ⟨wild_ok.2 (by omega), rfl, rfl, rfl⟩
  have HR := Lib.hid (fun W => refroot_any (x * 100000000) r W (by omega) h1)
  have HS := Lib.hid (fun W => refroot_any (y * 100000000) s W (by omega) h2)
  have HE : Hid ((0 : Int) = if vBad [(x, y)] then 7 else 0) := by
    show _ = _
    rw [vBad_one, hv]; rfl
  obtain ⟨bs1, bs2, bs3⟩ := bs
  have wx : wrap64 (x * 100000000) = x * 100000000 := IntWalk.wrap64_in _ (by omega)
  have wy : wrap64 (y * 100000000) = y * 100000000 := IntWalk.wrap64_in _ (by omega)
  have vx : IntKind.i64.wrap (x * 100000000) = x * 100000000 := IntWalk.i64_in _ (by omega)
  have vy : IntKind.i64.wrap (y * 100000000) = y * 100000000 := IntWalk.i64_in _ (by omega)
  have hx0 : ¬ x < 0 := by omega
  have s0 := Int.mul_nonneg bs1 bs1
  have w1 : wrap64 (s * s) = s * s := IntWalk.wrap64_in _ (by omega)
  have w2 : IntKind.i64.wrap (s * s) = s * s := IntWalk.i64_in _ (by omega)
  clear hv bs3 s0 br hup bu rB
  go_enter Tryd.func43, Tryd.ntmps43
  go_upto_region 1 with fail
  have B1 : Has ((w.alloc (.cells #[.int .i64 x, .int .i64 y] 24)).alloc (.cells #[.int .i64 0, .int .i64 0] 24)) w.heap.size x y := (Has.new w x y 24).alloc _
  have B2 : Has ((w.alloc (.cells #[.int .i64 x, .int .i64 y] 24)).alloc (.cells #[.int .i64 0, .int .i64 0] 24)) (w.heap.size + 1) 0 0 := Has.newAt (by simp)
  have QC := ((Q.refl w).alloc (.cells #[.int .i64 x, .int .i64 y] 24)).alloc (.cells #[.int .i64 0, .int .i64 0] 24)
  generalize (w.alloc (.cells #[.int .i64 x, .int .i64 y] 24)).alloc (.cells #[.int .i64 0, .int .i64 0] 24) = W at *
  obtain ⟨z1, k10, k11, f10, f11⟩ := id B1
  go_wp2_with fail
  refine (valued_any [(x, y)] W.heap.size _ 0 (by simp) (Pairs.new1At rfl) HE).mono ?_
  rintro e w3 ⟨rfl, Q1⟩
  replace Q1 := ((Q.refl W).alloc _).trans Q1
  replace B1 := B1.mono Q1
  replace B2 := B2.mono Q1
  replace QC := QC.trans Q1
  clear Q1 z1 k10 k11 f10 f11 HE
  generalize W.heap.size = gs at *
  obtain ⟨z1, k10, k11, f10, f11⟩ := id B1
  go_upto_region 6 with fail
  go_quiet ((first | (go_at_call_of 70 x; exact Calls.quiet_of_same (HR.out _)) | (go_at_call_of 70 y; exact Calls.quiet_of_same (HS.out _))))
  have QW : Q w3 (w3.drewN nq) := (Q.refl w3).drewN nq
  replace B1 := B1.mono QW
  replace B2 := B2.mono QW
  replace QC := QC.trans QW
  clear QW z1 k10 k11 f10 f11
  generalize w3.drewN nq = w5 at *
  clear HR HS h1 h2
  obtain ⟨z1, k10, k11, f10, f11⟩ := id B1
  by_cases c : s * s < y * 100000000
  · have eb : B = s + 1 := by rw [hB.out, if_pos c]
    subst eb
    clear hB
    go_wp2_with fail
    refine (result_any r (s + 1) r (s + 1) 0 _ RR).mono ?_
    clear z1 k10 k11 f10 f11 B1
    rintro e w6 ⟨rfl, Q1⟩
    replace B2 := B2.mono Q1
    replace QC := QC.trans Q1
    clear Q1
    have R := B2.store r (s + 1)
    replace QC := (QC.setCell (p := ⟨w.heap.size + 1, 0, none⟩) (by simp) (.int .i64 r)).setCell (p := ⟨w.heap.size + 1, 1, none⟩) (by simp) (.int .i64 (s + 1))
    obtain ⟨z2, k20, k21, f20, f21⟩ := id B2
    obtain ⟨_, r0, r1, _, _⟩ := R
    go_wp2_with fail
    exact bodyPost_ret (v := .tuple #[encl r (s + 1), .int .i64 0]) (by simp [results, Tryd.results43, go_sem, r0, r1]) rfl ⟨rfl, QC⟩
  · have eb : B = s := by rw [hB.out, if_neg c]
    subst eb
    clear hB
    go_wp2_with fail
    refine (result_any r B r B 0 _ RR).mono ?_
    clear z1 k10 k11 f10 f11 B1
    rintro e w6 ⟨rfl, Q1⟩
    replace B2 := B2.mono Q1
    replace QC := QC.trans Q1
    clear Q1
    have R := B2.store r B
    replace QC := (QC.setCell (p := ⟨w.heap.size + 1, 0, none⟩) (by simp) (.int .i64 r)).setCell (p := ⟨w.heap.size + 1, 1, none⟩) (by simp) (.int .i64 B)
    obtain ⟨z2, k20, k21, f20, f21⟩ := id B2
    obtain ⟨_, r0, r1, _, _⟩ := R
    go_wp2_with fail
    exact bodyPost_ret (v := .tuple #[encl r B, .int .i64 0]) (by simp [results, Tryd.results43, go_sem, r0, r1]) rfl ⟨rfl, QC⟩

theorem refRoot_any (x y A B er : Int) (w : World) (hr : rootRes x y A B er) :
    Calls Tryd.prog 43 #[encl x y] w fun e w' => e = .returned (.tuple #[encl A B, .int .i64 er]) ∧ Q w w' := by
  rcases hr with ⟨h, rfl, rfl, rfl⟩ | ⟨h, h1, h2, rfl⟩
  · exact refRoot_no x y 0 w (rootBad_cases h)
  · have hx := rootBad_not h
    obtain ⟨s, hs⟩ := root_ex (n := y * 100000000) (by omega)
    have e : B = _ := up_uniq h2 (root_up hs)
    exact refRoot_yes x y A s B w hx h1 hs e

end Go.Proofs.YtjbhnjnlpekpoaaDoor
