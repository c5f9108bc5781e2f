/-
  The reference's steep: its walk.
-/
import Derived.Test.YtjbhnjnlpekpoaaDoorRefE
import Derived.Test.YtjbhnjnlpekpoaaDoorRefU
namespace Go.Proofs.YtjbhnjnlpekpoaaDoor
open Go.RowKit Go.Sort Trig
set_option linter.unusedVariables false

theorem pi_dg : arr piD = arr (dg PI45) := by
  unfold arr
  simp only [dg, piD, PI45]
  simp

theorem dd_cap {n : Nat} (h : dd n ≤ 3) : n ≤ 3 * 10 ^ 45 := by
  have e := dd_D n
  have D := Dpos
  have m := Rat.mul_nonneg (show 0 ≤ 3 - dd n by grind) (Rat.le_of_lt D)
  have k : (n : Rat) ≤ ((3 * 10 ^ 45 : Nat) : Rat) := by
    rw [Rat.natCast_mul, e, show ((3 : Nat) : Rat) = 3 from rfl]
    generalize ((10 ^ 45 : Nat) : Rat) = z at *
    grind
  exact Rat.natCast_le_natCast.1 k

theorem caps (a : Nat) (h : a ≤ 90000000) : rx a ≤ 3 * 10 ^ 45 ∧ rsq (rx a) ≤ 3 * 10 ^ 45 ∧ ∀ k, rt (rsq (rx a)) (rx a) k ≤ 3 * 10 ^ 45 := by
  obtain ⟨n, hx⟩ := rx_near a h
  have x0 := dd_nonneg (rx a)
  have v := v_bd
  have q := (dd_times (rx a) (rx a)).2
  have q0 : dd (rx a) * dd (rx a) ≤ 64 / 25 := by
    have := Rat.mul_nonneg x0 (show 0 ≤ 8 / 5 - dd (rx a) by grind)
    grind
  refine ⟨dd_cap (by grind), dd_cap ?_, fun k => dd_cap ?_⟩
  · have q : dd (rsq (rx a)) ≤ dd (rx a) * dd (rx a) := q
    grind
  · obtain ⟨⟨_, b⟩, c, _⟩ := rt_near (rx a) hx k
    grind

theorem sums_cap (sq x M : Nat) (hx : x ≤ M) (h : ∀ k, rt sq x k ≤ M) (j : Nat) : rup sq x j ≤ (j + 1) * M ∧ rdn sq x j ≤ (j + 1) * M := by
  induction j with
  | zero => simp [rup, rdn, hx]
  | succ j ih =>
    have := h (j + 1)
    have e : (j + 1 + 1) * M = (j + 1) * M + M := Nat.succ_mul _ _
    rw [e]
    simp only [rup, rdn]
    split <;> omega

set_option maxRecDepth 100000 in
theorem refsteep_exact (a n : Nat) (w : World) (h : (a = 0 ∧ n = 0) ∨ (a = 30000000 ∧ n = 50000000) ∨ (a = 90000000 ∧ n = 100000000)) :
    Calls Tryd.prog 82 #[.int .i64 a] w fun e w' => e = .returned (encl n n) ∧ Q w w' := by
  rcases h with ⟨rfl, rfl⟩ | ⟨rfl, rfl⟩ | ⟨rfl, rfl⟩
  all_goals
    go_enter Tryd.func82, Tryd.ntmps82
    go_wp2_with fail
  · exact bodyPost_ret (v := encl 0 0) (by simp [results, Tryd.results82, go_sem]) rfl ⟨rfl, by repeat (first | exact Q.refl _ | assumption | apply Q.alloc | (refine Q.setCell ?_ (by simp) _))⟩
  · exact bodyPost_ret (v := encl 50000000 50000000) (by simp [results, Tryd.results82, go_sem]) rfl ⟨rfl, by repeat (first | exact Q.refl _ | assumption | apply Q.alloc | (refine Q.setCell ?_ (by simp) _))⟩
  · exact bodyPost_ret (v := encl 100000000 100000000) (by simp [results, Tryd.results82, go_sem]) rfl ⟨rfl, by repeat (first | exact Q.refl _ | assumption | apply Q.alloc | (refine Q.setCell ?_ (by simp) _))⟩

theorem dg_zero : dg 0 = fun _ => 0 := by
  funext k
  match k with
  | 0 | 1 | 2 | 3 | 4 | 5 => simp [dg]
  | k + 6 => simp [dg]

def SL (w : World) (x sq g4 g5 g6 g7 : Nat) (v8 : Value) (wr : World) : Prop :=
  ∃ j : Nat, j ≤ 20 ∧ v8 = .int .i64 ((j : Int) + 1) ∧ Row wr g4 6 (dg sq) ∧ Row wr g5 6 (dg (rup sq x j)) ∧ Row wr g6 6 (dg (rdn sq x j)) ∧ Row wr g7 6 (dg (rt sq x j)) ∧ Has wr w.heap.size 0 0 ∧ Q w wr

set_option maxRecDepth 100000 in
set_option maxHeartbeats 4000000 in
theorem refsteep_walk (a x sq : Nat) (n : Int) (w : World) (h0 : a ≠ 0) (h1 : a ≠ 30000000) (h2 : a < 90000000) (hx : Hid (PI45 * a / 180000000 = x)) (hq : Hid (x * x / 1000000000000000000000000000000000000000000000 = sq))
    (cx : Hid (x ≤ 3 * 10 ^ 45 ∧ sq ≤ 3 * 10 ^ 45 ∧ ∀ k, rt sq x k ≤ 3 * 10 ^ 45)) (hr : Hid (rdn sq x 20 ≤ rup sq x 20)) (hn : Hid (n = (((rup sq x 20 - rdn sq x 20) / 10 ^ 37 : Nat) : Int))) :
    Calls Tryd.prog 82 #[.int .i64 a] w fun e w' => e = .returned (encl n (n + 1)) ∧ Q w w' := by
  have t0 : ((a : Int) == 0) = false := by simp; omega
  have t1 : ((a : Int) == 30000000) = false := by simp; omega
  have t2 : ((a : Int) == 90000000) = false := by simp; omega
  go_enter Tryd.func82, Tryd.ntmps82
  go_wp2_with fail
  refine (pi_any _).mono ?_
  rintro e w1 ⟨rfl, Q1⟩
  rw [pi_dg]
  go_wp2_with fail
  refine (scaled_num PI45 a 180000000 a 180000000 _ rfl rfl (by omega) (by omega) (by omega) ?_).mono ?_
  · have c := cx.out.1
    have hx := hx.out
    unfold TOP
    constructor
    · decide +kernel
    · rw [hx]; omega
  rintro e w2 ⟨rfl, Q2⟩
  rw [hx.out]
  have H2 : Has w2 w.heap.size 0 0 := ((Has.new w 0 0 24).mono Q1).mono Q2
  have QC := (((Q.refl w).alloc (.cells #[.int .i64 0, .int .i64 0] 24)).trans Q1).trans Q2
  clear Q1 Q2
  go_upto_region 9 with fail
  have l23 : w.heap.size < w2.heap.size := H2.lt
  have R3 := Row.new6 w2 (dg x) 108
  replace H2 := H2.alloc (.cells #[.int .i64 (dg x 0), .int .i64 (dg x 1), .int .i64 (dg x 2), .int .i64 (dg x 3), .int .i64 (dg x 4), .int .i64 (dg x 5)] 108)
  replace QC := QC.alloc (.cells #[.int .i64 (dg x 0), .int .i64 (dg x 1), .int .i64 (dg x 2), .int .i64 (dg x 3), .int .i64 (dg x 4), .int .i64 (dg x 5)] 108)
  generalize w2.alloc (.cells #[.int .i64 (dg x 0), .int .i64 (dg x 1), .int .i64 (dg x 2), .int .i64 (dg x 3), .int .i64 (dg x 4), .int .i64 (dg x 5)] 108) = v2 at *
  generalize w2.heap.size = g3 at *
  obtain ⟨⟨x0, x1, x2, x3, x4, x5⟩, _⟩ := R3.all6
  go_wp2_with fail
  clear x0 x1 x2 x3 x4 x5
  refine (times_num x x _ ?_).mono ?_
  · have c := cx.out
    have hq := hq.out
    unfold TOP
    exact ⟨by omega, by omega, by rw [hq]; omega⟩
  rintro e w3 ⟨rfl, Q3⟩
  rw [hq.out]
  replace H2 := H2.mono Q3
  replace R3 := R3.mono Q3
  replace QC := QC.trans Q3
  clear Q3
  go_upto_region 10 with fail
  have l34 : g3 < w3.heap.size := R3.lt
  have R4 := Row.new6 w3 (dg sq) 108
  replace H2 := H2.alloc (.cells #[.int .i64 (dg sq 0), .int .i64 (dg sq 1), .int .i64 (dg sq 2), .int .i64 (dg sq 3), .int .i64 (dg sq 4), .int .i64 (dg sq 5)] 108)
  replace R3 := R3.alloc (.cells #[.int .i64 (dg sq 0), .int .i64 (dg sq 1), .int .i64 (dg sq 2), .int .i64 (dg sq 3), .int .i64 (dg sq 4), .int .i64 (dg sq 5)] 108)
  replace QC := QC.alloc (.cells #[.int .i64 (dg sq 0), .int .i64 (dg sq 1), .int .i64 (dg sq 2), .int .i64 (dg sq 3), .int .i64 (dg sq 4), .int .i64 (dg sq 5)] 108)
  generalize w3.alloc (.cells #[.int .i64 (dg sq 0), .int .i64 (dg sq 1), .int .i64 (dg sq 2), .int .i64 (dg sq 3), .int .i64 (dg sq 4), .int .i64 (dg sq 5)] 108) = v3 at *
  generalize w3.heap.size = g4 at *
  have z4 := R4.lt
  have z3 := R3.lt
  have z31 : g3 < v3.heap.size + 1 := by omega
  have z32 : g3 < v3.heap.size + 1 + 1 := by omega
  have z33 : g3 < v3.heap.size + 2 := by omega
  obtain ⟨⟨x0, x1, x2, x3, x4, x5⟩, _⟩ := R3.all6
  go_cut [5, 6, 7] (fun s5 s6 s7 wx => ∃ p q r : Nat, s5 = .pointer (some ⟨p, 0, none⟩) ∧ s6 = .pointer (some ⟨q, 0, none⟩) ∧ s7 = .pointer (some ⟨r, 0, none⟩) ∧ p ≠ q ∧ q ≠ r ∧ p ≠ r ∧ v3.heap.size ≤ p ∧ v3.heap.size ≤ q ∧ v3.heap.size ≤ r ∧ Row wx p 6 (dg x) ∧ Row wx q 6 (fun _ => 0) ∧ Row wx r 6 (dg x) ∧ Q v3 wx)
  case first =>
    go_region
    all_goals
      go_wp2_with fail
      go_meet
      refine ⟨_, _, _, rfl, rfl, rfl, by omega, by omega, by omega, by omega, by omega, by omega, ?_, ?_, ?_, ?_⟩
      · refine Row.drew ?_
        repeat (first | (with_reducible refine Row.new6At ?_; (simp; done)) | with_reducible refine Row.alloc ?_ _)
      · refine Row.drew ?_
        repeat (first | (with_reducible refine Row.new6At (f := fun _ => 0) ?_; (simp; done)) | with_reducible refine Row.alloc ?_ _)
      · refine Row.drew ?_
        repeat (first | (with_reducible refine Row.new6At ?_; (simp; done)) | with_reducible refine Row.alloc ?_ _)
      · repeat (first | exact Q.refl _ | with_reducible apply Q.alloc | with_reducible apply Q.drew)
  case rest =>
  obtain ⟨g5, g6, g7, rfl, rfl, rfl, d56, d67, d57, L5, L6, L7, R5, R6, R7, QW⟩ := hcut
  have L3 : w.heap.size < v3.heap.size := H2.lt
  replace H2 := H2.mono QW
  replace R4 := R4.mono QW
  replace QC := QC.trans QW
  clear x0 x1 x2 x3 x4 x5 z3 z31 z32 z33 R3 l23 l34 QW
  generalize v3.heap.size = z at *
  go_wp2_with fail
  go_loopw [8] (fun v8 wr => SL w x sq g4 g5 g6 g7 v8 wr) (fun v8 _ => 21 - (intOf v8).toNat)
  case atStart => exact ⟨0, by omega, rfl, R4, R5, by rw [show rdn sq x 0 = 0 from rfl, dg_zero]; exact R6, R7, H2, QC⟩
  case round =>
    clear R4 R5 R6 R7 H2 QC
    obtain ⟨j, hj, rfl, R4, R5, R6, R7, H2, QC⟩ := hrel
    have cap := cx.out
    have sc := sums_cap sq x (3 * 10 ^ 45) cap.1 cap.2.2 j
    by_cases hlt : j < 20
    · have b1 : (j : Int) < 20 := by omega
      have b2 : 0 ≤ (j : Int) := by omega
      obtain ⟨⟨x0, x1, x2, x3, x4, x5⟩, _⟩ := R7.all6
      obtain ⟨⟨y0, y1, y2, y3, y4, y5⟩, _⟩ := R4.all6
      have CT := cap.2.2 j
      have CT1 := cap.2.2 (j + 1)
      have CQ := cap.2.1
      have HT := Lib.hid CT
      have HT1 := Lib.hid CT1
      have HQ := Lib.hid CQ
      have HSC := Lib.hid sc
      clear CT CT1 CQ cap sc
      go_wp2_with fail
      clear x0 x1 x2 x3 x4 x5 y0 y1 y2 y3 y4 y5
      refine (times_num (rt sq x j) sq _ ?_).mono ?_
      · have a := HT.out
        have b := HQ.out
        unfold TOP
        have := Nat.mul_le_mul a b
        exact ⟨by omega, by omega, by omega⟩
      rintro e wa ⟨rfl, Qa⟩
      replace R4 := R4.mono Qa
      replace R5 := R5.mono Qa
      replace R6 := R6.mono Qa
      replace R7 := R7.mono Qa
      replace H2 := H2.mono Qa
      replace QC := QC.trans Qa
      clear Qa
      go_wp2_with fail
      have hD : wrap64 (2 * ((j : Int) + 1) * (2 * ((j : Int) + 1) + 1)) = ((2 * (j + 1) * (2 * (j + 1) + 1) : Nat) : Int) := by
        have m : (2 * (j + 1)) * (2 * (j + 1) + 1) ≤ 40 * 41 := Nat.mul_le_mul (by omega) (by omega)
        have e : 2 * ((j : Int) + 1) * (2 * ((j : Int) + 1) + 1) = ((2 * (j + 1) * (2 * (j + 1) + 1) : Nat) : Int) := by simp only [Int.natCast_mul, Int.natCast_add]; rfl
        rw [e]
        exact IntWalk.wrap64_in _ (by omega)
      rw [hD]
      have D0 : 0 < 2 * (j + 1) * (2 * (j + 1) + 1) := Nat.mul_pos (by omega) (by omega)
      have D1 : 2 * (j + 1) * (2 * (j + 1) + 1) ≤ 40 * 41 := Nat.mul_le_mul (by omega) (by omega)
      have ert : rt sq x j * sq / 1000000000000000000000000000000000000000000000 * 1 / (2 * (j + 1) * (2 * (j + 1) + 1)) = rt sq x (j + 1) := by rw [Nat.mul_one]; rfl
      have ERT := Lib.hid ert
      have HD := Lib.hid hD
      clear hD ert
      generalize 2 * (j + 1) * (2 * (j + 1) + 1) = D at *
      refine (scaled_num (rt sq x j * sq / 1000000000000000000000000000000000000000000000) 1 D 1 D _ rfl rfl (by omega) (by omega) (by omega) ?_).mono ?_
      · have a := HT.out
        have b := HQ.out
        have c := HT1.out
        have := Nat.mul_le_mul a b
        unfold TOP
        exact ⟨by omega, by rw [ERT.out]; omega⟩
      rintro e wb ⟨rfl, Qb⟩
      rw [ERT.out]
      replace R4 := R4.mono Qb
      replace R5 := R5.mono Qb
      replace R6 := R6.mono Qb
      replace R7 := R7.mono Qb
      replace H2 := H2.mono Qb
      replace QC := QC.trans Qb
      clear Qb HD ERT D0 D1
      obtain ⟨⟨y0, y1, y2, y3, y4, y5⟩, m0, m1, m2, m3, m4, m5⟩ := R7.all6
      have lt7 := R7.lt
      go_upto_region 15 with fail
      clear y0 y1 y2 y3 y4 y5 m0 m1 m2 m3 m4 m5 lt7
      replace R4 := ((((((R4.apart (g' := g7) (o := 0) (by omega) (.int .i64 (dg (rt sq x (j + 1)) 0))).apart (g' := g7) (o := 1) (by omega) (.int .i64 (dg (rt sq x (j + 1)) 1))).apart (g' := g7) (o := 2) (by omega) (.int .i64 (dg (rt sq x (j + 1)) 2))).apart (g' := g7) (o := 3) (by omega) (.int .i64 (dg (rt sq x (j + 1)) 3))).apart (g' := g7) (o := 4) (by omega) (.int .i64 (dg (rt sq x (j + 1)) 4))).apart (g' := g7) (o := 5) (by omega) (.int .i64 (dg (rt sq x (j + 1)) 5)))
      replace R5 := ((((((R5.apart (g' := g7) (o := 0) (by omega) (.int .i64 (dg (rt sq x (j + 1)) 0))).apart (g' := g7) (o := 1) (by omega) (.int .i64 (dg (rt sq x (j + 1)) 1))).apart (g' := g7) (o := 2) (by omega) (.int .i64 (dg (rt sq x (j + 1)) 2))).apart (g' := g7) (o := 3) (by omega) (.int .i64 (dg (rt sq x (j + 1)) 3))).apart (g' := g7) (o := 4) (by omega) (.int .i64 (dg (rt sq x (j + 1)) 4))).apart (g' := g7) (o := 5) (by omega) (.int .i64 (dg (rt sq x (j + 1)) 5)))
      replace R6 := ((((((R6.apart (g' := g7) (o := 0) (by omega) (.int .i64 (dg (rt sq x (j + 1)) 0))).apart (g' := g7) (o := 1) (by omega) (.int .i64 (dg (rt sq x (j + 1)) 1))).apart (g' := g7) (o := 2) (by omega) (.int .i64 (dg (rt sq x (j + 1)) 2))).apart (g' := g7) (o := 3) (by omega) (.int .i64 (dg (rt sq x (j + 1)) 3))).apart (g' := g7) (o := 4) (by omega) (.int .i64 (dg (rt sq x (j + 1)) 4))).apart (g' := g7) (o := 5) (by omega) (.int .i64 (dg (rt sq x (j + 1)) 5)))
      replace H2 := ((((((H2.apart (g' := g7) (o := 0) (by omega) (.int .i64 (dg (rt sq x (j + 1)) 0))).apart (g' := g7) (o := 1) (by omega) (.int .i64 (dg (rt sq x (j + 1)) 1))).apart (g' := g7) (o := 2) (by omega) (.int .i64 (dg (rt sq x (j + 1)) 2))).apart (g' := g7) (o := 3) (by omega) (.int .i64 (dg (rt sq x (j + 1)) 3))).apart (g' := g7) (o := 4) (by omega) (.int .i64 (dg (rt sq x (j + 1)) 4))).apart (g' := g7) (o := 5) (by omega) (.int .i64 (dg (rt sq x (j + 1)) 5)))
      replace R7 := R7.store6 (dg (rt sq x (j + 1)))
      replace QC := QC.store6 (g := g7) (by omega) (.int .i64 (dg (rt sq x (j + 1)) 0)) (.int .i64 (dg (rt sq x (j + 1)) 1)) (.int .i64 (dg (rt sq x (j + 1)) 2)) (.int .i64 (dg (rt sq x (j + 1)) 3)) (.int .i64 (dg (rt sq x (j + 1)) 4)) (.int .i64 (dg (rt sq x (j + 1)) 5))
      generalize ((((((wb.setCell ⟨g7, 0, none⟩ (.int .i64 (dg (rt sq x (j + 1)) 0))).setCell ⟨g7, 1, none⟩ (.int .i64 (dg (rt sq x (j + 1)) 1))).setCell ⟨g7, 2, none⟩ (.int .i64 (dg (rt sq x (j + 1)) 2))).setCell ⟨g7, 3, none⟩ (.int .i64 (dg (rt sq x (j + 1)) 3))).setCell ⟨g7, 4, none⟩ (.int .i64 (dg (rt sq x (j + 1)) 4))).setCell ⟨g7, 5, none⟩ (.int .i64 (dg (rt sq x (j + 1)) 5))) = wd at *
      by_cases par : (j + 1) % 2 = 0
      · have pe : (((j : Int) + 1) % 2 == 0) = true := by simp; omega
        go_upto_region 16 with fail
        obtain ⟨⟨x0, x1, x2, x3, x4, x5⟩, _⟩ := R7.all6
        obtain ⟨⟨y0, y1, y2, y3, y4, y5⟩, m0, m1, m2, m3, m4, m5⟩ := R5.all6
        go_wp2_with fail
        clear x0 x1 x2 x3 x4 x5 y0 y1 y2 y3 y4 y5 m0 m1 m2 m3 m4 m5
        refine (plus_num (rup sq x j) (rt sq x (j + 1)) _ ?_).mono ?_
        · have a := HT1.out
          have b := HSC.out
          have c : (j + 1) * (3 * 10 ^ 45) ≤ 21 * (3 * 10 ^ 45) := Nat.mul_le_mul_right _ (by omega)
          show _ < TOP
          unfold TOP
          omega
        rintro e wc ⟨rfl, Qc⟩
        replace R4 := R4.mono Qc
        replace R5 := R5.mono Qc
        replace R6 := R6.mono Qc
        replace R7 := R7.mono Qc
        replace H2 := H2.mono Qc
        replace QC := QC.trans Qc
        clear Qc
        obtain ⟨⟨y0, y1, y2, y3, y4, y5⟩, m0, m1, m2, m3, m4, m5⟩ := R5.all6
        have ltg5 := R5.lt
        go_wp2_with fail
        case roundEnd =>
          refine ⟨⟨j + 1, by omega, by go_num, ((((((R4.apart (g' := g5) (o := 0) (by omega) (.int .i64 (dg (rup sq x j + rt sq x (j + 1)) 0))).apart (g' := g5) (o := 1) (by omega) (.int .i64 (dg (rup sq x j + rt sq x (j + 1)) 1))).apart (g' := g5) (o := 2) (by omega) (.int .i64 (dg (rup sq x j + rt sq x (j + 1)) 2))).apart (g' := g5) (o := 3) (by omega) (.int .i64 (dg (rup sq x j + rt sq x (j + 1)) 3))).apart (g' := g5) (o := 4) (by omega) (.int .i64 (dg (rup sq x j + rt sq x (j + 1)) 4))).apart (g' := g5) (o := 5) (by omega) (.int .i64 (dg (rup sq x j + rt sq x (j + 1)) 5))), by rw [show rup sq x (j + 1) = rup sq x j + rt sq x (j + 1) from by simp only [rup]; rw [if_pos par]]; exact R5.store6 (dg (rup sq x j + rt sq x (j + 1))), by rw [show rdn sq x (j + 1) = rdn sq x j from by simp only [rdn]; rw [if_pos par]]; exact ((((((R6.apart (g' := g5) (o := 0) (by omega) (.int .i64 (dg (rup sq x j + rt sq x (j + 1)) 0))).apart (g' := g5) (o := 1) (by omega) (.int .i64 (dg (rup sq x j + rt sq x (j + 1)) 1))).apart (g' := g5) (o := 2) (by omega) (.int .i64 (dg (rup sq x j + rt sq x (j + 1)) 2))).apart (g' := g5) (o := 3) (by omega) (.int .i64 (dg (rup sq x j + rt sq x (j + 1)) 3))).apart (g' := g5) (o := 4) (by omega) (.int .i64 (dg (rup sq x j + rt sq x (j + 1)) 4))).apart (g' := g5) (o := 5) (by omega) (.int .i64 (dg (rup sq x j + rt sq x (j + 1)) 5))), ((((((R7.apart (g' := g5) (o := 0) (by omega) (.int .i64 (dg (rup sq x j + rt sq x (j + 1)) 0))).apart (g' := g5) (o := 1) (by omega) (.int .i64 (dg (rup sq x j + rt sq x (j + 1)) 1))).apart (g' := g5) (o := 2) (by omega) (.int .i64 (dg (rup sq x j + rt sq x (j + 1)) 2))).apart (g' := g5) (o := 3) (by omega) (.int .i64 (dg (rup sq x j + rt sq x (j + 1)) 3))).apart (g' := g5) (o := 4) (by omega) (.int .i64 (dg (rup sq x j + rt sq x (j + 1)) 4))).apart (g' := g5) (o := 5) (by omega) (.int .i64 (dg (rup sq x j + rt sq x (j + 1)) 5))), ((((((H2.apart (g' := g5) (o := 0) (by omega) (.int .i64 (dg (rup sq x j + rt sq x (j + 1)) 0))).apart (g' := g5) (o := 1) (by omega) (.int .i64 (dg (rup sq x j + rt sq x (j + 1)) 1))).apart (g' := g5) (o := 2) (by omega) (.int .i64 (dg (rup sq x j + rt sq x (j + 1)) 2))).apart (g' := g5) (o := 3) (by omega) (.int .i64 (dg (rup sq x j + rt sq x (j + 1)) 3))).apart (g' := g5) (o := 4) (by omega) (.int .i64 (dg (rup sq x j + rt sq x (j + 1)) 4))).apart (g' := g5) (o := 5) (by omega) (.int .i64 (dg (rup sq x j + rt sq x (j + 1)) 5))), QC.store6 (g := g5) (by omega) (.int .i64 (dg (rup sq x j + rt sq x (j + 1)) 0)) (.int .i64 (dg (rup sq x j + rt sq x (j + 1)) 1)) (.int .i64 (dg (rup sq x j + rt sq x (j + 1)) 2)) (.int .i64 (dg (rup sq x j + rt sq x (j + 1)) 3)) (.int .i64 (dg (rup sq x j + rt sq x (j + 1)) 4)) (.int .i64 (dg (rup sq x j + rt sq x (j + 1)) 5))⟩, by simp [intOf]; omega⟩
      · have pe : (((j : Int) + 1) % 2 == 0) = false := by simp; omega
        go_upto_region 17 with fail
        obtain ⟨⟨x0, x1, x2, x3, x4, x5⟩, _⟩ := R7.all6
        obtain ⟨⟨y0, y1, y2, y3, y4, y5⟩, m0, m1, m2, m3, m4, m5⟩ := R6.all6
        go_wp2_with fail
        clear x0 x1 x2 x3 x4 x5 y0 y1 y2 y3 y4 y5 m0 m1 m2 m3 m4 m5
        refine (plus_num (rdn sq x j) (rt sq x (j + 1)) _ ?_).mono ?_
        · have a := HT1.out
          have b := HSC.out
          have c : (j + 1) * (3 * 10 ^ 45) ≤ 21 * (3 * 10 ^ 45) := Nat.mul_le_mul_right _ (by omega)
          show _ < TOP
          unfold TOP
          omega
        rintro e wc ⟨rfl, Qc⟩
        replace R4 := R4.mono Qc
        replace R5 := R5.mono Qc
        replace R6 := R6.mono Qc
        replace R7 := R7.mono Qc
        replace H2 := H2.mono Qc
        replace QC := QC.trans Qc
        clear Qc
        obtain ⟨⟨y0, y1, y2, y3, y4, y5⟩, m0, m1, m2, m3, m4, m5⟩ := R6.all6
        have ltg6 := R6.lt
        go_wp2_with fail
        case roundEnd =>
          refine ⟨⟨j + 1, by omega, by go_num, ((((((R4.apart (g' := g6) (o := 0) (by omega) (.int .i64 (dg (rdn sq x j + rt sq x (j + 1)) 0))).apart (g' := g6) (o := 1) (by omega) (.int .i64 (dg (rdn sq x j + rt sq x (j + 1)) 1))).apart (g' := g6) (o := 2) (by omega) (.int .i64 (dg (rdn sq x j + rt sq x (j + 1)) 2))).apart (g' := g6) (o := 3) (by omega) (.int .i64 (dg (rdn sq x j + rt sq x (j + 1)) 3))).apart (g' := g6) (o := 4) (by omega) (.int .i64 (dg (rdn sq x j + rt sq x (j + 1)) 4))).apart (g' := g6) (o := 5) (by omega) (.int .i64 (dg (rdn sq x j + rt sq x (j + 1)) 5))), by rw [show rup sq x (j + 1) = rup sq x j from by simp only [rup]; rw [if_neg par]]; exact ((((((R5.apart (g' := g6) (o := 0) (by omega) (.int .i64 (dg (rdn sq x j + rt sq x (j + 1)) 0))).apart (g' := g6) (o := 1) (by omega) (.int .i64 (dg (rdn sq x j + rt sq x (j + 1)) 1))).apart (g' := g6) (o := 2) (by omega) (.int .i64 (dg (rdn sq x j + rt sq x (j + 1)) 2))).apart (g' := g6) (o := 3) (by omega) (.int .i64 (dg (rdn sq x j + rt sq x (j + 1)) 3))).apart (g' := g6) (o := 4) (by omega) (.int .i64 (dg (rdn sq x j + rt sq x (j + 1)) 4))).apart (g' := g6) (o := 5) (by omega) (.int .i64 (dg (rdn sq x j + rt sq x (j + 1)) 5))), by rw [show rdn sq x (j + 1) = rdn sq x j + rt sq x (j + 1) from by simp only [rdn]; rw [if_neg par]]; exact R6.store6 (dg (rdn sq x j + rt sq x (j + 1))), ((((((R7.apart (g' := g6) (o := 0) (by omega) (.int .i64 (dg (rdn sq x j + rt sq x (j + 1)) 0))).apart (g' := g6) (o := 1) (by omega) (.int .i64 (dg (rdn sq x j + rt sq x (j + 1)) 1))).apart (g' := g6) (o := 2) (by omega) (.int .i64 (dg (rdn sq x j + rt sq x (j + 1)) 2))).apart (g' := g6) (o := 3) (by omega) (.int .i64 (dg (rdn sq x j + rt sq x (j + 1)) 3))).apart (g' := g6) (o := 4) (by omega) (.int .i64 (dg (rdn sq x j + rt sq x (j + 1)) 4))).apart (g' := g6) (o := 5) (by omega) (.int .i64 (dg (rdn sq x j + rt sq x (j + 1)) 5))), ((((((H2.apart (g' := g6) (o := 0) (by omega) (.int .i64 (dg (rdn sq x j + rt sq x (j + 1)) 0))).apart (g' := g6) (o := 1) (by omega) (.int .i64 (dg (rdn sq x j + rt sq x (j + 1)) 1))).apart (g' := g6) (o := 2) (by omega) (.int .i64 (dg (rdn sq x j + rt sq x (j + 1)) 2))).apart (g' := g6) (o := 3) (by omega) (.int .i64 (dg (rdn sq x j + rt sq x (j + 1)) 3))).apart (g' := g6) (o := 4) (by omega) (.int .i64 (dg (rdn sq x j + rt sq x (j + 1)) 4))).apart (g' := g6) (o := 5) (by omega) (.int .i64 (dg (rdn sq x j + rt sq x (j + 1)) 5))), QC.store6 (g := g6) (by omega) (.int .i64 (dg (rdn sq x j + rt sq x (j + 1)) 0)) (.int .i64 (dg (rdn sq x j + rt sq x (j + 1)) 1)) (.int .i64 (dg (rdn sq x j + rt sq x (j + 1)) 2)) (.int .i64 (dg (rdn sq x j + rt sq x (j + 1)) 3)) (.int .i64 (dg (rdn sq x j + rt sq x (j + 1)) 4)) (.int .i64 (dg (rdn sq x j + rt sq x (j + 1)) 5))⟩, by simp [intOf]; omega⟩
    · have e20 : j = 20 := by omega
      subst e20
      obtain ⟨⟨x0, x1, x2, x3, x4, x5⟩, _⟩ := R5.all6
      obtain ⟨⟨y0, y1, y2, y3, y4, y5⟩, _⟩ := R6.all6
      have HSC := Lib.hid sc
      clear sc cap
      go_wp2_with fail
      clear x0 x1 x2 x3 x4 x5 y0 y1 y2 y3 y4 y5
      refine (minus_num (rup sq x 20) (rdn sq x 20) _ ?_).mono ?_
      · have b := HSC.out
        refine ⟨hr.out, ?_⟩
        unfold TOP
        omega
      rintro e wa ⟨rfl, Qa⟩
      replace H2 := H2.mono Qa
      replace QC := QC.trans Qa
      have hS : rup sq x 20 - rdn sq x 20 < 1000000000000000000000000000000000000000000000000000000 := by
        have b := HSC.out
        omega
      have HS := Lib.hid hS
      clear Qa R4 R5 R6 R7 HSC hr hS
      have hn := hn.out
      generalize rup sq x 20 - rdn sq x 20 = S at *
      go_upto_region 19 with fail
      have R9 := Row.new6 wa (dg S) 108
      have l29 : w.heap.size < wa.heap.size := H2.lt
      replace H2 := H2.alloc (.cells #[.int .i64 (dg S 0), .int .i64 (dg S 1), .int .i64 (dg S 2), .int .i64 (dg S 3), .int .i64 (dg S 4), .int .i64 (dg S 5)] 108)
      replace QC := QC.alloc (.cells #[.int .i64 (dg S 0), .int .i64 (dg S 1), .int .i64 (dg S 2), .int .i64 (dg S 3), .int .i64 (dg S 4), .int .i64 (dg S 5)] 108)
      generalize wa.alloc (.cells #[.int .i64 (dg S 0), .int .i64 (dg S 1), .int .i64 (dg S 2), .int .i64 (dg S 3), .int .i64 (dg S 4), .int .i64 (dg S 5)] 108) = v9 at *
      generalize wa.heap.size = g9 at *
      have k0 := R9.c 0 (by omega)
      have k1 := R9.c 1 (by omega)
      have c0 := dg_dig S 0 (by omega)
      have c1 := dg_dig S 1 (by omega)
      have en : dg S 0 * 100000000 + dg S 1 / 10 = n := by
        have hS := HS.out
        rw [hn]
        simp only [dg]
        omega
      have EN := Lib.hid en
      clear hn en R9
      generalize dg S 0 = s0 at *
      generalize dg S 1 = s1 at *
      obtain ⟨z2, k20, k21, f20, f21⟩ := id H2
      have R := H2.store (s0 * 100000000 + s1 / 10) (s0 * 100000000 + s1 / 10 + 1)
      replace QC := (QC.setCell (p := ⟨w.heap.size, 0, none⟩) (Nat.le_refl _) (.int .i64 (s0 * 100000000 + s1 / 10))).setCell (p := ⟨w.heap.size, 1, none⟩) (Nat.le_refl _) (.int .i64 (s0 * 100000000 + s1 / 10 + 1))
      clear H2
      go_wp2_with fail
      generalize (v9.setCell ⟨w.heap.size, 0, none⟩ (.int .i64 (s0 * 100000000 + s1 / 10))).setCell ⟨w.heap.size, 1, none⟩ (.int .i64 (s0 * 100000000 + s1 / 10 + 1)) = v10 at *
      obtain ⟨_, r0, r1, _, _⟩ := R
      exact bodyPost_ret (v := encl (s0 * 100000000 + s1 / 10) (s0 * 100000000 + s1 / 10 + 1)) (by simp [results, Tryd.results82, go_sem, r0, r1]) rfl ⟨by rw [EN.out], QC⟩

theorem refsteep_any (a : Nat) (w : World) (ha : a ≤ 90000000) :
    Calls Tryd.prog 82 #[.int .i64 a] w fun e w' => e = .returned (encl (sLo a) (sHi a)) ∧ Q w w' := by
  by_cases a0 : a = 0
  · subst a0
    rw [show sHi 0 = sLo 0 by decide +kernel]
    exact refsteep_exact 0 (sLo 0) w (.inl ⟨rfl, by decide +kernel⟩)
  by_cases a1 : a = 30000000
  · subst a1
    rw [show sHi 30000000 = sLo 30000000 by decide +kernel]
    exact refsteep_exact 30000000 (sLo 30000000) w (.inr (.inl ⟨rfl, by decide +kernel⟩))
  by_cases a2 : a = 90000000
  · subst a2
    rw [show sHi 90000000 = sLo 90000000 by decide +kernel]
    exact refsteep_exact 90000000 (sLo 90000000) w (.inr (.inr ⟨rfl, by decide +kernel⟩))
  obtain ⟨b1, b2, b3⟩ := sines_agree a a0 a1 (by omega)
  rw [← b2, ← b3]
  have c := caps a ha
  have := refsteep_walk a (rx a) (rsq (rx a)) ((rN a : Nat) : Int) w a0 a1 (by omega) rfl rfl c b1 rfl
  exact this


end Go.Proofs.YtjbhnjnlpekpoaaDoor
