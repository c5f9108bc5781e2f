/-
  The document's least enclosure of four fractions, its products and quotients.
-/
import Derived.Test.YtjbhnjnlpekpoaaDoorArR
import Derived.Deep.RegionHeld3
import Derived.Deep.DeepCutAuto
namespace Go.Proofs.YtjbhnjnlpekpoaaDoor
open Go.RowKit Go.Sort
set_option linter.unusedVariables false

/-- a block of four integers -/
structure Four (W : World) (g : Nat) (N : Nat → Int) : Prop where
  lt : g < W.heap.size
  c : ∀ k, k < 4 → W.cell? ⟨g, k, none⟩ = some (.int .i64 (N k))
theorem Four.newAt {W : World} {g : Nat} {N : Nat → Int} {t : TypeId} (h : g = W.heap.size) : Four (W.alloc (.cells #[.int .i64 (N 0), .int .i64 (N 1), .int .i64 (N 2), .int .i64 (N 3)] t)) g N := by
  subst h
  refine ⟨by simp, fun k hk => ?_⟩
  match k, hk with
  | 0, _ | 1, _ | 2, _ | 3, _ => simp [go_sem]
theorem Four.mono {W W' : World} {g : Nat} {N : Nat → Int} (h : Four W g N) (q : Q W W') : Four W' g N :=
  ⟨Nat.lt_of_lt_of_le h.lt q.size, fun k hk => by rw [q.cell _ h.lt]; exact h.c k hk⟩

def lsK (N D : Nat → Int) : Nat → Int
  | 0 => N 0 / D 0
  | k + 1 => min (lsK N D k) (N (k + 1) / D (k + 1))
def lsM (N D : Nat → Int) : Nat → Int
  | 0 => -((-(N 0)) / D 0)
  | k + 1 => max (lsM N D k) (-((-(N (k + 1))) / D (k + 1)))

theorem refdown_eq (n d q : Int) (w : World) (hd : 0 < d) (hn : -9000000000000000000 ≤ n ∧ n ≤ 9000000000000000000) (hd2 : d ≤ 9000000000000000000) (hq : Hid (q = n / d)) :
    Calls Tryd.prog 88 #[.int .i64 n, .int .i64 d] w fun e w' => e = .returned (.int .i64 q) ∧ w' = w := by
  rw [hq.out]
  exact refdown_any n d w hd hn hd2

def LInv (N D : Nat → Int) (w0 : World) (g h : Nat) (a b i : Value) (wr : World) : Prop :=
  ∃ (k : Nat) (p q : Int), k ≤ 3 ∧ i = .int .i64 ((k + 1 : Nat) : Int) ∧ a = .int .i64 p ∧ b = .int .i64 q ∧ Hid (p = lsK N D k) ∧ Hid (q = lsM N D k) ∧ Four wr g N ∧ Four wr h D ∧ Q w0 wr

set_option maxRecDepth 100000 in
set_option maxHeartbeats 2000000 in
theorem least_any (N D : Nat → Int) (lo hi : Int) (w : World) (hN : ∀ k, k < 4 → -9000000000000000000 ≤ N k ∧ N k ≤ 9000000000000000000) (hD : ∀ k, k < 4 → 0 < D k ∧ D k ≤ 9000000000000000000) (hlo : Hid (lo = lsK N D 3)) (hhi : Hid (hi = lsM N D 3)) :
    Calls Tryd.prog 65 #[.agg #[.int .i64 (N 0), .int .i64 (N 1), .int .i64 (N 2), .int .i64 (N 3)], .agg #[.int .i64 (D 0), .int .i64 (D 1), .int .i64 (D 2), .int .i64 (D 3)]] w fun e w' => e = .returned (.tuple #[.int .i64 lo, .int .i64 hi]) ∧ Q w w' := by
  have HN := Lib.hid hN
  have HD := Lib.hid hD
  clear hN hD
  have m2 := run_min2
  have x2 := run_max2
  go_enter Tryd.func65, Tryd.ntmps65
  go_upto_region 1 with fail
  have B2 : Four ((w.alloc (.cells #[.int .i64 (N 0), .int .i64 (N 1), .int .i64 (N 2), .int .i64 (N 3)] 65)).alloc (.cells #[.int .i64 (D 0), .int .i64 (D 1), .int .i64 (D 2), .int .i64 (D 3)] 65)) w.heap.size N := (Four.newAt rfl).mono ((Q.refl _).alloc _)
  have B3 : Four ((w.alloc (.cells #[.int .i64 (N 0), .int .i64 (N 1), .int .i64 (N 2), .int .i64 (N 3)] 65)).alloc (.cells #[.int .i64 (D 0), .int .i64 (D 1), .int .i64 (D 2), .int .i64 (D 3)] 65)) (w.heap.size + 1) D := Four.newAt (by simp)
  have QC := ((Q.refl w).alloc (.cells #[.int .i64 (N 0), .int .i64 (N 1), .int .i64 (N 2), .int .i64 (N 3)] 65)).alloc (.cells #[.int .i64 (D 0), .int .i64 (D 1), .int .i64 (D 2), .int .i64 (D 3)] 65)
  generalize (w.alloc (.cells #[.int .i64 (N 0), .int .i64 (N 1), .int .i64 (N 2), .int .i64 (N 3)] 65)).alloc (.cells #[.int .i64 (D 0), .int .i64 (D 1), .int .i64 (D 2), .int .i64 (D 3)] 65) = W at *
  have c20 := B2.c 0 (by omega)
  have c30 := B3.c 0 (by omega)
  have l2 := B2.lt
  have l3 := B3.lt
  have n0 := HN.out 0 (by omega)
  have d0 := HD.out 0 (by omega)
  obtain ⟨p, hp⟩ : ∃ p, p = N 0 / D 0 := ⟨_, rfl⟩
  obtain ⟨q, hq⟩ : ∃ q, q = (-(N 0)) / D 0 := ⟨_, rfl⟩
  have bp := fr_bd (N 0) (D 0) d0.1 n0
  have bq := fr_bd (-(N 0)) (D 0) d0.1 (by omega)
  rw [← hp] at bp
  rw [← hq] at bq
  have HP := Lib.hid hp
  have HQ := Lib.hid hq
  clear hp hq
  have v1 : IntKind.i64.wrap (-(N 0)) = -(N 0) := IntWalk.i64_in _ (by omega)
  have v2 : IntKind.i64.wrap (-q) = -q := IntWalk.i64_in _ (by omega)
  have n0' : -9000000000000000000 ≤ -(N 0) ∧ -(N 0) ≤ 9000000000000000000 := by omega
  obtain ⟨d0a, d0b⟩ := d0
  go_quiet ((first | with_reducible exact Calls.quiet_of_same (refdown_eq (N 0) (D 0) p _ d0a n0 d0b HP) | with_reducible exact Calls.quiet_of_same (refdown_eq (-(N 0)) (D 0) q _ d0a n0' d0b HQ)))
  have QW : Q W (W.drewN nq) := (Q.refl W).drewN nq
  replace B2 := B2.mono QW
  replace B3 := B3.mono QW
  replace QC := QC.trans QW
  clear QW c20 c30 l2 l3 n0 d0a d0b n0' v1 v2 bp
  generalize W.drewN nq = w5 at *
  have HP0 : Hid (p = lsK N D 0) := HP
  have HQ0 : Hid (-q = lsM N D 0) := Lib.hid (by rw [HQ.out]; rfl)
  clear HP HQ
  generalize -q = q' at *
  go_wp2_with fail
  go_loopw [6, 7, 8] (fun a b i wr => LInv N D w w.heap.size (w.heap.size + 1) a b i wr) (fun _ _ i _ => 4 - (intOf i).toNat)
  case atStart => exact ⟨0, p, q', by omega, rfl, rfl, rfl, HP0, HQ0, B2, B3, QC⟩
  case round =>
    clear HP0 HQ0 B2 B3 QC bq
    obtain ⟨k, p1, q1, hk, rfl, rfl, rfl, HP, HQ, B2, B3, QC⟩ := hrel
    by_cases hlt : k < 3
    · have c2 := B2.c (k + 1) (by omega)
      have c3 := B3.c (k + 1) (by omega)
      have l2 := B2.lt
      have l3 := B3.lt
      have n0 := HN.out (k + 1) (by omega)
      have d0 := HD.out (k + 1) (by omega)
      have EP : Hid (lsK N D (k + 1) = min (lsK N D k) (N (k + 1) / D (k + 1))) := rfl
      have EQ : Hid (lsM N D (k + 1) = max (lsM N D k) (-((-(N (k + 1))) / D (k + 1)))) := rfl
      generalize N (k + 1) = n at *
      generalize D (k + 1) = d at *
      obtain ⟨d0a, d0b⟩ := d0
      obtain ⟨u, hu⟩ : ∃ u, u = n / d := ⟨_, rfl⟩
      obtain ⟨v, hv⟩ : ∃ v, v = (-n) / d := ⟨_, rfl⟩
      have bv := fr_bd (-n) d d0a (by omega)
      rw [← hv] at bv
      have HU := Lib.hid hu
      have HV := Lib.hid hv
      clear hu hv
      have v1 : IntKind.i64.wrap (-n) = -n := IntWalk.i64_in _ (by omega)
      have v2 : IntKind.i64.wrap (-v) = -v := IntWalk.i64_in _ (by omega)
      have n0' : -9000000000000000000 ≤ -n ∧ -n ≤ 9000000000000000000 := by omega
      go_upto_region 5 with fail
      go_quiet ((first | with_reducible exact Calls.quiet_of_same (refdown_eq n d u _ d0a n0 d0b HU) | with_reducible exact Calls.quiet_of_same (refdown_eq (-n) d v _ d0a n0' d0b HV)))
      have QW : Q wr (wr.drewN nq) := (Q.refl wr).drewN nq
      replace B2 := B2.mono QW
      replace B3 := B3.mono QW
      replace QC := QC.trans QW
      clear QW c2 c3 l2 l3 n0 d0a d0b n0' v1 v2 bv
      generalize wr.drewN nq = w5 at *
      go_wp2_with fail
      go_roundw
      case rel =>
        refine ⟨k + 1, min p1 u, max q1 (-v), by omega, by go_num, rfl, rfl, ?_, ?_, B2, B3, QC⟩
        · show _ = _
          rw [EP.out, HP.out, HU.out]
        · show _ = _
          rw [EQ.out, HQ.out, HV.out]
      case measure => simp [intOf]; omega
    · obtain rfl : k = 3 := by omega
      have ea : p1 = lo := by rw [HP.out, hlo.out]
      have eb : q1 = hi := by rw [HQ.out, hhi.out]
      have EA := Lib.hid ea
      have EB := Lib.hid eb
      clear ea eb HP HQ hlo hhi B2 B3
      go_wp2_with fail
      go_ret2
      exact ⟨by rw [EA.out, EB.out]; rfl, QC⟩

def four (a b c d : Int) : Nat → Int
  | 0 => a
  | 1 => b
  | 2 => c
  | _ => d
theorem four_all {P : Int → Prop} {a b c d : Int} (ha : P a) (hb : P b) (hc : P c) (hd : P d) : ∀ k, k < 4 → P (four a b c d k)
  | 0, _ => ha
  | 1, _ => hb
  | 2, _ => hc
  | 3, _ => hd
theorem ls_four (n0 n1 n2 n3 d0 d1 d2 d3 : Int) : lsK (four n0 n1 n2 n3) (four d0 d1 d2 d3) 3 = lsLo n0 n1 n2 n3 d0 d1 d2 d3 ∧ lsM (four n0 n1 n2 n3) (four d0 d1 d2 d3) 3 = lsHi n0 n1 n2 n3 d0 d1 d2 d3 := ⟨rfl, rfl⟩

theorem least_four (n0 n1 n2 n3 d0 d1 d2 d3 lo hi : Int) (w : World) (a0 : -9000000000000000000 ≤ n0 ∧ n0 ≤ 9000000000000000000) (a1 : -9000000000000000000 ≤ n1 ∧ n1 ≤ 9000000000000000000) (a2 : -9000000000000000000 ≤ n2 ∧ n2 ≤ 9000000000000000000) (a3 : -9000000000000000000 ≤ n3 ∧ n3 ≤ 9000000000000000000)
    (b0 : 0 < d0 ∧ d0 ≤ 9000000000000000000) (b1 : 0 < d1 ∧ d1 ≤ 9000000000000000000) (b2 : 0 < d2 ∧ d2 ≤ 9000000000000000000) (b3 : 0 < d3 ∧ d3 ≤ 9000000000000000000) (h1 : Hid (lo = lsLo n0 n1 n2 n3 d0 d1 d2 d3)) (h2 : Hid (hi = lsHi n0 n1 n2 n3 d0 d1 d2 d3)) :
    Calls Tryd.prog 65 #[.agg #[.int .i64 n0, .int .i64 n1, .int .i64 n2, .int .i64 n3], .agg #[.int .i64 d0, .int .i64 d1, .int .i64 d2, .int .i64 d3]] w fun e w' => e = .returned (.tuple #[.int .i64 lo, .int .i64 hi]) ∧ Q w w' :=
  least_any (four n0 n1 n2 n3) (four d0 d1 d2 d3) lo hi w (four_all (P := fun n => -9000000000000000000 ≤ n ∧ n ≤ 9000000000000000000) a0 a1 a2 a3) (four_all (P := fun d => 0 < d ∧ d ≤ 9000000000000000000) b0 b1 b2 b3) h1 h2

theorem ls_ex (n0 n1 n2 n3 d0 d1 d2 d3 A B er : Int) (hr : rRes (lsLo n0 n1 n2 n3 d0 d1 d2 d3) (lsHi n0 n1 n2 n3 d0 d1 d2 d3) A B er) : ∃ lo hi, Hid (lo = lsLo n0 n1 n2 n3 d0 d1 d2 d3) ∧ Hid (hi = lsHi n0 n1 n2 n3 d0 d1 d2 d3) ∧ Hid (rRes lo hi A B er) := ⟨_, _, rfl, rfl, hr⟩

set_option maxRecDepth 100000 in
set_option maxHeartbeats 2000000 in
theorem refTimes_yes (x0 x1 y0 y1 A B er : Int) (w : World) (h : vBad [(x0, x1), (y0, y1)] = false) (hx : -3000000000 ≤ x0 ∧ x1 ≤ 3000000000 ∧ x0 ≤ x1) (hy : -3000000000 ≤ y0 ∧ y1 ≤ 3000000000 ∧ y0 ≤ y1)
    (hr : rRes (lsLo (x0 * y0) (x0 * y1) (x1 * y0) (x1 * y1) 100000000 100000000 100000000 100000000) (lsHi (x0 * y0) (x0 * y1) (x1 * y0) (x1 * y1) 100000000 100000000 100000000 100000000) A B er) :
    Calls Tryd.prog 38 #[encl x0 x1, encl y0 y1] w fun e w' => e = .returned (.tuple #[encl A B, .int .i64 er]) ∧ Q w w' := by
  obtain ⟨lo, hi, h1, h2, hr⟩ := ls_ex _ _ _ _ _ _ _ _ _ _ _ hr
  have m0 := mul_bd x0 y0 (by omega) (by omega)
  have m1 := mul_bd x0 y1 (by omega) (by omega)
  have m2 := mul_bd x1 y0 (by omega) (by omega)
  have m3 := mul_bd x1 y1 (by omega) (by omega)
  have L := Lib.hid (fun W => least_four (x0 * y0) (x0 * y1) (x1 * y0) (x1 * y1) 100000000 100000000 100000000 100000000 lo hi W m0 m1 m2 m3 (by omega) (by omega) (by omega) (by omega) h1 h2)
  clear h1 h2
  have he : (0 : Int) = if vBad [(x0, x1), (y0, y1)] then 7 else 0 := by rw [h]; rfl
  have HE := Lib.hid he
  clear h he
  go_enter Tryd.func38, Tryd.ntmps38
  go_upto_region 1 with fail
  generalize hW : ((w.alloc (Obj.cells #[Value.int IntKind.i64 x0, Value.int IntKind.i64 x1] 24)).alloc (Obj.cells #[Value.int IntKind.i64 y0, Value.int IntKind.i64 y1] 24)).alloc (Obj.cells #[Value.int IntKind.i64 0, Value.int IntKind.i64 0] 24) = W
  have B2 : Has W w.heap.size x0 x1 := by subst hW; exact ((Has.new w x0 x1 _).alloc _).alloc _
  have B3 : Has W (w.heap.size + 1) y0 y1 := by subst hW; exact (Has.newAt (by simp)).alloc _
  have B4 : Has W (w.heap.size + 1 + 1) 0 0 := by subst hW; exact Has.newAt (by simp)
  have QC : Q w W := by subst hW; exact (((Q.refl w).alloc _).alloc _).alloc _
  clear hW
  obtain ⟨z2, k20, k21, f20, f21⟩ := id B2
  obtain ⟨z3, k30, k31, f30, f31⟩ := id B3
  go_wp2_with fail
  refine (valued_any [(x0, x1), (y0, y1)] W.heap.size _ 0 (by simp) (Pairs.new2At rfl) HE).mono ?_
  rintro e w1 ⟨rfl, Q1⟩
  replace Q1 := ((Q.refl W).alloc _).trans Q1
  replace B2 := B2.mono Q1
  replace B3 := B3.mono Q1
  replace B4 := B4.mono Q1
  replace QC := QC.trans Q1
  clear Q1 z2 k20 k21 f20 f21 z3 k30 k31 f30 f31 HE
  generalize W.heap.size = gs at *
  obtain ⟨z2, k20, k21, f20, f21⟩ := id B2
  obtain ⟨z3, k30, k31, f30, f31⟩ := id B3
  have v0 : IntKind.i64.wrap (x0 * y0) = x0 * y0 := IntWalk.i64_in _ (by omega)
  have v1 : IntKind.i64.wrap (x0 * y1) = x0 * y1 := IntWalk.i64_in _ (by omega)
  have v2 : IntKind.i64.wrap (x1 * y0) = x1 * y0 := IntWalk.i64_in _ (by omega)
  have v3 : IntKind.i64.wrap (x1 * y1) = x1 * y1 := IntWalk.i64_in _ (by omega)
  have u0 : wrap64 (x0 * y0) = x0 * y0 := IntWalk.wrap64_in _ (by omega)
  have u1 : wrap64 (x0 * y1) = x0 * y1 := IntWalk.wrap64_in _ (by omega)
  have u2 : wrap64 (x1 * y0) = x1 * y0 := IntWalk.wrap64_in _ (by omega)
  have u3 : wrap64 (x1 * y1) = x1 * y1 := IntWalk.wrap64_in _ (by omega)
  clear m0 m1 m2 m3
  go_wp2_with fail
  refine (L.out _).mono ?_
  clear z2 k20 k21 f20 f21 z3 k30 k31 f30 f31 B2 B3 L v0 v1 v2 v3 u0 u1 u2 u3
  rintro e w2 ⟨rfl, Q1⟩
  replace B4 := B4.mono Q1
  replace QC := QC.trans Q1
  clear Q1
  go_wp2_with fail
  refine (result_any lo hi A B er _ hr).mono ?_
  rintro e w3 ⟨rfl, Q1⟩
  replace B4 := B4.mono Q1
  replace QC := QC.trans Q1
  clear Q1
  have S4 := B4.store A B
  have QS := (QC.setCell (p := ⟨w.heap.size + 1 + 1, 0, none⟩) (by dsimp only; omega) (.int .i64 A)).setCell (p := ⟨w.heap.size + 1 + 1, 1, none⟩) (by dsimp only; omega) (.int .i64 B)
  obtain ⟨z4, k40, k41, f40, f41⟩ := id B4
  obtain ⟨_, s40, s41, _, _⟩ := S4
  go_wp2_with fail
  exact bodyPost_ret (v := .tuple #[encl A B, .int .i64 er]) (by simp [results, Tryd.results38, go_sem, s40, s41]) rfl ⟨rfl, QS⟩

theorem refTimes_any (x0 x1 y0 y1 A B er : Int) (w : World) (hr : gRes (fun a b => a * b) (fun _ _ => 100000000) x0 x1 y0 y1 A B er) :
    Calls Tryd.prog 38 #[encl x0 x1, encl y0 y1] w fun e w' => e = .returned (.tuple #[encl A B, .int .i64 er]) ∧ Q w w' := by
  cases h : vBad [(x0, x1), (y0, y1)] with
  | true =>
    have hv := (vBad_notV _ _ _ _).1 h
    obtain ⟨rfl, rfl, rfl⟩ := gRes_no hv hr
    exact refTimes_no x0 x1 y0 y1 w h
  | false =>
    obtain ⟨vx, vy, bx, by'⟩ := vBad_no h
    exact refTimes_yes x0 x1 y0 y1 A B er w h bx by' (gRes_yes vx vy (times_ends x0 x1 y0 y1).1 (times_ends x0 x1 y0 y1).2 hr)

end Go.Proofs.YtjbhnjnlpekpoaaDoor
