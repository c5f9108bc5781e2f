/-
  'steep' of package angle: the sine of an angle from 0 to 90 degrees, as the plain function says.
-/
import Derived.Test.YtjbhnjnlpekpoaaDoorAngC
import Derived.Test.YtjbhnjnlpekpoaaDoorTail
import Derived.LoopTactic
import Derived.Deep.LoopGhost
import Derived.Deep.RegionHeld3
import Derived.Outline
namespace Go.Proofs.YtjbhnjnlpekpoaaDoor
open Go.RowKit Go.Sort
set_option linter.unusedVariables false

/-- the two words of a fixed-point number -/
def hiW (n : Nat) : Int := ((n / U64 : Nat) : Int)
def loW (n : Nat) : Int := ((n % U64 : Nat) : Int)
abbrev fw (n : Nat) : Value := .agg #[.int .u64 (hiW n), .int .u64 (loW n)]

theorem times_fx (A B : Nat) (w : World) (hA : A < U64 * U64) (hB : B < U64 * U64) (hs : Hid (A * B < 4611686018427387904 * U64 * U64 * U64)) :
    Calls Tryd.prog 100 #[fw A, fw B] w fun e w' => e = .returned (fw (Trig.times A B)) ∧ Q w w' := by
  have hU : 0 < U64 := by unfold U64; decide
  have ha : A / U64 < U64 := Nat.div_lt_of_lt_mul hA
  have hb : B / U64 < U64 := Nat.div_lt_of_lt_mul hB
  have ea : A / U64 * U64 + A % U64 = A := by rw [Nat.mul_comm]; exact Nat.div_add_mod A U64
  have eb : B / U64 * U64 + B % U64 = B := by rw [Nat.mul_comm]; exact Nat.div_add_mod B U64
  have h := times_walk (A / U64) (A % U64) (B / U64) (B % U64) w ha (Nat.mod_lt _ hU) hb (Nat.mod_lt _ hU) (by
    unfold Hid
    have h0 := hs.out
    have h1 : (A / U64 * (B / U64) * U64 + A / U64 * (B % U64) + A % U64 * (B / U64)) * U64 ≤ A * B := by
      have : A * B = (A / U64 * U64 + A % U64) * (B / U64 * U64 + B % U64) := by rw [ea, eb]
      rw [this]
      generalize A / U64 = a at *
      generalize A % U64 = b at *
      generalize B / U64 = c at *
      generalize B % U64 = d at *
      have : (a * U64 + b) * (c * U64 + d) = (a * c * U64 + a * d + b * c) * U64 + b * d := by grind
      omega
    exact Nat.lt_of_mul_lt_mul_right (Nat.lt_of_le_of_lt h1 h0))
  rw [ea, eb] at h
  exact h

theorem over_fx (A n d : Nat) (w : World) (hA : A < U64 * U64) (hn : n < 4294967296) (hd0 : 0 < d) (hd : d < 4294967296) (hX : Hid (A * n / d < U64 * U64)) :
    Calls Tryd.prog 99 #[fw A, .int .u64 n, .int .u64 d] w fun e w' => e = .returned (fw (A * n / d)) ∧ Q w w' := by
  have hU : 0 < U64 := by unfold U64; decide
  have ea : A / U64 * U64 + A % U64 = A := by rw [Nat.mul_comm]; exact Nat.div_add_mod A U64
  have h := over_walk (A / U64) (A % U64) n d w (Nat.div_lt_of_lt_mul hA) (Nat.mod_lt _ hU) hn hd0 hd (by rw [ea]; exact hX)
  rw [ea] at h
  exact h

theorem over_one (A d : Nat) (w : World) (hA : A < U64 * U64) (hd0 : 0 < d) (hd : d < 4294967296) (hX : Hid (A / d < U64 * U64)) :
    Calls Tryd.prog 99 #[fw A, .int .u64 1, .int .u64 d] w fun e w' => e = .returned (fw (A / d)) ∧ Q w w' := by
  have h := over_fx A 1 d w hA (by omega) hd0 hd (by rw [Nat.mul_one]; exact hX)
  rw [Nat.mul_one] at h
  exact h

theorem minus_fx (A B : Nat) (w : World) (hA : A < U64 * U64) (hB : B < U64 * U64) (hs : Hid (B ≤ A)) :
    Calls Tryd.prog 101 #[fw A, fw B] w fun e w' => e = .returned (fw (A - B)) ∧ Q w w' := by
  have hU : 0 < U64 := by unfold U64; decide
  have ea : A / U64 * U64 + A % U64 = A := by rw [Nat.mul_comm]; exact Nat.div_add_mod A U64
  have eb : B / U64 * U64 + B % U64 = B := by rw [Nat.mul_comm]; exact Nat.div_add_mod B U64
  have h := minus_walk (A / U64) (A % U64) (B / U64) (B % U64) w (Nat.div_lt_of_lt_mul hA) (Nat.mod_lt _ hU) (Nat.div_lt_of_lt_mul hB) (Nat.mod_lt _ hU) (by rw [ea, eb]; exact hs)
  rw [ea, eb] at h
  exact h

theorem units_fx (A : Nat) (w : World) (hA : A < U64 * U64) :
    Calls Tryd.prog 102 #[fw A] w fun e w' => e = .returned (.int .i64 (Trig.units A : Nat)) ∧ Q w w' := by
  have hU : 0 < U64 := by unfold U64; decide
  have ea : A / U64 * U64 + A % U64 = A := by rw [Nat.mul_comm]; exact Nat.div_add_mod A U64
  have h := units_walk (A / U64) (A % U64) w (Nat.div_lt_of_lt_mul hA) (Nat.mod_lt _ hU)
  rw [ea] at h
  exact h

theorem pi_fx : .agg #[.int .u64 14488038916154245684, .int .u64 14179128828124470481] = (fw Trig.piN) := by
  have : Trig.piN / U64 = 14488038916154245684 ∧ Trig.piN % U64 = 14179128828124470481 := by decide +kernel
  unfold fw hiW loW
  rw [this.1, this.2]; rfl

theorem one_fx : hiW (2 ^ 126) = 4611686018427387904 ∧ loW (2 ^ 126) = 0 := by
  have : 2 ^ 126 / U64 = 4611686018427387904 ∧ 2 ^ 126 % U64 = 0 := by decide +kernel
  unfold hiW loW
  rw [this.1, this.2]; exact ⟨rfl, rfl⟩

theorem minus_one (B r : Nat) (w : World) (hB : B < U64 * U64) (hs : Hid (B ≤ 2 ^ 126)) (hr : Hid (r = 2 ^ 126 - B)) :
    Calls Tryd.prog 101 #[.agg #[.int .u64 4611686018427387904, .int .u64 0], fw B] w fun e w' => e = .returned (fw r) ∧ Q w w' := by
  have h := minus_fx (2 ^ 126) B w (by decide +kernel) hB hs
  rw [← hr.out] at h
  unfold fw at h ⊢
  rw [one_fx.1, one_fx.2] at h
  exact h

/-- two cells of one block, stored one after the other -/
theorem two_cells (w : World) (b : Nat) (u v x y : Value) (c0 : w.cell? ⟨b, 0, none⟩ = some x) (c1 : w.cell? ⟨b, 1, none⟩ = some y) :
    ((w.setCell ⟨b, 0, none⟩ u).setCell ⟨b, 1, none⟩ v).cell? ⟨b, 0, none⟩ = some u ∧ ((w.setCell ⟨b, 0, none⟩ u).setCell ⟨b, 1, none⟩ v).cell? ⟨b, 1, none⟩ = some v := by
  have ne : (⟨b, 0, none⟩ : Addr) ≠ ⟨b, 1, none⟩ := by intro h; cases h
  have h1 : (w.setCell ⟨b, 0, none⟩ u).cell? ⟨b, 0, none⟩ = some u := World.cell?_setCell_same _ _ _ c0
  have h2 : (w.setCell ⟨b, 0, none⟩ u).cell? ⟨b, 1, none⟩ = some y := (World.cell?_setCell_other _ _ _ _ ne).trans c1
  exact ⟨(World.cell?_setCell_other _ _ _ _ (Ne.symm ne)).trans h1, World.cell?_setCell_same _ _ _ h2⟩

theorem xang_lt (a : Nat) (ha : a ≤ 90000000) : Trig.piN * a / 180000000 < 170141183460469231731687303715884105728 := by
  have h1 : Trig.piN * a ≤ Trig.piN * 90000000 := Nat.mul_le_mul_left _ ha
  have h2 : Trig.piN * 90000000 < 180000000 * 170141183460469231731687303715884105728 := by decide +kernel
  exact Nat.div_lt_of_lt_mul (Nat.lt_of_le_of_lt h1 h2)

theorem sq_lt (x : Nat) (hx : x < 170141183460469231731687303715884105728) : Trig.times x x < U64 * U64 := by
  have h1 := (Trig.times_bd x x).1
  have h2 : x * x < 170141183460469231731687303715884105728 * 170141183460469231731687303715884105728 := Nat.mul_lt_mul'' hx hx
  unfold U64
  exact Nat.lt_of_mul_lt_mul_right (Nat.lt_of_le_of_lt h1 (Nat.lt_of_lt_of_eq h2 (by decide)))

theorem srs_le (sq n p : Nat) : Trig.srs sq n p ≤ 2 ^ 126 := by
  cases n with
  | zero => exact Nat.le_refl _
  | succ n => exact Nat.sub_le _ _

/-- what a round of the series asks -/
theorem round_pure (sq s : Nat) (hsq : sq < U64 * U64) (hs : s ≤ 2 ^ 126) (m : Nat) (hm : 6 ≤ m) :
    sq * s < 4611686018427387904 * U64 * U64 * U64 ∧ Trig.times sq s < U64 * U64 ∧ Trig.times sq s / m < U64 * U64 ∧ Trig.times sq s / m ≤ 2 ^ 126 := by
  have h0 : sq * s ≤ sq * 2 ^ 126 := Nat.mul_le_mul_left _ hs
  have h1 := (Trig.times_bd sq s).1
  have h2 : Trig.times sq s ≤ sq := Nat.le_of_mul_le_mul_right (Nat.le_trans h1 h0) (Nat.two_pow_pos 126)
  have h3 : Trig.times sq s / m ≤ Trig.times sq s := Nat.div_le_self _ _
  have h4 : Trig.times sq s / m ≤ Trig.times sq s / 6 := Nat.div_le_div_left hm (by decide)
  have e : U64 * U64 = 340282366920938463463374607431768211456 := by decide
  have e2 : 4611686018427387904 * U64 * U64 * U64 = 340282366920938463463374607431768211456 * 2 ^ 126 := by decide
  rw [e2, e]
  rw [e] at hsq
  generalize Trig.times sq s = T at *
  refine ⟨Nat.lt_of_le_of_lt h0 (Nat.mul_lt_mul_of_pos_right hsq (Nat.two_pow_pos 126)), by omega, by omega, by omega⟩

theorem srs_step (sq j : Nat) (hj : 1 ≤ j) (hj' : j ≤ 17) : 2 ^ 126 - Trig.times sq (Trig.srs sq (17 - j) (2 * j + 1)) / (2 * j * (2 * j + 1)) = Trig.srs sq (17 - (j - 1)) (2 * (j - 1) + 1) := by
  obtain ⟨i, rfl⟩ : ∃ i, j = i + 1 := ⟨j - 1, by omega⟩
  rw [show 17 - (i + 1 - 1) = (17 - (i + 1)) + 1 by omega, show 2 * (i + 1 - 1) + 1 = 2 * i + 1 by omega]
  simp only [Trig.srs]
  rw [show 2 * i + 1 + 2 = 2 * (i + 1) + 1 by omega, show 2 * i + 1 + 1 = 2 * (i + 1) by omega]

set_option maxRecDepth 100000 in
set_option maxHeartbeats 1000000 in
theorem steep_gen (a : Nat) (w : World) (h0 : ((a : Int) == 0) = false) (h1 : ((a : Int) == 30000000) = false) (h2 : ((a : Int) == 90000000) = false) (ha : a ≤ 90000000) :
    Calls Tryd.prog 80 #[.int .i64 a] w fun e w' => e = .returned (.tuple #[.int .i64 (Trig.units (Trig.steepV a) : Nat), .bool false]) ∧ Q w w' := by
  have hxl := xang_lt a ha
  go_enter Tryd.func80, Tryd.ntmps80
  go_wp2_with fail
  rw [pi_fx, show (180000000 : Int) = ((180000000 : Nat) : Int) from rfl]
  refine (over_fx Trig.piN a 180000000 _ (by decide +kernel) (by omega) (by omega) (by omega) (Nat.lt_trans hxl (by unfold U64; decide))).mono ?_
  rintro e w1 ⟨rfl, Q1⟩
  obtain ⟨x, hx⟩ : ∃ x, x = Trig.piN * a / 180000000 := ⟨_, rfl⟩
  have HX := Lib.hid hx
  rw [← hx] at hxl ⊢
  clear hx
  have HXL := Lib.hid hxl
  clear hxl
  go_wp2_with fail
  refine (times_fx x x _ (Nat.lt_trans HXL.out (by unfold U64; decide)) (Nat.lt_trans HXL.out (by unfold U64; decide)) (Nat.lt_of_lt_of_eq (Nat.mul_lt_mul'' HXL.out HXL.out) (by unfold U64; decide))).mono ?_
  rintro e w2 ⟨rfl, Q2⟩
  have hsql := sq_lt x HXL.out
  obtain ⟨sq, hsq⟩ : ∃ sq, sq = Trig.times x x := ⟨_, rfl⟩
  have HSQ := Lib.hid hsq
  rw [← hsq] at hsql ⊢
  clear hsq
  have HSQL := Lib.hid hsql
  clear hsql
  go_wp2_with fail
  have hz1 : w1.heap.size < w2.heap.size := by have := Q2.size; simp at this; omega
  have hw1 : w.heap.size ≤ w1.heap.size := Q1.size
  have Q3 := Q.trans ((Q.refl w).trans Q1 |>.alloc _) Q2
  have cx : w2.cell? ⟨w1.heap.size, 0, none⟩ = some (.int .u64 (hiW x)) ∧ w2.cell? ⟨w1.heap.size, 1, none⟩ = some (.int .u64 (loW x)) := by
    obtain ⟨hc1, hc2, hc3⟩ := Q2.old
    constructor
    · rw [hc1 _ _ (by simp)]; simp [go_sem]
    · rw [hc1 _ _ (by simp)]; simp [go_sem]
  clear Q1 Q2
  go_loopw [8] (fun k wr => ∃ j : Nat, k = .int .u64 j ∧ j ≤ 17 ∧ w2.heap.size + 3 ≤ wr.heap.size ∧ Q w wr ∧
    wr.cell? ⟨w1.heap.size, 0, none⟩ = some (.int .u64 (hiW x)) ∧ wr.cell? ⟨w1.heap.size, 1, none⟩ = some (.int .u64 (loW x)) ∧
    wr.cell? ⟨w2.heap.size, 0, none⟩ = some (.int .u64 (hiW sq)) ∧ wr.cell? ⟨w2.heap.size, 1, none⟩ = some (.int .u64 (loW sq)) ∧
    wr.cell? ⟨w2.heap.size + 1, 0, none⟩ = some (.int .u64 4611686018427387904) ∧ wr.cell? ⟨w2.heap.size + 1, 1, none⟩ = some (.int .u64 0) ∧
    wr.cell? ⟨w2.heap.size + 1 + 1, 0, none⟩ = some (.int .u64 (hiW (Trig.srs sq (17 - j) (2 * j + 1)))) ∧ wr.cell? ⟨w2.heap.size + 1 + 1, 1, none⟩ = some (.int .u64 (loW (Trig.srs sq (17 - j) (2 * j + 1)))) ∧
    wr.frozen? ⟨w2.heap.size + 1 + 1, 0, none⟩ = false ∧ wr.frozen? ⟨w2.heap.size + 1 + 1, 1, none⟩ = false)
    (fun k _ => (intOf k).toNat)
  case atStart =>
    refine ⟨17, rfl, by omega, by simp, ?_, ?_⟩
    · exact ((Q3.alloc _).alloc _).alloc _
    · have e : Trig.srs sq (17 - 17) (2 * 17 + 1) = 2 ^ 126 := rfl
      rw [e, one_fx.1, one_fx.2]
      have qa : Q w2 (((w2.alloc (Obj.cells #[Value.int IntKind.u64 (hiW sq), Value.int IntKind.u64 (loW sq)] 103)).alloc (Obj.cells #[Value.int IntKind.u64 4611686018427387904, Value.int IntKind.u64 0] 103)).alloc (Obj.cells #[Value.int IntKind.u64 4611686018427387904, Value.int IntKind.u64 0] 103)) := (((Q.refl _).alloc _).alloc _).alloc _
      refine ⟨(qa.cell _ hz1).trans cx.1, (qa.cell _ hz1).trans cx.2, ?_⟩
      simp [go_sem]
  case round =>
    obtain ⟨j, rfl, hj, hz, hQ, c1, c2, c3, c4, c5, c6, c7, c8, f1, f2⟩ := hrel
    rcases Nat.eq_zero_or_pos j with hj0 | hj0
    · subst hj0
      have HSE : Hid (Trig.srs sq (17 - 0) (2 * 0 + 1) = Trig.srs sq 17 1) := rfl
      rw [HSE.out] at c7 c8
      have hsl := srs_le sq 17 1
      obtain ⟨s, hs⟩ : ∃ s, s = Trig.srs sq 17 1 := ⟨_, rfl⟩
      have HS := Lib.hid hs
      rw [← hs] at c7 c8 hsl
      clear hs
      have HSL := Lib.hid hsl
      clear hsl
      go_wp2_with fail
      refine (times_fx x s _ (Nat.lt_trans HXL.out (by unfold U64; decide)) (Nat.lt_of_le_of_lt HSL.out (by decide +kernel)) ?_).mono ?_
      · refine Nat.lt_of_lt_of_le (Nat.mul_lt_mul_of_lt_of_le HXL.out HSL.out (by decide)) (by decide +kernel)
      rintro e w3 ⟨rfl, Q4⟩
      have hv : Trig.times x s < U64 * U64 := by
        have h1 := (Trig.times_bd x s).1
        have h2 : x * s ≤ x * 2 ^ 126 := Nat.mul_le_mul_left _ HSL.out
        have h3 : Trig.times x s ≤ x := Nat.le_of_mul_le_mul_right (Nat.le_trans h1 h2) (Nat.two_pow_pos 126)
        exact Nat.lt_of_le_of_lt h3 (Nat.lt_trans HXL.out (by unfold U64; decide))
      have HV := Lib.hid hv
      clear hv
      go_wp2_with fail
      refine (units_fx (Trig.times x s) _ HV.out).mono ?_
      rintro e w4 ⟨rfl, Q5⟩
      have hfin : Trig.times x s = Trig.steepV a := by
        rw [HS.out, HSQ.out, HX.out]; rfl
      rw [hfin]
      have hQ' := (hQ.trans Q4).trans Q5
      clear hfin
      go_wp2_with fail
      go_ret2
      exact ⟨rfl, hQ'⟩
    · obtain ⟨s, hs⟩ : ∃ s, s = Trig.srs sq (17 - j) (2 * j + 1) := ⟨_, rfl⟩
      have hsl := srs_le sq (17 - j) (2 * j + 1)
      have HS := Lib.hid hs
      rw [← hs] at c7 c8 hsl
      clear hs
      obtain ⟨m, hm6, hml, hm, hmw⟩ : ∃ m : Nat, 6 ≤ m ∧ m < 4294967296 ∧ Hid (m = 2 * j * (2 * j + 1)) ∧ IntKind.u64.wrap (2 * (j : Int) * (2 * (j : Int) + 1)) = (m : Int) := by
        have hl1 : 2 * 3 ≤ 2 * j * (2 * j + 1) := Nat.mul_le_mul (by omega) (by omega)
        have hl2 : 2 * j * (2 * j + 1) ≤ 34 * 35 := Nat.mul_le_mul (by omega) (by omega)
        refine ⟨2 * j * (2 * j + 1), by omega, by omega, rfl, ?_⟩
        rw [show 2 * (j : Int) * (2 * (j : Int) + 1) = ((2 * j * (2 * j + 1) : Nat) : Int) by simp]
        exact wrap_self _ (by omega)
      have hv1 : IntKind.u64.wrap (2 * (j : Int)) = 2 * (j : Int) := by
        rw [show 2 * (j : Int) = ((2 * j : Nat) : Int) by simp]; exact wrap_self _ (by omega)
      have hv2 : IntKind.u64.wrap (2 * (j : Int) + 1) = 2 * (j : Int) + 1 := by
        rw [show 2 * (j : Int) + 1 = ((2 * j + 1 : Nat) : Int) by simp]; exact wrap_self _ (by omega)
      obtain ⟨r1, r2, r3, r4⟩ := round_pure sq s HSQL.out hsl m hm6
      have R1 := Lib.hid r1
      have R2 := Lib.hid r2
      have R3 := Lib.hid r3
      have R4 := Lib.hid r4
      have HSL2 := Lib.hid (Nat.lt_of_le_of_lt hsl (show 2 ^ 126 < U64 * U64 by decide +kernel))
      clear r1 r2 r3 r4 hsl
      go_wp2_with fail
      obtain ⟨s2, hs2⟩ : ∃ s2, s2 = 2 ^ 126 - Trig.times sq s / m := ⟨_, rfl⟩
      have HS2 : Hid (s2 = 2 ^ 126 - Trig.times sq s / m) := hs2
      clear hs2
      have z4 : w1.heap.size < wr.heap.size := by omega
      have z5 : w2.heap.size < wr.heap.size := by omega
      have z7 : w2.heap.size + 1 + 1 < wr.heap.size := by omega
      have z6 : w2.heap.size + 1 < wr.heap.size := by omega
      have k3 := fun n os => cell_grown (a := ⟨w2.heap.size, 0, none⟩) z5 c3 n os
      have k4 := fun n os => cell_grown (a := ⟨w2.heap.size, 1, none⟩) z5 c4 n os
      have k5 := fun n os => cell_grown (a := ⟨w2.heap.size + 1, 0, none⟩) z6 c5 n os
      have k6 := fun n os => cell_grown (a := ⟨w2.heap.size + 1, 1, none⟩) z6 c6 n os
      have k7 := fun n os => cell_grown (a := ⟨w2.heap.size + 1 + 1, 0, none⟩) z7 c7 n os
      have k8 := fun n os => cell_grown (a := ⟨w2.heap.size + 1 + 1, 1, none⟩) z7 c8 n os
      refine wp_region_tail_lit 12 (by kernel_rfl) (by kernel_rfl) ?_
      simp only [List.take_succ_cons, List.take_zero, List.drop_succ_cons, List.drop_zero]
      repeat (quiet_step (first
        | (go_at_call 100; exact Calls.of_Q (times_fx sq s _ HSQL.out HSL2.out R1))
        | (go_at_call 99; exact Calls.of_Q (over_one (Trig.times sq s) m _ R2.out (by omega) hml R3))
        | (go_at_call 101; exact Calls.of_Q (minus_one (Trig.times sq s / m) s2 _ R3.out R4 HS2))))
      refine wpQuiet_nil ?_
      intro _ hw'
      obtain ⟨⟨nq, osq⟩, hw''⟩ := hw'
      subst hw''
      have qg := Q.of_grow wr nq osq
      clear k3 k4 k5 k6 k7 k8
      generalize grow (wr.drewN nq) osq = wx at *
      have c1 := (qg.cell ⟨w1.heap.size, 0, none⟩ z4).trans c1
      have c2 := (qg.cell ⟨w1.heap.size, 1, none⟩ z4).trans c2
      have c3 := (qg.cell ⟨w2.heap.size, 0, none⟩ z5).trans c3
      have c4 := (qg.cell ⟨w2.heap.size, 1, none⟩ z5).trans c4
      have c5 := (qg.cell ⟨w2.heap.size + 1, 0, none⟩ z6).trans c5
      have c6 := (qg.cell ⟨w2.heap.size + 1, 1, none⟩ z6).trans c6
      have c7 := (qg.cell ⟨w2.heap.size + 1 + 1, 0, none⟩ z7).trans c7
      have c8 := (qg.cell ⟨w2.heap.size + 1 + 1, 1, none⟩ z7).trans c8
      have f1 := (qg.frozen ⟨w2.heap.size + 1 + 1, 0, none⟩ z7).trans f1
      have f2 := (qg.frozen ⟨w2.heap.size + 1 + 1, 1, none⟩ z7).trans f2
      have hz' : w2.heap.size + 3 ≤ wx.heap.size := Nat.le_trans hz qg.size
      have hQ' := hQ.trans qg
      have hstep := srs_step sq j hj0 hj
      rw [← HS.out, ← hm.out, ← HS2.out] at hstep
      have HT := Lib.hid hstep
      clear hstep
      go_wp2_with fail
      go_roundw
      case rel =>
        refine ⟨j - 1, by go_num, by omega, by simpa using hz', (hQ'.setCell (by simp; omega) _).setCell (by simp; omega) _, ?_⟩
        rw [← HT.out]
        have n1 : w2.heap.size + 1 + 1 ≠ w1.heap.size := by omega
        have n2 : w2.heap.size + 1 + 1 ≠ w2.heap.size := by omega
        have n3 : w2.heap.size + 1 + 1 ≠ w2.heap.size + 1 := by omega
        have far : ∀ (b o : Nat) (u v : Value), w2.heap.size + 1 + 1 ≠ b → ((wx.setCell ⟨w2.heap.size + 1 + 1, 0, none⟩ u).setCell ⟨w2.heap.size + 1 + 1, 1, none⟩ v).cell? ⟨b, o, none⟩ = wx.cell? ⟨b, o, none⟩ := fun b o u v hb => by
          rw [World.cell?_setCell_far _ _ _ _ hb, World.cell?_setCell_far _ _ _ _ hb]
        refine ⟨(far _ _ _ _ n1).trans c1, (far _ _ _ _ n1).trans c2, (far _ _ _ _ n2).trans c3, (far _ _ _ _ n2).trans c4, (far _ _ _ _ n3).trans c5, (far _ _ _ _ n3).trans c6, ?_, ?_, ?_, ?_⟩
        · exact (two_cells wx _ _ _ _ _ c7 c8).1
        · exact (two_cells wx _ _ _ _ _ c7 c8).2
        · rw [World.frozen?_setCell, World.frozen?_setCell]; exact f1
        · rw [World.frozen?_setCell, World.frozen?_setCell]; exact f2
      case measure => simp [intOf]; omega

end Go.Proofs.YtjbhnjnlpekpoaaDoor
