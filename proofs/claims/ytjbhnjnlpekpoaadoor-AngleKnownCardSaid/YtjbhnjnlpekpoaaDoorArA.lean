/-
  Arithmetic of package angle: down, the ends, the fractions.
-/
import Derived.Test.YtjbhnjnlpekpoaaDoorAngJ
import Derived.Test.YtjbhnjnlpekpoaaDoorTdiv
import Derived.Test.YtjbhnjnlpekpoaaDoorRetA
import Derived.Deep.RegionHeld3
import Derived.Deep.DeepCutAuto
import Derived.Lib.Zigzag
namespace Go.Proofs.YtjbhnjnlpekpoaaDoor
open Go.RowKit Go.Sort
set_option linter.unusedVariables false

theorem compl_div (n d : Int) (hn : n < 0) (hd : 0 < d) : -((-n - 1) / d) - 1 = n / d ∧ 0 ≤ -n - 1 := by
  have e1 := Int.mul_ediv_add_emod (-n - 1) d
  have b1 := Int.emod_nonneg (-n - 1) (b := d) (by omega)
  have b2 := Int.emod_lt_of_pos (-n - 1) hd
  refine ⟨?_, by omega⟩
  have k : n = (d - 1 - (-n - 1) % d) + d * (-((-n - 1) / d) - 1) := by
    rw [Int.mul_sub, Int.mul_neg, Int.mul_one]; omega
  have : n / d = (d - 1 - (-n - 1) % d) / d + (-((-n - 1) / d) - 1) := by
    conv => lhs; rw [k]
    rw [Int.add_mul_ediv_left _ _ (by omega)]
  have z : (d - 1 - (-n - 1) % d) / d = 0 := Int.ediv_eq_zero_of_lt (by omega) (by omega)
  rw [this, z]
  omega

theorem not_neg (n : Int) (h1 : -9223372036854775808 ≤ n) (h2 : n < 0) : bits .xor .i64 (-1) n = -n - 1 := by
  show IntKind.i64.wrap ((BitVec.ofInt 64 (-1) ^^^ BitVec.ofInt 64 n).toNat : Int) = _
  have e1 : BitVec.ofInt 64 (-1) = BitVec.allOnes 64 := by decide
  have e2 : (BitVec.ofInt 64 n).toNat = (n + 18446744073709551616).toNat := by rw [BitVec.toNat_ofInt]; omega
  rw [e1, BitVec.allOnes_xor, BitVec.toNat_not, e2, IntKind.wrap_i64]
  omega
theorem not_pos (n : Int) (h1 : 0 ≤ n) (h2 : n ≤ 9223372036854775807) : bits .xor .i64 (-1) n = -n - 1 := by
  obtain ⟨k, rfl⟩ : ∃ k : Nat, n = k := ⟨n.toNat, by omega⟩
  exact Lib.i64_not k (by omega)

set_option maxRecDepth 100000 in
set_option maxHeartbeats 1000000 in
theorem down_any (n d : Int) (w : World) (hd : 0 < d) (hn : -9000000000000000000 ≤ n ∧ n ≤ 9000000000000000000) (hd2 : d ≤ 9000000000000000000) :
    Calls Tryd.prog 87 #[.int .i64 n, .int .i64 d] w fun e w' => e = .returned (.int .i64 (n / d)) ∧ w' = w := by
  have q0 : (d == 0) = false := by simp; omega
  by_cases h0 : 0 ≤ n
  · obtain ⟨c1, c2, c3, c4⟩ := tdiv_bd n d hd hn
    have t1 : n.tdiv d = n / d := Int.tdiv_eq_ediv_of_nonneg h0
    rw [t1] at c1 c2
    have e1 : wrap64 (n.tdiv d) = n / d := by rw [t1]; exact IntWalk.wrap64_in _ (by omega)
    have e2 : IntKind.i64.wrap (n.tdiv d) = n / d := by rw [t1]; exact IntWalk.i64_in _ (by omega)
    have e3 : wrap64 (n / d) = n / d := IntWalk.wrap64_in _ (by omega)
    clear t1 c3 c4
    generalize n / d = q at *
    go_enter Tryd.func87, Tryd.ntmps87
    go_wp2_with fail
    go_ret
    exact ⟨rfl, rfl⟩
  · obtain ⟨p1, p2⟩ := compl_div n d (by omega) hd
    have x1 : bits .xor .i64 (-1) n = -n - 1 := not_neg n (by omega) (by omega)
    have q1 := Int.ediv_nonneg p2 (Int.le_of_lt hd)
    have q2 : (-n - 1) / d ≤ -n - 1 := Int.ediv_le_self d p2
    have t1 : (-n - 1).tdiv d = (-n - 1) / d := Int.tdiv_eq_ediv_of_nonneg p2
    have x2 : bits .xor .i64 (-1) ((-n - 1) / d) = n / d := by rw [not_pos _ q1 (by omega), p1]
    have e1 : wrap64 ((bits .xor .i64 (-1) n).tdiv d) = (-n - 1) / d := by rw [x1, t1]; exact IntWalk.wrap64_in _ (by omega)
    have HX := Lib.hid x2
    have HE := Lib.hid e1
    clear x1 x2 e1 t1 q1 q2 p1 p2
    go_enter Tryd.func87, Tryd.ntmps87
    go_wp2_with fail
    go_ret
    refine ⟨?_, rfl⟩
    rw [HE.out, HX.out]
    rfl

/-- the ends of the fraction n / d -/
def fLo (n d : Int) : Int := if d = 0 then 0 else if d < 0 then (-n) / (-d) else n / d
def fHi (n d : Int) : Int := if d = 0 then 0 else if d < 0 then -(n / (-d)) else -((-n) / d)

theorem fr_bd (n d : Int) (hd : 0 < d) (hn : -9000000000000000000 ≤ n ∧ n ≤ 9000000000000000000) : -9000000000000000000 ≤ n / d ∧ n / d ≤ 9000000000000000000 := by
  constructor
  · exact (Int.le_ediv_iff_mul_le hd).2 (by
      have := Int.mul_le_mul_of_nonneg_left (show 1 ≤ d by omega) (show (0 : Int) ≤ 9000000000000000000 by omega)
      omega)
  · rcases Int.lt_or_le n 0 with h | h
    · have := Int.ediv_neg_of_neg_of_pos h hd
      omega
    · have := Int.ediv_le_self d h
      omega

/-- what a function of fractions is called with, and what it returns -/
abbrev FR (fr : FuncId) (a b n d : Int) : Prop := Hid (∀ W, Calls Tryd.prog fr #[.int .i64 a, .int .i64 b] W fun e w' => e = .returned (.tuple #[.int .i64 n, .int .i64 d]) ∧ w' = W)

set_option maxRecDepth 100000 in
set_option maxHeartbeats 1000000 in
theorem end_any (fr : FuncId) (a b n d : Int) (g : Nat) (w : World) (eg : ∀ args w, (callFunc fr args).run Tryd.prog w = .ok (.enter fr args) w) (hg : g < w.heap.size) (hc : w.cell? ⟨g, 0, none⟩ = some (.func (.func fr) #[] #[]))
    (hf : FR fr a b n d) (hn : -9000000000000000000 ≤ n ∧ n ≤ 9000000000000000000) (hd : -9000000000000000000 ≤ d ∧ d ≤ 9000000000000000000) :
    Calls Tryd.prog 86 #[.int .i64 a, .int .i64 b, .pointer (some ⟨g, 0, none⟩)] w fun e w' => e = .returned (encl (fLo n d) (fHi n d)) ∧ Q w w' := by
  generalize hA : fLo n d = A
  generalize hB : fHi n d = B
  have HA := Lib.hid hA
  have HB := Lib.hid hB
  clear hA hB
  go_enter Tryd.func86, Tryd.ntmps86
  go_upto_region 1 with fail
  have H := Has.new w 0 0 24
  have QC := (Q.refl w).alloc (.cells #[.int .i64 0, .int .i64 0] 24)
  have kc : (w.alloc (.cells #[.int .i64 0, .int .i64 0] 24)).cell? ⟨g, 0, none⟩ = some (.func (.func fr) #[] #[]) := by rw [QC.cell _ hg]; exact hc
  generalize w.alloc (.cells #[.int .i64 0, .int .i64 0] 24) = W1 at *
  go_wp2_with fail
  refine (hf.out _).mono ?_
  rintro e w2 ⟨rfl, rfl⟩
  clear kc hf eg
  by_cases h0 : d = 0
  · have ea : 0 = A := by rw [← HA.out]; unfold fLo; rw [if_pos h0]
    have eb : 0 = B := by rw [← HB.out]; unfold fHi; rw [if_pos h0]
    subst ea eb
    have t0 : (d == 0) = true := by simp [h0]
    clear h0 HA HB
    obtain ⟨z2, k20, k21, f20, f21⟩ := id H
    obtain ⟨V, hV, HV, QV⟩ := ret_first H QC 0 0
    have HVV := Lib.hid hV
    clear H QC hV
    go_wp2_with fail
    rw [← HVV.out]
    obtain ⟨_, r0, r1, _, _⟩ := HV
    exact bodyPost_ret (v := encl 0 0) (by simp [results, Tryd.results86, go_sem, r0, r1]) rfl ⟨rfl, QV⟩
  have t0 : (d == 0) = false := by simp [h0]
  by_cases h1 : d < 0
  · have b1 := fr_bd (-n) (-d) (by omega) (by omega)
    have b2 := fr_bd (n) (-d) (by omega) (by omega)
    have D1 := fun W => down_any (-n) (-d) W (by omega) (by omega) (by omega)
    have D2 := fun W => down_any (n) (-d) W (by omega) (by omega) (by omega)
    have ea : (-n) / (-d) = A := by rw [← HA.out]; unfold fLo; rw [if_neg h0, if_pos h1]
    have eb : -((n) / (-d)) = B := by rw [← HB.out]; unfold fHi; rw [if_neg h0, if_pos h1]
    generalize (-n) / (-d) = A0 at *
    generalize (n) / (-d) = z at *
    have HD1 := Lib.hid D1
    have HD2 := Lib.hid D2
    have EA := Lib.hid ea
    have EB := Lib.hid eb
    clear D1 D2 ea eb HA HB
    go_wp2_with fail
    refine (HD1.out _).mono ?_
    rintro e w3 ⟨rfl, rfl⟩
    go_wp2_with fail
    refine (HD2.out _).mono ?_
    rintro e w4 ⟨rfl, rfl⟩
    obtain ⟨z2, k20, k21, f20, f21⟩ := id H
    obtain ⟨V, hV, HV, QV⟩ := ret_first H QC A0 (-z)
    have HVV := Lib.hid hV
    clear H QC hV
    go_wp2_with fail
    rw [← HVV.out]
    obtain ⟨_, r0, r1, _, _⟩ := HV
    exact bodyPost_ret (v := encl A0 (-z)) (by simp [results, Tryd.results86, go_sem, r0, r1]) rfl ⟨by rw [← EA.out, ← EB.out], QV⟩
  · have b1 := fr_bd (n) (d) (by omega) (by omega)
    have b2 := fr_bd (-n) (d) (by omega) (by omega)
    have D1 := fun W => down_any (n) (d) W (by omega) (by omega) (by omega)
    have D2 := fun W => down_any (-n) (d) W (by omega) (by omega) (by omega)
    have ea : (n) / (d) = A := by rw [← HA.out]; unfold fLo; rw [if_neg h0, if_neg (by omega)]
    have eb : -((-n) / (d)) = B := by rw [← HB.out]; unfold fHi; rw [if_neg h0, if_neg (by omega)]
    generalize (n) / (d) = A0 at *
    generalize (-n) / (d) = z at *
    have HD1 := Lib.hid D1
    have HD2 := Lib.hid D2
    have EA := Lib.hid ea
    have EB := Lib.hid eb
    clear D1 D2 ea eb HA HB
    go_wp2_with fail
    refine (HD1.out _).mono ?_
    rintro e w3 ⟨rfl, rfl⟩
    go_wp2_with fail
    refine (HD2.out _).mono ?_
    rintro e w4 ⟨rfl, rfl⟩
    obtain ⟨z2, k20, k21, f20, f21⟩ := id H
    obtain ⟨V, hV, HV, QV⟩ := ret_first H QC A0 (-z)
    have HVV := Lib.hid hV
    clear H QC hV
    go_wp2_with fail
    rw [← HVV.out]
    obtain ⟨_, r0, r1, _, _⟩ := HV
    exact bodyPost_ret (v := encl A0 (-z)) (by simp [results, Tryd.results86, go_sem, r0, r1]) rfl ⟨by rw [← EA.out, ← EB.out], QV⟩

end Go.Proofs.YtjbhnjnlpekpoaaDoor
