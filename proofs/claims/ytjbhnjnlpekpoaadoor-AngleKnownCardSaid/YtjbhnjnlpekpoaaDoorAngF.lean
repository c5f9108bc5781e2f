/-
  Arccos of package angle: two searches; what it returns, as the plain functions say.
-/
import Derived.Test.YtjbhnjnlpekpoaaDoorAngE
import Derived.Test.YtjbhnjnlpekpoaaDoorTrigB
namespace Go.Proofs.YtjbhnjnlpekpoaaDoor
open Go.RowKit Go.Sort
set_option linter.unusedVariables false

theorem field_lo (x y : Int) (w : World) : (Instr.field 24 (.agg #[.int .i64 x, .int .i64 y]) 0).run Tryd.prog w = .ok (.int .i64 x) w := by kernel_rfl
theorem field_hi (x y : Int) (w : World) : (Instr.field 24 (.agg #[.int .i64 x, .int .i64 y]) 1).run Tryd.prog w = .ok (.int .i64 y) w := by kernel_rfl

set_option maxHeartbeats 400000 in
theorem arc_low (B : Nat) (hi : Int) (i : Nat) (W : World) (hB : B < W.heap.size) (hc : W.cell? ⟨B, 1, none⟩ = some (.int .i64 hi)) (hn : i < 180000001) :
    Calls Tryd.prog 51 (#[.int .i64 i] ++ #[.pointer (some ⟨B, 0, none⟩)]) W fun e w' => e = .returned (.bool (Trig.pLow hi i)) ∧ Q W w' := by
  have hk := fun n os => cell_grown (a := ⟨B, 1, none⟩) hB hc n os
  have hp : Hid (Trig.pLow hi i = decide (Trig.sineLo ((i : Int) + 90000000) < hi)) := rfl
  have hi' : (i : Int) ≤ 180000000 := by omega
  have hw : IntKind.i64.wrap ((i : Int) + 90000000) = (i : Int) + 90000000 := IntWalk.i64_in _ (by omega)
  clear hn
  show Calls Tryd.prog 51 #[.int .i64 i, .pointer (some ⟨B, 0, none⟩)] W _
  go_enter Tryd.func51, Tryd.ntmps51
  go_wp2_with fail
  have f0 := field_lo
  have f1 := field_hi
  have mixed : Tryd.prog.follows .mixedOrders = true := by kernel_rfl
  go_quiet_grown ((go_at_call 52; exact Calls.of_Q (v := .agg #[.int .i64 (Trig.sineLo ((i : Int) + 90000000)), .int .i64 (Trig.sineHi ((i : Int) + 90000000))]) (sine_any _ _ (by omega) (by omega))))
  go_wp2_with fail
  go_ret
  exact ⟨by rw [hp.out]; rfl, Q.of_grow _ _ _⟩

set_option maxHeartbeats 400000 in
theorem arc_high (B : Nat) (lo : Int) (i : Nat) (W : World) (hB : B < W.heap.size) (hc : W.cell? ⟨B, 0, none⟩ = some (.int .i64 lo)) (hn : i < 180000000) :
    Calls Tryd.prog 53 (#[.int .i64 i] ++ #[.pointer (some ⟨B, 0, none⟩)]) W fun e w' => e = .returned (.bool (Trig.pHigh lo i)) ∧ Q W w' := by
  have hk := fun n os => cell_grown (a := ⟨B, 0, none⟩) hB hc n os
  have hp : Hid (Trig.pHigh lo i = decide (Trig.sineHi ((i : Int) + 90000000) ≤ lo)) := rfl
  have hi' : (i : Int) ≤ 180000000 := by omega
  have hw : IntKind.i64.wrap ((i : Int) + 90000000) = (i : Int) + 90000000 := IntWalk.i64_in _ (by omega)
  clear hn
  show Calls Tryd.prog 53 #[.int .i64 i, .pointer (some ⟨B, 0, none⟩)] W _
  go_enter Tryd.func53, Tryd.ntmps53
  go_wp2_with fail
  have f0 := field_lo
  have f1 := field_hi
  have mixed : Tryd.prog.follows .mixedOrders = true := by kernel_rfl
  go_quiet_grown ((go_at_call 52; exact Calls.of_Q (v := .agg #[.int .i64 (Trig.sineLo ((i : Int) + 90000000)), .int .i64 (Trig.sineHi ((i : Int) + 90000000))]) (sine_any _ _ (by omega) (by omega))))
  go_wp2_with fail
  go_ret
  exact ⟨by rw [hp.out]; rfl, Q.of_grow _ _ _⟩

/-- the search, as the plain cut says -/
theorem search_any (g : Nat) (cb : Array Value) (n : Nat) (p : Nat → Bool) (w : World) (eg : ∀ args w, (callFunc g args).run Tryd.prog w = .ok (.enter g args) w) (hsz : n < 4611686018427387904)
    (hf : ∀ (i : Nat) (W : World), i < n → Q w W → Calls Tryd.prog g (#[.int .i64 i] ++ cb) W fun e w' => e = .returned (.bool (p i)) ∧ Q W w')
    (hmono : ∀ a b, a ≤ b → b < n → p a = true → p b = true) (r : Nat) (hr : Trig.Cut n p r) :
    Calls Tryd.prog 50 #[.int .i64 n, .func (.func g) #[] cb] w fun e w' => e = .returned (.int .i64 r) ∧ Q w w' := by
  have h := Any.sort_Search Tryd.search g cb n p w eg hsz (fun m os i hi => by
    refine (hf i (grow (w.drewN m) os) hi (Q.of_grow _ _ _)).mono ?_
    rintro e w' ⟨rfl, hq⟩
    exact ⟨rfl, hq.grown⟩) hmono
  have hc : (List.range n).countP (fun i => !p i) = r := by
    have hg : ∀ t, t < n → (List.range n)[t]! = t := fun t ht => by rw [getElem!_pos _ t (by simpa using ht)]; simp
    refine Lib.countP_boundary _ (List.range n) r (by simpa using hr.1) (fun t ht => ?_) (fun t h3 h4 => ?_)
    · rw [hg t (Nat.lt_of_lt_of_le ht hr.1), hr.2.1 t ht]; rfl
    · rw [hg t (by simpa using h4), hr.2.2 t h3 (by simpa using h4)]; rfl
  rw [hc] at h
  refine h.mono ?_
  rintro e w' ⟨rfl, q, os, rfl⟩
  exact ⟨rfl, Q.of_grow _ _ _⟩

theorem Arccos_no (lo hi : Int) (w : World) (h : Hid (wildB lo hi 100000000 = true)) (h1 : -9223372036854775808 ≤ lo ∧ lo ≤ 9223372036854775807) (h2 : -9223372036854775808 ≤ hi ∧ hi ≤ 9223372036854775807) :
    Calls Tryd.prog 22 #[encl lo hi] w fun e w' => e = .returned (.tuple #[encl 0 0, .int .i64 7]) ∧ Q w w' := by
  go_enter Tryd.func22, Tryd.ntmps22
  go_wp2_with fail
  refine (wild_any lo hi 100000000 _ h1 h2 (by omega)).mono ?_
  rintro e w1 ⟨rfl, Q1⟩
  rw [h.out]
  obtain ⟨o1, o2, o3⟩ := Q1.old
  have Q2 := Q.trans (((Q.refl w).alloc _).alloc _) Q1
  clear Q1
  go_wp2_with fail
  exact bodyPost_ret (v := .tuple #[encl 0 0, .int .i64 7]) (by simp [results, Tryd.results22, go_sem, o1]) rfl ⟨rfl, by repeat (first | assumption | apply Q.alloc | (refine Q.setCell ?_ (by simp) _))⟩

set_option maxHeartbeats 400000 in
theorem Arccos_yes (lo hi : Int) (w : World) (h : Hid (wildB lo hi 100000000 = false)) (h1 : -9223372036854775808 ≤ lo ∧ lo ≤ 9223372036854775807) (h2 : -9223372036854775808 ≤ hi ∧ hi ≤ 9223372036854775807) :
    Calls Tryd.prog 22 #[encl lo hi] w fun e w' => e = .returned (.tuple #[encl ((Trig.acLow hi : Int) - 1) (Trig.acHigh lo : Int), .int .i64 0]) ∧ Q w w' := by
  have c1 := (Trig.acLow_cut hi).1
  have c2 := (Trig.acHigh_cut lo).1
  have b1 : (Trig.acLow hi : Int) ≤ 180000001 := by omega
  have b2 : (Trig.acHigh lo : Int) ≤ 180000000 := by omega
  clear c1 c2
  go_enter Tryd.func22, Tryd.ntmps22
  go_wp2_with fail
  refine (wild_any lo hi 100000000 _ h1 h2 (by omega)).mono ?_
  rintro e w1 ⟨rfl, Q1⟩
  rw [h.out]
  have k0 : w1.cell? ⟨w.heap.size, 0, none⟩ = some (.int .i64 lo) := by rw [Q1.cell _ (by simp; omega)]; simp [go_sem]
  have k1 : w1.cell? ⟨w.heap.size, 1, none⟩ = some (.int .i64 hi) := by rw [Q1.cell _ (by simp; omega)]; simp [go_sem]
  have z1 : w.heap.size + 1 < w1.heap.size := by have := Q1.size; simp at this; omega
  have z0 : w.heap.size < w1.heap.size := by omega
  obtain ⟨o1, o2, o3⟩ := Q1.old
  have Q2 := Q.trans (((Q.refl w).alloc _).alloc _) Q1
  clear Q1
  go_wp2_with fail
  rw [show (180000001 : Int) = ((180000001 : Nat) : Int) from rfl]
  refine (search_any 51 #[.pointer (some ⟨w.heap.size, 0, none⟩)] 180000001 (Trig.pLow hi) _ (enters_of Tryd.func51 (by kernel_rfl) rfl) (by omega)
    (fun i W hi' hq => arc_low w.heap.size hi i W (Nat.lt_of_lt_of_le z0 hq.size) ((hq.cell ⟨w.heap.size, 1, none⟩ z0).trans k1) hi') (Trig.pLow_mono hi) (Trig.acLow hi) (Trig.acLow_cut hi)).mono ?_
  rintro e w2 ⟨rfl, Q3⟩
  have k0' := (Q3.cell ⟨w.heap.size, 0, none⟩ z0).trans k0
  have z0' := Nat.lt_of_lt_of_le z0 Q3.size
  have z1' := Nat.lt_of_lt_of_le z1 Q3.size
  go_wp2_with fail
  rw [show (180000000 : Int) = ((180000000 : Nat) : Int) from rfl]
  refine (search_any 53 #[.pointer (some ⟨w.heap.size, 0, none⟩)] 180000000 (Trig.pHigh lo) _ (enters_of Tryd.func53 (by kernel_rfl) rfl) (by omega)
    (fun i W hi' hq => arc_high w.heap.size lo i W (Nat.lt_of_lt_of_le z0' hq.size) ((hq.cell ⟨w.heap.size, 0, none⟩ z0').trans k0') hi') (Trig.pHigh_mono lo) (Trig.acHigh lo) (Trig.acHigh_cut lo)).mono ?_
  rintro e w3 ⟨rfl, Q4⟩
  obtain ⟨p1, p2, p3⟩ := (Q3.trans Q4).old
  have Q5 := (Q2.trans Q3).trans Q4
  clear Q2 Q3 Q4
  go_wp2_with fail
  exact bodyPost_ret (v := .tuple #[encl ((Trig.acLow hi : Int) - 1) (Trig.acHigh lo : Int), .int .i64 0]) (by simp [results, Tryd.results22, go_sem, o1, p1, z1]) rfl ⟨rfl, by repeat (first | assumption | apply Q.alloc | (refine Q.setCell ?_ (by simp) _))⟩

end Go.Proofs.YtjbhnjnlpekpoaaDoor
