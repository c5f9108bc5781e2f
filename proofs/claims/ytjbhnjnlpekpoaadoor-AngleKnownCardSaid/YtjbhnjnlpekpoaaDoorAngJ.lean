/-
  join, all, SinOf and CosOf of package angle: what they return, as plain functions say.
-/
import Derived.Test.YtjbhnjnlpekpoaaDoorCircW
namespace Go.Proofs.YtjbhnjnlpekpoaaDoor
open Go.RowKit Go.Sort
set_option linter.unusedVariables false

theorem run_min2 (ts : Array TypeId) (t : TypeId) (p q : Int) (w : World) : (Builtin.min_ ts t #[.int .i64 p, .int .i64 q]).run Tryd.prog w = .ok (.int .i64 (min p q)) w := by
  rw [← if_min p q]
  simp [Builtin.min_, Builtin.min2]

theorem run_max2 (ts : Array TypeId) (t : TypeId) (p q : Int) (w : World) : (Builtin.max_ ts t #[.int .i64 p, .int .i64 q]).run Tryd.prog w = .ok (.int .i64 (max p q)) w := by
  rw [← if_max p q]
  simp [Builtin.max_, Builtin.max2]

def jLo (a : Int) (xs : List (Int × Int)) : Int := xs.foldl (fun m p => min m p.1) a
def jHi (b : Int) (xs : List (Int × Int)) : Int := xs.foldl (fun m p => max m p.2) b

theorem jLo_snoc (a : Int) (xs : List (Int × Int)) (k : Nat) (h : k < xs.length) : jLo a (xs.take (k + 1)) = min (jLo a (xs.take k)) xs[k].1 := by
  rw [List.take_succ_eq_append_getElem h]; unfold jLo; rw [List.foldl_append]; rfl
theorem jHi_snoc (b : Int) (xs : List (Int × Int)) (k : Nat) (h : k < xs.length) : jHi b (xs.take (k + 1)) = max (jHi b (xs.take k)) xs[k].2 := by
  rw [List.take_succ_eq_append_getElem h]; unfold jHi; rw [List.foldl_append]; rfl

/-- a block of one integer -/
structure HasI (W : World) (g : Nat) (x : Int) : Prop where
  lt : g < W.heap.size
  c0 : W.cell? ⟨g, 0, none⟩ = some (.int .i64 x)
  f0 : W.frozen? ⟨g, 0, none⟩ = false

theorem HasI.new (W : World) (x : Int) (t : TypeId) : HasI (W.alloc (.cells #[.int .i64 x] t)) W.heap.size x :=
  ⟨by simp, by simp [go_sem], by simp [go_sem]⟩
theorem HasI.mono {W W' : World} {g : Nat} {x : Int} (h : HasI W g x) (q : Q W W') : HasI W' g x :=
  ⟨Nat.lt_of_lt_of_le h.lt q.size, by rw [q.cell _ h.lt]; exact h.c0, by rw [q.frozen _ h.lt]; exact h.f0⟩
theorem HasI.drew {W : World} {g : Nat} {x : Int} (h : HasI W g x) : HasI W.drew g x := h.mono (Q.refl W).drew
theorem HasI.alloc {W : World} {g : Nat} {x : Int} (h : HasI W g x) (o : Obj) : HasI (W.alloc o) g x := h.mono ((Q.refl W).alloc o)
theorem HasI.apart2 {W : World} {g g' : Nat} {x : Int} (h : HasI W g x) (_ : g' ≠ g) (u v : Value) : HasI ((W.setCell ⟨g', 0, none⟩ u).setCell ⟨g', 1, none⟩ v) g x := by
  obtain ⟨lt, c0, f0⟩ := h
  exact ⟨by simp [lt], by simp [go_sem, c0], by simp [go_sem, f0]⟩
theorem HasI.apart {W : World} {g g' o : Nat} {x : Int} (h : HasI W g x) (_ : g' ≠ g) (u : Value) : HasI (W.setCell ⟨g', o, none⟩ u) g x := by
  obtain ⟨lt, c0, f0⟩ := h
  exact ⟨by simp [lt], by simp [go_sem, c0], by simp [go_sem, f0]⟩
theorem Has.apart {W : World} {g g' o : Nat} {x y : Int} (h : Has W g x y) (_ : g' ≠ g) (u : Value) : Has (W.setCell ⟨g', o, none⟩ u) g x y := by
  obtain ⟨lt, c0, c1, f0, f1⟩ := h
  exact ⟨by simp [lt], by simp [go_sem, c0], by simp [go_sem, c1], by simp [go_sem, f0], by simp [go_sem, f1]⟩
theorem Has.set0 {W : World} {g : Nat} {x0 y0 : Int} (h : Has W g x0 y0) (x : Int) : Has (W.setCell ⟨g, 0, none⟩ (.int .i64 x)) g x y0 := by
  obtain ⟨lt, c0, c1, f0, f1⟩ := h
  exact ⟨by simp [lt], by simp [go_sem, c0], by simp [go_sem, c1], by simp [go_sem, f0], by simp [go_sem, f1]⟩
theorem Has.set1 {W : World} {g : Nat} {x0 y0 : Int} (h : Has W g x0 y0) (y : Int) : Has (W.setCell ⟨g, 1, none⟩ (.int .i64 y)) g x0 y := by
  obtain ⟨lt, c0, c1, f0, f1⟩ := h
  exact ⟨by simp [lt], by simp [go_sem, c0], by simp [go_sem, c1], by simp [go_sem, f0], by simp [go_sem, f1]⟩

/-- a row of pairs -/
structure Pairs (W : World) (g : Nat) (xs : List (Int × Int)) : Prop where
  lt : g < W.heap.size
  c0 : ∀ k (h : k < xs.length), W.cell? ⟨g, k * 2, none⟩ = some (.int .i64 xs[k].1)
  c1 : ∀ k (h : k < xs.length), W.cell? ⟨g, k * 2 + 1, none⟩ = some (.int .i64 xs[k].2)

theorem Pairs.mono {W W' : World} {g : Nat} {xs : List (Int × Int)} (h : Pairs W g xs) (q : Q W W') : Pairs W' g xs :=
  ⟨Nat.lt_of_lt_of_le h.lt q.size, fun k hk => by rw [q.cell _ h.lt]; exact h.c0 k hk, fun k hk => by rw [q.cell _ h.lt]; exact h.c1 k hk⟩

def JInv (w : World) (a b : Int) (xs : List (Int × Int)) (v : Value) (wr : World) : Prop :=
  ∃ k : Nat, k ≤ xs.length ∧ v = .int .i64 k ∧ Has wr w.heap.size (jLo a (xs.take k)) (jHi b (xs.take k)) ∧ Has wr (w.heap.size + 1) 0 0 ∧ Q w wr

set_option maxRecDepth 100000 in
set_option maxHeartbeats 1000000 in
theorem join_any (a b : Int) (xs : List (Int × Int)) (g : Nat) (w : World) (hx : xs.length ≤ 1000) (hp : Pairs w g xs) :
    Calls Tryd.prog 83 #[encl a b, .slice (some ⟨g, 0, none⟩) xs.length xs.length] w fun e w' => e = .returned (encl (jLo a xs) (jHi b xs)) ∧ Q w w' := by
  have m2 := run_min2
  have x2 := run_max2
  go_enter Tryd.func83, Tryd.ntmps83
  go_wp2_with fail
  go_loopw [9] (fun v wr => JInv w a b xs v wr) (fun v _ => xs.length - (intOf v).toNat)
  case atStart =>
    refine ⟨0, Nat.zero_le _, rfl, ?_, ?_, ?_⟩
    · exact (Has.new w a b _).alloc _
    · exact Has.newAt (by simp)
    · exact ((Q.refl w).alloc _).alloc _
  case round =>
    obtain ⟨k, hk, rfl, H1, H2, Q1⟩ := hrel
    obtain ⟨z1, k10, k11, f10, f11⟩ := id H1
    have hp' := hp.mono Q1
    by_cases hlt : k < xs.length
    · have c0 := hp'.c0 k hlt
      have c1 := hp'.c1 k hlt
      have zg := hp'.lt
      have zl : w.heap.size ≤ wr.heap.size := Q1.size
      have HL := Lib.hid (jLo_snoc a xs k hlt)
      have HH := Lib.hid (jHi_snoc b xs k hlt)
      clear hp' hp
      generalize xs[k].1 = p at *
      generalize xs[k].2 = q at *
      go_wp2_with fail
      go_roundw
      case rel =>
        refine ⟨k + 1, by omega, by go_num, ?_, ?_, ?_⟩
        · rw [HL.out, HH.out]; exact (H1.store _ _).alloc _
        · exact (H2.apart2 (by omega) _ _).alloc _
        · exact ((Q1.setCell (p := ⟨w.heap.size, 0, none⟩) (Nat.le_refl _) _).setCell (p := ⟨w.heap.size, 1, none⟩) (Nat.le_refl _) _).alloc _
      case measure => simp [intOf]; omega
    · obtain ⟨z2, k20, k21, f20, f21⟩ := id H2
      have e1 : xs.take k = xs := List.take_of_length_le (by omega)
      rw [e1] at k10 k11
      have R := H2.store (jLo a xs) (jHi b xs)
      have QR := (Q1.setCell (p := ⟨w.heap.size + 1, 0, none⟩) (by simp) (.int .i64 (jLo a xs))).setCell (p := ⟨w.heap.size + 1, 1, none⟩) (by simp) (.int .i64 (jHi b xs))
      clear e1 H1 H2 hp hp'
      go_wp2_with fail
      generalize (wr.setCell ⟨w.heap.size + 1, 0, none⟩ (.int .i64 (jLo a xs))).setCell ⟨w.heap.size + 1, 1, none⟩ (.int .i64 (jHi b xs)) = W5 at *
      obtain ⟨_, r0, r1, _, _⟩ := R
      exact bodyPost_ret (v := .agg #[.int .i64 (jLo a xs), .int .i64 (jHi b xs)]) (by simp [results, Tryd.results83, go_sem, r0, r1]) rfl ⟨rfl, QR⟩

/-- the first angle from lo on that is a whole number of turns from b -/
def nextP (lo b : Int) : Int := lo + (b - lo) % 360000000

theorem fold_pos (a : Int) : (a.tmod 360000000 + 360000000) % 360000000 = a % 360000000 ∧ 0 ≤ a.tmod 360000000 + 360000000 := by
  have := Int.tmod_eq_emod (a := a) (b := 360000000)
  have h1 := Int.emod_nonneg a (b := 360000000) (by decide)
  have h2 := Int.emod_lt_of_pos a (b := 360000000) (by decide)
  split at this <;> constructor <;> omega

set_option maxRecDepth 100000 in
theorem next_any (lo b : Int) (g : Nat) (w : World) (hc : w.cell? ⟨g, 0, none⟩ = some (.int .i64 lo)) (h1 : -9000000000 ≤ lo ∧ lo ≤ 9000000000) (h2 : 0 ≤ b ∧ b ≤ 270000000) :
    Calls Tryd.prog 84 #[.int .i64 b, .pointer (some ⟨g, 0, none⟩)] w fun e w' => e = .returned (.int .i64 (nextP lo b)) ∧ w' = w := by
  obtain ⟨f1, f2⟩ := fold_pos (b - lo)
  have b1 : -360000000 < (b - lo).tmod 360000000 ∧ (b - lo).tmod 360000000 < 360000000 := by
    have := Int.tmod_eq_emod (a := b - lo) (b := 360000000)
    split at this <;> omega
  have e : wrap64 (lo + (wrap64 ((b - lo).tmod 360000000 + 360000000)).tmod 360000000) = nextP lo b := by
    rw [IntWalk.wrap64_in ((b - lo).tmod 360000000 + 360000000) (by omega), Int.tmod_eq_emod_of_nonneg f2, f1, IntWalk.wrap64_in _ (by omega)]
    rfl
  have HE := Lib.hid e
  clear e f1 f2 b1
  go_enter Tryd.func84, Tryd.ntmps84
  go_wp2_with fail
  go_ret
  exact ⟨by rw [HE.out]; rfl, rfl⟩

def allLo (lo hi : Int) : Int := if nextP lo 270000000 ≤ hi then -100000000 else min (Trig.sineLo lo) (Trig.sineLo hi)
def allHi (lo hi : Int) : Int := if nextP lo 90000000 ≤ hi then 100000000 else max (Trig.sineHi lo) (Trig.sineHi hi)

set_option maxRecDepth 100000 in
set_option maxHeartbeats 2000000 in
theorem all_no (x y more : Int) (w : World) (h : Hid (wildB x y 3600000000 = true)) (h1 : -9223372036854775808 ≤ x ∧ x ≤ 9223372036854775807) (h2 : -9223372036854775808 ≤ y ∧ y ≤ 9223372036854775807) :
    Calls Tryd.prog 56 #[encl x y, .int .i64 more] w fun e w' => e = .returned (.tuple #[encl 0 0, .int .i64 7]) ∧ Q w w' := by
  go_enter Tryd.func56, Tryd.ntmps56
  go_wp2_with fail
  refine (wild_any x y 3600000000 _ h1 h2 (by omega)).mono ?_
  rintro e w1 ⟨rfl, Q1⟩
  rw [h.out]
  obtain ⟨o1, o2, o3⟩ := Q1.old
  have Q2 := Q.trans (((Q.refl w).alloc _).alloc _) Q1
  clear Q1
  go_wp2_with fail
  exact bodyPost_ret (v := .tuple #[encl 0 0, .int .i64 7]) (by simp [results, Tryd.results56, go_sem, o1]) rfl ⟨rfl, by repeat (first | assumption | apply Q.alloc | (refine Q.setCell ?_ (by simp) _))⟩

theorem allLo_hid {A lo hi : Int} (h : Hid (A = allLo lo hi)) : Hid (A = if nextP lo 270000000 ≤ hi then -100000000 else min (Trig.sineLo lo) (Trig.sineLo hi)) := h
theorem allHi_hid {A lo hi : Int} (h : Hid (A = allHi lo hi)) : Hid (A = if nextP lo 90000000 ≤ hi then 100000000 else max (Trig.sineHi lo) (Trig.sineHi hi)) := h

set_option maxRecDepth 100000 in
set_option maxHeartbeats 2000000 in
theorem all_core (x y more A B : Int) (w : World) (hA : Hid (A = allLo (x + more) (y + more))) (hB : Hid (B = allHi (x + more) (y + more))) (h : Hid (wildB x y 3600000000 = false)) (h1 : -3600000000 ≤ x ∧ x ≤ 3600000000) (h2 : -3600000000 ≤ y ∧ y ≤ 3600000000) (hm : 0 ≤ more ∧ more ≤ 90000000) :
    Calls Tryd.prog 56 #[encl x y, .int .i64 more] w fun e w' => e = .returned (.tuple #[encl A B, .int .i64 0]) ∧ Q w w' := by
  go_enter Tryd.func56, Tryd.ntmps56
  go_wp2_with fail
  refine (wild_any x y 3600000000 _ (by omega) (by omega) (by omega)).mono ?_
  rintro e w1 ⟨rfl, Q1⟩
  rw [h.out]
  go_upto_region 3 with fail
  have B2 : Has w1 w.heap.size x y := ((Has.new w x y 24).alloc _).mono Q1
  have B4 : Has w1 (w.heap.size + 1) 0 0 := (Has.newAt (by simp)).mono Q1
  have QC := Q.trans (((Q.refl w).alloc _).alloc _) Q1
  clear Q1
  obtain ⟨z2, k20, k21, f20, f21⟩ := id B2
  go_region
  have e1 : x + more ≤ 3690000000 ∧ -3600000000 ≤ x + more ∧ y + more ≤ 3690000000 ∧ -3600000000 ≤ y + more := by omega
  go_wp2_with fail
  generalize x + more = lo at *
  generalize y + more = hi at *
  obtain ⟨e1, e2, e3, e4⟩ := e1
  have l46 : w.heap.size + 1 < w1.heap.size := B4.lt
  have B6 : HasI (w1.alloc (.cells #[.int .i64 lo] 3)) w1.heap.size lo := HasI.new _ _ _
  replace B4 := (B4.alloc (.cells #[.int .i64 lo] 3)).drew
  replace B6 := B6.drew
  replace QC := (QC.alloc (.cells #[.int .i64 lo] 3)).drew
  clear z2 k20 k21 f20 f21 B2 h
  generalize (w1.alloc (.cells #[.int .i64 lo] 3)).drew = v1 at *
  generalize w1.heap.size = g6 at *
  refine (sine_any lo _ (by omega) (by omega)).mono ?_
  rintro e w2 ⟨rfl, Q2⟩
  replace B4 := B4.mono Q2
  replace B6 := B6.mono Q2
  replace QC := QC.trans Q2
  clear Q2
  go_wp2_with fail
  refine (sine_any hi _ (by omega) (by omega)).mono ?_
  rintro e w3 ⟨rfl, Q3⟩
  replace B4 := B4.mono Q3
  replace B6 := B6.mono Q3
  replace QC := QC.trans Q3
  clear Q3
  go_wp2_with fail
  refine (join_any (Trig.sineLo lo) (Trig.sineHi lo) [(Trig.sineLo hi, Trig.sineHi hi)] w3.heap.size _ (by simp) ⟨by simp, fun k hk => ?_, fun k hk => ?_⟩).mono ?_
  · obtain rfl : k = 0 := by simp at hk; omega
    simp [go_sem]
  · obtain rfl : k = 0 := by simp at hk; omega
    simp [go_sem]
  rintro e w4 ⟨rfl, Q4⟩
  rw [show jLo (Trig.sineLo lo) [(Trig.sineLo hi, Trig.sineHi hi)] = min (Trig.sineLo lo) (Trig.sineLo hi) from rfl, show jHi (Trig.sineHi lo) [(Trig.sineLo hi, Trig.sineHi hi)] = max (Trig.sineHi lo) (Trig.sineHi hi) from rfl]
  replace Q4 := ((Q.refl w3).alloc _).trans Q4
  replace B4 := B4.mono Q4
  replace B6 := B6.mono Q4
  replace QC := QC.trans Q4
  clear Q4
  have hA := allLo_hid hA
  have hB := allHi_hid hB
  generalize min (Trig.sineLo lo) (Trig.sineLo hi) = m at *
  generalize max (Trig.sineHi lo) (Trig.sineHi hi) = M at *
  go_upto_region 5 with fail
  have l48 : w.heap.size + 1 < w4.heap.size := B4.lt
  have l68 : g6 < w4.heap.size := B6.lt
  have L8 : w.heap.size ≤ w4.heap.size := QC.size
  replace B4 := B4.alloc (.cells #[.int .i64 m, .int .i64 M] 24)
  replace B6 := B6.alloc (.cells #[.int .i64 m, .int .i64 M] 24)
  have B8 := Has.new w4 m M 24
  replace QC := QC.alloc (.cells #[.int .i64 m, .int .i64 M] 24)
  generalize w4.alloc (.cells #[.int .i64 m, .int .i64 M] 24) = v4 at *
  generalize w4.heap.size = g8 at *
  -- BEGIN
  go_wp2_with fail
  refine (next_any lo 90000000 g6 _ B6.c0 (by omega) (by omega)).mono ?_
  rintro e w5 ⟨rfl, rfl⟩
  generalize nextP lo 90000000 = n1 at *
  by_cases t1 : n1 ≤ hi
  · obtain ⟨z8, k80, k81, f80, f81⟩ := id B8
    go_upto_region 8 with fail
    clear z8 k80 k81 f80 f81
    replace B4 := B4.apart (g' := g8) (o := 1) (by omega) (.int .i64 100000000)
    replace B6 := B6.apart (g' := g8) (o := 1) (by omega) (.int .i64 100000000)
    replace B8 := B8.set1 100000000
    replace QC := QC.setCell (p := ⟨g8, 1, none⟩) L8 (.int .i64 100000000)
    generalize w5.setCell ⟨g8, 1, none⟩ (.int .i64 100000000) = v5 at *
    go_wp2_with fail
    refine (next_any lo 270000000 g6 _ B6.c0 (by omega) (by omega)).mono ?_
    rintro e w6 ⟨rfl, rfl⟩
    generalize nextP lo 270000000 = n2 at *
    by_cases t2 : n2 ≤ hi
    · skip
      obtain ⟨z8, k80, k81, f80, f81⟩ := id B8
      go_upto_region 10 with fail
      clear z8 k80 k81 f80 f81
      replace B4 := B4.apart (g' := g8) (o := 0) (by omega) (.int .i64 (-100000000))
      replace B8 := B8.set0 (-100000000)
      replace QC := QC.setCell (p := ⟨g8, 0, none⟩) L8 (.int .i64 (-100000000))
      generalize w6.setCell ⟨g8, 0, none⟩ (.int .i64 (-100000000)) = v6 at *
      obtain ⟨z8, k80, k81, f80, f81⟩ := id B8
      obtain ⟨z4, k40, k41, f40, f41⟩ := id B4
      have R := B4.store ((-100000000)) (100000000)
      replace QC := (QC.setCell (p := ⟨w.heap.size + 1, 0, none⟩) (by simp) (.int .i64 ((-100000000)))).setCell (p := ⟨w.heap.size + 1, 1, none⟩) (by simp) (.int .i64 (100000000))
      clear B4 B8 B6
      have ea : A = (-100000000) := by rw [hA.out]; exact if_pos t2
      have eb : B = 100000000 := by rw [hB.out]; exact if_pos t1
      have EA := Lib.hid ea
      have EB := Lib.hid eb
      clear hA hB ea eb t1 t2
      go_wp2_with fail
      generalize (v6.setCell ⟨w.heap.size + 1, 0, none⟩ (.int .i64 ((-100000000)))).setCell ⟨w.heap.size + 1, 1, none⟩ (.int .i64 (100000000)) = v7 at *
      obtain ⟨_, r0, r1, _, _⟩ := R
      exact bodyPost_ret (v := .tuple #[encl ((-100000000)) (100000000), .int .i64 0]) (by simp [results, Tryd.results56, go_sem, r0, r1]) rfl ⟨by rw [EA.out, EB.out], QC⟩
    · skip
      go_upto_region 10 with fail
      obtain ⟨z8, k80, k81, f80, f81⟩ := id B8
      obtain ⟨z4, k40, k41, f40, f41⟩ := id B4
      have R := B4.store (m) (100000000)
      replace QC := (QC.setCell (p := ⟨w.heap.size + 1, 0, none⟩) (by simp) (.int .i64 (m))).setCell (p := ⟨w.heap.size + 1, 1, none⟩) (by simp) (.int .i64 (100000000))
      clear B4 B8 B6
      have ea : A = m := by rw [hA.out]; exact if_neg (by omega)
      have eb : B = 100000000 := by rw [hB.out]; exact if_pos t1
      have EA := Lib.hid ea
      have EB := Lib.hid eb
      clear hA hB ea eb t1 t2
      go_wp2_with fail
      generalize (w6.setCell ⟨w.heap.size + 1, 0, none⟩ (.int .i64 (m))).setCell ⟨w.heap.size + 1, 1, none⟩ (.int .i64 (100000000)) = v7 at *
      obtain ⟨_, r0, r1, _, _⟩ := R
      exact bodyPost_ret (v := .tuple #[encl (m) (100000000), .int .i64 0]) (by simp [results, Tryd.results56, go_sem, r0, r1]) rfl ⟨by rw [EA.out, EB.out], QC⟩
  · go_upto_region 8 with fail
    go_wp2_with fail
    refine (next_any lo 270000000 g6 _ B6.c0 (by omega) (by omega)).mono ?_
    rintro e w6 ⟨rfl, rfl⟩
    generalize nextP lo 270000000 = n2 at *
    by_cases t2 : n2 ≤ hi
    · skip
      obtain ⟨z8, k80, k81, f80, f81⟩ := id B8
      go_upto_region 10 with fail
      clear z8 k80 k81 f80 f81
      replace B4 := B4.apart (g' := g8) (o := 0) (by omega) (.int .i64 (-100000000))
      replace B8 := B8.set0 (-100000000)
      replace QC := QC.setCell (p := ⟨g8, 0, none⟩) L8 (.int .i64 (-100000000))
      generalize w6.setCell ⟨g8, 0, none⟩ (.int .i64 (-100000000)) = v6 at *
      obtain ⟨z8, k80, k81, f80, f81⟩ := id B8
      obtain ⟨z4, k40, k41, f40, f41⟩ := id B4
      have R := B4.store ((-100000000)) (M)
      replace QC := (QC.setCell (p := ⟨w.heap.size + 1, 0, none⟩) (by simp) (.int .i64 ((-100000000)))).setCell (p := ⟨w.heap.size + 1, 1, none⟩) (by simp) (.int .i64 (M))
      clear B4 B8 B6
      have ea : A = (-100000000) := by rw [hA.out]; exact if_pos t2
      have eb : B = M := by rw [hB.out]; exact if_neg (by omega)
      have EA := Lib.hid ea
      have EB := Lib.hid eb
      clear hA hB ea eb t1 t2
      go_wp2_with fail
      generalize (v6.setCell ⟨w.heap.size + 1, 0, none⟩ (.int .i64 ((-100000000)))).setCell ⟨w.heap.size + 1, 1, none⟩ (.int .i64 (M)) = v7 at *
      obtain ⟨_, r0, r1, _, _⟩ := R
      exact bodyPost_ret (v := .tuple #[encl ((-100000000)) (M), .int .i64 0]) (by simp [results, Tryd.results56, go_sem, r0, r1]) rfl ⟨by rw [EA.out, EB.out], QC⟩
    · skip
      go_upto_region 10 with fail
      obtain ⟨z8, k80, k81, f80, f81⟩ := id B8
      obtain ⟨z4, k40, k41, f40, f41⟩ := id B4
      have R := B4.store (m) (M)
      replace QC := (QC.setCell (p := ⟨w.heap.size + 1, 0, none⟩) (by simp) (.int .i64 (m))).setCell (p := ⟨w.heap.size + 1, 1, none⟩) (by simp) (.int .i64 (M))
      clear B4 B8 B6
      have ea : A = m := by rw [hA.out]; exact if_neg (by omega)
      have eb : B = M := by rw [hB.out]; exact if_neg (by omega)
      have EA := Lib.hid ea
      have EB := Lib.hid eb
      clear hA hB ea eb t1 t2
      go_wp2_with fail
      generalize (w6.setCell ⟨w.heap.size + 1, 0, none⟩ (.int .i64 (m))).setCell ⟨w.heap.size + 1, 1, none⟩ (.int .i64 (M)) = v7 at *
      obtain ⟨_, r0, r1, _, _⟩ := R
      exact bodyPost_ret (v := .tuple #[encl (m) (M), .int .i64 0]) (by simp [results, Tryd.results56, go_sem, r0, r1]) rfl ⟨by rw [EA.out, EB.out], QC⟩
  -- END

theorem all_yes (x y more : Int) (w : World) (h : Hid (wildB x y 3600000000 = false)) (h1 : -3600000000 ≤ x ∧ x ≤ 3600000000) (h2 : -3600000000 ≤ y ∧ y ≤ 3600000000) (hm : 0 ≤ more ∧ more ≤ 90000000) :
    Calls Tryd.prog 56 #[encl x y, .int .i64 more] w fun e w' => e = .returned (.tuple #[encl (allLo (x + more) (y + more)) (allHi (x + more) (y + more)), .int .i64 0]) ∧ Q w w' :=
  all_core x y more _ _ w rfl rfl h h1 h2 hm

def ofOut (x y more : Int) : Value := if wildB x y 3600000000 then .tuple #[encl 0 0, .int .i64 7] else .tuple #[encl (allLo (x + more) (y + more)) (allHi (x + more) (y + more)), .int .i64 0]

theorem wild2_iff (x y m : Int) : wildB x y m = false ↔ (x ≤ y ∧ -m ≤ x ∧ y ≤ m) := by
  unfold wildB
  simp
  omega

theorem all_any (x y more : Int) (w : World) (h1 : -9223372036854775808 ≤ x ∧ x ≤ 9223372036854775807) (h2 : -9223372036854775808 ≤ y ∧ y ≤ 9223372036854775807) (hm : 0 ≤ more ∧ more ≤ 90000000) :
    Calls Tryd.prog 56 #[encl x y, .int .i64 more] w fun e w' => e = .returned (ofOut x y more) ∧ Q w w' := by
  unfold ofOut
  cases hb : wildB x y 3600000000 with
  | true => exact all_no x y more w hb h1 h2
  | false =>
    have := (wild2_iff x y 3600000000).1 hb
    exact all_yes x y more w hb (by omega) (by omega) hm

theorem ofOut_form (x y more : Int) : ∃ lo hi e : Int, ofOut x y more = .tuple #[encl lo hi, .int .i64 e] := by
  unfold ofOut
  split
  · exact ⟨_, _, _, rfl⟩
  · exact ⟨_, _, _, rfl⟩

theorem SinOf_any (x y : Int) (w : World) (h1 : -9223372036854775808 ≤ x ∧ x ≤ 9223372036854775807) (h2 : -9223372036854775808 ≤ y ∧ y ≤ 9223372036854775807) :
    Calls Tryd.prog 27 #[encl x y] w fun e w' => e = .returned (ofOut x y 0) ∧ Q w w' := by
  obtain ⟨lo, hi, er, hf⟩ := ofOut_form x y 0
  have H := fun w => all_any x y 0 w h1 h2 (by omega)
  rw [hf] at H ⊢
  have HH := Lib.hid H
  clear H hf
  go_enter Tryd.func27, Tryd.ntmps27
  go_wp2_with fail
  refine (HH.out _).mono ?_
  rintro e w1 ⟨rfl, Q1⟩
  have z1 : w.heap.size + 1 < w1.heap.size := by have := Q1.size; simp at this; omega
  obtain ⟨o1, o2, o3⟩ := Q1.old
  have Q2 := Q.trans (((Q.refl w).alloc _).alloc _) Q1
  clear Q1
  go_wp2_with fail
  exact bodyPost_ret (v := .tuple #[encl lo hi, .int .i64 er]) (by simp [results, Tryd.results27, go_sem, o1]) rfl ⟨rfl, by repeat (first | assumption | apply Q.alloc | (refine Q.setCell ?_ (by simp) _))⟩

theorem CosOf_any (x y : Int) (w : World) (h1 : -9223372036854775808 ≤ x ∧ x ≤ 9223372036854775807) (h2 : -9223372036854775808 ≤ y ∧ y ≤ 9223372036854775807) :
    Calls Tryd.prog 29 #[encl x y] w fun e w' => e = .returned (ofOut x y 90000000) ∧ Q w w' := by
  obtain ⟨lo, hi, er, hf⟩ := ofOut_form x y 90000000
  have H := fun w => all_any x y 90000000 w h1 h2 (by omega)
  rw [hf] at H ⊢
  have HH := Lib.hid H
  clear H hf
  go_enter Tryd.func29, Tryd.ntmps29
  go_wp2_with fail
  refine (HH.out _).mono ?_
  rintro e w1 ⟨rfl, Q1⟩
  have z1 : w.heap.size + 1 < w1.heap.size := by have := Q1.size; simp at this; omega
  obtain ⟨o1, o2, o3⟩ := Q1.old
  have Q2 := Q.trans (((Q.refl w).alloc _).alloc _) Q1
  clear Q1
  go_wp2_with fail
  exact bodyPost_ret (v := .tuple #[encl lo hi, .int .i64 er]) (by simp [results, Tryd.results29, go_sem, o1]) rfl ⟨rfl, by repeat (first | assumption | apply Q.alloc | (refine Q.setCell ?_ (by simp) _))⟩

end Go.Proofs.YtjbhnjnlpekpoaaDoor
