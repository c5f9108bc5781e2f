/-
  The document's checks of enclosures of values, and its results.
-/
import Derived.Test.YtjbhnjnlpekpoaaDoorAngJ
namespace Go.Proofs.YtjbhnjnlpekpoaaDoor
open Go.RowKit Go.Sort
set_option linter.unusedVariables false

/-- what the document's 'result' returns -/
abbrev rRes (lo hi A B er : Int) : Prop := (wildB lo hi 3000000000 = true ∧ A = 0 ∧ B = 0 ∧ er = 7) ∨ (wildB lo hi 3000000000 = false ∧ A = lo ∧ B = hi ∧ er = 0)

def vBad (xs : List (Int × Int)) : Bool := xs.any (fun p => wildB p.1 p.2 3000000000)

theorem vBad_snoc (xs : List (Int × Int)) (k : Nat) (h : k < xs.length) : vBad (xs.take (k + 1)) = (vBad (xs.take k) || wildB xs[k].1 xs[k].2 3000000000) := by
  rw [List.take_succ_eq_append_getElem h]; unfold vBad; rw [List.any_append]; simp
theorem vBad_at (xs : List (Int × Int)) (k : Nat) (h : k < xs.length) (hw : wildB xs[k].1 xs[k].2 3000000000 = true) : vBad xs = true := by
  unfold vBad; rw [List.any_eq_true]; exact ⟨xs[k], List.getElem_mem h, hw⟩

theorem wild_is {x y : Int} (h : wildB x y 3000000000 = false) : ¬ y < x ∧ ¬ x < -3000000000 ∧ ¬ 3000000000 < y := by
  unfold wildB at h
  simp only [Bool.or_eq_false_iff, decide_eq_false_iff_not] at h
  exact ⟨h.1.1, h.1.2, h.2⟩
theorem wild_isnt {x y : Int} (h : wildB x y 3000000000 = true) : y < x ∨ (¬ y < x ∧ x < -3000000000) ∨ (¬ y < x ∧ ¬ x < -3000000000 ∧ 3000000000 < y) := by
  unfold wildB at h
  simp only [Bool.or_eq_true, decide_eq_true_eq] at h
  omega

def VInv (w : World) (xs : List (Int × Int)) (v : Value) (wr : World) : Prop :=
  ∃ k : Nat, k ≤ xs.length ∧ v = .int .i64 k ∧ Hid (vBad (xs.take k) = false) ∧ Q w wr

set_option maxRecDepth 100000 in
set_option maxHeartbeats 1000000 in
theorem valued_any (xs : List (Int × Int)) (g : Nat) (w : World) (er : Int) (hx : xs.length ≤ 1000) (hp : Pairs w g xs) (he : Hid (er = if vBad xs then 7 else 0)) :
    Calls Tryd.prog 62 #[.slice (some ⟨g, 0, none⟩) xs.length xs.length] w fun e w' => e = .returned (.int .i64 er) ∧ Q w w' := by
  go_enter Tryd.func62, Tryd.ntmps62
  go_wp2_with fail
  go_loopw [3] (fun v wr => VInv w xs v wr) (fun v _ => xs.length - (intOf v).toNat)
  case atStart => exact ⟨0, Nat.zero_le _, rfl, by unfold Hid; rfl, Q.refl _⟩
  case round =>
    obtain ⟨k, hk, rfl, H1, Q1⟩ := hrel
    have hp' := hp.mono Q1
    by_cases hlt : k < xs.length
    · have c0 := hp'.c0 k hlt
      have c1 := hp'.c1 k hlt
      have zg := hp'.lt
      have HL := Lib.hid (vBad_snoc xs k hlt)
      have HA := Lib.hid (vBad_at xs k hlt)
      clear hp' hp
      generalize xs[k].1 = p at *
      generalize xs[k].2 = q at *
      cases hb : wildB p q 3000000000 with
      | false =>
        obtain ⟨i1, i2, i3⟩ := wild_is hb
        have HB := Lib.hid hb
        clear hb
        go_upto_region 4 with fail
        go_quiet (fail)
        go_wp2_with fail
        go_roundw
        case rel =>
          refine ⟨k + 1, by omega, by go_num, ?_, Q1.drewN _⟩
          have h1 := HL.out
          rw [H1.out, HB.out] at h1
          exact h1
        case measure => simp [intOf]; omega
      | true =>
        have e7 : er = 7 := by rw [he.out, HA.out hb]; rfl
        have E7 := Lib.hid e7
        have hw := wild_isnt hb
        clear e7 hb HA HL H1 he
        rcases hw with h | ⟨h1, h2⟩ | ⟨h1, h2, h3⟩
        all_goals
          go_upto_region 4 with fail
          go_quiet (fail)
          go_wp2_with fail
          go_ret
          exact ⟨by rw [E7.out]; rfl, Q1.drewN _⟩
    · have e0 : er = 0 := by
        have := H1.out
        rw [List.take_of_length_le (by omega)] at this
        rw [he.out, this]; rfl
      have E0 := Lib.hid e0
      clear e0 he H1 hp' hp
      go_wp2_with fail
      go_ret
      exact ⟨by rw [E0.out]; rfl, Q1⟩

theorem Pairs.new1At {W : World} {g : Nat} {a b : Int} {t : TypeId} (h : g = W.heap.size) : Pairs (W.alloc (.cells #[.int .i64 a, .int .i64 b] t)) g [(a, b)] := by
  subst h
  refine ⟨by simp, fun k hk => ?_, fun k hk => ?_⟩
  · match k, hk with
    | 0, _ => simp [go_sem]
  · match k, hk with
    | 0, _ => simp [go_sem]
theorem Pairs.new2At {W : World} {g : Nat} {a b c d : Int} {t : TypeId} (h : g = W.heap.size) : Pairs (W.alloc (.cells #[.int .i64 a, .int .i64 b, .int .i64 c, .int .i64 d] t)) g [(a, b), (c, d)] := by
  subst h
  refine ⟨by simp, fun k hk => ?_, fun k hk => ?_⟩
  · match k, hk with
    | 0, _ | 1, _ => simp [go_sem]
  · match k, hk with
    | 0, _ | 1, _ => simp [go_sem]

theorem vBad_one (a b : Int) : vBad [(a, b)] = wildB a b 3000000000 := by unfold vBad; simp
theorem vBad_two (a b c d : Int) : vBad [(a, b), (c, d)] = (wildB a b 3000000000 || wildB c d 3000000000) := by unfold vBad; simp

set_option maxRecDepth 100000 in
set_option maxHeartbeats 2000000 in
theorem result_any (lo hi A B er : Int) (w : World) (hr : Hid (rRes lo hi A B er)) :
    Calls Tryd.prog 63 #[.int .i64 lo, .int .i64 hi] w fun e w' => e = .returned (.tuple #[encl A B, .int .i64 er]) ∧ Q w w' := by
  go_enter Tryd.func63, Tryd.ntmps63
  go_upto_region 2 with fail
  have B4 : Has ((w.alloc (.cells #[.int .i64 0, .int .i64 0] 24)).alloc (.cells #[.int .i64 lo, .int .i64 hi] 24)) w.heap.size 0 0 := (Has.new w 0 0 24).alloc _
  have B6 : Has ((w.alloc (.cells #[.int .i64 0, .int .i64 0] 24)).alloc (.cells #[.int .i64 lo, .int .i64 hi] 24)) (w.heap.size + 1) lo hi := Has.newAt (by simp)
  have QC := ((Q.refl w).alloc (.cells #[.int .i64 0, .int .i64 0] 24)).alloc (.cells #[.int .i64 lo, .int .i64 hi] 24)
  generalize (w.alloc (.cells #[.int .i64 0, .int .i64 0] 24)).alloc (.cells #[.int .i64 lo, .int .i64 hi] 24) = W at *
  obtain ⟨z6, k60, k61, f60, f61⟩ := id B6
  go_wp2_with fail
  refine (valued_any [(lo, hi)] W.heap.size _ er (by simp) (Pairs.new1At rfl) ?he).mono ?_
  case he =>
    show er = if vBad [(lo, hi)] then 7 else 0
    rw [vBad_one]
    rcases hr.out with ⟨h, _, _, h7⟩ | ⟨h, _, _, h0⟩
    · rw [h, h7]; rfl
    · rw [h, h0]; rfl
  rintro e w1 ⟨rfl, Q1⟩
  replace Q1 := ((Q.refl W).alloc _).trans Q1
  replace B4 := B4.mono Q1
  replace B6 := B6.mono Q1
  replace QC := QC.trans Q1
  clear Q1 z6 k60 k61 f60 f61
  generalize W.heap.size = gs at *
  obtain ⟨z6, k60, k61, f60, f61⟩ := id B6
  obtain ⟨z4, k40, k41, f40, f41⟩ := id B4
  have QS := (QC.setCell (p := ⟨w.heap.size, 0, none⟩) (by simp) (.int .i64 A)).setCell (p := ⟨w.heap.size, 1, none⟩) (by simp) (.int .i64 B)
  have S4 := B4.store A B
  rcases hr.out with ⟨_, rfl, rfl, rfl⟩ | ⟨_, rfl, rfl, rfl⟩
  · clear hr B4 B6
    go_wp2_with fail
    obtain ⟨_, s40, s41, _, _⟩ := S4
    exact bodyPost_ret (v := .tuple #[encl 0 0, .int .i64 7]) (by simp [results, Tryd.results63, go_sem, s40, s41]) rfl ⟨rfl, QS⟩
  · clear hr B4 B6
    go_wp2_with fail
    obtain ⟨_, s40, s41, _, _⟩ := S4
    exact bodyPost_ret (v := .tuple #[encl A B, .int .i64 0]) (by simp [results, Tryd.results63, go_sem, s40, s41]) rfl ⟨rfl, QS⟩

end Go.Proofs.YtjbhnjnlpekpoaaDoor
