/-
  The reference's numbers of six parts: minus and times.
-/
import Derived.Test.YtjbhnjnlpekpoaaDoorRefA
namespace Go.Proofs.YtjbhnjnlpekpoaaDoor
open Go.RowKit Go.Sort
set_option linter.unusedVariables false

/-- minus, from part i on -/
def minL (h : Nat → Int) : Nat → (Nat → Int) → (Nat → Int)
  | 0, f => upd f 0 (f 0 - h 0)
  | i + 1, f => if f (i + 1) - h (i + 1) < 0 then minL h i (upd (upd (upd f (i + 1) (f (i + 1) - h (i + 1))) (i + 1) (f (i + 1) - h (i + 1) + 1000000000)) i (f i - 1)) else minL h i (upd f (i + 1) (f (i + 1) - h (i + 1)))
theorem minL_pos (h : Nat → Int) (i : Nat) (f : Nat → Int) (hi : 0 < i) : minL h i f = if f i - h i < 0 then minL h (i - 1) (upd (upd (upd f i (f i - h i)) i (f i - h i + 1000000000)) (i - 1) (f (i - 1) - 1)) else minL h (i - 1) (upd f i (f i - h i)) := by
  obtain ⟨j, rfl⟩ : ∃ j, i = j + 1 := ⟨i - 1, by omega⟩
  rfl

/-- the parts up to i are digits, but that the last one may be one less -/
def Near1 (i : Nat) (f : Nat → Int) : Prop := (∀ k, k < i → 0 ≤ f k ∧ f k < 1000000000) ∧ -1 ≤ f i ∧ f i < 1000000000
def MInv (w : World) (h r : Nat → Int) (vi : Value) (wr : World) : Prop :=
  ∃ (i : Nat) (f' : Nat → Int), i ≤ 5 ∧ vi = .int .i64 i ∧ Hid (r = minL h i f') ∧ Hid (Near1 i f') ∧ Row wr w.heap.size 6 f' ∧ Row wr (w.heap.size + 1) 6 h ∧ Row wr (w.heap.size + 1 + 1) 6 (fun _ => 0) ∧ Q w wr

set_option maxRecDepth 100000 in
set_option maxHeartbeats 2000000 in
theorem minus_any (f h : Nat → Int) (w : World) (hf : Hid (Dig f)) (hh : Hid (Dig h)) :
    Calls Tryd.prog 107 #[arr f, arr h] w fun e w' => e = .returned (arr (minL h 5 f)) ∧ Q w w' := by
  generalize hr : minL h 5 f = r
  have HR := Lib.hid hr.symm
  clear hr
  go_enter Tryd.func107, Tryd.ntmps107
  go_wp2_with fail
  go_loopw [5] (fun vi wr => MInv w h r vi wr) (fun vi _ => (intOf vi).toNat)
  case atStart =>
    refine ⟨5, f, by omega, rfl, HR, ⟨fun k hk => hf.out k (by omega), by have := hf.out 5 (by omega); omega⟩, ?_, ?_, ?_, ?_⟩
    · exact ((Row.new6 w f _).alloc _).alloc _
    · exact (Row.new6At (by simp)).alloc _
    · exact Row.new6At (f := fun _ => 0) (by simp)
    · exact (((Q.refl w).alloc _).alloc _).alloc _
  case round =>
    obtain ⟨i, f', hi, rfl, HR', HD, R2, R3, R4, Q1⟩ := hrel
    clear HR hf
    have d1 := HD.out.2
    have d2 := hh.out i (by omega)
    have y0 := R2.c i (by omega)
    have z0 := R3.c i (by omega)
    have fz0 := R2.fz i (by omega)
    have b1 : (i : Int) < 6 := by omega
    have b2 : 0 ≤ (i : Int) := by omega
    have b3 : ((i : Int)).toNat = i := by omega
    by_cases h0 : i = 0
    · subst h0
      have er : r = upd f' 0 (f' 0 - h 0) := HR'.out
      have ER := Lib.hid er
      clear er HR' HD hh
      go_upto_region 8 with fail
      replace R4 := R4.apart (g' := w.heap.size) (o := 0) (by omega) (.int .i64 (f' 0 - h 0))
      replace R2 := R2.set 0 (f' 0 - h 0) (by omega)
      replace Q1 := Q1.setCell (p := ⟨w.heap.size, 0, none⟩) (Nat.le_refl _) (.int .i64 (f' 0 - h 0))
      clear y0 z0 fz0 d1 d2 R3 b1 b2 b3
      generalize wr.setCell ⟨w.heap.size, 0, none⟩ (.int .i64 (f' 0 - h 0)) = W1 at *
      generalize upd f' 0 (f' 0 - h 0) = F at *
      obtain ⟨⟨x0, x1, x2, x3, x4, x5⟩, _⟩ := R2.all6
      obtain ⟨⟨y0, y1, y2, y3, y4, y5⟩, n0, n1, n2, n3, n4, n5⟩ := R4.all6
      have RR := R4.store6 F
      replace Q1 := Q1.store6 (g := w.heap.size + 1 + 1) (by omega) (.int .i64 (F 0)) (.int .i64 (F 1)) (.int .i64 (F 2)) (.int .i64 (F 3)) (.int .i64 (F 4)) (.int .i64 (F 5))
      clear R2 R4
      go_wp2_with fail
      generalize ((((((W1.setCell ⟨w.heap.size + 1 + 1, 0, none⟩ (.int .i64 (F 0))).setCell ⟨w.heap.size + 1 + 1, 1, none⟩ (.int .i64 (F 1))).setCell ⟨w.heap.size + 1 + 1, 2, none⟩ (.int .i64 (F 2))).setCell ⟨w.heap.size + 1 + 1, 3, none⟩ (.int .i64 (F 3))).setCell ⟨w.heap.size + 1 + 1, 4, none⟩ (.int .i64 (F 4))).setCell ⟨w.heap.size + 1 + 1, 5, none⟩ (.int .i64 (F 5))) = W2 at *
      obtain ⟨⟨r0, r1, r2, r3, r4, r5⟩, _⟩ := RR.all6
      exact bodyPost_ret (v := arr F) (by simp [results, Tryd.results107, go_sem, r0, r1, r2, r3, r4, r5]) rfl ⟨by rw [ER.out], Q1⟩
    · have hp : 0 < i := by omega
      have b4 : 0 < (i : Int) := by omega
      have er := HR'.out
      rw [minL_pos h i f' hp] at er
      have ER := Lib.hid er
      clear er HR' h0
      go_wp2_with fail
      have e1 : IntKind.i64.wrap (f' i - h i) = f' i - h i := IntWalk.i64_in _ (by omega)
      go_region
      clear e1
      have t1 : -1000000000 ≤ f' i - h i ∧ f' i - h i < 1000000000 := by omega
      replace R2 := (R2.set i (f' i - h i) (by omega)).drew
      replace R3 := (R3.apart (g' := w.heap.size) (o := i) (by omega) (.int .i64 (f' i - h i))).drew
      replace R4 := (R4.apart (g' := w.heap.size) (o := i) (by omega) (.int .i64 (f' i - h i))).drew
      replace Q1 := (Q1.setCell (p := ⟨w.heap.size, i, none⟩) (Nat.le_refl _) (.int .i64 (f' i - h i))).drew
      clear y0 z0 fz0
      generalize (wr.setCell ⟨w.heap.size, i, none⟩ (.int .i64 (f' i - h i))).drew = W1 at *
      generalize ht : f' i - h i = t at *
      have y0 := R2.c i (by omega)
      have fz0 := R2.fz i (by omega)
      rw [upd_same] at y0
      by_cases hneg : t < 0
      · have y1 := R2.c (i - 1) (by omega)
        have fz1 := R2.fz (i - 1) (by omega)
        rw [upd_other _ _ (by omega)] at y1
        have d3 := HD.out.1 (i - 1) (by omega)
        have c1 : 0 ≤ (i : Int) - 1 := by omega
        have c2 : (i : Int) - 1 < 6 := by omega
        have c3 : ((i : Int) - 1).toNat = i - 1 := by omega
        have c4 : i ≠ i - 1 := by omega
        have c5 : i - 1 ≠ i := by omega
        have er := ER.out
        rw [if_pos hneg] at er
        clear ER
        have ER := Lib.hid er
        have HT := Lib.hid ht
        clear er ht
        go_wp2_with fail
        have e1 : IntKind.i64.wrap (t + 1000000000) = t + 1000000000 := IntWalk.i64_in _ (by omega)
        have e2 : IntKind.i64.wrap (f' (i - 1) - 1) = f' (i - 1) - 1 := IntWalk.i64_in _ (by omega)
        have e3 : IntKind.i64.wrap ((i : Int) - 1) = (i : Int) - 1 := IntWalk.i64_in _ (by omega)
        go_region
        all_goals
          clear e1 e2 e3
          go_wp2_with fail
        case roundEnd =>
          refine ⟨⟨i - 1, _, by omega, int_pred hp, ER, ⟨fun k hk => ?_, ?_⟩, ((R2.set i _ (by omega)).set (i - 1) _ (by omega)).drew, ((R3.apart (by omega) _).apart (by omega) _).drew, ((R4.apart (by omega) _).apart (by omega) _).drew, ((Q1.setCell (p := ⟨w.heap.size, i, none⟩) (Nat.le_refl _) _).setCell (p := ⟨w.heap.size, i - 1, none⟩) (Nat.le_refl _) _).drew⟩, by simp [intOf]; omega⟩
          · rw [upd_other _ _ (by omega), upd_other _ _ (by omega), upd_other _ _ (by omega)]; exact HD.out.1 k (by omega)
          · rw [upd_same]; omega
      · have er := ER.out
        rw [if_neg hneg] at er
        clear ER
        have ER := Lib.hid er
        have HT := Lib.hid ht
        clear er ht
        go_wp2_with fail
        case roundEnd =>
          exact ⟨⟨i - 1, _, by omega, int_pred hp, ER, ⟨fun k hk => by rw [upd_other _ _ (by omega)]; exact HD.out.1 k (by omega), by rw [upd_other _ _ (by omega)]; have := HD.out.1 (i - 1) (by omega); omega⟩, R2, R3, R4, Q1⟩, by simp [intOf]; omega⟩

/-- the products: m parts of y are left -/
def accK (x y : Nat → Int) (i : Nat) : Nat → (Nat → Int) → (Nat → Int)
  | 0, f => f
  | m + 1, f => accK x y i m (upd f (i + (5 - m)) (f (i + (5 - m)) + x i * y (5 - m)))
theorem accK_at (x y : Nat → Int) (i k : Nat) (f : Nat → Int) (hk : k < 6) : accK x y i (6 - k) f = accK x y i (6 - (k + 1)) (upd f (i + k) (f (i + k) + x i * y k)) := by
  have e : 6 - k = (6 - (k + 1)) + 1 := by omega
  rw [e]
  show accK x y i (6 - (k + 1)) _ = _
  rw [show 5 - (6 - (k + 1)) = k by omega]
def accI (x y : Nat → Int) : Nat → (Nat → Int) → (Nat → Int)
  | 0, f => f
  | m + 1, f => accI x y m (accK x y (5 - m) 6 f)
theorem accI_at (x y : Nat → Int) (i : Nat) (f : Nat → Int) (hi : i < 6) : accI x y (6 - i) f = accI x y (6 - (i + 1)) (accK x y i 6 f) := by
  have e : 6 - i = (6 - (i + 1)) + 1 := by omega
  rw [e]
  show accI x y (6 - (i + 1)) _ = _
  rw [show 5 - (6 - (i + 1)) = i by omega]
/-- the carries, from part i on -/
def carL : Nat → (Nat → Int) → (Nat → Int)
  | 0, f => f
  | i + 1, f => carL i (upd (upd f i (f i + f (i + 1) / 1000000000)) (i + 1) (f (i + 1) % 1000000000))
theorem carL_pos (i : Nat) (f : Nat → Int) (hi : 0 < i) : carL i f = carL (i - 1) (upd (upd f (i - 1) (f (i - 1) + f i / 1000000000)) i (f i % 1000000000)) := by
  obtain ⟨j, rfl⟩ : ∃ j, i = j + 1 := ⟨i - 1, by omega⟩
  rfl

def MM : Int := 999999998000000001
/-- no part is too great after i rounds, and k of the next one -/
def Acc (i k : Nat) (f : Nat → Int) : Prop := ∀ j, j < 12 → 0 ≤ f j ∧ (i ≤ j → j < i + k → f j ≤ ((i : Int) + 1) * MM) ∧ (j < i ∨ i + k ≤ j → f j ≤ (i : Int) * MM)
def Car (i : Nat) (f : Nat → Int) : Prop := (∀ j, j < i → 0 ≤ f j ∧ f j ≤ 6 * MM) ∧ 0 ≤ f i ∧ f i ≤ 6 * MM + 7000000000

def TI (w : World) (x y r : Nat → Int) (vi : Value) (wr : World) : Prop :=
  ∃ (i : Nat) (f' : Nat → Int), i ≤ 6 ∧ vi = .int .i64 i ∧ Hid (r = carL 11 (accI x y (6 - i) f')) ∧ Hid (Acc i 0 f') ∧ Row wr w.heap.size 6 x ∧ Row wr (w.heap.size + 1) 6 y ∧ Row wr (w.heap.size + 1 + 1) 6 (fun _ => 0) ∧ Row wr (w.heap.size + 1 + 1 + 1) 12 f' ∧ Q w wr
def TK (w : World) (x y r : Nat → Int) (i : Nat) (vk : Value) (wr : World) : Prop :=
  ∃ (k : Nat) (f' : Nat → Int), k ≤ 6 ∧ vk = .int .i64 k ∧ Hid (r = carL 11 (accI x y (6 - (i + 1)) (accK x y i (6 - k) f'))) ∧ Hid (Acc i k f') ∧ Row wr w.heap.size 6 x ∧ Row wr (w.heap.size + 1) 6 y ∧ Row wr (w.heap.size + 1 + 1) 6 (fun _ => 0) ∧ Row wr (w.heap.size + 1 + 1 + 1) 12 f' ∧ Q w wr
def TC (w : World) (r : Nat → Int) (vi : Value) (wr : World) : Prop :=
  ∃ (i : Nat) (f' : Nat → Int), i ≤ 11 ∧ vi = .int .i64 i ∧ Hid (r = carL i f') ∧ Hid (Car i f') ∧ Row wr (w.heap.size + 1 + 1) 6 (fun _ => 0) ∧ Row wr (w.heap.size + 1 + 1 + 1) 12 f' ∧ Q w wr

theorem Row.new12 {W : World} {g : Nat} {t : TypeId} (h : g = W.heap.size) : Row (W.alloc (.cells #[.int .i64 0, .int .i64 0, .int .i64 0, .int .i64 0, .int .i64 0, .int .i64 0, .int .i64 0, .int .i64 0, .int .i64 0, .int .i64 0, .int .i64 0, .int .i64 0] t)) g 12 (fun _ => 0) := by
  subst h
  refine ⟨by simp, fun k hk => ?_, fun k hk => ?_⟩
  · match k, hk with
    | 0, _ | 1, _ | 2, _ | 3, _ | 4, _ | 5, _ | 6, _ | 7, _ | 8, _ | 9, _ | 10, _ | 11, _ => simp [go_sem]
  · match k, hk with
    | 0, _ | 1, _ | 2, _ | 3, _ | 4, _ | 5, _ | 6, _ | 7, _ | 8, _ | 9, _ | 10, _ | 11, _ => simp [go_sem]

set_option maxRecDepth 100000 in
set_option maxHeartbeats 2000000 in
theorem times_any (x y : Nat → Int) (w : World) (hf : Hid (Dig x)) (hh : Hid (Dig y)) :
    Calls Tryd.prog 105 #[arr x, arr y] w fun e w' => e = .returned (arr (carL 11 (accI x y 6 (fun _ => 0)))) ∧ Q w w' := by
  generalize hr : carL 11 (accI x y 6 (fun _ => 0)) = r
  have HR := Lib.hid hr.symm
  clear hr
  go_enter Tryd.func105, Tryd.ntmps105
  go_wp2_with fail
  go_loopw [6] (fun vi wr => TI w x y r vi wr) (fun vi _ => 6 - (intOf vi).toNat)
  case atStart =>
    refine ⟨0, fun _ => 0, by omega, rfl, HR, fun j hj => by simp [MM], ?_, ?_, ?_, ?_, ?_⟩
    · exact (((Row.new6 w x _).alloc _).alloc _).alloc _
    · exact ((Row.new6At (by simp)).alloc _).alloc _
    · exact (Row.new6At (f := fun _ => 0) (by simp)).alloc _
    · exact Row.new12 (by simp)
    · exact ((((Q.refl w).alloc _).alloc _).alloc _).alloc _
  case round =>
    obtain ⟨i, f', hi, rfl, HR', HA, RX, RY, R4, R5, Q1⟩ := hrel
    clear HR
    have b2 : 0 ≤ (i : Int) := by omega
    have b3 : ((i : Int)).toNat = i := by omega
    by_cases h6 : i = 6
    · subst h6
      have er : r = carL 11 f' := HR'.out
      have ER := Lib.hid er
      have HC : Hid (Car 11 f') := ⟨fun j hj => by have := HA.out j (by omega); unfold MM at *; omega, by have := HA.out 11 (by omega); unfold MM at *; omega⟩
      clear er HR' HA RX RY hf hh
      go_wp2_with fail
      go_loopw [8] (fun vi wr => TC w r vi wr) (fun vi _ => (intOf vi).toNat)
      case atStart => exact ⟨11, f', by omega, rfl, ER, HC, R4, R5, Q1⟩
      case round =>
        clear R4 R5 Q1 ER HC
        obtain ⟨i, f', hi, rfl, HR', HC, R4, R5, Q1⟩ := hrel
        have b2 : 0 ≤ (i : Int) := by omega
        have b3 : ((i : Int)).toNat = i := by omega
        by_cases h0 : i = 0
        · subst h0
          have er : r = f' := HR'.out
          have ER := Lib.hid er
          clear er HR' HC
          have x0 := R5.c 0 (by omega)
          have x1 := R5.c 1 (by omega)
          have x2 := R5.c 2 (by omega)
          have x3 := R5.c 3 (by omega)
          have x4 := R5.c 4 (by omega)
          have x5 := R5.c 5 (by omega)
          obtain ⟨⟨y0, y1, y2, y3, y4, y5⟩, n0, n1, n2, n3, n4, n5⟩ := R4.all6
          have RR := R4.store6 f'
          replace Q1 := Q1.store6 (g := w.heap.size + 1 + 1) (by omega) (.int .i64 (f' 0)) (.int .i64 (f' 1)) (.int .i64 (f' 2)) (.int .i64 (f' 3)) (.int .i64 (f' 4)) (.int .i64 (f' 5))
          clear R4 R5
          go_wp2_with fail
          generalize ((((((wr.setCell ⟨w.heap.size + 1 + 1, 0, none⟩ (.int .i64 (f' 0))).setCell ⟨w.heap.size + 1 + 1, 1, none⟩ (.int .i64 (f' 1))).setCell ⟨w.heap.size + 1 + 1, 2, none⟩ (.int .i64 (f' 2))).setCell ⟨w.heap.size + 1 + 1, 3, none⟩ (.int .i64 (f' 3))).setCell ⟨w.heap.size + 1 + 1, 4, none⟩ (.int .i64 (f' 4))).setCell ⟨w.heap.size + 1 + 1, 5, none⟩ (.int .i64 (f' 5))) = W2 at *
          obtain ⟨⟨r0, r1, r2, r3, r4, r5⟩, _⟩ := RR.all6
          exact bodyPost_ret (v := arr f') (by simp [results, Tryd.results105, go_sem, r0, r1, r2, r3, r4, r5]) rfl ⟨by rw [ER.out], Q1⟩
        · have hp : 0 < i := by omega
          have b1 : (i : Int) < 12 := by omega
          have b4 : 0 < (i : Int) := by omega
          have er := HR'.out
          rw [carL_pos i f' hp] at er
          have ER := Lib.hid er
          clear er HR' h0
          have y0 := R5.c i (by omega)
          have fz0 := R5.fz i (by omega)
          have y1 := R5.c (i - 1) (by omega)
          have fz1 := R5.fz (i - 1) (by omega)
          have d1 := HC.out.2
          have d2 := HC.out.1 (i - 1) (by omega)
          unfold MM at d1 d2
          have c1 : 0 ≤ (i : Int) - 1 := by omega
          have c2 : (i : Int) - 1 < 12 := by omega
          have c3 : ((i : Int) - 1).toNat = i - 1 := by omega
          have c4 : i ≠ i - 1 := by omega
          have c5 : i - 1 ≠ i := by omega
          go_wp2_with fail
          have e1 : IntKind.i64.wrap (f' (i - 1) + f' i / 1000000000) = f' (i - 1) + f' i / 1000000000 := IntWalk.i64_in _ (by omega)
          have e2 : IntKind.i64.wrap ((i : Int) - 1) = (i : Int) - 1 := IntWalk.i64_in _ (by omega)
          go_region
          all_goals
            clear e1 e2
            go_wp2_with fail
          case roundEnd =>
            refine ⟨⟨i - 1, _, by omega, int_pred hp, ER, ⟨fun j hj => ?_, ?_⟩, ((R4.apart (by omega) _).apart (by omega) _).drew, ((R5.set (i - 1) _ (by omega)).set i _ (by omega)).drew, ((Q1.setCell (p := ⟨w.heap.size + 1 + 1 + 1, i - 1, none⟩) (by simp; omega) _).setCell (p := ⟨w.heap.size + 1 + 1 + 1, i, none⟩) (by simp; omega) _).drew⟩, by simp [intOf]; omega⟩
            · rw [upd_other _ _ (by omega), upd_other _ _ (by omega)]; exact HC.out.1 j (by omega)
            · rw [upd_other _ _ (by omega), upd_same]; unfold MM; omega
    · have hlt : i < 6 := by omega
      have b1 : (i : Int) < 6 := by omega
      obtain ⟨wo, rfl⟩ : ∃ wo : World, wo = wr := ⟨_, rfl⟩
      have er := HR'.out
      rw [accI_at x y i f' hlt] at er
      have ER := Lib.hid er
      clear er HR' h6
      go_wp2_with fail
      go_loopw [7] (fun vk wr => TK w x y r i vk wr) (fun vk _ => 6 - (intOf vk).toNat)
      case atStart => exact ⟨0, f', by omega, rfl, ER, HA, RX, RY, R4, R5, Q1⟩
      case round =>
        clear ER HA RX RY R4 R5 Q1
        obtain ⟨k, f', hk, rfl, HR', HA, RX, RY, R4, R5, Q1⟩ := hrel
        have k2 : 0 ≤ (k : Int) := by omega
        have k3 : ((k : Int)).toNat = k := by omega
        by_cases h6 : k = 6
        · subst h6
          have er := HR'.out
          have ER := Lib.hid er
          clear er HR'
          go_wp2_with fail
          case roundEnd =>
            refine ⟨⟨i + 1, f', by omega, by go_num, ER.out, fun j hj => ?_, RX, RY, R4, R5, Q1⟩, by simp [intOf]; omega⟩
            have := HA.out j hj
            unfold MM at *
            omega
        · have hk6 : k < 6 := by omega
          have k1 : (k : Int) < 6 := by omega
          have er := HR'.out
          rw [accK_at x y i k f' hk6] at er
          have ER := Lib.hid er
          clear er HR' h6
          have dx := hf.out i hlt
          have dy := hh.out k hk6
          have pb := prod_bd dx.1 dx.2 dy.1 dy.2
          have da := HA.out (i + k) (by omega)
          unfold MM at da
          have x0 := RX.c i hlt
          have y0 := RY.c k hk6
          have a0 := R5.c (i + k) (by omega)
          have fz0 := R5.fz (i + k) (by omega)
          have i1 : 0 ≤ (i : Int) + k := by omega
          have i2 : (i : Int) + k < 12 := by omega
          have i3 : ((i : Int) + k).toNat = i + k := by omega
          generalize hq : x i * y k = p at *
          have e1 : wrap64 (x i * y k) = p := by rw [hq]; exact IntWalk.wrap64_in _ (by omega)
          have e2 : IntKind.i64.wrap (x i * y k) = p := by rw [hq]; exact IntWalk.i64_in _ (by omega)
          have e3 : IntKind.i64.wrap ((i : Int) + k) = (i : Int) + k := IntWalk.i64_in _ (by omega)
          have e4 : IntKind.i64.wrap (f' (i + k) + p) = f' (i + k) + p := IntWalk.i64_in _ (by omega)
          clear hq
          go_wp2_with fail
          go_region
          all_goals
            clear e1 e2 e3 e4
            go_wp2_with fail
          case roundEnd =>
            refine ⟨⟨k + 1, _, by omega, by go_num, ER, fun j hj => ?_, (RX.apart (by omega) _).drew, (RY.apart (by omega) _).drew, (R4.apart (by omega) _).drew, (R5.set (i + k) _ (by omega)).drew, (Q1.setCell (p := ⟨w.heap.size + 1 + 1 + 1, i + k, none⟩) (by simp; omega) _).drew⟩, by simp [intOf]; omega⟩
            have hj' := HA.out j hj
            by_cases ej : j = i + k
            · subst ej; rw [upd_same]; unfold MM at *; omega
            · rw [upd_other _ _ ej]; unfold MM at *; omega

end Go.Proofs.YtjbhnjnlpekpoaaDoor
