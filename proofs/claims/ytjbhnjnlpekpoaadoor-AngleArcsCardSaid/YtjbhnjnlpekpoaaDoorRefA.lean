/-
  The reference's numbers of six parts: what the calls of pi, plus, minus, times, scaled return.
-/
import Derived.Test.YtjbhnjnlpekpoaaDoorAngJ
namespace Go.Proofs.YtjbhnjnlpekpoaaDoor
open Go.RowKit Go.Sort
set_option linter.unusedVariables false

/-- six parts, as a value -/
abbrev arr (f : Nat → Int) : Value := .agg #[.int .i64 (f 0), .int .i64 (f 1), .int .i64 (f 2), .int .i64 (f 3), .int .i64 (f 4), .int .i64 (f 5)]

def upd (f : Nat → Int) (k : Nat) (v : Int) : Nat → Int := fun j => if j = k then v else f j
theorem upd_same (f : Nat → Int) (k : Nat) (v : Int) : upd f k v k = v := by simp [upd]
theorem upd_other (f : Nat → Int) {k j : Nat} (v : Int) (h : j ≠ k) : upd f k v j = f j := by simp [upd, h]

/-- a block of n integers -/
structure Row (W : World) (g n : Nat) (f : Nat → Int) : Prop where
  lt : g < W.heap.size
  c : ∀ k, k < n → W.cell? ⟨g, k, none⟩ = some (.int .i64 (f k))
  fz : ∀ k, k < n → W.frozen? ⟨g, k, none⟩ = false

theorem Row.mono {W W' : World} {g n : Nat} {f : Nat → Int} (h : Row W g n f) (q : Q W W') : Row W' g n f :=
  ⟨Nat.lt_of_lt_of_le h.lt q.size, fun k hk => by rw [q.cell _ h.lt]; exact h.c k hk, fun k hk => by rw [q.frozen _ h.lt]; exact h.fz k hk⟩
theorem Row.drew {W : World} {g n : Nat} {f : Nat → Int} (h : Row W g n f) : Row W.drew g n f := h.mono (Q.refl W).drew
theorem Row.alloc {W : World} {g n : Nat} {f : Nat → Int} (h : Row W g n f) (o : Obj) : Row (W.alloc o) g n f := h.mono ((Q.refl W).alloc o)
theorem Row.apart {W : World} {g n g' o : Nat} {f : Nat → Int} (h : Row W g n f) (_ : g' ≠ g) (u : Value) : Row (W.setCell ⟨g', o, none⟩ u) g n f := by
  obtain ⟨lt, c, fz⟩ := h
  exact ⟨by simp [lt], fun k hk => by simp [go_sem, c k hk], fun k hk => by simp [go_sem, fz k hk]⟩
theorem Row.set {W : World} {g n : Nat} {f : Nat → Int} (h : Row W g n f) (i : Nat) (v : Int) (hi : i < n) : Row (W.setCell ⟨g, i, none⟩ (.int .i64 v)) g n (upd f i v) := by
  obtain ⟨lt, c, fz⟩ := h
  refine ⟨by simp [lt], fun k hk => ?_, fun k hk => ?_⟩
  · by_cases e : k = i
    · subst e; simp [go_sem, upd_same, c k hk]
    · rw [upd_other _ _ e]
      have : i ≠ k := fun x => e x.symm
      simp [go_sem, c k hk]
  · by_cases e : k = i
    · subst e; simp [go_sem, fz k hk]
    · have : i ≠ k := fun x => e x.symm
      simp [go_sem, fz k hk]
theorem Row.new6 (W : World) (f : Nat → Int) (t : TypeId) : Row (W.alloc (.cells #[.int .i64 (f 0), .int .i64 (f 1), .int .i64 (f 2), .int .i64 (f 3), .int .i64 (f 4), .int .i64 (f 5)] t)) W.heap.size 6 f := by
  refine ⟨by simp, fun k hk => ?_, fun k hk => ?_⟩
  · match k, hk with
    | 0, _ | 1, _ | 2, _ | 3, _ | 4, _ | 5, _ => simp [go_sem]
  · match k, hk with
    | 0, _ | 1, _ | 2, _ | 3, _ | 4, _ | 5, _ => simp [go_sem]
theorem Row.new6At {W : World} {g : Nat} {f : Nat → Int} {t : TypeId} (h : g = W.heap.size) : Row (W.alloc (.cells #[.int .i64 (f 0), .int .i64 (f 1), .int .i64 (f 2), .int .i64 (f 3), .int .i64 (f 4), .int .i64 (f 5)] t)) g 6 f := by
  subst h; exact Row.new6 W f t

theorem Row.store6 {W : World} {g : Nat} {f0 : Nat → Int} (h : Row W g 6 f0) (f : Nat → Int) :
    Row ((((((W.setCell ⟨g, 0, none⟩ (.int .i64 (f 0))).setCell ⟨g, 1, none⟩ (.int .i64 (f 1))).setCell ⟨g, 2, none⟩ (.int .i64 (f 2))).setCell ⟨g, 3, none⟩ (.int .i64 (f 3))).setCell ⟨g, 4, none⟩ (.int .i64 (f 4))).setCell ⟨g, 5, none⟩ (.int .i64 (f 5))) g 6 f := by
  have R := (((((h.set 0 (f 0) (by omega)).set 1 (f 1) (by omega)).set 2 (f 2) (by omega)).set 3 (f 3) (by omega)).set 4 (f 4) (by omega)).set 5 (f 5) (by omega)
  refine ⟨R.lt, fun k hk => ?_, R.fz⟩
  rw [R.c k hk]
  match k, hk with
  | 0, _ | 1, _ | 2, _ | 3, _ | 4, _ | 5, _ => simp [upd]
theorem Q.store6 {w W : World} {g : Nat} (h : Q w W) (hg : w.heap.size ≤ g) (v0 v1 v2 v3 v4 v5 : Value) :
    Q w ((((((W.setCell ⟨g, 0, none⟩ v0).setCell ⟨g, 1, none⟩ v1).setCell ⟨g, 2, none⟩ v2).setCell ⟨g, 3, none⟩ v3).setCell ⟨g, 4, none⟩ v4).setCell ⟨g, 5, none⟩ v5) :=
  ((((((h.setCell (p := ⟨g, 0, none⟩) hg v0).setCell (p := ⟨g, 1, none⟩) hg v1).setCell (p := ⟨g, 2, none⟩) hg v2).setCell (p := ⟨g, 3, none⟩) hg v3).setCell (p := ⟨g, 4, none⟩) hg v4).setCell (p := ⟨g, 5, none⟩) hg v5)
/-- all six cells at once, for the walk -/
theorem Row.all6 {W : World} {g : Nat} {f : Nat → Int} (h : Row W g 6 f) : (W.cell? ⟨g, 0, none⟩ = some (.int .i64 (f 0)) ∧ W.cell? ⟨g, 1, none⟩ = some (.int .i64 (f 1)) ∧ W.cell? ⟨g, 2, none⟩ = some (.int .i64 (f 2)) ∧ W.cell? ⟨g, 3, none⟩ = some (.int .i64 (f 3)) ∧ W.cell? ⟨g, 4, none⟩ = some (.int .i64 (f 4)) ∧ W.cell? ⟨g, 5, none⟩ = some (.int .i64 (f 5))) ∧
    (W.frozen? ⟨g, 0, none⟩ = false ∧ W.frozen? ⟨g, 1, none⟩ = false ∧ W.frozen? ⟨g, 2, none⟩ = false ∧ W.frozen? ⟨g, 3, none⟩ = false ∧ W.frozen? ⟨g, 4, none⟩ = false ∧ W.frozen? ⟨g, 5, none⟩ = false) :=
  ⟨⟨h.c 0 (by omega), h.c 1 (by omega), h.c 2 (by omega), h.c 3 (by omega), h.c 4 (by omega), h.c 5 (by omega)⟩, h.fz 0 (by omega), h.fz 1 (by omega), h.fz 2 (by omega), h.fz 3 (by omega), h.fz 4 (by omega), h.fz 5 (by omega)⟩

/-- each part is below a thousand millions -/
def Dig (f : Nat → Int) : Prop := ∀ k, k < 6 → 0 ≤ f k ∧ f k < 1000000000

theorem Dig.upd {f : Nat → Int} (h : Dig f) {i : Nat} {v : Int} (h0 : 0 ≤ v) (h1 : v < 1000000000) : Dig (upd f i v) := by
  intro k hk
  by_cases e : k = i
  · subst e; rw [upd_same]; exact ⟨h0, h1⟩
  · rw [upd_other _ _ e]; exact h k hk
theorem int_pred {i : Nat} (h : 0 < i) : Value.int .i64 ((i : Int) - 1) = Value.int .i64 ((i - 1 : Nat) : Int) := by
  rw [show ((i - 1 : Nat) : Int) = (i : Int) - 1 by omega]
theorem Row.drewN {W : World} {g n : Nat} {f : Nat → Int} (h : Row W g n f) (m : Nat) : Row (W.drewN m) g n f := h.mono ((Q.refl W).drewN m)

def piD : Nat → Int := fun k => [3, 141592653, 589793238, 462643383, 279502884, 197169399].getD k 0

theorem pi_any (w : World) : Calls Tryd.prog 104 #[] w fun e w' => e = .returned (arr piD) ∧ Q w w' := by
  go_enter Tryd.func104, Tryd.ntmps104
  go_wp2_with fail
  exact bodyPost_ret (v := arr piD) (by simp [results, Tryd.results104, go_sem, piD]) rfl ⟨rfl, by repeat (first | exact Q.refl _ | assumption | apply Q.alloc | (refine Q.setCell ?_ (by simp) _))⟩

/-- plus, from part i on -/
def plusL (h : Nat → Int) : Nat → (Nat → Int) → Int → (Nat → Int)
  | 0, f, c => upd f 0 (f 0 + h 0 + c)
  | i + 1, f, c => plusL h i (upd f (i + 1) ((f (i + 1) + h (i + 1) + c) % 1000000000)) ((f (i + 1) + h (i + 1) + c) / 1000000000)

theorem plusL_pos (h : Nat → Int) (i : Nat) (f : Nat → Int) (c : Int) (hi : 0 < i) : plusL h i f c = plusL h (i - 1) (upd f i ((f i + h i + c) % 1000000000)) ((f i + h i + c) / 1000000000) := by
  obtain ⟨j, rfl⟩ : ∃ j, i = j + 1 := ⟨i - 1, by omega⟩
  rfl

def PInv (w : World) (f h r : Nat → Int) (vi vc : Value) (wr : World) : Prop :=
  ∃ (i : Nat) (c : Int) (f' : Nat → Int), i ≤ 5 ∧ 0 ≤ c ∧ c ≤ 1 ∧ vi = .int .i64 i ∧ vc = .int .i64 c ∧ Hid (r = plusL h i f' c) ∧ Hid (Dig f') ∧ Row wr w.heap.size 6 f' ∧ Row wr (w.heap.size + 1) 6 h ∧ Row wr (w.heap.size + 1 + 1) 6 (fun _ => 0) ∧ Q w wr

set_option maxRecDepth 100000 in
set_option maxHeartbeats 1000000 in
theorem plus_any (f h : Nat → Int) (w : World) (hf : Hid (Dig f)) (hh : Hid (Dig h)) :
    Calls Tryd.prog 106 #[arr f, arr h] w fun e w' => e = .returned (arr (plusL h 5 f 0)) ∧ Q w w' := by
  generalize hr : plusL h 5 f 0 = r
  have HR := Lib.hid hr.symm
  clear hr
  go_enter Tryd.func106, Tryd.ntmps106
  go_wp2_with fail
  go_loopw [6, 5] (fun vi vc wr => PInv w f h r vi vc wr) (fun vi _ _ => (intOf vi).toNat)
  case atStart =>
    refine ⟨5, 0, f, by omega, by omega, by omega, rfl, rfl, HR, hf, ?_, ?_, ?_, ?_⟩
    · exact ((Row.new6 w f _).alloc _).alloc _
    · exact (Row.new6At (by simp)).alloc _
    · exact Row.new6At (f := fun _ => 0) (by simp)
    · exact (((Q.refl w).alloc _).alloc _).alloc _
  case round =>
    obtain ⟨i, c, f', hi, hc1, hc2, rfl, rfl, HR', HD, R2, R3, R4, Q1⟩ := hrel
    by_cases h0 : i = 0
    · subst h0
      clear HR
      have y0 := R2.c 0 (by omega)
      have z0 := R3.c 0 (by omega)
      have fz0 := R2.fz 0 (by omega)
      have d1 := HD.out 0 (by omega)
      have d2 := hh.out 0 (by omega)
      have er : r = upd f' 0 (f' 0 + h 0 + c) := HR'.out
      have ER := Lib.hid er
      clear er HR' HD hf hh
      go_upto_region 8 with fail
      replace R4 := R4.apart (g' := w.heap.size) (o := 0) (by omega) (.int .i64 (f' 0 + h 0 + c))
      replace R2 := R2.set 0 (f' 0 + h 0 + c) (by omega)
      replace Q1 := Q1.setCell (p := ⟨w.heap.size, 0, none⟩) (Nat.le_refl _) (.int .i64 (f' 0 + h 0 + c))
      clear y0 z0 fz0 d1 d2 R3
      generalize wr.setCell ⟨w.heap.size, 0, none⟩ (.int .i64 (f' 0 + h 0 + c)) = W1 at *
      generalize upd f' 0 (f' 0 + h 0 + c) = F at *
      obtain ⟨⟨x0, x1, x2, x3, x4, x5⟩, _⟩ := R2.all6
      obtain ⟨⟨y0, y1, y2, y3, y4, y5⟩, n0, n1, n2, n3, n4, n5⟩ := R4.all6
      have RR := R4.store6 F
      replace Q1 := Q1.store6 (g := w.heap.size + 1 + 1) (by omega) (.int .i64 (F 0)) (.int .i64 (F 1)) (.int .i64 (F 2)) (.int .i64 (F 3)) (.int .i64 (F 4)) (.int .i64 (F 5))
      clear R2 R4
      go_wp2_with fail
      generalize ((((((W1.setCell ⟨w.heap.size + 1 + 1, 0, none⟩ (.int .i64 (F 0))).setCell ⟨w.heap.size + 1 + 1, 1, none⟩ (.int .i64 (F 1))).setCell ⟨w.heap.size + 1 + 1, 2, none⟩ (.int .i64 (F 2))).setCell ⟨w.heap.size + 1 + 1, 3, none⟩ (.int .i64 (F 3))).setCell ⟨w.heap.size + 1 + 1, 4, none⟩ (.int .i64 (F 4))).setCell ⟨w.heap.size + 1 + 1, 5, none⟩ (.int .i64 (F 5))) = W2 at *
      obtain ⟨⟨r0, r1, r2, r3, r4, r5⟩, _⟩ := RR.all6
      exact bodyPost_ret (v := arr F) (by simp [results, Tryd.results106, go_sem, r0, r1, r2, r3, r4, r5]) rfl ⟨by rw [ER.out], Q1⟩
    · have hp : 0 < i := by omega
      have y0 := R2.c i (by omega)
      have z0 := R3.c i (by omega)
      have fz0 := R2.fz i (by omega)
      have d1 := HD.out i (by omega)
      have d2 := hh.out i (by omega)
      have b1 : (i : Int) < 6 := by omega
      have b2 : 0 ≤ (i : Int) := by omega
      have b3 : ((i : Int)).toNat = i := by omega
      have b4 : 0 < (i : Int) := by omega
      have er := HR'.out
      rw [plusL_pos h i f' c hp] at er
      have ER := Lib.hid er
      clear er HR' h0 HR
      go_wp2_with fail
      have e1 : IntKind.i64.wrap (f' i + h i) = f' i + h i := IntWalk.i64_in _ (by omega)
      have e2 : IntKind.i64.wrap (f' i + h i + c) = f' i + h i + c := IntWalk.i64_in _ (by omega)
      go_quiet (fail)
      clear e1 e2
      have n1 : 0 ≤ f' i + h i + c := by omega
      have n2 : f' i + h i + c < 2000000000 := by omega
      generalize hn : f' i + h i + c = n at *
      go_wp2_with fail
      case roundEnd =>
        refine ⟨⟨i - 1, n / 1000000000, _, by omega, by omega, by omega, int_pred hp, rfl, ER, HD.out.upd (by omega) (by omega), (R2.drewN nq).set i _ (by omega), (R3.drewN nq).apart (by omega) _, (R4.drewN nq).apart (by omega) _, (Q1.drewN nq).setCell (p := ⟨w.heap.size, i, none⟩) (Nat.le_refl _) _⟩, by simp [intOf]; omega⟩

/-- the first loop of scaled, from part i on -/
def mulL (n : Int) : Nat → (Nat → Int) → Int → (Nat → Int)
  | 0, f, c => upd f 0 (f 0 * n + c)
  | i + 1, f, c => mulL n i (upd f (i + 1) ((f (i + 1) * n + c) % 1000000000)) ((f (i + 1) * n + c) / 1000000000)
theorem mulL_pos (n : Int) (i : Nat) (f : Nat → Int) (c : Int) (hi : 0 < i) : mulL n i f c = mulL n (i - 1) (upd f i ((f i * n + c) % 1000000000)) ((f i * n + c) / 1000000000) := by
  obtain ⟨j, rfl⟩ : ∃ j, i = j + 1 := ⟨i - 1, by omega⟩
  rfl
/-- the second loop of scaled: m parts are left -/
def divL (d : Int) : Nat → (Nat → Int) → Int → (Nat → Int)
  | 0, f, _ => f
  | m + 1, f, r => divL d m (upd f (5 - m) ((r * 1000000000 + f (5 - m)) / d)) ((r * 1000000000 + f (5 - m)) % d)
theorem divL_at (d : Int) (i : Nat) (f : Nat → Int) (r : Int) (hi : i < 6) : divL d (6 - i) f r = divL d (6 - (i + 1)) (upd f i ((r * 1000000000 + f i) / d)) ((r * 1000000000 + f i) % d) := by
  have e : 6 - i = (6 - (i + 1)) + 1 := by omega
  rw [e]
  show divL d (6 - (i + 1)) _ _ = _
  rw [show 5 - (6 - (i + 1)) = i by omega]

def SInv (w : World) (n d : Int) (r : Nat → Int) (vi vc : Value) (wr : World) : Prop :=
  ∃ (i : Nat) (c : Int) (f' : Nat → Int), i ≤ 5 ∧ 0 ≤ c ∧ c < 1000000000 ∧ vi = .int .i64 i ∧ vc = .int .i64 c ∧ Hid (r = divL d 6 (mulL n i f' c) 0) ∧ Hid (Dig f') ∧ Row wr w.heap.size 6 f' ∧ Row wr (w.heap.size + 1) 6 (fun _ => 0) ∧ Q w wr
/-- not negative, not great, from part i on -/
def Big (i : Nat) (f : Nat → Int) : Prop := ∀ k, i ≤ k → k < 6 → 0 ≤ f k ∧ f k ≤ 1000000000000000000
theorem Big.next {f : Nat → Int} {i : Nat} (h : Big i f) (v : Int) : Big (i + 1) (upd f i v) := by
  intro k h1 h2
  rw [upd_other _ _ (by omega)]
  exact h k (by omega) h2
def DInv (w : World) (d : Int) (r : Nat → Int) (vi vc : Value) (wr : World) : Prop :=
  ∃ (i : Nat) (c : Int) (f' : Nat → Int), i ≤ 6 ∧ 0 ≤ c ∧ c < 1000000000 ∧ vi = .int .i64 i ∧ vc = .int .i64 c ∧ Hid (r = divL d (6 - i) f' c) ∧ Hid (Big i f') ∧ Row wr w.heap.size 6 f' ∧ Row wr (w.heap.size + 1) 6 (fun _ => 0) ∧ Q w wr

theorem prod_bd {x n : Int} (h0 : 0 ≤ x) (h1 : x < 1000000000) (h2 : 0 ≤ n) (h3 : n < 1000000000) : 0 ≤ x * n ∧ x * n ≤ 999999998000000001 := by
  constructor
  · exact Int.mul_nonneg h0 h2
  · have := Int.mul_le_mul (show x ≤ 999999999 by omega) (show n ≤ 999999999 by omega) h2 (by omega)
    omega

set_option maxRecDepth 100000 in
set_option maxHeartbeats 2000000 in
theorem scaled_any (f : Nat → Int) (n d : Int) (w : World) (hf : Hid (Dig f)) (hn0 : 0 ≤ n) (hn1 : n < 1000000000) (hd0 : 0 < d) (hd1 : d < 1000000000) :
    Calls Tryd.prog 103 #[arr f, .int .i64 n, .int .i64 d] w fun e w' => e = .returned (arr (divL d 6 (mulL n 5 f 0) 0)) ∧ Q w w' := by
  generalize hr : divL d 6 (mulL n 5 f 0) 0 = r
  have HR := Lib.hid hr.symm
  clear hr
  go_enter Tryd.func103, Tryd.ntmps103
  go_wp2_with fail
  go_loopw [8, 7] (fun vi vc wr => SInv w n d r vi vc wr) (fun vi _ _ => (intOf vi).toNat)
  case atStart =>
    refine ⟨5, 0, f, by omega, by omega, by omega, rfl, rfl, HR, hf, ?_, ?_, ?_⟩
    · exact (Row.new6 w f _).alloc _
    · exact Row.new6At (f := fun _ => 0) (by simp)
    · exact ((Q.refl w).alloc _).alloc _
  case round =>
    obtain ⟨i, c, f', hi, hc1, hc2, rfl, rfl, HR', HD, R2, R4, Q1⟩ := hrel
    clear HR hf
    have d1 := HD.out i (by omega)
    have pb := prod_bd d1.1 d1.2 hn0 hn1
    have y0 := R2.c i (by omega)
    have fz0 := R2.fz i (by omega)
    have b1 : (i : Int) < 6 := by omega
    have b2 : 0 ≤ (i : Int) := by omega
    have b3 : ((i : Int)).toNat = i := by omega
    by_cases h0 : i = 0
    · subst h0
      have er := HR'.out
      rw [show mulL n 0 f' c = upd f' 0 (f' 0 * n + c) from rfl] at er
      have ER := Lib.hid er
      have HB : Hid (Big 0 (upd f' 0 (f' 0 * n + c))) := fun k _ hk => by
        by_cases e : k = 0
        · subst e; rw [upd_same]; omega
        · rw [upd_other _ _ e]; have := HD.out k hk; omega
      clear er HR' HD d1
      generalize hq : f' 0 * n = p at *
      have e1 : wrap64 (f' 0 * n) = p := by rw [hq]; exact IntWalk.wrap64_in _ (by omega)
      have e2 : IntKind.i64.wrap (f' 0 * n) = p := by rw [hq]; exact IntWalk.i64_in _ (by omega)
      clear hq
      go_upto_region 8 with fail
      clear e1 e2 y0 fz0 b1 b2 b3 pb
      replace R2 := R2.set 0 (p + c) (by omega)
      replace R4 := R4.apart (g' := w.heap.size) (o := 0) (by omega) (.int .i64 (p + c))
      replace Q1 := Q1.setCell (p := ⟨w.heap.size, 0, none⟩) (Nat.le_refl _) (.int .i64 (p + c))
      generalize wr.setCell ⟨w.heap.size, 0, none⟩ (.int .i64 (p + c)) = W1 at *
      generalize upd f' 0 (p + c) = F at *
      go_wp2_with fail
      go_loopw [11, 10] (fun vi vc wr => DInv w d r vi vc wr) (fun vi _ _ => 6 - (intOf vi).toNat)
      case atStart => exact ⟨0, 0, F, by omega, by omega, by omega, rfl, rfl, ER, HB, R2, R4, Q1⟩
      case round =>
        clear R2 R4 Q1 HB ER
        obtain ⟨i, c, f', hi, hc1, hc2, rfl, rfl, HR', HB, R2, R4, Q1⟩ := hrel
        by_cases h6 : i = 6
        · subst h6
          have er : r = f' := HR'.out
          have ER := Lib.hid er
          clear er HR' HB
          obtain ⟨⟨x0, x1, x2, x3, x4, x5⟩, _⟩ := R2.all6
          obtain ⟨⟨y0, y1, y2, y3, y4, y5⟩, n0, n1, n2, n3, n4, n5⟩ := R4.all6
          have RR := R4.store6 f'
          replace Q1 := Q1.store6 (g := w.heap.size + 1) (by omega) (.int .i64 (f' 0)) (.int .i64 (f' 1)) (.int .i64 (f' 2)) (.int .i64 (f' 3)) (.int .i64 (f' 4)) (.int .i64 (f' 5))
          clear R2 R4
          go_wp2_with fail
          generalize ((((((wr.setCell ⟨w.heap.size + 1, 0, none⟩ (.int .i64 (f' 0))).setCell ⟨w.heap.size + 1, 1, none⟩ (.int .i64 (f' 1))).setCell ⟨w.heap.size + 1, 2, none⟩ (.int .i64 (f' 2))).setCell ⟨w.heap.size + 1, 3, none⟩ (.int .i64 (f' 3))).setCell ⟨w.heap.size + 1, 4, none⟩ (.int .i64 (f' 4))).setCell ⟨w.heap.size + 1, 5, none⟩ (.int .i64 (f' 5))) = W2 at *
          obtain ⟨⟨r0, r1, r2, r3, r4, r5⟩, _⟩ := RR.all6
          exact bodyPost_ret (v := arr f') (by simp [results, Tryd.results103, go_sem, r0, r1, r2, r3, r4, r5]) rfl ⟨by rw [ER.out], Q1⟩
        · have hlt : i < 6 := by omega
          have d1 := HB.out i (Nat.le_refl _) hlt
          have y0 := R2.c i hlt
          have fz0 := R2.fz i hlt
          have b1 : (i : Int) < 6 := by omega
          have b2 : 0 ≤ (i : Int) := by omega
          have b3 : ((i : Int)).toNat = i := by omega
          have er := HR'.out
          rw [divL_at d i f' c hlt] at er
          have ER := Lib.hid er
          clear er HR' h6
          go_wp2_with fail
          have m1 : 0 ≤ c * 1000000000 + f' i := by omega
          have m2 : c * 1000000000 + f' i ≤ 3000000000000000000 := by omega
          generalize c * 1000000000 + f' i = m at *
          have q0 : (d == 0) = false := by simp; omega
          have q1 := Int.ediv_nonneg m1 (Int.le_of_lt hd0)
          have q2 : m / d ≤ m := Int.ediv_le_self d m1
          have q3 := Int.emod_nonneg m (b := d) (by omega)
          have q4 := Int.emod_lt_of_pos m hd0
          have t1 : m.tdiv d = m / d := Int.tdiv_eq_ediv_of_nonneg m1
          have t2 : m.tmod d = m % d := Int.tmod_eq_emod_of_nonneg m1
          have e1 : wrap64 (m.tdiv d) = m / d := by rw [t1]; exact IntWalk.wrap64_in _ (by omega)
          have e2 : IntKind.i64.wrap (m.tdiv d) = m / d := by rw [t1]; exact IntWalk.i64_in _ (by omega)
          have e3 : wrap64 (m.tmod d) = m % d := by rw [t2]; exact IntWalk.wrap64_in _ (by omega)
          have e4 : IntKind.i64.wrap (m.tmod d) = m % d := by rw [t2]; exact IntWalk.i64_in _ (by omega)
          clear t1 t2
          go_region
          clear e1 e2 e3 e4
          go_wp2_with fail
          case roundEnd =>
            refine ⟨⟨i + 1, m % d, _, by omega, q3, by omega, by go_num, rfl, ER, HB.out.next _, (R2.set i _ (by omega)).drew, (R4.apart (by omega) _).drew, (Q1.setCell (p := ⟨w.heap.size, i, none⟩) (Nat.le_refl _) _).drew⟩, by simp [intOf]; omega⟩
    · have hp : 0 < i := by omega
      have b4 : 0 < (i : Int) := by omega
      have er := HR'.out
      rw [mulL_pos n i f' c hp] at er
      have ER := Lib.hid er
      clear er HR' h0 d1
      generalize hq : f' i * n = p at *
      have e1 : wrap64 (f' i * n) = p := by rw [hq]; exact IntWalk.wrap64_in _ (by omega)
      have e2 : IntKind.i64.wrap (f' i * n) = p := by rw [hq]; exact IntWalk.i64_in _ (by omega)
      clear hq
      go_wp2_with fail
      case roundEnd =>
        refine ⟨⟨i - 1, (p + c) / 1000000000, _, by omega, by omega, by omega, int_pred hp, rfl, ER, HD.out.upd (by omega) (by omega), R2.set i _ (by omega), R4.apart (by omega) _, Q1.setCell (p := ⟨w.heap.size, i, none⟩) (Nat.le_refl _) _⟩, by simp [intOf]; omega⟩

end Go.Proofs.YtjbhnjnlpekpoaaDoor
