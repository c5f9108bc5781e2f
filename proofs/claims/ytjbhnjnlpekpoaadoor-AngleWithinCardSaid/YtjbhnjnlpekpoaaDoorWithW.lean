/-
  The walk of AngleWithin.
-/
import Derived.Test.YtjbhnjnlpekpoaaDoorWithP
import Derived.Test.YtjbhnjnlpekpoaaDoorArcV
import Derived.Test.YtjbhnjnlpekpoaaDoorRootW
import Derived.Deep.RegionHeld3
import Derived.Deep.DeepCutAuto
namespace Go.Proofs.YtjbhnjnlpekpoaaDoor
open Go.RowKit Go.Sort
set_option linter.unusedVariables false

theorem run_min8 (ts : Array TypeId) (t : TypeId) (p q : Int) (w : World) : (Builtin.min_ ts t #[.int .u8 p, .int .u8 q]).run Tryd.prog w = .ok (.int .u8 (min p q)) w := by
  rw [← if_min p q]
  simp [Builtin.min_, Builtin.min2]
theorem run_max8 (ts : Array TypeId) (t : TypeId) (p q : Int) (w : World) : (Builtin.max_ ts t #[.int .u8 p, .int .u8 q]).run Tryd.prog w = .ok (.int .u8 (max p q)) w := by
  rw [← if_max p q]
  simp [Builtin.max_, Builtin.max2]

/-- a block of two bytes -/
structure HasB (W : World) (g : Nat) (x y : Int) : Prop where
  lt : g < W.heap.size
  c0 : W.cell? ⟨g, 0, none⟩ = some (.int .u8 x)
  c1 : W.cell? ⟨g, 1, none⟩ = some (.int .u8 y)
theorem HasB.newAt {W : World} {g : Nat} {x y : Int} {t : TypeId} (h : g = W.heap.size) : HasB (W.alloc (.cells #[.int .u8 x, .int .u8 y] t)) g x y := by
  subst h; exact ⟨by simp, by simp [go_sem], by simp [go_sem]⟩
theorem HasB.mono {W W' : World} {g : Nat} {x y : Int} (h : HasB W g x y) (q : Q W W') : HasB W' g x y :=
  ⟨Nat.lt_of_lt_of_le h.lt q.size, by rw [q.cell _ h.lt]; exact h.c0, by rw [q.cell _ h.lt]; exact h.c1⟩

/-- a row of functions -/
structure Funs (W : World) (g : Nat) (fs : Nat → FuncId) (n : Nat) : Prop where
  lt : g < W.heap.size
  c : ∀ k, k < n → W.cell? ⟨g, k, none⟩ = some (.func (.func (fs k)) #[] #[])
theorem Funs.mono {W W' : World} {g n : Nat} {fs : Nat → FuncId} (h : Funs W g fs n) (q : Q W W') : Funs W' g fs n :=
  ⟨Nat.lt_of_lt_of_le h.lt q.size, fun k hk => by rw [q.cell _ h.lt]; exact h.c k hk⟩

def ones : Nat → FuncId
  | 0 => 27
  | 1 => 29
  | 2 => 22
  | 3 => 23
  | _ => 40
def twos : Nat → FuncId
  | 0 => 34
  | 1 => 36
  | 2 => 32
  | _ => 33
theorem ones_enter (k : Nat) (args : Array Value) (w : World) : (callFunc (ones k) args).run Tryd.prog w = .ok (.enter (ones k) args) w := by
  match k with
  | 0 => exact enters_of Tryd.func27 (by kernel_rfl) rfl args w
  | 1 => exact enters_of Tryd.func29 (by kernel_rfl) rfl args w
  | 2 => exact enters_of Tryd.func22 (by kernel_rfl) rfl args w
  | 3 => exact enters_of Tryd.func23 (by kernel_rfl) rfl args w
  | _ + 4 => exact enters_of Tryd.func40 (by kernel_rfl) rfl args w
theorem twos_enter (k : Nat) (args : Array Value) (w : World) : (callFunc (twos k) args).run Tryd.prog w = .ok (.enter (twos k) args) w := by
  match k with
  | 0 => exact enters_of Tryd.func34 (by kernel_rfl) rfl args w
  | 1 => exact enters_of Tryd.func36 (by kernel_rfl) rfl args w
  | 2 => exact enters_of Tryd.func32 (by kernel_rfl) rfl args w
  | _ + 3 => exact enters_of Tryd.func33 (by kernel_rfl) rfl args w

abbrev C1 (f : FuncId) (x y lo hi er : Int) : Prop := ∀ w, Calls Tryd.prog f #[encl x y] w fun e w' => e = .returned (.tuple #[encl lo hi, .int .i64 er]) ∧ Q w w'
abbrev C2 (f : FuncId) (x y u v lo hi er : Int) : Prop := ∀ w, Calls Tryd.prog f #[encl x y, encl u v] w fun e w' => e = .returned (.tuple #[encl lo hi, .int .i64 er]) ∧ Q w w'

/-- what is asked of a function of one enclosure; of two -/
def Good1 (f : FuncId) (s0 s1 y0 y1 : Int) : Prop := ∃ P0 P1 pe R0 R1 re, Hid (C1 f s0 s1 P0 P1 pe) ∧ Hid (C1 f y0 y1 R0 R1 re) ∧ inn P0 P1 pe R0 R1 re
def Good2 (f : FuncId) (s0 s1 y0 y1 z0 z1 : Int) : Prop := (∃ P0 P1 pe R0 R1 re, Hid (C2 f s0 s1 z0 z1 P0 P1 pe) ∧ Hid (C2 f y0 y1 z0 z1 R0 R1 re) ∧ inn P0 P1 pe R0 R1 re) ∧ (∃ P0 P1 pe R0 R1 re, Hid (C2 f z0 z1 s0 s1 P0 P1 pe) ∧ Hid (C2 f z0 z1 y0 y1 R0 R1 re) ∧ inn P0 P1 pe R0 R1 re)

def WInv (n : Nat) (v3 : World) (i : Value) (wr : World) : Prop := ∃ k : Nat, k ≤ n ∧ i = .int .i64 k ∧ Q v3 wr

theorem Funs.ones_at {W : World} {g : Nat} {t : TypeId} (h : g = W.heap.size) : Funs (W.alloc (.cells #[.func (.func 27) #[] #[], .func (.func 29) #[] #[], .func (.func 22) #[] #[], .func (.func 23) #[] #[], .func (.func 40) #[] #[]] t)) g ones 5 := by
  subst h
  refine ⟨by simp, fun k hk => ?_⟩
  match k, hk with
  | 0, _ | 1, _ | 2, _ | 3, _ | 4, _ => simp [go_sem, ones]
theorem Funs.twos_at {W : World} {g : Nat} {t : TypeId} (h : g = W.heap.size) : Funs (W.alloc (.cells #[.func (.func 34) #[] #[], .func (.func 36) #[] #[], .func (.func 32) #[] #[], .func (.func 33) #[] #[]] t)) g twos 4 := by
  subst h
  refine ⟨by simp, fun k hk => ?_⟩
  match k, hk with
  | 0, _ | 1, _ | 2, _ | 3, _ => simp [go_sem, twos]

theorem keepE {W W' : World} {g l k : Nat} {a b : Int} {v : Value} (B : Has W g a b) (lf : l < W.heap.size) (cf : W.cell? ⟨l, k, none⟩ = some v) (q : Q W W') :
    Q W W' ∧ W'.cell? ⟨l, k, none⟩ = some v ∧ W'.cell? ⟨g, 0, none⟩ = some (.int .i64 a) ∧ W'.cell? ⟨g, 1, none⟩ = some (.int .i64 b) :=
  ⟨q, by rw [q.cell _ lf]; exact cf, (B.mono q).c0, (B.mono q).c1⟩
theorem keepF {W W' : World} {g h l k : Nat} {a b c d : Int} {v : Value} (B : Has W g a b) (C : Has W h c d) (lf : l < W.heap.size) (cf : W.cell? ⟨l, k, none⟩ = some v) (q : Q W W') :
    Q W W' ∧ W'.cell? ⟨l, k, none⟩ = some v ∧ W'.cell? ⟨g, 0, none⟩ = some (.int .i64 a) ∧ W'.cell? ⟨g, 1, none⟩ = some (.int .i64 b) ∧ W'.cell? ⟨h, 0, none⟩ = some (.int .i64 c) ∧ W'.cell? ⟨h, 1, none⟩ = some (.int .i64 d) :=
  ⟨q, by rw [q.cell _ lf]; exact cf, (B.mono q).c0, (B.mono q).c1, (C.mono q).c0, (C.mono q).c1⟩

/-- whatever a cell holds -/
def cv (w : World) (a : Addr) : Value := (w.cell? a).getD undef
theorem cv_of {w : World} {a : Addr} {v : Value} (h : w.cell? a = some v) : w.cell? a = some (cv w a) := by unfold cv; rw [h]; rfl

theorem keepG {v4 W W' : World} {g h l k s : Nat} {a b c d p0 p1 : Int} {v : Value} (Q0 : Q v4 W) (B : Has v4 g a b) (C : Has v4 h c d) (lf : l < v4.heap.size) (cf : v4.cell? ⟨l, k, none⟩ = some v) (S : Has W s p0 p1) (hs : v4.heap.size ≤ s) (q : Q W W') :
    Q v4 W' ∧ W'.cell? ⟨l, k, none⟩ = some v ∧ W'.cell? ⟨g, 0, none⟩ = some (.int .i64 a) ∧ W'.cell? ⟨g, 1, none⟩ = some (.int .i64 b) ∧ W'.cell? ⟨h, 0, none⟩ = some (.int .i64 c) ∧ W'.cell? ⟨h, 1, none⟩ = some (.int .i64 d) ∧ s < W'.heap.size ∧ W'.cell? ⟨s, 0, none⟩ = some (cv W' ⟨s, 0, none⟩) ∧ W'.cell? ⟨s, 1, none⟩ = some (cv W' ⟨s, 1, none⟩) ∧ W'.frozen? ⟨s, 0, none⟩ = false ∧ W'.frozen? ⟨s, 1, none⟩ = false :=
  have q' := Q0.trans q
  ⟨q', by rw [q'.cell _ lf]; exact cf, (B.mono q').c0, (B.mono q').c1, (C.mono q').c0, (C.mono q').c1, (S.mono q).lt, cv_of (S.mono q).c0, cv_of (S.mono q).c1, (S.mono q).f0, (S.mono q).f1⟩
theorem keepH {v4 W W' : World} {g h l k s : Nat} {a b c d p0 p1 : Int} {v : Value} (x y : Int) (Q0 : Q v4 W) (B : Has v4 g a b) (C : Has v4 h c d) (lf : l < v4.heap.size) (cf : v4.cell? ⟨l, k, none⟩ = some v) (S : Has W s p0 p1) (hs : v4.heap.size ≤ s) (q : Q W W') :
    Q v4 ((W'.setCell ⟨s, 0, none⟩ (.int .i64 x)).setCell ⟨s, 1, none⟩ (.int .i64 y)) ∧ ((W'.setCell ⟨s, 0, none⟩ (.int .i64 x)).setCell ⟨s, 1, none⟩ (.int .i64 y)).cell? ⟨l, k, none⟩ = some v ∧ ((W'.setCell ⟨s, 0, none⟩ (.int .i64 x)).setCell ⟨s, 1, none⟩ (.int .i64 y)).cell? ⟨g, 0, none⟩ = some (.int .i64 a) ∧ ((W'.setCell ⟨s, 0, none⟩ (.int .i64 x)).setCell ⟨s, 1, none⟩ (.int .i64 y)).cell? ⟨g, 1, none⟩ = some (.int .i64 b) ∧ ((W'.setCell ⟨s, 0, none⟩ (.int .i64 x)).setCell ⟨s, 1, none⟩ (.int .i64 y)).cell? ⟨h, 0, none⟩ = some (.int .i64 c) ∧ ((W'.setCell ⟨s, 0, none⟩ (.int .i64 x)).setCell ⟨s, 1, none⟩ (.int .i64 y)).cell? ⟨h, 1, none⟩ = some (.int .i64 d) ∧ s < ((W'.setCell ⟨s, 0, none⟩ (.int .i64 x)).setCell ⟨s, 1, none⟩ (.int .i64 y)).heap.size ∧ ((W'.setCell ⟨s, 0, none⟩ (.int .i64 x)).setCell ⟨s, 1, none⟩ (.int .i64 y)).cell? ⟨s, 0, none⟩ = some (cv ((W'.setCell ⟨s, 0, none⟩ (.int .i64 x)).setCell ⟨s, 1, none⟩ (.int .i64 y)) ⟨s, 0, none⟩) ∧ ((W'.setCell ⟨s, 0, none⟩ (.int .i64 x)).setCell ⟨s, 1, none⟩ (.int .i64 y)).cell? ⟨s, 1, none⟩ = some (cv ((W'.setCell ⟨s, 0, none⟩ (.int .i64 x)).setCell ⟨s, 1, none⟩ (.int .i64 y)) ⟨s, 1, none⟩) ∧ ((W'.setCell ⟨s, 0, none⟩ (.int .i64 x)).setCell ⟨s, 1, none⟩ (.int .i64 y)).frozen? ⟨s, 0, none⟩ = false ∧ ((W'.setCell ⟨s, 0, none⟩ (.int .i64 x)).setCell ⟨s, 1, none⟩ (.int .i64 y)).frozen? ⟨s, 1, none⟩ = false :=
  keepG (((Q0.trans q).setCell hs _).setCell hs _) B C lf cf ((S.mono q).store x y) hs (Q.refl _)

set_option maxRecDepth 100000 in
set_option maxHeartbeats 16000000 in
theorem with_in (y0 y1 z0 z1 p q pl ph s0 s1 : Int) (w : World) (T : Tables w) (hy : -3600000000 ≤ y0 ∧ y1 ≤ 3600000000 ∧ y0 ≤ y1)
    (hp : Hid ((y1 - y0) * min p q = pl)) (hq : Hid ((y1 - y0) * max p q = ph)) (bp : 0 ≤ pl ∧ pl ≤ 1900000000000) (bq : 0 ≤ ph ∧ ph ≤ 1900000000000) (b8 : 0 ≤ min p q ∧ min p q ≤ 255 ∧ 0 ≤ max p q ∧ max p q ≤ 255)
    (hs0 : Hid (y0 + pl / 255 = s0)) (hs1 : Hid (y0 + ph / 255 = s1)) (G1 : Hid (∀ k, k < 5 → Good1 (ones k) s0 s1 y0 y1)) (G2 : Hid (∀ k, k < 4 → Good2 (twos k) s0 s1 y0 y1 z0 z1)) :
    Calls Tryd.prog 11 #[encl y0 y1, encl z0 z1, .agg #[.int .u8 p, .int .u8 q]] w fun e w' => e = .returned (.bool true) ∧ Q w w' := by
  have m8 := run_min8
  have x8 := run_max8
  go_enter Tryd.func11, Tryd.ntmps11
  go_upto_region 1 with fail
  generalize hW : ((w.alloc (Obj.cells #[Value.int IntKind.i64 y0, Value.int IntKind.i64 y1] 24)).alloc (Obj.cells #[Value.int IntKind.i64 z0, Value.int IntKind.i64 z1] 24)).alloc (Obj.cells #[Value.int IntKind.u8 p, Value.int IntKind.u8 q] 39) = W
  have B3 : Has W w.heap.size y0 y1 := by subst hW; exact ((Has.new w y0 y1 _).alloc _).alloc _
  have B4 : Has W (w.heap.size + 1) z0 z1 := by subst hW; exact (Has.newAt (by simp)).alloc _
  have B5 : HasB W (w.heap.size + 1 + 1) p q := by subst hW; exact HasB.newAt (by simp)
  have QC : Q w W := by subst hW; exact (((Q.refl w).alloc _).alloc _).alloc _
  clear hW
  obtain ⟨z5, k50, k51⟩ := id B5
  go_quiet (fail)
  have QW : Q W (W.drewN nq) := (Q.refl W).drewN nq
  replace B3 := B3.mono QW
  replace B4 := B4.mono QW
  replace QC := QC.trans QW
  clear QW z5 k50 k51 B5 m8 x8
  generalize W.drewN nq = v1 at *
  generalize min p q = ml at *
  generalize max p q = mh at *
  obtain ⟨z3, k30, k31, f30, f31⟩ := id B3
  have i1 : ¬ y1 < y0 := by omega
  have i2 : ¬ y0 < -3600000000 := by omega
  have i3 : ¬ 3600000000 < y1 := by omega
  go_upto_region 4 with fail
  clear i1 i2 i3
  have hpo := hp.out
  have hqo := hq.out
  have d1 : IntKind.i64.wrap (y1 - y0) = y1 - y0 := IntWalk.i64_in _ (by omega)
  have d3 : IntKind.i64.wrap pl = pl := IntWalk.i64_in _ (by omega)
  have d4 : IntKind.i64.wrap ph = ph := IntWalk.i64_in _ (by omega)
  have d5 : IntKind.i64.wrap (pl / 255) = pl / 255 := IntWalk.i64_in _ (by omega)
  have d6 : IntKind.i64.wrap (ph / 255) = ph / 255 := IntWalk.i64_in _ (by omega)
  have d7 : IntKind.i64.wrap (y0 + pl / 255) = y0 + pl / 255 := IntWalk.i64_in _ (by omega)
  have d8 : IntKind.i64.wrap (y0 + ph / 255) = y0 + ph / 255 := IntWalk.i64_in _ (by omega)
  have c1 : IntKind.i64.wrap ml = ml := IntWalk.i64_in _ (by omega)
  have c2 : IntKind.i64.wrap mh = mh := IntWalk.i64_in _ (by omega)
  have n1 : pl.tdiv 255 = pl / 255 := Int.tdiv_eq_ediv_of_nonneg bp.1
  have n2 : ph.tdiv 255 = ph / 255 := Int.tdiv_eq_ediv_of_nonneg bq.1
  have e1 : wrap64 pl = pl := IntWalk.wrap64_in _ (by omega)
  have e2 : wrap64 ph = ph := IntWalk.wrap64_in _ (by omega)
  go_wp2_with fail
  clear c1 c2 n1 n2 d1 d3 d4 d5 d6 d7 d8 hpo hqo e1 e2
  refine (x_any _ _ _).mono ?_
  rintro e w2 ⟨rfl, Q1⟩
  rw [hs0.out, hs1.out]
  replace B3 := B3.mono Q1
  replace B4 := B4.mono Q1
  replace QC := QC.trans Q1
  clear Q1 z3 k30 k31 f30 f31
  go_upto_region 5 with fail
  have L9 : w.heap.size ≤ w2.heap.size := QC.size
  replace B3 := B3.alloc (.cells #[.int .i64 s0, .int .i64 s1] 24)
  replace B4 := B4.alloc (.cells #[.int .i64 s0, .int .i64 s1] 24)
  have B9 := Has.new w2 s0 s1 24
  replace QC := QC.alloc (.cells #[.int .i64 s0, .int .i64 s1] 24)
  generalize w2.alloc (.cells #[.int .i64 s0, .int .i64 s1] 24) = v2 at *
  generalize w2.heap.size = g9 at *
  go_upto_region 6 with fail
  have F0 : Funs (v2.alloc (.cells #[.func (.func 27) #[] #[], .func (.func 29) #[] #[], .func (.func 22) #[] #[], .func (.func 23) #[] #[], .func (.func 40) #[] #[]] 44)) v2.heap.size ones 5 := Funs.ones_at rfl
  replace B3 := B3.alloc (.cells #[.func (.func 27) #[] #[], .func (.func 29) #[] #[], .func (.func 22) #[] #[], .func (.func 23) #[] #[], .func (.func 40) #[] #[]] 44)
  replace B4 := B4.alloc (.cells #[.func (.func 27) #[] #[], .func (.func 29) #[] #[], .func (.func 22) #[] #[], .func (.func 23) #[] #[], .func (.func 40) #[] #[]] 44)
  replace B9 := B9.alloc (.cells #[.func (.func 27) #[] #[], .func (.func 29) #[] #[], .func (.func 22) #[] #[], .func (.func 23) #[] #[], .func (.func 40) #[] #[]] 44)
  replace QC := QC.alloc (.cells #[.func (.func 27) #[] #[], .func (.func 29) #[] #[], .func (.func 22) #[] #[], .func (.func 23) #[] #[], .func (.func 40) #[] #[]] 44)
  generalize v2.alloc (.cells #[.func (.func 27) #[] #[], .func (.func 29) #[] #[], .func (.func 22) #[] #[], .func (.func 23) #[] #[], .func (.func 40) #[] #[]] 44) = v3 at *
  generalize v2.heap.size = g10 at *
  clear hp hq hs0 hs1 bp bq b8 hy
  go_wp2_with fail
  go_loopw [11] (fun i wr => WInv 5 v3 i wr) (fun i _ => 5 - (intOf i).toNat)
  case atStart => exact ⟨0, by omega, rfl, Q.refl _⟩
  case round =>
    obtain ⟨k, hk, rfl, Q1⟩ := hrel
    by_cases hlt : k < 5
    · have B3' := B3.mono Q1
      have B9' := B9.mono Q1
      have F' := F0.mono Q1
      have cf := F'.c k hlt
      have lf := F'.lt
      have eg := ones_enter k
      obtain ⟨P0, P1, pe, R0, R1, re, H1, H2, hin⟩ := G1.out k hlt
      have HIN := Lib.hid hin
      clear hin
      generalize hf : ones k = f at *
      have HF := Lib.hid hf
      clear hf
      obtain ⟨z3, k30, k31, f30, f31⟩ := id B3'
      obtain ⟨z9, k90, k91, f90, f91⟩ := id B9'
      go_upto_region 9 with fail
      go_cut [12, 13] (fun sp sv wx => ∃ g : Nat, sp = .pointer (some ⟨g, 0, none⟩) ∧ sv = .int .i64 pe ∧ wr.heap.size ≤ g ∧ Has wx g P0 P1 ∧ Q wr wx)
      case first =>
        clear G1 G2 H2 HIN F0 B3 B4 B9 QC T
        go_region_held3 (fun w' => Q wr w' ∧ w'.cell? ⟨g10, k, none⟩ = some (.func (.func f) #[] #[]) ∧ w'.cell? ⟨g9, 0, none⟩ = some (.int .i64 s0) ∧ w'.cell? ⟨g9, 1, none⟩ = some (.int .i64 s1))
          ((refine keepE B9' lf cf ?_; repeat (first | assumption | exact Q.refl _ | exact And.left (a := Q wr _) (by assumption) | apply Q.alloc | apply Q.drew | (refine Q.setCell ?_ (by dsimp only; omega) _))))
          (first | ((with_reducible refine (H1.out _).mono ?_); rintro e wa ⟨rfl, Qa1⟩; have Qb1 := Q.trans (a := wr) (by repeat (first | assumption | exact Q.refl _ | exact And.left (a := Q wr _) (by assumption) | apply Q.alloc | apply Q.drew)) Qa1; have sz := Qb1.size; (try (have P00 : Has wa (wr.heap.size) 0 0 := (by refine Has.mono ?_ Qa1; (repeat (first | with_reducible assumption | (with_reducible refine Has.newAt ?_; (solve | rfl | simp)) | with_reducible refine Has.drew ?_ | with_reducible refine Has.alloc ?_ _)); fail_if_success (focus skip)); obtain ⟨z00, c00, d00, f00, g00⟩ := id P00))))
        all_goals
          clear z3 k30 k31 f30 f31 z9 k90 k91 f90 f91 cf lf eg B3' B9' F' H1
          go_wp2_with fail
          go_meet
          refine ⟨_, rfl, rfl, ?h1, ?h2, ?h3⟩
          case h1 => first | exact Nat.le_refl _ | omega | (simp; omega)
          case h3 => repeat (first | with_reducible assumption | exact Q.refl _ | with_reducible apply Q.alloc | with_reducible apply Q.drew | with_reducible (refine Q.setCell ?_ (by dsimp only; omega) _))
          case h2 =>
            repeat (first
              | with_reducible assumption
              | (with_reducible refine Has.newAt ?_; (simp; done))
              | with_reducible refine Has.drew ?_
              | with_reducible refine Has.store (x0 := 0) (y0 := 0) ?_ _ _
              | with_reducible refine Has.alloc ?_ _)
      case rest =>
        clear z3 k30 k31 f30 f31 z9 k90 k91 f90 f91 cf lf H1
        obtain ⟨g12, rfl, rfl, L12, B12, Q2⟩ := hcut
        have B3' := B3'.mono Q2
        have F' := F'.mono Q2
        replace Q1 := Q1.trans Q2
        clear Q2 B9'
        have cf := F'.c k hlt
        rw [HF.out] at cf
        have lf := F'.lt
        obtain ⟨z3, k30, k31, f30, f31⟩ := id B3'
        go_upto_region 10 with fail
        go_cut [14, 15] (fun sp sv wx => ∃ g : Nat, sp = .pointer (some ⟨g, 0, none⟩) ∧ sv = .int .i64 re ∧ wc.heap.size ≤ g ∧ Has wx g R0 R1 ∧ Q wc wx)
        case first =>
          clear G1 G2 HIN F0 B3 B4 B9 QC T B12
          go_region_held3 (fun w' => Q wc w' ∧ w'.cell? ⟨g10, k, none⟩ = some (.func (.func f) #[] #[]) ∧ w'.cell? ⟨w.heap.size, 0, none⟩ = some (.int .i64 y0) ∧ w'.cell? ⟨w.heap.size, 1, none⟩ = some (.int .i64 y1))
            ((refine keepE B3' lf cf ?_; repeat (first | assumption | exact Q.refl _ | exact And.left (a := Q wc _) (by assumption) | apply Q.alloc | apply Q.drew | (refine Q.setCell ?_ (by dsimp only; omega) _))))
            (first | ((with_reducible refine (H2.out _).mono ?_); rintro e wa ⟨rfl, Qa1⟩; have Qb1 := Q.trans (a := wc) (by repeat (first | assumption | exact Q.refl _ | exact And.left (a := Q wc _) (by assumption) | apply Q.alloc | apply Q.drew)) Qa1; have sz := Qb1.size; (try (have P00 : Has wa (wc.heap.size) 0 0 := (by refine Has.mono ?_ Qa1; (repeat (first | with_reducible assumption | (with_reducible refine Has.newAt ?_; (solve | rfl | simp)) | with_reducible refine Has.drew ?_ | with_reducible refine Has.alloc ?_ _)); fail_if_success (focus skip)); obtain ⟨z00, c00, d00, f00, g00⟩ := id P00))))
          all_goals
            clear z3 k30 k31 f30 f31 cf lf eg B3' F' H2
            go_wp2_with fail
            go_meet
            refine ⟨_, rfl, rfl, ?h1, ?h2, ?h3⟩
            case h1 => first | exact Nat.le_refl _ | omega | (simp; omega)
            case h3 => repeat (first | with_reducible assumption | exact Q.refl _ | with_reducible apply Q.alloc | with_reducible apply Q.drew | with_reducible (refine Q.setCell ?_ (by dsimp only; omega) _))
            case h2 =>
              repeat (first
                | with_reducible assumption
                | (with_reducible refine Has.newAt ?_; (simp; done))
                | with_reducible refine Has.drew ?_
                | with_reducible refine Has.store (x0 := 0) (y0 := 0) ?_ _ _
                | with_reducible refine Has.alloc ?_ _)
        case rest =>
          clear z3 k30 k31 f30 f31 cf lf H2 eg HF
          obtain ⟨g14, rfl, rfl, L14, B14, Q2⟩ := hcut
          have B12 := B12.mono Q2
          replace Q1 := Q1.trans Q2
          clear Q2 B3' F'
          obtain ⟨z12, k120, k121, f120, f121⟩ := id B12
          obtain ⟨z14, k140, k141, f140, f141⟩ := id B14
          by_cases h0 : re = 0
          · obtain ⟨pe0, j1, j2⟩ := HIN.out h0
            subst pe0 h0
            clear HIN
            go_wp2_with fail
            refine (within_yes P0 P1 R0 R1 _ j1 j2).mono ?_
            rintro e w5 ⟨rfl, Q5⟩
            go_wp2_with fail
            go_roundw
            case rel => exact ⟨k + 1, by omega, by go_num, Q1.trans Q5⟩
            case measure => simp [intOf]; omega
          · have hb : (re == 0) = false := beq_eq_false_iff_ne.2 h0
            clear HIN h0
            go_wp2_with fail
            go_roundw
            case rel => exact ⟨k + 1, by omega, by go_num, Q1⟩
            case measure => simp [intOf]; omega
    · clear G1 F0
      replace B3 := B3.mono Q1
      replace B4 := B4.mono Q1
      replace B9 := B9.mono Q1
      replace QC := QC.trans Q1
      clear Q1
      go_upto_region 14 with fail
      clear hlt hk
      have F1 : Funs (wr.alloc (.cells #[.func (.func 34) #[] #[], .func (.func 36) #[] #[], .func (.func 32) #[] #[], .func (.func 33) #[] #[]] 46)) wr.heap.size twos 4 := Funs.twos_at rfl
      replace B3 := B3.alloc (.cells #[.func (.func 34) #[] #[], .func (.func 36) #[] #[], .func (.func 32) #[] #[], .func (.func 33) #[] #[]] 46)
      replace B4 := B4.alloc (.cells #[.func (.func 34) #[] #[], .func (.func 36) #[] #[], .func (.func 32) #[] #[], .func (.func 33) #[] #[]] 46)
      replace B9 := B9.alloc (.cells #[.func (.func 34) #[] #[], .func (.func 36) #[] #[], .func (.func 32) #[] #[], .func (.func 33) #[] #[]] 46)
      replace QC := QC.alloc (.cells #[.func (.func 34) #[] #[], .func (.func 36) #[] #[], .func (.func 32) #[] #[], .func (.func 33) #[] #[]] 46)
      generalize wr.alloc (.cells #[.func (.func 34) #[] #[], .func (.func 36) #[] #[], .func (.func 32) #[] #[], .func (.func 33) #[] #[]] 46) = v4 at *
      generalize wr.heap.size = g16 at *
      go_wp2_with fail
      go_loopw [17] (fun i wr => WInv 4 v4 i wr) (fun i _ => 4 - (intOf i).toNat)
      case atStart => exact ⟨0, by omega, rfl, Q.refl _⟩
      case round =>
        obtain ⟨j, hj, rfl, Q1⟩ := hrel
        by_cases hlt : j < 4
        · have B3' := B3.mono Q1
          have B4' := B4.mono Q1
          have B9' := B9.mono Q1
          have F' := F1.mono Q1
          have cf := F'.c j hlt
          have lf := F'.lt
          have eg := twos_enter j
          obtain ⟨⟨P0, P1, pe, R0, R1, re, H1, H2, hin⟩, S0, S1, se, T0, T1, te, H3, H4, hin2⟩ := G2.out j hlt
          have HIN := Lib.hid hin
          have HIN2 := Lib.hid hin2
          clear hin hin2
          generalize hf : twos j = f at *
          have HF := Lib.hid hf
          clear hf
          obtain ⟨z3, k30, k31, f30, f31⟩ := id B3'
          obtain ⟨z4, k40, k41, f40, f41⟩ := id B4'
          obtain ⟨z9, k90, k91, f90, f91⟩ := id B9'
          go_upto_region 17 with fail
          go_cut [18, 19] (fun sp sv wx => ∃ g : Nat, sp = .pointer (some ⟨g, 0, none⟩) ∧ sv = .int .i64 pe ∧ wr.heap.size ≤ g ∧ Has wx g P0 P1 ∧ Q wr wx)
          case first =>
            clear G2 H2 H3 H4 HIN HIN2 F1 B3 B4 B9 QC T
            go_region_held3 (fun w' => Q wr w' ∧ w'.cell? ⟨g16, j, none⟩ = some (.func (.func f) #[] #[]) ∧ w'.cell? ⟨g9, 0, none⟩ = some (.int .i64 s0) ∧ w'.cell? ⟨g9, 1, none⟩ = some (.int .i64 s1) ∧ w'.cell? ⟨(w.heap.size + 1), 0, none⟩ = some (.int .i64 z0) ∧ w'.cell? ⟨(w.heap.size + 1), 1, none⟩ = some (.int .i64 z1))
              ((refine keepF B9' B4' lf cf ?_; repeat (first | assumption | exact Q.refl _ | exact And.left (a := Q wr _) (by assumption) | apply Q.alloc | apply Q.drew | (refine Q.setCell ?_ (by dsimp only; omega) _))))
              (first | ((with_reducible refine (H1.out _).mono ?_); rintro e wa ⟨rfl, Qa1⟩; have Qb1 := Q.trans (a := wr) (by repeat (first | assumption | exact Q.refl _ | exact And.left (a := Q wr _) (by assumption) | apply Q.alloc | apply Q.drew)) Qa1; have sz := Qb1.size; (try (have P00 : Has wa (wr.heap.size) 0 0 := (by refine Has.mono ?_ Qa1; (repeat (first | with_reducible assumption | (with_reducible refine Has.newAt ?_; (solve | rfl | simp)) | with_reducible refine Has.drew ?_ | with_reducible refine Has.alloc ?_ _)); fail_if_success (focus skip)); obtain ⟨z00, c00, d00, f00, g00⟩ := id P00))))
            all_goals
              clear z3 k30 k31 f30 f31 z4 k40 k41 f40 f41 z9 k90 k91 f90 f91 cf lf eg B3' B4' B9' F' H1
              go_wp2_with fail
              go_meet
              refine ⟨_, rfl, rfl, ?h1, ?h2, ?h3⟩
              case h1 => first | exact Nat.le_refl _ | omega | (simp; omega)
              case h3 => repeat (first | with_reducible assumption | exact Q.refl _ | with_reducible apply Q.alloc | with_reducible apply Q.drew | with_reducible (refine Q.setCell ?_ (by dsimp only; omega) _))
              case h2 =>
                repeat (first
                  | with_reducible assumption
                  | (with_reducible refine Has.newAt ?_; (simp; done))
                  | with_reducible refine Has.drew ?_
                  | with_reducible refine Has.store (x0 := 0) (y0 := 0) ?_ _ _
                  | with_reducible refine Has.alloc ?_ _)
          case rest =>
            clear cf lf H1
            clear z3 k30 k31 f30 f31 z4 k40 k41 f40 f41 z9 k90 k91 f90 f91
            obtain ⟨g18, rfl, rfl, L18, B18, Q2⟩ := hcut
            have B3' := B3'.mono Q2
            have B4' := B4'.mono Q2
            have B9' := B9'.mono Q2
            have F' := F'.mono Q2
            have L18' : v4.heap.size ≤ g18 := Nat.le_trans Q1.size L18
            replace Q1 := Q1.trans Q2
            clear Q2 L18
            have cf := F'.c j hlt
            rw [HF.out] at cf
            have lf := F'.lt
            have l18 := B18.lt
            obtain ⟨z3, k30, k31, f30, f31⟩ := id B3'
            obtain ⟨z4, k40, k41, f40, f41⟩ := id B4'
            go_upto_region 18 with fail
            go_cut [20, 21] (fun sp sv wx => ∃ g : Nat, sp = .pointer (some ⟨g, 0, none⟩) ∧ sv = .int .i64 re ∧ wc.heap.size ≤ g ∧ Has wx g R0 R1 ∧ Q wc wx)
            case first =>
              clear G2 H3 H4 HIN HIN2 F1 B3 B4 B9 QC T B18 B9'
              go_region_held3 (fun w' => Q wc w' ∧ w'.cell? ⟨g16, j, none⟩ = some (.func (.func f) #[] #[]) ∧ w'.cell? ⟨w.heap.size, 0, none⟩ = some (.int .i64 y0) ∧ w'.cell? ⟨w.heap.size, 1, none⟩ = some (.int .i64 y1) ∧ w'.cell? ⟨(w.heap.size + 1), 0, none⟩ = some (.int .i64 z0) ∧ w'.cell? ⟨(w.heap.size + 1), 1, none⟩ = some (.int .i64 z1))
                ((refine keepF B3' B4' lf cf ?_; repeat (first | assumption | exact Q.refl _ | exact And.left (a := Q wc _) (by assumption) | apply Q.alloc | apply Q.drew | (refine Q.setCell ?_ (by dsimp only; omega) _))))
                (first | ((with_reducible refine (H2.out _).mono ?_); rintro e wa ⟨rfl, Qa1⟩; have Qb1 := Q.trans (a := wc) (by repeat (first | assumption | exact Q.refl _ | exact And.left (a := Q wc _) (by assumption) | apply Q.alloc | apply Q.drew)) Qa1; have sz := Qb1.size; (try (have P00 : Has wa (wc.heap.size) 0 0 := (by refine Has.mono ?_ Qa1; (repeat (first | with_reducible assumption | (with_reducible refine Has.newAt ?_; (solve | rfl | simp)) | with_reducible refine Has.drew ?_ | with_reducible refine Has.alloc ?_ _)); fail_if_success (focus skip)); obtain ⟨z00, c00, d00, f00, g00⟩ := id P00))))
              all_goals
                clear z3 k30 k31 f30 f31 z4 k40 k41 f40 f41 cf lf eg B3' B4' F' H2
                go_wp2_with fail
                go_meet
                refine ⟨_, rfl, rfl, ?h1, ?h2, ?h3⟩
                case h1 => first | exact Nat.le_refl _ | omega | (simp; omega)
                case h3 => repeat (first | with_reducible assumption | exact Q.refl _ | with_reducible apply Q.alloc | with_reducible apply Q.drew | with_reducible (refine Q.setCell ?_ (by dsimp only; omega) _))
                case h2 =>
                  repeat (first
                    | with_reducible assumption
                    | (with_reducible refine Has.newAt ?_; (simp; done))
                    | with_reducible refine Has.drew ?_
                    | with_reducible refine Has.store (x0 := 0) (y0 := 0) ?_ _ _
                    | with_reducible refine Has.alloc ?_ _)
            case rest =>
              clear cf lf H2
              clear z3 k30 k31 f30 f31 z4 k40 k41 f40 f41
              obtain ⟨g20, rfl, rfl, L20, B20, Q2⟩ := hcut
              have n1 : g18 ≠ g20 := by omega
              have n2 : g20 ≠ g18 := by omega
              have B3' := B3'.mono Q2
              have B4' := B4'.mono Q2
              have B9' := B9'.mono Q2
              have F' := F'.mono Q2
              have B18 := B18.mono Q2
              have L20' : v4.heap.size ≤ g20 := Nat.le_trans Q1.size L20
              replace Q1 := Q1.trans Q2
              clear Q2 L20 l18
              obtain ⟨z18, k180, k181, f180, f181⟩ := id B18
              obtain ⟨z20, k200, k201, f200, f201⟩ := id B20
              go_upto_region 19 with fail
              go_cut [148] (fun sb wx => sb = .bool false ∧ Q wc wx)
              case first =>
                clear F' B3' B4' B9' eg H3 H4 HIN2 G2 F1 B3 B4 B9 QC T B18 B20 Q1
                by_cases h0 : re = 0
                · obtain ⟨pe0, j1, j2⟩ := HIN.out h0
                  subst pe0 h0
                  clear HIN
                  go_wp2_with fail
                  refine (within_yes P0 P1 R0 R1 _ j1 j2).mono ?_
                  rintro e w5 ⟨rfl, Q5⟩
                  go_wp2_with fail
                  go_meet
                  exact ⟨rfl, Q5⟩
                · have hb : (re == 0) = false := beq_eq_false_iff_ne.2 h0
                  clear HIN h0
                  go_wp2_with fail
                  go_meet
                  exact ⟨rfl, Q.refl _⟩
              case rest =>
                clear z18 k180 k181 f180 f181 z20 k200 k201 f200 f201
                obtain ⟨rfl, Q2⟩ := hcut
                have B3' := B3'.mono Q2
                have B4' := B4'.mono Q2
                have B9' := B9'.mono Q2
                have F' := F'.mono Q2
                have B18 := B18.mono Q2
                have B20 := B20.mono Q2
                replace Q1 := Q1.trans Q2
                clear Q2 HIN
                have cf := F1.c j hlt
                rw [HF.out] at cf
                have lf := F1.lt
                clear F' B3' B4' B9'
                go_upto_region 21 with fail
                go_cut [19] (fun sv wx => sv = .int .i64 se ∧ Has wx g18 S0 S1 ∧ Has wx g20 R0 R1 ∧ Q v4 wx)
                case first =>
                  clear G2 H4 HIN2 QC T
                  go_region_held3 (fun w' => Q v4 w' ∧ w'.cell? ⟨g16, j, none⟩ = some (.func (.func f) #[] #[]) ∧ w'.cell? ⟨(w.heap.size + 1), 0, none⟩ = some (.int .i64 z0) ∧ w'.cell? ⟨(w.heap.size + 1), 1, none⟩ = some (.int .i64 z1) ∧ w'.cell? ⟨g9, 0, none⟩ = some (.int .i64 s0) ∧ w'.cell? ⟨g9, 1, none⟩ = some (.int .i64 s1) ∧ g18 < w'.heap.size ∧ w'.cell? ⟨g18, 0, none⟩ = some (cv w' ⟨g18, 0, none⟩) ∧ w'.cell? ⟨g18, 1, none⟩ = some (cv w' ⟨g18, 1, none⟩) ∧ w'.frozen? ⟨g18, 0, none⟩ = false ∧ w'.frozen? ⟨g18, 1, none⟩ = false)
                    ((first | (refine keepG Q1 B4 B9 lf cf B18 L18' ?_; (repeat (first | assumption | exact Q.refl _ | apply Q.drew)); done) | (refine keepH _ _ Q1 B4 B9 lf cf B18 L18' ?_; (repeat (first | assumption | exact Q.refl _ | apply Q.drew)); done)))
                    (first | ((with_reducible refine (H3.out _).mono ?_); rintro e wa ⟨rfl, Qa1⟩; have Qb1 := Q.trans (a := wc) (by repeat (first | assumption | exact Q.refl _ | apply Q.drew)) Qa1))
                  all_goals
                    have B18' := B18.mono Qb1
                    have B20' := B20.mono Qb1
                    have Q1' := Q1.trans Qb1
                    clear cf lf eg B3 B4 B9 F1 H3
                    go_wp2_with fail
                    go_meet
                    refine ⟨rfl, ?h1, ?h2, ?h3⟩
                    case h1 => repeat (first | exact B18' | with_reducible refine Has.drew ?_ | with_reducible refine Has.store (x0 := P0) (y0 := P1) ?_ _ _)
                    case h2 => repeat (first | exact B20' | with_reducible refine Has.drew ?_ | (with_reducible refine Has.apart2 ?_ ?_ _ _; rotate_left; (solve | omega)))
                    case h3 => repeat (first | exact Q1' | with_reducible apply Q.drew | with_reducible (refine Q.setCell ?_ (by dsimp only; omega) _))
                case rest =>
                  clear H3 B18 B20 Q1
                  obtain ⟨rfl, B18, B20, Q1⟩ := hcut
                  go_upto_region 22 with fail
                  go_cut [21] (fun sv wx => sv = .int .i64 te ∧ Has wx g20 T0 T1 ∧ Has wx g18 S0 S1 ∧ Q v4 wx)
                  case first =>
                    clear G2 HIN2 B9 QC T
                    go_region_held3 (fun w' => Q v4 w' ∧ w'.cell? ⟨g16, j, none⟩ = some (.func (.func f) #[] #[]) ∧ w'.cell? ⟨(w.heap.size + 1), 0, none⟩ = some (.int .i64 z0) ∧ w'.cell? ⟨(w.heap.size + 1), 1, none⟩ = some (.int .i64 z1) ∧ w'.cell? ⟨w.heap.size, 0, none⟩ = some (.int .i64 y0) ∧ w'.cell? ⟨w.heap.size, 1, none⟩ = some (.int .i64 y1) ∧ g20 < w'.heap.size ∧ w'.cell? ⟨g20, 0, none⟩ = some (cv w' ⟨g20, 0, none⟩) ∧ w'.cell? ⟨g20, 1, none⟩ = some (cv w' ⟨g20, 1, none⟩) ∧ w'.frozen? ⟨g20, 0, none⟩ = false ∧ w'.frozen? ⟨g20, 1, none⟩ = false)
                      ((first | (refine keepG Q1 B4 B3 lf cf B20 L20' ?_; (repeat (first | assumption | exact Q.refl _ | apply Q.drew)); done) | (refine keepH _ _ Q1 B4 B3 lf cf B20 L20' ?_; (repeat (first | assumption | exact Q.refl _ | apply Q.drew)); done)))
                      (first | ((with_reducible refine (H4.out _).mono ?_); rintro e wa ⟨rfl, Qa1⟩; have Qb1 := Q.trans (a := wc) (by repeat (first | assumption | exact Q.refl _ | apply Q.drew)) Qa1))
                    all_goals
                      have B18' := B18.mono Qb1
                      have B20' := B20.mono Qb1
                      have Q1' := Q1.trans Qb1
                      clear cf lf eg B3 B4 F1 H4
                      go_wp2_with fail
                      go_meet
                      refine ⟨rfl, ?h1, ?h2, ?h3⟩
                      case h1 => repeat (first | exact B20' | with_reducible refine Has.drew ?_ | with_reducible refine Has.store (x0 := R0) (y0 := R1) ?_ _ _)
                      case h2 => repeat (first | exact B18' | with_reducible refine Has.drew ?_ | (with_reducible refine Has.apart2 ?_ ?_ _ _; rotate_left; (solve | omega)))
                      case h3 => repeat (first | exact Q1' | with_reducible apply Q.drew | with_reducible (refine Q.setCell ?_ (by dsimp only; omega) _))
                  case rest =>
                    clear H4 B18 B20 Q1 cf lf eg
                    obtain ⟨rfl, B20, B18, Q1⟩ := hcut
                    obtain ⟨z18, k180, k181, f180, f181⟩ := id B18
                    obtain ⟨z20, k200, k201, f200, f201⟩ := id B20
                    by_cases h0 : te = 0
                    · obtain ⟨pe0, j1, j2⟩ := HIN2.out h0
                      subst pe0 h0
                      clear HIN2
                      go_wp2_with fail
                      refine (within_yes S0 S1 T0 T1 _ j1 j2).mono ?_
                      rintro e w5 ⟨rfl, Q5⟩
                      go_wp2_with fail
                      go_roundw
                      case rel => exact ⟨j + 1, by omega, by go_num, Q1.trans Q5⟩
                      case measure => simp [intOf]; omega
                    · have hb : (te == 0) = false := beq_eq_false_iff_ne.2 h0
                      clear HIN2 h0
                      go_wp2_with fail
                      go_roundw
                      case rel => exact ⟨j + 1, by omega, by go_num, Q1⟩
                      case measure => simp [intOf]; omega
        · have Q2 := QC.trans Q1
          have T1 := T.mono Q2
          clear G2 F1 B3 B4 B9 QC Q1 T
          go_wp2_with fail
          refine (Awake_any _ T1).mono ?_
          rintro e w5 ⟨rfl, Q5⟩
          go_wp2_with fail
          go_ret
          exact ⟨rfl, Q2.trans Q5⟩

end Go.Proofs.YtjbhnjnlpekpoaaDoor
