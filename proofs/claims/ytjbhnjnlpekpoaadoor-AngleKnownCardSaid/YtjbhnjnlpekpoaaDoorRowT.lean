/-
  For the rows: what the listed package-level variables hold, in the walks' own words.
-/
import Derived.Test.YtjbhnjnlpekpoaaDoorAngG
import Derived.Test.YtjbhnjnlpekpoaaDoorTie
import Derived.ProofKit
import Derived.OpenShut
import Derived.LaidMore
import Derived.LaidSub
import Derived.Lay
import Derived.SevenTiedAt
import Derived.Stop.Joined
import Derived.Lib.LaidTab
namespace Go.Proofs.YtjbhnjnlpekpoaaDoor
open Go.ChangeShapes Go.WideShapes Go.ChangeAt Go.RowKit
set_option linter.unusedVariables false

theorem own : ownKnob Tryd.prog.godebug = none := by kernel_rfl

theorem pow10_of {l : List (String × DataW Unit)} {W : World} (h : laidMetH Tryd.prog l W)
    (k : (l.filter fun x => x.1 == "internal/strconv.uint64pow10") = [("internal/strconv.uint64pow10", Rows.laid_internal_strconv_uint64pow10)]) :
    Lib.TabIs Tryd.prog W "internal/strconv.uint64pow10" .u64 Lib.pow10Tab := by
  have h := h.filter fun x => x.1 == "internal/strconv.uint64pow10"
  rw [k, MakeChecks.laidMetH_plain _ _ _ (by kernel_rfl)] at h
  exact Lib.tabIs_of_head (g := 6) (t := 147) (e := 101) (n := 20) (by kernel_rfl) (by kernel_rfl) Tryd.underlying147 Tryd.underlying101 (by kernel_rfl) (by kernel_rfl) h

set_option maxRecDepth 10000 in
theorem letter_cells {W : World} {base fuel : Nat} {sp : Nat → Bool} {held : Bool} {cs : List Value} {n : List UInt8} {a b c : Int} {p : List MemPlace}
    (h : DataW.trod (H := Unit) (fun _ => ()) Tryd.prog W base sp held fuel 78 cs = some (.agg [.lit (.string n), .lit (.int .i64 a), .lit (.int .i64 b), .lit (.int .i64 c)], p)) :
    cs = [.string ⟨n.toArray⟩, .int .i64 a, .int .i64 b, .int .i64 c] := by
  obtain ⟨xs, m, _, ex, hlen, hl, hel⟩ := DataW.trod_struct Tryd.underlying78 h
  rw [show Tryd.prog.cellsOf 78 = 4 by kernel_rfl] at hlen
  replace hl : xs.length = 4 := hl
  have h0 : DataW.trod (H := Unit) (fun _ => ()) Tryd.prog W base sp held m 9 ((cs.drop 0).take (Tryd.prog.cellsOf 9)) = xs[0]? := hel 0 _ rfl
  have h1 : DataW.trod (H := Unit) (fun _ => ()) Tryd.prog W base sp held m 3 ((cs.drop 1).take (Tryd.prog.cellsOf 3)) = xs[1]? := hel 1 _ rfl
  have h2 : DataW.trod (H := Unit) (fun _ => ()) Tryd.prog W base sp held m 3 ((cs.drop 2).take (Tryd.prog.cellsOf 3)) = xs[2]? := hel 2 _ rfl
  have h3 : DataW.trod (H := Unit) (fun _ => ()) Tryd.prog W base sp held m 3 ((cs.drop 3).take (Tryd.prog.cellsOf 3)) = xs[3]? := hel 3 _ rfl
  clear hel h
  simp only [show Tryd.prog.cellsOf 9 = 1 by kernel_rfl, show Tryd.prog.cellsOf 3 = 1 by kernel_rfl] at h0 h1 h2 h3
  match xs, hl with
  | [x0, x1, x2, x3], _ =>
    match cs, hlen with
    | [c0, c1, c2, c3], _ =>
      have e := DataW.agg.inj (Prod.mk.inj ex).1
      simp only [List.map_cons, List.map_nil, List.cons.injEq, and_true] at e
      obtain ⟨e0, e1, e2, e3⟩ := e
      obtain ⟨s0, a0, b0, _⟩ := DataW.trod_string Tryd.underlying9 h0
      obtain ⟨z1, a1, b1, _⟩ := DataW.trod_int Tryd.underlying3 h1
      obtain ⟨z2, a2, b2, _⟩ := DataW.trod_int Tryd.underlying3 h2
      obtain ⟨z3, a3, b3, _⟩ := DataW.trod_int Tryd.underlying3 h3
      simp at a0 a1 a2 a3
      subst a0 a1 a2 a3 b0 b1 b2 b3
      simp at e0 e1 e2 e3
      subst e0 e1 e2 e3
      rfl

set_option maxRecDepth 10000 in
theorem letters_of {l : List (String × DataW Unit)} {W : World} (h : laidMetH Tryd.prog l W)
    (k : (l.filter fun x => x.1 == "linkboy/angle.letters") = [("linkboy/angle.letters", Rows.laid_linkboy_angle_letters)]) :
    W.var? Tryd.prog "linkboy/angle.letters" = some letterCells := by
  have h := h.filter fun x => x.1 == "linkboy/angle.letters"
  rw [k, MakeChecks.laidMetH_plain _ _ _ (by kernel_rfl)] at h
  obtain ⟨ps, ⟨g, t, cs, fuel, p, q, hg, ht, hv, hd, _, _⟩, _, _⟩ := h
  obtain rfl := Option.some.inj ((show Tryd.prog.globalNamed "linkboy/angle.letters" = some 0 by kernel_rfl).symm.trans hg)
  obtain rfl := Option.some.inj ((show (Tryd.prog.globals[0]?).map (·.type) = some 79 by kernel_rfl).symm.trans ht)
  obtain ⟨xs, m, _, ex, hlen, hl, hel⟩ := DataW.trod_array Tryd.underlying79 hd
  rw [show Tryd.prog.cellsOf 79 = 16 by kernel_rfl] at hlen
  have h0 := hel 0 (by omega)
  have h1 := hel 1 (by omega)
  have h2 := hel 2 (by omega)
  have h3 := hel 3 (by omega)
  rw [show Tryd.prog.cellsOf 78 = 4 by kernel_rfl] at h0 h1 h2 h3
  match xs, hl with
  | [x0, x1, x2, x3], _ =>
    have e := DataW.agg.inj (Prod.mk.inj ex).1
    simp only [List.map_cons, List.map_nil, List.cons.injEq, and_true] at e
    obtain ⟨e0, e1, e2, e3⟩ := e
    obtain ⟨d0, p0⟩ := x0
    obtain ⟨d1, p1⟩ := x1
    obtain ⟨d2, p2⟩ := x2
    obtain ⟨d3, p3⟩ := x3
    simp only at e0 e1 e2 e3
    subst e0 e1 e2 e3
    have k0 := letter_cells h0
    have k1 := letter_cells h1
    have k2 := letter_cells h2
    have k3 := letter_cells h3
    rw [hv]
    congr 1
    apply Array.ext'
    have e : cs.toList = cs.toList.take 4 ++ ((cs.toList.drop 4).take 4 ++ ((cs.toList.drop 8).take 4 ++ (cs.toList.drop 12).take 4)) := by
      have : cs.toList.length = 16 := hlen
      have w4 := List.take_append_drop 4 (cs.toList.drop 8)
      have w2 := List.take_append_drop 4 (cs.toList.drop 4)
      have w1 := List.take_append_drop 4 cs.toList
      rw [List.drop_drop] at w2 w4
      have w5 : (cs.toList.drop 12).take 4 = cs.toList.drop 12 := List.take_of_length_le (by rw [List.length_drop, this]; omega)
      rw [w5, w4, w2, w1]
    simp only [Nat.zero_mul, List.drop_zero, Nat.one_mul, Nat.reduceMul] at k0 k1 k2 k3
    rw [e, k0, k1, k2, k3]
    rfl

theorem tables_of {l : List (String × DataW Unit)} {W : World} (h : laidMetH Tryd.prog l W)
    (k1 : (l.filter fun x => x.1 == "linkboy/angle.letters") = [("linkboy/angle.letters", Rows.laid_linkboy_angle_letters)])
    (k2 : (l.filter fun x => x.1 == "internal/strconv.uint64pow10") = [("internal/strconv.uint64pow10", Rows.laid_internal_strconv_uint64pow10)]) : Tables W :=
  ⟨letters_of h k1, pow10_of h k2⟩

end Go.Proofs.YtjbhnjnlpekpoaaDoor
