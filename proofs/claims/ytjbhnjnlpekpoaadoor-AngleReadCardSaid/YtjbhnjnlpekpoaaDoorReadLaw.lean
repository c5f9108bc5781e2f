/-
  AngleRead returns true, whatever the angle, the axis and the string.
-/
import Derived.Test.YtjbhnjnlpekpoaaDoorReadA
import Derived.Test.YtjbhnjnlpekpoaaDoorWriteA
import Derived.Test.YtjbhnjnlpekpoaaDoorAngH
import Derived.OpenShut
namespace Go.Proofs.YtjbhnjnlpekpoaaDoor
open Go.RowKit Go.Sort
set_option linter.unusedVariables false

abbrev RC (s : ByteArray) (a k e : Int) : Prop := ∀ w, Tables w → Calls Tryd.prog 44 #[.string s] w fun o w' => o = .returned (.tuple #[.int .i64 a, .int .i64 k, .int .i64 e]) ∧ Q w w'
abbrev WC (a x : Int) (t : ByteArray) (e : Int) : Prop := ∀ w, Tables w → Calls Tryd.prog 46 #[.int .i64 a, .int .i64 x] w fun o w' => o = .returned (.tuple #[.string t, .int .i64 e]) ∧ Q w w'

set_option maxRecDepth 100000 in
set_option maxHeartbeats 2000000 in
theorem read_law (a x b k be ce d : Int) (s t u : ByteArray) (w : World) (T : Tables w) (W1 : Hid (WC a x t ce)) (R1 : Hid (ce = 0 → RC t a x 0)) (R2 : Hid (RC s b k be)) (W2 : Hid (be = 0 → WC b k u 0 ∧ RC u b k 0)) :
    Calls Tryd.prog 13 #[.int .i64 a, .int .i64 x, .string s] w fun e w' => e = .returned (.bool true) ∧ Q w w' := by
  have HT := Lib.hid T
  clear T
  go_enter Tryd.func13, Tryd.ntmps13
  go_wp2_with fail
  refine (W1.out _ HT.out).mono ?_
  rintro e w1 ⟨rfl, Q1⟩
  by_cases h1 : ce = 0
  · have R3 := Lib.hid (R1.out h1)
    subst h1
    clear R1 W1
    go_wp2_with fail
    refine (R3.out _ (HT.out.mono Q1)).mono ?_
    rintro e w2 ⟨rfl, Q2⟩
    replace Q1 := Q1.trans Q2
    clear Q2 R3
    go_wp2_with fail
    refine (R2.out _ (HT.out.mono Q1)).mono ?_
    rintro e w3 ⟨rfl, Q2⟩
    replace Q1 := Q1.trans Q2
    clear Q2 R2
    by_cases h2 : be = 0
    · obtain ⟨W3, R3⟩ := W2.out h2
      have HW := Lib.hid W3
      have HR := Lib.hid R3
      subst h2
      clear W2 W3 R3
      go_wp2_with fail
      refine (HW.out _ (HT.out.mono Q1)).mono ?_
      rintro e w4 ⟨rfl, Q2⟩
      replace Q1 := Q1.trans Q2
      clear Q2 HW
      go_wp2_with fail
      refine (HR.out _ (HT.out.mono Q1)).mono ?_
      rintro e w5 ⟨rfl, Q2⟩
      replace Q1 := Q1.trans Q2
      clear Q2 HR
      go_wp2_with fail
      refine (Awake_any _ (HT.out.mono Q1)).mono ?_
      rintro e w6 ⟨rfl, Q2⟩
      go_wp2_with fail
      go_ret
      exact ⟨rfl, Q1.trans Q2⟩
    · have hb : (be == 0) = false := beq_eq_false_iff_ne.2 h2
      have hc : (be != 0) = true := bne_iff_ne.2 h2
      clear W2
      go_wp2_with fail
      refine (Awake_any _ (HT.out.mono Q1)).mono ?_
      rintro e w6 ⟨rfl, Q2⟩
      go_wp2_with fail
      go_ret
      exact ⟨rfl, Q1.trans Q2⟩
  · have ha : (ce == 0) = false := beq_eq_false_iff_ne.2 h1
    have hd : (ce != 0) = true := bne_iff_ne.2 h1
    clear R1 W1
    go_wp2_with fail
    refine (R2.out _ (HT.out.mono Q1)).mono ?_
    rintro e w3 ⟨rfl, Q2⟩
    replace Q1 := Q1.trans Q2
    clear Q2 R2
    by_cases h2 : be = 0
    · obtain ⟨W3, R3⟩ := W2.out h2
      have HW := Lib.hid W3
      have HR := Lib.hid R3
      subst h2
      clear W2 W3 R3
      go_wp2_with fail
      refine (HW.out _ (HT.out.mono Q1)).mono ?_
      rintro e w4 ⟨rfl, Q2⟩
      replace Q1 := Q1.trans Q2
      clear Q2 HW
      go_wp2_with fail
      refine (HR.out _ (HT.out.mono Q1)).mono ?_
      rintro e w5 ⟨rfl, Q2⟩
      replace Q1 := Q1.trans Q2
      clear Q2 HR
      go_wp2_with fail
      refine (Awake_any _ (HT.out.mono Q1)).mono ?_
      rintro e w6 ⟨rfl, Q2⟩
      go_wp2_with fail
      go_ret
      exact ⟨rfl, Q1.trans Q2⟩
    · have hb : (be == 0) = false := beq_eq_false_iff_ne.2 h2
      have hc : (be != 0) = true := bne_iff_ne.2 h2
      clear W2
      go_wp2_with fail
      refine (Awake_any _ (HT.out.mono Q1)).mono ?_
      rintro e w6 ⟨rfl, Q2⟩
      go_wp2_with fail
      go_ret
      exact ⟨rfl, Q1.trans Q2⟩

theorem writeS_short (a x : Int) : (writeS a x).1.length ≤ 20 := by
  have key : ∀ (lim : Int) (c d : UInt8), lim ≤ 180000000 → (wr a lim c d).1.length ≤ 20 := fun lim c d h => by
    unfold wr
    split
    · simp
    · rename_i k
      simp only [List.length_append, List.length_singleton]
      unfold numS frac6
      have l3 := dec_len3 (u := a.natAbs / 1000000) (by omega)
      split
      · simp only [List.append_nil]; omega
      · rename_i hr
        have hm : a.natAbs % 1000000 < 1000000 := Nat.mod_lt _ (by omega)
        obtain ⟨e1, e2, e3⟩ := dec_tail hm
        have := (strip_pad e1 e2 (by rw [e3]; omega)).2.1
        simp only [List.length_append, List.length_cons]
        omega
  unfold writeS
  split
  · exact key _ _ _ (by omega)
  · split
    · exact key _ _ _ (by omega)
    · simp

theorem rc_of {s : ByteArray} {r : Int × Int × Int} (h : readS s.data.toList = r) (hm : s.size ≤ 9223372036854775807) : RC s r.1 r.2.1 r.2.2 := fun w T => by
  have := Read_any s w T hm
  rw [h] at this
  exact this
theorem wc_of (a x : Int) (ha : -9223372036854775808 ≤ a ∧ a ≤ 9223372036854775807) : WC a x ⟨(writeS a x).1.toArray⟩ (writeS a x).2 := fun w T => Write_any a x w T ha

theorem readS_bd (l : List UInt8) : -1000000000 ≤ (readS l).1 ∧ (readS l).1 ≤ 1000000000 := by
  have key : ∀ (n : Nat) (t : List UInt8), n < 1000000000 → -1000000000 ≤ (fin n t).1 ∧ (fin n t).1 ≤ 1000000000 := fun n t h => by
    unfold fin
    repeat' split
    all_goals (simp only; omega)
  unfold readS
  split
  · simp
  · split
    · simp
    · rename_i h
      simp only [not_or] at h
      exact key _ _ (readN_lt _ _ (take_isD _) (part_isD _) (by omega))

theorem angleRead_all (a x : Int) (s : ByteArray) (ha : (Lit.int .i64 a).wf = true) (hx : (Lit.int .i64 x).wf = true) (hs : s.size ≤ maxLen) (w : World) (T : Tables w) :
    Calls Tryd.prog 13 #[.int .i64 a, .int .i64 x, .string s] w fun e w' => e = .returned (.bool true) ∧ Q w w' := by
  have ha := bounds_i64 ha
  have hm : s.size ≤ 9223372036854775807 := by unfold maxLen at hs; omega
  have small : ∀ b k : Int, (⟨(writeS b k).1.toArray⟩ : ByteArray).size ≤ 9223372036854775807 := fun b k => by
    rw [size_len, bytes_toList]
    have := writeS_short b k
    omega
  refine read_law a x _ _ _ _ 0 s _ ⟨(writeS (readS s.data.toList).1 (readS s.data.toList).2.1).1.toArray⟩ w T (wc_of a x ha) (fun h0 => ?_) (rc_of rfl hm) (fun h0 => ?_)
  · have h := read_write a x h0
    exact rc_of (s := ⟨(writeS a x).1.toArray⟩) (r := (a, x, 0)) h (small a x)
  · have h1 := write_read s.data.toList h0
    have h2 := read_write _ _ h1
    have bd := readS_bd s.data.toList
    refine ⟨?_, rc_of (s := ⟨(writeS (readS s.data.toList).1 (readS s.data.toList).2.1).1.toArray⟩) (r := ((readS s.data.toList).1, (readS s.data.toList).2.1, 0)) h2 (small _ _)⟩
    have := wc_of (readS s.data.toList).1 (readS s.data.toList).2.1 (by omega)
    rw [h1] at this
    exact this

end Go.Proofs.YtjbhnjnlpekpoaaDoor
