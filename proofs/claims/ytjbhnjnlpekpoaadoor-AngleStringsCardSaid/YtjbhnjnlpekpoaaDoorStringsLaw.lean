/-
  AngleStrings returns true, whatever the string, the angle and the axis.
-/
import Derived.Test.YtjbhnjnlpekpoaaDoorReadA
import Derived.Test.YtjbhnjnlpekpoaaDoorWriteA
import Derived.Test.YtjbhnjnlpekpoaaDoorRefReadA
import Derived.Test.YtjbhnjnlpekpoaaDoorRefWrite
import Derived.Test.YtjbhnjnlpekpoaaDoorAngH
import Derived.OpenShut
namespace Go.Proofs.YtjbhnjnlpekpoaaDoor
open Go.RowKit Go.Sort
set_option linter.unusedVariables false

theorem frac_ld (r : Nat) (h : r < 1000000) : frac6 r = if Lib.trimRightB (ld r 6) 48 = [] then [] else 46 :: Lib.trimRightB (ld r 6) 48 := by
  unfold frac6
  by_cases h0 : r = 0
  · subst h0
    have : Lib.trimRightB (ld 0 6) 48 = [] := by decide +kernel
    rw [if_pos rfl, if_pos this]
  · obtain ⟨e1, e2, e3⟩ := dec_tail h
    have := (strip_pad e1 e2 (by rw [e3]; exact h0)).1
    rw [dec_six h] at this
    rw [if_neg h0, if_neg this, dec_six h]

theorem refWrite_case0 (N : Int) (w : World) (h0 : 0 ≤ N) (hl : N ≤ 90000000) :
    Calls Tryd.prog 47 #[.int .i64 N, .int .i64 0] w fun e w' => e = .returned (.tuple #[.string ⟨(numS N.toNat ++ [78]).toArray⟩, .int .i64 0]) ∧ Q w w' := by
  obtain ⟨S, hS⟩ : ∃ S : ByteArray, S.data.toList = Lib.decDigits (N / 1000000).toNat := ⟨⟨(Lib.decDigits (N / 1000000).toNat).toArray⟩, rfl⟩
  obtain ⟨R, hR⟩ : ∃ S : ByteArray, S.data.toList = ld (N % 1000000).toNat 6 := ⟨⟨(ld (N % 1000000).toNat 6).toArray⟩, rfl⟩
  obtain ⟨Z, hZ⟩ : ∃ S : ByteArray, S.data.toList = Lib.trimRightB R.data.toList 48 := ⟨⟨(Lib.trimRightB R.data.toList 48).toArray⟩, rfl⟩
  have eq : (N / 1000000).toNat = N.toNat / 1000000 := by omega
  have er : (N % 1000000).toNat = N.toNat % 1000000 := by omega
  have sS : S.size ≤ 20 := by
    rw [size_len, hS]
    have := dec_len3 (u := (N / 1000000).toNat) (by omega)
    omega
  have sR : R.size ≤ 6 := by rw [size_len, hR, ld_len]; omega
  have sZ : Z.size ≤ 6 := by
    rw [size_len, hZ]
    obtain ⟨k, hk⟩ := strip R.data.toList
    have := congrArg List.length hk
    rw [List.length_append, ← size_len] at this
    omega
  refine rw_0 N (N / 1000000) (N % 1000000) S R Z w h0 hl rfl rfl hS sS hR sR hZ sZ ⟨(numS N.toNat ++ [78]).toArray⟩ ?_
  show (numS N.toNat ++ [78]) = _
  unfold numS
  rw [frac_ld _ (Nat.mod_lt _ (by omega)), hS, hZ, hR, eq, er]

theorem refWrite_case1 (N : Int) (w : World) (h0 : 1 ≤ N) (hl : N ≤ 90000000) :
    Calls Tryd.prog 47 #[.int .i64 (-N), .int .i64 0] w fun e w' => e = .returned (.tuple #[.string ⟨(numS N.toNat ++ [83]).toArray⟩, .int .i64 0]) ∧ Q w w' := by
  obtain ⟨S, hS⟩ : ∃ S : ByteArray, S.data.toList = Lib.decDigits (N / 1000000).toNat := ⟨⟨(Lib.decDigits (N / 1000000).toNat).toArray⟩, rfl⟩
  obtain ⟨R, hR⟩ : ∃ S : ByteArray, S.data.toList = ld (N % 1000000).toNat 6 := ⟨⟨(ld (N % 1000000).toNat 6).toArray⟩, rfl⟩
  obtain ⟨Z, hZ⟩ : ∃ S : ByteArray, S.data.toList = Lib.trimRightB R.data.toList 48 := ⟨⟨(Lib.trimRightB R.data.toList 48).toArray⟩, rfl⟩
  have eq : (N / 1000000).toNat = N.toNat / 1000000 := by omega
  have er : (N % 1000000).toNat = N.toNat % 1000000 := by omega
  have sS : S.size ≤ 20 := by
    rw [size_len, hS]
    have := dec_len3 (u := (N / 1000000).toNat) (by omega)
    omega
  have sR : R.size ≤ 6 := by rw [size_len, hR, ld_len]; omega
  have sZ : Z.size ≤ 6 := by
    rw [size_len, hZ]
    obtain ⟨k, hk⟩ := strip R.data.toList
    have := congrArg List.length hk
    rw [List.length_append, ← size_len] at this
    omega
  refine rw_1 N (N / 1000000) (N % 1000000) S R Z w h0 hl rfl rfl hS sS hR sR hZ sZ ⟨(numS N.toNat ++ [83]).toArray⟩ ?_
  show (numS N.toNat ++ [83]) = _
  unfold numS
  rw [frac_ld _ (Nat.mod_lt _ (by omega)), hS, hZ, hR, eq, er]

theorem refWrite_case2 (N : Int) (w : World) (h0 : 0 ≤ N) (hl : N ≤ 180000000) :
    Calls Tryd.prog 47 #[.int .i64 N, .int .i64 1] w fun e w' => e = .returned (.tuple #[.string ⟨(numS N.toNat ++ [69]).toArray⟩, .int .i64 0]) ∧ Q w w' := by
  obtain ⟨S, hS⟩ : ∃ S : ByteArray, S.data.toList = Lib.decDigits (N / 1000000).toNat := ⟨⟨(Lib.decDigits (N / 1000000).toNat).toArray⟩, rfl⟩
  obtain ⟨R, hR⟩ : ∃ S : ByteArray, S.data.toList = ld (N % 1000000).toNat 6 := ⟨⟨(ld (N % 1000000).toNat 6).toArray⟩, rfl⟩
  obtain ⟨Z, hZ⟩ : ∃ S : ByteArray, S.data.toList = Lib.trimRightB R.data.toList 48 := ⟨⟨(Lib.trimRightB R.data.toList 48).toArray⟩, rfl⟩
  have eq : (N / 1000000).toNat = N.toNat / 1000000 := by omega
  have er : (N % 1000000).toNat = N.toNat % 1000000 := by omega
  have sS : S.size ≤ 20 := by
    rw [size_len, hS]
    have := dec_len3 (u := (N / 1000000).toNat) (by omega)
    omega
  have sR : R.size ≤ 6 := by rw [size_len, hR, ld_len]; omega
  have sZ : Z.size ≤ 6 := by
    rw [size_len, hZ]
    obtain ⟨k, hk⟩ := strip R.data.toList
    have := congrArg List.length hk
    rw [List.length_append, ← size_len] at this
    omega
  refine rw_2 N (N / 1000000) (N % 1000000) S R Z w h0 hl rfl rfl hS sS hR sR hZ sZ ⟨(numS N.toNat ++ [69]).toArray⟩ ?_
  show (numS N.toNat ++ [69]) = _
  unfold numS
  rw [frac_ld _ (Nat.mod_lt _ (by omega)), hS, hZ, hR, eq, er]

theorem refWrite_case3 (N : Int) (w : World) (h0 : 1 ≤ N) (hl : N ≤ 180000000) :
    Calls Tryd.prog 47 #[.int .i64 (-N), .int .i64 1] w fun e w' => e = .returned (.tuple #[.string ⟨(numS N.toNat ++ [87]).toArray⟩, .int .i64 0]) ∧ Q w w' := by
  obtain ⟨S, hS⟩ : ∃ S : ByteArray, S.data.toList = Lib.decDigits (N / 1000000).toNat := ⟨⟨(Lib.decDigits (N / 1000000).toNat).toArray⟩, rfl⟩
  obtain ⟨R, hR⟩ : ∃ S : ByteArray, S.data.toList = ld (N % 1000000).toNat 6 := ⟨⟨(ld (N % 1000000).toNat 6).toArray⟩, rfl⟩
  obtain ⟨Z, hZ⟩ : ∃ S : ByteArray, S.data.toList = Lib.trimRightB R.data.toList 48 := ⟨⟨(Lib.trimRightB R.data.toList 48).toArray⟩, rfl⟩
  have eq : (N / 1000000).toNat = N.toNat / 1000000 := by omega
  have er : (N % 1000000).toNat = N.toNat % 1000000 := by omega
  have sS : S.size ≤ 20 := by
    rw [size_len, hS]
    have := dec_len3 (u := (N / 1000000).toNat) (by omega)
    omega
  have sR : R.size ≤ 6 := by rw [size_len, hR, ld_len]; omega
  have sZ : Z.size ≤ 6 := by
    rw [size_len, hZ]
    obtain ⟨k, hk⟩ := strip R.data.toList
    have := congrArg List.length hk
    rw [List.length_append, ← size_len] at this
    omega
  refine rw_3 N (N / 1000000) (N % 1000000) S R Z w h0 hl rfl rfl hS sS hR sR hZ sZ ⟨(numS N.toNat ++ [87]).toArray⟩ ?_
  show (numS N.toNat ++ [87]) = _
  unfold numS
  rw [frac_ld _ (Nat.mod_lt _ (by omega)), hS, hZ, hR, eq, er]

theorem refWrite_any (a x : Int) (w : World) (ha : -9223372036854775808 ≤ a ∧ a ≤ 9223372036854775807) :
    Calls Tryd.prog 47 #[.int .i64 a, .int .i64 x] w fun e w' => e = .returned (t2 (writeS a x)) ∧ Q w w' := by
  unfold writeS wr
  by_cases h0 : x = 0
  · subst h0
    rw [if_pos rfl]
    by_cases o : a < -90000000 ∨ 90000000 < a
    · rw [if_pos o]
      rcases o with o | o
      · exact rw_lo0 a w o
      · exact rw_hi0 a w o
    · rw [if_neg o]
      by_cases k : a < 0
      · obtain ⟨N, rfl⟩ : ∃ N, a = -N := ⟨-a, by omega⟩
        rw [if_pos k, show (-N).natAbs = N.toNat by omega]
        exact refWrite_case1 N w (by omega) (by omega)
      · rw [if_neg k, show a.natAbs = a.toNat by omega]
        exact refWrite_case0 a w (by omega) (by omega)
  · rw [if_neg h0]
    by_cases h1 : x = 1
    · subst h1
      rw [if_pos rfl]
      by_cases o : a < -180000000 ∨ 180000000 < a
      · rw [if_pos o]
        rcases o with o | o
        · exact rw_lo1 a w o
        · exact rw_hi1 a w o
      · rw [if_neg o]
        by_cases k : a < 0
        · obtain ⟨N, rfl⟩ : ∃ N, a = -N := ⟨-a, by omega⟩
          rw [if_pos k, show (-N).natAbs = N.toNat by omega]
          exact refWrite_case3 N w (by omega) (by omega)
        · rw [if_neg k, show a.natAbs = a.toNat by omega]
          exact refWrite_case2 a w (by omega) (by omega)
    · rw [if_neg h1]
      exact rw_none a x w h0 h1

abbrev RC2 (f : FuncId) (s : ByteArray) (a k e : Int) : Prop := ∀ w, Tables w → Calls Tryd.prog f #[.string s] w fun o w' => o = .returned (.tuple #[.int .i64 a, .int .i64 k, .int .i64 e]) ∧ Q w w'
abbrev WC2 (f : FuncId) (a x : Int) (t : ByteArray) (e : Int) : Prop := ∀ w, Tables w → Calls Tryd.prog f #[.int .i64 a, .int .i64 x] w fun o w' => o = .returned (.tuple #[.string t, .int .i64 e]) ∧ Q w w'

set_option maxRecDepth 100000 in
set_option maxHeartbeats 2000000 in
theorem strings_law (a x n k e1 e2 : Int) (s t : ByteArray) (w : World) (T : Tables w) (R1 : Hid (RC2 44 s n k e1)) (R2 : Hid (RC2 45 s n k e1)) (W1 : Hid (WC2 46 a x t e2)) (W2 : Hid (WC2 47 a x t e2)) :
    Calls Tryd.prog 12 #[.string s, .int .i64 a, .int .i64 x] w fun e w' => e = .returned (.bool true) ∧ Q w w' := by
  have HT := Lib.hid T
  clear T
  go_enter Tryd.func12, Tryd.ntmps12
  go_wp2_with fail
  refine (R1.out _ HT.out).mono ?_
  rintro e w1 ⟨rfl, Q1⟩
  go_wp2_with fail
  refine (R2.out _ (HT.out.mono Q1)).mono ?_
  rintro e w2 ⟨rfl, Q2⟩
  replace Q1 := Q1.trans Q2
  clear Q2
  go_wp2_with fail
  refine (W1.out _ (HT.out.mono Q1)).mono ?_
  rintro e w3 ⟨rfl, Q2⟩
  replace Q1 := Q1.trans Q2
  clear Q2
  go_wp2_with fail
  refine (W2.out _ (HT.out.mono Q1)).mono ?_
  rintro e w4 ⟨rfl, Q2⟩
  replace Q1 := Q1.trans Q2
  clear Q2 R1 R2 W1 W2
  go_wp2_with fail
  refine (Awake_any _ (HT.out.mono Q1)).mono ?_
  rintro e w5 ⟨rfl, Q2⟩
  go_wp2_with fail
  go_ret
  exact ⟨rfl, Q1.trans Q2⟩

theorem angleStrings_all (s : ByteArray) (a x : Int) (hs : s.size ≤ maxLen) (ha : (Lit.int .i64 a).wf = true) (hx : (Lit.int .i64 x).wf = true) (w : World) (T : Tables w) :
    Calls Tryd.prog 12 #[.string s, .int .i64 a, .int .i64 x] w fun e w' => e = .returned (.bool true) ∧ Q w w' := by
  have ha := bounds_i64 ha
  have hm : s.size ≤ 9223372036854775807 := by unfold maxLen at hs; omega
  exact strings_law a x (readS s.data.toList).1 (readS s.data.toList).2.1 (readS s.data.toList).2.2 (writeS a x).2 s ⟨(writeS a x).1.toArray⟩ w T
    (fun w T => Read_any s w T hm) (fun w _ => refRead_any s w hm) (fun w T => Write_any a x w T ha) (fun w _ => refWrite_any a x w ha)

end Go.Proofs.YtjbhnjnlpekpoaaDoor
