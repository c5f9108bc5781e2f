/-
  Write of package angle returns what the plain function says.
-/
import Derived.Test.YtjbhnjnlpekpoaaDoorWriteW
import Derived.Test.YtjbhnjnlpekpoaaDoorStrQ
namespace Go.Proofs.YtjbhnjnlpekpoaaDoor
open Go.RowKit Go.Sort
set_option linter.unusedVariables false

abbrev t2 (r : List UInt8 × Int) : Value := .tuple #[.string ⟨r.1.toArray⟩, .int .i64 r.2]

theorem itoa_pos (q : Int) (h : 0 ≤ q) : Lib.itoa q = Lib.decDigits q.toNat := by
  unfold Lib.itoa
  rw [if_neg (by omega)]

theorem Write_case0 (N : Int) (w : World) (T : Tables w) (h0 : 0 ≤ N) (hl : N ≤ 90000000) :
    Calls Tryd.prog 46 #[.int .i64 N, .int .i64 0] w fun e w' => e = .returned (.tuple #[.string ⟨(numS N.toNat ++ [78]).toArray⟩, .int .i64 0]) ∧ Q w w' := by
  have hq0 : 0 ≤ N / 1000000 := by omega
  obtain ⟨S, hS⟩ : ∃ S : ByteArray, S.data.toList = Lib.itoa (N / 1000000) := ⟨⟨(Lib.itoa (N / 1000000)).toArray⟩, rfl⟩
  have eS : Lib.itoa (N / 1000000) = Lib.decDigits (N.toNat / 1000000) := by rw [itoa_pos _ hq0]; congr 1; omega
  have sS : S.size ≤ 20 := by
    rw [size_len, hS, eS]
    have := dec_len3 (u := N.toNat / 1000000) (by omega)
    omega
  by_cases hr : N % 1000000 = 0
  · refine (Write_0 N (N / 1000000) (N % 1000000) S w T h0 hl rfl rfl hS sS hr).mono ?_
    rintro e w' ⟨rfl, hq⟩
    refine ⟨?_, hq⟩
    congr 4
    refine congrArg Value.string (bytes_ext ?_)
    rw [app_toList, hS, eS]
    unfold numS frac6
    rw [if_pos (by omega), List.append_nil]
  · obtain ⟨S2, hS2⟩ : ∃ S : ByteArray, S.data.toList = Lib.itoa (1000000 + N % 1000000) := ⟨⟨(Lib.itoa (1000000 + N % 1000000)).toArray⟩, rfl⟩
    have eS2 : Lib.itoa (1000000 + N % 1000000) = Lib.decDigits (1000000 + N.toNat % 1000000) := by rw [itoa_pos _ (by omega)]; congr 1; omega
    have hz : S2.size = 7 := by rw [size_len, hS2, eS2]; exact dec_len7 (by omega)
    obtain ⟨Z, hZ⟩ : ∃ Z : ByteArray, Z.data.toList = Lib.trimRightB (S2.extract 1 7).data.toList 48 := ⟨⟨(Lib.trimRightB (S2.extract 1 7).data.toList 48).toArray⟩, rfl⟩
    have eZ : Z.data.toList = Lib.trimRightB ((Lib.decDigits (1000000 + N.toNat % 1000000)).drop 1) 48 := by
      rw [hZ, extract_toList, List.take_of_length_le (by rw [← size_len, hz]; omega), hS2, eS2]
    have sZ : Z.size ≤ 20 := by
      rw [size_len, eZ]
      have hm : N.toNat % 1000000 < 1000000 := Nat.mod_lt _ (by omega)
      obtain ⟨e1, e2, e3⟩ := dec_tail hm
      have := (strip_pad e1 e2 (by rw [e3]; omega)).2.1
      omega
    refine (Write_0f N (N / 1000000) (N % 1000000) S S2 Z w T h0 hl rfl rfl hS sS (by omega) hS2 hz hZ sZ).mono ?_
    rintro e w' ⟨rfl, hq⟩
    refine ⟨?_, hq⟩
    congr 4
    refine congrArg Value.string (bytes_ext ?_)
    rw [app_toList, app_toList, app_toList, hS, eS, eZ]
    unfold numS frac6
    rw [if_neg (by omega)]
    rfl

theorem Write_case1 (N : Int) (w : World) (T : Tables w) (h0 : 1 ≤ N) (hl : N ≤ 90000000) :
    Calls Tryd.prog 46 #[.int .i64 (-N), .int .i64 0] w fun e w' => e = .returned (.tuple #[.string ⟨(numS N.toNat ++ [83]).toArray⟩, .int .i64 0]) ∧ Q w w' := by
  have hq0 : 0 ≤ N / 1000000 := by omega
  obtain ⟨S, hS⟩ : ∃ S : ByteArray, S.data.toList = Lib.itoa (N / 1000000) := ⟨⟨(Lib.itoa (N / 1000000)).toArray⟩, rfl⟩
  have eS : Lib.itoa (N / 1000000) = Lib.decDigits (N.toNat / 1000000) := by rw [itoa_pos _ hq0]; congr 1; omega
  have sS : S.size ≤ 20 := by
    rw [size_len, hS, eS]
    have := dec_len3 (u := N.toNat / 1000000) (by omega)
    omega
  by_cases hr : N % 1000000 = 0
  · refine (Write_1 N (N / 1000000) (N % 1000000) S w T h0 hl rfl rfl hS sS hr).mono ?_
    rintro e w' ⟨rfl, hq⟩
    refine ⟨?_, hq⟩
    congr 4
    refine congrArg Value.string (bytes_ext ?_)
    rw [app_toList, hS, eS]
    unfold numS frac6
    rw [if_pos (by omega), List.append_nil]
  · obtain ⟨S2, hS2⟩ : ∃ S : ByteArray, S.data.toList = Lib.itoa (1000000 + N % 1000000) := ⟨⟨(Lib.itoa (1000000 + N % 1000000)).toArray⟩, rfl⟩
    have eS2 : Lib.itoa (1000000 + N % 1000000) = Lib.decDigits (1000000 + N.toNat % 1000000) := by rw [itoa_pos _ (by omega)]; congr 1; omega
    have hz : S2.size = 7 := by rw [size_len, hS2, eS2]; exact dec_len7 (by omega)
    obtain ⟨Z, hZ⟩ : ∃ Z : ByteArray, Z.data.toList = Lib.trimRightB (S2.extract 1 7).data.toList 48 := ⟨⟨(Lib.trimRightB (S2.extract 1 7).data.toList 48).toArray⟩, rfl⟩
    have eZ : Z.data.toList = Lib.trimRightB ((Lib.decDigits (1000000 + N.toNat % 1000000)).drop 1) 48 := by
      rw [hZ, extract_toList, List.take_of_length_le (by rw [← size_len, hz]; omega), hS2, eS2]
    have sZ : Z.size ≤ 20 := by
      rw [size_len, eZ]
      have hm : N.toNat % 1000000 < 1000000 := Nat.mod_lt _ (by omega)
      obtain ⟨e1, e2, e3⟩ := dec_tail hm
      have := (strip_pad e1 e2 (by rw [e3]; omega)).2.1
      omega
    refine (Write_1f N (N / 1000000) (N % 1000000) S S2 Z w T h0 hl rfl rfl hS sS (by omega) hS2 hz hZ sZ).mono ?_
    rintro e w' ⟨rfl, hq⟩
    refine ⟨?_, hq⟩
    congr 4
    refine congrArg Value.string (bytes_ext ?_)
    rw [app_toList, app_toList, app_toList, hS, eS, eZ]
    unfold numS frac6
    rw [if_neg (by omega)]
    rfl

theorem Write_case2 (N : Int) (w : World) (T : Tables w) (h0 : 0 ≤ N) (hl : N ≤ 180000000) :
    Calls Tryd.prog 46 #[.int .i64 N, .int .i64 1] w fun e w' => e = .returned (.tuple #[.string ⟨(numS N.toNat ++ [69]).toArray⟩, .int .i64 0]) ∧ Q w w' := by
  have hq0 : 0 ≤ N / 1000000 := by omega
  obtain ⟨S, hS⟩ : ∃ S : ByteArray, S.data.toList = Lib.itoa (N / 1000000) := ⟨⟨(Lib.itoa (N / 1000000)).toArray⟩, rfl⟩
  have eS : Lib.itoa (N / 1000000) = Lib.decDigits (N.toNat / 1000000) := by rw [itoa_pos _ hq0]; congr 1; omega
  have sS : S.size ≤ 20 := by
    rw [size_len, hS, eS]
    have := dec_len3 (u := N.toNat / 1000000) (by omega)
    omega
  by_cases hr : N % 1000000 = 0
  · refine (Write_2 N (N / 1000000) (N % 1000000) S w T h0 hl rfl rfl hS sS hr).mono ?_
    rintro e w' ⟨rfl, hq⟩
    refine ⟨?_, hq⟩
    congr 4
    refine congrArg Value.string (bytes_ext ?_)
    rw [app_toList, hS, eS]
    unfold numS frac6
    rw [if_pos (by omega), List.append_nil]
  · obtain ⟨S2, hS2⟩ : ∃ S : ByteArray, S.data.toList = Lib.itoa (1000000 + N % 1000000) := ⟨⟨(Lib.itoa (1000000 + N % 1000000)).toArray⟩, rfl⟩
    have eS2 : Lib.itoa (1000000 + N % 1000000) = Lib.decDigits (1000000 + N.toNat % 1000000) := by rw [itoa_pos _ (by omega)]; congr 1; omega
    have hz : S2.size = 7 := by rw [size_len, hS2, eS2]; exact dec_len7 (by omega)
    obtain ⟨Z, hZ⟩ : ∃ Z : ByteArray, Z.data.toList = Lib.trimRightB (S2.extract 1 7).data.toList 48 := ⟨⟨(Lib.trimRightB (S2.extract 1 7).data.toList 48).toArray⟩, rfl⟩
    have eZ : Z.data.toList = Lib.trimRightB ((Lib.decDigits (1000000 + N.toNat % 1000000)).drop 1) 48 := by
      rw [hZ, extract_toList, List.take_of_length_le (by rw [← size_len, hz]; omega), hS2, eS2]
    have sZ : Z.size ≤ 20 := by
      rw [size_len, eZ]
      have hm : N.toNat % 1000000 < 1000000 := Nat.mod_lt _ (by omega)
      obtain ⟨e1, e2, e3⟩ := dec_tail hm
      have := (strip_pad e1 e2 (by rw [e3]; omega)).2.1
      omega
    refine (Write_2f N (N / 1000000) (N % 1000000) S S2 Z w T h0 hl rfl rfl hS sS (by omega) hS2 hz hZ sZ).mono ?_
    rintro e w' ⟨rfl, hq⟩
    refine ⟨?_, hq⟩
    congr 4
    refine congrArg Value.string (bytes_ext ?_)
    rw [app_toList, app_toList, app_toList, hS, eS, eZ]
    unfold numS frac6
    rw [if_neg (by omega)]
    rfl

theorem Write_case3 (N : Int) (w : World) (T : Tables w) (h0 : 1 ≤ N) (hl : N ≤ 180000000) :
    Calls Tryd.prog 46 #[.int .i64 (-N), .int .i64 1] w fun e w' => e = .returned (.tuple #[.string ⟨(numS N.toNat ++ [87]).toArray⟩, .int .i64 0]) ∧ Q w w' := by
  have hq0 : 0 ≤ N / 1000000 := by omega
  obtain ⟨S, hS⟩ : ∃ S : ByteArray, S.data.toList = Lib.itoa (N / 1000000) := ⟨⟨(Lib.itoa (N / 1000000)).toArray⟩, rfl⟩
  have eS : Lib.itoa (N / 1000000) = Lib.decDigits (N.toNat / 1000000) := by rw [itoa_pos _ hq0]; congr 1; omega
  have sS : S.size ≤ 20 := by
    rw [size_len, hS, eS]
    have := dec_len3 (u := N.toNat / 1000000) (by omega)
    omega
  by_cases hr : N % 1000000 = 0
  · refine (Write_3 N (N / 1000000) (N % 1000000) S w T h0 hl rfl rfl hS sS hr).mono ?_
    rintro e w' ⟨rfl, hq⟩
    refine ⟨?_, hq⟩
    congr 4
    refine congrArg Value.string (bytes_ext ?_)
    rw [app_toList, hS, eS]
    unfold numS frac6
    rw [if_pos (by omega), List.append_nil]
  · obtain ⟨S2, hS2⟩ : ∃ S : ByteArray, S.data.toList = Lib.itoa (1000000 + N % 1000000) := ⟨⟨(Lib.itoa (1000000 + N % 1000000)).toArray⟩, rfl⟩
    have eS2 : Lib.itoa (1000000 + N % 1000000) = Lib.decDigits (1000000 + N.toNat % 1000000) := by rw [itoa_pos _ (by omega)]; congr 1; omega
    have hz : S2.size = 7 := by rw [size_len, hS2, eS2]; exact dec_len7 (by omega)
    obtain ⟨Z, hZ⟩ : ∃ Z : ByteArray, Z.data.toList = Lib.trimRightB (S2.extract 1 7).data.toList 48 := ⟨⟨(Lib.trimRightB (S2.extract 1 7).data.toList 48).toArray⟩, rfl⟩
    have eZ : Z.data.toList = Lib.trimRightB ((Lib.decDigits (1000000 + N.toNat % 1000000)).drop 1) 48 := by
      rw [hZ, extract_toList, List.take_of_length_le (by rw [← size_len, hz]; omega), hS2, eS2]
    have sZ : Z.size ≤ 20 := by
      rw [size_len, eZ]
      have hm : N.toNat % 1000000 < 1000000 := Nat.mod_lt _ (by omega)
      obtain ⟨e1, e2, e3⟩ := dec_tail hm
      have := (strip_pad e1 e2 (by rw [e3]; omega)).2.1
      omega
    refine (Write_3f N (N / 1000000) (N % 1000000) S S2 Z w T h0 hl rfl rfl hS sS (by omega) hS2 hz hZ sZ).mono ?_
    rintro e w' ⟨rfl, hq⟩
    refine ⟨?_, hq⟩
    congr 4
    refine congrArg Value.string (bytes_ext ?_)
    rw [app_toList, app_toList, app_toList, hS, eS, eZ]
    unfold numS frac6
    rw [if_neg (by omega)]
    rfl

theorem Write_any (a x : Int) (w : World) (T : Tables w) (ha : -9223372036854775808 ≤ a ∧ a ≤ 9223372036854775807) :
    Calls Tryd.prog 46 #[.int .i64 a, .int .i64 x] w fun e w' => e = .returned (t2 (writeS a x)) ∧ Q w w' := by
  unfold writeS wr
  by_cases h0 : x = 0
  · subst h0
    rw [if_pos rfl]
    by_cases k : a < 0
    · obtain ⟨N, rfl⟩ : ∃ N, a = -N := ⟨-a, by omega⟩
      rw [if_pos k]
      by_cases o : -N < -90000000 ∨ 90000000 < -N
      · rw [if_pos o]
        exact Write_1o N w T (by omega) (by omega)
      · rw [if_neg o, show (-N).natAbs = N.toNat by omega]
        exact Write_case1 N w T (by omega) (by omega)
    · rw [if_neg k]
      by_cases o : a < -90000000 ∨ 90000000 < a
      · rw [if_pos o]
        exact Write_0o a w T (by omega) (by omega) (by omega)
      · rw [if_neg o, show a.natAbs = a.toNat by omega]
        exact Write_case0 a w T (by omega) (by omega)
  · rw [if_neg h0]
    by_cases h1 : x = 1
    · subst h1
      rw [if_pos rfl]
      by_cases k : a < 0
      · obtain ⟨N, rfl⟩ : ∃ N, a = -N := ⟨-a, by omega⟩
        rw [if_pos k]
        by_cases o : -N < -180000000 ∨ 180000000 < -N
        · rw [if_pos o]
          exact Write_3o N w T (by omega) (by omega)
        · rw [if_neg o, show (-N).natAbs = N.toNat by omega]
          exact Write_case3 N w T (by omega) (by omega)
      · rw [if_neg k]
        by_cases o : a < -180000000 ∨ 180000000 < a
        · rw [if_pos o]
          exact Write_2o a w T (by omega) (by omega) (by omega)
        · rw [if_neg o, show a.natAbs = a.toNat by omega]
          exact Write_case2 a w T (by omega) (by omega)
    · rw [if_neg h1]
      exact Write_none a x w T h0 h1

end Go.Proofs.YtjbhnjnlpekpoaaDoor
