/-
  Read of package angle returns what the plain function says.
-/
import Derived.Test.YtjbhnjnlpekpoaaDoorReadW
namespace Go.Proofs.YtjbhnjnlpekpoaaDoor
open Go.RowKit Go.Sort
set_option linter.unusedVariables false

theorem dot_is (r : List UInt8) : Lib.hasPrefix r [46] = dot r := by
  unfold Lib.hasPrefix dot
  cases r with
  | nil => rfl
  | cons b t =>
    simp [List.isPrefixOf]
    by_cases h : b = 46
    · rw [h]
    · have h1 : (46 == b) = false := by rw [beq_eq_false_iff_ne]; exact fun e => h e.symm
      have h2 : (b == 46) = false := by rw [beq_eq_false_iff_ne]; exact h
      rw [h1, h2]
theorem trim_dot (r : List UInt8) : Lib.trimPrefix r [46] = if dot r then r.drop 1 else r := by
  unfold Lib.trimPrefix
  rw [dot_is]
  rfl

abbrev t3 (r : Int × Int × Int) : Value := .tuple #[.int .i64 r.1, .int .i64 r.2.1, .int .i64 r.2.2]

theorem readN_int (w p : List UInt8) : ((readN w p : Nat) : Int) = ((readN w p : Nat) : Int) := rfl

theorem atoi_good (w p : List UInt8) (h0 : w ≠ []) (hw : ∀ b ∈ w, isD b = true) (hp : ∀ b ∈ p, isD b = true) : Lib.atoi (w ++ pad p) = some ((readN w p : Nat) : Int) := by
  rw [← readN_one]
  refine atoi_val _ (by simp [h0]) (fun b hb => ?_)
  rw [List.mem_append] at hb
  rcases hb with k | k
  · exact hw b k
  · exact pad_isD p hp b k

theorem Read_any (s : ByteArray) (w : World) (T : Tables w) (hm : s.size ≤ 9223372036854775807) :
    Calls Tryd.prog 44 #[.string s] w fun e w' => e = .returned (t3 (readS s.data.toList)) ∧ Q w w' := by
  unfold readS
  by_cases h20 : 20 < s.data.toList.length
  · rw [if_pos h20]
    exact Read_long s w (by rw [size_len]; exact h20) hm
  rw [if_neg h20]
  have hs : s.size ≤ 20 := by rw [size_len]; omega
  obtain ⟨A, hA⟩ : ∃ A : ByteArray, A.data.toList = s.data.toList.takeWhile isD := ⟨⟨(s.data.toList.takeWhile isD).toArray⟩, rfl⟩
  obtain ⟨R, hR⟩ : ∃ R : ByteArray, R.data.toList = s.data.toList.dropWhile isD := ⟨⟨(s.data.toList.dropWhile isD).toArray⟩, rfl⟩
  have hRs : R.size ≤ 20 := by
    rw [size_len, hR]
    have := drop_le s.data.toList
    omega
  have hAd : ∀ b ∈ A.data.toList, isD b = true := by rw [hA]; exact take_isD _
  rw [← hA, ← hR]
  by_cases hd : dot R.data.toList = true
  · obtain ⟨U, hU⟩ : ∃ U : ByteArray, U.data.toList = R.data.toList.drop 1 := ⟨⟨(R.data.toList.drop 1).toArray⟩, rfl⟩
    have hUs : U.size ≤ 20 := by
      rw [size_len, hU, List.length_drop, ← size_len]
      omega
    obtain ⟨P, hP⟩ : ∃ P : ByteArray, P.data.toList = U.data.toList.takeWhile isD := ⟨⟨(U.data.toList.takeWhile isD).toArray⟩, rfl⟩
    obtain ⟨V, hV⟩ : ∃ V : ByteArray, V.data.toList = U.data.toList.dropWhile isD := ⟨⟨(U.data.toList.dropWhile isD).toArray⟩, rfl⟩
    have hPd : ∀ b ∈ P.data.toList, isD b = true := by rw [hP]; exact take_isD _
    have eP : partOf R.data.toList = P.data.toList := by unfold partOf; rw [if_pos hd, hP, hU]
    have eV : tailOf R.data.toList = V.data.toList := by unfold tailOf; rw [if_pos hd, hV, hU]
    have hU' : U.data.toList = Lib.trimPrefix R.data.toList [46] := by rw [trim_dot, if_pos hd, hU]
    have hd' : true = Lib.hasPrefix R.data.toList [46] := by rw [dot_is, hd]
    rw [eP, eV]
    by_cases hb : A.data.toList = [] ∨ 3 < A.data.toList.length ∨ P.data.toList = [] ∨ 6 < P.data.toList.length
    · rw [if_pos hb]
      refine Read_form_dot s A R U P V w hs hA hR hU' hd' hUs hP hV ?_
      rw [size_len, size_len]
      by_cases k1 : A.data.toList = []
      · exact .inl k1
      · by_cases k2 : 3 < A.data.toList.length
        · exact .inr (.inl ⟨k1, k2⟩)
        · by_cases k3 : P.data.toList = []
          · exact .inr (.inr (.inl ⟨k1, by omega, k3⟩))
          · refine .inr (.inr (.inr ⟨k1, by omega, k3, ?_⟩))
            rcases hb with k | k | k | k
            · exact absurd k k1
            · exact absurd k k2
            · exact absurd k k3
            · exact k
    · rw [if_neg hb]
      simp only [not_or] at hb
      obtain ⟨g1, g2, g3, g4⟩ := hb
      have gA : A.size ≤ 3 := by rw [size_len]; omega
      have gP : P.size ≤ 6 := by rw [size_len]; omega
      have hn := atoi_good A.data.toList P.data.toList g1 hAd hPd
      have hl := readN_lt A.data.toList P.data.toList hAd hPd (by omega)
      generalize readN A.data.toList P.data.toList = n at *
      unfold fin
      split
      · rename_i hv
        have hv' : V = ⟨#[78]⟩ := bytes_ext hv
        split
        · exact Read_d_0o s A R U P V w hs hA hR hU' hd' hUs hP hV T n (by omega) g1 gA g3 gP hn hv' (by omega)
        · exact Read_d_0 s A R U P V w hs hA hR hU' hd' hUs hP hV T n (by omega) g1 gA g3 gP hn hv' (by omega)
      · rename_i n0
        split
        · rename_i hv
          have hv' : V = ⟨#[83]⟩ := bytes_ext hv
          split
          · exact Read_d_1o s A R U P V w hs hA hR hU' hd' hUs hP hV T n (by omega) g1 gA g3 gP hn hv' (by omega)
          · exact Read_d_1 s A R U P V w hs hA hR hU' hd' hUs hP hV T n (by omega) g1 gA g3 gP hn hv' (by omega)
        · rename_i n1
          split
          · rename_i hv
            have hv' : V = ⟨#[69]⟩ := bytes_ext hv
            split
            · exact Read_d_2o s A R U P V w hs hA hR hU' hd' hUs hP hV T n (by omega) g1 gA g3 gP hn hv' (by omega)
            · exact Read_d_2 s A R U P V w hs hA hR hU' hd' hUs hP hV T n (by omega) g1 gA g3 gP hn hv' (by omega)
          · rename_i n2
            split
            · rename_i hv
              have hv' : V = ⟨#[87]⟩ := bytes_ext hv
              split
              · exact Read_d_3o s A R U P V w hs hA hR hU' hd' hUs hP hV T n (by omega) g1 gA g3 gP hn hv' (by omega)
              · exact Read_d_3 s A R U P V w hs hA hR hU' hd' hUs hP hV T n (by omega) g1 gA g3 gP hn hv' (by omega)
            · rename_i n3
              exact Read_d_n s A R U P V w hs hA hR hU' hd' hUs hP hV T n (by omega) g1 gA g3 gP hn ⟨n0, n1, n2, n3⟩
  · have hd0 : dot R.data.toList = false := by simpa using hd
    have eP : partOf R.data.toList = [48] := by unfold partOf; rw [if_neg hd]
    have eV : tailOf R.data.toList = R.data.toList := by unfold tailOf; rw [if_neg hd]
    have hU' : R.data.toList = Lib.trimPrefix R.data.toList [46] := by rw [trim_dot, if_neg hd]
    have hd' : false = Lib.hasPrefix R.data.toList [46] := by rw [dot_is, hd0]
    rw [eP, eV]
    by_cases hb : A.data.toList = [] ∨ 3 < A.data.toList.length ∨ ([48] : List UInt8) = [] ∨ 6 < ([48] : List UInt8).length
    · rw [if_pos hb]
      refine Read_form_plain s A R w hs hA hR hU' hd' ?_
      rw [size_len]
      by_cases k1 : A.data.toList = []
      · exact .inl k1
      · refine .inr ⟨k1, ?_⟩
        rcases hb with k | k | k | k
        · exact absurd k k1
        · exact k
        · cases k
        · simp at k
    · rw [if_neg hb]
      simp only [not_or] at hb
      obtain ⟨g1, g2, _, _⟩ := hb
      have gA : A.size ≤ 3 := by rw [size_len]; omega
      have h48 : ∀ b ∈ ([48] : List UInt8), isD b = true := fun b hb => by
        have : b = 48 := by simpa using hb
        rw [this]; decide
      have hn := atoi_good A.data.toList [48] g1 hAd h48
      have hl := readN_lt A.data.toList [48] hAd h48 (by omega)
      generalize readN A.data.toList [48] = n at *
      unfold fin
      split
      · rename_i hv
        have hv' : R = ⟨#[78]⟩ := bytes_ext hv
        split
        · exact Read_p_0o s A R w hs hA hR hU' hd' T n (by omega) g1 gA hn hv' (by omega)
        · exact Read_p_0 s A R w hs hA hR hU' hd' T n (by omega) g1 gA hn hv' (by omega)
      · rename_i n0
        split
        · rename_i hv
          have hv' : R = ⟨#[83]⟩ := bytes_ext hv
          split
          · exact Read_p_1o s A R w hs hA hR hU' hd' T n (by omega) g1 gA hn hv' (by omega)
          · exact Read_p_1 s A R w hs hA hR hU' hd' T n (by omega) g1 gA hn hv' (by omega)
        · rename_i n1
          split
          · rename_i hv
            have hv' : R = ⟨#[69]⟩ := bytes_ext hv
            split
            · exact Read_p_2o s A R w hs hA hR hU' hd' T n (by omega) g1 gA hn hv' (by omega)
            · exact Read_p_2 s A R w hs hA hR hU' hd' T n (by omega) g1 gA hn hv' (by omega)
          · rename_i n2
            split
            · rename_i hv
              have hv' : R = ⟨#[87]⟩ := bytes_ext hv
              split
              · exact Read_p_3o s A R w hs hA hR hU' hd' T n (by omega) g1 gA hn hv' (by omega)
              · exact Read_p_3 s A R w hs hA hR hU' hd' T n (by omega) g1 gA hn hv' (by omega)
            · rename_i n3
              exact Read_p_n s A R w hs hA hR hU' hd' T n (by omega) g1 gA hn ⟨n0, n1, n2, n3⟩

end Go.Proofs.YtjbhnjnlpekpoaaDoor
