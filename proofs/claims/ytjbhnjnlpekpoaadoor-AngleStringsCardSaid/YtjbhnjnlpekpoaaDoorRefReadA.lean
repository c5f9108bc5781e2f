/-
  The document's Read returns what the plain function says.
-/
import Derived.Test.YtjbhnjnlpekpoaaDoorRefRead
namespace Go.Proofs.YtjbhnjnlpekpoaaDoor
open Go.RowKit Go.Sort
set_option linter.unusedVariables false

abbrev s3 (r : Int × Int × Int) : Value := .tuple #[.int .i64 r.1, .int .i64 r.2.1, .int .i64 r.2.2]

theorem take_len (l : List UInt8) : l.take (l.takeWhile isD).length = l.takeWhile isD := by
  have h := List.takeWhile_append_dropWhile (p := isD) (l := l)
  have k : ((l.takeWhile isD) ++ (l.dropWhile isD)).take (l.takeWhile isD).length = l.takeWhile isD := List.take_left' rfl
  rw [h] at k
  exact k
theorem drop_len (l : List UInt8) : l.drop (l.takeWhile isD).length = l.dropWhile isD := by
  have h := List.takeWhile_append_dropWhile (p := isD) (l := l)
  have k : ((l.takeWhile isD) ++ (l.dropWhile isD)).drop (l.takeWhile isD).length = l.dropWhile isD := List.drop_left' rfl
  rw [h] at k
  exact k
theorem tw_le (l : List UInt8) : (l.takeWhile isD).length ≤ l.length := by
  have h := List.takeWhile_append_dropWhile (p := isD) (l := l)
  have := congrArg List.length h
  rw [List.length_append] at this
  omega
theorem first_at {R : ByteArray} {c : UInt8} {t : List UInt8} (h : R.data.toList = c :: t) : ∃ z0 : 0 < R.size, R[0]'z0 = c := by
  have z0 : 0 < R.size := by rw [size_len, h]; simp
  refine ⟨z0, ?_⟩
  rw [← at_list R 0 z0]
  simp [h]
theorem dot_yes {R : ByteArray} (h : dot R.data.toList = true) : ∃ z0 : 0 < R.size, (((R[0]'z0).toNat : Int) == 46) = true := by
  cases hl : R.data.toList with
  | nil => rw [hl] at h; cases h
  | cons c t =>
    obtain ⟨z0, hz⟩ := first_at hl
    rw [hl] at h
    unfold dot at h
    have : c = 46 := by simpa using h
    exact ⟨z0, by rw [hz, this]; rfl⟩
theorem dot_no {R : ByteArray} (h : dot R.data.toList = false) : R.size = 0 ∨ ∃ z0 : 0 < R.size, (((R[0]'z0).toNat : Int) == 46) = false := by
  cases hl : R.data.toList with
  | nil => left; rw [size_len, hl]; rfl
  | cons c t =>
    right
    obtain ⟨z0, hz⟩ := first_at hl
    rw [hl] at h
    unfold dot at h
    have hc : c ≠ 46 := by simpa using h
    refine ⟨z0, ?_⟩
    rw [hz, beq_eq_false_iff_ne]
    intro e
    exact hc (UInt8.toNat_inj.1 (by show c.toNat = 46; omega))

theorem refRead_any (s : ByteArray) (w : World) (hm : s.size ≤ 9223372036854775807) :
    Calls Tryd.prog 45 #[.string s] w fun e w' => e = .returned (s3 (readS s.data.toList)) ∧ Q w w' := by
  unfold readS
  by_cases h20 : 20 < s.data.toList.length
  · rw [if_pos h20]
    exact rr_long s w (by rw [size_len]; exact h20) hm
  rw [if_neg h20]
  have hs : s.size ≤ 20 := by rw [size_len]; omega
  obtain ⟨K, hK⟩ : ∃ K : Nat, K = (s.data.toList.takeWhile isD).length := ⟨_, rfl⟩
  have hK' : (K : Int) = ((s.data.toList.takeWhile isD).length : Int) := by omega
  by_cases hk : K < 1 ∨ 3 < K
  · have hb : s.data.toList.takeWhile isD = [] ∨ 3 < (s.data.toList.takeWhile isD).length ∨ partOf (s.data.toList.dropWhile isD) = [] ∨ 6 < (partOf (s.data.toList.dropWhile isD)).length := by
      rcases hk with k | k
      · left; exact List.eq_nil_of_length_eq_zero (by omega)
      · right; left; omega
    rw [if_pos hb]
    exact rr_form s K w hs hK' hk
  obtain ⟨A, hA⟩ : ∃ A : ByteArray, A.data.toList = s.data.toList.takeWhile isD := ⟨⟨(s.data.toList.takeWhile isD).toArray⟩, rfl⟩
  obtain ⟨R, hR⟩ : ∃ R : ByteArray, R.data.toList = s.data.toList.dropWhile isD := ⟨⟨(s.data.toList.dropWhile isD).toArray⟩, rfl⟩
  have hRs : R.size ≤ 20 := by
    rw [size_len, hR]
    have := drop_le s.data.toList
    omega
  have sA : A.size ≤ 3 := by rw [size_len, hA]; omega
  have kl : K ≤ s.size := by rw [size_len, hK]; exact tw_le _
  have eA : s.extract 0 K = A := bytes_ext (by rw [extract_toList, hA, List.drop_zero, hK, take_len])
  have eR : s.extract K s.size = R := bytes_ext (by rw [extract_toList, hR, List.take_of_length_le (by rw [← size_len]; omega), hK, drop_len])
  have hAd : ∀ b ∈ A.data.toList, isD b = true := by rw [hA]; exact take_isD _
  have vA : val 0 A.data.toList < 1000 := by
    have a := val_lt A.data.toList 0 hAd
    have c : (10 : Nat) ^ A.data.toList.length ≤ 10 ^ 3 := Nat.pow_le_pow_right (by omega) (by rw [← size_len]; exact sA)
    omega
  have neA : A.data.toList ≠ [] := by
    intro e
    rw [hA] at e
    rw [e] at hK
    simp at hK
    omega
  rw [← hA, ← hR]
  by_cases hd : dot R.data.toList = true
  · obtain ⟨z0, hz⟩ := dot_yes hd
    obtain ⟨U, hU⟩ : ∃ U : ByteArray, U.data.toList = R.data.toList.drop 1 := ⟨⟨(R.data.toList.drop 1).toArray⟩, rfl⟩
    have sU : U.size ≤ 20 := by
      rw [size_len, hU, List.length_drop, ← size_len]
      omega
    have eU : R.extract 1 R.size = U := bytes_ext (by rw [extract_toList, hU, List.take_of_length_le (by rw [← size_len]; omega)])
    obtain ⟨J, hJ⟩ : ∃ J : Nat, J = (U.data.toList.takeWhile isD).length := ⟨_, rfl⟩
    have hJ' : (J : Int) = ((U.data.toList.takeWhile isD).length : Int) := by omega
    obtain ⟨P, hP⟩ : ∃ P : ByteArray, P.data.toList = U.data.toList.takeWhile isD := ⟨⟨(U.data.toList.takeWhile isD).toArray⟩, rfl⟩
    obtain ⟨V, hV⟩ : ∃ V : ByteArray, V.data.toList = U.data.toList.dropWhile isD := ⟨⟨(U.data.toList.dropWhile isD).toArray⟩, rfl⟩
    have hPd : ∀ b ∈ P.data.toList, isD b = true := by rw [hP]; exact take_isD _
    have eP : partOf R.data.toList = P.data.toList := by unfold partOf; rw [if_pos hd, hP, hU]
    have eV : tailOf R.data.toList = V.data.toList := by unfold tailOf; rw [if_pos hd, hV, hU]
    have lP : P.data.toList.length = J := by rw [hP, hJ]
    rw [eP, eV]
    by_cases hj : J < 1 ∨ 6 < J
    · have hb : A.data.toList = [] ∨ 3 < A.data.toList.length ∨ P.data.toList = [] ∨ 6 < P.data.toList.length := by
        rcases hj with k | k
        · right; right; left; exact List.eq_nil_of_length_eq_zero (by omega)
        · right; right; right; omega
      rw [if_pos hb]
      exact rr_form2 s A R K (val 0 A.data.toList : Nat) w hs hK' (by omega) (by omega) kl eA eR sA hRs hAd rfl (by omega) U J z0 hz eU sU hJ' hj
    · have hb : ¬ (A.data.toList = [] ∨ 3 < A.data.toList.length ∨ P.data.toList = [] ∨ 6 < P.data.toList.length) := by
        rw [← size_len]
        intro h
        rcases h with k | k | k | k
        · exact neA k
        · omega
        · rw [k] at lP; simp at lP; omega
        · omega
      rw [if_neg hb]
      have lU : J ≤ U.size := by rw [size_len, hJ]; exact tw_le _
      have lR : U.size = R.size - 1 := by rw [size_len, hU, List.length_drop, ← size_len]
      have jl : 1 + J ≤ R.size := by omega
      have xP : R.extract 1 (1 + J) = P := bytes_ext (by
        rw [extract_toList, hP, ← take_len U.data.toList, ← hJ, hU, List.take_drop])
      have xV : R.extract (1 + J) R.size = V := bytes_ext (by
        rw [extract_toList, hV, ← drop_len U.data.toList, ← hJ, hU, List.drop_drop, List.take_of_length_le (by rw [← size_len]; omega)])
      obtain ⟨PP, hPP⟩ : ∃ PP : ByteArray, PP.data.toList = pad P.data.toList := ⟨⟨(pad P.data.toList).toArray⟩, rfl⟩
      have xPP : (P ++ ⟨#[48, 48, 48, 48, 48, 48]⟩).extract 0 6 = PP := bytes_ext (by
        rw [extract_toList, ByteArray.data_append, Array.toList_append, hPP, List.drop_zero]
        rfl)
      have sPP : PP.size ≤ 6 := by rw [size_len, hPP, pad_length]; omega
      have sP : P.size ≤ 6 := by rw [size_len]; omega
      have sP1 : 1 ≤ P.size := by rw [size_len]; omega
      have dPP : ∀ b ∈ PP.data.toList, isD b = true := by rw [hPP]; exact pad_isD _ hPd
      have vP := val_small PP.data.toList dPP (by rw [← size_len]; exact sPP)
      have eN : ((val 0 A.data.toList : Nat) : Int) * 1000000 + ((val 0 PP.data.toList : Nat) : Int) = ((readN A.data.toList P.data.toList : Nat) : Int) := by
        unfold readN
        rw [← hPP]
        omega
      generalize hn : readN A.data.toList P.data.toList = n at *
      unfold fin
      split
      · rename_i hv
        have hv' : V = ⟨#[78]⟩ := bytes_ext hv
        split
        · exact rr_d_0o s A R K (val 0 A.data.toList : Nat) w hs hK' (by omega) (by omega) kl eA eR sA hRs hAd rfl (by omega) U J z0 hz eU sU hJ' P V PP (val 0 PP.data.toList : Nat) (by omega) (by omega) jl xP xV sP sP1 xPP sPP dPP rfl (by omega) n eN (by omega) hv' (by omega)
        · exact rr_d_0 s A R K (val 0 A.data.toList : Nat) w hs hK' (by omega) (by omega) kl eA eR sA hRs hAd rfl (by omega) U J z0 hz eU sU hJ' P V PP (val 0 PP.data.toList : Nat) (by omega) (by omega) jl xP xV sP sP1 xPP sPP dPP rfl (by omega) n eN (by omega) hv' (by omega)
      · rename_i n0
        split
        · rename_i hv
          have hv' : V = ⟨#[83]⟩ := bytes_ext hv
          split
          · exact rr_d_1o s A R K (val 0 A.data.toList : Nat) w hs hK' (by omega) (by omega) kl eA eR sA hRs hAd rfl (by omega) U J z0 hz eU sU hJ' P V PP (val 0 PP.data.toList : Nat) (by omega) (by omega) jl xP xV sP sP1 xPP sPP dPP rfl (by omega) n eN (by omega) hv' (by omega)
          · exact rr_d_1 s A R K (val 0 A.data.toList : Nat) w hs hK' (by omega) (by omega) kl eA eR sA hRs hAd rfl (by omega) U J z0 hz eU sU hJ' P V PP (val 0 PP.data.toList : Nat) (by omega) (by omega) jl xP xV sP sP1 xPP sPP dPP rfl (by omega) n eN (by omega) hv' (by omega)
        · rename_i n1'
          split
          · rename_i hv
            have hv' : V = ⟨#[69]⟩ := bytes_ext hv
            split
            · exact rr_d_2o s A R K (val 0 A.data.toList : Nat) w hs hK' (by omega) (by omega) kl eA eR sA hRs hAd rfl (by omega) U J z0 hz eU sU hJ' P V PP (val 0 PP.data.toList : Nat) (by omega) (by omega) jl xP xV sP sP1 xPP sPP dPP rfl (by omega) n eN (by omega) hv' (by omega)
            · exact rr_d_2 s A R K (val 0 A.data.toList : Nat) w hs hK' (by omega) (by omega) kl eA eR sA hRs hAd rfl (by omega) U J z0 hz eU sU hJ' P V PP (val 0 PP.data.toList : Nat) (by omega) (by omega) jl xP xV sP sP1 xPP sPP dPP rfl (by omega) n eN (by omega) hv' (by omega)
          · rename_i n2'
            split
            · rename_i hv
              have hv' : V = ⟨#[87]⟩ := bytes_ext hv
              split
              · exact rr_d_3o s A R K (val 0 A.data.toList : Nat) w hs hK' (by omega) (by omega) kl eA eR sA hRs hAd rfl (by omega) U J z0 hz eU sU hJ' P V PP (val 0 PP.data.toList : Nat) (by omega) (by omega) jl xP xV sP sP1 xPP sPP dPP rfl (by omega) n eN (by omega) hv' (by omega)
              · exact rr_d_3 s A R K (val 0 A.data.toList : Nat) w hs hK' (by omega) (by omega) kl eA eR sA hRs hAd rfl (by omega) U J z0 hz eU sU hJ' P V PP (val 0 PP.data.toList : Nat) (by omega) (by omega) jl xP xV sP sP1 xPP sPP dPP rfl (by omega) n eN (by omega) hv' (by omega)
            · rename_i n3
              exact rr_d_n s A R K (val 0 A.data.toList : Nat) w hs hK' (by omega) (by omega) kl eA eR sA hRs hAd rfl (by omega) U J z0 hz eU sU hJ' P V PP (val 0 PP.data.toList : Nat) (by omega) (by omega) jl xP xV sP sP1 xPP sPP dPP rfl (by omega) n eN (by omega) ⟨n0, n1', n2', n3⟩
  · have hd0 : dot R.data.toList = false := by simpa using hd
    have hz0 := dot_no hd0
    have eP : partOf R.data.toList = [48] := by unfold partOf; rw [if_neg hd]
    have eV : tailOf R.data.toList = R.data.toList := by unfold tailOf; rw [if_neg hd]
    rw [eP, eV]
    · have hb : ¬ (A.data.toList = [] ∨ 3 < A.data.toList.length ∨ ([48] : List UInt8) = [] ∨ 6 < ([48] : List UInt8).length) := by
        rw [← size_len]
        intro h
        rcases h with k | k | k | k
        · exact neA k
        · omega
        · cases k
        · simp at k
      rw [if_neg hb, readN_zero]
      have eN : ((val 0 A.data.toList : Nat) : Int) * 1000000 = ((val 0 A.data.toList * 1000000 : Nat) : Int) := by omega
      generalize hn : val 0 A.data.toList * 1000000 = n at *
      unfold fin
      split
      · rename_i hv
        have hv' : R = ⟨#[78]⟩ := bytes_ext hv
        split
        · exact rr_p_0o s A R K (val 0 A.data.toList : Nat) w hs hK' (by omega) (by omega) kl eA eR sA hRs hAd rfl (by omega) n eN (by omega) hv' (by omega)
        · exact rr_p_0 s A R K (val 0 A.data.toList : Nat) w hs hK' (by omega) (by omega) kl eA eR sA hRs hAd rfl (by omega) n eN (by omega) hv' (by omega)
      · rename_i n0
        split
        · rename_i hv
          have hv' : R = ⟨#[83]⟩ := bytes_ext hv
          split
          · exact rr_p_1o s A R K (val 0 A.data.toList : Nat) w hs hK' (by omega) (by omega) kl eA eR sA hRs hAd rfl (by omega) n eN (by omega) hv' (by omega)
          · exact rr_p_1 s A R K (val 0 A.data.toList : Nat) w hs hK' (by omega) (by omega) kl eA eR sA hRs hAd rfl (by omega) n eN (by omega) hv' (by omega)
        · rename_i n1'
          split
          · rename_i hv
            have hv' : R = ⟨#[69]⟩ := bytes_ext hv
            split
            · exact rr_p_2o s A R K (val 0 A.data.toList : Nat) w hs hK' (by omega) (by omega) kl eA eR sA hRs hAd rfl (by omega) n eN (by omega) hv' (by omega)
            · exact rr_p_2 s A R K (val 0 A.data.toList : Nat) w hs hK' (by omega) (by omega) kl eA eR sA hRs hAd rfl (by omega) n eN (by omega) hv' (by omega)
          · rename_i n2'
            split
            · rename_i hv
              have hv' : R = ⟨#[87]⟩ := bytes_ext hv
              split
              · exact rr_p_3o s A R K (val 0 A.data.toList : Nat) w hs hK' (by omega) (by omega) kl eA eR sA hRs hAd rfl (by omega) n eN (by omega) hv' (by omega)
              · exact rr_p_3 s A R K (val 0 A.data.toList : Nat) w hs hK' (by omega) (by omega) kl eA eR sA hRs hAd rfl (by omega) n eN (by omega) hv' (by omega)
            · rename_i n3
              exact rr_p_n s A R K (val 0 A.data.toList : Nat) w hs hK' (by omega) (by omega) kl eA eR sA hRs hAd rfl (by omega) n eN (by omega) ⟨n0, n1', n2', n3⟩ hz0

end Go.Proofs.YtjbhnjnlpekpoaaDoor
