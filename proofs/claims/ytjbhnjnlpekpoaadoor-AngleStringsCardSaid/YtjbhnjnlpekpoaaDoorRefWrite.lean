/-
  The document's Write: what it returns, for every angle and axis.
-/
import Derived.Test.YtjbhnjnlpekpoaaDoorDecW
import Derived.Test.YtjbhnjnlpekpoaaDoorRefStr
namespace Go.Proofs.YtjbhnjnlpekpoaaDoor
open Go.RowKit Go.Sort
set_option linter.unusedVariables false

theorem dec1 (q : Int) (S : ByteArray) (w : World) (hq : 0 ≤ q ∧ q ≤ 1000) (hS : Hid (S.data.toList = Lib.decDigits q.toNat)) :
    Calls Tryd.prog 79 #[.int .i64 q, .int .i64 1] w fun e w' => e = .returned (.string S) ∧ Q w w' := by
  obtain ⟨n, rfl⟩ := Int.eq_ofNat_of_zero_le hq.1
  have hn : n ≤ 1000 := by omega
  have hp := Lib.nDigits_pos n
  have hl : Lib.nDigits n ≤ 20 := by
    have : Lib.nDigits n ≤ 4 := by
      by_cases h : n = 1000
      · subst h; decide +kernel
      · have := dec_len3 (u := n) (by omega)
        rw [Lib.decDigits_length] at this
        omega
    omega
  refine decimal_any n 1 (Lib.nDigits n) S w (by omega) hl ?_ hp ?_ ?_
  · exact Nat.div_eq_of_lt (Lib.lt_pow_nDigits n)
  · intro j hj
    by_cases hj0 : j = 0
    · right; omega
    · left
      refine Nat.div_pos ?_ (Nat.pow_pos (by omega))
      rcases Nat.lt_or_ge n (10 ^ j) with k | k
      · exfalso
        have : Lib.nDigits n ≤ j := by
          rcases Nat.lt_or_ge j (Lib.nDigits n) with k2 | k2
          · have hb : ¬ n < 10 := by
              intro h10
              rw [Lib.nDigits_small h10] at hj
              omega
            have key : ∀ i u : Nat, ¬ u < 10 ^ i ∨ Lib.nDigits u ≤ i ∨ i = 0 := by
              intro i
              induction i with
              | zero => intro u; exact .inr (.inr rfl)
              | succ i ih =>
                intro u
                by_cases hu : u < 10
                · right; left; rw [Lib.nDigits_small hu]; omega
                · rw [Lib.nDigits_big hu, Nat.pow_succ]
                  rcases ih (u / 10) with h | h | h
                  · left; omega
                  · right; left; omega
                  · subst h
                    left; simp; omega
            rcases key j n with h | h | h
            · exact absurd k h
            · exact h
            · exact absurd h hj0
          · exact k2
        omega
      · exact k
  · exact hS.out.trans (dec_ld n)

theorem dec6 (r : Int) (S : ByteArray) (w : World) (hr : 0 ≤ r ∧ r < 1000000) (hS : Hid (S.data.toList = ld r.toNat 6)) :
    Calls Tryd.prog 79 #[.int .i64 r, .int .i64 6] w fun e w' => e = .returned (.string S) ∧ Q w w' := by
  obtain ⟨n, rfl⟩ := Int.eq_ofNat_of_zero_le hr.1
  exact decimal_any n 6 6 S w (by omega) (by omega) (Nat.div_eq_of_lt (by omega)) (by omega) (fun j hj => .inr hj) hS

theorem trim_snoc (l : List UInt8) : Lib.trimRightB (l ++ [48]) 48 = Lib.trimRightB l 48 := by
  unfold Lib.trimRightB
  rw [List.reverse_append]
  simp
theorem trim_keep (l : List UInt8) (c : UInt8) (h : c ≠ 48) : Lib.trimRightB (l ++ [c]) 48 = l ++ [c] := by
  unfold Lib.trimRightB
  rw [List.reverse_append]
  simp [h]

theorem nil_bytes {A : ByteArray} (h : A.data.toList = []) : A.toList = [] ∧ A.toList.isEmpty = true := by
  rw [Lib.toList_data, h]
  exact ⟨rfl, rfl⟩
theorem cons_bytes {A : ByteArray} (h : A.data.toList ≠ []) : ¬ A.toList = [] ∧ A.toList.isEmpty = false := by
  rw [Lib.toList_data]
  refine ⟨h, ?_⟩
  cases hl : A.data.toList with
  | nil => exact absurd hl h
  | cons _ _ => rfl
theorem last_split (t : ByteArray) (h : 0 < t.size) : t.data.toList = (t.extract 0 (t.size - 1)).data.toList ++ [t[t.size - 1]'(by omega)] := by
  rw [extract_toList, List.drop_zero, ← at_list t (t.size - 1) (by omega)]
  rw [← List.take_succ_eq_append_getElem]
  rw [List.take_of_length_le]
  rw [← size_len]
  omega

set_option maxRecDepth 100000 in
set_option maxHeartbeats 2000000 in
theorem rw_none (a x : Int) (w : World) (h0 : x ≠ 0) (h1 : x ≠ 1) :
    Calls Tryd.prog 47 #[.int .i64 a, .int .i64 x] w fun e w' => e = .returned (.tuple #[.string ⟨#[]⟩, .int .i64 2]) ∧ Q w w' := by
  have c0 : (x != 0) = true := by rw [bne_iff_ne]; exact h0
  have c1 : (x != 1) = true := by rw [bne_iff_ne]; exact h1
  have b0 : (x == 0) = false := by rw [beq_eq_false_iff_ne]; exact h0
  have b1 : (x == 1) = false := by rw [beq_eq_false_iff_ne]; exact h1
  go_enter Tryd.func47, Tryd.ntmps47
  go_wp2_with fail
  go_ret2
  exact ⟨rfl, Q.refl _⟩

set_option maxRecDepth 100000 in
set_option maxHeartbeats 2000000 in
theorem rw_lo0 (a : Int) (w : World) (h : a < -90000000) :
    Calls Tryd.prog 47 #[.int .i64 a, .int .i64 0] w fun e w' => e = .returned (.tuple #[.string ⟨#[]⟩, .int .i64 7]) ∧ Q w w' := by
  go_enter Tryd.func47, Tryd.ntmps47
  go_wp2_with fail
  refine (most_any 0 90000000 _ (.inl ⟨rfl, rfl⟩)).mono ?_
  rintro e w1 ⟨rfl, rfl⟩
  go_wp2_with fail
  go_ret2
  exact ⟨rfl, Q.refl _⟩

set_option maxRecDepth 100000 in
set_option maxHeartbeats 2000000 in
theorem rw_hi0 (a : Int) (w : World) (h : 90000000 < a) :
    Calls Tryd.prog 47 #[.int .i64 a, .int .i64 0] w fun e w' => e = .returned (.tuple #[.string ⟨#[]⟩, .int .i64 7]) ∧ Q w w' := by
  go_enter Tryd.func47, Tryd.ntmps47
  go_wp2_with fail
  refine (most_any 0 90000000 _ (.inl ⟨rfl, rfl⟩)).mono ?_
  rintro e w1 ⟨rfl, rfl⟩
  go_wp2_with fail
  refine (most_any 0 90000000 _ (.inl ⟨rfl, rfl⟩)).mono ?_
  rintro e w1 ⟨rfl, rfl⟩
  go_wp2_with fail
  go_ret2
  exact ⟨rfl, Q.refl _⟩

set_option maxRecDepth 100000 in
set_option maxHeartbeats 2000000 in
theorem rw_lo1 (a : Int) (w : World) (h : a < -180000000) :
    Calls Tryd.prog 47 #[.int .i64 a, .int .i64 1] w fun e w' => e = .returned (.tuple #[.string ⟨#[]⟩, .int .i64 7]) ∧ Q w w' := by
  go_enter Tryd.func47, Tryd.ntmps47
  go_wp2_with fail
  refine (most_any 1 180000000 _ (.inr ⟨by decide, rfl⟩)).mono ?_
  rintro e w1 ⟨rfl, rfl⟩
  go_wp2_with fail
  go_ret2
  exact ⟨rfl, Q.refl _⟩

set_option maxRecDepth 100000 in
set_option maxHeartbeats 2000000 in
theorem rw_hi1 (a : Int) (w : World) (h : 180000000 < a) :
    Calls Tryd.prog 47 #[.int .i64 a, .int .i64 1] w fun e w' => e = .returned (.tuple #[.string ⟨#[]⟩, .int .i64 7]) ∧ Q w w' := by
  go_enter Tryd.func47, Tryd.ntmps47
  go_wp2_with fail
  refine (most_any 1 180000000 _ (.inr ⟨by decide, rfl⟩)).mono ?_
  rintro e w1 ⟨rfl, rfl⟩
  go_wp2_with fail
  refine (most_any 1 180000000 _ (.inr ⟨by decide, rfl⟩)).mono ?_
  rintro e w1 ⟨rfl, rfl⟩
  go_wp2_with fail
  go_ret2
  exact ⟨rfl, Q.refl _⟩

set_option maxRecDepth 100000 in
set_option maxHeartbeats 2000000 in
theorem rw_0 (N q r : Int) (S R Z : ByteArray) (w : World) (hN : 0 ≤ N) (hl : N ≤ 90000000) (hq : Hid (N / 1000000 = q)) (hr : Hid (N % 1000000 = r)) (hS : Hid (S.data.toList = Lib.decDigits q.toNat)) (sS : S.size ≤ 20) (hR : Hid (R.data.toList = ld r.toNat 6)) (sR : R.size ≤ 6) (hZ : Hid (Z.data.toList = Lib.trimRightB R.data.toList 48)) (sZ : Z.size ≤ 6) (out : ByteArray) (hO : Hid (out.data.toList = S.data.toList ++ (if Z.data.toList = [] then [] else 46 :: Z.data.toList) ++ [78])) :
    Calls Tryd.prog 47 #[.int .i64 N, .int .i64 0] w fun e w' => e = .returned (.tuple #[.string out, .int .i64 0]) ∧ Q w w' := by
  have bq : 0 ≤ q ∧ q ≤ 1000 := by have := hq.out; omega
  have br : 0 ≤ r ∧ r < 1000000 := by have := hr.out; omega
  have hqo := hq.out
  have hro := hr.out
  have t1 : N.tdiv 1000000 = q := by rw [Int.tdiv_eq_ediv_of_nonneg (by omega), hqo]
  have t2 : N.tmod 1000000 = r := by rw [Int.tmod_eq_emod_of_nonneg (by omega), hro]
  clear hq hr
  go_enter Tryd.func47, Tryd.ntmps47
  go_wp2_with fail
  refine (most_any 0 90000000 _ (.inl ⟨rfl, rfl⟩)).mono ?_
  rintro e w1 ⟨rfl, rfl⟩
  go_wp2_with fail
  refine (most_any 0 90000000 _ (.inl ⟨rfl, rfl⟩)).mono ?_
  rintro e w1 ⟨rfl, rfl⟩
  go_wp2_with fail
  refine (dec1 q S _ bq hS).mono ?_
  rintro e w2 ⟨rfl, Q2⟩
  have QC : Q w1 w2 := ((Q.refl w1).alloc _).trans Q2
  clear Q2
  go_wp2_with fail
  refine (dec6 r R _ br hR).mono ?_
  rintro e w3 ⟨rfl, Q2⟩
  replace QC := QC.trans Q2
  clear Q2
  go_wp2_with fail
  have HZ0 := Lib.hid hZ.out.symm
  go_loop [9] (fun v => ∃ t : ByteArray, v = .string t ∧ t.size ≤ 6 ∧ Hid (Lib.trimRightB t.data.toList 48 = Z.data.toList)) (fun v => strLen v)
  case atStart => exact ⟨R, rfl, sR, HZ0⟩
  case round =>
    clear HZ0 hZ hR sR t1 t2 hqo hro
    obtain ⟨t, rfl, ht, H⟩ := hrel
    by_cases h0 : t.size = 0
    · have hl0 : t.data.toList = [] := List.eq_nil_of_length_eq_zero (by rw [← size_len]; exact h0)
      have hz0 : Z.data.toList = [] := by rw [← H.out, hl0]; rfl
      have e : S ++ ⟨#[78]⟩ = out := bytes_ext (by rw [hO.out, if_pos hz0, ByteArray.data_append, Array.toList_append, List.append_nil])
      have E := Lib.hid e
      obtain ⟨a1, a2⟩ := nil_bytes hl0
      clear e hO H hl0 hz0
      go_wp2_with fail
      go_ret2
      exact ⟨by rw [← E.out]; rfl, QC⟩
    · have p0 : 0 < t.size := by omega
      have ls := last_split t p0
      have x1 : wrap64 ((t.size : Int) - 1) = (t.size : Int) - 1 := IntWalk.wrap64_in _ (by omega)
      have x2 : ((t.size : Int) - 1).toNat = t.size - 1 := by omega
      have x3 : 0 ≤ (t.size : Int) - 1 := by omega
      have x4 : (t.size : Int) - 1 ≤ t.size := by omega
      have x5 : 1 ≤ (t.size : Int) := by omega
      have x6 : t.size - 1 < t.size := by omega
      obtain ⟨a1, a2⟩ := cons_bytes (A := t) (by intro e; rw [e] at ls; simp at ls)
      by_cases hc : t[t.size - 1]'(by omega) = 48
      · have hb : ((t[t.size - 1]'(by omega)).toNat : Int) = 48 := by rw [hc]; rfl
        have hb' : (((t[t.size - 1]'(by omega)).toNat : Int) == 48) = true := by rw [beq_iff_eq]; exact hb
        have H2 : Hid (Lib.trimRightB (t.extract 0 (t.size - 1)).data.toList 48 = Z.data.toList) := by
          show _ = _
          rw [← H.out, ls, hc, trim_snoc]
        have sz : (t.extract 0 (t.size - 1)).size = t.size - 1 := by
          rw [size_len, extract_toList, List.drop_zero, List.length_take, ← size_len]
          omega
        have SZ := Lib.hid sz
        clear sz H hc hb ls hO
        go_wp2_with fail
        go_round
        case rel => exact ⟨t.extract 0 (t.size - 1), rfl, by rw [SZ.out]; omega, H2⟩
        case measure =>
          have := SZ.out
          simp only [strLen]
          omega
      · have hb' : (((t[t.size - 1]'(by omega)).toNat : Int) == 48) = false := by
          rw [beq_eq_false_iff_ne]
          intro e
          exact hc (UInt8.toNat_inj.1 (by show (t[t.size - 1]'(by omega)).toNat = 48; omega))
        have hz0 : Z.data.toList = t.data.toList := by rw [← H.out, ls, trim_keep _ _ hc]
        have hz1 : Z.data.toList ≠ [] := by rw [hz0, ls]; simp
        have e : S ++ ⟨#[46]⟩ ++ t ++ ⟨#[78]⟩ = out := bytes_ext (by
          rw [hO.out, if_neg hz1, hz0]
          simp only [ByteArray.data_append, Array.toList_append, List.append_assoc]
          rfl)
        have E := Lib.hid e
        clear e H hc ls hO hz0 hz1
        go_wp2_with fail
        go_ret2
        exact ⟨by rw [← E.out]; rfl, QC⟩

set_option maxRecDepth 100000 in
set_option maxHeartbeats 2000000 in
theorem rw_1 (N q r : Int) (S R Z : ByteArray) (w : World) (hN : 1 ≤ N) (hl : N ≤ 90000000) (hq : Hid (N / 1000000 = q)) (hr : Hid (N % 1000000 = r)) (hS : Hid (S.data.toList = Lib.decDigits q.toNat)) (sS : S.size ≤ 20) (hR : Hid (R.data.toList = ld r.toNat 6)) (sR : R.size ≤ 6) (hZ : Hid (Z.data.toList = Lib.trimRightB R.data.toList 48)) (sZ : Z.size ≤ 6) (out : ByteArray) (hO : Hid (out.data.toList = S.data.toList ++ (if Z.data.toList = [] then [] else 46 :: Z.data.toList) ++ [83])) :
    Calls Tryd.prog 47 #[.int .i64 (-N), .int .i64 0] w fun e w' => e = .returned (.tuple #[.string out, .int .i64 0]) ∧ Q w w' := by
  have bq : 0 ≤ q ∧ q ≤ 1000 := by have := hq.out; omega
  have br : 0 ≤ r ∧ r < 1000000 := by have := hr.out; omega
  have hqo := hq.out
  have hro := hr.out
  have t1 : N.tdiv 1000000 = q := by rw [Int.tdiv_eq_ediv_of_nonneg (by omega), hqo]
  have t2 : N.tmod 1000000 = r := by rw [Int.tmod_eq_emod_of_nonneg (by omega), hro]
  clear hq hr
  go_enter Tryd.func47, Tryd.ntmps47
  go_wp2_with fail
  refine (most_any 0 90000000 _ (.inl ⟨rfl, rfl⟩)).mono ?_
  rintro e w1 ⟨rfl, rfl⟩
  go_wp2_with fail
  refine (most_any 0 90000000 _ (.inl ⟨rfl, rfl⟩)).mono ?_
  rintro e w1 ⟨rfl, rfl⟩
  go_wp2_with fail
  refine (dec1 q S _ bq hS).mono ?_
  rintro e w2 ⟨rfl, Q2⟩
  have QC : Q w1 w2 := ((Q.refl w1).alloc _).trans Q2
  clear Q2
  go_wp2_with fail
  refine (dec6 r R _ br hR).mono ?_
  rintro e w3 ⟨rfl, Q2⟩
  replace QC := QC.trans Q2
  clear Q2
  go_wp2_with fail
  have HZ0 := Lib.hid hZ.out.symm
  go_loop [9] (fun v => ∃ t : ByteArray, v = .string t ∧ t.size ≤ 6 ∧ Hid (Lib.trimRightB t.data.toList 48 = Z.data.toList)) (fun v => strLen v)
  case atStart => exact ⟨R, rfl, sR, HZ0⟩
  case round =>
    clear HZ0 hZ hR sR t1 t2 hqo hro
    obtain ⟨t, rfl, ht, H⟩ := hrel
    by_cases h0 : t.size = 0
    · have hl0 : t.data.toList = [] := List.eq_nil_of_length_eq_zero (by rw [← size_len]; exact h0)
      have hz0 : Z.data.toList = [] := by rw [← H.out, hl0]; rfl
      have e : S ++ ⟨#[83]⟩ = out := bytes_ext (by rw [hO.out, if_pos hz0, ByteArray.data_append, Array.toList_append, List.append_nil])
      have E := Lib.hid e
      obtain ⟨a1, a2⟩ := nil_bytes hl0
      clear e hO H hl0 hz0
      go_wp2_with fail
      go_ret2
      exact ⟨by rw [← E.out]; rfl, QC⟩
    · have p0 : 0 < t.size := by omega
      have ls := last_split t p0
      have x1 : wrap64 ((t.size : Int) - 1) = (t.size : Int) - 1 := IntWalk.wrap64_in _ (by omega)
      have x2 : ((t.size : Int) - 1).toNat = t.size - 1 := by omega
      have x3 : 0 ≤ (t.size : Int) - 1 := by omega
      have x4 : (t.size : Int) - 1 ≤ t.size := by omega
      have x5 : 1 ≤ (t.size : Int) := by omega
      have x6 : t.size - 1 < t.size := by omega
      obtain ⟨a1, a2⟩ := cons_bytes (A := t) (by intro e; rw [e] at ls; simp at ls)
      by_cases hc : t[t.size - 1]'(by omega) = 48
      · have hb : ((t[t.size - 1]'(by omega)).toNat : Int) = 48 := by rw [hc]; rfl
        have hb' : (((t[t.size - 1]'(by omega)).toNat : Int) == 48) = true := by rw [beq_iff_eq]; exact hb
        have H2 : Hid (Lib.trimRightB (t.extract 0 (t.size - 1)).data.toList 48 = Z.data.toList) := by
          show _ = _
          rw [← H.out, ls, hc, trim_snoc]
        have sz : (t.extract 0 (t.size - 1)).size = t.size - 1 := by
          rw [size_len, extract_toList, List.drop_zero, List.length_take, ← size_len]
          omega
        have SZ := Lib.hid sz
        clear sz H hc hb ls hO
        go_wp2_with fail
        go_round
        case rel => exact ⟨t.extract 0 (t.size - 1), rfl, by rw [SZ.out]; omega, H2⟩
        case measure =>
          have := SZ.out
          simp only [strLen]
          omega
      · have hb' : (((t[t.size - 1]'(by omega)).toNat : Int) == 48) = false := by
          rw [beq_eq_false_iff_ne]
          intro e
          exact hc (UInt8.toNat_inj.1 (by show (t[t.size - 1]'(by omega)).toNat = 48; omega))
        have hz0 : Z.data.toList = t.data.toList := by rw [← H.out, ls, trim_keep _ _ hc]
        have hz1 : Z.data.toList ≠ [] := by rw [hz0, ls]; simp
        have e : S ++ ⟨#[46]⟩ ++ t ++ ⟨#[83]⟩ = out := bytes_ext (by
          rw [hO.out, if_neg hz1, hz0]
          simp only [ByteArray.data_append, Array.toList_append, List.append_assoc]
          rfl)
        have E := Lib.hid e
        clear e H hc ls hO hz0 hz1
        go_wp2_with fail
        go_ret2
        exact ⟨by rw [← E.out]; rfl, QC⟩

set_option maxRecDepth 100000 in
set_option maxHeartbeats 2000000 in
theorem rw_2 (N q r : Int) (S R Z : ByteArray) (w : World) (hN : 0 ≤ N) (hl : N ≤ 180000000) (hq : Hid (N / 1000000 = q)) (hr : Hid (N % 1000000 = r)) (hS : Hid (S.data.toList = Lib.decDigits q.toNat)) (sS : S.size ≤ 20) (hR : Hid (R.data.toList = ld r.toNat 6)) (sR : R.size ≤ 6) (hZ : Hid (Z.data.toList = Lib.trimRightB R.data.toList 48)) (sZ : Z.size ≤ 6) (out : ByteArray) (hO : Hid (out.data.toList = S.data.toList ++ (if Z.data.toList = [] then [] else 46 :: Z.data.toList) ++ [69])) :
    Calls Tryd.prog 47 #[.int .i64 N, .int .i64 1] w fun e w' => e = .returned (.tuple #[.string out, .int .i64 0]) ∧ Q w w' := by
  have bq : 0 ≤ q ∧ q ≤ 1000 := by have := hq.out; omega
  have br : 0 ≤ r ∧ r < 1000000 := by have := hr.out; omega
  have hqo := hq.out
  have hro := hr.out
  have t1 : N.tdiv 1000000 = q := by rw [Int.tdiv_eq_ediv_of_nonneg (by omega), hqo]
  have t2 : N.tmod 1000000 = r := by rw [Int.tmod_eq_emod_of_nonneg (by omega), hro]
  clear hq hr
  go_enter Tryd.func47, Tryd.ntmps47
  go_wp2_with fail
  refine (most_any 1 180000000 _ (.inr ⟨by decide, rfl⟩)).mono ?_
  rintro e w1 ⟨rfl, rfl⟩
  go_wp2_with fail
  refine (most_any 1 180000000 _ (.inr ⟨by decide, rfl⟩)).mono ?_
  rintro e w1 ⟨rfl, rfl⟩
  go_wp2_with fail
  refine (dec1 q S _ bq hS).mono ?_
  rintro e w2 ⟨rfl, Q2⟩
  have QC : Q w1 w2 := ((Q.refl w1).alloc _).trans Q2
  clear Q2
  go_wp2_with fail
  refine (dec6 r R _ br hR).mono ?_
  rintro e w3 ⟨rfl, Q2⟩
  replace QC := QC.trans Q2
  clear Q2
  go_wp2_with fail
  have HZ0 := Lib.hid hZ.out.symm
  go_loop [9] (fun v => ∃ t : ByteArray, v = .string t ∧ t.size ≤ 6 ∧ Hid (Lib.trimRightB t.data.toList 48 = Z.data.toList)) (fun v => strLen v)
  case atStart => exact ⟨R, rfl, sR, HZ0⟩
  case round =>
    clear HZ0 hZ hR sR t1 t2 hqo hro
    obtain ⟨t, rfl, ht, H⟩ := hrel
    by_cases h0 : t.size = 0
    · have hl0 : t.data.toList = [] := List.eq_nil_of_length_eq_zero (by rw [← size_len]; exact h0)
      have hz0 : Z.data.toList = [] := by rw [← H.out, hl0]; rfl
      have e : S ++ ⟨#[69]⟩ = out := bytes_ext (by rw [hO.out, if_pos hz0, ByteArray.data_append, Array.toList_append, List.append_nil])
      have E := Lib.hid e
      obtain ⟨a1, a2⟩ := nil_bytes hl0
      clear e hO H hl0 hz0
      go_wp2_with fail
      go_ret2
      exact ⟨by rw [← E.out]; rfl, QC⟩
    · have p0 : 0 < t.size := by omega
      have ls := last_split t p0
      have x1 : wrap64 ((t.size : Int) - 1) = (t.size : Int) - 1 := IntWalk.wrap64_in _ (by omega)
      have x2 : ((t.size : Int) - 1).toNat = t.size - 1 := by omega
      have x3 : 0 ≤ (t.size : Int) - 1 := by omega
      have x4 : (t.size : Int) - 1 ≤ t.size := by omega
      have x5 : 1 ≤ (t.size : Int) := by omega
      have x6 : t.size - 1 < t.size := by omega
      obtain ⟨a1, a2⟩ := cons_bytes (A := t) (by intro e; rw [e] at ls; simp at ls)
      by_cases hc : t[t.size - 1]'(by omega) = 48
      · have hb : ((t[t.size - 1]'(by omega)).toNat : Int) = 48 := by rw [hc]; rfl
        have hb' : (((t[t.size - 1]'(by omega)).toNat : Int) == 48) = true := by rw [beq_iff_eq]; exact hb
        have H2 : Hid (Lib.trimRightB (t.extract 0 (t.size - 1)).data.toList 48 = Z.data.toList) := by
          show _ = _
          rw [← H.out, ls, hc, trim_snoc]
        have sz : (t.extract 0 (t.size - 1)).size = t.size - 1 := by
          rw [size_len, extract_toList, List.drop_zero, List.length_take, ← size_len]
          omega
        have SZ := Lib.hid sz
        clear sz H hc hb ls hO
        go_wp2_with fail
        go_round
        case rel => exact ⟨t.extract 0 (t.size - 1), rfl, by rw [SZ.out]; omega, H2⟩
        case measure =>
          have := SZ.out
          simp only [strLen]
          omega
      · have hb' : (((t[t.size - 1]'(by omega)).toNat : Int) == 48) = false := by
          rw [beq_eq_false_iff_ne]
          intro e
          exact hc (UInt8.toNat_inj.1 (by show (t[t.size - 1]'(by omega)).toNat = 48; omega))
        have hz0 : Z.data.toList = t.data.toList := by rw [← H.out, ls, trim_keep _ _ hc]
        have hz1 : Z.data.toList ≠ [] := by rw [hz0, ls]; simp
        have e : S ++ ⟨#[46]⟩ ++ t ++ ⟨#[69]⟩ = out := bytes_ext (by
          rw [hO.out, if_neg hz1, hz0]
          simp only [ByteArray.data_append, Array.toList_append, List.append_assoc]
          rfl)
        have E := Lib.hid e
        clear e H hc ls hO hz0 hz1
        go_wp2_with fail
        go_ret2
        exact ⟨by rw [← E.out]; rfl, QC⟩

set_option maxRecDepth 100000 in
set_option maxHeartbeats 2000000 in
theorem rw_3 (N q r : Int) (S R Z : ByteArray) (w : World) (hN : 1 ≤ N) (hl : N ≤ 180000000) (hq : Hid (N / 1000000 = q)) (hr : Hid (N % 1000000 = r)) (hS : Hid (S.data.toList = Lib.decDigits q.toNat)) (sS : S.size ≤ 20) (hR : Hid (R.data.toList = ld r.toNat 6)) (sR : R.size ≤ 6) (hZ : Hid (Z.data.toList = Lib.trimRightB R.data.toList 48)) (sZ : Z.size ≤ 6) (out : ByteArray) (hO : Hid (out.data.toList = S.data.toList ++ (if Z.data.toList = [] then [] else 46 :: Z.data.toList) ++ [87])) :
    Calls Tryd.prog 47 #[.int .i64 (-N), .int .i64 1] w fun e w' => e = .returned (.tuple #[.string out, .int .i64 0]) ∧ Q w w' := by
  have bq : 0 ≤ q ∧ q ≤ 1000 := by have := hq.out; omega
  have br : 0 ≤ r ∧ r < 1000000 := by have := hr.out; omega
  have hqo := hq.out
  have hro := hr.out
  have t1 : N.tdiv 1000000 = q := by rw [Int.tdiv_eq_ediv_of_nonneg (by omega), hqo]
  have t2 : N.tmod 1000000 = r := by rw [Int.tmod_eq_emod_of_nonneg (by omega), hro]
  clear hq hr
  go_enter Tryd.func47, Tryd.ntmps47
  go_wp2_with fail
  refine (most_any 1 180000000 _ (.inr ⟨by decide, rfl⟩)).mono ?_
  rintro e w1 ⟨rfl, rfl⟩
  go_wp2_with fail
  refine (most_any 1 180000000 _ (.inr ⟨by decide, rfl⟩)).mono ?_
  rintro e w1 ⟨rfl, rfl⟩
  go_wp2_with fail
  refine (dec1 q S _ bq hS).mono ?_
  rintro e w2 ⟨rfl, Q2⟩
  have QC : Q w1 w2 := ((Q.refl w1).alloc _).trans Q2
  clear Q2
  go_wp2_with fail
  refine (dec6 r R _ br hR).mono ?_
  rintro e w3 ⟨rfl, Q2⟩
  replace QC := QC.trans Q2
  clear Q2
  go_wp2_with fail
  have HZ0 := Lib.hid hZ.out.symm
  go_loop [9] (fun v => ∃ t : ByteArray, v = .string t ∧ t.size ≤ 6 ∧ Hid (Lib.trimRightB t.data.toList 48 = Z.data.toList)) (fun v => strLen v)
  case atStart => exact ⟨R, rfl, sR, HZ0⟩
  case round =>
    clear HZ0 hZ hR sR t1 t2 hqo hro
    obtain ⟨t, rfl, ht, H⟩ := hrel
    by_cases h0 : t.size = 0
    · have hl0 : t.data.toList = [] := List.eq_nil_of_length_eq_zero (by rw [← size_len]; exact h0)
      have hz0 : Z.data.toList = [] := by rw [← H.out, hl0]; rfl
      have e : S ++ ⟨#[87]⟩ = out := bytes_ext (by rw [hO.out, if_pos hz0, ByteArray.data_append, Array.toList_append, List.append_nil])
      have E := Lib.hid e
      obtain ⟨a1, a2⟩ := nil_bytes hl0
      clear e hO H hl0 hz0
      go_wp2_with fail
      go_ret2
      exact ⟨by rw [← E.out]; rfl, QC⟩
    · have p0 : 0 < t.size := by omega
      have ls := last_split t p0
      have x1 : wrap64 ((t.size : Int) - 1) = (t.size : Int) - 1 := IntWalk.wrap64_in _ (by omega)
      have x2 : ((t.size : Int) - 1).toNat = t.size - 1 := by omega
      have x3 : 0 ≤ (t.size : Int) - 1 := by omega
      have x4 : (t.size : Int) - 1 ≤ t.size := by omega
      have x5 : 1 ≤ (t.size : Int) := by omega
      have x6 : t.size - 1 < t.size := by omega
      obtain ⟨a1, a2⟩ := cons_bytes (A := t) (by intro e; rw [e] at ls; simp at ls)
      by_cases hc : t[t.size - 1]'(by omega) = 48
      · have hb : ((t[t.size - 1]'(by omega)).toNat : Int) = 48 := by rw [hc]; rfl
        have hb' : (((t[t.size - 1]'(by omega)).toNat : Int) == 48) = true := by rw [beq_iff_eq]; exact hb
        have H2 : Hid (Lib.trimRightB (t.extract 0 (t.size - 1)).data.toList 48 = Z.data.toList) := by
          show _ = _
          rw [← H.out, ls, hc, trim_snoc]
        have sz : (t.extract 0 (t.size - 1)).size = t.size - 1 := by
          rw [size_len, extract_toList, List.drop_zero, List.length_take, ← size_len]
          omega
        have SZ := Lib.hid sz
        clear sz H hc hb ls hO
        go_wp2_with fail
        go_round
        case rel => exact ⟨t.extract 0 (t.size - 1), rfl, by rw [SZ.out]; omega, H2⟩
        case measure =>
          have := SZ.out
          simp only [strLen]
          omega
      · have hb' : (((t[t.size - 1]'(by omega)).toNat : Int) == 48) = false := by
          rw [beq_eq_false_iff_ne]
          intro e
          exact hc (UInt8.toNat_inj.1 (by show (t[t.size - 1]'(by omega)).toNat = 48; omega))
        have hz0 : Z.data.toList = t.data.toList := by rw [← H.out, ls, trim_keep _ _ hc]
        have hz1 : Z.data.toList ≠ [] := by rw [hz0, ls]; simp
        have e : S ++ ⟨#[46]⟩ ++ t ++ ⟨#[87]⟩ = out := bytes_ext (by
          rw [hO.out, if_neg hz1, hz0]
          simp only [ByteArray.data_append, Array.toList_append, List.append_assoc]
          rfl)
        have E := Lib.hid e
        clear e H hc ls hO hz0 hz1
        go_wp2_with fail
        go_ret2
        exact ⟨by rw [← E.out]; rfl, QC⟩

end Go.Proofs.YtjbhnjnlpekpoaaDoor
