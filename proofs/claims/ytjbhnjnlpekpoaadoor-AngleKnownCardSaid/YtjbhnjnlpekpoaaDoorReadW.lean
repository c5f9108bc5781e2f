/-
  Read of package angle: what it returns, for every string.
-/
import Derived.Test.YtjbhnjnlpekpoaaDoorStrW
import Derived.Test.YtjbhnjnlpekpoaaDoorAngG
import Derived.Deep.DeepCutAuto
import Derived.Lib.AtoiErrMem
namespace Go.Proofs.YtjbhnjnlpekpoaaDoor
open Go.RowKit Go.Sort
set_option linter.unusedVariables false

theorem Q_bytes (w : World) (e : TypeId) (s : ByteArray) : Q w (Lib.bytesWorld w e s) := ⟨Lib.bytesWorld_below w e s, Nat.le_succ _⟩

theorem cut_eq (s u : ByteArray) (b : Bool) (w : World) (hu : Hid (u.data.toList = Lib.trimPrefix s.data.toList [46])) (hb : Hid (b = Lib.hasPrefix s.data.toList [46])) :
    Calls Tryd.prog 72 #[.string s, .string ⟨#[46]⟩] w fun e w' => e = .returned (.tuple #[.string u, .bool b]) ∧ w' = w := by
  refine (Tryd.strings_CutPrefix s ⟨#[46]⟩ w).mono ?_
  rintro e w' ⟨rfl, rfl⟩
  have : (⟨(Lib.trimPrefix s.data.toList [46]).toArray⟩ : ByteArray) = u := bytes_ext (by rw [hu.out])
  rw [hb.out, ← this]
  exact ⟨rfl, rfl⟩

theorem Read_long (s : ByteArray) (w : World) (h : 20 < s.size) (hm : s.size ≤ 9223372036854775807) :
    Calls Tryd.prog 44 #[.string s] w fun e w' => e = .returned (.tuple #[.int .i64 0, .int .i64 0, .int .i64 3]) ∧ Q w w' := by
  go_enter Tryd.func44, Tryd.ntmps44
  go_wp2_with fail
  go_ret3
  exact ⟨rfl, Q.refl _⟩

theorem letter1 (w : World) : (Instr.index 79 (.agg letterCells) (.int .i64 1)).run Tryd.prog w = .ok (.agg #[.string ⟨#[83]⟩, .int .i64 0, .int .i64 (-1), .int .i64 90]) w := by kernel_rfl
theorem letter2 (w : World) : (Instr.index 79 (.agg letterCells) (.int .i64 2)).run Tryd.prog w = .ok (.agg #[.string ⟨#[69]⟩, .int .i64 1, .int .i64 1, .int .i64 180]) w := by kernel_rfl
theorem letter3 (w : World) : (Instr.index 79 (.agg letterCells) (.int .i64 3)).run Tryd.prog w = .ok (.agg #[.string ⟨#[87]⟩, .int .i64 1, .int .i64 (-1), .int .i64 180]) w := by kernel_rfl

/-- not empty, in the walk's own words -/
theorem not_empty {A : ByteArray} (h : A.data.toList ≠ []) : ¬ A.toList = [] ∧ A.toList.isEmpty = false := by
  rw [Lib.toList_data]
  refine ⟨h, ?_⟩
  cases hl : A.data.toList with
  | nil => exact absurd hl h
  | cons _ _ => rfl
theorem is_empty {A : ByteArray} (h : A.data.toList = []) : A.toList = [] ∧ A.toList.isEmpty = true := by
  rw [Lib.toList_data, h]
  exact ⟨rfl, rfl⟩
set_option maxRecDepth 100000 in
set_option maxHeartbeats 2000000 in
theorem Read_form_dot (s A R U P V : ByteArray) (w : World) (h : s.size ≤ 20) (hA : Hid (A.data.toList = s.data.toList.takeWhile isD)) (hR : Hid (R.data.toList = s.data.toList.dropWhile isD)) (hU : Hid (U.data.toList = Lib.trimPrefix R.data.toList [46])) (hd : Hid (true = Lib.hasPrefix R.data.toList [46])) (hu : U.size ≤ 20) (hP : Hid (P.data.toList = U.data.toList.takeWhile isD)) (hV : Hid (V.data.toList = U.data.toList.dropWhile isD))
    (hb : A.data.toList = [] ∨ (A.data.toList ≠ [] ∧ 3 < A.size) ∨ (A.data.toList ≠ [] ∧ A.size ≤ 3 ∧ P.data.toList = []) ∨ (A.data.toList ≠ [] ∧ A.size ≤ 3 ∧ P.data.toList ≠ [] ∧ 6 < P.size)) :
    Calls Tryd.prog 44 #[.string s] w fun e w' => e = .returned (.tuple #[.int .i64 0, .int .i64 0, .int .i64 6]) ∧ Q w w' := by
  have HB := Lib.hid hb
  clear hb
  go_enter Tryd.func44, Tryd.ntmps44
  go_wp2_with fail
  refine (figures_eq s A R _ (by omega) hA hR).mono ?_
  rintro e w1 ⟨rfl, Q1⟩
  go_wp2_with fail
  refine (cut_eq R U true _ hU hd).mono ?_
  rintro e w2 ⟨rfl, rfl⟩
  go_wp2_with fail
  refine (figures_eq U P V _ (by omega) hP hV).mono ?_
  rintro e w3 ⟨rfl, Q3⟩
  replace Q1 := Q1.trans Q3
  clear Q3
  rcases HB.out with h1 | ⟨h1, h2⟩ | ⟨h1, h2, h3⟩ | ⟨h1, h2, h3, h4⟩
  · obtain ⟨a1, a2⟩ := is_empty h1
    clear HB h1
    go_wp2_with fail
    go_ret3
    exact ⟨rfl, Q1⟩
  · obtain ⟨a1, a2⟩ := not_empty h1
    clear HB h1
    go_wp2_with fail
    go_ret3
    exact ⟨rfl, Q1⟩
  · obtain ⟨a1, a2⟩ := not_empty h1
    obtain ⟨a3, a4⟩ := is_empty h3
    clear HB h1 h3
    go_wp2_with fail
    go_ret3
    exact ⟨rfl, Q1⟩
  · obtain ⟨a1, a2⟩ := not_empty h1
    obtain ⟨a3, a4⟩ := not_empty h3
    clear HB h1 h3
    go_wp2_with fail
    go_ret3
    exact ⟨rfl, Q1⟩

set_option maxRecDepth 100000 in
set_option maxHeartbeats 2000000 in
theorem Read_form_plain (s A R : ByteArray) (w : World) (h : s.size ≤ 20) (hA : Hid (A.data.toList = s.data.toList.takeWhile isD)) (hR : Hid (R.data.toList = s.data.toList.dropWhile isD)) (hU : Hid (R.data.toList = Lib.trimPrefix R.data.toList [46])) (hd : Hid (false = Lib.hasPrefix R.data.toList [46]))
    (hb : A.data.toList = [] ∨ (A.data.toList ≠ [] ∧ 3 < A.size)) :
    Calls Tryd.prog 44 #[.string s] w fun e w' => e = .returned (.tuple #[.int .i64 0, .int .i64 0, .int .i64 6]) ∧ Q w w' := by
  have HB := Lib.hid hb
  clear hb
  go_enter Tryd.func44, Tryd.ntmps44
  go_wp2_with fail
  refine (figures_eq s A R _ (by omega) hA hR).mono ?_
  rintro e w1 ⟨rfl, Q1⟩
  go_wp2_with fail
  refine (cut_eq R R false _ hU hd).mono ?_
  rintro e w2 ⟨rfl, rfl⟩
  rcases HB.out with h1 | ⟨h1, h2⟩
  · obtain ⟨a1, a2⟩ := is_empty h1
    clear HB h1
    go_wp2_with fail
    go_ret3
    exact ⟨rfl, Q1⟩
  · obtain ⟨a1, a2⟩ := not_empty h1
    clear HB h1
    go_wp2_with fail
    go_ret3
    exact ⟨rfl, Q1⟩


theorem not_bytes {V : ByteArray} {l : List UInt8} (h : V.data.toList ≠ l) : (l == V.toList) = false := by
  rw [Lib.toList_data, beq_eq_false_iff_ne]
  exact fun e => h e.symm

theorem app_toList (a b : ByteArray) : (a ++ b).data.toList = a.data.toList ++ b.data.toList := by
  rw [ByteArray.data_append, Array.toList_append]

theorem atoi_dot (A P : ByteArray) (N : Int) (w : World) (h2 : A.size ≤ 3) (h3 : Hid (P.data.toList ≠ [])) (hn : Hid (Lib.atoi (A.data.toList ++ pad P.data.toList) = some N)) :
    Calls Tryd.prog 73 #[.string (A ++ (P ++ ⟨#[48, 48, 48, 48, 48]⟩).extract 0 6)] w fun e w' => e = .returned (.tuple #[.int .i64 N, .nilIface]) ∧ Q w w' := by
  have e : (A ++ (P ++ ⟨#[48, 48, 48, 48, 48]⟩).extract 0 6 : ByteArray).data.toList = A.data.toList ++ pad P.data.toList := by
    rw [app_toList, extract_toList, app_toList, List.drop_zero]
    rw [← pad_five _ h3.out]
  refine (Tryd.strconv_Atoi _ N ?_ (by rw [e]; exact hn.out) w).mono ?_
  · rw [size_len, e, List.length_append, pad_length, ← size_len]
    omega
  · rintro e w' ⟨rfl, t, rfl⟩
    exact ⟨rfl, Q_bytes _ _ _⟩
theorem atoi_plain (A : ByteArray) (N : Int) (w : World) (h2 : A.size ≤ 3) (hn : Hid (Lib.atoi (A.data.toList ++ pad [48]) = some N)) :
    Calls Tryd.prog 73 #[.string (A ++ ⟨#[48, 48, 48, 48, 48, 48]⟩)] w fun e w' => e = .returned (.tuple #[.int .i64 N, .nilIface]) ∧ Q w w' := by
  have e : (A ++ ⟨#[48, 48, 48, 48, 48, 48]⟩ : ByteArray).data.toList = A.data.toList ++ pad [48] := by
    rw [app_toList]
    rfl
  refine (Tryd.strconv_Atoi _ N ?_ (by rw [e]; exact hn.out) w).mono ?_
  · rw [size_len, e, List.length_append, pad_length, ← size_len]
    omega
  · rintro e w' ⟨rfl, t, rfl⟩
    exact ⟨rfl, Q_bytes _ _ _⟩

set_option maxRecDepth 100000 in
set_option maxHeartbeats 2000000 in
theorem Read_d_0 (s A R U P V : ByteArray) (w : World) (h : s.size ≤ 20) (hA : Hid (A.data.toList = s.data.toList.takeWhile isD)) (hR : Hid (R.data.toList = s.data.toList.dropWhile isD)) (hU : Hid (U.data.toList = Lib.trimPrefix R.data.toList [46])) (hd : Hid (true = Lib.hasPrefix R.data.toList [46])) (hu : U.size ≤ 20) (hP : Hid (P.data.toList = U.data.toList.takeWhile isD)) (hV : Hid (V.data.toList = U.data.toList.dropWhile isD)) (T : Tables w) (N : Int) (hN : 0 ≤ N ∧ N ≤ 1000000000) (h1 : A.data.toList ≠ []) (h2 : A.size ≤ 3) (h3 : P.data.toList ≠ []) (h4 : P.size ≤ 6) (hn : Hid (Lib.atoi (A.data.toList ++ pad P.data.toList) = some N)) (hv : Hid (V = ⟨#[78]⟩)) (hn2 : N ≤ 90000000) :
    Calls Tryd.prog 44 #[.string s] w fun e w' => e = .returned (.tuple #[.int .i64 N, .int .i64 0, .int .i64 0]) ∧ Q w w' := by
  obtain ⟨a1, a2⟩ := not_empty h1
  obtain ⟨a3, a4⟩ := not_empty h3
  have p1 : 1 ≤ P.size := by rw [size_len]; exact List.length_pos_iff.2 h3
  have H3 := Lib.hid h3
  clear h3
  have HT := Lib.hid T
  clear h1 T
  go_enter Tryd.func44, Tryd.ntmps44
  go_wp2_with fail
  refine (figures_eq s A R _ (by omega) hA hR).mono ?_
  rintro e w1 ⟨rfl, Q1⟩
  go_wp2_with fail
  refine (cut_eq R U true _ hU hd).mono ?_
  rintro e w2 ⟨rfl, rfl⟩
  go_wp2_with fail
  refine (figures_eq U P V _ (by omega) hP hV).mono ?_
  rintro e w3 ⟨rfl, Q3⟩
  replace Q1 := Q1.trans Q3
  clear Q3
  go_wp2_with fail
  refine (atoi_dot A P N _ h2 H3 hn).mono ?_
  rintro e w4 ⟨rfl, Q4⟩
  replace Q1 := Q1.trans Q4
  clear Q4
  have T4 := HT.out.mono Q1
  have hv' := hv.out
  clear hv
  subst hv'
  obtain ⟨t, fr, hb⟩ := T4.block
  have i0 := letter0
  have i1 := letter1
  have i2 := letter2
  have i3 := letter3
  go_wp2_with (with_reducible refine wpList_load_row rfl 79 _ rfl 0 rfl t letterCells fr _ hb Tryd.underlying79 rfl lettersSize ?_)
  refine wp_loop_rounds 5 ?_
  rw [rounds_succ]
  go_wp2_with fail
  go_quiet (fail)
  go_wp2_with fail
  go_ret3
  exact ⟨rfl, by repeat (first | exact Q1 | apply Q.drewN | apply Q.alloc)⟩

set_option maxRecDepth 100000 in
set_option maxHeartbeats 2000000 in
theorem Read_d_0o (s A R U P V : ByteArray) (w : World) (h : s.size ≤ 20) (hA : Hid (A.data.toList = s.data.toList.takeWhile isD)) (hR : Hid (R.data.toList = s.data.toList.dropWhile isD)) (hU : Hid (U.data.toList = Lib.trimPrefix R.data.toList [46])) (hd : Hid (true = Lib.hasPrefix R.data.toList [46])) (hu : U.size ≤ 20) (hP : Hid (P.data.toList = U.data.toList.takeWhile isD)) (hV : Hid (V.data.toList = U.data.toList.dropWhile isD)) (T : Tables w) (N : Int) (hN : 0 ≤ N ∧ N ≤ 1000000000) (h1 : A.data.toList ≠ []) (h2 : A.size ≤ 3) (h3 : P.data.toList ≠ []) (h4 : P.size ≤ 6) (hn : Hid (Lib.atoi (A.data.toList ++ pad P.data.toList) = some N)) (hv : Hid (V = ⟨#[78]⟩)) (hn2 : 90000000 < N) :
    Calls Tryd.prog 44 #[.string s] w fun e w' => e = .returned (.tuple #[.int .i64 0, .int .i64 0, .int .i64 7]) ∧ Q w w' := by
  obtain ⟨a1, a2⟩ := not_empty h1
  obtain ⟨a3, a4⟩ := not_empty h3
  have p1 : 1 ≤ P.size := by rw [size_len]; exact List.length_pos_iff.2 h3
  have H3 := Lib.hid h3
  clear h3
  have HT := Lib.hid T
  clear h1 T
  go_enter Tryd.func44, Tryd.ntmps44
  go_wp2_with fail
  refine (figures_eq s A R _ (by omega) hA hR).mono ?_
  rintro e w1 ⟨rfl, Q1⟩
  go_wp2_with fail
  refine (cut_eq R U true _ hU hd).mono ?_
  rintro e w2 ⟨rfl, rfl⟩
  go_wp2_with fail
  refine (figures_eq U P V _ (by omega) hP hV).mono ?_
  rintro e w3 ⟨rfl, Q3⟩
  replace Q1 := Q1.trans Q3
  clear Q3
  go_wp2_with fail
  refine (atoi_dot A P N _ h2 H3 hn).mono ?_
  rintro e w4 ⟨rfl, Q4⟩
  replace Q1 := Q1.trans Q4
  clear Q4
  have T4 := HT.out.mono Q1
  have hv' := hv.out
  clear hv
  subst hv'
  obtain ⟨t, fr, hb⟩ := T4.block
  have i0 := letter0
  have i1 := letter1
  have i2 := letter2
  have i3 := letter3
  go_wp2_with (with_reducible refine wpList_load_row rfl 79 _ rfl 0 rfl t letterCells fr _ hb Tryd.underlying79 rfl lettersSize ?_)
  refine wp_loop_rounds 5 ?_
  rw [rounds_succ]
  go_wp2_with fail
  go_ret3
  exact ⟨rfl, by repeat (first | exact Q1 | apply Q.drewN | apply Q.alloc)⟩

set_option maxRecDepth 100000 in
set_option maxHeartbeats 2000000 in
theorem Read_d_1 (s A R U P V : ByteArray) (w : World) (h : s.size ≤ 20) (hA : Hid (A.data.toList = s.data.toList.takeWhile isD)) (hR : Hid (R.data.toList = s.data.toList.dropWhile isD)) (hU : Hid (U.data.toList = Lib.trimPrefix R.data.toList [46])) (hd : Hid (true = Lib.hasPrefix R.data.toList [46])) (hu : U.size ≤ 20) (hP : Hid (P.data.toList = U.data.toList.takeWhile isD)) (hV : Hid (V.data.toList = U.data.toList.dropWhile isD)) (T : Tables w) (N : Int) (hN : 0 ≤ N ∧ N ≤ 1000000000) (h1 : A.data.toList ≠ []) (h2 : A.size ≤ 3) (h3 : P.data.toList ≠ []) (h4 : P.size ≤ 6) (hn : Hid (Lib.atoi (A.data.toList ++ pad P.data.toList) = some N)) (hv : Hid (V = ⟨#[83]⟩)) (hn2 : N ≤ 90000000) :
    Calls Tryd.prog 44 #[.string s] w fun e w' => e = .returned (.tuple #[.int .i64 (-N), .int .i64 0, .int .i64 0]) ∧ Q w w' := by
  obtain ⟨a1, a2⟩ := not_empty h1
  obtain ⟨a3, a4⟩ := not_empty h3
  have p1 : 1 ≤ P.size := by rw [size_len]; exact List.length_pos_iff.2 h3
  have H3 := Lib.hid h3
  clear h3
  have HT := Lib.hid T
  clear h1 T
  go_enter Tryd.func44, Tryd.ntmps44
  go_wp2_with fail
  refine (figures_eq s A R _ (by omega) hA hR).mono ?_
  rintro e w1 ⟨rfl, Q1⟩
  go_wp2_with fail
  refine (cut_eq R U true _ hU hd).mono ?_
  rintro e w2 ⟨rfl, rfl⟩
  go_wp2_with fail
  refine (figures_eq U P V _ (by omega) hP hV).mono ?_
  rintro e w3 ⟨rfl, Q3⟩
  replace Q1 := Q1.trans Q3
  clear Q3
  go_wp2_with fail
  refine (atoi_dot A P N _ h2 H3 hn).mono ?_
  rintro e w4 ⟨rfl, Q4⟩
  replace Q1 := Q1.trans Q4
  clear Q4
  have T4 := HT.out.mono Q1
  have hv' := hv.out
  clear hv
  subst hv'
  obtain ⟨t, fr, hb⟩ := T4.block
  have i0 := letter0
  have i1 := letter1
  have i2 := letter2
  have i3 := letter3
  go_wp2_with (with_reducible refine wpList_load_row rfl 79 _ rfl 0 rfl t letterCells fr _ hb Tryd.underlying79 rfl lettersSize ?_)
  refine wp_loop_rounds 5 ?_
  rw [rounds_succ]
  go_wp2_with fail
  rw [rounds_succ]
  go_wp2_with fail
  go_quiet (fail)
  go_wp2_with fail
  go_ret3
  exact ⟨rfl, by repeat (first | exact Q1 | apply Q.drewN | apply Q.alloc)⟩

set_option maxRecDepth 100000 in
set_option maxHeartbeats 2000000 in
theorem Read_d_1o (s A R U P V : ByteArray) (w : World) (h : s.size ≤ 20) (hA : Hid (A.data.toList = s.data.toList.takeWhile isD)) (hR : Hid (R.data.toList = s.data.toList.dropWhile isD)) (hU : Hid (U.data.toList = Lib.trimPrefix R.data.toList [46])) (hd : Hid (true = Lib.hasPrefix R.data.toList [46])) (hu : U.size ≤ 20) (hP : Hid (P.data.toList = U.data.toList.takeWhile isD)) (hV : Hid (V.data.toList = U.data.toList.dropWhile isD)) (T : Tables w) (N : Int) (hN : 0 ≤ N ∧ N ≤ 1000000000) (h1 : A.data.toList ≠ []) (h2 : A.size ≤ 3) (h3 : P.data.toList ≠ []) (h4 : P.size ≤ 6) (hn : Hid (Lib.atoi (A.data.toList ++ pad P.data.toList) = some N)) (hv : Hid (V = ⟨#[83]⟩)) (hn2 : 90000000 < N) :
    Calls Tryd.prog 44 #[.string s] w fun e w' => e = .returned (.tuple #[.int .i64 0, .int .i64 0, .int .i64 7]) ∧ Q w w' := by
  obtain ⟨a1, a2⟩ := not_empty h1
  obtain ⟨a3, a4⟩ := not_empty h3
  have p1 : 1 ≤ P.size := by rw [size_len]; exact List.length_pos_iff.2 h3
  have H3 := Lib.hid h3
  clear h3
  have HT := Lib.hid T
  clear h1 T
  go_enter Tryd.func44, Tryd.ntmps44
  go_wp2_with fail
  refine (figures_eq s A R _ (by omega) hA hR).mono ?_
  rintro e w1 ⟨rfl, Q1⟩
  go_wp2_with fail
  refine (cut_eq R U true _ hU hd).mono ?_
  rintro e w2 ⟨rfl, rfl⟩
  go_wp2_with fail
  refine (figures_eq U P V _ (by omega) hP hV).mono ?_
  rintro e w3 ⟨rfl, Q3⟩
  replace Q1 := Q1.trans Q3
  clear Q3
  go_wp2_with fail
  refine (atoi_dot A P N _ h2 H3 hn).mono ?_
  rintro e w4 ⟨rfl, Q4⟩
  replace Q1 := Q1.trans Q4
  clear Q4
  have T4 := HT.out.mono Q1
  have hv' := hv.out
  clear hv
  subst hv'
  obtain ⟨t, fr, hb⟩ := T4.block
  have i0 := letter0
  have i1 := letter1
  have i2 := letter2
  have i3 := letter3
  go_wp2_with (with_reducible refine wpList_load_row rfl 79 _ rfl 0 rfl t letterCells fr _ hb Tryd.underlying79 rfl lettersSize ?_)
  refine wp_loop_rounds 5 ?_
  rw [rounds_succ]
  go_wp2_with fail
  rw [rounds_succ]
  go_wp2_with fail
  go_ret3
  exact ⟨rfl, by repeat (first | exact Q1 | apply Q.drewN | apply Q.alloc)⟩

set_option maxRecDepth 100000 in
set_option maxHeartbeats 2000000 in
theorem Read_d_2 (s A R U P V : ByteArray) (w : World) (h : s.size ≤ 20) (hA : Hid (A.data.toList = s.data.toList.takeWhile isD)) (hR : Hid (R.data.toList = s.data.toList.dropWhile isD)) (hU : Hid (U.data.toList = Lib.trimPrefix R.data.toList [46])) (hd : Hid (true = Lib.hasPrefix R.data.toList [46])) (hu : U.size ≤ 20) (hP : Hid (P.data.toList = U.data.toList.takeWhile isD)) (hV : Hid (V.data.toList = U.data.toList.dropWhile isD)) (T : Tables w) (N : Int) (hN : 0 ≤ N ∧ N ≤ 1000000000) (h1 : A.data.toList ≠ []) (h2 : A.size ≤ 3) (h3 : P.data.toList ≠ []) (h4 : P.size ≤ 6) (hn : Hid (Lib.atoi (A.data.toList ++ pad P.data.toList) = some N)) (hv : Hid (V = ⟨#[69]⟩)) (hn2 : N ≤ 180000000) :
    Calls Tryd.prog 44 #[.string s] w fun e w' => e = .returned (.tuple #[.int .i64 N, .int .i64 1, .int .i64 0]) ∧ Q w w' := by
  obtain ⟨a1, a2⟩ := not_empty h1
  obtain ⟨a3, a4⟩ := not_empty h3
  have p1 : 1 ≤ P.size := by rw [size_len]; exact List.length_pos_iff.2 h3
  have H3 := Lib.hid h3
  clear h3
  have HT := Lib.hid T
  clear h1 T
  go_enter Tryd.func44, Tryd.ntmps44
  go_wp2_with fail
  refine (figures_eq s A R _ (by omega) hA hR).mono ?_
  rintro e w1 ⟨rfl, Q1⟩
  go_wp2_with fail
  refine (cut_eq R U true _ hU hd).mono ?_
  rintro e w2 ⟨rfl, rfl⟩
  go_wp2_with fail
  refine (figures_eq U P V _ (by omega) hP hV).mono ?_
  rintro e w3 ⟨rfl, Q3⟩
  replace Q1 := Q1.trans Q3
  clear Q3
  go_wp2_with fail
  refine (atoi_dot A P N _ h2 H3 hn).mono ?_
  rintro e w4 ⟨rfl, Q4⟩
  replace Q1 := Q1.trans Q4
  clear Q4
  have T4 := HT.out.mono Q1
  have hv' := hv.out
  clear hv
  subst hv'
  obtain ⟨t, fr, hb⟩ := T4.block
  have i0 := letter0
  have i1 := letter1
  have i2 := letter2
  have i3 := letter3
  go_wp2_with (with_reducible refine wpList_load_row rfl 79 _ rfl 0 rfl t letterCells fr _ hb Tryd.underlying79 rfl lettersSize ?_)
  refine wp_loop_rounds 5 ?_
  rw [rounds_succ]
  go_wp2_with fail
  rw [rounds_succ]
  go_wp2_with fail
  rw [rounds_succ]
  go_wp2_with fail
  go_quiet (fail)
  go_wp2_with fail
  go_ret3
  exact ⟨rfl, by repeat (first | exact Q1 | apply Q.drewN | apply Q.alloc)⟩

set_option maxRecDepth 100000 in
set_option maxHeartbeats 2000000 in
theorem Read_d_2o (s A R U P V : ByteArray) (w : World) (h : s.size ≤ 20) (hA : Hid (A.data.toList = s.data.toList.takeWhile isD)) (hR : Hid (R.data.toList = s.data.toList.dropWhile isD)) (hU : Hid (U.data.toList = Lib.trimPrefix R.data.toList [46])) (hd : Hid (true = Lib.hasPrefix R.data.toList [46])) (hu : U.size ≤ 20) (hP : Hid (P.data.toList = U.data.toList.takeWhile isD)) (hV : Hid (V.data.toList = U.data.toList.dropWhile isD)) (T : Tables w) (N : Int) (hN : 0 ≤ N ∧ N ≤ 1000000000) (h1 : A.data.toList ≠ []) (h2 : A.size ≤ 3) (h3 : P.data.toList ≠ []) (h4 : P.size ≤ 6) (hn : Hid (Lib.atoi (A.data.toList ++ pad P.data.toList) = some N)) (hv : Hid (V = ⟨#[69]⟩)) (hn2 : 180000000 < N) :
    Calls Tryd.prog 44 #[.string s] w fun e w' => e = .returned (.tuple #[.int .i64 0, .int .i64 0, .int .i64 7]) ∧ Q w w' := by
  obtain ⟨a1, a2⟩ := not_empty h1
  obtain ⟨a3, a4⟩ := not_empty h3
  have p1 : 1 ≤ P.size := by rw [size_len]; exact List.length_pos_iff.2 h3
  have H3 := Lib.hid h3
  clear h3
  have HT := Lib.hid T
  clear h1 T
  go_enter Tryd.func44, Tryd.ntmps44
  go_wp2_with fail
  refine (figures_eq s A R _ (by omega) hA hR).mono ?_
  rintro e w1 ⟨rfl, Q1⟩
  go_wp2_with fail
  refine (cut_eq R U true _ hU hd).mono ?_
  rintro e w2 ⟨rfl, rfl⟩
  go_wp2_with fail
  refine (figures_eq U P V _ (by omega) hP hV).mono ?_
  rintro e w3 ⟨rfl, Q3⟩
  replace Q1 := Q1.trans Q3
  clear Q3
  go_wp2_with fail
  refine (atoi_dot A P N _ h2 H3 hn).mono ?_
  rintro e w4 ⟨rfl, Q4⟩
  replace Q1 := Q1.trans Q4
  clear Q4
  have T4 := HT.out.mono Q1
  have hv' := hv.out
  clear hv
  subst hv'
  obtain ⟨t, fr, hb⟩ := T4.block
  have i0 := letter0
  have i1 := letter1
  have i2 := letter2
  have i3 := letter3
  go_wp2_with (with_reducible refine wpList_load_row rfl 79 _ rfl 0 rfl t letterCells fr _ hb Tryd.underlying79 rfl lettersSize ?_)
  refine wp_loop_rounds 5 ?_
  rw [rounds_succ]
  go_wp2_with fail
  rw [rounds_succ]
  go_wp2_with fail
  rw [rounds_succ]
  go_wp2_with fail
  go_ret3
  exact ⟨rfl, by repeat (first | exact Q1 | apply Q.drewN | apply Q.alloc)⟩

set_option maxRecDepth 100000 in
set_option maxHeartbeats 2000000 in
theorem Read_d_3 (s A R U P V : ByteArray) (w : World) (h : s.size ≤ 20) (hA : Hid (A.data.toList = s.data.toList.takeWhile isD)) (hR : Hid (R.data.toList = s.data.toList.dropWhile isD)) (hU : Hid (U.data.toList = Lib.trimPrefix R.data.toList [46])) (hd : Hid (true = Lib.hasPrefix R.data.toList [46])) (hu : U.size ≤ 20) (hP : Hid (P.data.toList = U.data.toList.takeWhile isD)) (hV : Hid (V.data.toList = U.data.toList.dropWhile isD)) (T : Tables w) (N : Int) (hN : 0 ≤ N ∧ N ≤ 1000000000) (h1 : A.data.toList ≠ []) (h2 : A.size ≤ 3) (h3 : P.data.toList ≠ []) (h4 : P.size ≤ 6) (hn : Hid (Lib.atoi (A.data.toList ++ pad P.data.toList) = some N)) (hv : Hid (V = ⟨#[87]⟩)) (hn2 : N ≤ 180000000) :
    Calls Tryd.prog 44 #[.string s] w fun e w' => e = .returned (.tuple #[.int .i64 (-N), .int .i64 1, .int .i64 0]) ∧ Q w w' := by
  obtain ⟨a1, a2⟩ := not_empty h1
  obtain ⟨a3, a4⟩ := not_empty h3
  have p1 : 1 ≤ P.size := by rw [size_len]; exact List.length_pos_iff.2 h3
  have H3 := Lib.hid h3
  clear h3
  have HT := Lib.hid T
  clear h1 T
  go_enter Tryd.func44, Tryd.ntmps44
  go_wp2_with fail
  refine (figures_eq s A R _ (by omega) hA hR).mono ?_
  rintro e w1 ⟨rfl, Q1⟩
  go_wp2_with fail
  refine (cut_eq R U true _ hU hd).mono ?_
  rintro e w2 ⟨rfl, rfl⟩
  go_wp2_with fail
  refine (figures_eq U P V _ (by omega) hP hV).mono ?_
  rintro e w3 ⟨rfl, Q3⟩
  replace Q1 := Q1.trans Q3
  clear Q3
  go_wp2_with fail
  refine (atoi_dot A P N _ h2 H3 hn).mono ?_
  rintro e w4 ⟨rfl, Q4⟩
  replace Q1 := Q1.trans Q4
  clear Q4
  have T4 := HT.out.mono Q1
  have hv' := hv.out
  clear hv
  subst hv'
  obtain ⟨t, fr, hb⟩ := T4.block
  have i0 := letter0
  have i1 := letter1
  have i2 := letter2
  have i3 := letter3
  go_wp2_with (with_reducible refine wpList_load_row rfl 79 _ rfl 0 rfl t letterCells fr _ hb Tryd.underlying79 rfl lettersSize ?_)
  refine wp_loop_rounds 5 ?_
  rw [rounds_succ]
  go_wp2_with fail
  rw [rounds_succ]
  go_wp2_with fail
  rw [rounds_succ]
  go_wp2_with fail
  rw [rounds_succ]
  go_wp2_with fail
  go_quiet (fail)
  go_wp2_with fail
  go_ret3
  exact ⟨rfl, by repeat (first | exact Q1 | apply Q.drewN | apply Q.alloc)⟩

set_option maxRecDepth 100000 in
set_option maxHeartbeats 2000000 in
theorem Read_d_3o (s A R U P V : ByteArray) (w : World) (h : s.size ≤ 20) (hA : Hid (A.data.toList = s.data.toList.takeWhile isD)) (hR : Hid (R.data.toList = s.data.toList.dropWhile isD)) (hU : Hid (U.data.toList = Lib.trimPrefix R.data.toList [46])) (hd : Hid (true = Lib.hasPrefix R.data.toList [46])) (hu : U.size ≤ 20) (hP : Hid (P.data.toList = U.data.toList.takeWhile isD)) (hV : Hid (V.data.toList = U.data.toList.dropWhile isD)) (T : Tables w) (N : Int) (hN : 0 ≤ N ∧ N ≤ 1000000000) (h1 : A.data.toList ≠ []) (h2 : A.size ≤ 3) (h3 : P.data.toList ≠ []) (h4 : P.size ≤ 6) (hn : Hid (Lib.atoi (A.data.toList ++ pad P.data.toList) = some N)) (hv : Hid (V = ⟨#[87]⟩)) (hn2 : 180000000 < N) :
    Calls Tryd.prog 44 #[.string s] w fun e w' => e = .returned (.tuple #[.int .i64 0, .int .i64 0, .int .i64 7]) ∧ Q w w' := by
  obtain ⟨a1, a2⟩ := not_empty h1
  obtain ⟨a3, a4⟩ := not_empty h3
  have p1 : 1 ≤ P.size := by rw [size_len]; exact List.length_pos_iff.2 h3
  have H3 := Lib.hid h3
  clear h3
  have HT := Lib.hid T
  clear h1 T
  go_enter Tryd.func44, Tryd.ntmps44
  go_wp2_with fail
  refine (figures_eq s A R _ (by omega) hA hR).mono ?_
  rintro e w1 ⟨rfl, Q1⟩
  go_wp2_with fail
  refine (cut_eq R U true _ hU hd).mono ?_
  rintro e w2 ⟨rfl, rfl⟩
  go_wp2_with fail
  refine (figures_eq U P V _ (by omega) hP hV).mono ?_
  rintro e w3 ⟨rfl, Q3⟩
  replace Q1 := Q1.trans Q3
  clear Q3
  go_wp2_with fail
  refine (atoi_dot A P N _ h2 H3 hn).mono ?_
  rintro e w4 ⟨rfl, Q4⟩
  replace Q1 := Q1.trans Q4
  clear Q4
  have T4 := HT.out.mono Q1
  have hv' := hv.out
  clear hv
  subst hv'
  obtain ⟨t, fr, hb⟩ := T4.block
  have i0 := letter0
  have i1 := letter1
  have i2 := letter2
  have i3 := letter3
  go_wp2_with (with_reducible refine wpList_load_row rfl 79 _ rfl 0 rfl t letterCells fr _ hb Tryd.underlying79 rfl lettersSize ?_)
  refine wp_loop_rounds 5 ?_
  rw [rounds_succ]
  go_wp2_with fail
  rw [rounds_succ]
  go_wp2_with fail
  rw [rounds_succ]
  go_wp2_with fail
  rw [rounds_succ]
  go_wp2_with fail
  go_ret3
  exact ⟨rfl, by repeat (first | exact Q1 | apply Q.drewN | apply Q.alloc)⟩

set_option maxRecDepth 100000 in
set_option maxHeartbeats 2000000 in
theorem Read_d_n (s A R U P V : ByteArray) (w : World) (h : s.size ≤ 20) (hA : Hid (A.data.toList = s.data.toList.takeWhile isD)) (hR : Hid (R.data.toList = s.data.toList.dropWhile isD)) (hU : Hid (U.data.toList = Lib.trimPrefix R.data.toList [46])) (hd : Hid (true = Lib.hasPrefix R.data.toList [46])) (hu : U.size ≤ 20) (hP : Hid (P.data.toList = U.data.toList.takeWhile isD)) (hV : Hid (V.data.toList = U.data.toList.dropWhile isD)) (T : Tables w) (N : Int) (hN : 0 ≤ N ∧ N ≤ 1000000000) (h1 : A.data.toList ≠ []) (h2 : A.size ≤ 3) (h3 : P.data.toList ≠ []) (h4 : P.size ≤ 6) (hn : Hid (Lib.atoi (A.data.toList ++ pad P.data.toList) = some N)) (hv : V.data.toList ≠ [78] ∧ V.data.toList ≠ [83] ∧ V.data.toList ≠ [69] ∧ V.data.toList ≠ [87]) :
    Calls Tryd.prog 44 #[.string s] w fun e w' => e = .returned (.tuple #[.int .i64 0, .int .i64 0, .int .i64 6]) ∧ Q w w' := by
  obtain ⟨a1, a2⟩ := not_empty h1
  obtain ⟨a3, a4⟩ := not_empty h3
  have p1 : 1 ≤ P.size := by rw [size_len]; exact List.length_pos_iff.2 h3
  have H3 := Lib.hid h3
  clear h3
  have v1 := not_bytes hv.1
  have v2 := not_bytes hv.2.1
  have v3 := not_bytes hv.2.2.1
  have v4 := not_bytes hv.2.2.2
  clear hv
  have HT := Lib.hid T
  clear h1 T
  go_enter Tryd.func44, Tryd.ntmps44
  go_wp2_with fail
  refine (figures_eq s A R _ (by omega) hA hR).mono ?_
  rintro e w1 ⟨rfl, Q1⟩
  go_wp2_with fail
  refine (cut_eq R U true _ hU hd).mono ?_
  rintro e w2 ⟨rfl, rfl⟩
  go_wp2_with fail
  refine (figures_eq U P V _ (by omega) hP hV).mono ?_
  rintro e w3 ⟨rfl, Q3⟩
  replace Q1 := Q1.trans Q3
  clear Q3
  go_wp2_with fail
  refine (atoi_dot A P N _ h2 H3 hn).mono ?_
  rintro e w4 ⟨rfl, Q4⟩
  replace Q1 := Q1.trans Q4
  clear Q4
  have T4 := HT.out.mono Q1
  obtain ⟨t, fr, hb⟩ := T4.block
  have i0 := letter0
  have i1 := letter1
  have i2 := letter2
  have i3 := letter3
  go_wp2_with (with_reducible refine wpList_load_row rfl 79 _ rfl 0 rfl t letterCells fr _ hb Tryd.underlying79 rfl lettersSize ?_)
  refine wp_loop_rounds 5 ?_
  rw [rounds_succ]
  go_wp2_with fail
  rw [rounds_succ]
  go_wp2_with fail
  rw [rounds_succ]
  go_wp2_with fail
  rw [rounds_succ]
  go_wp2_with fail
  rw [rounds_succ]
  go_wp2_with fail
  go_ret3
  exact ⟨rfl, by repeat (first | exact Q1 | apply Q.drewN | apply Q.alloc)⟩

set_option maxRecDepth 100000 in
set_option maxHeartbeats 2000000 in
theorem Read_p_0 (s A R : ByteArray) (w : World) (h : s.size ≤ 20) (hA : Hid (A.data.toList = s.data.toList.takeWhile isD)) (hR : Hid (R.data.toList = s.data.toList.dropWhile isD)) (hU : Hid (R.data.toList = Lib.trimPrefix R.data.toList [46])) (hd : Hid (false = Lib.hasPrefix R.data.toList [46])) (T : Tables w) (N : Int) (hN : 0 ≤ N ∧ N ≤ 1000000000) (h1 : A.data.toList ≠ []) (h2 : A.size ≤ 3) (hn : Hid (Lib.atoi (A.data.toList ++ pad [48]) = some N)) (hv : Hid (R = ⟨#[78]⟩)) (hn2 : N ≤ 90000000) :
    Calls Tryd.prog 44 #[.string s] w fun e w' => e = .returned (.tuple #[.int .i64 N, .int .i64 0, .int .i64 0]) ∧ Q w w' := by
  obtain ⟨a1, a2⟩ := not_empty h1
  have HT := Lib.hid T
  clear h1 T
  go_enter Tryd.func44, Tryd.ntmps44
  go_wp2_with fail
  refine (figures_eq s A R _ (by omega) hA hR).mono ?_
  rintro e w1 ⟨rfl, Q1⟩
  go_wp2_with fail
  refine (cut_eq R R false _ hU hd).mono ?_
  rintro e w2 ⟨rfl, rfl⟩
  go_wp2_with fail
  refine (atoi_plain A N _ h2 hn).mono ?_
  rintro e w4 ⟨rfl, Q4⟩
  replace Q1 := Q1.trans Q4
  clear Q4
  have T4 := HT.out.mono Q1
  have hv' := hv.out
  clear hv
  subst hv'
  obtain ⟨t, fr, hb⟩ := T4.block
  have i0 := letter0
  have i1 := letter1
  have i2 := letter2
  have i3 := letter3
  go_wp2_with (with_reducible refine wpList_load_row rfl 79 _ rfl 0 rfl t letterCells fr _ hb Tryd.underlying79 rfl lettersSize ?_)
  refine wp_loop_rounds 5 ?_
  rw [rounds_succ]
  go_wp2_with fail
  go_quiet (fail)
  go_wp2_with fail
  go_ret3
  exact ⟨rfl, by repeat (first | exact Q1 | apply Q.drewN | apply Q.alloc)⟩

set_option maxRecDepth 100000 in
set_option maxHeartbeats 2000000 in
theorem Read_p_0o (s A R : ByteArray) (w : World) (h : s.size ≤ 20) (hA : Hid (A.data.toList = s.data.toList.takeWhile isD)) (hR : Hid (R.data.toList = s.data.toList.dropWhile isD)) (hU : Hid (R.data.toList = Lib.trimPrefix R.data.toList [46])) (hd : Hid (false = Lib.hasPrefix R.data.toList [46])) (T : Tables w) (N : Int) (hN : 0 ≤ N ∧ N ≤ 1000000000) (h1 : A.data.toList ≠ []) (h2 : A.size ≤ 3) (hn : Hid (Lib.atoi (A.data.toList ++ pad [48]) = some N)) (hv : Hid (R = ⟨#[78]⟩)) (hn2 : 90000000 < N) :
    Calls Tryd.prog 44 #[.string s] w fun e w' => e = .returned (.tuple #[.int .i64 0, .int .i64 0, .int .i64 7]) ∧ Q w w' := by
  obtain ⟨a1, a2⟩ := not_empty h1
  have HT := Lib.hid T
  clear h1 T
  go_enter Tryd.func44, Tryd.ntmps44
  go_wp2_with fail
  refine (figures_eq s A R _ (by omega) hA hR).mono ?_
  rintro e w1 ⟨rfl, Q1⟩
  go_wp2_with fail
  refine (cut_eq R R false _ hU hd).mono ?_
  rintro e w2 ⟨rfl, rfl⟩
  go_wp2_with fail
  refine (atoi_plain A N _ h2 hn).mono ?_
  rintro e w4 ⟨rfl, Q4⟩
  replace Q1 := Q1.trans Q4
  clear Q4
  have T4 := HT.out.mono Q1
  have hv' := hv.out
  clear hv
  subst hv'
  obtain ⟨t, fr, hb⟩ := T4.block
  have i0 := letter0
  have i1 := letter1
  have i2 := letter2
  have i3 := letter3
  go_wp2_with (with_reducible refine wpList_load_row rfl 79 _ rfl 0 rfl t letterCells fr _ hb Tryd.underlying79 rfl lettersSize ?_)
  refine wp_loop_rounds 5 ?_
  rw [rounds_succ]
  go_wp2_with fail
  go_ret3
  exact ⟨rfl, by repeat (first | exact Q1 | apply Q.drewN | apply Q.alloc)⟩

set_option maxRecDepth 100000 in
set_option maxHeartbeats 2000000 in
theorem Read_p_1 (s A R : ByteArray) (w : World) (h : s.size ≤ 20) (hA : Hid (A.data.toList = s.data.toList.takeWhile isD)) (hR : Hid (R.data.toList = s.data.toList.dropWhile isD)) (hU : Hid (R.data.toList = Lib.trimPrefix R.data.toList [46])) (hd : Hid (false = Lib.hasPrefix R.data.toList [46])) (T : Tables w) (N : Int) (hN : 0 ≤ N ∧ N ≤ 1000000000) (h1 : A.data.toList ≠ []) (h2 : A.size ≤ 3) (hn : Hid (Lib.atoi (A.data.toList ++ pad [48]) = some N)) (hv : Hid (R = ⟨#[83]⟩)) (hn2 : N ≤ 90000000) :
    Calls Tryd.prog 44 #[.string s] w fun e w' => e = .returned (.tuple #[.int .i64 (-N), .int .i64 0, .int .i64 0]) ∧ Q w w' := by
  obtain ⟨a1, a2⟩ := not_empty h1
  have HT := Lib.hid T
  clear h1 T
  go_enter Tryd.func44, Tryd.ntmps44
  go_wp2_with fail
  refine (figures_eq s A R _ (by omega) hA hR).mono ?_
  rintro e w1 ⟨rfl, Q1⟩
  go_wp2_with fail
  refine (cut_eq R R false _ hU hd).mono ?_
  rintro e w2 ⟨rfl, rfl⟩
  go_wp2_with fail
  refine (atoi_plain A N _ h2 hn).mono ?_
  rintro e w4 ⟨rfl, Q4⟩
  replace Q1 := Q1.trans Q4
  clear Q4
  have T4 := HT.out.mono Q1
  have hv' := hv.out
  clear hv
  subst hv'
  obtain ⟨t, fr, hb⟩ := T4.block
  have i0 := letter0
  have i1 := letter1
  have i2 := letter2
  have i3 := letter3
  go_wp2_with (with_reducible refine wpList_load_row rfl 79 _ rfl 0 rfl t letterCells fr _ hb Tryd.underlying79 rfl lettersSize ?_)
  refine wp_loop_rounds 5 ?_
  rw [rounds_succ]
  go_wp2_with fail
  rw [rounds_succ]
  go_wp2_with fail
  go_quiet (fail)
  go_wp2_with fail
  go_ret3
  exact ⟨rfl, by repeat (first | exact Q1 | apply Q.drewN | apply Q.alloc)⟩

set_option maxRecDepth 100000 in
set_option maxHeartbeats 2000000 in
theorem Read_p_1o (s A R : ByteArray) (w : World) (h : s.size ≤ 20) (hA : Hid (A.data.toList = s.data.toList.takeWhile isD)) (hR : Hid (R.data.toList = s.data.toList.dropWhile isD)) (hU : Hid (R.data.toList = Lib.trimPrefix R.data.toList [46])) (hd : Hid (false = Lib.hasPrefix R.data.toList [46])) (T : Tables w) (N : Int) (hN : 0 ≤ N ∧ N ≤ 1000000000) (h1 : A.data.toList ≠ []) (h2 : A.size ≤ 3) (hn : Hid (Lib.atoi (A.data.toList ++ pad [48]) = some N)) (hv : Hid (R = ⟨#[83]⟩)) (hn2 : 90000000 < N) :
    Calls Tryd.prog 44 #[.string s] w fun e w' => e = .returned (.tuple #[.int .i64 0, .int .i64 0, .int .i64 7]) ∧ Q w w' := by
  obtain ⟨a1, a2⟩ := not_empty h1
  have HT := Lib.hid T
  clear h1 T
  go_enter Tryd.func44, Tryd.ntmps44
  go_wp2_with fail
  refine (figures_eq s A R _ (by omega) hA hR).mono ?_
  rintro e w1 ⟨rfl, Q1⟩
  go_wp2_with fail
  refine (cut_eq R R false _ hU hd).mono ?_
  rintro e w2 ⟨rfl, rfl⟩
  go_wp2_with fail
  refine (atoi_plain A N _ h2 hn).mono ?_
  rintro e w4 ⟨rfl, Q4⟩
  replace Q1 := Q1.trans Q4
  clear Q4
  have T4 := HT.out.mono Q1
  have hv' := hv.out
  clear hv
  subst hv'
  obtain ⟨t, fr, hb⟩ := T4.block
  have i0 := letter0
  have i1 := letter1
  have i2 := letter2
  have i3 := letter3
  go_wp2_with (with_reducible refine wpList_load_row rfl 79 _ rfl 0 rfl t letterCells fr _ hb Tryd.underlying79 rfl lettersSize ?_)
  refine wp_loop_rounds 5 ?_
  rw [rounds_succ]
  go_wp2_with fail
  rw [rounds_succ]
  go_wp2_with fail
  go_ret3
  exact ⟨rfl, by repeat (first | exact Q1 | apply Q.drewN | apply Q.alloc)⟩

set_option maxRecDepth 100000 in
set_option maxHeartbeats 2000000 in
theorem Read_p_2 (s A R : ByteArray) (w : World) (h : s.size ≤ 20) (hA : Hid (A.data.toList = s.data.toList.takeWhile isD)) (hR : Hid (R.data.toList = s.data.toList.dropWhile isD)) (hU : Hid (R.data.toList = Lib.trimPrefix R.data.toList [46])) (hd : Hid (false = Lib.hasPrefix R.data.toList [46])) (T : Tables w) (N : Int) (hN : 0 ≤ N ∧ N ≤ 1000000000) (h1 : A.data.toList ≠ []) (h2 : A.size ≤ 3) (hn : Hid (Lib.atoi (A.data.toList ++ pad [48]) = some N)) (hv : Hid (R = ⟨#[69]⟩)) (hn2 : N ≤ 180000000) :
    Calls Tryd.prog 44 #[.string s] w fun e w' => e = .returned (.tuple #[.int .i64 N, .int .i64 1, .int .i64 0]) ∧ Q w w' := by
  obtain ⟨a1, a2⟩ := not_empty h1
  have HT := Lib.hid T
  clear h1 T
  go_enter Tryd.func44, Tryd.ntmps44
  go_wp2_with fail
  refine (figures_eq s A R _ (by omega) hA hR).mono ?_
  rintro e w1 ⟨rfl, Q1⟩
  go_wp2_with fail
  refine (cut_eq R R false _ hU hd).mono ?_
  rintro e w2 ⟨rfl, rfl⟩
  go_wp2_with fail
  refine (atoi_plain A N _ h2 hn).mono ?_
  rintro e w4 ⟨rfl, Q4⟩
  replace Q1 := Q1.trans Q4
  clear Q4
  have T4 := HT.out.mono Q1
  have hv' := hv.out
  clear hv
  subst hv'
  obtain ⟨t, fr, hb⟩ := T4.block
  have i0 := letter0
  have i1 := letter1
  have i2 := letter2
  have i3 := letter3
  go_wp2_with (with_reducible refine wpList_load_row rfl 79 _ rfl 0 rfl t letterCells fr _ hb Tryd.underlying79 rfl lettersSize ?_)
  refine wp_loop_rounds 5 ?_
  rw [rounds_succ]
  go_wp2_with fail
  rw [rounds_succ]
  go_wp2_with fail
  rw [rounds_succ]
  go_wp2_with fail
  go_quiet (fail)
  go_wp2_with fail
  go_ret3
  exact ⟨rfl, by repeat (first | exact Q1 | apply Q.drewN | apply Q.alloc)⟩

set_option maxRecDepth 100000 in
set_option maxHeartbeats 2000000 in
theorem Read_p_2o (s A R : ByteArray) (w : World) (h : s.size ≤ 20) (hA : Hid (A.data.toList = s.data.toList.takeWhile isD)) (hR : Hid (R.data.toList = s.data.toList.dropWhile isD)) (hU : Hid (R.data.toList = Lib.trimPrefix R.data.toList [46])) (hd : Hid (false = Lib.hasPrefix R.data.toList [46])) (T : Tables w) (N : Int) (hN : 0 ≤ N ∧ N ≤ 1000000000) (h1 : A.data.toList ≠ []) (h2 : A.size ≤ 3) (hn : Hid (Lib.atoi (A.data.toList ++ pad [48]) = some N)) (hv : Hid (R = ⟨#[69]⟩)) (hn2 : 180000000 < N) :
    Calls Tryd.prog 44 #[.string s] w fun e w' => e = .returned (.tuple #[.int .i64 0, .int .i64 0, .int .i64 7]) ∧ Q w w' := by
  obtain ⟨a1, a2⟩ := not_empty h1
  have HT := Lib.hid T
  clear h1 T
  go_enter Tryd.func44, Tryd.ntmps44
  go_wp2_with fail
  refine (figures_eq s A R _ (by omega) hA hR).mono ?_
  rintro e w1 ⟨rfl, Q1⟩
  go_wp2_with fail
  refine (cut_eq R R false _ hU hd).mono ?_
  rintro e w2 ⟨rfl, rfl⟩
  go_wp2_with fail
  refine (atoi_plain A N _ h2 hn).mono ?_
  rintro e w4 ⟨rfl, Q4⟩
  replace Q1 := Q1.trans Q4
  clear Q4
  have T4 := HT.out.mono Q1
  have hv' := hv.out
  clear hv
  subst hv'
  obtain ⟨t, fr, hb⟩ := T4.block
  have i0 := letter0
  have i1 := letter1
  have i2 := letter2
  have i3 := letter3
  go_wp2_with (with_reducible refine wpList_load_row rfl 79 _ rfl 0 rfl t letterCells fr _ hb Tryd.underlying79 rfl lettersSize ?_)
  refine wp_loop_rounds 5 ?_
  rw [rounds_succ]
  go_wp2_with fail
  rw [rounds_succ]
  go_wp2_with fail
  rw [rounds_succ]
  go_wp2_with fail
  go_ret3
  exact ⟨rfl, by repeat (first | exact Q1 | apply Q.drewN | apply Q.alloc)⟩

set_option maxRecDepth 100000 in
set_option maxHeartbeats 2000000 in
theorem Read_p_3 (s A R : ByteArray) (w : World) (h : s.size ≤ 20) (hA : Hid (A.data.toList = s.data.toList.takeWhile isD)) (hR : Hid (R.data.toList = s.data.toList.dropWhile isD)) (hU : Hid (R.data.toList = Lib.trimPrefix R.data.toList [46])) (hd : Hid (false = Lib.hasPrefix R.data.toList [46])) (T : Tables w) (N : Int) (hN : 0 ≤ N ∧ N ≤ 1000000000) (h1 : A.data.toList ≠ []) (h2 : A.size ≤ 3) (hn : Hid (Lib.atoi (A.data.toList ++ pad [48]) = some N)) (hv : Hid (R = ⟨#[87]⟩)) (hn2 : N ≤ 180000000) :
    Calls Tryd.prog 44 #[.string s] w fun e w' => e = .returned (.tuple #[.int .i64 (-N), .int .i64 1, .int .i64 0]) ∧ Q w w' := by
  obtain ⟨a1, a2⟩ := not_empty h1
  have HT := Lib.hid T
  clear h1 T
  go_enter Tryd.func44, Tryd.ntmps44
  go_wp2_with fail
  refine (figures_eq s A R _ (by omega) hA hR).mono ?_
  rintro e w1 ⟨rfl, Q1⟩
  go_wp2_with fail
  refine (cut_eq R R false _ hU hd).mono ?_
  rintro e w2 ⟨rfl, rfl⟩
  go_wp2_with fail
  refine (atoi_plain A N _ h2 hn).mono ?_
  rintro e w4 ⟨rfl, Q4⟩
  replace Q1 := Q1.trans Q4
  clear Q4
  have T4 := HT.out.mono Q1
  have hv' := hv.out
  clear hv
  subst hv'
  obtain ⟨t, fr, hb⟩ := T4.block
  have i0 := letter0
  have i1 := letter1
  have i2 := letter2
  have i3 := letter3
  go_wp2_with (with_reducible refine wpList_load_row rfl 79 _ rfl 0 rfl t letterCells fr _ hb Tryd.underlying79 rfl lettersSize ?_)
  refine wp_loop_rounds 5 ?_
  rw [rounds_succ]
  go_wp2_with fail
  rw [rounds_succ]
  go_wp2_with fail
  rw [rounds_succ]
  go_wp2_with fail
  rw [rounds_succ]
  go_wp2_with fail
  go_quiet (fail)
  go_wp2_with fail
  go_ret3
  exact ⟨rfl, by repeat (first | exact Q1 | apply Q.drewN | apply Q.alloc)⟩

set_option maxRecDepth 100000 in
set_option maxHeartbeats 2000000 in
theorem Read_p_3o (s A R : ByteArray) (w : World) (h : s.size ≤ 20) (hA : Hid (A.data.toList = s.data.toList.takeWhile isD)) (hR : Hid (R.data.toList = s.data.toList.dropWhile isD)) (hU : Hid (R.data.toList = Lib.trimPrefix R.data.toList [46])) (hd : Hid (false = Lib.hasPrefix R.data.toList [46])) (T : Tables w) (N : Int) (hN : 0 ≤ N ∧ N ≤ 1000000000) (h1 : A.data.toList ≠ []) (h2 : A.size ≤ 3) (hn : Hid (Lib.atoi (A.data.toList ++ pad [48]) = some N)) (hv : Hid (R = ⟨#[87]⟩)) (hn2 : 180000000 < N) :
    Calls Tryd.prog 44 #[.string s] w fun e w' => e = .returned (.tuple #[.int .i64 0, .int .i64 0, .int .i64 7]) ∧ Q w w' := by
  obtain ⟨a1, a2⟩ := not_empty h1
  have HT := Lib.hid T
  clear h1 T
  go_enter Tryd.func44, Tryd.ntmps44
  go_wp2_with fail
  refine (figures_eq s A R _ (by omega) hA hR).mono ?_
  rintro e w1 ⟨rfl, Q1⟩
  go_wp2_with fail
  refine (cut_eq R R false _ hU hd).mono ?_
  rintro e w2 ⟨rfl, rfl⟩
  go_wp2_with fail
  refine (atoi_plain A N _ h2 hn).mono ?_
  rintro e w4 ⟨rfl, Q4⟩
  replace Q1 := Q1.trans Q4
  clear Q4
  have T4 := HT.out.mono Q1
  have hv' := hv.out
  clear hv
  subst hv'
  obtain ⟨t, fr, hb⟩ := T4.block
  have i0 := letter0
  have i1 := letter1
  have i2 := letter2
  have i3 := letter3
  go_wp2_with (with_reducible refine wpList_load_row rfl 79 _ rfl 0 rfl t letterCells fr _ hb Tryd.underlying79 rfl lettersSize ?_)
  refine wp_loop_rounds 5 ?_
  rw [rounds_succ]
  go_wp2_with fail
  rw [rounds_succ]
  go_wp2_with fail
  rw [rounds_succ]
  go_wp2_with fail
  rw [rounds_succ]
  go_wp2_with fail
  go_ret3
  exact ⟨rfl, by repeat (first | exact Q1 | apply Q.drewN | apply Q.alloc)⟩

set_option maxRecDepth 100000 in
set_option maxHeartbeats 2000000 in
theorem Read_p_n (s A R : ByteArray) (w : World) (h : s.size ≤ 20) (hA : Hid (A.data.toList = s.data.toList.takeWhile isD)) (hR : Hid (R.data.toList = s.data.toList.dropWhile isD)) (hU : Hid (R.data.toList = Lib.trimPrefix R.data.toList [46])) (hd : Hid (false = Lib.hasPrefix R.data.toList [46])) (T : Tables w) (N : Int) (hN : 0 ≤ N ∧ N ≤ 1000000000) (h1 : A.data.toList ≠ []) (h2 : A.size ≤ 3) (hn : Hid (Lib.atoi (A.data.toList ++ pad [48]) = some N)) (hv : R.data.toList ≠ [78] ∧ R.data.toList ≠ [83] ∧ R.data.toList ≠ [69] ∧ R.data.toList ≠ [87]) :
    Calls Tryd.prog 44 #[.string s] w fun e w' => e = .returned (.tuple #[.int .i64 0, .int .i64 0, .int .i64 6]) ∧ Q w w' := by
  obtain ⟨a1, a2⟩ := not_empty h1
  have v1 := not_bytes hv.1
  have v2 := not_bytes hv.2.1
  have v3 := not_bytes hv.2.2.1
  have v4 := not_bytes hv.2.2.2
  clear hv
  have HT := Lib.hid T
  clear h1 T
  go_enter Tryd.func44, Tryd.ntmps44
  go_wp2_with fail
  refine (figures_eq s A R _ (by omega) hA hR).mono ?_
  rintro e w1 ⟨rfl, Q1⟩
  go_wp2_with fail
  refine (cut_eq R R false _ hU hd).mono ?_
  rintro e w2 ⟨rfl, rfl⟩
  go_wp2_with fail
  refine (atoi_plain A N _ h2 hn).mono ?_
  rintro e w4 ⟨rfl, Q4⟩
  replace Q1 := Q1.trans Q4
  clear Q4
  have T4 := HT.out.mono Q1
  obtain ⟨t, fr, hb⟩ := T4.block
  have i0 := letter0
  have i1 := letter1
  have i2 := letter2
  have i3 := letter3
  go_wp2_with (with_reducible refine wpList_load_row rfl 79 _ rfl 0 rfl t letterCells fr _ hb Tryd.underlying79 rfl lettersSize ?_)
  refine wp_loop_rounds 5 ?_
  rw [rounds_succ]
  go_wp2_with fail
  rw [rounds_succ]
  go_wp2_with fail
  rw [rounds_succ]
  go_wp2_with fail
  rw [rounds_succ]
  go_wp2_with fail
  rw [rounds_succ]
  go_wp2_with fail
  go_ret3
  exact ⟨rfl, by repeat (first | exact Q1 | apply Q.drewN | apply Q.alloc)⟩

end Go.Proofs.YtjbhnjnlpekpoaaDoor
