/-
  Write of package angle: what it returns, for every angle and axis.
-/
import Derived.Test.YtjbhnjnlpekpoaaDoorReadW
namespace Go.Proofs.YtjbhnjnlpekpoaaDoor
open Go.RowKit Go.Sort
set_option linter.unusedVariables false

theorem run_maxW (ts : Array TypeId) (t : TypeId) (p q : Int) (w : World) : (Builtin.max_ ts t #[.int .i64 p, .int .i64 q]).run Tryd.prog w = .ok (.int .i64 (max p q)) w := by
  rw [← if_max p q]
  simp [Builtin.max_, Builtin.max2]

theorem itoa_eq (n : Int) (S : ByteArray) (w : World) (T : Tables w) (h0 : -9223372036854775808 ≤ n) (h1 : n ≤ 9223372036854775807) (hS : Hid (S.data.toList = Lib.itoa n)) :
    Calls Tryd.prog 77 #[.int .i64 n] w fun e w' => e = .returned (.string S) ∧ Q w w' := by
  refine (Tryd.strconv_Itoa n h0 h1 w T.pow10).mono ?_
  rintro e w' ⟨rfl, q, os, rfl⟩
  have : (⟨(Lib.itoa n).toArray⟩ : ByteArray) = S := bytes_ext (by rw [hS.out])
  rw [this]
  exact ⟨rfl, Q.of_grow _ _ _⟩
theorem trimR_eq (s z : ByteArray) (w : World) (hs : s.size ≤ 9223372036854775807) (hz : Hid (z.data.toList = Lib.trimRightB s.data.toList 48)) :
    Calls Tryd.prog 78 #[.string s, .string ⟨#[48]⟩] w fun e w' => e = .returned (.string z) ∧ w' = w := by
  refine (Tryd.strings_TrimRight_one s 48 (by decide) w hs).mono ?_
  rintro e w' ⟨rfl, rfl⟩
  have : (⟨(Lib.trimRightB s.data.toList 48).toArray⟩ : ByteArray) = z := bytes_ext (by rw [hz.out])
  rw [this]
  exact ⟨rfl, rfl⟩
set_option maxRecDepth 100000 in
set_option maxHeartbeats 2000000 in
theorem Write_none (a x : Int) (w : World) (T : Tables w) (h0 : x ≠ 0) (h1 : x ≠ 1) :
    Calls Tryd.prog 46 #[.int .i64 a, .int .i64 x] w fun e w' => e = .returned (.tuple #[.string ⟨#[]⟩, .int .i64 2]) ∧ Q w w' := by
  have HT := Lib.hid T
  have b0 : (0 == x) = false := by rw [beq_eq_false_iff_ne]; exact fun e => h0 e.symm
  have b1 : (1 == x) = false := by rw [beq_eq_false_iff_ne]; exact fun e => h1 e.symm
  have c0 : (0 != x) = true := by rw [bne_iff_ne]; exact fun e => h0 e.symm
  have c1 : (1 != x) = true := by rw [bne_iff_ne]; exact fun e => h1 e.symm
  have d0 : ¬ (0 : Int) = x := fun e => h0 e.symm
  have d1 : ¬ (1 : Int) = x := fun e => h1 e.symm
  clear T
  go_enter Tryd.func46, Tryd.ntmps46
  obtain ⟨t, fr, hb⟩ := HT.out.block
  have i0 := letter0
  have i1 := letter1
  have i2 := letter2
  have i3 := letter3
  go_wp2_with (with_reducible refine wpList_load_row rfl 79 _ rfl 0 rfl t letterCells fr _ hb Tryd.underlying79 rfl lettersSize ?_)
  refine wp_loop_rounds 5 ?_
  rw [rounds_succ]
  go_wp2_with fail
  rw [rounds_succ]
  go_wp2_with fail
  rw [rounds_succ]
  go_wp2_with fail
  rw [rounds_succ]
  go_wp2_with fail
  rw [rounds_succ]
  go_wp2_with fail
  go_ret2
  exact ⟨rfl, by repeat (first | exact Q.refl _ | apply Q.drewN | apply Q.alloc)⟩

set_option maxRecDepth 100000 in
set_option maxHeartbeats 2000000 in
theorem Write_0o (N : Int) (w : World) (T : Tables w) (h : 90000000 < N) (hm : N ≤ 9223372036854775808) (hm' : N ≤ 9223372036854775807) :
    Calls Tryd.prog 46 #[.int .i64 N, .int .i64 0] w fun e w' => e = .returned (.tuple #[.string ⟨#[]⟩, .int .i64 7]) ∧ Q w w' := by
  have HT := Lib.hid T
  have hN : 1 ≤ N := by omega
  clear T
  go_enter Tryd.func46, Tryd.ntmps46
  obtain ⟨t, fr, hb⟩ := HT.out.block
  have i0 := letter0
  have i1 := letter1
  have i2 := letter2
  have i3 := letter3
  go_wp2_with (with_reducible refine wpList_load_row rfl 79 _ rfl 0 rfl t letterCells fr _ hb Tryd.underlying79 rfl lettersSize ?_)
  refine wp_loop_rounds 5 ?_
  rw [rounds_succ]
  go_wp2_with fail
  go_ret2
  exact ⟨rfl, by repeat (first | exact Q.refl _ | apply Q.drewN | apply Q.alloc)⟩

set_option maxRecDepth 100000 in
set_option maxHeartbeats 2000000 in
theorem Write_0 (N q r : Int) (S : ByteArray) (w : World) (T : Tables w) (hN : 0 ≤ N) (hl : N ≤ 90000000) (hq : Hid (N / 1000000 = q)) (hr : Hid (N % 1000000 = r)) (hS : Hid (S.data.toList = Lib.itoa q)) (sS : S.size ≤ 20) (h0 : r = 0) :
    Calls Tryd.prog 46 #[.int .i64 N, .int .i64 0] w fun e w' => e = .returned (.tuple #[.string (S ++ ⟨#[78]⟩), .int .i64 0]) ∧ Q w w' := by
  have HT := Lib.hid T
  have bq : 0 ≤ q ∧ q ≤ 1000 := by have := hq.out; omega
  have br : 0 ≤ r ∧ r ≤ 999999 := by have := hr.out; omega
  have hmx : max N (-N) = N := by omega
  have xW := run_maxW
  have hqo := hq.out
  have hro := hr.out
  have t1 : N.tdiv 1000000 = q := by rw [Int.tdiv_eq_ediv_of_nonneg (by omega), hqo]
  have t2 : N.tmod 1000000 = r := by rw [Int.tmod_eq_emod_of_nonneg (by omega), hro]
  clear T hq hr
  subst h0
  go_enter Tryd.func46, Tryd.ntmps46
  obtain ⟨t, fr, hb⟩ := HT.out.block
  have i0 := letter0
  have i1 := letter1
  have i2 := letter2
  have i3 := letter3
  go_wp2_with (with_reducible refine wpList_load_row rfl 79 _ rfl 0 rfl t letterCells fr _ hb Tryd.underlying79 rfl lettersSize ?_)
  refine wp_loop_rounds 5 ?_
  rw [rounds_succ]
  go_wp2_with fail
  refine (itoa_eq q S _ (HT.out.mono (by repeat (first | exact Q.refl _ | apply Q.drewN | apply Q.alloc))) (by omega) (by omega) hS).mono ?_
  rintro e w1 ⟨rfl, Q1⟩
  have kN : w1.cell? ⟨w.heap.size, 0, none⟩ = some (.string ⟨#[78]⟩) := by rw [Q1.cell _ (by simp)]; simp [go_sem]
  have zN : w.heap.size < w1.heap.size := by have := Q1.size; simp at this; omega
  have QC : Q w w1 := Q.trans (by repeat (first | exact Q.refl _ | apply Q.drewN | apply Q.alloc)) Q1
  clear Q1 hb
  go_wp2_with fail
  go_ret2
  exact ⟨rfl, QC⟩

set_option maxRecDepth 100000 in
set_option maxHeartbeats 2000000 in
theorem Write_0f (N q r : Int) (S S2 Z : ByteArray) (w : World) (T : Tables w) (hN : 0 ≤ N) (hl : N ≤ 90000000) (hq : Hid (N / 1000000 = q)) (hr : Hid (N % 1000000 = r)) (hS : Hid (S.data.toList = Lib.itoa q)) (sS : S.size ≤ 20) (h0 : 1 ≤ r) (hS2 : Hid (S2.data.toList = Lib.itoa (1000000 + r))) (hz : S2.size = 7) (hZ : Hid (Z.data.toList = Lib.trimRightB (S2.extract 1 7).data.toList 48)) (sZ : Z.size ≤ 20) :
    Calls Tryd.prog 46 #[.int .i64 N, .int .i64 0] w fun e w' => e = .returned (.tuple #[.string (S ++ (⟨#[46]⟩ ++ Z) ++ ⟨#[78]⟩), .int .i64 0]) ∧ Q w w' := by
  have HT := Lib.hid T
  have bq : 0 ≤ q ∧ q ≤ 1000 := by have := hq.out; omega
  have br : 0 ≤ r ∧ r ≤ 999999 := by have := hr.out; omega
  have hmx : max N (-N) = N := by omega
  have xW := run_maxW
  have hqo := hq.out
  have hro := hr.out
  have t1 : N.tdiv 1000000 = q := by rw [Int.tdiv_eq_ediv_of_nonneg (by omega), hqo]
  have t2 : N.tmod 1000000 = r := by rw [Int.tmod_eq_emod_of_nonneg (by omega), hro]
  clear T hq hr
  go_enter Tryd.func46, Tryd.ntmps46
  obtain ⟨t, fr, hb⟩ := HT.out.block
  have i0 := letter0
  have i1 := letter1
  have i2 := letter2
  have i3 := letter3
  go_wp2_with (with_reducible refine wpList_load_row rfl 79 _ rfl 0 rfl t letterCells fr _ hb Tryd.underlying79 rfl lettersSize ?_)
  refine wp_loop_rounds 5 ?_
  rw [rounds_succ]
  go_wp2_with fail
  refine (itoa_eq q S _ (HT.out.mono (by repeat (first | exact Q.refl _ | apply Q.drewN | apply Q.alloc))) (by omega) (by omega) hS).mono ?_
  rintro e w1 ⟨rfl, Q1⟩
  have kN : w1.cell? ⟨w.heap.size, 0, none⟩ = some (.string ⟨#[78]⟩) := by rw [Q1.cell _ (by simp)]; simp [go_sem]
  have zN : w.heap.size < w1.heap.size := by have := Q1.size; simp at this; omega
  have QC : Q w w1 := Q.trans (by repeat (first | exact Q.refl _ | apply Q.drewN | apply Q.alloc)) Q1
  clear Q1 hb
  go_wp2_with fail
  refine (itoa_eq (1000000 + r) S2 _ (HT.out.mono QC) (by omega) (by omega) hS2).mono ?_
  rintro e w2 ⟨rfl, Q2⟩
  replace kN := (Q2.cell _ zN).trans kN
  replace zN := Nat.lt_of_lt_of_le zN Q2.size
  replace QC := QC.trans Q2
  clear Q2
  go_wp2_with fail
  refine (trimR_eq _ Z _ (by rw [size_len, extract_toList, List.length_drop, List.length_take]; omega) hZ).mono ?_
  rintro e w3 ⟨rfl, rfl⟩
  go_wp2_with fail
  go_ret2
  exact ⟨rfl, QC⟩

set_option maxRecDepth 100000 in
set_option maxHeartbeats 2000000 in
theorem Write_1o (N : Int) (w : World) (T : Tables w) (h : 90000000 < N) (hm : N ≤ 9223372036854775808) :
    Calls Tryd.prog 46 #[.int .i64 (-N), .int .i64 0] w fun e w' => e = .returned (.tuple #[.string ⟨#[]⟩, .int .i64 7]) ∧ Q w w' := by
  have HT := Lib.hid T
  have hN : 1 ≤ N := by omega
  clear T
  go_enter Tryd.func46, Tryd.ntmps46
  obtain ⟨t, fr, hb⟩ := HT.out.block
  have i0 := letter0
  have i1 := letter1
  have i2 := letter2
  have i3 := letter3
  go_wp2_with (with_reducible refine wpList_load_row rfl 79 _ rfl 0 rfl t letterCells fr _ hb Tryd.underlying79 rfl lettersSize ?_)
  refine wp_loop_rounds 5 ?_
  rw [rounds_succ]
  go_wp2_with fail
  rw [rounds_succ]
  go_wp2_with fail
  go_ret2
  exact ⟨rfl, by repeat (first | exact Q.refl _ | apply Q.drewN | apply Q.alloc)⟩

set_option maxRecDepth 100000 in
set_option maxHeartbeats 2000000 in
theorem Write_1 (N q r : Int) (S : ByteArray) (w : World) (T : Tables w) (hN : 1 ≤ N) (hl : N ≤ 90000000) (hq : Hid (N / 1000000 = q)) (hr : Hid (N % 1000000 = r)) (hS : Hid (S.data.toList = Lib.itoa q)) (sS : S.size ≤ 20) (h0 : r = 0) :
    Calls Tryd.prog 46 #[.int .i64 (-N), .int .i64 0] w fun e w' => e = .returned (.tuple #[.string (S ++ ⟨#[83]⟩), .int .i64 0]) ∧ Q w w' := by
  have HT := Lib.hid T
  have bq : 0 ≤ q ∧ q ≤ 1000 := by have := hq.out; omega
  have br : 0 ≤ r ∧ r ≤ 999999 := by have := hr.out; omega
  have hmx : max (-N) (N) = N := by omega
  have xW := run_maxW
  have hqo := hq.out
  have hro := hr.out
  have t1 : N.tdiv 1000000 = q := by rw [Int.tdiv_eq_ediv_of_nonneg (by omega), hqo]
  have t2 : N.tmod 1000000 = r := by rw [Int.tmod_eq_emod_of_nonneg (by omega), hro]
  clear T hq hr
  subst h0
  go_enter Tryd.func46, Tryd.ntmps46
  obtain ⟨t, fr, hb⟩ := HT.out.block
  have i0 := letter0
  have i1 := letter1
  have i2 := letter2
  have i3 := letter3
  go_wp2_with (with_reducible refine wpList_load_row rfl 79 _ rfl 0 rfl t letterCells fr _ hb Tryd.underlying79 rfl lettersSize ?_)
  refine wp_loop_rounds 5 ?_
  rw [rounds_succ]
  go_wp2_with fail
  rw [rounds_succ]
  go_wp2_with fail
  refine (itoa_eq q S _ (HT.out.mono (by repeat (first | exact Q.refl _ | apply Q.drewN | apply Q.alloc))) (by omega) (by omega) hS).mono ?_
  rintro e w1 ⟨rfl, Q1⟩
  have kN : w1.cell? ⟨w.heap.size + 1, 0, none⟩ = some (.string ⟨#[83]⟩) := by rw [Q1.cell _ (by simp)]; simp [go_sem]
  have zN : w.heap.size + 1 < w1.heap.size := by have := Q1.size; simp at this; omega
  have QC : Q w w1 := Q.trans (by repeat (first | exact Q.refl _ | apply Q.drewN | apply Q.alloc)) Q1
  clear Q1 hb
  go_wp2_with fail
  go_ret2
  exact ⟨rfl, QC⟩

set_option maxRecDepth 100000 in
set_option maxHeartbeats 2000000 in
theorem Write_1f (N q r : Int) (S S2 Z : ByteArray) (w : World) (T : Tables w) (hN : 1 ≤ N) (hl : N ≤ 90000000) (hq : Hid (N / 1000000 = q)) (hr : Hid (N % 1000000 = r)) (hS : Hid (S.data.toList = Lib.itoa q)) (sS : S.size ≤ 20) (h0 : 1 ≤ r) (hS2 : Hid (S2.data.toList = Lib.itoa (1000000 + r))) (hz : S2.size = 7) (hZ : Hid (Z.data.toList = Lib.trimRightB (S2.extract 1 7).data.toList 48)) (sZ : Z.size ≤ 20) :
    Calls Tryd.prog 46 #[.int .i64 (-N), .int .i64 0] w fun e w' => e = .returned (.tuple #[.string (S ++ (⟨#[46]⟩ ++ Z) ++ ⟨#[83]⟩), .int .i64 0]) ∧ Q w w' := by
  have HT := Lib.hid T
  have bq : 0 ≤ q ∧ q ≤ 1000 := by have := hq.out; omega
  have br : 0 ≤ r ∧ r ≤ 999999 := by have := hr.out; omega
  have hmx : max (-N) (N) = N := by omega
  have xW := run_maxW
  have hqo := hq.out
  have hro := hr.out
  have t1 : N.tdiv 1000000 = q := by rw [Int.tdiv_eq_ediv_of_nonneg (by omega), hqo]
  have t2 : N.tmod 1000000 = r := by rw [Int.tmod_eq_emod_of_nonneg (by omega), hro]
  clear T hq hr
  go_enter Tryd.func46, Tryd.ntmps46
  obtain ⟨t, fr, hb⟩ := HT.out.block
  have i0 := letter0
  have i1 := letter1
  have i2 := letter2
  have i3 := letter3
  go_wp2_with (with_reducible refine wpList_load_row rfl 79 _ rfl 0 rfl t letterCells fr _ hb Tryd.underlying79 rfl lettersSize ?_)
  refine wp_loop_rounds 5 ?_
  rw [rounds_succ]
  go_wp2_with fail
  rw [rounds_succ]
  go_wp2_with fail
  refine (itoa_eq q S _ (HT.out.mono (by repeat (first | exact Q.refl _ | apply Q.drewN | apply Q.alloc))) (by omega) (by omega) hS).mono ?_
  rintro e w1 ⟨rfl, Q1⟩
  have kN : w1.cell? ⟨w.heap.size + 1, 0, none⟩ = some (.string ⟨#[83]⟩) := by rw [Q1.cell _ (by simp)]; simp [go_sem]
  have zN : w.heap.size + 1 < w1.heap.size := by have := Q1.size; simp at this; omega
  have QC : Q w w1 := Q.trans (by repeat (first | exact Q.refl _ | apply Q.drewN | apply Q.alloc)) Q1
  clear Q1 hb
  go_wp2_with fail
  refine (itoa_eq (1000000 + r) S2 _ (HT.out.mono QC) (by omega) (by omega) hS2).mono ?_
  rintro e w2 ⟨rfl, Q2⟩
  replace kN := (Q2.cell _ zN).trans kN
  replace zN := Nat.lt_of_lt_of_le zN Q2.size
  replace QC := QC.trans Q2
  clear Q2
  go_wp2_with fail
  refine (trimR_eq _ Z _ (by rw [size_len, extract_toList, List.length_drop, List.length_take]; omega) hZ).mono ?_
  rintro e w3 ⟨rfl, rfl⟩
  go_wp2_with fail
  go_ret2
  exact ⟨rfl, QC⟩

set_option maxRecDepth 100000 in
set_option maxHeartbeats 2000000 in
theorem Write_2o (N : Int) (w : World) (T : Tables w) (h : 180000000 < N) (hm : N ≤ 9223372036854775808) (hm' : N ≤ 9223372036854775807) :
    Calls Tryd.prog 46 #[.int .i64 N, .int .i64 1] w fun e w' => e = .returned (.tuple #[.string ⟨#[]⟩, .int .i64 7]) ∧ Q w w' := by
  have HT := Lib.hid T
  have hN : 1 ≤ N := by omega
  clear T
  go_enter Tryd.func46, Tryd.ntmps46
  obtain ⟨t, fr, hb⟩ := HT.out.block
  have i0 := letter0
  have i1 := letter1
  have i2 := letter2
  have i3 := letter3
  go_wp2_with (with_reducible refine wpList_load_row rfl 79 _ rfl 0 rfl t letterCells fr _ hb Tryd.underlying79 rfl lettersSize ?_)
  refine wp_loop_rounds 5 ?_
  rw [rounds_succ]
  go_wp2_with fail
  rw [rounds_succ]
  go_wp2_with fail
  rw [rounds_succ]
  go_wp2_with fail
  go_ret2
  exact ⟨rfl, by repeat (first | exact Q.refl _ | apply Q.drewN | apply Q.alloc)⟩

set_option maxRecDepth 100000 in
set_option maxHeartbeats 2000000 in
theorem Write_2 (N q r : Int) (S : ByteArray) (w : World) (T : Tables w) (hN : 0 ≤ N) (hl : N ≤ 180000000) (hq : Hid (N / 1000000 = q)) (hr : Hid (N % 1000000 = r)) (hS : Hid (S.data.toList = Lib.itoa q)) (sS : S.size ≤ 20) (h0 : r = 0) :
    Calls Tryd.prog 46 #[.int .i64 N, .int .i64 1] w fun e w' => e = .returned (.tuple #[.string (S ++ ⟨#[69]⟩), .int .i64 0]) ∧ Q w w' := by
  have HT := Lib.hid T
  have bq : 0 ≤ q ∧ q ≤ 1000 := by have := hq.out; omega
  have br : 0 ≤ r ∧ r ≤ 999999 := by have := hr.out; omega
  have hmx : max N (-N) = N := by omega
  have xW := run_maxW
  have hqo := hq.out
  have hro := hr.out
  have t1 : N.tdiv 1000000 = q := by rw [Int.tdiv_eq_ediv_of_nonneg (by omega), hqo]
  have t2 : N.tmod 1000000 = r := by rw [Int.tmod_eq_emod_of_nonneg (by omega), hro]
  clear T hq hr
  subst h0
  go_enter Tryd.func46, Tryd.ntmps46
  obtain ⟨t, fr, hb⟩ := HT.out.block
  have i0 := letter0
  have i1 := letter1
  have i2 := letter2
  have i3 := letter3
  go_wp2_with (with_reducible refine wpList_load_row rfl 79 _ rfl 0 rfl t letterCells fr _ hb Tryd.underlying79 rfl lettersSize ?_)
  refine wp_loop_rounds 5 ?_
  rw [rounds_succ]
  go_wp2_with fail
  rw [rounds_succ]
  go_wp2_with fail
  rw [rounds_succ]
  go_wp2_with fail
  refine (itoa_eq q S _ (HT.out.mono (by repeat (first | exact Q.refl _ | apply Q.drewN | apply Q.alloc))) (by omega) (by omega) hS).mono ?_
  rintro e w1 ⟨rfl, Q1⟩
  have kN : w1.cell? ⟨w.heap.size + 1 + 1, 0, none⟩ = some (.string ⟨#[69]⟩) := by rw [Q1.cell _ (by simp)]; simp [go_sem]
  have zN : w.heap.size + 1 + 1 < w1.heap.size := by have := Q1.size; simp at this; omega
  have QC : Q w w1 := Q.trans (by repeat (first | exact Q.refl _ | apply Q.drewN | apply Q.alloc)) Q1
  clear Q1 hb
  go_wp2_with fail
  go_ret2
  exact ⟨rfl, QC⟩

set_option maxRecDepth 100000 in
set_option maxHeartbeats 2000000 in
theorem Write_2f (N q r : Int) (S S2 Z : ByteArray) (w : World) (T : Tables w) (hN : 0 ≤ N) (hl : N ≤ 180000000) (hq : Hid (N / 1000000 = q)) (hr : Hid (N % 1000000 = r)) (hS : Hid (S.data.toList = Lib.itoa q)) (sS : S.size ≤ 20) (h0 : 1 ≤ r) (hS2 : Hid (S2.data.toList = Lib.itoa (1000000 + r))) (hz : S2.size = 7) (hZ : Hid (Z.data.toList = Lib.trimRightB (S2.extract 1 7).data.toList 48)) (sZ : Z.size ≤ 20) :
    Calls Tryd.prog 46 #[.int .i64 N, .int .i64 1] w fun e w' => e = .returned (.tuple #[.string (S ++ (⟨#[46]⟩ ++ Z) ++ ⟨#[69]⟩), .int .i64 0]) ∧ Q w w' := by
  have HT := Lib.hid T
  have bq : 0 ≤ q ∧ q ≤ 1000 := by have := hq.out; omega
  have br : 0 ≤ r ∧ r ≤ 999999 := by have := hr.out; omega
  have hmx : max N (-N) = N := by omega
  have xW := run_maxW
  have hqo := hq.out
  have hro := hr.out
  have t1 : N.tdiv 1000000 = q := by rw [Int.tdiv_eq_ediv_of_nonneg (by omega), hqo]
  have t2 : N.tmod 1000000 = r := by rw [Int.tmod_eq_emod_of_nonneg (by omega), hro]
  clear T hq hr
  go_enter Tryd.func46, Tryd.ntmps46
  obtain ⟨t, fr, hb⟩ := HT.out.block
  have i0 := letter0
  have i1 := letter1
  have i2 := letter2
  have i3 := letter3
  go_wp2_with (with_reducible refine wpList_load_row rfl 79 _ rfl 0 rfl t letterCells fr _ hb Tryd.underlying79 rfl lettersSize ?_)
  refine wp_loop_rounds 5 ?_
  rw [rounds_succ]
  go_wp2_with fail
  rw [rounds_succ]
  go_wp2_with fail
  rw [rounds_succ]
  go_wp2_with fail
  refine (itoa_eq q S _ (HT.out.mono (by repeat (first | exact Q.refl _ | apply Q.drewN | apply Q.alloc))) (by omega) (by omega) hS).mono ?_
  rintro e w1 ⟨rfl, Q1⟩
  have kN : w1.cell? ⟨w.heap.size + 1 + 1, 0, none⟩ = some (.string ⟨#[69]⟩) := by rw [Q1.cell _ (by simp)]; simp [go_sem]
  have zN : w.heap.size + 1 + 1 < w1.heap.size := by have := Q1.size; simp at this; omega
  have QC : Q w w1 := Q.trans (by repeat (first | exact Q.refl _ | apply Q.drewN | apply Q.alloc)) Q1
  clear Q1 hb
  go_wp2_with fail
  refine (itoa_eq (1000000 + r) S2 _ (HT.out.mono QC) (by omega) (by omega) hS2).mono ?_
  rintro e w2 ⟨rfl, Q2⟩
  replace kN := (Q2.cell _ zN).trans kN
  replace zN := Nat.lt_of_lt_of_le zN Q2.size
  replace QC := QC.trans Q2
  clear Q2
  go_wp2_with fail
  refine (trimR_eq _ Z _ (by rw [size_len, extract_toList, List.length_drop, List.length_take]; omega) hZ).mono ?_
  rintro e w3 ⟨rfl, rfl⟩
  go_wp2_with fail
  go_ret2
  exact ⟨rfl, QC⟩

set_option maxRecDepth 100000 in
set_option maxHeartbeats 2000000 in
theorem Write_3o (N : Int) (w : World) (T : Tables w) (h : 180000000 < N) (hm : N ≤ 9223372036854775808) :
    Calls Tryd.prog 46 #[.int .i64 (-N), .int .i64 1] w fun e w' => e = .returned (.tuple #[.string ⟨#[]⟩, .int .i64 7]) ∧ Q w w' := by
  have HT := Lib.hid T
  have hN : 1 ≤ N := by omega
  clear T
  go_enter Tryd.func46, Tryd.ntmps46
  obtain ⟨t, fr, hb⟩ := HT.out.block
  have i0 := letter0
  have i1 := letter1
  have i2 := letter2
  have i3 := letter3
  go_wp2_with (with_reducible refine wpList_load_row rfl 79 _ rfl 0 rfl t letterCells fr _ hb Tryd.underlying79 rfl lettersSize ?_)
  refine wp_loop_rounds 5 ?_
  rw [rounds_succ]
  go_wp2_with fail
  rw [rounds_succ]
  go_wp2_with fail
  rw [rounds_succ]
  go_wp2_with fail
  rw [rounds_succ]
  go_wp2_with fail
  go_ret2
  exact ⟨rfl, by repeat (first | exact Q.refl _ | apply Q.drewN | apply Q.alloc)⟩

set_option maxRecDepth 100000 in
set_option maxHeartbeats 2000000 in
theorem Write_3 (N q r : Int) (S : ByteArray) (w : World) (T : Tables w) (hN : 1 ≤ N) (hl : N ≤ 180000000) (hq : Hid (N / 1000000 = q)) (hr : Hid (N % 1000000 = r)) (hS : Hid (S.data.toList = Lib.itoa q)) (sS : S.size ≤ 20) (h0 : r = 0) :
    Calls Tryd.prog 46 #[.int .i64 (-N), .int .i64 1] w fun e w' => e = .returned (.tuple #[.string (S ++ ⟨#[87]⟩), .int .i64 0]) ∧ Q w w' := by
  have HT := Lib.hid T
  have bq : 0 ≤ q ∧ q ≤ 1000 := by have := hq.out; omega
  have br : 0 ≤ r ∧ r ≤ 999999 := by have := hr.out; omega
  have hmx : max (-N) (N) = N := by omega
  have xW := run_maxW
  have hqo := hq.out
  have hro := hr.out
  have t1 : N.tdiv 1000000 = q := by rw [Int.tdiv_eq_ediv_of_nonneg (by omega), hqo]
  have t2 : N.tmod 1000000 = r := by rw [Int.tmod_eq_emod_of_nonneg (by omega), hro]
  clear T hq hr
  subst h0
  go_enter Tryd.func46, Tryd.ntmps46
  obtain ⟨t, fr, hb⟩ := HT.out.block
  have i0 := letter0
  have i1 := letter1
  have i2 := letter2
  have i3 := letter3
  go_wp2_with (with_reducible refine wpList_load_row rfl 79 _ rfl 0 rfl t letterCells fr _ hb Tryd.underlying79 rfl lettersSize ?_)
  refine wp_loop_rounds 5 ?_
  rw [rounds_succ]
  go_wp2_with fail
  rw [rounds_succ]
  go_wp2_with fail
  rw [rounds_succ]
  go_wp2_with fail
  rw [rounds_succ]
  go_wp2_with fail
  refine (itoa_eq q S _ (HT.out.mono (by repeat (first | exact Q.refl _ | apply Q.drewN | apply Q.alloc))) (by omega) (by omega) hS).mono ?_
  rintro e w1 ⟨rfl, Q1⟩
  have kN : w1.cell? ⟨w.heap.size + 1 + 1 + 1, 0, none⟩ = some (.string ⟨#[87]⟩) := by rw [Q1.cell _ (by simp)]; simp [go_sem]
  have zN : w.heap.size + 1 + 1 + 1 < w1.heap.size := by have := Q1.size; simp at this; omega
  have QC : Q w w1 := Q.trans (by repeat (first | exact Q.refl _ | apply Q.drewN | apply Q.alloc)) Q1
  clear Q1 hb
  go_wp2_with fail
  go_ret2
  exact ⟨rfl, QC⟩

set_option maxRecDepth 100000 in
set_option maxHeartbeats 2000000 in
theorem Write_3f (N q r : Int) (S S2 Z : ByteArray) (w : World) (T : Tables w) (hN : 1 ≤ N) (hl : N ≤ 180000000) (hq : Hid (N / 1000000 = q)) (hr : Hid (N % 1000000 = r)) (hS : Hid (S.data.toList = Lib.itoa q)) (sS : S.size ≤ 20) (h0 : 1 ≤ r) (hS2 : Hid (S2.data.toList = Lib.itoa (1000000 + r))) (hz : S2.size = 7) (hZ : Hid (Z.data.toList = Lib.trimRightB (S2.extract 1 7).data.toList 48)) (sZ : Z.size ≤ 20) :
    Calls Tryd.prog 46 #[.int .i64 (-N), .int .i64 1] w fun e w' => e = .returned (.tuple #[.string (S ++ (⟨#[46]⟩ ++ Z) ++ ⟨#[87]⟩), .int .i64 0]) ∧ Q w w' := by
  have HT := Lib.hid T
  have bq : 0 ≤ q ∧ q ≤ 1000 := by have := hq.out; omega
  have br : 0 ≤ r ∧ r ≤ 999999 := by have := hr.out; omega
  have hmx : max (-N) (N) = N := by omega
  have xW := run_maxW
  have hqo := hq.out
  have hro := hr.out
  have t1 : N.tdiv 1000000 = q := by rw [Int.tdiv_eq_ediv_of_nonneg (by omega), hqo]
  have t2 : N.tmod 1000000 = r := by rw [Int.tmod_eq_emod_of_nonneg (by omega), hro]
  clear T hq hr
  go_enter Tryd.func46, Tryd.ntmps46
  obtain ⟨t, fr, hb⟩ := HT.out.block
  have i0 := letter0
  have i1 := letter1
  have i2 := letter2
  have i3 := letter3
  go_wp2_with (with_reducible refine wpList_load_row rfl 79 _ rfl 0 rfl t letterCells fr _ hb Tryd.underlying79 rfl lettersSize ?_)
  refine wp_loop_rounds 5 ?_
  rw [rounds_succ]
  go_wp2_with fail
  rw [rounds_succ]
  go_wp2_with fail
  rw [rounds_succ]
  go_wp2_with fail
  rw [rounds_succ]
  go_wp2_with fail
  refine (itoa_eq q S _ (HT.out.mono (by repeat (first | exact Q.refl _ | apply Q.drewN | apply Q.alloc))) (by omega) (by omega) hS).mono ?_
  rintro e w1 ⟨rfl, Q1⟩
  have kN : w1.cell? ⟨w.heap.size + 1 + 1 + 1, 0, none⟩ = some (.string ⟨#[87]⟩) := by rw [Q1.cell _ (by simp)]; simp [go_sem]
  have zN : w.heap.size + 1 + 1 + 1 < w1.heap.size := by have := Q1.size; simp at this; omega
  have QC : Q w w1 := Q.trans (by repeat (first | exact Q.refl _ | apply Q.drewN | apply Q.alloc)) Q1
  clear Q1 hb
  go_wp2_with fail
  refine (itoa_eq (1000000 + r) S2 _ (HT.out.mono QC) (by omega) (by omega) hS2).mono ?_
  rintro e w2 ⟨rfl, Q2⟩
  replace kN := (Q2.cell _ zN).trans kN
  replace zN := Nat.lt_of_lt_of_le zN Q2.size
  replace QC := QC.trans Q2
  clear Q2
  go_wp2_with fail
  refine (trimR_eq _ Z _ (by rw [size_len, extract_toList, List.length_drop, List.length_take]; omega) hZ).mono ?_
  rintro e w3 ⟨rfl, rfl⟩
  go_wp2_with fail
  go_ret2
  exact ⟨rfl, QC⟩

end Go.Proofs.YtjbhnjnlpekpoaaDoor
