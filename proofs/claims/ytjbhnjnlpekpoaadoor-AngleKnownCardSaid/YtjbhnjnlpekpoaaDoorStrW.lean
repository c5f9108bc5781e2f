/-
  Small functions on the strings of angles: how many figures stand ahead, the number that they spell.
-/
import Derived.Test.YtjbhnjnlpekpoaaDoorAngI
import Derived.Test.YtjbhnjnlpekpoaaDoorStrP
import Derived.Shelf.Strings.SlTrimAscii
import Derived.IntWalk
namespace Go.Proofs.YtjbhnjnlpekpoaaDoor
open Go.RowKit Go.Sort
set_option linter.unusedVariables false

theorem bytes_toList (l : List UInt8) : (⟨l.toArray⟩ : ByteArray).data.toList = l := by simp
theorem size_len (s : ByteArray) : s.size = s.data.toList.length := by rw [Array.length_toList]; rfl

theorem trim_any (s : ByteArray) (w : World) :
    Calls Tryd.prog 90 #[.string s, .string ⟨#[48, 49, 50, 51, 52, 53, 54, 55, 56, 57]⟩] w fun e w' => e = .returned (.string ⟨(s.data.toList.dropWhile isD).toArray⟩) ∧ Q w w' := by
  by_cases h0 : s.size = 0
  · refine (Any.strings_TrimLeft_empty Tryd.lays161 s _ w (.inl h0)).mono ?_
    rintro e w' ⟨rfl, rfl⟩
    refine ⟨?_, Q.refl _⟩
    have : s.data.toList = [] := List.eq_nil_of_length_eq_zero (by rw [← size_len]; exact h0)
    rw [this]
    congr 2
    have h2 : s.data = #[] := by
      apply Array.ext'
      rw [this]
    cases s
    simp at h2
    rw [h2]
    rfl
  · have hz := zero_of_info (P := Tryd.prog) (t := Tryd.lays161_ren.t 116) (v := .agg (Array.replicate 256 (.bool false))) (n := 256) (by kernel_rfl)
    refine (Any.strings_TrimLeft_set Tryd.lays161 hz.1 hz.2 s ⟨#[48, 49, 50, 51, 52, 53, 54, 55, 56, 57]⟩ w (by decide) (by omega) (by decide) (ascii_of_all (by decide))).mono ?_
    rintro e w' ⟨rfl, rfl⟩
    refine ⟨?_, ((Q.refl _).alloc _).alloc _⟩
    rw [← trim_digs]
    rfl

theorem bytes_ext {a b : ByteArray} (h : a.data.toList = b.data.toList) : a = b := by
  cases a with | mk x =>
  cases b with | mk y =>
  congr 1
  exact Array.ext' h

theorem trim_eq (s r : ByteArray) (w : World) (hr : Hid (r.data.toList = s.data.toList.dropWhile isD)) :
    Calls Tryd.prog 90 #[.string s, .string ⟨#[48, 49, 50, 51, 52, 53, 54, 55, 56, 57]⟩] w fun e w' => e = .returned (.string r) ∧ Q w w' := by
  have : (⟨(s.data.toList.dropWhile isD).toArray⟩ : ByteArray) = r := bytes_ext (by rw [hr.out])
  rw [← this]
  exact trim_any s w

theorem take_drop (l : List UInt8) : l.takeWhile isD = l.take (l.length - (l.dropWhile isD).length) := by
  have h := List.takeWhile_append_dropWhile (p := isD) (l := l)
  have e : l.length = (l.takeWhile isD).length + (l.dropWhile isD).length := by
    conv => lhs; rw [← h]
    rw [List.length_append]
  have : l.length - (l.dropWhile isD).length = (l.takeWhile isD).length := by omega
  rw [this]
  have k : ((l.takeWhile isD) ++ (l.dropWhile isD)).take (l.takeWhile isD).length = l.takeWhile isD := List.take_left' rfl
  rw [h] at k
  exact k.symm
theorem drop_le (l : List UInt8) : (l.dropWhile isD).length ≤ l.length := by
  have h := List.takeWhile_append_dropWhile (p := isD) (l := l)
  have e : l.length = (l.takeWhile isD).length + (l.dropWhile isD).length := by
    conv => lhs; rw [← h]
    rw [List.length_append]
  omega
theorem extract_toList (s : ByteArray) (i j : Nat) : (s.extract i j).data.toList = (s.data.toList.take j).drop i := by
  rw [ByteArray.data_extract, Array.toList_extract, List.extract_eq_take_drop, List.drop_take]

/-- figures of package angle: the digits ahead, and what is behind -/
theorem figures_eq (s a r : ByteArray) (w : World) (hs : s.size ≤ 1000) (ha : Hid (a.data.toList = s.data.toList.takeWhile isD)) (hr : Hid (r.data.toList = s.data.toList.dropWhile isD)) :
    Calls Tryd.prog 71 #[.string s] w fun e w' => e = .returned (.tuple #[.string a, .string r]) ∧ Q w w' := by
  have k : r.size ≤ s.size := by rw [size_len, size_len, hr.out]; exact drop_le _
  have e1 : wrap64 ((s.size : Int) - (r.size : Int)) = ((s.size - r.size : Nat) : Int) := by rw [IntWalk.wrap64_in _ (by omega)]; omega
  have e2 : s.extract 0 (s.size - r.size) = a := bytes_ext (by rw [extract_toList, ha.out, take_drop, List.drop_zero, size_len, size_len, hr.out])
  have HE := Lib.hid e2
  clear e1 e2
  go_enter Tryd.func71, Tryd.ntmps71
  go_wp2_with fail
  refine (trim_eq s r _ hr).mono ?_
  rintro e w1 ⟨rfl, Q1⟩
  go_wp2_with fail
  go_ret2
  exact ⟨by rw [← HE.out]; rfl, Q1⟩

end Go.Proofs.YtjbhnjnlpekpoaaDoor
