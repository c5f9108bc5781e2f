/-
  The document's decimal.
-/
import Derived.Test.YtjbhnjnlpekpoaaDoorRefStr
import Derived.Test.YtjbhnjnlpekpoaaDoorStrQ
import Derived.Deep.DeepCutAuto
import Derived.Laws.IdiomStrings
namespace Go.Proofs.YtjbhnjnlpekpoaaDoor
open Go.RowKit Go.Sort
set_option linter.unusedVariables false

def ld (n k : Nat) : List UInt8 := (List.range k).map fun t => Lib.dg n (k - 1 - t)
theorem ld_len (n k : Nat) : (ld n k).length = k := by unfold ld; simp
theorem ld_succ (n k : Nat) : ld n (k + 1) = Lib.dg n k :: ld n k := by
  unfold ld
  rw [List.range_succ_eq_map, List.map_cons, List.map_map]
  congr 1
  refine List.map_congr_left fun t ht => ?_
  show Lib.dg n (k + 1 - 1 - (t + 1)) = Lib.dg n (k - 1 - t)
  congr 1
  omega
theorem dec_ld (n : Nat) : Lib.decDigits n = ld n (Lib.nDigits n) := Lib.decDigits_eq n
theorem dg_byte (n j : Nat) : Lib.dg n j = UInt8.ofNat (48 + n / 10 ^ j % 10) := rfl

/-- the last six digits of a number that begins with a one ahead of six places -/
theorem dg_more (r j : Nat) (h : j < 6) : Lib.dg (1000000 + r) j = Lib.dg r j := by
  unfold Lib.dg
  congr 2
  match j, h with
  | 0, _ => omega
  | 1, _ => omega
  | 2, _ => omega
  | 3, _ => omega
  | 4, _ => omega
  | 5, _ => omega
theorem dec_six {r : Nat} (h : r < 1000000) : (Lib.decDigits (1000000 + r)).drop 1 = ld r 6 := by
  rw [dec_ld, show Lib.nDigits (1000000 + r) = 7 from Lib.nDigits_unique 6 _ (by omega) (by omega), ld_succ]
  rw [List.drop_succ_cons, List.drop_zero]
  unfold ld
  refine List.map_congr_left fun t ht => ?_
  exact dg_more r _ (by omega)

theorem conv_one (W : World) (z : Int) (b : UInt8) (hz : z = (b.toNat : Int)) :
    (convert 100 9 (.slice (some ⟨W.heap.size, 0, none⟩) 1 1)).run Tryd.prog (W.alloc (.cells #[.int .u8 z] 5)) = .ok (.string ⟨#[b]⟩) (W.alloc (.cells #[.int .u8 z] 5)) := by
  subst hz
  refine run_convert_bytes_back (W.alloc (.cells #[.int .u8 (b.toNat : Int)] 5)) _ _ _ ⟨W.heap.size, 0, none⟩ 1 [b] Tryd.underlying100 Tryd.underlying5 Tryd.underlying9 (fun j hj => ?_)
  obtain rfl : j = 0 := by simp at hj; omega
  simp [go_sem, Addr.add]

def strLen (v : Value) : Nat := match v with | .string s => s.size | _ => 0

def DInv (w : World) (n K : Nat) (a b : Value) (wr : World) : Prop := ∃ (k m : Nat) (t : ByteArray), a = .int .i64 m ∧ b = .string t ∧ k ≤ K ∧ t.size = k ∧ Hid (t.data.toList = ld n k) ∧ Hid (m = n / 10 ^ k) ∧ m ≤ n ∧ Q w wr

set_option maxRecDepth 100000 in
set_option maxHeartbeats 2000000 in
theorem decimal_any (n d K : Nat) (out : ByteArray) (w : World) (hn : n ≤ 1000000000) (hK : K ≤ 20) (h0 : Hid (n / 10 ^ K = 0)) (hd : d ≤ K) (hmin : Hid (∀ j, j < K → 0 < n / 10 ^ j ∨ j < d)) (hO : Hid (out.data.toList = ld n K)) :
    Calls Tryd.prog 79 #[.int .i64 (n : Int), .int .i64 (d : Int)] w fun e w' => e = .returned (.string out) ∧ Q w w' := by
  go_enter Tryd.func79, Tryd.ntmps79
  go_wp2_with fail
  go_loopw [0, 5] (fun a b wr => DInv w n K a b wr) (fun _ b _ => K - strLen b)
  case atStart => exact ⟨0, n, ⟨#[]⟩, rfl, rfl, Nat.zero_le _, rfl, rfl, by unfold Hid; simp, Nat.le_refl _, Q.refl _⟩
  case round =>
    obtain ⟨k, m, t, rfl, rfl, hk, ht, H1, H2, hm, Q1⟩ := hrel
    by_cases hlt : k < K
    · have hc := hmin.out k hlt
      rw [← H2.out] at hc
      have HD := Lib.hid (show UInt8.ofNat (48 + m % 10) = Lib.dg n k by rw [dg_byte, ← H2.out])
      have H3 := Lib.hid (show m / 10 = n / 10 ^ (k + 1) by rw [H2.out, Nat.div_div_eq_div_mul, Nat.pow_succ])
      have hb : (UInt8.ofNat (48 + m % 10)).toNat = 48 + m % 10 := byte_nat (Nat.mod_lt _ (by omega))
      generalize UInt8.ofNat (48 + m % 10) = b at *
      have hl : (⟨#[b]⟩ ++ t : ByteArray).size = k + 1 := by
        rw [size_len, ByteArray.data_append, Array.toList_append, List.length_append]
        have := size_len t
        simp only [List.length_singleton]
        omega
      have H4 := Lib.hid (show (⟨#[b]⟩ ++ t : ByteArray).data.toList = ld n (k + 1) by
        rw [ByteArray.data_append, Array.toList_append, H1.out, ld_succ, ← HD.out]; rfl)
      have HL := Lib.hid hl
      have d10 : m / 10 ≤ n := by omega
      clear hl
      by_cases c0 : 0 < m
      · have cv := conv_one wr (48 + (m : Int) % 10) b (by rw [hb]; omega)
        clear hb hc
        go_wp2_with fail
        go_roundw
        case rel => exact ⟨k + 1, m / 10, ⟨#[b]⟩ ++ t, by go_num, rfl, by omega, HL.out, H4, H3, d10, Q1.alloc _⟩
        case measure =>
          have := HL.out
          simp only [strLen]
          omega
      · obtain rfl : m = 0 := by omega
        have cv := conv_one wr 48 b (by rw [hb]; rfl)
        have hc' : k < d := by omega
        clear hb hc
        go_wp2_with fail
        go_roundw
        case rel => exact ⟨k + 1, 0, ⟨#[b]⟩ ++ t, by go_num, rfl, by omega, HL.out, H4, H3, by omega, Q1.alloc _⟩
        case measure =>
          have := HL.out
          simp only [strLen]
          omega
    · obtain rfl : k = K := by omega
      have m0 : m = 0 := by rw [H2.out, h0.out]
      have e : t = out := bytes_ext (by rw [H1.out, hO.out])
      have E := Lib.hid e
      subst m0
      clear e
      go_wp2_with fail
      go_ret
      exact ⟨by rw [← E.out]; rfl, Q1⟩

end Go.Proofs.YtjbhnjnlpekpoaaDoor
