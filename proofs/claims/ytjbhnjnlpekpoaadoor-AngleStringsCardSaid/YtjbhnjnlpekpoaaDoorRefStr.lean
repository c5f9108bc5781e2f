/-
  The document's small functions on strings of angles: figures, number, most.
-/
import Derived.Test.YtjbhnjnlpekpoaaDoorStrW
import Derived.Deep.DeepCutAuto
namespace Go.Proofs.YtjbhnjnlpekpoaaDoor
open Go.RowKit Go.Sort
set_option linter.unusedVariables false

theorem isD_at (s : ByteArray) (k : Nat) (h : k < s.size) : isD s[k] = (decide (48 ≤ (s[k].toNat : Int)) && decide ((s[k].toNat : Int) ≤ 57)) := by
  unfold isD
  congr 1 <;> exact decide_eq_decide.2 (by omega)

theorem tw_at (l : List UInt8) (k : Nat) (h : k < l.length) (ha : ∀ j (hj : j < k), isD (l[j]'(by omega)) = true) (hk : isD l[k] = false) : (l.takeWhile isD).length = k := by
  induction l generalizing k with
  | nil => simp at h
  | cons b r ih =>
    cases k with
    | zero =>
      have : isD b = false := by simpa using hk
      rw [List.takeWhile_cons, this]
      simp
    | succ k =>
      have hb : isD b = true := by simpa using ha 0 (by omega)
      rw [List.takeWhile_cons, hb]
      simp only [if_true, List.length_cons]
      rw [ih k (by simpa using h) (fun j hj => by simpa using ha (j + 1) (by omega)) (by simpa using hk)]
theorem tw_all (l : List UInt8) (ha : ∀ j (hj : j < l.length), isD l[j] = true) : (l.takeWhile isD).length = l.length := by
  have : l.takeWhile isD = l := by
    induction l with
    | nil => rfl
    | cons b r ih =>
      have hb : isD b = true := ha 0 (by simp)
      rw [List.takeWhile_cons, hb]
      simp only [if_true]
      rw [ih (fun j hj => ha (j + 1) (by simpa using hj))]
  rw [this]

theorem at_list (s : ByteArray) (k : Nat) (h : k < s.size) : s.data.toList[k]'(by rw [← size_len]; exact h) = s[k] := by
  simp [ByteArray.getElem_eq_getElem_data]

def FInv (s : ByteArray) (v : Value) (wr w : World) : Prop := ∃ k : Nat, k ≤ s.size ∧ v = .int .i64 k ∧ Hid (∀ j (hj : j < k) (hs : j < s.size), isD s[j] = true) ∧ ∃ n, wr = w.drewN n

set_option maxRecDepth 100000 in
set_option maxHeartbeats 1000000 in
theorem reffigures_any (s : ByteArray) (n : Int) (w : World) (hs : s.size ≤ 1000) (hn : Hid (n = ((s.data.toList.takeWhile isD).length : Int))) :
    Calls Tryd.prog 74 #[.string s] w fun e w' => e = .returned (.int .i64 n) ∧ w' = w := by
  go_enter Tryd.func74, Tryd.ntmps74
  go_wp2_with fail
  go_loop [3] (fun v => ∃ k : Nat, k ≤ s.size ∧ v = .int .i64 k ∧ Hid (∀ j (hj : j < k) (hs : j < s.size), isD s[j] = true)) (fun v => s.size - (intOf v).toNat)
  case atStart => exact ⟨0, Nat.zero_le _, rfl, fun j hj => by omega⟩
  case round =>
    obtain ⟨k, hk, rfl, H⟩ := hrel
    by_cases hlt : k < s.size
    · have hd := isD_at s k hlt
      have HA := Lib.hid (fun j (hj : j < k + 1) (h : j < s.size) (hk : isD s[k] = true) => show isD s[j] = true by
        by_cases e : j < k
        · exact H.out j e h
        · obtain rfl : j = k := by omega
          exact hk)
      cases hc : isD s[k] with
      | true =>
        rw [hc] at hd
        simp only [Bool.true_eq, Bool.and_eq_true, decide_eq_true_eq] at hd
        obtain ⟨d1, d2⟩ := hd
        have HC := Lib.hid hc
        clear hc H
        go_wp2_with fail
        go_round
        case rel => exact ⟨k + 1, by omega, by go_num, fun j hj h => HA.out j hj h HC.out⟩
        case measure => simp [intOf]; omega
      | false =>
        have e : ((s.data.toList.takeWhile isD).length : Int) = (k : Int) := by
          rw [tw_at s.data.toList k (by rw [← size_len]; exact hlt) (fun j hj => by rw [at_list s j (by omega)]; exact H.out j hj (by omega)) (by rw [at_list s k hlt]; exact hc)]
        have E : Hid ((k : Int) = n) := by show _ = _; rw [hn.out, e]
        rw [hc] at hd
        have hd' : (s[k].toNat : Int) < 48 ∨ (48 ≤ (s[k].toNat : Int) ∧ 57 < (s[k].toNat : Int)) := by
          have := hd.symm
          rw [Bool.and_eq_false_iff, decide_eq_false_iff_not, decide_eq_false_iff_not] at this
          omega
        clear hc H HA hd e hn
        rcases hd' with h1 | ⟨h1, h2⟩
        · go_wp2_with fail
          go_ret
          exact ⟨by rw [← E.out]; rfl, rfl⟩
        · go_wp2_with fail
          go_ret
          exact ⟨by rw [← E.out]; rfl, rfl⟩
    · obtain rfl : k = s.size := by omega
      have e : ((s.data.toList.takeWhile isD).length : Int) = (s.size : Int) := by
        rw [tw_all s.data.toList (fun j hj => by rw [at_list s j (by rw [size_len]; exact hj)]; exact H.out j (by rw [size_len]; exact hj) _), ← size_len]
      have E : Hid ((s.size : Int) = n) := by show _ = _; rw [hn.out, e]
      clear e H hn
      go_wp2_with fail
      go_ret
      exact ⟨by rw [← E.out]; rfl, rfl⟩

theorem val_at (s : ByteArray) (k : Nat) (h : k < s.size) : val 0 (s.data.toList.take (k + 1)) = val 0 (s.data.toList.take k) * 10 + (s[k].toNat - 48) := by
  rw [List.take_succ_eq_append_getElem (by rw [← size_len]; exact h), at_list s k h, val_append, val_cons, val_nil]
theorem isD_take (l : List UInt8) (k : Nat) (h : ∀ b ∈ l, isD b = true) : ∀ b ∈ l.take k, isD b = true := fun b hb => h b (List.mem_of_mem_take hb)
theorem val_small (l : List UInt8) (h : ∀ b ∈ l, isD b = true) (hl : l.length ≤ 6) : val 0 l < 1000000 := by
  have a := val_lt l 0 h
  have c : (10 : Nat) ^ l.length ≤ 10 ^ 6 := Nat.pow_le_pow_right (by omega) hl
  omega

set_option maxRecDepth 100000 in
set_option maxHeartbeats 1000000 in
theorem refnumber_any (s : ByteArray) (N : Int) (w : World) (hs : s.size ≤ 6) (hd : Hid (∀ b ∈ s.data.toList, isD b = true)) (hN : Hid (N = (val 0 s.data.toList : Nat))) :
    Calls Tryd.prog 75 #[.string s] w fun e w' => e = .returned (.int .i64 N) ∧ w' = w := by
  go_enter Tryd.func75, Tryd.ntmps75
  go_wp2_with fail
  go_loop [3, 4] (fun u v => ∃ (k m : Nat), k ≤ s.size ∧ v = .int .i64 k ∧ u = .int .i64 m ∧ m < 1000000 ∧ Hid (m = val 0 (s.data.toList.take k))) (fun _ v => s.size - (intOf v).toNat)
  case atStart => exact ⟨0, 0, Nat.zero_le _, rfl, rfl, by omega, rfl⟩
  case round =>
    obtain ⟨k, m, hk, rfl, rfl, hm, H⟩ := hrel
    by_cases hlt : k < s.size
    · have b := isD_iff.1 (hd.out s[k] (by rw [← at_list s k hlt]; exact List.getElem_mem _))
      have e := val_at s k hlt
      have sm := val_small (s.data.toList.take (k + 1)) (isD_take _ _ hd.out) (by rw [List.length_take, ← size_len]; omega)
      rw [← H.out] at e
      have E : Hid (m * 10 + (s[k].toNat - 48) = val 0 (s.data.toList.take (k + 1))) := e.symm
      rw [e] at sm
      have v1 : IntKind.u8.wrap ((s[k].toNat : Int) - 48) = ((s[k].toNat - 48 : Nat) : Int) := by rw [IntKind.wrap_u8]; omega
      have v2 : wrap64 (10 * (m : Int)) = 10 * (m : Int) := IntWalk.wrap64_in _ (by omega)
      have v3 : wrap64 (10 * (m : Int) + ((s[k].toNat - 48 : Nat) : Int)) = ((m * 10 + (s[k].toNat - 48) : Nat) : Int) := by rw [IntWalk.wrap64_in _ (by omega)]; omega
      clear e
      go_wp2_with fail
      go_round
      case rel =>
        refine ⟨k + 1, m * 10 + (s[k].toNat - 48), by omega, by go_num, ?_, sm, E⟩
        first | rfl | (congr 1; omega) | (congr 1; rw [IntWalk.wrap64_in _ (by omega)]; omega)
      case measure => simp [intOf]; omega
    · obtain rfl : k = s.size := by omega
      have e : (m : Int) = N := by rw [hN.out, H.out, List.take_of_length_le (by rw [← size_len]; omega)]
      have E := Lib.hid e
      clear e H hN
      go_wp2_with fail
      go_ret
      exact ⟨by rw [← E.out]; rfl, rfl⟩

theorem most_any (x : Int) (m : Int) (w : World) (h : (x = 0 ∧ m = 90000000) ∨ (x ≠ 0 ∧ m = 180000000)) :
    Calls Tryd.prog 76 #[.int .i64 x] w fun e w' => e = .returned (.int .i64 m) ∧ w' = w := by
  rcases h with ⟨rfl, rfl⟩ | ⟨h, rfl⟩
  · go_enter Tryd.func76, Tryd.ntmps76
    go_wp2_with fail
    go_ret
    exact ⟨rfl, rfl⟩
  · have hb : (x == 0) = false := beq_eq_false_iff_ne.2 h
    go_enter Tryd.func76, Tryd.ntmps76
    go_wp2_with fail
    go_ret
    exact ⟨rfl, rfl⟩

end Go.Proofs.YtjbhnjnlpekpoaaDoor
