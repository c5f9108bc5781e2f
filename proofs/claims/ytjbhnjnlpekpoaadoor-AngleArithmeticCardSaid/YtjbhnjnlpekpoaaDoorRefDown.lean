/-
  The document's division, rounded down.
-/
import Derived.Test.YtjbhnjnlpekpoaaDoorAngA
import Derived.Test.YtjbhnjnlpekpoaaDoorTdiv
import Derived.IntWalk
namespace Go.Proofs.YtjbhnjnlpekpoaaDoor
open Go.RowKit
set_option linter.unusedVariables false

set_option maxRecDepth 100000 in
set_option maxHeartbeats 1000000 in
theorem refdown_any (n d : Int) (w : World) (hd : 0 < d) (hn : -9000000000000000000 ≤ n ∧ n ≤ 9000000000000000000) (hd2 : d ≤ 9000000000000000000) :
    Calls Tryd.prog 88 #[.int .i64 n, .int .i64 d] w fun e w' => e = .returned (.int .i64 (n / d)) ∧ w' = w := by
  obtain ⟨c1, c2, c3, c4⟩ := tdiv_bd n d hd hn
  have q0 : (d == 0) = false := by simp; omega
  by_cases h0 : 0 ≤ n
  · have t1 : n.tdiv d = n / d := Int.tdiv_eq_ediv_of_nonneg h0
    rw [t1] at c1 c2
    have e1 : wrap64 (n.tdiv d) = n / d := by rw [t1]; exact IntWalk.wrap64_in _ (by omega)
    have e2 : IntKind.i64.wrap (n.tdiv d) = n / d := by rw [t1]; exact IntWalk.i64_in _ (by omega)
    have e3 : wrap64 (n / d) = n / d := IntWalk.wrap64_in _ (by omega)
    clear t1 c3 c4
    generalize n / d = q at *
    go_enter Tryd.func88, Tryd.ntmps88
    go_wp2_with fail
    go_ret
    exact ⟨rfl, rfl⟩
  · have P := tdiv_parts n d hd (by omega)
    have e1 : wrap64 (n.tdiv d) = n.tdiv d := IntWalk.wrap64_in _ (by omega)
    have e2 : IntKind.i64.wrap (n.tdiv d) = n.tdiv d := IntWalk.i64_in _ (by omega)
    have e3 : wrap64 (n.tmod d) = n.tmod d := IntWalk.wrap64_in _ (by omega)
    have e4 : IntKind.i64.wrap (n.tmod d) = n.tmod d := IntWalk.i64_in _ (by omega)
    rcases P with ⟨p1, p2⟩ | ⟨p1, p2⟩
    · have u1 : (n.tmod d == 0) = true := by simp [p1]
      have u2 : (n.tmod d != 0) = false := by simp [p1]
      have HP := Lib.hid p2
      clear p1 p2
      go_enter Tryd.func88, Tryd.ntmps88
      go_wp2_with fail
      go_ret
      exact ⟨by rw [← HP.out]; rfl, rfl⟩
    · have u1 : (n.tmod d == 0) = false := by simp [p1]
      have u2 : (n.tmod d != 0) = true := by simp [p1]
      have HP := Lib.hid p2
      clear p1 p2
      go_enter Tryd.func88, Tryd.ntmps88
      go_wp2_with fail
      go_ret
      exact ⟨by rw [← HP.out]; rfl, rfl⟩

end Go.Proofs.YtjbhnjnlpekpoaaDoor
