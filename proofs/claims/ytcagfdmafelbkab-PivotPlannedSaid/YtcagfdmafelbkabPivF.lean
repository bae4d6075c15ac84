/- The laws' own kit: Pick. -/
import Derived.Test.YtcagfdmafelbkabLib3
import Derived.Test.YtcagfdmafelbkabPiv1
set_option linter.unusedVariables false
set_option linter.unusedSimpArgs false
namespace Go.Proofs.Ytcagfdmafelbkab
open Go.RowKit

theorem pick_any (x n : Int) (w : World) (hn : 1 ≤ n) (hn2 : n ≤ 1073741824) :
    Calls Try.prog 6 #[.int .i64 x, .int .i64 n] w fun r w' => (∃ p, r = .returned (.int .i64 p) ∧ 0 ≤ p ∧ p < n) ∧ w = w' := by
  have h1 := Int.tmod_lt_of_pos x (show 0 < n by omega)
  have h2 : -n < Int.tmod x n := by
    have := Int.tmod_lt_of_pos (-x) (show 0 < n by omega)
    rw [Int.neg_tmod] at this
    omega
  have hn0 : ¬ n ≤ 0 := by omega
  have hnz : n ≠ 0 := by omega
  have hnm : ¬ n = -1 := by omega
  have hw : IntKind.i64.wrap (Int.tmod x n) = Int.tmod x n := IntWalk.i64_in _ (by omega)
  have hw2 : Int.tmod x n < 0 → IntKind.i64.wrap (Int.tmod x n + n) = Int.tmod x n + n := fun _ => IntWalk.i64_in _ (by omega)
  obtain ⟨m, hm⟩ : ∃ m, Int.tmod x n = m := ⟨_, rfl⟩
  rw [hm] at h1 h2 hw hw2
  by_cases h0 : m < 0
  · have hw3 := hw2 h0
    have H := Lib.hid (And.intro h1 h2)
    clear h1 h2 hw2 hn hn2
    go_enter Try.func6, Try.ntmps6
    go_wp2_with fail
    go_ret
    have := H.out
    exact ⟨⟨_, rfl, by omega, by omega⟩, rfl⟩
  · have H := Lib.hid (And.intro h1 h2)
    clear h1 h2 hw2 hn hn2
    go_enter Try.func6, Try.ntmps6
    go_wp2_with fail
    go_ret
    have := H.out
    exact ⟨⟨_, rfl, by omega, by omega⟩, rfl⟩
end Go.Proofs.Ytcagfdmafelbkab
