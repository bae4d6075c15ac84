/- The law PivotPlanned: whether a height is one of some. -/
import Derived.Test.YtcagfdmafelbkabPiv6
set_option linter.unusedVariables false
set_option linter.unusedSimpArgs false
namespace Go.Proofs.Ytcagfdmafelbkab
open Go.RowKit

set_option maxHeartbeats 800000 in
theorem among_any {c : Col} {w : World} {k k2 : Nat} {v : Value} {l : List Int} (h : Sl (TInt .i64) c k k2 w v l) {x : Int} (hx : x ∈ l) :
    Calls Try.prog 15 #[v, .int .i64 x] w fun r w' => r = .returned (.bool true) ∧ w = w' := by
  have hm := h.length_le
  unfold maxLen at hm
  obtain ⟨n, hn⟩ := List.mem_iff_getElem?.1 hx
  have hnl : n < l.length := (List.getElem?_eq_some_iff.1 hn).1
  obtain ⟨b, off, cap, rfl, _⟩ := h.ex (by omega)
  go_enter Try.func15, Try.ntmps15
  go_wp2
  go_loopw [5] (fun i wr => ∃ (j : Nat), j ≤ n ∧ i = .int .i64 j ∧ wr = w) (fun i _ => n - (intOf i).toNat)
  case atStart => exact ⟨0, Nat.zero_le _, rfl, rfl⟩
  case round =>
    obtain ⟨j, hj, rfl, rfl⟩ := hrel
    have hj0 : (0 : Int) ≤ (j : Int) := by omega
    have hj1 : (j : Int) < (l.length : Int) := by omega
    obtain ⟨z, hz⟩ : ∃ z, l[j]? = some z := ⟨l[j]'(by omega), by rw [List.getElem?_eq_getElem]⟩
    have y0 := num_at h hz
    by_cases he : z = x
    · subst he
      clear hz
      go_wp2_with fail
      go_ret
      exact ⟨rfl, rfl⟩
    · have hjn : j < n := by
        rcases Nat.lt_or_ge j n with h1 | h1
        · exact h1
        · have : j = n := by omega
          subst this
          rw [hn] at hz
          cases hz
          exact absurd rfl he
      clear hz hn
      go_wp2_with fail
      go_roundw
      case rel => exact ⟨j + 1, by omega, by first | omega | rfl | go_num | simp⟩
      case measure => simp [intOf]; omega
end Go.Proofs.Ytcagfdmafelbkab
