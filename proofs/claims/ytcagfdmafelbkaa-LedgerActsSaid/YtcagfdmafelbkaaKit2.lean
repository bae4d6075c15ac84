/- The laws' own kit: SameEntries, OverEntries. -/
import Derived.Test.YtcagfdmafelbkaaKit1
import Derived.Test.YtcagfdmafelbkaaLed4
import Derived.BigQuiet
import Derived.Deep.QuietTactic
namespace Go.Proofs.Ytcagfdmafelbkaa
open Go.RowKit

theorem Sl.some {α : Type} {T : Ty α} {c : Col} {k k2 : Nat} {w : World} {v : Value} {l : List α} (h : Sl T c k k2 w v l) (hl : 0 < l.length) : ∃ b off cap, v = .slice (some ⟨b, off, none⟩) l.length cap ∧ l.length ≤ cap ∧ cap ≤ maxLen ∧ c b = k ∧ b < w.heap.size := by
  rcases h with ⟨rfl, _⟩ | ⟨b, off, cap, hv, h1, h2, h3, h4, _⟩
  · simp at hl
  · exact ⟨b, off, cap, hv, h1, h2, h3, h4⟩

set_option maxRecDepth 100000 in
set_option maxHeartbeats 1600000 in
theorem sameEntries_eq {c : Col} {w : World} {k k2 k' k2' : Nat} {v v' : Value} {l : List Entry} (h : Sl TEntry c k k2 w v l) (h' : Sl TEntry c k' k2' w v' l) :
    Calls Try.prog 20 #[v, v'] w fun r w' => r = .returned (.bool true) ∧ ∃ n, w' = w.drewN n := by
  have hm := h.length_le
  unfold maxLen at hm
  by_cases hl : 0 < l.length
  · obtain ⟨b, off, cap, rfl, _⟩ := h.some hl
    obtain ⟨b', off', cap', rfl, _⟩ := h'.some hl
    go_enter Try.func20, Try.ntmps20
    go_wp2
    go_loopw [5, 6] (fun s i wr => ∃ (j m : Nat), j ≤ l.length ∧ i = .int .i64 j ∧ s = .bool true ∧ wr = w.drewN m) (fun _ i _ => l.length - (intOf i).toNat)
    case atStart => exact ⟨0, 0, Nat.zero_le _, rfl, rfl, rfl⟩
    case round =>
      obtain ⟨j, m, hj, rfl, rfl, hwr⟩ := hrel
      have hr : Sl TEntry c k k2 wr (.slice (some ⟨b, off, none⟩) l.length cap) l := by rw [hwr]; exact h.kn (Step.rf.drewN m)
      have hr' : Sl TEntry c k' k2' wr (.slice (some ⟨b', off', none⟩) l.length cap') l := by rw [hwr]; exact h'.kn (Step.rf.drewN m)
      have HW := Lib.hid hwr
      clear hwr
      have st : ∀ n, Step No c wr c (wr.drewN n) := fun n => Step.rf.drewN n
      by_cases hlt : j < l.length
      · obtain ⟨bv, e1, e2, y0, y1, y2, y3, y4, y5⟩ := entry_at hr (j := j) (e := l[j]) (by simp [hlt])
        obtain ⟨bv', e1', e2', y0', y1', y2', y3', y4', y5'⟩ := entry_at hr' (j := j) (e := l[j]) (by simp [hlt])
        have B : ∀ n, Calls Try.prog 59 #[bv, bv'] (wr.drewN n) fun e w' => e = .returned (.bool true) ∧ w' = wr.drewN n := fun n =>
          (sameBytes_any (e2.kn (st n)) (e2'.kn (st n))).mono fun e w' ⟨h1, h2⟩ => ⟨by rw [h1, beq_self_eq_true], h2.symm⟩
        obtain ⟨ba, bc, rfl, _⟩ := e2.form
        obtain ⟨ba', bc', rfl, _⟩ := e2'.form
        have hj0 : (0 : Int) ≤ (j : Int) := by omega
        have hj1 : (j : Int) < (l.length : Int) := by omega
        clear st e1 e2 e1' e2'
        go_wp2_with fail
        go_quiet ((go_at_call 59; exact Calls.quiet_of_same (B _)))
        go_wp2_with fail
        go_roundw
        case rel => exact ⟨j + 1, _, by omega, by go_num, rfl, by rw [HW.out]; exact World.drewN_drewN _ _ _⟩
        case measure => simp [intOf]; omega
      · go_wp2
        go_ret
        exact ⟨rfl, m, HW.out⟩
  · have hl0 : l = [] := List.eq_nil_of_length_eq_zero (by omega)
    subst hl0
    obtain ⟨a, n, rfl, _⟩ := h.form
    obtain ⟨a', n', rfl, _⟩ := h'.form
    clear h h'
    simp only [List.length_nil]
    go_enter Try.func20, Try.ntmps20
    go_wp2
    refine wp_loop_once ?_
    go_wp2
    go_ret
    exact ⟨rfl, 0, rfl⟩
end Go.Proofs.Ytcagfdmafelbkaa
