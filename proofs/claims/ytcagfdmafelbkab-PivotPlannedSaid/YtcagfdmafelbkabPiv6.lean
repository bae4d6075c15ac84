/- The laws' own kit: lists of numbers and of tries, side by side, and written over. -/
import Derived.Test.YtcagfdmafelbkabLib3
import Derived.Test.YtcagfdmafelbkabPiv1
set_option linter.unusedVariables false
set_option linter.unusedSimpArgs false
namespace Go.Proofs.Ytcagfdmafelbkab
open Go.RowKit

/-- A try: from, to, held. -/
structure Tri where
  from_ : Int
  to_ : Int
  held : Bool

def triC (x : Tri) : List Value := [.int .i64 x.from_, .int .i64 x.to_, .bool x.held]
def TTri : Ty Tri := TPlain 3 triC (fun _ => rfl) (fun x u hu => by simp [triC] at hu; rcases hu with rfl | rfl | rfl <;> rfl)
theorem infoTry : (Try.prog.info? 41).map (fun i => (i.zero, i.size, i.bytes)) = some (some (.agg #[.int .i64 0, .int .i64 0, .bool false]), 3, 24) := by kernel_rfl

theorem tri_at {c : Col} {k k2 : Nat} {w : World} {g off cap len : Nat} {l : List Tri} (h : Sl TTri c k k2 w (.slice (some ⟨g, off, none⟩) len cap) l) {j : Nat} {x : Tri} (hj : l[j]? = some x) :
    w.cell? ⟨g, off + j * 3, none⟩ = some (.int .i64 x.from_) ∧ w.cell? ⟨g, off + j * 3 + 1, none⟩ = some (.int .i64 x.to_) ∧ w.cell? ⟨g, off + j * 3 + 2, none⟩ = some (.bool x.held) := by
  obtain ⟨vs, rfl, h2⟩ := h.at hj
  exact ⟨h2.get 0 rfl, h2.get 1 rfl, h2.get 2 rfl⟩

theorem num_at {c : Col} {k k2 : Nat} {w : World} {g off cap len : Nat} {l : List Int} (h : Sl (TInt .i64) c k k2 w (.slice (some ⟨g, off, none⟩) len cap) l) {j : Nat} {x : Int} (hj : l[j]? = some x) :
    w.cell? ⟨g, off + j, none⟩ = some (.int .i64 x) := by
  obtain ⟨vs, ⟨rfl, _⟩, h2⟩ := h.at hj
  have := h2.get 0 rfl
  simpa [TInt] using this

set_option maxHeartbeats 800000 in
theorem sameInts_eq {c : Col} {w : World} {k k2 k' k2' : Nat} {v v' : Value} {l : List Int} (h : Sl (TInt .i64) c k k2 w v l) (h' : Sl (TInt .i64) c k' k2' w v' l) :
    Calls Try.prog 18 #[v, v'] w fun r w' => r = .returned (.bool true) ∧ ∃ n, w' = w.drewN n := by
  have hm := h.length_le
  unfold maxLen at hm
  by_cases hl : 0 < l.length
  · obtain ⟨b, off, cap, rfl, _⟩ := h.ex hl
    obtain ⟨b', off', cap', rfl, _⟩ := h'.ex hl
    go_enter Try.func18, Try.ntmps18
    go_wp2
    go_loopw [5, 6] (fun s i wr => ∃ (j m : Nat), j ≤ l.length ∧ i = .int .i64 j ∧ s = .bool true ∧ wr = w.drewN m) (fun _ i _ => l.length - (intOf i).toNat)
    case atStart => exact ⟨0, 0, Nat.zero_le _, rfl, rfl, rfl⟩
    case round =>
      obtain ⟨j, m, hj, rfl, rfl, hwr⟩ := hrel
      by_cases hlt : j < l.length
      · have y0 := num_at h (j := j) (x := l[j]) (by simp [hlt])
        have y1 := num_at h' (j := j) (x := l[j]) (by simp [hlt])
        have z0 : wr.cell? ⟨b, off + j, none⟩ = some (.int .i64 l[j]) := by rw [hwr]; exact y0
        have z1 : wr.cell? ⟨b', off' + j, none⟩ = some (.int .i64 l[j]) := by rw [hwr]; exact y1
        have HW := Lib.hid hwr
        have hj0 : (0 : Int) ≤ (j : Int) := by omega
        have hj1 : (j : Int) < (l.length : Int) := by omega
        clear hwr y0 y1
        go_wp2_with fail
        go_quiet (fail)
        go_wp2_with fail
        go_roundw
        case rel => exact ⟨j + 1, _, by omega, by go_num, rfl, by rw [HW.out]; exact World.drewN_drewN _ _ _⟩
        case measure => simp [intOf]; omega
      · have HW := Lib.hid hwr
        clear hwr
        go_wp2
        go_ret
        exact ⟨rfl, m, HW.out⟩
  · have hl0 : l = [] := List.eq_nil_of_length_eq_zero (by omega)
    subst hl0
    obtain ⟨a, n, rfl, _⟩ := h.form
    obtain ⟨a', n', rfl, _⟩ := h'.form
    clear h h'
    simp only [List.length_nil]
    go_enter Try.func18, Try.ntmps18
    go_wp2
    refine wp_loop_once ?_
    go_wp2
    go_ret
    exact ⟨rfl, 0, rfl⟩

set_option maxHeartbeats 800000 in
theorem sameTries_eq {c : Col} {w : World} {k k2 k' k2' : Nat} {v v' : Value} {l : List Tri} (h : Sl TTri c k k2 w v l) (h' : Sl TTri c k' k2' w v' l) :
    Calls Try.prog 33 #[v, v'] w fun r w' => r = .returned (.bool true) ∧ ∃ n, w' = w.drewN n := by
  have hm := h.length_le
  unfold maxLen at hm
  by_cases hl : 0 < l.length
  · obtain ⟨b, off, cap, rfl, _⟩ := h.ex hl
    obtain ⟨b', off', cap', rfl, _⟩ := h'.ex hl
    go_enter Try.func33, Try.ntmps33
    go_wp2
    go_loopw [5, 6] (fun s i wr => ∃ (j m : Nat), j ≤ l.length ∧ i = .int .i64 j ∧ s = .bool true ∧ wr = w.drewN m) (fun _ i _ => l.length - (intOf i).toNat)
    case atStart => exact ⟨0, 0, Nat.zero_le _, rfl, rfl, rfl⟩
    case round =>
      obtain ⟨j, m, hj, rfl, rfl, hwr⟩ := hrel
      by_cases hlt : j < l.length
      · obtain ⟨y0, y1, y2⟩ := tri_at h (j := j) (x := l[j]) (by simp [hlt])
        obtain ⟨u0, u1, u2⟩ := tri_at h' (j := j) (x := l[j]) (by simp [hlt])
        have z : ∀ a, wr.cell? a = w.cell? a := fun a => by rw [hwr]; rfl
        rw [← z] at y0 y1 y2 u0 u1 u2
        have HW := Lib.hid hwr
        have hj0 : (0 : Int) ≤ (j : Int) := by omega
        have hj1 : (j : Int) < (l.length : Int) := by omega
        clear hwr z
        go_wp2_with fail
        go_quiet (fail)
        go_wp2_with fail
        go_roundw
        case rel => exact ⟨j + 1, _, by omega, by go_num, rfl, by rw [HW.out]; exact World.drewN_drewN _ _ _⟩
        case measure => simp [intOf]; omega
      · have HW := Lib.hid hwr
        clear hwr
        go_wp2
        go_ret
        exact ⟨rfl, m, HW.out⟩
  · have hl0 : l = [] := List.eq_nil_of_length_eq_zero (by omega)
    subst hl0
    obtain ⟨a, n, rfl, _⟩ := h.form
    obtain ⟨a', n', rfl, _⟩ := h'.form
    clear h h'
    simp only [List.length_nil]
    go_enter Try.func33, Try.ntmps33
    go_wp2
    refine wp_loop_once ?_
    go_wp2
    go_ret
    exact ⟨rfl, 0, rfl⟩

end Go.Proofs.Ytcagfdmafelbkab
