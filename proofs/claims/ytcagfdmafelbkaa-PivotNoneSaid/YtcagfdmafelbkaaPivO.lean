/- The law PivotNone: its walk. -/
import Derived.Test.YtcagfdmafelbkaaPivN
import Derived.Test.YtcagfdmafelbkaaPivA
namespace Go.Proofs.Ytcagfdmafelbkaa
open Go.RowKit

set_option maxRecDepth 100000 in
set_option maxHeartbeats 1600000 in
theorem none_law {w : World} (x : Int) :
    Calls Try.prog 7 #[.int .i64 x] w fun r w' => r = .returned (.bool true) ∧ Below w.heap.size w w' := by
  have hok : Ok (fun _ => 0) w := Ok.zero w
  have bel : ∀ {K : Nat → Prop} {c' : Col} {w' : World}, Step K (fun _ => 0) w c' w' → ¬ K 0 → Below w.heap.size w w' := fun h k0 => h.below (fun _ _ => k0)
  have o1 := hok.alloc (.cells #[.int .i64 0, .int .i64 0, .int .i64 0, .slice none 0 0] 82)
  have A1 := At.new0 hok [.int .i64 0, .int .i64 0, .int .i64 0, .slice none 0 0] 82
  have A2 := At.new0 o1 [.pointer none, .pointer (some ⟨w.heap.size, 0, none⟩)] 66
  have o2 := o1.alloc (.cells #[.pointer none, .pointer (some ⟨w.heap.size, 0, none⟩)] 66)
  have sa := Step.al (c := fun _ => 0) (w := w.alloc (.cells #[.int .i64 0, .int .i64 0, .int .i64 0, .slice none 0 0] 82)) (.cells #[.pointer none, .pointer (some ⟨w.heap.size, 0, none⟩)] 66)
  have st := (Step.al (c := fun _ => 0) (w := w) (.cells #[.int .i64 0, .int .i64 0, .int .i64 0, .slice none 0 0] 82)).trans sa
  have f2 := (A1.keep sa (fun h => h)).cells 1 _ rfl
  have f0 := A2.cells 0 _ rfl
  have f1 := A2.cells 1 _ rfl
  simp only [World.size_alloc, Nat.zero_add, Nat.add_zero] at f0 f1 f2
  clear A1 A2 sa o1
  have AW := awake23_any o2
  have HH := Lib.hid (And.intro f0 (And.intro f1 (And.intro f2 st)))
  clear f0 f1 f2 st o2 hok
  go_enter Try.func7, Try.ntmps7
  go_wp2_with fail
  obtain ⟨W, hW⟩ : ∃ W, (w.alloc (.cells #[.int .i64 0, .int .i64 0, .int .i64 0, .slice none 0 0] 82)).alloc (.cells #[.pointer none, .pointer (some ⟨w.heap.size, 0, none⟩)] 66) = W := ⟨_, rfl⟩
  rw [hW] at HH AW ⊢
  clear hW
  go_loopw [4, 5, 6, 7, 8, 9] (fun i _ _ _ _ _ wr => ∃ (j : Nat), j ≤ 2 ∧ i = .int .i64 j ∧ wr = W) (fun i _ _ _ _ _ _ => 2 - (intOf i).toNat)
  case atStart => exact ⟨0, by decide, rfl, rfl⟩
  case round =>
    obtain ⟨j, hj, rfl, rfl⟩ := hrel
    obtain ⟨f0, f1, f2, st⟩ := HH.out
    rcases (by omega : j = 0 ∨ j = 1 ∨ j = 2) with rfl | rfl | rfl
    · have y := stnone_nil wr
      clear f1 f2 st AW
      go_wp2_with fail
      with_reducible refine (pop_none y).mono ?_
      rintro e w1 ⟨rfl, rfl⟩
      go_wp2_with fail
      with_reducible refine (split_none y).mono ?_
      rintro e w1 ⟨rfl, rfl⟩
      go_wp2_with fail
      with_reducible refine (reset_none y).mono ?_
      rintro e w1 ⟨rfl, rfl⟩
      go_wp2_with fail
      with_reducible refine (base_none y).mono ?_
      rintro e w1 ⟨rfl, rfl⟩
      go_wp2_with fail
      with_reducible refine (sttop_none y).mono ?_
      rintro e w1 ⟨rfl, rfl⟩
      go_wp2_with fail
      with_reducible refine (heights_none y).mono ?_
      rintro e w1 ⟨rfl, rfl⟩
      go_wp2_with fail
      with_reducible refine (push_none x y).mono ?_
      rintro e w1 ⟨rfl, rfl⟩
      go_wp2_with fail
      with_reducible refine (done_none y).mono ?_
      rintro e w1 ⟨rfl, rfl⟩
      go_wp2_with fail
      go_roundw
      case rel => exact ⟨1, by decide, by first | rfl | go_num, trivial⟩
      case measure => simp [intOf]
    · have y := stnone_zero f2
      clear f0 f2 st AW
      go_wp2_with fail
      with_reducible refine (pop_none y).mono ?_
      rintro e w1 ⟨rfl, rfl⟩
      go_wp2_with fail
      with_reducible refine (split_none y).mono ?_
      rintro e w1 ⟨rfl, rfl⟩
      go_wp2_with fail
      with_reducible refine (reset_none y).mono ?_
      rintro e w1 ⟨rfl, rfl⟩
      go_wp2_with fail
      with_reducible refine (base_none y).mono ?_
      rintro e w1 ⟨rfl, rfl⟩
      go_wp2_with fail
      with_reducible refine (sttop_none y).mono ?_
      rintro e w1 ⟨rfl, rfl⟩
      go_wp2_with fail
      with_reducible refine (heights_none y).mono ?_
      rintro e w1 ⟨rfl, rfl⟩
      go_wp2_with fail
      with_reducible refine (push_none x y).mono ?_
      rintro e w1 ⟨rfl, rfl⟩
      go_wp2_with fail
      with_reducible refine (done_none y).mono ?_
      rintro e w1 ⟨rfl, rfl⟩
      go_wp2_with fail
      go_roundw
      case rel => exact ⟨2, by decide, by first | rfl | go_num, trivial⟩
      case measure => simp [intOf]
    · clear f0 f1 f2
      go_wp2_with fail
      with_reducible refine AW.mono ?_
      rintro e w7 ⟨rfl, c7, s7, _⟩
      go_wp2_with fail
      go_ret
      exact ⟨rfl, bel (st.trans s7) (fun h => h)⟩
end Go.Proofs.Ytcagfdmafelbkaa
