/- Pivot: a stack that is nil, or that nobody made. -/
import Derived.Test.YtcagfdmafelbkaaPiv5
namespace Go.Proofs.Ytcagfdmafelbkaa
open Go.RowKit
variable {w : World} {v : Value}

theorem stnone_nil (w : World) : Calls Try.prog 69 #[.pointer none] w fun r w' => r = .returned (.bool true) ∧ w = w' := by
  go_enter Try.func69, Try.ntmps69
  go_wp2_with fail
  go_ret
  exact ⟨rfl, rfl⟩

theorem stnone_zero {b : Nat} (h : w.cell? ⟨b, 1, none⟩ = some (.int .i64 0)) : Calls Try.prog 69 #[.pointer (some ⟨b, 0, none⟩)] w fun r w' => r = .returned (.bool true) ∧ w = w' := by
  go_enter Try.func69, Try.ntmps69
  go_wp2_with fail
  go_ret
  exact ⟨rfl, rfl⟩

theorem pop_none (y : Calls Try.prog 69 #[v] w fun r w' => r = .returned (.bool true) ∧ w = w') :
    Calls Try.prog 46 #[v] w fun r w' => r = .returned (.tuple #[.int .i64 0, .int .i64 1]) ∧ w = w' := by
  go_enter Try.func46, Try.ntmps46
  go_wp2_with fail
  with_reducible refine y.mono ?_
  rintro e w1 ⟨rfl, rfl⟩
  go_wp2
  go_ret2
  exact ⟨rfl, rfl⟩

theorem split_none (y : Calls Try.prog 69 #[v] w fun r w' => r = .returned (.bool true) ∧ w = w') :
    Calls Try.prog 47 #[v] w fun r w' => r = .returned (.tuple #[.int .i64 0, .int .i64 1]) ∧ w = w' := by
  go_enter Try.func47, Try.ntmps47
  go_wp2_with fail
  with_reducible refine y.mono ?_
  rintro e w1 ⟨rfl, rfl⟩
  go_wp2
  go_ret2
  exact ⟨rfl, rfl⟩

theorem reset_none (y : Calls Try.prog 69 #[v] w fun r w' => r = .returned (.bool true) ∧ w = w') :
    Calls Try.prog 48 #[v] w fun r w' => r = .returned (.tuple #[]) ∧ w = w' := by
  go_enter Try.func48, Try.ntmps48
  go_wp2_with fail
  with_reducible refine y.mono ?_
  rintro e w1 ⟨rfl, rfl⟩
  go_wp2
  (try simp only [Exit.inBlock, Exit.then])
  refine bodyPost_ret (results_none rfl _ _ _) rfl ?_
  exact ⟨rfl, rfl⟩

theorem base_none (y : Calls Try.prog 69 #[v] w fun r w' => r = .returned (.bool true) ∧ w = w') :
    Calls Try.prog 41 #[v] w fun r w' => r = .returned (.int .i64 0) ∧ w = w' := by
  go_enter Try.func41, Try.ntmps41
  go_wp2_with fail
  with_reducible refine y.mono ?_
  rintro e w1 ⟨rfl, rfl⟩
  go_wp2_with fail
  go_ret
  exact ⟨rfl, rfl⟩

theorem sttop_none (y : Calls Try.prog 69 #[v] w fun r w' => r = .returned (.bool true) ∧ w = w') :
    Calls Try.prog 42 #[v] w fun r w' => r = .returned (.int .i64 0) ∧ w = w' := by
  go_enter Try.func42, Try.ntmps42
  go_wp2_with fail
  with_reducible refine y.mono ?_
  rintro e w1 ⟨rfl, rfl⟩
  go_wp2_with fail
  go_ret
  exact ⟨rfl, rfl⟩

theorem heights_none (y : Calls Try.prog 69 #[v] w fun r w' => r = .returned (.bool true) ∧ w = w') :
    Calls Try.prog 40 #[v] w fun r w' => r = .returned (.slice none 0 0) ∧ w = w' := by
  go_enter Try.func40, Try.ntmps40
  go_wp2_with fail
  with_reducible refine y.mono ?_
  rintro e w1 ⟨rfl, rfl⟩
  go_wp2_with fail
  go_ret
  exact ⟨rfl, rfl⟩

theorem push_none (x : Int) (y : Calls Try.prog 69 #[v] w fun r w' => r = .returned (.bool true) ∧ w = w') :
    Calls Try.prog 49 #[v, .int .i64 x] w fun r w' => r = .returned (.int .i64 1) ∧ w = w' := by
  go_enter Try.func49, Try.ntmps49
  go_wp2_with fail
  with_reducible refine y.mono ?_
  rintro e w1 ⟨rfl, rfl⟩
  go_wp2_with fail
  go_ret
  exact ⟨rfl, rfl⟩

theorem done_none (y : Calls Try.prog 69 #[v] w fun r w' => r = .returned (.bool true) ∧ w = w') :
    Calls Try.prog 44 #[v] w fun r w' => r = .returned (.bool true) ∧ w = w' := by
  go_enter Try.func44, Try.ntmps44
  go_wp2_with fail
  with_reducible refine y.mono ?_
  rintro e w1 ⟨rfl, rfl⟩
  go_wp2_with fail
  go_ret
  exact ⟨rfl, rfl⟩
end Go.Proofs.Ytcagfdmafelbkaa
