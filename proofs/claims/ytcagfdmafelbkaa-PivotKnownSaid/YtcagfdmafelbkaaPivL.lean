/- The law PivotKnown: as a law asks it. -/
import Derived.Test.YtcagfdmafelbkaaPivK
set_option linter.unusedVariables false
set_option linter.unusedSimpArgs false
namespace Go.Proofs.Ytcagfdmafelbkaa
open Go.RowKit

theorem known_law {w : World} : Calls Try.prog 8 #[] w fun r w' => r = .returned (.bool true) ∧ Below w.heap.size w w' :=
  (known_any (Ok.zero w)).mono fun e w' h => by
    match e, h with
    | _, ⟨rfl, c', s, _⟩ => exact ⟨rfl, s.below (fun _ _ h => h)⟩
end Go.Proofs.Ytcagfdmafelbkaa
