/-
  No cell of these rows narrows 'for every input' (looked for: loops, veiled, ifaces, maps, wideKeys, modest, calm, conditions, laid).
  DERIVED. THE GIVEN ROWS OF THIS SEAT. 6 by the template 'for every input the law returns true; each argument reads behind the call as it read before'; 0 by the template 'total and deterministic' (their statements: YtcagfdmafelbkaaTotals.lean).
  GIVEN WITH THE SEED: the statements are not yours to turn. If you find one false, say at which input.
  Laid BY PROGRAM, IN A SANDBOX (cutbox-rows.mjs): the forced cells as the released guide's own fill.sh prints them over the translation 57c82adb61984b7d… (all of the seat's roots in one cut). By AI agents, Wed Nov 11 2026. No macro, syntax, notation, axiom, sorry.
-/
import Derived.Test.YtcagfdmafelbkaaChecked
import GoSem.Claim
import GoSem.ClaimJoined
import GoSem.ClaimMapViews
import Derived.JoinedTies
import Derived.KernelRfl
namespace Go.Proofs.Ytcagfdmafelbkaa
/- THE CELL 'sum', in the pinned program and in every row, IS THE sha256 OF THE DUMP (.gsa) THAT YtcagfdmafelbkaaProg.lean LOADS. Nothing in Lean hashes anything: it is a label: what it is worth is what the hold of that sum in a sandbox is worth. -/
noncomputable def Try.pinned : Pinned := { name := "ytcagfdmafelbkaa", sum := "57c82adb61984b7dabc0a6e2ad08f4eb95406c84bd4c84d8347f18e81d5d951f", checked := Try.checked }
namespace Rows
def none {H : Type} : Left H := { results := [], args := [] }

/-- 'landfalllaw16.LedgerActs': WHATEVER THE INPUT: true; the input reads as it did. -/
def ledgerActsSpec : ChangeSpec := { name := "ledgerActs", fn := fun _ => fun
  | [d1, d2, d3, d4] => { results := [.lit (.bool true)], args := [d1, d2, d3, d4] }
  | _ => none }
def ledgerActsRow : OpenClaim := { program := "ytcagfdmafelbkaa", sum := "57c82adb61984b7dabc0a6e2ad08f4eb95406c84bd4c84d8347f18e81d5d951f", func := "landfall/landfalllaw16.LedgerActs", spec := "ledgerActs", unfollowed := true, recurses := true, plainKeys := false, apart := false }
def LedgerActsSaid : Prop := ledgerActsRow.holds Try.pinned (OpenSpec.ofChange ledgerActsSpec)

/-- ITS FALSE NEIGHBOUR: 'it returns false'. Refute it at one input. -/
def ledgerActsWrong : ChangeSpec := { name := "ledgerActs", fn := fun _ => fun
  | [d1, d2, d3, d4] => { results := [.lit (.bool false)], args := [d1, d2, d3, d4] }
  | _ => none }
def LedgerActsWrongFalsely : Prop := ledgerActsRow.holds Try.pinned (OpenSpec.ofChange ledgerActsWrong)

/-- 'landfalllaw16.LedgerNone': WHATEVER THE INPUT: true; the input reads as it did. -/
def ledgerNoneSpec : ChangeSpec := { name := "ledgerNone", fn := fun _ => fun
  | [d1, d2, d3] => { results := [.lit (.bool true)], args := [d1, d2, d3] }
  | _ => none }
def ledgerNoneRow : OpenClaim := { program := "ytcagfdmafelbkaa", sum := "57c82adb61984b7dabc0a6e2ad08f4eb95406c84bd4c84d8347f18e81d5d951f", func := "landfall/landfalllaw16.LedgerNone", spec := "ledgerNone", unfollowed := true, recurses := true, plainKeys := false, apart := false }
def LedgerNoneSaid : Prop := ledgerNoneRow.holds Try.pinned (OpenSpec.ofChange ledgerNoneSpec)

/-- ITS FALSE NEIGHBOUR: 'it returns false'. Refute it at one input. -/
def ledgerNoneWrong : ChangeSpec := { name := "ledgerNone", fn := fun _ => fun
  | [d1, d2, d3] => { results := [.lit (.bool false)], args := [d1, d2, d3] }
  | _ => none }
def LedgerNoneWrongFalsely : Prop := ledgerNoneRow.holds Try.pinned (OpenSpec.ofChange ledgerNoneWrong)

/-- 'landfalllaw23.PivotPlans': WHATEVER THE INPUT: true; the input reads as it did. -/
def pivotPlansSpec : ChangeSpec := { name := "pivotPlans", fn := fun _ => fun
  | [d1, d2, d3, d4] => { results := [.lit (.bool true)], args := [d1, d2, d3, d4] }
  | _ => none }
def pivotPlansRow : OpenClaim := { program := "ytcagfdmafelbkaa", sum := "57c82adb61984b7dabc0a6e2ad08f4eb95406c84bd4c84d8347f18e81d5d951f", func := "landfall/landfalllaw23.PivotPlans", spec := "pivotPlans", unfollowed := true, recurses := true, plainKeys := false, apart := false }
def PivotPlansSaid : Prop := pivotPlansRow.holds Try.pinned (OpenSpec.ofChange pivotPlansSpec)

/-- ITS FALSE NEIGHBOUR: 'it returns false'. Refute it at one input. -/
def pivotPlansWrong : ChangeSpec := { name := "pivotPlans", fn := fun _ => fun
  | [d1, d2, d3, d4] => { results := [.lit (.bool false)], args := [d1, d2, d3, d4] }
  | _ => none }
def PivotPlansWrongFalsely : Prop := pivotPlansRow.holds Try.pinned (OpenSpec.ofChange pivotPlansWrong)

/-- 'landfalllaw23.PivotActs': WHATEVER THE INPUT: true; the input reads as it did. -/
def pivotActsSpec : ChangeSpec := { name := "pivotActs", fn := fun _ => fun
  | [d1, d2, d3] => { results := [.lit (.bool true)], args := [d1, d2, d3] }
  | _ => none }
def pivotActsRow : OpenClaim := { program := "ytcagfdmafelbkaa", sum := "57c82adb61984b7dabc0a6e2ad08f4eb95406c84bd4c84d8347f18e81d5d951f", func := "landfall/landfalllaw23.PivotActs", spec := "pivotActs", unfollowed := true, recurses := true, plainKeys := false, apart := false }
def PivotActsSaid : Prop := pivotActsRow.holds Try.pinned (OpenSpec.ofChange pivotActsSpec)

/-- ITS FALSE NEIGHBOUR: 'it returns false'. Refute it at one input. -/
def pivotActsWrong : ChangeSpec := { name := "pivotActs", fn := fun _ => fun
  | [d1, d2, d3] => { results := [.lit (.bool false)], args := [d1, d2, d3] }
  | _ => none }
def PivotActsWrongFalsely : Prop := pivotActsRow.holds Try.pinned (OpenSpec.ofChange pivotActsWrong)

/-- 'landfalllaw23.PivotNone': WHATEVER THE INPUT: true; the input reads as it did. -/
def pivotNoneSpec : ChangeSpec := { name := "pivotNone", fn := fun _ => fun
  | [d] => { results := [.lit (.bool true)], args := [d] }
  | _ => none }
def pivotNoneRow : OpenClaim := { program := "ytcagfdmafelbkaa", sum := "57c82adb61984b7dabc0a6e2ad08f4eb95406c84bd4c84d8347f18e81d5d951f", func := "landfall/landfalllaw23.PivotNone", spec := "pivotNone", unfollowed := true, recurses := true, plainKeys := false, apart := false }
def PivotNoneSaid : Prop := pivotNoneRow.holds Try.pinned (OpenSpec.ofChange pivotNoneSpec)

/-- ITS FALSE NEIGHBOUR: 'it returns false'. Refute it at one input. -/
def pivotNoneWrong : ChangeSpec := { name := "pivotNone", fn := fun _ => fun
  | [d] => { results := [.lit (.bool false)], args := [d] }
  | _ => none }
def PivotNoneWrongFalsely : Prop := pivotNoneRow.holds Try.pinned (OpenSpec.ofChange pivotNoneWrong)

/-- 'landfalllaw23.PivotKnown': WHATEVER THE INPUT: true; the input reads as it did. -/
def pivotKnownSpec : ChangeSpec := { name := "pivotKnown", fn := fun _ => fun
  | [] => { results := [.lit (.bool true)], args := [] }
  | _ => none }
def pivotKnownRow : OpenClaim := { program := "ytcagfdmafelbkaa", sum := "57c82adb61984b7dabc0a6e2ad08f4eb95406c84bd4c84d8347f18e81d5d951f", func := "landfall/landfalllaw23.PivotKnown", spec := "pivotKnown", unfollowed := true, recurses := true, plainKeys := false, apart := false }
def PivotKnownSaid : Prop := pivotKnownRow.holds Try.pinned (OpenSpec.ofChange pivotKnownSpec)

/-- ITS FALSE NEIGHBOUR: 'it returns false'. Refute it at one input. -/
def pivotKnownWrong : ChangeSpec := { name := "pivotKnown", fn := fun _ => fun
  | [] => { results := [.lit (.bool false)], args := [] }
  | _ => none }
def PivotKnownWrongFalsely : Prop := pivotKnownRow.holds Try.pinned (OpenSpec.ofChange pivotKnownWrong)

/- THE SECOND FORM. 'bulk': how many values and letters a reading holds, each counted each time it is reached (what is shared counts as often as it is met; a slice's spare places count too). A statement '..UptoSaid' is the law's where the arguments, and the package variables that the reading takes, are together of bulk at most 1048576: NARROWER than '..Said'. Prove '..Said' where nothing that the law and all that it calls make is longer than what came in: it says more and counts as full. Else prove '..UptoSaid'. A law counts once. -/
mutual
def uptoBulk {H : Type} : DataW H → Nat
  | .lit (.string bytes) => bytes.length + 1
  | .lit _ => 1
  | .nil => 1
  | .ptr d => uptoBulk d + 1
  | .slice elems spare => uptoBulkAll elems + uptoBulkAll spare + 1
  | .agg parts => uptoBulkAll parts + 1
  | .iface _ d => uptoBulk d + 1
  | .map entries => uptoBulkEntries entries + 1
  | .held _ => 1
def uptoBulkAll {H : Type} : List (DataW H) → Nat
  | [] => 0
  | d :: r => uptoBulk d + uptoBulkAll r
def uptoBulkEntries {H : Type} : List (Lit × DataW H) → Nat
  | [] => 0
  | x :: r => uptoBulkEntry x + uptoBulkEntries r
def uptoBulkEntry {H : Type} : Lit × DataW H → Nat
  | (.string bytes, d) => bytes.length + uptoBulk d + 1
  | (_, d) => uptoBulk d + 1
 end
def uptoSmall : (H : Type) → List (DataW H) → Bool := fun _ ds => decide (uptoBulkAll ds ≤ 1048576)
def OpenSpec.upto (s : _root_.Go.ChangeSpec) : _root_.Go.OpenSpec := { _root_.Go.OpenSpec.ofChange s with cond := some uptoSmall }

/-- 'landfalllaw16.LedgerActs', WHERE WHAT IT READS IS OF BULK AT MOST 1048576: true; the input reads as it did. -/
def ledgerActsUptoRow : OpenClaim := { program := "ytcagfdmafelbkaa", sum := "57c82adb61984b7dabc0a6e2ad08f4eb95406c84bd4c84d8347f18e81d5d951f", func := "landfall/landfalllaw16.LedgerActs", spec := "ledgerActs", unfollowed := true, recurses := true, plainKeys := false, apart := false, narrowed := true }
def LedgerActsUptoSaid : Prop := ledgerActsUptoRow.holds Try.pinned (OpenSpec.upto ledgerActsSpec)

/-- 'landfalllaw16.LedgerNone', WHERE WHAT IT READS IS OF BULK AT MOST 1048576: true; the input reads as it did. -/
def ledgerNoneUptoRow : OpenClaim := { program := "ytcagfdmafelbkaa", sum := "57c82adb61984b7dabc0a6e2ad08f4eb95406c84bd4c84d8347f18e81d5d951f", func := "landfall/landfalllaw16.LedgerNone", spec := "ledgerNone", unfollowed := true, recurses := true, plainKeys := false, apart := false, narrowed := true }
def LedgerNoneUptoSaid : Prop := ledgerNoneUptoRow.holds Try.pinned (OpenSpec.upto ledgerNoneSpec)

/-- 'landfalllaw23.PivotPlans', WHERE WHAT IT READS IS OF BULK AT MOST 1048576: true; the input reads as it did. -/
def pivotPlansUptoRow : OpenClaim := { program := "ytcagfdmafelbkaa", sum := "57c82adb61984b7dabc0a6e2ad08f4eb95406c84bd4c84d8347f18e81d5d951f", func := "landfall/landfalllaw23.PivotPlans", spec := "pivotPlans", unfollowed := true, recurses := true, plainKeys := false, apart := false, narrowed := true }
def PivotPlansUptoSaid : Prop := pivotPlansUptoRow.holds Try.pinned (OpenSpec.upto pivotPlansSpec)

/-- 'landfalllaw23.PivotActs', WHERE WHAT IT READS IS OF BULK AT MOST 1048576: true; the input reads as it did. -/
def pivotActsUptoRow : OpenClaim := { program := "ytcagfdmafelbkaa", sum := "57c82adb61984b7dabc0a6e2ad08f4eb95406c84bd4c84d8347f18e81d5d951f", func := "landfall/landfalllaw23.PivotActs", spec := "pivotActs", unfollowed := true, recurses := true, plainKeys := false, apart := false, narrowed := true }
def PivotActsUptoSaid : Prop := pivotActsUptoRow.holds Try.pinned (OpenSpec.upto pivotActsSpec)

/-- 'landfalllaw23.PivotNone', WHERE WHAT IT READS IS OF BULK AT MOST 1048576: true; the input reads as it did. -/
def pivotNoneUptoRow : OpenClaim := { program := "ytcagfdmafelbkaa", sum := "57c82adb61984b7dabc0a6e2ad08f4eb95406c84bd4c84d8347f18e81d5d951f", func := "landfall/landfalllaw23.PivotNone", spec := "pivotNone", unfollowed := true, recurses := true, plainKeys := false, apart := false, narrowed := true }
def PivotNoneUptoSaid : Prop := pivotNoneUptoRow.holds Try.pinned (OpenSpec.upto pivotNoneSpec)

/-- 'landfalllaw23.PivotKnown', WHERE WHAT IT READS IS OF BULK AT MOST 1048576: true; the input reads as it did. -/
def pivotKnownUptoRow : OpenClaim := { program := "ytcagfdmafelbkaa", sum := "57c82adb61984b7dabc0a6e2ad08f4eb95406c84bd4c84d8347f18e81d5d951f", func := "landfall/landfalllaw23.PivotKnown", spec := "pivotKnown", unfollowed := true, recurses := true, plainKeys := false, apart := false, narrowed := true }
def PivotKnownUptoSaid : Prop := pivotKnownUptoRow.holds Try.pinned (OpenSpec.upto pivotKnownSpec)

end Rows
end Go.Proofs.Ytcagfdmafelbkaa
