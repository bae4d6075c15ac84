/-
  No cell of these rows narrows 'for every input' (looked for: loops, veiled, ifaces, maps, wideKeys, modest, calm, conditions, laid).
  DERIVED. THE GIVEN ROWS OF THIS SEAT. 3 by the template 'for every input the law returns true; each argument reads behind the call as it read before'; 0 by the template 'total and deterministic' (their statements: YtgcobbapaaihiaaGreatTotals.lean).
  GIVEN WITH THE SEED: the statements are not yours to turn. If you find one false, say at which input.
  Laid BY PROGRAM, IN A SANDBOX (cutbox-rows.mjs): the forced cells as the released guide's own fill.sh prints them over the translation 7ec877f9a389bc85… (all of the seat's roots in one cut). By AI agents, Wed Nov 11 2026. No macro, syntax, notation, axiom, sorry.
-/
import Derived.Test.YtgcobbapaaihiaaGreatChecked
import GoSem.Claim
import GoSem.ClaimJoined
import GoSem.ClaimMapViews
import Derived.JoinedTies
import Derived.KernelRfl
namespace Go.Proofs.YtgcobbapaaihiaaGreat
/- THE CELL 'sum', in the pinned program and in every row, IS THE sha256 OF THE DUMP (.gsa) THAT YtgcobbapaaihiaaGreatProg.lean LOADS. Nothing in Lean hashes anything: it is a label: what it is worth is what the hold of that sum in a sandbox is worth. -/
noncomputable def Tryz.pinned : Pinned := { name := "ytgcobbapaaihiaagreat", sum := "7ec877f9a389bc85234f6c375e1399145156d3628d804516f0ad9f194d535fa4", checked := Tryz.checked }
namespace Rows
def none {H : Type} : Left H := { results := [], args := [] }

/-- 'landfalllaw29.ServerReplies': WHATEVER THE INPUT: true; the input reads as it did. -/
def serverRepliesSpec : ChangeSpec := { name := "serverReplies", fn := fun _ => fun
  | [d1, d2, d3, d4] => { results := [.lit (.bool true)], args := [d1, d2, d3, d4] }
  | _ => none }
def serverRepliesRow : OpenClaim := { program := "ytgcobbapaaihiaagreat", sum := "7ec877f9a389bc85234f6c375e1399145156d3628d804516f0ad9f194d535fa4", func := "landfall/landfalllaw29.ServerReplies", spec := "serverReplies", inPlace := ["internal/bytealg.Compare", "internal/bytealg.IndexByteString", "internal/bytealg.IndexString"], unfollowed := true, recurses := true, named := ["internal/bytealg.MaxLen"], plainKeys := false, apart := false }
def ServerRepliesSaid : Prop := serverRepliesRow.holds Tryz.pinned (OpenSpec.ofChange serverRepliesSpec)

/-- ITS FALSE NEIGHBOUR: 'it returns false'. Refute it at one input. -/
def serverRepliesWrong : ChangeSpec := { name := "serverReplies", fn := fun _ => fun
  | [d1, d2, d3, d4] => { results := [.lit (.bool false)], args := [d1, d2, d3, d4] }
  | _ => none }
def ServerRepliesWrongFalsely : Prop := serverRepliesRow.holds Tryz.pinned (OpenSpec.ofChange serverRepliesWrong)

/-- 'landfalllaw29.ServerKnown': WHATEVER THE INPUT: true; the input reads as it did. -/
def serverKnownSpec : ChangeSpec := { name := "serverKnown", fn := fun _ => fun
  | [] => { results := [.lit (.bool true)], args := [] }
  | _ => none }
def serverKnownRow : OpenClaim := { program := "ytgcobbapaaihiaagreat", sum := "7ec877f9a389bc85234f6c375e1399145156d3628d804516f0ad9f194d535fa4", func := "landfall/landfalllaw29.ServerKnown", spec := "serverKnown", inPlace := ["internal/bytealg.Compare", "internal/bytealg.IndexByteString", "internal/bytealg.IndexString"], unfollowed := true, recurses := true, named := ["internal/bytealg.MaxLen"], plainKeys := false, apart := false }
def ServerKnownSaid : Prop := serverKnownRow.holds Tryz.pinned (OpenSpec.ofChange serverKnownSpec)

/-- ITS FALSE NEIGHBOUR: 'it returns false'. Refute it at one input. -/
def serverKnownWrong : ChangeSpec := { name := "serverKnown", fn := fun _ => fun
  | [] => { results := [.lit (.bool false)], args := [] }
  | _ => none }
def ServerKnownWrongFalsely : Prop := serverKnownRow.holds Tryz.pinned (OpenSpec.ofChange serverKnownWrong)

/-- 'landfalllaw29.ServerTurns': WHATEVER THE INPUT: true; the input reads as it did. -/
def serverTurnsSpec : ChangeSpec := { name := "serverTurns", fn := fun _ => fun
  | [d1, d2, d3, d4] => { results := [.lit (.bool true)], args := [d1, d2, d3, d4] }
  | _ => none }
def serverTurnsRow : OpenClaim := { program := "ytgcobbapaaihiaagreat", sum := "7ec877f9a389bc85234f6c375e1399145156d3628d804516f0ad9f194d535fa4", func := "landfall/landfalllaw29.ServerTurns", spec := "serverTurns", inPlace := ["internal/bytealg.Compare", "internal/bytealg.IndexByteString", "internal/bytealg.IndexString"], unfollowed := true, recurses := true, named := ["internal/bytealg.MaxLen"], plainKeys := false, apart := false }
def ServerTurnsSaid : Prop := serverTurnsRow.holds Tryz.pinned (OpenSpec.ofChange serverTurnsSpec)

/-- ITS FALSE NEIGHBOUR: 'it returns false'. Refute it at one input. -/
def serverTurnsWrong : ChangeSpec := { name := "serverTurns", fn := fun _ => fun
  | [d1, d2, d3, d4] => { results := [.lit (.bool false)], args := [d1, d2, d3, d4] }
  | _ => none }
def ServerTurnsWrongFalsely : Prop := serverTurnsRow.holds Tryz.pinned (OpenSpec.ofChange serverTurnsWrong)

/- THE SECOND FORM. 'bulk': how many values and letters a reading holds, each counted each time it is reached (what is shared counts as often as it is met; a slice's spare places count too). A statement '..UptoSaid' is the law's where the arguments, and the package variables that the reading takes, are together of bulk at most 1048576: NARROWER than '..Said'. Prove '..Said' where nothing that the law and all that it calls make is longer than what came in: it says more and counts as full. Else prove '..UptoSaid'. A law counts once. -/
mutual
def uptoBulk {H : Type} : DataW H → Nat
  | .lit (.string bytes) => bytes.length + 1
  | .lit _ => 1
  | .nil => 1
  | .ptr d => uptoBulk d + 1
  | .slice elems spare => uptoBulkAll elems + uptoBulkAll spare + 1
  | .agg parts => uptoBulkAll parts + 1
  | .iface _ d => uptoBulk d + 1
  | .map entries => uptoBulkEntries entries + 1
  | .held _ => 1
def uptoBulkAll {H : Type} : List (DataW H) → Nat
  | [] => 0
  | d :: r => uptoBulk d + uptoBulkAll r
def uptoBulkEntries {H : Type} : List (Lit × DataW H) → Nat
  | [] => 0
  | x :: r => uptoBulkEntry x + uptoBulkEntries r
def uptoBulkEntry {H : Type} : Lit × DataW H → Nat
  | (.string bytes, d) => bytes.length + uptoBulk d + 1
  | (_, d) => uptoBulk d + 1
 end
def uptoSmall : (H : Type) → List (DataW H) → Bool := fun _ ds => decide (uptoBulkAll ds ≤ 1048576)
def OpenSpec.upto (s : _root_.Go.ChangeSpec) : _root_.Go.OpenSpec := { _root_.Go.OpenSpec.ofChange s with cond := some uptoSmall }

/-- 'landfalllaw29.ServerReplies', WHERE WHAT IT READS IS OF BULK AT MOST 1048576: true; the input reads as it did. -/
def serverRepliesUptoRow : OpenClaim := { program := "ytgcobbapaaihiaagreat", sum := "7ec877f9a389bc85234f6c375e1399145156d3628d804516f0ad9f194d535fa4", func := "landfall/landfalllaw29.ServerReplies", spec := "serverReplies", inPlace := ["internal/bytealg.Compare", "internal/bytealg.IndexByteString", "internal/bytealg.IndexString"], unfollowed := true, recurses := true, named := ["internal/bytealg.MaxLen"], plainKeys := false, apart := false, narrowed := true }
def ServerRepliesUptoSaid : Prop := serverRepliesUptoRow.holds Tryz.pinned (OpenSpec.upto serverRepliesSpec)

/-- 'landfalllaw29.ServerKnown', WHERE WHAT IT READS IS OF BULK AT MOST 1048576: true; the input reads as it did. -/
def serverKnownUptoRow : OpenClaim := { program := "ytgcobbapaaihiaagreat", sum := "7ec877f9a389bc85234f6c375e1399145156d3628d804516f0ad9f194d535fa4", func := "landfall/landfalllaw29.ServerKnown", spec := "serverKnown", inPlace := ["internal/bytealg.Compare", "internal/bytealg.IndexByteString", "internal/bytealg.IndexString"], unfollowed := true, recurses := true, named := ["internal/bytealg.MaxLen"], plainKeys := false, apart := false, narrowed := true }
def ServerKnownUptoSaid : Prop := serverKnownUptoRow.holds Tryz.pinned (OpenSpec.upto serverKnownSpec)

/-- 'landfalllaw29.ServerTurns', WHERE WHAT IT READS IS OF BULK AT MOST 1048576: true; the input reads as it did. -/
def serverTurnsUptoRow : OpenClaim := { program := "ytgcobbapaaihiaagreat", sum := "7ec877f9a389bc85234f6c375e1399145156d3628d804516f0ad9f194d535fa4", func := "landfall/landfalllaw29.ServerTurns", spec := "serverTurns", inPlace := ["internal/bytealg.Compare", "internal/bytealg.IndexByteString", "internal/bytealg.IndexString"], unfollowed := true, recurses := true, named := ["internal/bytealg.MaxLen"], plainKeys := false, apart := false, narrowed := true }
def ServerTurnsUptoSaid : Prop := serverTurnsUptoRow.holds Tryz.pinned (OpenSpec.upto serverTurnsSpec)

end Rows
end Go.Proofs.YtgcobbapaaihiaaGreat
