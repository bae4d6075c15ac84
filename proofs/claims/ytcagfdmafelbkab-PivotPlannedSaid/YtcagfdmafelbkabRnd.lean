/- Own library: a region in a round, by the plain rules. -/
import Derived.Test.YtcagfdmafelbkabRng
import Derived.Deep.RegionHeld3
set_option linter.unusedVariables false
set_option linter.unusedSimpArgs false
namespace Go.Proofs.Ytcagfdmafelbkab
open Go.RowKit

section
variable {P : Program} {ops : Array Oper} {Q : Exit → Act → World → Prop}

theorem wpIn_of_wp {o : Oper} (hd : ∀ cl, o.op ≠ .defer cl) {a : Act} {w : World} {K K' : Act → World → Prop} (hK : ∀ a w, K a w → K' a w) (lp : Nat) (h : o.wp P a w K Q) : o.wpIn (Fence.wide.inRound lp) 0 P a w K' Q := by
  refine ⟨fun _ _ => trivial, ?_⟩
  rw [Oper.semAt_eq _ _ _ hd]
  unfold Oper.wp at h
  cases hr : (execOp a.eval o).run P w with
  | halt x w' =>
    rw [hr] at h
    cases x <;> first | exact h | exact h.elim
  | ok x w' =>
    rw [hr] at h
    cases x with
    | value v => exact hK _ _ h
    | skip => exact hK _ _ h
    | defer d => exact hK _ _ h
    | enter f args =>
      refine ⟨fun h => by simp [Fence.wide] at h, CallsIn.inRound lp ((callsIn_wide (n := 0)).2 (Calls.mono h ?_))⟩
      intro e w'' hh
      cases e with
      | returned v => exact hK _ _ hh
      | panicked ch => exact hh
      | outgrown => exact hh
    | row r args =>
      refine ⟨fun h => by simp [Fence.wide] at h, fun c cs _ => ?_⟩
      obtain ⟨v, w'', r, s⟩ := h c cs
      exact ⟨v, w'', hK _ _ r, stepsIn_wide.2 s⟩
    | _ => exact h.elim

theorem wpOpsIn_of_wpOps (hd : ∀ (i : Nat) o, ops[i]? = some o → ∀ cl, o.op ≠ .defer cl) (hq : ¬ LetsOut Q) (lp : Nat) : ∀ (l : List Nat) (a : Act) (w : World), wpOps P ops Q l a w → wpOpsIn (Fence.wide.inRound lp) 0 P ops Q l a w
  | [], _, _, h => h
  | i :: rest, a, w, h => by
    simp only [wpOps] at h
    simp only [wpOpsIn]
    cases ho : ops[i]? with
    | none => simp only [ho] at h ⊢; exact wpOpsIn_of_wpOps hd hq lp rest a w h
    | some o =>
      simp only [ho] at h ⊢
      split
      · rename_i hw
        rw [if_pos hw] at h
        rcases h with h | ⟨_, h⟩
        · exact wpIn_of_wp (hd i o ho) (fun a w => wpOpsIn_of_wpOps hd hq lp rest a w) lp h
        · exact (hq h).elim
      · rename_i hw
        rw [if_neg hw] at h
        exact ⟨fun _ _ => trivial, wpOpsIn_of_wpOps hd hq lp rest _ w h⟩

def noDefers (ops : Array Oper) : Bool := ops.all fun o => match o.op with | .defer _ => false | _ => true
theorem noDefers_spec (h : noDefers ops = true) : ∀ (i : Nat) o, ops[i]? = some o → ∀ cl, o.op ≠ .defer cl := by
  intro i o ho cl e
  have hm : o ∈ ops := Array.mem_of_getElem? ho
  have := Array.all_eq_true'.1 h o hm
  rw [e] at this; cases this

/-- A region that draws its order, in a round: by the plain rules. -/
theorem region_round {id : Nat} {a : Act} {w : World} {lp : Nat} (hm : P.follows .mixedOrders = true) (hd : noDefers ops = true) (hq : ¬ LetsOut Q)
    (h : wpAny P .any ops Q ops.size (Array.replicate ops.size false) a w.drew) : (Code.region id ops true).wpIn (Fence.wide.inRound lp) 0 P Q a w :=
  wpIn_region_draw fun t => by
    simp only [Region.schedule, hm, Bool.true_or, if_true]
    exact wpOpsIn_of_wpOps (noDefers_spec hd) hq lp _ _ _ (wpAny_sound ops.size t _ a _ h)

theorem region_roundH {S : World → Prop} {id : Nat} {a : Act} {w : World} {lp : Nat} (hm : P.follows .mixedOrders = true) (hd : noDefers ops = true) (hq : ¬ LetsOut Q)
    (h : wpAnyH P .any ops Q S ops.size (Array.replicate ops.size false) a w.drew) : (Code.region id ops true).wpIn (Fence.wide.inRound lp) 0 P Q a w :=
  region_round hm hd hq (wpAny_of_held _ _ _ _ h)
end
end Go.Proofs.Ytcagfdmafelbkab
