/- Own library, second part: short forms. -/
import Derived.Test.YtcagfdmafelbkabLib
set_option linter.unusedVariables false
set_option linter.unusedSimpArgs false
namespace Go.Proofs.Ytcagfdmafelbkab
open Go.RowKit

theorem Ty.kn {α : Type} {T : Ty α} {c c' : Col} {w w' : World} {k : Nat} {vs : List Value} {x : α} (h : T.rd c k w vs x) (hs : Step No c w c' w') : T.rd c' k w' vs x := T.keep hs (fun h => h) h
theorem Sl.kn {α : Type} {T : Ty α} {c c' : Col} {w w' : World} {k k2 : Nat} {v : Value} {l : List α} (h : Sl T c k k2 w v l) (hs : Step No c w c' w') : Sl T c' k k2 w' v l := h.keep hs (fun h => h) (fun h => h)
theorem Own.kn {α : Type} {T : Ty α} {e : TypeId} {c c' : Col} {w w' : World} {k k2 : Nat} {v : Value} {l : List α} (h : Own T e c k k2 w v l) (hs : Step No c w c' w') : Own T e c' k k2 w' v l := h.keep hs (fun h => h) (fun h => h)
theorem Step.al {c : Col} {w : World} (o : Obj) : Step No c w c (w.alloc o) := Step.refl.alloc o
theorem Step.rf {c : Col} {w : World} : Step No c w c w := Step.refl
theorem CellsAt.kn {c c' : Col} {w w' : World} (hs : Step No c w c' w') {b off : Nat} {vs : List Value} (hb : b < w.heap.size) (hc : CellsAt w b off vs) : CellsAt w' b off vs := hc.keep hs hb (fun h => h)

/-- A result built with two colours of its own is handed out in any two colours. -/
theorem Own.out2 {α : Type} {T : Ty α} {e : TypeId} {c c1 : Col} {w w1 : World} {q q2 : Nat} {v : Value} {l : List α} (h : Own T e c1 q q2 w1 v l) (hs : Step (Two q q2) c w c1 w1) (ho : Ok c1 w1) (hq : ∀ b, c b ≠ q) (hq2 : ∀ b, c b ≠ q2) (h0 : q ≠ 0) (h02 : q2 ≠ 0) (hqq : q2 ≠ q)
    (k k2 : Nat) (hkq : k ≠ q2) : ∃ c', Own T e c' k k2 w1 v l ∧ Step No c w c' w1 ∧ Ok c' w1 :=
  ⟨(c1.turn q k).turn q2 k2, (h.turn hqq).turn2 hkq, ((hs.turn (.inl rfl)).turn (.inr rfl)).own2 hq hq2, (ho.turn h0).turn h02⟩

theorem Own.out1 {α : Type} {T : Ty α} {e : TypeId} {c c1 : Col} {w w1 : World} {q k2 : Nat} {v : Value} {l : List α} (h : Own T e c1 q k2 w1 v l) (hs : Step (One q) c w c1 w1) (ho : Ok c1 w1) (hq : ∀ b, c b ≠ q) (h0 : q ≠ 0) (hqq : k2 ≠ q)
    (k : Nat) : ∃ c', Own T e c' k k2 w1 v l ∧ Step No c w c' w1 ∧ Ok c' w1 :=
  ⟨c1.turn q k, h.turn hqq, (hs.turn rfl).own hq, ho.turn h0⟩
end Go.Proofs.Ytcagfdmafelbkab
