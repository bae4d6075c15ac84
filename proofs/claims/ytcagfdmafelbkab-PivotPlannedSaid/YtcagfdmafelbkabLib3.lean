/- Own library: slices of plain values. -/
import Derived.Test.YtcagfdmafelbkabRow
set_option linter.unusedVariables false
set_option linter.unusedSimpArgs false
namespace Go.Proofs.Ytcagfdmafelbkab
open Go.RowKit

/-- A slice that is not empty: its row. -/
theorem Sl.ex {α : Type} {T : Ty α} {c : Col} {k k2 : Nat} {w : World} {v : Value} {l : List α} (h : Sl T c k k2 w v l) (hl : 0 < l.length) : ∃ b off cap, v = .slice (some ⟨b, off, none⟩) l.length cap ∧ l.length ≤ cap ∧ cap ≤ maxLen ∧ c b = k ∧ b < w.heap.size := by
  rcases h with ⟨rfl, _⟩ | ⟨b, off, cap, hv, h1, h2, h3, h4, _⟩
  · simp at hl
  · exact ⟨b, off, cap, hv, h1, h2, h3, h4⟩

/-- Values without anything behind them: n cells each, laid out by f. -/
def TPlain {α : Type} (n : Nat) (f : α → List Value) (hl : ∀ x, (f x).length = n) (h1 : ∀ x, ∀ u ∈ f x, u.oneCell' = true) : Ty α where
  n := n
  rd := fun _ _ _ vs x => vs = f x
  len := by rintro _ _ _ _ x rfl; exact hl x
  one := by rintro _ _ _ _ x rfl; exact h1 x
  keep := by rintro _ _ _ _ _ _ _ _ _ _ h; exact h
  turn := by rintro _ _ _ _ _ _ h; exact h

/-- The cells of element j. -/
theorem Sl.at {α : Type} {T : Ty α} {c : Col} {k k2 : Nat} {w : World} {g off cap len : Nat} {l : List α} (h : Sl T c k k2 w (.slice (some ⟨g, off, none⟩) len cap) l) {j : Nat} {x : α} (hj : l[j]? = some x) :
    ∃ vs, T.rd c k2 w vs x ∧ CellsAt w g (off + j * T.n) vs := by
  rcases h with ⟨rfl, _⟩ | ⟨g', off', cap', hv, h1, h2, h3, h4, h5⟩
  · simp at hj
  · cases hv; exact h5 j x hj

theorem CellsAt.get {w : World} {b off : Nat} {vs : List Value} (h : CellsAt w b off vs) (j : Nat) {u : Value} (hj : vs[j]? = some u) : w.cell? ⟨b, off + j, none⟩ = some u := h j u hj
end Go.Proofs.Ytcagfdmafelbkab
