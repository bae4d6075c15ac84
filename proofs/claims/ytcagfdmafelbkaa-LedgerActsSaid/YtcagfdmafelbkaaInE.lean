/- Own library: an entry that came in. -/
import Derived.Test.YtcagfdmafelbkaaRows
import Derived.Test.YtcagfdmafelbkaaIn
import Derived.Test.YtcagfdmafelbkaaLedD
import Derived.ProofKit
import Derived.OpenShut
namespace Go.Proofs.Ytcagfdmafelbkaa
open Go.RowKit Go.ChangeShapes Go.WideShapes Go.ChangeAt

theorem list6 {β : Type} {l : List β} (h : l.length = 6) : ∃ a b c d e f, l = [a, b, c, d, e, f] := by
  rcases l with _ | ⟨a, _ | ⟨b, _ | ⟨c, _ | ⟨d, _ | ⟨e, _ | ⟨f, _ | ⟨g, l⟩⟩⟩⟩⟩⟩⟩ <;> simp at h
  exact ⟨a, b, c, d, e, f, rfl⟩

theorem TIn.entry : TIn Try.prog 34 TEntry := by
  intro H enc w spare held fuel vs x h
  obtain ⟨xs, n, _, _, hlen, hxs, hf⟩ := DataW.trod_struct Try.underlying34 h
  rw [show Try.prog.cellsOf 34 = 6 by kernel_rfl] at hlen
  have c1 : Try.prog.cellsOf 3 = 1 := by kernel_rfl
  have c2 : Try.prog.cellsOf 32 = 1 := by kernel_rfl
  obtain ⟨v0, v1, v2, v3, v4, v5, rfl⟩ := list6 hlen
  have g0 := hf 0 (Field.mk _ 3 0 _ _ _ _) rfl
  dsimp only at g0
  rw [c1] at g0
  have g1 := hf 1 (Field.mk _ 3 1 _ _ _ _) rfl
  dsimp only at g1
  rw [c1] at g1
  have g2 := hf 2 (Field.mk _ 3 2 _ _ _ _) rfl
  dsimp only at g2
  rw [c1] at g2
  have g3 := hf 3 (Field.mk _ 3 3 _ _ _ _) rfl
  dsimp only at g3
  rw [c1] at g3
  have g4 := hf 4 (Field.mk _ 3 4 _ _ _ _) rfl
  dsimp only at g4
  rw [c1] at g4
  have g5 := hf 5 (Field.mk _ 32 5 _ _ _ _) rfl
  dsimp only at g5
  rw [c2] at g5
  simp only [List.drop_zero, List.take_succ_cons, List.take_zero, List.drop_succ_cons] at g0 g1 g2 g3 g4 g5
  have hs : ∀ i, i < 6 → ∃ z, xs[i]? = some z := fun i hi => ⟨xs[i]'(by rw [hxs]; exact hi), by rw [List.getElem?_eq_getElem]⟩
  obtain ⟨z0, e0⟩ := hs 0 (by decide)
  obtain ⟨z1, e1⟩ := hs 1 (by decide)
  obtain ⟨z2, e2⟩ := hs 2 (by decide)
  obtain ⟨z3, e3⟩ := hs 3 (by decide)
  obtain ⟨z4, e4⟩ := hs 4 (by decide)
  obtain ⟨z5, e5⟩ := hs 5 (by decide)
  rw [e0] at g0; rw [e1] at g1; rw [e2] at g2; rw [e3] at g3; rw [e4] at g4; rw [e5] at g5
  obtain ⟨n0, a0, _⟩ := DataW.trod_int Try.underlying3 g0
  obtain ⟨n1, a1, _⟩ := DataW.trod_int Try.underlying3 g1
  obtain ⟨n2, a2, _⟩ := DataW.trod_int Try.underlying3 g2
  obtain ⟨n3, a3, _⟩ := DataW.trod_int Try.underlying3 g3
  obtain ⟨n4, a4, _⟩ := DataW.trod_int Try.underlying3 g4
  obtain ⟨v, l, a5, hl⟩ := slice_in Try.underlying32 (TIn.byte Try.underlying5) (by kernel_rfl) (by decide) g5
  simp only [List.cons.injEq, and_true] at a0 a1 a2 a3 a4 a5
  subst a0 a1 a2 a3 a4 a5
  exact ⟨⟨n0, n1, n2, n3, n4, l⟩, _, rfl, hl⟩

end Go.Proofs.Ytcagfdmafelbkaa
