/- Own library: a pair of ints that came in. -/
import Derived.Test.YtcagfdmafelbkabIn
import Derived.Test.YtcagfdmafelbkabPiv8
import Derived.ProofKit
import Derived.OpenShut
set_option linter.unusedVariables false
set_option linter.unusedSimpArgs false
namespace Go.Proofs.Ytcagfdmafelbkab
open Go.RowKit Go.ChangeShapes Go.WideShapes Go.ChangeAt

theorem has_wf {a : Int} (h : (Lit.int .i64 a).wf = true) : IntKind.i64.has a := by simpa [Lit.wf, IntKind.has] using h

theorem TIn.pair : TIn Try.prog 36 TPair := by
  intro H enc w spare held fuel vs x h
  obtain ⟨xs, n, _, _, hlen, hxs, hf⟩ := DataW.trod_array Try.underlying36 h
  rw [show Try.prog.cellsOf 36 = 2 by kernel_rfl] at hlen
  have c1 : Try.prog.cellsOf 3 = 1 := by kernel_rfl
  obtain ⟨v0, v1, rfl⟩ : ∃ a b, vs = [a, b] := by
    rcases vs with _ | ⟨a, _ | ⟨b, _ | ⟨c, l⟩⟩⟩ <;> simp at hlen
    exact ⟨a, b, rfl⟩
  have g0 := hf 0 (by decide)
  have g1 := hf 1 (by decide)
  clear hf
  generalize Try.prog.cellsOf 3 = cc at c1 g0 g1
  subst c1
  simp only [Nat.zero_mul, Nat.one_mul, List.drop_zero, List.take_succ_cons, List.take_zero, List.drop_succ_cons] at g0 g1
  have hs : ∀ i, i < 2 → ∃ z, xs[i]? = some z := fun i hi => ⟨xs[i]'(by rw [hxs]; exact hi), by rw [List.getElem?_eq_getElem]⟩
  obtain ⟨z0, e0⟩ := hs 0 (by decide)
  obtain ⟨z1, e1⟩ := hs 1 (by decide)
  rw [e0] at g0; rw [e1] at g1
  obtain ⟨n0, a0, _, h0⟩ := DataW.trod_int Try.underlying3 g0
  obtain ⟨n1, a1, _, h1⟩ := DataW.trod_int Try.underlying3 g1
  simp only [List.cons.injEq, and_true] at a0 a1
  subst a0 a1
  exact ⟨(n0, n1), rfl, has_wf h0, has_wf h1⟩

end Go.Proofs.Ytcagfdmafelbkab
