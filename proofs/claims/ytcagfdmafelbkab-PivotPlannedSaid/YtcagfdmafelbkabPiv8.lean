/- Pivot: pairs as keys of a map; the function that tells whether a step holds. -/
import Derived.Test.YtcagfdmafelbkabPivP
import Derived.Test.YtcagfdmafelbkabMapL
import Derived.Test.YtcagfdmafelbkabRngS
set_option linter.unusedVariables false
set_option linter.unusedSimpArgs false
namespace Go.Proofs.Ytcagfdmafelbkab
open Go.RowKit Go.WideMaps

def pairV (p : Pair) : Value := .agg #[.int .i64 p.1, .int .i64 p.2]
def unitV (_ : Unit) : Value := .agg #[]

def TPair : Ty Pair where
  n := 2
  rd := fun _ _ _ vs p => vs = [.int .i64 p.1, .int .i64 p.2] ∧ IntKind.i64.has p.1 ∧ IntKind.i64.has p.2
  len := by rintro _ _ _ _ _ ⟨rfl, _⟩; rfl
  one := by rintro _ _ _ _ _ ⟨rfl, _⟩ u hu; simp at hu; rcases hu with rfl | rfl <;> rfl
  keep := by rintro _ _ _ _ _ _ _ _ _ _ h; exact h
  turn := by rintro _ _ _ _ _ _ h; exact h

theorem pair_at {c : Col} {k k2 : Nat} {w : World} {g off cap len : Nat} {l : List Pair} (h : Sl TPair c k k2 w (.slice (some ⟨g, off, none⟩) len cap) l) {j : Nat} {x : Pair} (hj : l[j]? = some x) :
    w.cell? ⟨g, off + j * 2, none⟩ = some (.int .i64 x.1) ∧ w.cell? ⟨g, off + j * 2 + 1, none⟩ = some (.int .i64 x.2) ∧ IntKind.i64.has x.1 ∧ IntKind.i64.has x.2 := by
  obtain ⟨vs, ⟨rfl, r1, r2⟩, h2⟩ := h.at hj
  exact ⟨h2.get 0 rfl, h2.get 1 rfl, r1, r2⟩

theorem pairV_inj : ∀ p q : Pair, pairV p = pairV q → p = q := by
  rintro ⟨a, b⟩ ⟨c, d⟩ h
  simp [pairV] at h
  exact Prod.ext h.1 h.2

theorem pairLaw : KeyLaw Try.prog 36 := deep_law_gate (by kernel_rfl) (of_decide_eq_true (by kernel_rfl)) (of_decide_eq_true (by kernel_rfl)) (by kernel_rfl) (by kernel_rfl)

theorem pair_key {p : Pair} (h1 : IntKind.i64.has p.1) (h2 : IntKind.i64.has p.2) : ∃ l, keyOf Try.prog 36 (pairV p) = some l := by
  have w1 : (Lit.int .i64 p.1).wf = true := by simpa [Lit.wf, IntKind.has] using h1
  have w2 : (Lit.int .i64 p.2).wf = true := by simpa [Lit.wf, IntKind.has] using h2
  have c1 : Try.prog.cellsOf 3 = 1 := by kernel_rfl
  have c2 : Try.prog.cellsOf 36 = 2 := by kernel_rfl
  obtain ⟨m, hm⟩ : ∃ m, Try.prog.types.size = m + 1 := ⟨Try.prog.types.size - 1, by have : 1 ≤ Try.prog.types.size := of_decide_eq_true (by kernel_rfl); omega⟩
  unfold keyOf
  rw [Try.underlying36]
  have f1 : (Try.prog.keyType 36 && (pairV p).formed Try.prog 36) = true := by
    rw [Bool.and_eq_true]; exact ⟨by kernel_rfl, by simp [Value.formed, pairV, Try.underlying36, c2]⟩
  simp only [f1, if_true, hm]
  refine ⟨.string (keyBytes [.int .i64 p.1, .int .i64 p.2]), ?_⟩
  have e : Try.prog.keyLits (m + 1 + 1) 36 (pairV p).cells.toList = some [.int .i64 p.1, .int .i64 p.2] := by
    simp [Program.keyLits, Try.underlying36, Try.underlying3, pairV, Value.cells, c1, c2, List.range_succ, w1, w2]
  rw [e]; rfl

/-- Whether a pair is one of some, as a map tells it. -/
def setOf (l : List Pair) (p : Pair) : Option Unit := if p ∈ l then some () else none

section
variable {c : Col} {w : World} {k B mb n : Nat} {l : List Pair}

abbrev IsPairs (c : Col) (k : Nat) (w : World) (b : Nat) (l : List Pair) (n : Nat) : Prop := IsMap Try.prog 36 pairV unitV c k w b (setOf l) n

theorem plan1_any (hok : Ok c w) (h0 : w.cell? ⟨B, 0, none⟩ = some (.map (some mb))) (hm : IsPairs c k w mb l n) (a b : Int) (ha : IntKind.i64.has a) (hb : IntKind.i64.has b) :
    Calls Try.prog 32 #[.int .i64 a, .int .i64 b, .pointer (some ⟨B, 0, none⟩)] w fun r w' => r = .returned (.bool (decide ((a, b) ∈ l))) ∧ Step No c w c w' ∧ Ok c w' := by
  have hz : (zeroValue 61).run Try.prog w = .ok (.agg #[]) w := by simp [go_sem]
  have hl := hm.lookup (t := 59) pairLaw pairV_inj Try.underlying59 hz (a, b) (pair_key ha hb)
  have e1 : getV unitV (.agg #[]) (setOf l (a, b)) = .agg #[] := by unfold setOf; split <;> rfl
  have e2 : (setOf l (a, b)).isSome = decide ((a, b) ∈ l) := by
    unfold setOf; by_cases h : (a, b) ∈ l <;> simp [h]
  rw [e2, e1] at hl
  unfold pairV at hl
  dsimp only at hl
  obtain ⟨r, hr⟩ : ∃ r, decide ((a, b) ∈ l) = r := ⟨_, rfl⟩
  rw [hr] at hl ⊢
  clear e1 e2 hm hz hr
  go_enter Try.func32, Try.ntmps32
  go_wp2
  go_ret
  exact ⟨rfl, Step.refl.alloc _, hok.alloc _⟩
end
end Go.Proofs.Ytcagfdmafelbkab
