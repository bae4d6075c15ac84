/-
  The law LedgerNone: whatever the entry and the two numbers, the call returns true, and its arguments read as before. No condition.
-/
import Derived.Test.YtcagfdmafelbkaaLed11
import Derived.Test.YtcagfdmafelbkaaIn
import Derived.ProofKit
import Derived.OpenShut
import Derived.ShutString
import Derived.ChangeOld
namespace Go.Proofs.Ytcagfdmafelbkaa.ledgerNone
open Go.ChangeShapes Go.WideShapes Go.ChangeAt Go.RowKit
open Go.Proofs.Ytcagfdmafelbkaa
set_option linter.unusedVariables false

theorem own : ownKnob Try.prog.godebug = none := by kernel_rfl
theorem laidOut : laidOutB Try.prog = true := by kernel_rfl

theorem list6 {β : Type} {l : List β} (h : l.length = 6) : ∃ a b c d e f, l = [a, b, c, d, e, f] := by
  rcases l with _ | ⟨a, _ | ⟨b, _ | ⟨c, _ | ⟨d, _ | ⟨e, _ | ⟨f, _ | ⟨g, l⟩⟩⟩⟩⟩⟩⟩ <;> simp at h
  exact ⟨a, b, c, d, e, f, rfl⟩

theorem TIn.entry : TIn Try.prog 34 TEntry := by
  intro H enc w spare held fuel vs x h
  obtain ⟨xs, n, _, _, hlen, hxs, hf⟩ := DataW.trod_struct Try.underlying34 h
  rw [show Try.prog.cellsOf 34 = 6 by kernel_rfl] at hlen
  have c1 : Try.prog.cellsOf 3 = 1 := by kernel_rfl
  have c2 : Try.prog.cellsOf 32 = 1 := by kernel_rfl
  obtain ⟨v0, v1, v2, v3, v4, v5, rfl⟩ := list6 hlen
  have g0 := hf 0 (Field.mk _ 3 0 _ _ _ _) rfl
  dsimp only at g0
  rw [c1] at g0
  have g1 := hf 1 (Field.mk _ 3 1 _ _ _ _) rfl
  dsimp only at g1
  rw [c1] at g1
  have g2 := hf 2 (Field.mk _ 3 2 _ _ _ _) rfl
  dsimp only at g2
  rw [c1] at g2
  have g3 := hf 3 (Field.mk _ 3 3 _ _ _ _) rfl
  dsimp only at g3
  rw [c1] at g3
  have g4 := hf 4 (Field.mk _ 3 4 _ _ _ _) rfl
  dsimp only at g4
  rw [c1] at g4
  have g5 := hf 5 (Field.mk _ 32 5 _ _ _ _) rfl
  dsimp only at g5
  rw [c2] at g5
  simp only [List.drop_zero, List.take_succ_cons, List.take_zero, List.drop_succ_cons] at g0 g1 g2 g3 g4 g5
  have hs : ∀ i, i < 6 → ∃ z, xs[i]? = some z := fun i hi => ⟨xs[i]'(by rw [hxs]; exact hi), by rw [List.getElem?_eq_getElem]⟩
  obtain ⟨z0, e0⟩ := hs 0 (by decide)
  obtain ⟨z1, e1⟩ := hs 1 (by decide)
  obtain ⟨z2, e2⟩ := hs 2 (by decide)
  obtain ⟨z3, e3⟩ := hs 3 (by decide)
  obtain ⟨z4, e4⟩ := hs 4 (by decide)
  obtain ⟨z5, e5⟩ := hs 5 (by decide)
  rw [e0] at g0; rw [e1] at g1; rw [e2] at g2; rw [e3] at g3; rw [e4] at g4; rw [e5] at g5
  obtain ⟨n0, a0, _⟩ := DataW.trod_int Try.underlying3 g0
  obtain ⟨n1, a1, _⟩ := DataW.trod_int Try.underlying3 g1
  obtain ⟨n2, a2, _⟩ := DataW.trod_int Try.underlying3 g2
  obtain ⟨n3, a3, _⟩ := DataW.trod_int Try.underlying3 g3
  obtain ⟨n4, a4, _⟩ := DataW.trod_int Try.underlying3 g4
  obtain ⟨v, l, a5, hl⟩ := slice_in Try.underlying32 (TIn.byte Try.underlying5) (by kernel_rfl) (by decide) g5
  simp only [List.cons.injEq, and_true] at a0 a1 a2 a3 a4 a5
  subst a0 a1 a2 a3 a4 a5
  exact ⟨⟨n0, n1, n2, n3, n4, l⟩, _, rfl, hl⟩

set_option maxRecDepth 100000 in
theorem lifted (os : Os) (started : os.Started) (H : Type) (enc : TypeId × Value → H) :
    ReturnsInHanded {} Try.checked os 4 .any (Rows.ledgerNoneSpec.pre6 enc Try.prog Try.f4 Rows.ledgerNoneRow.domain false) (Rows.ledgerNoneSpec.post enc Try.prog Try.f4 false true false false) := by
  refine returnsInHanded_of_change (C := Try.checked) own started (by kernel_rfl) Try.func4
    (ChangeSpec.witness6 (enc := enc) (C := Try.checked) false ⟨#[], #[.agg #[.int .i64 0, .int .i64 0, .int .i64 0, .int .i64 0, .int .i64 0, .slice none 0 0], .int .i64 0, .int .i64 0], []⟩ 8 (by kernel_rfl) (by kernel_rfl) (by kernel_rfl) (by kernel_rfl)) ?_
  intro W base args ds gs before hval0 hW hcnd _
  have hval : ∀ (j : Nat) t v, Try.f4.params[j]? = some t → args[j]? = some v → Value.okWide Try.prog W .any base t v := hval0
  have hW' := hW
  obtain ⟨p, q, hA0, hV, rfl, hfz, hnd⟩ := hW
  have hA : DataW.TrodAll enc Try.prog W 0 (fun _ => true) true Try.f4.params.toList args.toList ds p := hA0
  rw [Try.params4] at hA hval
  obtain ⟨v0, vs0, d0, ds0, p0, q0, hargs, rfl, rfl, h0, r0⟩ := trodAll_cons hA
  obtain ⟨v1, vs1, d1, ds1, p1, q1, rfl, rfl, rfl, h1, r1⟩ := trodAll_cons r0
  obtain ⟨v2, vs2, d2, ds2, p2, q2, rfl, rfl, rfl, h2, r2⟩ := trodAll_cons r1
  obtain ⟨rfl, rfl, rfl⟩ := trodAll_nil r2
  obtain rfl : args = #[v0, v1, v2] := by cases args; simp_all
  obtain ⟨rfl, rfl⟩ := trodVars_none hV
  have k0 := h0
  have lt0 : ∀ x ∈ p0, x.block < W.heap.size := by obtain ⟨m, hm⟩ := k0; exact DataW.trod_lt m _ _ _ hm
  have s0 := hval 0 34 v0 rfl rfl
  obtain ⟨cs0, rfl⟩ : ∃ cs, v0 = .agg cs := by
    unfold Value.okWide at s0
    rw [Try.underlying34] at s0
    obtain ⟨cs, h, _⟩ := s0
    exact ⟨cs, h⟩
  obtain ⟨y0, w0⟩ : ∃ y, TEntry.rd (fun _ => 0) 0 W cs0.toList y := by
    obtain ⟨fuel, hf⟩ := h0
    exact TIn.entry enc W _ _ _ _ _ hf
  obtain ⟨a1, rfl, rfl, rfl, w1⟩ := open_int Try.underlying3 (hval 1 3 v1 rfl rfl) h1
  obtain ⟨a2, rfl, rfl, rfl, w2⟩ := open_int Try.underlying3 (hval 2 3 v2 rfl rfl) h2
  clear hA0 hval0
  refine (none_law w0 a1 a2).mono fun e W' ⟨he, bel⟩ => ?_
  subst he
  exact ⟨_, rfl, _, _, _, [], _, [], hW', trodAll_mk1 (shut_bool Try.underlying4 _), (trodAll_cons_mk (Below.trod laidOut (by kernel_rfl) (of_decide_eq_true (by kernel_rfl)) k0 bel lt0) (trodAll_cons_mk (shut_int Try.underlying3 w1) (trodAll_cons_mk (shut_int Try.underlying3 w2) trodAll_mk0))), rfl, bel.frame _, fun h => by cases h⟩

theorem over : Rows.ledgerNoneRow.holds Try.pinned (OpenSpec.ofChange Rows.ledgerNoneSpec) :=
  OpenClaim.holds_of_wide 4 Try.f4 rfl rfl rfl rfl rfl rfl rfl ⟨rfl, rfl, rfl, rfl, rfl⟩ rfl rfl rfl rfl rfl (by kernel_rfl) Try.func4 (by kernel_rfl)
    (of_decide_eq_true (by kernel_rfl)) (by unfold Func.isWrapper; first | (rw [if_pos (by decide +kernel)]; kernel_rfl) | (rw [if_neg (by decide +kernel)]; exact ⟨rfl, rfl⟩))
    (fun os started H enc _ => lifted os started H enc)

/-- The statement. -/
theorem proved : Rows.LedgerNoneSaid := over
#print axioms proved
end Go.Proofs.Ytcagfdmafelbkaa.ledgerNone
