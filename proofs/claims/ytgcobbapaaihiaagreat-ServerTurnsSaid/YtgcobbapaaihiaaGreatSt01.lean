/- ServerTurns, part 01: lemmas, each with its own conditions. -/
import Derived.Test.YtgcobbapaaihiaaGreatSt00
import Derived.RangeFuncNested
import Derived.RangeFuncBound
import Derived.RangeFuncCalls
import Derived.RangeFuncLeaves
import Derived.OwnWalkIn
import Derived.TacticsInMore
import Derived.LoopNIn
import Derived.LoopIn
import Derived.Shelf.RegionOpen
import Derived.Shelf.Abstract
import Derived.Deep.RegionHeld3
set_option linter.unusedVariables false
set_option linter.unusedSimpArgs false
namespace Go.Proofs.YtgcobbapaaihiaaGreat
open Go.RowKit

theorem Ty.kn {α : Type} {T : Ty α} {c c' : Col} {w w' : World} {k : Nat} {vs : List Value} {x : α} (h : T.rd c k w vs x) (hs : Step No c w c' w') : T.rd c' k w' vs x := T.keep hs (fun h => h) h
theorem Sl.kn {α : Type} {T : Ty α} {c c' : Col} {w w' : World} {k k2 : Nat} {v : Value} {l : List α} (h : Sl T c k k2 w v l) (hs : Step No c w c' w') : Sl T c' k k2 w' v l := h.keep hs (fun h => h) (fun h => h)
theorem Own.kn {α : Type} {T : Ty α} {e : TypeId} {c c' : Col} {w w' : World} {k k2 : Nat} {v : Value} {l : List α} (h : Own T e c k k2 w v l) (hs : Step No c w c' w') : Own T e c' k k2 w' v l := h.keep hs (fun h => h) (fun h => h)
theorem Step.al {c : Col} {w : World} (o : Obj) : Step No c w c (w.alloc o) := Step.refl.alloc o
theorem Step.rf {c : Col} {w : World} : Step No c w c w := Step.refl
theorem CellsAt.kn {c c' : Col} {w w' : World} (hs : Step No c w c' w') {b off : Nat} {vs : List Value} (hb : b < w.heap.size) (hc : CellsAt w b off vs) : CellsAt w' b off vs := hc.keep hs hb (fun h => h)

/-- A result built with two colours of its own is handed out in any two colours. -/
theorem Own.out2 {α : Type} {T : Ty α} {e : TypeId} {c c1 : Col} {w w1 : World} {q q2 : Nat} {v : Value} {l : List α} (h : Own T e c1 q q2 w1 v l) (hs : Step (Two q q2) c w c1 w1) (ho : Ok c1 w1) (hq : ∀ b, c b ≠ q) (hq2 : ∀ b, c b ≠ q2) (h0 : q ≠ 0) (h02 : q2 ≠ 0) (hqq : q2 ≠ q)
    (k k2 : Nat) (hkq : k ≠ q2) : ∃ c', Own T e c' k k2 w1 v l ∧ Step No c w c' w1 ∧ Ok c' w1 :=
  ⟨(c1.turn q k).turn q2 k2, (h.turn hqq).turn2 hkq, ((hs.turn (.inl rfl)).turn (.inr rfl)).own2 hq hq2, (ho.turn h0).turn h02⟩

theorem Own.out1 {α : Type} {T : Ty α} {e : TypeId} {c c1 : Col} {w w1 : World} {q k2 : Nat} {v : Value} {l : List α} (h : Own T e c1 q k2 w1 v l) (hs : Step (One q) c w c1 w1) (ho : Ok c1 w1) (hq : ∀ b, c b ≠ q) (h0 : q ≠ 0) (hqq : k2 ≠ q)
    (k : Nat) : ∃ c', Own T e c' k k2 w1 v l ∧ Step No c w c' w1 ∧ Ok c' w1 :=
  ⟨c1.turn q k, h.turn hqq, (hs.turn rfl).own hq, ho.turn h0⟩
end Go.Proofs.YtgcobbapaaihiaaGreat

set_option linter.unusedVariables false
set_option linter.unusedSimpArgs false
namespace Go.Proofs.YtgcobbapaaihiaaGreat
open Go.RowKit

section
variable {K K' : Nat → Prop} {c c' c'' : Col} {w w' w'' : World}

theorem Step.putObj (h : Step K c w c' w') {b : Nat} (hb : w.heap.size ≤ b ∨ K (c b)) (o : Obj) : Step K c w c' (w'.putObj b o) :=
  ⟨h.os, h.tape, h.output, by simpa using h.size, fun j hj hk => by
    rw [World.putObj_heap_other (by rintro rfl; rcases hb with hb | hb; · omega
                                    · exact hk hb)]; exact h.block j hj hk, h.col⟩

theorem Ok.putObj (h : Ok c w) (b : Nat) {o : Obj} (ho : ∀ a, a.block = b → (w.putObj b o).frozen? a = false) : Ok c (w.putObj b o) :=
  ⟨fun j hj => h.fresh j (by simpa using hj), fun j off hc => by
    by_cases e : j = b
    · exact ho _ e
    · rw [World.frozen?_of_block (w := w) (a := ⟨j, off, none⟩) (World.putObj_heap_other e)]; exact h.soft j off hc⟩

theorem frozen_loop {w : World} {b : Nat} {l : Loop} (a : Addr) (ha : a.block = b) : (w.putObj b (.loop l)).frozen? a = false := by
  by_cases h : b < w.heap.size
  · simp [World.frozen?, ha, World.putObj_heap_same h]
  · have : (w.putObj b (.loop l)).heap[b]? = none := by simp [World.putObj]; omega
    simp [World.frozen?, ha, this]
theorem frozen_def {w : World} {b : Nat} {l : Option (List Deferred)} (a : Addr) (ha : a.block = b) : (w.putObj b (.deferred l)).frozen? a = false := by
  by_cases h : b < w.heap.size
  · simp [World.frozen?, ha, World.putObj_heap_same h]
  · have : (w.putObj b (.deferred l)).heap[b]? = none := by simp [World.putObj]; omega
    simp [World.frozen?, ha, this]

theorem Step.joinL {A B : Nat → Prop} (h : Step A c w c' w') : Step (fun j => A j ∨ B j) c w c' w' := h.mono fun _ x => .inl x
theorem Step.joinR {A B : Nat → Prop} (h : Step B c w c' w') : Step (fun j => A j ∨ B j) c w c' w' := h.mono fun _ x => .inr x
end

/-- K, and one colour more. -/
def And1 (K : Nat → Prop) (k : Nat) : Nat → Prop := fun j => K j ∨ j = k

/-- What an iterator's function promises: it hands out the elements of xs, in order, till a round says 'no more'. -/
def Iter {α : Type} (P : Program) (gf : Nat) (lb : Array Value) (K : Nat → Prop) (c : Col) (w : World) (A : α → Col → World → Array Value → Prop) (xs : List α) : Prop :=
  ∀ (l : Nat) (J Jx : List α → Col → World → Prop) (c0 : Col) (W0 : World), Step K c w c0 W0 → Ok c0 W0 →
    (∀ pre c1 W1 c2 W2, J pre c1 W1 → Step No c1 W1 c2 W2 → Ok c2 W2 → J pre c2 W2) →
    (∀ pre c1 W1 c2 W2, Jx pre c1 W1 → Step No c1 W1 c2 W2 → Ok c2 W2 → Jx pre c2 W2) →
    (∀ pre x c1 W1 ar, (pre ++ [x]) <+: xs → J pre c1 W1 → Ok c1 W1 → Step K c w c1 W1 → A x c1 W1 ar →
      YieldAt Fence.wide 0 P l ar W1 fun e W' => ∃ c', Ok c' W' ∧ Step K c1 W1 c' W' ∧ ((e = .returned (.bool true) ∧ J (pre ++ [x]) c' W') ∨ (e = .returned (.bool false) ∧ Jx (pre ++ [x]) c' W'))) →
    J [] c0 W0 →
    CallsIn Fence.wide 0 P gf (#[.func (.yield l) #[] #[]] ++ lb) W0 fun e W' => (∃ v, e = .returned v) ∧ ∃ c', Ok c' W' ∧ Step K c0 W0 c' W' ∧ (J xs c' W' ∨ ∃ pre, pre <+: xs ∧ Jx pre c' W')

/-- How a round's body may be left. -/
def bodyQ {α : Type} (K : Nat → Prop) (I : List α → Col → World → Prop) (Ix : Code → List α → Col → World → Prop) (pre : List α) (c : Col) (W : World) : Exit → Act → World → Prop
  | .normal, _, W' => ∃ c', Ok c' W' ∧ Step K c W c' W' ∧ I pre c' W'
  | .ret, _, W' => ∃ c', Ok c' W' ∧ Step K c W c' W' ∧ Ix .ret pre c' W'
  | .exit id, _, W' => ∃ c', Ok c' W' ∧ Step K c W c' W' ∧ Ix (.exit id) pre c' W'
  | .goto t, _, W' => ∃ c', Ok c' W' ∧ Step K c W c' W' ∧ Ix (.goto t) pre c' W'
  | .panic _, _, _ => False
  | .outgrown, _, _ => False

theorem wp_range {P : Program} {Q : Exit → Act → World → Prop} {a : Act} {c : Col} {w : World} (hok : Ok c w) {g : Operand} {ps : Array Tmp} {assign body : Code} {gf : Nat} {lb : Array Value}
    (hg : a.eval g = .func (.func gf) #[] lb) (eg : ∀ args w, (callFunc gf args).run P w = .ok (.enter gf args) w)
    {α : Type} {A : α → Col → World → Array Value → Prop} {xs : List α} {K : Nat → Prop} (kl : Nat) (hkl : ∀ b, c b ≠ kl) (hkl0 : kl ≠ 0) (hKl : ¬ K kl)
    (hseq : Iter P gf lb (And1 K kl) c w A xs) (hps : ∀ x c1 W ar, A x c1 W ar → ar.size = ps.size)
    (I : List α → Col → World → Prop) (Ix : Code → List α → Col → World → Prop) (B : List α → α → Act → Col → World → Prop)
    (hI : ∀ pre c1 W1 c2 W2, I pre c1 W1 → Step (One kl) c1 W1 c2 W2 → Ok c2 W2 → I pre c2 W2)
    (hIx : ∀ j pre c1 W1 c2 W2, Ix j pre c1 W1 → Step (One kl) c1 W1 c2 W2 → Ok c2 W2 → Ix j pre c2 W2)
    (hB : ∀ pre x a1 c1 W1 c2 W2, B pre x a1 c1 W1 → Step (One kl) c1 W1 c2 W2 → Ok c2 W2 → B pre x a1 c2 W2)
    (h0 : I [] c w)
    (hassign : ∀ l pre x c1 W1 ar, (pre ++ [x]) <+: xs → I pre c1 W1 → Ok c1 W1 → Step (And1 K kl) c w c1 W1 → A x c1 W1 ar → ∀ KK : Act → World → Prop,
      (∀ a1 c2 W2, Ok c2 W2 → Step K c1 W1 c2 W2 → B pre x a1 c2 W2 → KK a1 W2) →
      assign.wpIn (Fence.wide.inRound l) 0 P (Exit.then KK (fun _ _ _ => False)) { tmps := (ps.zip ar).foldl (fun t (p, v) => t.setIfInBounds p v) a.tmps, defers := [] } W1)
    (hbody : ∀ l pre x a1 c2 W2, B pre x a1 c2 W2 → Ok c2 W2 → body.wpIn (Fence.wide.inRound l) 0 P (bodyQ K I Ix (pre ++ [x]) c2 W2) a1 W2)
    (hdone : ∀ D c' W', I xs c' W' → Ok c' W' → Step (And1 K kl) c w c' W' → W'.heap[D]? = some (.deferred (some [])) → w.heap.size ≤ D → c' D = kl →
      Q .normal { a with defers := { target := .collected D, args := #[] } :: a.defers } W')
    (hstop : ∀ D j pre c' W', pre <+: xs → Ix j pre c' W' → Ok c' W' → Step (And1 K kl) c w c' W' → W'.heap[D]? = some (.deferred (some [])) → w.heap.size ≤ D → c' D = kl →
      j.wp P Q { a with defers := { target := .collected D, args := #[] } :: a.defers } W') :
    (Code.rangeFunc g ps assign body).wp P Q a w := by
  rw [← wpIn_wide (n := 0)]
  refine wpIn_rangeFunc ?_
  intro fn hfn
  obtain ⟨rec, hrec⟩ : ∃ rec : LoopState → Option Code → Loop, rec = fun st pe => { state := st, pending := pe, fn, tmps := a.tmps, params := ps, assign, body, defers := w.heap.size } := ⟨_, rfl⟩
  have hr1 : ∀ st pe, (rec st pe).state = st := by intro st pe; rw [hrec]
  have hr2 : ∀ st pe, (rec st pe).pending = pe := by intro st pe; rw [hrec]
  have hr3 : ∀ st pe, (rec st pe).params = ps := by intro st pe; rw [hrec]
  have hr4 : ∀ st pe, (rec st pe).fn = fn := by intro st pe; rw [hrec]
  have hr5 : ∀ st pe, (rec st pe).tmps = a.tmps := by intro st pe; rw [hrec]
  have hr6 : ∀ st pe, (rec st pe).assign = assign := by intro st pe; rw [hrec]
  have hr7 : ∀ st pe, (rec st pe).body = body := by intro st pe; rw [hrec]
  have hr8 : ∀ st pe st', { rec st pe with state := st' } = rec st' pe := by intro st pe st'; rw [hrec]
  have hr9 : ∀ st pe st' pe', { rec st pe with state := st', pending := pe' } = rec st' pe' := by intro st pe st' pe'; rw [hrec]
  obtain ⟨W1, hW1⟩ : ∃ W1, (w.alloc (.deferred (some []))).alloc (.loop (rec .ready none)) = W1 := ⟨_, rfl⟩
  obtain ⟨c1, hc1⟩ : ∃ c1, (c.put w.heap.size kl).put (w.heap.size + 1) kl = c1 := ⟨_, rfl⟩
  have hL1 : W1.heap[w.heap.size + 1]? = some (.loop (rec .ready none)) := by
    rw [← hW1]; have := World.alloc_heap_new (w.alloc (.deferred (some []))) (.loop (rec .ready none)); rwa [World.size_alloc] at this
  have hK1 : W1.heap[w.heap.size]? = some (.deferred (some [])) := by
    rw [← hW1]; exact (Below.heap_alloc _ _ _ (by simp)).trans (World.alloc_heap_new w _)
  have hS1 : Step No c w c1 W1 := by rw [← hW1, ← hc1]; exact (((Step.refl.alloc _).alloc _).put (.inl (Nat.le_refl _))).put (.inl (by omega))
  have hO1 : Ok c1 W1 := by
    rw [← hc1]
    refine Ok.put (Ok.put (by rw [← hW1]; exact (hok.alloc _).alloc _) (by rw [← hW1]; simp; omega) (fun o => by simp [World.frozen?, hK1])) (by rw [← hW1]; simp) (fun o => by simp [World.frozen?, hL1])
  have hcl : c1 (w.heap.size + 1) = kl := by rw [← hc1]; simp
  have hcd : c1 w.heap.size = kl := by rw [← hc1]; simp [Col.put]
  refine ⟨w.heap.size + 1, [{ target := .collected w.heap.size, args := #[] }], W1, { target := .fn (.func gf) lb, args := #[.func (.yield (w.heap.size + 1)) #[] #[]] }, W1, gf,
    #[.func (.yield (w.heap.size + 1)) #[] #[]] ++ lb, W1, ?_, ?_, ?_, ?_, fun h => by simp [Fence.wide] at h, ?_⟩
  · rw [← hW1, hrec]; exact run_enterLoop_outer _ _ _ _ _
  · simp only [resolve, hg]
    simp [go_sem]
  · intro f' _; trivial
  · simp [invoke, go_sem, eg]
  · let J : List α → Col → World → Prop := fun pre c2 W => I pre c2 W ∧ W.heap[w.heap.size + 1]? = some (.loop (rec .ready none)) ∧ W.heap[w.heap.size]? = some (.deferred (some [])) ∧ c2 (w.heap.size + 1) = kl ∧ c2 w.heap.size = kl
    let Jx : List α → Col → World → Prop := fun pre c2 W => ∃ j, Ix j pre c2 W ∧ W.heap[w.heap.size + 1]? = some (.loop (rec .done (some j))) ∧ W.heap[w.heap.size]? = some (.deferred (some [])) ∧ c2 (w.heap.size + 1) = kl ∧ c2 w.heap.size = kl
    have keepB : ∀ {KK : Nat → Prop} {c2 W2 c3 W3 o i}, Step KK c2 W2 c3 W3 → ¬ KK kl → c2 i = kl → W2.heap[i]? = some o → W3.heap[i]? = some o ∧ c3 i = kl := by
      intro KK c2 W2 c3 W3 o i hs hk hc hh
      have hlt := (Array.getElem?_eq_some_iff.1 hh).1
      exact ⟨(hs.block _ hlt (by rw [hc]; exact hk)).trans hh, (hs.col _ hlt (by rw [hc]; exact hk)).trans hc⟩
    have hSK : Step (And1 K kl) c w c1 W1 := hS1.ofNo
    refine (hseq (w.heap.size + 1) J Jx c1 W1 hSK hO1 ?_ ?_ ?_ ?_).mono ?_
    · rintro pre c2 W2 c3 W3 ⟨hi, hl, hd, e1, e2⟩ hs ho
      obtain ⟨a1, a2⟩ := keepB hs (fun h => h) e1 hl
      obtain ⟨b1, b2⟩ := keepB hs (fun h => h) e2 hd
      exact ⟨hI _ _ _ _ _ hi hs.ofNo ho, a1, b1, a2, b2⟩
    · rintro pre c2 W2 c3 W3 ⟨j, hi, hl, hd, e1, e2⟩ hs ho
      obtain ⟨a1, a2⟩ := keepB hs (fun h => h) e1 hl
      obtain ⟨b1, b2⟩ := keepB hs (fun h => h) e2 hd
      exact ⟨j, hIx _ _ _ _ _ _ hi hs.ofNo ho, a1, b1, a2, b2⟩
    · -- one round
      rintro pre x c2 W2 ar hpre ⟨hi, hl, hd, e1, e2⟩ ho hst hA
      have hlt : w.heap.size + 1 < W2.heap.size := (Array.getElem?_eq_some_iff.1 hl).1
      have hy := run_yield (P := P) (args := ar) hl (by rw [hr3]; exact hps x _ _ _ hA)
      rw [hr4, hr3, hr5, hr6, hr7] at hy
      refine ⟨fn, _, assign, body, hy, roundIn_of_wpIn hfn (hassign _ pre x c2 W2 ar hpre hi ho hst hA _ ?_)⟩
      intro a1 c3 W3 ho3 hs3 hb3
      obtain ⟨l3, k3⟩ := keepB hs3 hKl e1 hl
      obtain ⟨d3, kd3⟩ := keepB hs3 hKl e2 hd
      have hlt3 : w.heap.size + 1 < W3.heap.size := (Array.getElem?_eq_some_iff.1 l3).1
      refine ⟨_, run_beginRound l3 (hr1 _ _), ?_⟩
      rw [hr8]
      have hs4 : Step (One kl) c3 W3 c3 (W3.putObj (w.heap.size + 1) (.loop (rec .busy none))) := (Step.refl (K := One kl)).putObj (.inr k3) _
      have ho4 : Ok c3 (W3.putObj (w.heap.size + 1) (.loop (rec .busy none))) := ho3.putObj _ (fun a ha => frozen_loop a ha)
      have l4 : (W3.putObj (w.heap.size + 1) (.loop (rec .busy none))).heap[w.heap.size + 1]? = some (.loop (rec .busy none)) := World.putObj_heap_same hlt3
      have d4 : (W3.putObj (w.heap.size + 1) (.loop (rec .busy none))).heap[w.heap.size]? = some (.deferred (some [])) := (World.putObj_heap_other (by omega)).trans d3
      refine wpIn_mono (hbody _ pre x a1 c3 _ (hB _ _ _ _ _ _ _ hb3 hs4 ho4) ho4) ?_
      have fin : ∀ (jump : Option Code) (c5 : Col) (W5 : World), Ok c5 W5 → Step K c3 (W3.putObj (w.heap.size + 1) (.loop (rec .busy none))) c5 W5 →
          (Instr.endRound (w.heap.size + 1) jump).run P W5 = .ok (.bool jump.isNone) (W5.putObj (w.heap.size + 1) (.loop (rec (if jump.isNone then .ready else .done) jump))) ∧
          Step (One kl) c5 W5 c5 (W5.putObj (w.heap.size + 1) (.loop (rec (if jump.isNone then .ready else .done) jump))) ∧ Ok c5 (W5.putObj (w.heap.size + 1) (.loop (rec (if jump.isNone then .ready else .done) jump))) ∧
          (W5.putObj (w.heap.size + 1) (.loop (rec (if jump.isNone then .ready else .done) jump))).heap[w.heap.size + 1]? = some (.loop (rec (if jump.isNone then .ready else .done) jump)) ∧
          (W5.putObj (w.heap.size + 1) (.loop (rec (if jump.isNone then .ready else .done) jump))).heap[w.heap.size]? = some (.deferred (some [])) ∧ c5 (w.heap.size + 1) = kl ∧ c5 w.heap.size = kl ∧
          Step (And1 K kl) c2 W2 c5 (W5.putObj (w.heap.size + 1) (.loop (rec (if jump.isNone then .ready else .done) jump))) := by
        intro jump c5 W5 ho5 hs5
        obtain ⟨l5, k5⟩ := keepB hs5 hKl k3 l4
        obtain ⟨d5, kd5⟩ := keepB hs5 hKl kd3 d4
        have hrun := run_endRound (P := P) jump l5
        rw [hr9] at hrun
        have hs6 : Step (One kl) c5 W5 c5 (W5.putObj (w.heap.size + 1) (.loop (rec (if jump.isNone then .ready else .done) jump))) := (Step.refl (K := One kl)).putObj (.inr k5) _
        refine ⟨hrun, hs6, ho5.putObj _ (fun a ha => frozen_loop a ha), World.putObj_heap_same (Array.getElem?_eq_some_iff.1 l5).1, (World.putObj_heap_other (by omega)).trans d5, k5, kd5, ?_⟩
        exact ((hs3.mono (fun _ h => .inl h)).trans (hs4.mono (fun _ h => .inr h))).trans ((hs5.mono (fun _ h => .inl h)).trans (hs6.mono (fun _ h => .inr h)))
      rintro e a3 W5 hp
      cases e with
      | normal =>
        obtain ⟨c5, ho5, hs5, hi5⟩ := hp
        obtain ⟨f1, f2, f3, f4, f5, f6, f7, f8⟩ := fin none c5 W5 ho5 hs5
        exact ⟨_, _, f1, c5, f3, f8, .inl ⟨rfl, hI _ _ _ _ _ hi5 f2 f3, f4, f5, f6, f7⟩⟩
      | ret =>
        obtain ⟨c5, ho5, hs5, hi5⟩ := hp
        obtain ⟨f1, f2, f3, f4, f5, f6, f7, f8⟩ := fin (some .ret) c5 W5 ho5 hs5
        exact ⟨_, _, f1, c5, f3, f8, .inr ⟨rfl, .ret, hIx _ _ _ _ _ _ hi5 f2 f3, f4, f5, f6, f7⟩⟩
      | exit id =>
        obtain ⟨c5, ho5, hs5, hi5⟩ := hp
        obtain ⟨f1, f2, f3, f4, f5, f6, f7, f8⟩ := fin (some (.exit id)) c5 W5 ho5 hs5
        exact ⟨_, _, f1, c5, f3, f8, .inr ⟨rfl, .exit id, hIx _ _ _ _ _ _ hi5 f2 f3, f4, f5, f6, f7⟩⟩
      | goto t =>
        obtain ⟨c5, ho5, hs5, hi5⟩ := hp
        obtain ⟨f1, f2, f3, f4, f5, f6, f7, f8⟩ := fin (some (.goto t)) c5 W5 ho5 hs5
        exact ⟨_, _, f1, c5, f3, f8, .inr ⟨rfl, .goto t, hIx _ _ _ _ _ _ hi5 f2 f3, f4, f5, f6, f7⟩⟩
      | panic ch => exact hp.elim
      | outgrown => exact hp.elim
    · exact ⟨hI _ _ _ _ _ h0 hS1.ofNo hO1, hL1, hK1, hcl, hcd⟩
    · rintro e W2 ⟨⟨v, rfl⟩, c2, ho2, hs2, (⟨hi, hl, hd, e1, e2⟩ | ⟨pre, hpre, j, hi, hl, hd, e1, e2⟩)⟩
      · have hrun := run_endLoop (P := P) hl (by rw [hr1]; simp)
        rw [hr8, hr2] at hrun
        have hs3 : Step (One kl) c2 W2 c2 (W2.putObj (w.heap.size + 1) (.loop (rec .exhausted none))) := (Step.refl (K := One kl)).putObj (.inr e1) _
        have ho3 : Ok c2 (W2.putObj (w.heap.size + 1) (.loop (rec .exhausted none))) := ho2.putObj _ (fun a ha => frozen_loop a ha)
        exact ⟨none, _, hrun, hdone _ c2 _ (hI _ _ _ _ _ hi hs3 ho3) ho3 ((hSK.trans hs2).trans (hs3.mono fun _ h => .inr h)) ((World.putObj_heap_other (by omega)).trans hd) (Nat.le_refl _) e2⟩
      · have hrun := run_endLoop (P := P) hl (by rw [hr1]; simp)
        rw [hr8, hr2] at hrun
        have hs3 : Step (One kl) c2 W2 c2 (W2.putObj (w.heap.size + 1) (.loop (rec .exhausted (some j)))) := (Step.refl (K := One kl)).putObj (.inr e1) _
        have ho3 : Ok c2 (W2.putObj (w.heap.size + 1) (.loop (rec .exhausted (some j)))) := ho2.putObj _ (fun a ha => frozen_loop a ha)
        refine ⟨some j, _, hrun, ?_⟩
        show j.wpIn Fence.wide 0 P Q _ _
        rw [wpIn_wide]
        exact hstop _ j pre c2 _ hpre (hIx _ _ _ _ _ _ hi hs3 ho3) ho3 ((hSK.trans hs2).trans (hs3.mono fun _ h => .inr h)) ((World.putObj_heap_other (by omega)).trans hd) (Nat.le_refl _) e2

/-- Block b, of colour k, begins with these cells. -/
structure At (c : Col) (W : World) (b k : Nat) (vs : List Value) : Prop where
  col : c b = k
  lt : b < W.heap.size
  cells : CellsAt W b 0 vs

theorem At.keep {K : Nat → Prop} {c c' : Col} {W W' : World} {b k : Nat} {vs : List Value} (h : At c W b k vs) (hs : Step K c W c' W') (hk : ¬ K k) : At c' W' b k vs := by
  obtain ⟨rfl, h2, h3⟩ := h
  exact ⟨hs.col _ h2 hk, Nat.lt_of_lt_of_le h2 hs.size, h3.keep hs h2 hk⟩
theorem At.c0 {c : Col} {W : World} {b k : Nat} {v : Value} {vs : List Value} (h : At c W b k (v :: vs)) : W.cell? ⟨b, 0, none⟩ = some v := h.cells 0 v rfl
theorem At.fz {c : Col} {W : World} {b k : Nat} {vs : List Value} (h : At c W b k vs) (ho : Ok c W) (hk : k ≠ 0) (o : Nat) : W.frozen? ⟨b, o, none⟩ = false := ho.soft b o (by rw [h.col]; exact hk)
theorem At.set0 {c : Col} {W : World} {b k : Nat} {v u : Value} (h : At c W b k [v]) : At c (W.setCell ⟨b, 0, none⟩ u) b k [u] :=
  ⟨h.col, by rw [size_setCell]; exact h.lt, by
    intro j x hx
    have hj : j = 0 := by have := (List.getElem?_eq_some_iff.1 hx).1; simp at this; omega
    subst hj
    simp at hx; subst hx
    exact World.cell?_setCell_same' _ _ _ (by rw [show (⟨b, 0 + 0, none⟩ : Addr) = ⟨b, 0, none⟩ from rfl, h.c0]; rfl)⟩
theorem At.new {c : Col} {W : World} (vs : List Value) (e : TypeId) (k : Nat) : At (c.put W.heap.size k) (W.alloc (.cells vs.toArray e)) W.heap.size k vs :=
  ⟨by simp, by simp, cellsAt_new W vs e _⟩
theorem At.new0 {c : Col} {W : World} (hok : Ok c W) (vs : List Value) (e : TypeId) : At c (W.alloc (.cells vs.toArray e)) W.heap.size 0 vs :=
  ⟨hok.fresh _ (Nat.le_refl _), by simp, cellsAt_new W vs e _⟩
/-- A new block, of a colour. -/
theorem newAt {c : Col} {W : World} (hok : Ok c W) (vs : List Value) (e : TypeId) (k : Nat) : At (c.put W.heap.size k) (W.alloc (.cells vs.toArray e)) W.heap.size k vs ∧ Ok (c.put W.heap.size k) (W.alloc (.cells vs.toArray e)) ∧ Step No c W (c.put W.heap.size k) (W.alloc (.cells vs.toArray e)) :=
  ⟨At.new vs e k, (hok.alloc _).put (by simp) (fun o => by
    have hnew : (W.alloc (.cells vs.toArray e)).heap[W.heap.size]? = some (.cells vs.toArray e (0, 0)) := heap_alloc_new W _
    unfold World.frozen?; rw [hnew]; simp), (Step.refl.alloc _).put (.inl (Nat.le_refl _))⟩

/-- A function that holds a range over a function: its body walked ar everywhere, its end by 'leaveM'. -/
theorem calls_of_wp_marks {P : Program} {f : FuncId} {fn : Func} {cd : Code} {args : Array Value} {w : World} {R : Ending → World → Prop} (hf : P.funcs[f]? = some fn) (hb : fn.body = some cd)
    (h : cd.wp P (bodyPostM Fence.wide 0 P fn R) { tmps := args ++ Array.replicate (fn.ntmps - args.size) undef, defers := [] } w) : Calls P f args w R :=
  (callsIn_wide (n := 0)).1 (callsIn_of_wp_marks hf hb trivial (wpIn_wide.2 h))

theorem leaveM {P : Program} {fn : Func} {R : Ending → World → Prop} {a : Act} {W : World} {D : Nat} {v : Value} (hD : W.heap[D]? = some (.deferred (some []))) (ha : a.defers = [{ target := .collected D, args := #[] }])
    (hr : (results fn a.tmps).run P (W.putObj D (.deferred none)) = .ok v (W.putObj D (.deferred none))) (hR : R (.returned v) (W.putObj D (.deferred none))) :
    bodyPostM Fence.wide 0 P fn R .ret a W := by
  show LeavesInM _ _ _ _ _ _ a.defers _ _
  rw [ha]
  exact ⟨by simp, .inl ⟨_, _, rfl, run_takeDeferred hD, ⟨_, hr, hR⟩⟩⟩

theorem Sl.colour {α : Type} {T : Ty α} {c : Col} {k k2 : Nat} {w : World} {v : Value} {l : List α} (h : Sl T c k k2 w v l) : ∃ k', Sl T c k' k2 w v l ∧ (k' = 0 ∨ ∃ b, c b = k') := by
  rcases h with h | ⟨b, off, cap, hv, h1, h2, h3, h4⟩
  · exact ⟨0, .inl h, .inl rfl⟩
  · exact ⟨k, .inr ⟨b, off, cap, hv, h1, h2, h3, h4⟩, .inr ⟨b, h3⟩⟩
end Go.Proofs.YtgcobbapaaihiaaGreat

set_option linter.unusedVariables false
set_option linter.unusedSimpArgs false
namespace Go.Proofs.YtgcobbapaaihiaaGreat
open Go.RowKit

section
variable {P : Program} {ops : Array Oper} {Q : Exit → Act → World → Prop}

theorem wpIn_of_wp {o : Oper} (hd : ∀ cl, o.op ≠ .defer cl) {a : Act} {w : World} {K K' : Act → World → Prop} (hK : ∀ a w, K a w → K' a w) (lp : Nat) (h : o.wp P a w K Q) : o.wpIn (Fence.wide.inRound lp) 0 P a w K' Q := by
  refine ⟨fun _ _ => trivial, ?_⟩
  rw [Oper.semAt_eq _ _ _ hd]
  unfold Oper.wp at h
  cases hr : (execOp a.eval o).run P w with
  | halt x w' =>
    rw [hr] at h
    cases x <;> first | exact h | exact h.elim
  | ok x w' =>
    rw [hr] at h
    cases x with
    | value v => exact hK _ _ h
    | skip => exact hK _ _ h
    | defer d => exact hK _ _ h
    | enter f args =>
      refine ⟨fun h => by simp [Fence.wide] at h, CallsIn.inRound lp ((callsIn_wide (n := 0)).2 (Calls.mono h ?_))⟩
      intro e w'' hh
      cases e with
      | returned v => exact hK _ _ hh
      | panicked ch => exact hh
      | outgrown => exact hh
    | row r args =>
      refine ⟨fun h => by simp [Fence.wide] at h, fun c cs _ => ?_⟩
      obtain ⟨v, w'', r, s⟩ := h c cs
      exact ⟨v, w'', hK _ _ r, stepsIn_wide.2 s⟩
    | _ => exact h.elim

theorem wpOpsIn_of_wpOps (hd : ∀ (i : Nat) o, ops[i]? = some o → ∀ cl, o.op ≠ .defer cl) (hq : ¬ LetsOut Q) (lp : Nat) : ∀ (l : List Nat) (a : Act) (w : World), wpOps P ops Q l a w → wpOpsIn (Fence.wide.inRound lp) 0 P ops Q l a w
  | [], _, _, h => h
  | i :: rest, a, w, h => by
    simp only [wpOps] at h
    simp only [wpOpsIn]
    cases ho : ops[i]? with
    | none => simp only [ho] at h ⊢; exact wpOpsIn_of_wpOps hd hq lp rest a w h
    | some o =>
      simp only [ho] at h ⊢
      split
      · rename_i hw
        rw [if_pos hw] at h
        rcases h with h | ⟨_, h⟩
        · exact wpIn_of_wp (hd i o ho) (fun a w => wpOpsIn_of_wpOps hd hq lp rest a w) lp h
        · exact (hq h).elim
      · rename_i hw
        rw [if_neg hw] at h
        exact ⟨fun _ _ => trivial, wpOpsIn_of_wpOps hd hq lp rest _ w h⟩

def noDefers (ops : Array Oper) : Bool := ops.all fun o => match o.op with | .defer _ => false | _ => true
theorem noDefers_spec (h : noDefers ops = true) : ∀ (i : Nat) o, ops[i]? = some o → ∀ cl, o.op ≠ .defer cl := by
  intro i o ho cl e
  have hm : o ∈ ops := Array.mem_of_getElem? ho
  have := Array.all_eq_true'.1 h o hm
  rw [e] at this; cases this

/-- A region that draws its order, in a round: by the plain rules. -/
theorem region_round {id : Nat} {a : Act} {w : World} {lp : Nat} (hm : P.follows .mixedOrders = true) (hd : noDefers ops = true) (hq : ¬ LetsOut Q)
    (h : wpAny P .any ops Q ops.size (Array.replicate ops.size false) a w.drew) : (Code.region id ops true).wpIn (Fence.wide.inRound lp) 0 P Q a w :=
  wpIn_region_draw fun t => by
    simp only [Region.schedule, hm, Bool.true_or, if_true]
    exact wpOpsIn_of_wpOps (noDefers_spec hd) hq lp _ _ _ (wpAny_sound ops.size t _ a _ h)

theorem region_roundH {S : World → Prop} {id : Nat} {a : Act} {w : World} {lp : Nat} (hm : P.follows .mixedOrders = true) (hd : noDefers ops = true) (hq : ¬ LetsOut Q)
    (h : wpAnyH P .any ops Q S ops.size (Array.replicate ops.size false) a w.drew) : (Code.region id ops true).wpIn (Fence.wide.inRound lp) 0 P Q a w :=
  region_round hm hd hq (wpAny_of_held _ _ _ _ h)
end
end Go.Proofs.YtgcobbapaaihiaaGreat

set_option linter.unusedVariables false
set_option linter.unusedSimpArgs false
namespace Go.Proofs.YtgcobbapaaihiaaGreat
open Go.RowKit

section
variable {P : Program} {ops : Array Oper} {Q : Exit → Act → World → Prop} {S : World → Prop} {D : Nat → Bool}

/-- Whatever order: behind the operations that D marks, S holds. (An operation that waits for every load taken first need not be marked.) -/
def wpAnyM (P : Program) (ops : Array Oper) (Q : Exit → Act → World → Prop) (S : World → Prop) (D : Nat → Bool) : Nat → Array Bool → Act → World → Prop
  | 0, done, a, w => Region.ready .any ops done = [] ∧ Q .normal a w
  | n + 1, done, a, w => (Region.ready .any ops done = [] → Q .normal a w) ∧
      ∀ i ∈ Region.ready .any ops done, wpOp P ops Q i (fun a' w' => (D i = true → S w') ∧ wpAnyM P ops Q S D n (done.setIfInBounds i true) a' w') a w

theorem wpAnyM.any : ∀ (n : Nat) (done : Array Bool) (a : Act) (w : World), wpAnyM P ops Q S D n done a w → wpAny P .any ops Q n done a w
  | 0, _, _, _, h => h
  | n + 1, _, _, _, h => ⟨h.1, fun i hi => wpOp_mono (fun a' w' h' => wpAnyM.any n _ a' w' h'.2) (h.2 i hi)⟩

/-- Number j waits for number i. -/
def waitsFor (ops : Array Oper) (j i : Nat) : Bool := match ops[j]? with | some o => o.after.any fun e => Region.binds .any e && e.on == i | none => true

theorem wpAnyM.take_aux {i : Nat} {oi : Oper} {v : Value} (hi : ops[i]? = some oi) (hsel : ∀ (j : Nat) (o : Oper) cs b, ops[j]? = some o → o.op ≠ .select cs b)
    (hQ : ∀ c a w, Q (.panic c) (a.put oi.dst v) w → Q (.panic c) a w) (hD : ∀ j, j < ops.size → j ≠ i → D j = true ∨ waitsFor ops j i = true) :
    ∀ (n : Nat) (done : Array Bool) (a : Act) (w : World),
      (∀ j oj, ops[j]? = some oj → j ≠ i → done.getD j true = false → (∀ e ∈ oj.after, Region.binds .any e = true → e.on ≠ i) → oi.apart ops oj = true) →
      i ∈ Region.ready .any ops done → YieldsIf P ops S oi v a → S w →
      wpAnyM P ops Q S D n (done.setIfInBounds i true) (a.put oi.dst v) w → wpAnyM P ops Q S D (n + 1) done a w := by
  intro n
  induction n with
  | zero =>
    intro done a w _ hr hy hS H
    refine ⟨fun h => (by rw [h] at hr; cases hr), fun j hj => ?_⟩
    by_cases e : j = i
    · subst e; exact hy.wpOp hi hS ⟨fun _ => hS, H⟩
    · have := ready_mono hj e
      rw [H.1] at this
      cases this
  | succ n ih =>
    intro done a w hfree hr hy hS H
    refine ⟨fun h => (by rw [h] at hr; cases hr), fun j hj => ?_⟩
    by_cases e : j = i
    · subst e; exact hy.wpOp hi hS ⟨fun _ => hS, H⟩
    obtain ⟨hjun, oj, hoj, hall⟩ := mem_ready.1 hj
    have hi0 := (mem_ready.1 hr).1
    have hnot : ∀ x ∈ oj.after, Region.binds .any x = true → x.on ≠ i := fun x hx hb hxi => by
      have h1 := hall x hx hb
      rw [hxi] at h1
      rcases Nat.lt_or_ge i done.size with h' | h'
      · simp [h'] at hi0 h1; rw [hi0] at h1; cases h1
      · simp [Array.getElem?_eq_none h'] at h1
    have hDj : D j = true := by
      have hlt : j < ops.size := by
        rcases Nat.lt_or_ge j ops.size with h | h
        · exact h
        · rw [Array.getElem?_eq_none h] at hoj; cases hoj
      rcases hD j hlt e with h | h
      · exact h
      · unfold waitsFor at h
        rw [hoj] at h
        obtain ⟨x, hx, hb⟩ := Array.any_eq_true'.1 h
        simp only [Bool.and_eq_true, beq_iff_eq] at hb
        exact absurd hb.2 (hnot x hx hb.1)
    have step := wpOp_putIf hoj (hfree j oj hoj e hjun hnot) (fun cs b => hsel i oi cs b hi) (fun cs b => hsel j oj cs b hoj) hQ hy (H.2 j (ready_mono hj e))
    refine wpOp_mono (fun a' w' hh => ⟨fun _ => hh.2.1 hDj, ih (done.setIfInBounds j true) a' w' (fun k ok hk hki hun hno => hfree k ok hk hki ?_ hno) (ready_mono hr (Ne.symm e)) hh.1 (hh.2.1 hDj) ?_⟩) step
    · by_cases hjk : j = k
      · subst hjk; exact hjun
      · rw [getD_set_ne true hjk] at hun; exact hun
    · rw [Array.setIfInBounds_comm _ _ e]
      exact hh.2.2

theorem wpAnyM.take {i : Nat} {oi : Oper} {v : Value} {n : Nat} {done : Array Bool} {a : Act} {w : World} (hi : ops[i]? = some oi)
    (hs : Region.noSelect ops = true) (hf : Region.free .any ops done i = true) (hr : (Region.ready .any ops done).contains i = true)
    (hD : (List.range ops.size).all (fun j => j == i || D j || waitsFor ops j i) = true)
    (hQ : ∀ c a w, Q (.panic c) (a.put oi.dst v) w → Q (.panic c) a w) (hy : YieldsIf P ops S oi v a) (hS : S w)
    (h : wpAnyM P ops Q S D n (done.setIfInBounds i true) (a.put oi.dst v) w) : wpAnyM P ops Q S D (n + 1) done a w :=
  wpAnyM.take_aux hi (Region.noSelect_spec hs) hQ (fun j hj hji => by
    have := List.all_eq_true.1 hD j (List.mem_range.2 hj)
    simp only [Bool.or_eq_true, beq_iff_eq] at this
    rcases this with (h | h) | h
    · exact absurd h hji
    · exact .inl h
    · exact .inr h) n done a w (Region.free_spec hi hf) (by simpa using hr) hy hS h

/-- The same, where it puts its value said apart (so that the frame can be laid out). -/
theorem wpAnyM.take' {i : Nat} {oi : Oper} {v : Value} {n : Nat} {done : Array Bool} {a : Act} {w : World} (d : Option Tmp) (hi : ops[i]? = some oi) (hd : oi.dst = d)
    (hs : Region.noSelect ops = true) (hf : Region.free .any ops done i = true) (hr : (Region.ready .any ops done).contains i = true)
    (hD : (List.range ops.size).all (fun j => j == i || D j || waitsFor ops j i) = true)
    (hQ : ∀ c a w, Q (.panic c) (a.put d v) w → Q (.panic c) a w) (hy : YieldsIf P ops S oi v a) (hS : S w)
    (h : wpAnyM P ops Q S D n (done.setIfInBounds i true) (a.put d v) w) : wpAnyM P ops Q S D (n + 1) done a w := by
  subst hd
  exact wpAnyM.take hi hs hf hr hD hQ hy hS h

theorem wpAnyM.all {rs : List Nat} {n : Nat} {done : Array Bool} {a : Act} {w : World} (hr : Region.ready .any ops done = rs) (hne : rs ≠ [])
    (h : ∀ i ∈ rs, wpOp P ops Q i (fun a' w' => (D i = true → S w') ∧ wpAnyM P ops Q S D n (done.setIfInBounds i true) a' w') a w) : wpAnyM P ops Q S D (n + 1) done a w :=
  ⟨fun h0 => absurd (hr ▸ h0) hne, hr ▸ h⟩

theorem wpAnyM.one {i n : Nat} {o : Oper} {done : Array Bool} {a : Act} {w : World} (hr : Region.ready .any ops done = [i]) (ho : ops[i]? = some o)
    (h : ∀ K' : Act → World → Prop, Shut (∀ a w, (D i = true → S w) → wpAnyM P ops Q S D n (done.setIfInBounds i true) a w → K' a w) → if Region.wanted o (yielded ops a.tmps) = true then Oper.wp P o a w K' Q else K' (a.put o.dst undef) w) :
    wpAnyM P ops Q S D (n + 1) done a w :=
  wpAnyM.all hr (by simp) (fun j hj => by
    rcases List.mem_singleton.1 hj with rfl
    exact wpOp_step ho (fun K' hK => h K' (fun a w hS hW => hK a w ⟨hS, hW⟩)))

theorem wpAnyM.done {done : Array Bool} {a : Act} {w : World} (hr : Region.ready .any ops done = []) (h : Q .normal a w) : ∀ n, wpAnyM P ops Q S D n done a w
  | 0 => ⟨hr, h⟩
  | _ + 1 => ⟨fun _ => h, by rw [hr]; simp⟩

theorem region_roundM {id : Nat} {a : Act} {w : World} {lp : Nat} (S : World → Prop) (D : Nat → Bool) (hm : P.follows .mixedOrders = true) (hd : noDefers ops = true) (hq : ¬ LetsOut Q)
    (h : wpAnyM P ops Q S D ops.size (Array.replicate ops.size false) a w.drew) : (Code.region id ops true).wpIn (Fence.wide.inRound lp) 0 P Q a w :=
  region_round hm hd hq (wpAnyM.any _ _ _ _ h)

theorem region_planM {id : Nat} {a : Act} {w : World} (S : World → Prop) (D : Nat → Bool) (hm : P.follows .mixedOrders = true)
    (h : wpAnyM P ops Q S D ops.size (Array.replicate ops.size false) a w.drew) : (Code.region id ops true).wp P Q a w :=
  wp_region_any hm (wpAnyM.any _ _ _ _ h)
end
end Go.Proofs.YtgcobbapaaihiaaGreat
