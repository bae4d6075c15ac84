/- ServerKnown, part 02: lemmas, each with its own conditions. -/
import Derived.Test.YtgcobbapaaihiaaGreatSk01
import Derived.RangeFuncNested
import Derived.RangeFuncBound
import Derived.RangeFuncCalls
import Derived.RangeFuncLeaves
import Derived.OwnWalkIn
import Derived.TacticsInMore
import Derived.LoopNIn
import Derived.LoopIn
import Derived.Shelf.RegionOpen
import Derived.Shelf.Abstract
set_option linter.unusedVariables false
set_option linter.unusedSimpArgs false
namespace Go.Proofs.YtgcobbapaaihiaaGreat
open Go.RowKit

section
variable {K K' : Nat → Prop} {c c' c'' : Col} {w w' w'' : World}

theorem Step.putObj (h : Step K c w c' w') {b : Nat} (hb : w.heap.size ≤ b ∨ K (c b)) (o : Obj) : Step K c w c' (w'.putObj b o) :=
  ⟨h.os, h.tape, h.output, by simpa using h.size, fun j hj hk => by
    rw [World.putObj_heap_other (by rintro rfl; rcases hb with hb | hb; · omega
                                    · exact hk hb)]; exact h.block j hj hk, h.col⟩

theorem Ok.putObj (h : Ok c w) (b : Nat) {o : Obj} (ho : ∀ a, a.block = b → (w.putObj b o).frozen? a = false) : Ok c (w.putObj b o) :=
  ⟨fun j hj => h.fresh j (by simpa using hj), fun j off hc => by
    by_cases e : j = b
    · exact ho _ e
    · rw [World.frozen?_of_block (w := w) (a := ⟨j, off, none⟩) (World.putObj_heap_other e)]; exact h.soft j off hc⟩

theorem frozen_loop {w : World} {b : Nat} {l : Loop} (a : Addr) (ha : a.block = b) : (w.putObj b (.loop l)).frozen? a = false := by
  by_cases h : b < w.heap.size
  · simp [World.frozen?, ha, World.putObj_heap_same h]
  · have : (w.putObj b (.loop l)).heap[b]? = none := by simp [World.putObj]; omega
    simp [World.frozen?, ha, this]
theorem frozen_def {w : World} {b : Nat} {l : Option (List Deferred)} (a : Addr) (ha : a.block = b) : (w.putObj b (.deferred l)).frozen? a = false := by
  by_cases h : b < w.heap.size
  · simp [World.frozen?, ha, World.putObj_heap_same h]
  · have : (w.putObj b (.deferred l)).heap[b]? = none := by simp [World.putObj]; omega
    simp [World.frozen?, ha, this]

theorem Step.joinL {A B : Nat → Prop} (h : Step A c w c' w') : Step (fun j => A j ∨ B j) c w c' w' := h.mono fun _ x => .inl x
theorem Step.joinR {A B : Nat → Prop} (h : Step B c w c' w') : Step (fun j => A j ∨ B j) c w c' w' := h.mono fun _ x => .inr x
end

/-- K, and one colour more. -/
def And1 (K : Nat → Prop) (k : Nat) : Nat → Prop := fun j => K j ∨ j = k

/-- What an iterator's function promises: it hands out the elements of xs, in order, till a round says 'no more'. -/
def Iter {α : Type} (P : Program) (gf : Nat) (lb : Array Value) (K : Nat → Prop) (c : Col) (w : World) (A : α → Col → World → Array Value → Prop) (xs : List α) : Prop :=
  ∀ (l : Nat) (J Jx : List α → Col → World → Prop) (c0 : Col) (W0 : World), Step K c w c0 W0 → Ok c0 W0 →
    (∀ pre c1 W1 c2 W2, J pre c1 W1 → Step No c1 W1 c2 W2 → Ok c2 W2 → J pre c2 W2) →
    (∀ pre c1 W1 c2 W2, Jx pre c1 W1 → Step No c1 W1 c2 W2 → Ok c2 W2 → Jx pre c2 W2) →
    (∀ pre x c1 W1 ar, (pre ++ [x]) <+: xs → J pre c1 W1 → Ok c1 W1 → Step K c w c1 W1 → A x c1 W1 ar →
      YieldAt Fence.wide 0 P l ar W1 fun e W' => ∃ c', Ok c' W' ∧ Step K c1 W1 c' W' ∧ ((e = .returned (.bool true) ∧ J (pre ++ [x]) c' W') ∨ (e = .returned (.bool false) ∧ Jx (pre ++ [x]) c' W'))) →
    J [] c0 W0 →
    CallsIn Fence.wide 0 P gf (#[.func (.yield l) #[] #[]] ++ lb) W0 fun e W' => (∃ v, e = .returned v) ∧ ∃ c', Ok c' W' ∧ Step K c0 W0 c' W' ∧ (J xs c' W' ∨ ∃ pre, pre <+: xs ∧ Jx pre c' W')

/-- How a round's body may be left. -/
def bodyQ {α : Type} (K : Nat → Prop) (I : List α → Col → World → Prop) (Ix : Code → List α → Col → World → Prop) (pre : List α) (c : Col) (W : World) : Exit → Act → World → Prop
  | .normal, _, W' => ∃ c', Ok c' W' ∧ Step K c W c' W' ∧ I pre c' W'
  | .ret, _, W' => ∃ c', Ok c' W' ∧ Step K c W c' W' ∧ Ix .ret pre c' W'
  | .exit id, _, W' => ∃ c', Ok c' W' ∧ Step K c W c' W' ∧ Ix (.exit id) pre c' W'
  | .goto t, _, W' => ∃ c', Ok c' W' ∧ Step K c W c' W' ∧ Ix (.goto t) pre c' W'
  | .panic _, _, _ => False
  | .outgrown, _, _ => False

theorem wp_range {P : Program} {Q : Exit → Act → World → Prop} {a : Act} {c : Col} {w : World} (hok : Ok c w) {g : Operand} {ps : Array Tmp} {assign body : Code} {gf : Nat} {lb : Array Value}
    (hg : a.eval g = .func (.func gf) #[] lb) (eg : ∀ args w, (callFunc gf args).run P w = .ok (.enter gf args) w)
    {α : Type} {A : α → Col → World → Array Value → Prop} {xs : List α} {K : Nat → Prop} (kl : Nat) (hkl : ∀ b, c b ≠ kl) (hkl0 : kl ≠ 0) (hKl : ¬ K kl)
    (hseq : Iter P gf lb (And1 K kl) c w A xs) (hps : ∀ x c1 W ar, A x c1 W ar → ar.size = ps.size)
    (I : List α → Col → World → Prop) (Ix : Code → List α → Col → World → Prop) (B : List α → α → Act → Col → World → Prop)
    (hI : ∀ pre c1 W1 c2 W2, I pre c1 W1 → Step (One kl) c1 W1 c2 W2 → Ok c2 W2 → I pre c2 W2)
    (hIx : ∀ j pre c1 W1 c2 W2, Ix j pre c1 W1 → Step (One kl) c1 W1 c2 W2 → Ok c2 W2 → Ix j pre c2 W2)
    (hB : ∀ pre x a1 c1 W1 c2 W2, B pre x a1 c1 W1 → Step (One kl) c1 W1 c2 W2 → Ok c2 W2 → B pre x a1 c2 W2)
    (h0 : I [] c w)
    (hassign : ∀ l pre x c1 W1 ar, (pre ++ [x]) <+: xs → I pre c1 W1 → Ok c1 W1 → Step (And1 K kl) c w c1 W1 → A x c1 W1 ar → ∀ KK : Act → World → Prop,
      (∀ a1 c2 W2, Ok c2 W2 → Step K c1 W1 c2 W2 → B pre x a1 c2 W2 → KK a1 W2) →
      assign.wpIn (Fence.wide.inRound l) 0 P (Exit.then KK (fun _ _ _ => False)) { tmps := (ps.zip ar).foldl (fun t (p, v) => t.setIfInBounds p v) a.tmps, defers := [] } W1)
    (hbody : ∀ l pre x a1 c2 W2, B pre x a1 c2 W2 → Ok c2 W2 → body.wpIn (Fence.wide.inRound l) 0 P (bodyQ K I Ix (pre ++ [x]) c2 W2) a1 W2)
    (hdone : ∀ D c' W', I xs c' W' → Ok c' W' → Step (And1 K kl) c w c' W' → W'.heap[D]? = some (.deferred (some [])) → w.heap.size ≤ D → c' D = kl →
      Q .normal { a with defers := { target := .collected D, args := #[] } :: a.defers } W')
    (hstop : ∀ D j pre c' W', pre <+: xs → Ix j pre c' W' → Ok c' W' → Step (And1 K kl) c w c' W' → W'.heap[D]? = some (.deferred (some [])) → w.heap.size ≤ D → c' D = kl →
      j.wp P Q { a with defers := { target := .collected D, args := #[] } :: a.defers } W') :
    (Code.rangeFunc g ps assign body).wp P Q a w := by
  rw [← wpIn_wide (n := 0)]
  refine wpIn_rangeFunc ?_
  intro fn hfn
  obtain ⟨rec, hrec⟩ : ∃ rec : LoopState → Option Code → Loop, rec = fun st pe => { state := st, pending := pe, fn, tmps := a.tmps, params := ps, assign, body, defers := w.heap.size } := ⟨_, rfl⟩
  have hr1 : ∀ st pe, (rec st pe).state = st := by intro st pe; rw [hrec]
  have hr2 : ∀ st pe, (rec st pe).pending = pe := by intro st pe; rw [hrec]
  have hr3 : ∀ st pe, (rec st pe).params = ps := by intro st pe; rw [hrec]
  have hr4 : ∀ st pe, (rec st pe).fn = fn := by intro st pe; rw [hrec]
  have hr5 : ∀ st pe, (rec st pe).tmps = a.tmps := by intro st pe; rw [hrec]
  have hr6 : ∀ st pe, (rec st pe).assign = assign := by intro st pe; rw [hrec]
  have hr7 : ∀ st pe, (rec st pe).body = body := by intro st pe; rw [hrec]
  have hr8 : ∀ st pe st', { rec st pe with state := st' } = rec st' pe := by intro st pe st'; rw [hrec]
  have hr9 : ∀ st pe st' pe', { rec st pe with state := st', pending := pe' } = rec st' pe' := by intro st pe st' pe'; rw [hrec]
  obtain ⟨W1, hW1⟩ : ∃ W1, (w.alloc (.deferred (some []))).alloc (.loop (rec .ready none)) = W1 := ⟨_, rfl⟩
  obtain ⟨c1, hc1⟩ : ∃ c1, (c.put w.heap.size kl).put (w.heap.size + 1) kl = c1 := ⟨_, rfl⟩
  have hL1 : W1.heap[w.heap.size + 1]? = some (.loop (rec .ready none)) := by
    rw [← hW1]; have := World.alloc_heap_new (w.alloc (.deferred (some []))) (.loop (rec .ready none)); rwa [World.size_alloc] at this
  have hK1 : W1.heap[w.heap.size]? = some (.deferred (some [])) := by
    rw [← hW1]; exact (Below.heap_alloc _ _ _ (by simp)).trans (World.alloc_heap_new w _)
  have hS1 : Step No c w c1 W1 := by rw [← hW1, ← hc1]; exact (((Step.refl.alloc _).alloc _).put (.inl (Nat.le_refl _))).put (.inl (by omega))
  have hO1 : Ok c1 W1 := by
    rw [← hc1]
    refine Ok.put (Ok.put (by rw [← hW1]; exact (hok.alloc _).alloc _) (by rw [← hW1]; simp; omega) (fun o => by simp [World.frozen?, hK1])) (by rw [← hW1]; simp) (fun o => by simp [World.frozen?, hL1])
  have hcl : c1 (w.heap.size + 1) = kl := by rw [← hc1]; simp
  have hcd : c1 w.heap.size = kl := by rw [← hc1]; simp [Col.put]
  refine ⟨w.heap.size + 1, [{ target := .collected w.heap.size, args := #[] }], W1, { target := .fn (.func gf) lb, args := #[.func (.yield (w.heap.size + 1)) #[] #[]] }, W1, gf,
    #[.func (.yield (w.heap.size + 1)) #[] #[]] ++ lb, W1, ?_, ?_, ?_, ?_, fun h => by simp [Fence.wide] at h, ?_⟩
  · rw [← hW1, hrec]; exact run_enterLoop_outer _ _ _ _ _
  · simp only [resolve, hg]
    simp [go_sem]
  · intro f' _; trivial
  · simp [invoke, go_sem, eg]
  · let J : List α → Col → World → Prop := fun pre c2 W => I pre c2 W ∧ W.heap[w.heap.size + 1]? = some (.loop (rec .ready none)) ∧ W.heap[w.heap.size]? = some (.deferred (some [])) ∧ c2 (w.heap.size + 1) = kl ∧ c2 w.heap.size = kl
    let Jx : List α → Col → World → Prop := fun pre c2 W => ∃ j, Ix j pre c2 W ∧ W.heap[w.heap.size + 1]? = some (.loop (rec .done (some j))) ∧ W.heap[w.heap.size]? = some (.deferred (some [])) ∧ c2 (w.heap.size + 1) = kl ∧ c2 w.heap.size = kl
    have keepB : ∀ {KK : Nat → Prop} {c2 W2 c3 W3 o i}, Step KK c2 W2 c3 W3 → ¬ KK kl → c2 i = kl → W2.heap[i]? = some o → W3.heap[i]? = some o ∧ c3 i = kl := by
      intro KK c2 W2 c3 W3 o i hs hk hc hh
      have hlt := (Array.getElem?_eq_some_iff.1 hh).1
      exact ⟨(hs.block _ hlt (by rw [hc]; exact hk)).trans hh, (hs.col _ hlt (by rw [hc]; exact hk)).trans hc⟩
    have hSK : Step (And1 K kl) c w c1 W1 := hS1.ofNo
    refine (hseq (w.heap.size + 1) J Jx c1 W1 hSK hO1 ?_ ?_ ?_ ?_).mono ?_
    · rintro pre c2 W2 c3 W3 ⟨hi, hl, hd, e1, e2⟩ hs ho
      obtain ⟨a1, a2⟩ := keepB hs (fun h => h) e1 hl
      obtain ⟨b1, b2⟩ := keepB hs (fun h => h) e2 hd
      exact ⟨hI _ _ _ _ _ hi hs.ofNo ho, a1, b1, a2, b2⟩
    · rintro pre c2 W2 c3 W3 ⟨j, hi, hl, hd, e1, e2⟩ hs ho
      obtain ⟨a1, a2⟩ := keepB hs (fun h => h) e1 hl
      obtain ⟨b1, b2⟩ := keepB hs (fun h => h) e2 hd
      exact ⟨j, hIx _ _ _ _ _ _ hi hs.ofNo ho, a1, b1, a2, b2⟩
    · -- one round
      rintro pre x c2 W2 ar hpre ⟨hi, hl, hd, e1, e2⟩ ho hst hA
      have hlt : w.heap.size + 1 < W2.heap.size := (Array.getElem?_eq_some_iff.1 hl).1
      have hy := run_yield (P := P) (args := ar) hl (by rw [hr3]; exact hps x _ _ _ hA)
      rw [hr4, hr3, hr5, hr6, hr7] at hy
      refine ⟨fn, _, assign, body, hy, roundIn_of_wpIn hfn (hassign _ pre x c2 W2 ar hpre hi ho hst hA _ ?_)⟩
      intro a1 c3 W3 ho3 hs3 hb3
      obtain ⟨l3, k3⟩ := keepB hs3 hKl e1 hl
      obtain ⟨d3, kd3⟩ := keepB hs3 hKl e2 hd
      have hlt3 : w.heap.size + 1 < W3.heap.size := (Array.getElem?_eq_some_iff.1 l3).1
      refine ⟨_, run_beginRound l3 (hr1 _ _), ?_⟩
      rw [hr8]
      have hs4 : Step (One kl) c3 W3 c3 (W3.putObj (w.heap.size + 1) (.loop (rec .busy none))) := (Step.refl (K := One kl)).putObj (.inr k3) _
      have ho4 : Ok c3 (W3.putObj (w.heap.size + 1) (.loop (rec .busy none))) := ho3.putObj _ (fun a ha => frozen_loop a ha)
      have l4 : (W3.putObj (w.heap.size + 1) (.loop (rec .busy none))).heap[w.heap.size + 1]? = some (.loop (rec .busy none)) := World.putObj_heap_same hlt3
      have d4 : (W3.putObj (w.heap.size + 1) (.loop (rec .busy none))).heap[w.heap.size]? = some (.deferred (some [])) := (World.putObj_heap_other (by omega)).trans d3
      refine wpIn_mono (hbody _ pre x a1 c3 _ (hB _ _ _ _ _ _ _ hb3 hs4 ho4) ho4) ?_
      have fin : ∀ (jump : Option Code) (c5 : Col) (W5 : World), Ok c5 W5 → Step K c3 (W3.putObj (w.heap.size + 1) (.loop (rec .busy none))) c5 W5 →
          (Instr.endRound (w.heap.size + 1) jump).run P W5 = .ok (.bool jump.isNone) (W5.putObj (w.heap.size + 1) (.loop (rec (if jump.isNone then .ready else .done) jump))) ∧
          Step (One kl) c5 W5 c5 (W5.putObj (w.heap.size + 1) (.loop (rec (if jump.isNone then .ready else .done) jump))) ∧ Ok c5 (W5.putObj (w.heap.size + 1) (.loop (rec (if jump.isNone then .ready else .done) jump))) ∧
          (W5.putObj (w.heap.size + 1) (.loop (rec (if jump.isNone then .ready else .done) jump))).heap[w.heap.size + 1]? = some (.loop (rec (if jump.isNone then .ready else .done) jump)) ∧
          (W5.putObj (w.heap.size + 1) (.loop (rec (if jump.isNone then .ready else .done) jump))).heap[w.heap.size]? = some (.deferred (some [])) ∧ c5 (w.heap.size + 1) = kl ∧ c5 w.heap.size = kl ∧
          Step (And1 K kl) c2 W2 c5 (W5.putObj (w.heap.size + 1) (.loop (rec (if jump.isNone then .ready else .done) jump))) := by
        intro jump c5 W5 ho5 hs5
        obtain ⟨l5, k5⟩ := keepB hs5 hKl k3 l4
        obtain ⟨d5, kd5⟩ := keepB hs5 hKl kd3 d4
        have hrun := run_endRound (P := P) jump l5
        rw [hr9] at hrun
        have hs6 : Step (One kl) c5 W5 c5 (W5.putObj (w.heap.size + 1) (.loop (rec (if jump.isNone then .ready else .done) jump))) := (Step.refl (K := One kl)).putObj (.inr k5) _
        refine ⟨hrun, hs6, ho5.putObj _ (fun a ha => frozen_loop a ha), World.putObj_heap_same (Array.getElem?_eq_some_iff.1 l5).1, (World.putObj_heap_other (by omega)).trans d5, k5, kd5, ?_⟩
        exact ((hs3.mono (fun _ h => .inl h)).trans (hs4.mono (fun _ h => .inr h))).trans ((hs5.mono (fun _ h => .inl h)).trans (hs6.mono (fun _ h => .inr h)))
      rintro e a3 W5 hp
      cases e with
      | normal =>
        obtain ⟨c5, ho5, hs5, hi5⟩ := hp
        obtain ⟨f1, f2, f3, f4, f5, f6, f7, f8⟩ := fin none c5 W5 ho5 hs5
        exact ⟨_, _, f1, c5, f3, f8, .inl ⟨rfl, hI _ _ _ _ _ hi5 f2 f3, f4, f5, f6, f7⟩⟩
      | ret =>
        obtain ⟨c5, ho5, hs5, hi5⟩ := hp
        obtain ⟨f1, f2, f3, f4, f5, f6, f7, f8⟩ := fin (some .ret) c5 W5 ho5 hs5
        exact ⟨_, _, f1, c5, f3, f8, .inr ⟨rfl, .ret, hIx _ _ _ _ _ _ hi5 f2 f3, f4, f5, f6, f7⟩⟩
      | exit id =>
        obtain ⟨c5, ho5, hs5, hi5⟩ := hp
        obtain ⟨f1, f2, f3, f4, f5, f6, f7, f8⟩ := fin (some (.exit id)) c5 W5 ho5 hs5
        exact ⟨_, _, f1, c5, f3, f8, .inr ⟨rfl, .exit id, hIx _ _ _ _ _ _ hi5 f2 f3, f4, f5, f6, f7⟩⟩
      | goto t =>
        obtain ⟨c5, ho5, hs5, hi5⟩ := hp
        obtain ⟨f1, f2, f3, f4, f5, f6, f7, f8⟩ := fin (some (.goto t)) c5 W5 ho5 hs5
        exact ⟨_, _, f1, c5, f3, f8, .inr ⟨rfl, .goto t, hIx _ _ _ _ _ _ hi5 f2 f3, f4, f5, f6, f7⟩⟩
      | panic ch => exact hp.elim
      | outgrown => exact hp.elim
    · exact ⟨hI _ _ _ _ _ h0 hS1.ofNo hO1, hL1, hK1, hcl, hcd⟩
    · rintro e W2 ⟨⟨v, rfl⟩, c2, ho2, hs2, (⟨hi, hl, hd, e1, e2⟩ | ⟨pre, hpre, j, hi, hl, hd, e1, e2⟩)⟩
      · have hrun := run_endLoop (P := P) hl (by rw [hr1]; simp)
        rw [hr8, hr2] at hrun
        have hs3 : Step (One kl) c2 W2 c2 (W2.putObj (w.heap.size + 1) (.loop (rec .exhausted none))) := (Step.refl (K := One kl)).putObj (.inr e1) _
        have ho3 : Ok c2 (W2.putObj (w.heap.size + 1) (.loop (rec .exhausted none))) := ho2.putObj _ (fun a ha => frozen_loop a ha)
        exact ⟨none, _, hrun, hdone _ c2 _ (hI _ _ _ _ _ hi hs3 ho3) ho3 ((hSK.trans hs2).trans (hs3.mono fun _ h => .inr h)) ((World.putObj_heap_other (by omega)).trans hd) (Nat.le_refl _) e2⟩
      · have hrun := run_endLoop (P := P) hl (by rw [hr1]; simp)
        rw [hr8, hr2] at hrun
        have hs3 : Step (One kl) c2 W2 c2 (W2.putObj (w.heap.size + 1) (.loop (rec .exhausted (some j)))) := (Step.refl (K := One kl)).putObj (.inr e1) _
        have ho3 : Ok c2 (W2.putObj (w.heap.size + 1) (.loop (rec .exhausted (some j)))) := ho2.putObj _ (fun a ha => frozen_loop a ha)
        refine ⟨some j, _, hrun, ?_⟩
        show j.wpIn Fence.wide 0 P Q _ _
        rw [wpIn_wide]
        exact hstop _ j pre c2 _ hpre (hIx _ _ _ _ _ _ hi hs3 ho3) ho3 ((hSK.trans hs2).trans (hs3.mono fun _ h => .inr h)) ((World.putObj_heap_other (by omega)).trans hd) (Nat.le_refl _) e2

/-- Block b, of colour k, begins with these cells. -/
structure At (c : Col) (W : World) (b k : Nat) (vs : List Value) : Prop where
  col : c b = k
  lt : b < W.heap.size
  cells : CellsAt W b 0 vs

theorem At.keep {K : Nat → Prop} {c c' : Col} {W W' : World} {b k : Nat} {vs : List Value} (h : At c W b k vs) (hs : Step K c W c' W') (hk : ¬ K k) : At c' W' b k vs := by
  obtain ⟨rfl, h2, h3⟩ := h
  exact ⟨hs.col _ h2 hk, Nat.lt_of_lt_of_le h2 hs.size, h3.keep hs h2 hk⟩
theorem At.c0 {c : Col} {W : World} {b k : Nat} {v : Value} {vs : List Value} (h : At c W b k (v :: vs)) : W.cell? ⟨b, 0, none⟩ = some v := h.cells 0 v rfl
theorem At.fz {c : Col} {W : World} {b k : Nat} {vs : List Value} (h : At c W b k vs) (ho : Ok c W) (hk : k ≠ 0) (o : Nat) : W.frozen? ⟨b, o, none⟩ = false := ho.soft b o (by rw [h.col]; exact hk)
theorem At.set0 {c : Col} {W : World} {b k : Nat} {v u : Value} (h : At c W b k [v]) : At c (W.setCell ⟨b, 0, none⟩ u) b k [u] :=
  ⟨h.col, by rw [size_setCell]; exact h.lt, by
    intro j x hx
    have hj : j = 0 := by have := (List.getElem?_eq_some_iff.1 hx).1; simp at this; omega
    subst hj
    simp at hx; subst hx
    exact World.cell?_setCell_same' _ _ _ (by rw [show (⟨b, 0 + 0, none⟩ : Addr) = ⟨b, 0, none⟩ from rfl, h.c0]; rfl)⟩
theorem At.new {c : Col} {W : World} (vs : List Value) (e : TypeId) (k : Nat) : At (c.put W.heap.size k) (W.alloc (.cells vs.toArray e)) W.heap.size k vs :=
  ⟨by simp, by simp, cellsAt_new W vs e _⟩
theorem At.new0 {c : Col} {W : World} (hok : Ok c W) (vs : List Value) (e : TypeId) : At c (W.alloc (.cells vs.toArray e)) W.heap.size 0 vs :=
  ⟨hok.fresh _ (Nat.le_refl _), by simp, cellsAt_new W vs e _⟩
/-- A new block, of a colour. -/
theorem newAt {c : Col} {W : World} (hok : Ok c W) (vs : List Value) (e : TypeId) (k : Nat) : At (c.put W.heap.size k) (W.alloc (.cells vs.toArray e)) W.heap.size k vs ∧ Ok (c.put W.heap.size k) (W.alloc (.cells vs.toArray e)) ∧ Step No c W (c.put W.heap.size k) (W.alloc (.cells vs.toArray e)) :=
  ⟨At.new vs e k, (hok.alloc _).put (by simp) (fun o => by
    have hnew : (W.alloc (.cells vs.toArray e)).heap[W.heap.size]? = some (.cells vs.toArray e (0, 0)) := heap_alloc_new W _
    unfold World.frozen?; rw [hnew]; simp), (Step.refl.alloc _).put (.inl (Nat.le_refl _))⟩

/-- A function that holds a range over a function: its body walked ar everywhere, its end by 'leaveM'. -/
theorem calls_of_wp_marks {P : Program} {f : FuncId} {fn : Func} {cd : Code} {args : Array Value} {w : World} {R : Ending → World → Prop} (hf : P.funcs[f]? = some fn) (hb : fn.body = some cd)
    (h : cd.wp P (bodyPostM Fence.wide 0 P fn R) { tmps := args ++ Array.replicate (fn.ntmps - args.size) undef, defers := [] } w) : Calls P f args w R :=
  (callsIn_wide (n := 0)).1 (callsIn_of_wp_marks hf hb trivial (wpIn_wide.2 h))

theorem leaveM {P : Program} {fn : Func} {R : Ending → World → Prop} {a : Act} {W : World} {D : Nat} {v : Value} (hD : W.heap[D]? = some (.deferred (some []))) (ha : a.defers = [{ target := .collected D, args := #[] }])
    (hr : (results fn a.tmps).run P (W.putObj D (.deferred none)) = .ok v (W.putObj D (.deferred none))) (hR : R (.returned v) (W.putObj D (.deferred none))) :
    bodyPostM Fence.wide 0 P fn R .ret a W := by
  show LeavesInM _ _ _ _ _ _ a.defers _ _
  rw [ha]
  exact ⟨by simp, .inl ⟨_, _, rfl, run_takeDeferred hD, ⟨_, hr, hR⟩⟩⟩

theorem Sl.colour {α : Type} {T : Ty α} {c : Col} {k k2 : Nat} {w : World} {v : Value} {l : List α} (h : Sl T c k k2 w v l) : ∃ k', Sl T c k' k2 w v l ∧ (k' = 0 ∨ ∃ b, c b = k') := by
  rcases h with h | ⟨b, off, cap, hv, h1, h2, h3, h4⟩
  · exact ⟨0, .inl h, .inl rfl⟩
  · exact ⟨k, .inr ⟨b, off, cap, hv, h1, h2, h3, h4⟩, .inr ⟨b, h3⟩⟩
end Go.Proofs.YtgcobbapaaihiaaGreat

set_option linter.unusedVariables false
set_option linter.unusedSimpArgs false
namespace Go.Proofs.YtgcobbapaaihiaaGreat
open Go.RowKit

/-- Bytes as cells. -/
def bC (l : List UInt8) : List Value := l.map fun x => .int .u8 x.toNat
theorem bC_len (l : List UInt8) : (bC l).length = l.length := by simp [bC]
theorem bC_app (l m : List UInt8) : bC (l ++ m) = bC l ++ bC m := by simp [bC]
theorem bC_get {l : List UInt8} {j : Nat} {x : UInt8} (h : l[j]? = some x) : (bC l)[j]? = some (.int .u8 x.toNat) := by simp [bC, h]

theorem At.setN {c : Col} {W : World} {b k : Nat} {vs : List Value} (h : At c W b k vs) {i : Nat} (hi : i < vs.length) (u : Value) : At c (W.setCell ⟨b, i, none⟩ u) b k (vs.set i u) := by
  refine ⟨h.col, by rw [size_setCell]; exact h.lt, ?_⟩
  intro j x hx
  by_cases e : i = j
  · subst e
    rw [List.getElem?_set_self hi] at hx
    cases hx
    have := h.cells i vs[i] (by rw [List.getElem?_eq_getElem])
    rw [Nat.zero_add] at this ⊢
    exact World.cell?_setCell_same' _ _ _ (by rw [this]; rfl)
  · rw [List.getElem?_set_ne e] at hx
    rw [World.cell?_setCell_other _ _ _ _ (by intro h; injection h with h1 h2; omega)]
    exact h.cells j x hx

theorem At.get {c : Col} {W : World} {b k : Nat} {vs : List Value} (h : At c W b k vs) {i : Nat} {u : Value} (hi : vs[i]? = some u) : W.cell? ⟨b, i, none⟩ = some u := by
  have := h.cells i u hi
  rwa [Nat.zero_add] at this

/-- A slice of an array of bytes. -/
theorem At.sl {c : Col} {W : World} {b k k2 : Nat} {l : List UInt8} (h : At c W b k (bC l)) (j n : Nat) (hj : j + n ≤ l.length) (cap : Nat) (hc : n ≤ cap) (hm : cap ≤ maxLen) :
    Sl TByte c k k2 W (.slice (some ⟨b, j, none⟩) n cap) ((l.drop j).take n) := by
  have hlen : ((l.drop j).take n).length = n := by rw [List.length_take, List.length_drop]; omega
  refine .inr ⟨b, j, cap, by rw [hlen], by rw [hlen]; exact hc, hm, h.col, h.lt, fun i x hi => ⟨[.int .u8 x.toNat], rfl, ?_⟩⟩
  intro i' u hu
  have hi0 : i' = 0 := by have := (List.getElem?_eq_some_iff.1 hu).1; simp at this; omega
  subst hi0
  simp at hu
  subst hu
  have hin : i < n := by have := (List.getElem?_eq_some_iff.1 hi).1; omega
  rw [List.getElem?_take_of_lt hin, List.getElem?_drop] at hi
  have := h.get (bC_get hi)
  simpa [TByte] using this

/-- A number's bytes, the highest first, none ahead that is zero. -/
def minF : Nat → Nat → List UInt8
  | 0, _ => []
  | f + 1, n => if n = 0 then [] else minF f (n / 256) ++ [UInt8.ofNat (n % 256)]
def minB (n : Nat) : List UInt8 := minF 8 n
/-- A number's form. -/
def numB (n : Nat) : List UInt8 := UInt8.ofNat (minB n).length :: minB n

theorem minF_zero : ∀ f, minF f 0 = []
  | 0 => rfl
  | f + 1 => by simp [minF]
theorem minF_len : ∀ f n, (minF f n).length ≤ f
  | 0, n => by simp [minF]
  | f + 1, n => by
    simp only [minF]
    split
    · simp
    · have := minF_len f (n / 256)
      simp; exact this

theorem sizeU8 (W : World) : (sizeOf 5).run Tryz.prog W = .ok 1 W := by
  obtain ⟨i, hi, hz, hs1, hb1⟩ := info_parts infoU8
  simp [sizeOf, typeInfo, hi, hs1]

/-- A slice of an array of bytes, from a place on. -/
theorem run_arr {t : TypeId} {n : Nat} (ht : Tryz.prog.underlying t = some (.array n 5)) (W : World) (b i : Nat) (h : i ≤ n) (h0 : i < n) :
    (Instr.sliceAt t (.pointer (some ⟨b, 0, none⟩)) (some (.int .i64 i)) none none).run Tryz.prog W = .ok (.slice (some ⟨b, i, none⟩) (n - i) (n - i)) W := by
  have ha : Tryz.prog.arrayLen t = n := by simp [Program.arrayLen, ht]
  have he : Tryz.prog.elem t = 5 := by simp [Program.elem, ht]
  rw [run_sliceAt_array_l W t ⟨b, 0, none⟩ (by rw [ha, he]; exact ht) .i64 i (by omega) (by rw [ha]; omega), he, sizeU8, ha]
  simp only [Result.andThen, slicedAt, Int.toNat_natCast]
  rw [if_neg (by omega)]
  by_cases h0 : i = 0
  · subst h0; simp [Addr.add]
  · simp [Addr.add, h0]
theorem run_arr0 {t : TypeId} {n : Nat} (ht : Tryz.prog.underlying t = some (.array n 5)) (W : World) (b : Nat) :
    (Instr.sliceAt t (.pointer (some ⟨b, 0, none⟩)) none none none).run Tryz.prog W = .ok (.slice (some ⟨b, 0, none⟩) n n) W := by
  have ha : Tryz.prog.arrayLen t = n := by simp [Program.arrayLen, ht]
  have he : Tryz.prog.elem t = 5 := by simp [Program.elem, ht]
  rw [run_sliceAt_array_all W t ⟨b, 0, none⟩ (by rw [ha, he]; exact ht), he, sizeU8, ha]
  simp [Result.andThen, slicedAt, Addr.add]

theorem Sl.out1 {α : Type} {T : Ty α} {c c1 : Col} {w w1 : World} {q k2 : Nat} {v : Value} {l : List α} (h : Sl T c1 q k2 w1 v l) (hs : Step (One q) c w c1 w1) (ho : Ok c1 w1) (hq : ∀ b, c b ≠ q) (h0 : q ≠ 0) (hqq : k2 ≠ q)
    (k : Nat) : ∃ c', Sl T c' k k2 w1 v l ∧ Step No c w c' w1 ∧ Ok c' w1 :=
  ⟨c1.turn q k, h.turn hqq, (hs.turn rfl).own hq, ho.turn h0⟩

theorem u8_nat (m : Nat) : ((m : Int) % 256) = ((UInt8.ofNat (m % 256)).toNat : Int) := by
  rw [show (UInt8.ofNat (m % 256)).toNat = m % 256 by simp]
  omega

section
variable {c : Col} {w : World}

set_option maxRecDepth 100000 in
set_option maxHeartbeats 800000 in
theorem number_any (hok : Ok c w) (n : Nat) (hn : n < 9223372036854775808) (k : Nat) :
    Calls Tryz.prog 201 #[.int .i64 n] w fun r w' => ∃ v, r = .returned v ∧ ∃ c', Sl TByte c' k 0 w' v (numB n) ∧ Step No c w c' w' ∧ Ok c' w' := by
  obtain ⟨q, hq, hqc⟩ := hok.spare 0
  obtain ⟨a1, o1, s1⟩ := newAt hok (bC (List.replicate 9 0)) 282 q
  have hq0 : q ≠ 0 := by omega
  have H1 := Lib.hid (And.intro a1 (And.intro o1 (And.intro s1 hqc)))
  clear a1 o1 s1 hqc hok
  go_enter Tryz.func201, Tryz.ntmps201
  go_wp2_with fail
  go_loopw [0, 4] (fun vn vk wr => ∃ (m j : Nat) (l : List UInt8), vn = .int .i64 m ∧ vk = .int .i64 j ∧ l.length = j ∧ j ≤ 8 ∧ m < 256 ^ (8 - j) ∧ minB n = minF (8 - j) m ++ l ∧ At (c.put w.heap.size q) wr w.heap.size q (bC (List.replicate (9 - j) 0 ++ l)) ∧ Step No c w (c.put w.heap.size q) wr ∧ Ok (c.put w.heap.size q) wr) (fun vn _ _ => (intOf vn).toNat)
  case atStart => exact ⟨n, 0, [], rfl, rfl, rfl, Nat.zero_le _, by simpa using (show n < 256 ^ 8 by omega), by simp [minB], H1.out.1, H1.out.2.2.1, H1.out.2.1⟩
  case round =>
    obtain ⟨m, j, l, rfl, rfl, hlj, hj, hm, he, at1, st, ok⟩ := hrel
    obtain ⟨i, hi⟩ : ∃ i, 8 - j = i := ⟨_, rfl⟩
    have hji : j + i = 8 := by omega
    have h9 : 9 - j = i + 1 := by omega
    rw [hi] at hm he
    rw [h9] at at1
    have y0 : wr.cell? ⟨w.heap.size, i, none⟩ = some (.int .u8 0) := at1.get (bC_get (x := 0) (by rw [List.getElem?_append_left (by simp)]; simp))
    have yf := at1.fz ok hq0 i
    have hwi : IntKind.i64.wrap (8 - (j : Int)) = (i : Int) := by rw [show (8 : Int) - j = i by omega]; exact IntWalk.i64_in _ (by omega)
    have hi0 : (0 : Int) ≤ (i : Int) := by omega
    have hi1 : (i : Int) < 9 := by omega
    have hset : ∀ u : UInt8, At (c.put w.heap.size q) (wr.setCell ⟨w.heap.size, i, none⟩ (.int .u8 u.toNat)) w.heap.size q (bC (List.replicate i 0 ++ (u :: l))) := fun u => by
      have := at1.setN (i := i) (by rw [bC_len]; simp; omega) (.int .u8 u.toNat)
      rw [show (bC (List.replicate (i + 1) 0 ++ l)).set i (.int .u8 u.toNat) = bC (List.replicate i 0 ++ (u :: l)) by
        rw [List.replicate_succ', List.append_assoc, bC_app, bC_app, List.set_append_right _ _ (by rw [bC_len]; simp)]
        simp [bC]] at this
      exact this
    have hst : ∀ u, Step No c w (c.put w.heap.size q) (wr.setCell ⟨w.heap.size, i, none⟩ u) := fun u => st.setCell (.inl (Nat.le_refl _)) u
    have hok2 : ∀ u, Ok (c.put w.heap.size q) (wr.setCell ⟨w.heap.size, i, none⟩ u) := fun u => ok.setCell _ _
    have HS := Lib.hid (And.intro hset (And.intro hst hok2))
    clear at1 st ok hset hst hok2
    by_cases hz : m = 0
    · subst hz
      have HE := Lib.hid he
      have hu : IntKind.u8.wrap (j : Int) = ((UInt8.ofNat j).toNat : Int) := by
        rw [IntKind.wrap_u8]; simp
      have hsl := fun W => run_arr (t := 282) Tryz.underlying282 W w.heap.size i (by omega) (by omega)
      clear he hm
      go_wp2_with fail
      go_ret
      have hl : minB n = l := by rw [HE.out, minF_zero]; rfl
      have hv : ((j : Int) % 256) = ((UInt8.ofNat j).toNat : Int) := by rw [u8_nat, Nat.mod_eq_of_lt (by omega : j < 256)]
      rw [hv]
      have h2 := (HS.out.1 (UInt8.ofNat j)).sl (k2 := 0) i (9 - i) (by simp; omega) (9 - i) (Nat.le_refl _) (by simp only [maxLen]; omega)
      rw [List.drop_append_of_le_length (by simp), List.drop_eq_nil_of_le (by simp), List.nil_append, List.take_of_length_le (by simp; omega)] at h2
      have hnum : numB n = UInt8.ofNat j :: l := by rw [numB, hl, hlj]
      rw [hnum]
      exact ⟨_, rfl, Sl.out1 h2 (HS.out.2.1 _).ofNo (HS.out.2.2 _) H1.out.2.2.2 hq0 (by omega) k⟩
    · have hm0 : 0 < m := by omega
      have hmi : (0 : Int) < (m : Int) := by omega
      have hip : 0 < i := by
        rcases Nat.eq_zero_or_pos i with h | h
        · subst h; simp at hm; omega
        · exact h
      obtain ⟨i', rfl⟩ : ∃ i', i = i' + 1 := ⟨i - 1, by omega⟩
      have hm2 : m / 256 < 256 ^ i' := Nat.div_lt_of_lt_mul (by rw [Nat.pow_succ] at hm; omega)
      have hE : minB n = minF i' (m / 256) ++ (UInt8.ofNat (m % 256) :: l) := by
        rw [he, minF, if_neg hz]; simp
      have HM := Lib.hid (And.intro hm2 hE)
      clear hm he hm2 hE
      go_wp2_with fail
      go_roundw
      case rel =>
        rw [u8_nat]
        have h2 := HS.out.1 (UInt8.ofNat (m % 256))
        exact ⟨m / 256, j + 1, UInt8.ofNat (m % 256) :: l, by push_cast; rfl, by go_num, by simp; omega, by omega, by rw [show 8 - (j + 1) = i' by omega]; exact HM.out.1, by rw [show 8 - (j + 1) = i' by omega]; exact HM.out.2, by rw [show 9 - (j + 1) = i' + 1 by omega]; exact h2, HS.out.2.1 _, HS.out.2.2 _⟩
      case measure => simp [intOf]; omega
end
end Go.Proofs.YtgcobbapaaihiaaGreat
