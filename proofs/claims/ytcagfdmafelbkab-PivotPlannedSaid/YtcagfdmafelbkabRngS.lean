/- Own library: a range over a function whose rounds share memory with the body. -/
import Derived.Test.YtcagfdmafelbkabRnd
set_option linter.unusedVariables false
set_option linter.unusedSimpArgs false
namespace Go.Proofs.Ytcagfdmafelbkab
open Go.RowKit

/-- What an iterator's function promises. s: how it stands at the head of a round; fin: it hands out no more; Kit: what it writes itself; Hd: what it must find at a round's head; Yd: what it has made when it hands out. -/
def IterS {σ : Type} (P : Program) (gf : Nat) (lb : Array Value) (K Kit : Nat → Prop) (c : Col) (w : World) (A Hd Yd : σ → Col → World → Prop) (V : σ → Col → World → Array Value → Prop) (fin : σ → Prop) (mu : σ → Nat) : Prop :=
  ∀ (l : Nat) (J Y : σ → Col → World → Prop) (Jx : Col → World → Prop) (c0 : Col) (W0 : World) (s0 : σ), Step K c w c0 W0 → Ok c0 W0 →
    (∀ s c1 W1 c2 W2, J s c1 W1 → Step No c1 W1 c2 W2 → Ok c2 W2 → J s c2 W2) →
    (∀ c1 W1 c2 W2, Jx c1 W1 → Step No c1 W1 c2 W2 → Ok c2 W2 → Jx c2 W2) →
    (∀ s c1 W1, J s c1 W1 → Hd s c1 W1) →
    (∀ s c1 W1 c2 W2, J s c1 W1 → ¬ fin s → Step Kit c1 W1 c2 W2 → Ok c2 W2 → Yd s c2 W2 → Y s c2 W2) →
    (∀ s c1 W1 ar, ¬ fin s → Y s c1 W1 → Ok c1 W1 → Step K c w c1 W1 → V s c1 W1 ar →
      YieldAt Fence.wide 0 P l ar W1 fun e W' => ∃ c', Ok c' W' ∧ Step K c1 W1 c' W' ∧ ((e = .returned (.bool true) ∧ ∃ s', mu s' < mu s ∧ J s' c' W') ∨ (e = .returned (.bool false) ∧ Jx c' W'))) →
    J s0 c0 W0 →
    CallsIn Fence.wide 0 P gf (#[.func (.yield l) #[] #[]] ++ lb) W0 fun e W' => (∃ v, e = .returned v) ∧ ∃ c', Ok c' W' ∧ Step K c0 W0 c' W' ∧ ((∃ s, fin s ∧ J s c' W') ∨ Jx c' W')

/-- How a round's body may be left. -/
def bodyS {σ : Type} (K : Nat → Prop) (mu : σ → Nat) (I : σ → Col → World → Prop) (Ix : Code → Col → World → Prop) (s : σ) (c : Col) (W : World) : Exit → Act → World → Prop
  | .normal, _, W' => ∃ c', Ok c' W' ∧ Step K c W c' W' ∧ ∃ s', mu s' < mu s ∧ I s' c' W'
  | .ret, _, W' => ∃ c', Ok c' W' ∧ Step K c W c' W' ∧ Ix .ret c' W'
  | .exit id, _, W' => ∃ c', Ok c' W' ∧ Step K c W c' W' ∧ Ix (.exit id) c' W'
  | .goto t, _, W' => ∃ c', Ok c' W' ∧ Step K c W c' W' ∧ Ix (.goto t) c' W'
  | .panic _, _, _ => False
  | .outgrown, _, _ => False

theorem wp_rangeS {σ : Type} {P : Program} {Q : Exit → Act → World → Prop} {a : Act} {c : Col} {w : World} (hok : Ok c w) {g : Operand} {ps : Array Tmp} {assign body : Code} {gf : Nat} {lb : Array Value}
    (hg : a.eval g = .func (.func gf) #[] lb) (eg : ∀ args w, (callFunc gf args).run P w = .ok (.enter gf args) w)
    {A Hd Yd : σ → Col → World → Prop} {V : σ → Col → World → Array Value → Prop} {fin : σ → Prop} {mu : σ → Nat} {K Kit : Nat → Prop} (kl : Nat) (hkl : ∀ b, c b ≠ kl) (hkl0 : kl ≠ 0) (hKl : ¬ K kl) (hKil : ¬ Kit kl)
    (hseq : IterS P gf lb (And1 K kl) Kit c w A Hd Yd V fin mu) (hps : ∀ s c1 W ar, V s c1 W ar → ar.size = ps.size)
    (I Iy : σ → Col → World → Prop) (Ix : Code → Col → World → Prop) (B : σ → Act → Col → World → Prop) (s0 : σ)
    (hI : ∀ s c1 W1 c2 W2, I s c1 W1 → Step (One kl) c1 W1 c2 W2 → Ok c2 W2 → I s c2 W2)
    (hIx : ∀ j c1 W1 c2 W2, Ix j c1 W1 → Step (One kl) c1 W1 c2 W2 → Ok c2 W2 → Ix j c2 W2)
    (hB : ∀ s a1 c1 W1 c2 W2, B s a1 c1 W1 → Step (One kl) c1 W1 c2 W2 → Ok c2 W2 → B s a1 c2 W2)
    (hHd : ∀ s c1 W1, I s c1 W1 → Hd s c1 W1)
    (hYd : ∀ s c1 W1 c2 W2, I s c1 W1 → ¬ fin s → Step Kit c1 W1 c2 W2 → Ok c2 W2 → Yd s c2 W2 → Iy s c2 W2)
    (h0 : I s0 c w)
    (hassign : ∀ l s c1 W1 ar, ¬ fin s → Iy s c1 W1 → Ok c1 W1 → Step (And1 K kl) c w c1 W1 → V s c1 W1 ar → ∀ KK : Act → World → Prop,
      (∀ a1 c2 W2, Ok c2 W2 → Step K c1 W1 c2 W2 → B s a1 c2 W2 → KK a1 W2) →
      assign.wpIn (Fence.wide.inRound l) 0 P (Exit.then KK (fun _ _ _ => False)) { tmps := (ps.zip ar).foldl (fun t (p, v) => t.setIfInBounds p v) a.tmps, defers := [] } W1)
    (hbody : ∀ l s a1 c2 W2, B s a1 c2 W2 → Ok c2 W2 → body.wpIn (Fence.wide.inRound l) 0 P (bodyS K mu I Ix s c2 W2) a1 W2)
    (hdone : ∀ D s c' W', fin s → I s c' W' → Ok c' W' → Step (And1 K kl) c w c' W' → W'.heap[D]? = some (.deferred (some [])) → w.heap.size ≤ D → c' D = kl →
      Q .normal { a with defers := { target := .collected D, args := #[] } :: a.defers } W')
    (hstop : ∀ D j c' W', Ix j c' W' → Ok c' W' → Step (And1 K kl) c w c' W' → W'.heap[D]? = some (.deferred (some [])) → w.heap.size ≤ D → c' D = kl →
      j.wp P Q { a with defers := { target := .collected D, args := #[] } :: a.defers } W') :
    (Code.rangeFunc g ps assign body).wp P Q a w := by
  rw [← wpIn_wide (n := 0)]
  refine wpIn_rangeFunc ?_
  intro fn hfn
  obtain ⟨rec, hrec⟩ : ∃ rec : LoopState → Option Code → Loop, rec = fun st pe => { state := st, pending := pe, fn, tmps := a.tmps, params := ps, assign, body, defers := w.heap.size } := ⟨_, rfl⟩
  have hr1 : ∀ st pe, (rec st pe).state = st := by intro st pe; rw [hrec]
  have hr2 : ∀ st pe, (rec st pe).pending = pe := by intro st pe; rw [hrec]
  have hr3 : ∀ st pe, (rec st pe).params = ps := by intro st pe; rw [hrec]
  have hr4 : ∀ st pe, (rec st pe).fn = fn := by intro st pe; rw [hrec]
  have hr5 : ∀ st pe, (rec st pe).tmps = a.tmps := by intro st pe; rw [hrec]
  have hr6 : ∀ st pe, (rec st pe).assign = assign := by intro st pe; rw [hrec]
  have hr7 : ∀ st pe, (rec st pe).body = body := by intro st pe; rw [hrec]
  have hr8 : ∀ st pe st', { rec st pe with state := st' } = rec st' pe := by intro st pe st'; rw [hrec]
  have hr9 : ∀ st pe st' pe', { rec st pe with state := st', pending := pe' } = rec st' pe' := by intro st pe st' pe'; rw [hrec]
  obtain ⟨W1, hW1⟩ : ∃ W1, (w.alloc (.deferred (some []))).alloc (.loop (rec .ready none)) = W1 := ⟨_, rfl⟩
  obtain ⟨c1, hc1⟩ : ∃ c1, (c.put w.heap.size kl).put (w.heap.size + 1) kl = c1 := ⟨_, rfl⟩
  have hL1 : W1.heap[w.heap.size + 1]? = some (.loop (rec .ready none)) := by
    rw [← hW1]; have := World.alloc_heap_new (w.alloc (.deferred (some []))) (.loop (rec .ready none)); rwa [World.size_alloc] at this
  have hK1 : W1.heap[w.heap.size]? = some (.deferred (some [])) := by
    rw [← hW1]; exact (Below.heap_alloc _ _ _ (by simp)).trans (World.alloc_heap_new w _)
  have hS1 : Step No c w c1 W1 := by rw [← hW1, ← hc1]; exact (((Step.refl.alloc _).alloc _).put (.inl (Nat.le_refl _))).put (.inl (by omega))
  have hO1 : Ok c1 W1 := by
    rw [← hc1]
    refine Ok.put (Ok.put (by rw [← hW1]; exact (hok.alloc _).alloc _) (by rw [← hW1]; simp; omega) (fun o => by simp [World.frozen?, hK1])) (by rw [← hW1]; simp) (fun o => by simp [World.frozen?, hL1])
  have hcl : c1 (w.heap.size + 1) = kl := by rw [← hc1]; simp
  have hcd : c1 w.heap.size = kl := by rw [← hc1]; simp [Col.put]
  refine ⟨w.heap.size + 1, [{ target := .collected w.heap.size, args := #[] }], W1, { target := .fn (.func gf) lb, args := #[.func (.yield (w.heap.size + 1)) #[] #[]] }, W1, gf,
    #[.func (.yield (w.heap.size + 1)) #[] #[]] ++ lb, W1, ?_, ?_, ?_, ?_, fun h => by simp [Fence.wide] at h, ?_⟩
  · rw [← hW1, hrec]; exact run_enterLoop_outer _ _ _ _ _
  · simp only [resolve, hg]
    simp [go_sem]
  · intro f' _; trivial
  · simp [invoke, go_sem, eg]
  · let J : σ → Col → World → Prop := fun s c2 W => I s c2 W ∧ W.heap[w.heap.size + 1]? = some (.loop (rec .ready none)) ∧ W.heap[w.heap.size]? = some (.deferred (some [])) ∧ c2 (w.heap.size + 1) = kl ∧ c2 w.heap.size = kl
    let Y : σ → Col → World → Prop := fun s c2 W => Iy s c2 W ∧ W.heap[w.heap.size + 1]? = some (.loop (rec .ready none)) ∧ W.heap[w.heap.size]? = some (.deferred (some [])) ∧ c2 (w.heap.size + 1) = kl ∧ c2 w.heap.size = kl
    let Jx : Col → World → Prop := fun c2 W => ∃ j, Ix j c2 W ∧ W.heap[w.heap.size + 1]? = some (.loop (rec .done (some j))) ∧ W.heap[w.heap.size]? = some (.deferred (some [])) ∧ c2 (w.heap.size + 1) = kl ∧ c2 w.heap.size = kl
    have keepB : ∀ {KK : Nat → Prop} {c2 W2 c3 W3 o i}, Step KK c2 W2 c3 W3 → ¬ KK kl → c2 i = kl → W2.heap[i]? = some o → W3.heap[i]? = some o ∧ c3 i = kl := by
      intro KK c2 W2 c3 W3 o i hs hk hc hh
      have hlt := (Array.getElem?_eq_some_iff.1 hh).1
      exact ⟨(hs.block _ hlt (by rw [hc]; exact hk)).trans hh, (hs.col _ hlt (by rw [hc]; exact hk)).trans hc⟩
    have hSK : Step (And1 K kl) c w c1 W1 := hS1.ofNo
    refine (hseq (w.heap.size + 1) J Y Jx c1 W1 s0 hSK hO1 ?_ ?_ ?_ ?_ ?_ ?_).mono ?_
    · rintro s c2 W2 c3 W3 ⟨hi, hl, hd, e1, e2⟩ hs ho
      obtain ⟨a1, a2⟩ := keepB hs (fun h => h) e1 hl
      obtain ⟨b1, b2⟩ := keepB hs (fun h => h) e2 hd
      exact ⟨hI _ _ _ _ _ hi hs.ofNo ho, a1, b1, a2, b2⟩
    · rintro c2 W2 c3 W3 ⟨j, hi, hl, hd, e1, e2⟩ hs ho
      obtain ⟨a1, a2⟩ := keepB hs (fun h => h) e1 hl
      obtain ⟨b1, b2⟩ := keepB hs (fun h => h) e2 hd
      exact ⟨j, hIx _ _ _ _ _ hi hs.ofNo ho, a1, b1, a2, b2⟩
    · rintro s c2 W2 ⟨hi, _⟩
      exact hHd _ _ _ hi
    · rintro s c2 W2 c3 W3 ⟨hi, hl, hd, e1, e2⟩ hf hs ho hy
      obtain ⟨a1, a2⟩ := keepB hs hKil e1 hl
      obtain ⟨b1, b2⟩ := keepB hs hKil e2 hd
      exact ⟨hYd _ _ _ _ _ hi hf hs ho hy, a1, b1, a2, b2⟩
    · -- one round
      rintro s c2 W2 ar hf ⟨hi, hl, hd, e1, e2⟩ ho hst hA
      have hlt : w.heap.size + 1 < W2.heap.size := (Array.getElem?_eq_some_iff.1 hl).1
      have hy := run_yield (P := P) (args := ar) hl (by rw [hr3]; exact hps s _ _ _ hA)
      rw [hr4, hr3, hr5, hr6, hr7] at hy
      refine ⟨fn, _, assign, body, hy, roundIn_of_wpIn hfn (hassign _ s c2 W2 ar hf hi ho hst hA _ ?_)⟩
      intro a1 c3 W3 ho3 hs3 hb3
      obtain ⟨l3, k3⟩ := keepB hs3 hKl e1 hl
      obtain ⟨d3, kd3⟩ := keepB hs3 hKl e2 hd
      have hlt3 : w.heap.size + 1 < W3.heap.size := (Array.getElem?_eq_some_iff.1 l3).1
      refine ⟨_, run_beginRound l3 (hr1 _ _), ?_⟩
      rw [hr8]
      have hs4 : Step (One kl) c3 W3 c3 (W3.putObj (w.heap.size + 1) (.loop (rec .busy none))) := (Step.refl (K := One kl)).putObj (.inr k3) _
      have ho4 : Ok c3 (W3.putObj (w.heap.size + 1) (.loop (rec .busy none))) := ho3.putObj _ (fun a ha => frozen_loop a ha)
      have l4 : (W3.putObj (w.heap.size + 1) (.loop (rec .busy none))).heap[w.heap.size + 1]? = some (.loop (rec .busy none)) := World.putObj_heap_same hlt3
      have d4 : (W3.putObj (w.heap.size + 1) (.loop (rec .busy none))).heap[w.heap.size]? = some (.deferred (some [])) := (World.putObj_heap_other (by omega)).trans d3
      refine wpIn_mono (hbody _ s a1 c3 _ (hB _ _ _ _ _ _ hb3 hs4 ho4) ho4) ?_
      have fin' : ∀ (jump : Option Code) (c5 : Col) (W5 : World), Ok c5 W5 → Step K c3 (W3.putObj (w.heap.size + 1) (.loop (rec .busy none))) c5 W5 →
          (Instr.endRound (w.heap.size + 1) jump).run P W5 = .ok (.bool jump.isNone) (W5.putObj (w.heap.size + 1) (.loop (rec (if jump.isNone then .ready else .done) jump))) ∧
          Step (One kl) c5 W5 c5 (W5.putObj (w.heap.size + 1) (.loop (rec (if jump.isNone then .ready else .done) jump))) ∧ Ok c5 (W5.putObj (w.heap.size + 1) (.loop (rec (if jump.isNone then .ready else .done) jump))) ∧
          (W5.putObj (w.heap.size + 1) (.loop (rec (if jump.isNone then .ready else .done) jump))).heap[w.heap.size + 1]? = some (.loop (rec (if jump.isNone then .ready else .done) jump)) ∧
          (W5.putObj (w.heap.size + 1) (.loop (rec (if jump.isNone then .ready else .done) jump))).heap[w.heap.size]? = some (.deferred (some [])) ∧ c5 (w.heap.size + 1) = kl ∧ c5 w.heap.size = kl ∧
          Step (And1 K kl) c2 W2 c5 (W5.putObj (w.heap.size + 1) (.loop (rec (if jump.isNone then .ready else .done) jump))) := by
        intro jump c5 W5 ho5 hs5
        obtain ⟨l5, k5⟩ := keepB hs5 hKl k3 l4
        obtain ⟨d5, kd5⟩ := keepB hs5 hKl kd3 d4
        have hrun := run_endRound (P := P) jump l5
        rw [hr9] at hrun
        have hs6 : Step (One kl) c5 W5 c5 (W5.putObj (w.heap.size + 1) (.loop (rec (if jump.isNone then .ready else .done) jump))) := (Step.refl (K := One kl)).putObj (.inr k5) _
        refine ⟨hrun, hs6, ho5.putObj _ (fun a ha => frozen_loop a ha), World.putObj_heap_same (Array.getElem?_eq_some_iff.1 l5).1, (World.putObj_heap_other (by omega)).trans d5, k5, kd5, ?_⟩
        exact ((hs3.mono (fun _ h => .inl h)).trans (hs4.mono (fun _ h => .inr h))).trans ((hs5.mono (fun _ h => .inl h)).trans (hs6.mono (fun _ h => .inr h)))
      rintro e a3 W5 hp
      cases e with
      | normal =>
        obtain ⟨c5, ho5, hs5, s', hmu, hi5⟩ := hp
        obtain ⟨f1, f2, f3, f4, f5, f6, f7, f8⟩ := fin' none c5 W5 ho5 hs5
        exact ⟨_, _, f1, c5, f3, f8, .inl ⟨rfl, s', hmu, hI _ _ _ _ _ hi5 f2 f3, f4, f5, f6, f7⟩⟩
      | ret =>
        obtain ⟨c5, ho5, hs5, hi5⟩ := hp
        obtain ⟨f1, f2, f3, f4, f5, f6, f7, f8⟩ := fin' (some .ret) c5 W5 ho5 hs5
        exact ⟨_, _, f1, c5, f3, f8, .inr ⟨rfl, .ret, hIx _ _ _ _ _ hi5 f2 f3, f4, f5, f6, f7⟩⟩
      | exit id =>
        obtain ⟨c5, ho5, hs5, hi5⟩ := hp
        obtain ⟨f1, f2, f3, f4, f5, f6, f7, f8⟩ := fin' (some (.exit id)) c5 W5 ho5 hs5
        exact ⟨_, _, f1, c5, f3, f8, .inr ⟨rfl, .exit id, hIx _ _ _ _ _ hi5 f2 f3, f4, f5, f6, f7⟩⟩
      | goto t =>
        obtain ⟨c5, ho5, hs5, hi5⟩ := hp
        obtain ⟨f1, f2, f3, f4, f5, f6, f7, f8⟩ := fin' (some (.goto t)) c5 W5 ho5 hs5
        exact ⟨_, _, f1, c5, f3, f8, .inr ⟨rfl, .goto t, hIx _ _ _ _ _ hi5 f2 f3, f4, f5, f6, f7⟩⟩
      | panic ch => exact hp.elim
      | outgrown => exact hp.elim
    · exact ⟨hI _ _ _ _ _ h0 hS1.ofNo hO1, hL1, hK1, hcl, hcd⟩
    · rintro e W2 ⟨⟨v, rfl⟩, c2, ho2, hs2, (⟨s, hf, hi, hl, hd, e1, e2⟩ | ⟨j, hi, hl, hd, e1, e2⟩)⟩
      · have hrun := run_endLoop (P := P) hl (by rw [hr1]; simp)
        rw [hr8, hr2] at hrun
        have hs3 : Step (One kl) c2 W2 c2 (W2.putObj (w.heap.size + 1) (.loop (rec .exhausted none))) := (Step.refl (K := One kl)).putObj (.inr e1) _
        have ho3 : Ok c2 (W2.putObj (w.heap.size + 1) (.loop (rec .exhausted none))) := ho2.putObj _ (fun a ha => frozen_loop a ha)
        exact ⟨none, _, hrun, hdone _ s c2 _ hf (hI _ _ _ _ _ hi hs3 ho3) ho3 ((hSK.trans hs2).trans (hs3.mono fun _ h => .inr h)) ((World.putObj_heap_other (by omega)).trans hd) (Nat.le_refl _) e2⟩
      · have hrun := run_endLoop (P := P) hl (by rw [hr1]; simp)
        rw [hr8, hr2] at hrun
        have hs3 : Step (One kl) c2 W2 c2 (W2.putObj (w.heap.size + 1) (.loop (rec .exhausted (some j)))) := (Step.refl (K := One kl)).putObj (.inr e1) _
        have ho3 : Ok c2 (W2.putObj (w.heap.size + 1) (.loop (rec .exhausted (some j)))) := ho2.putObj _ (fun a ha => frozen_loop a ha)
        refine ⟨some j, _, hrun, ?_⟩
        show j.wpIn Fence.wide 0 P Q _ _
        rw [wpIn_wide]
        exact hstop _ j c2 _ (hIx _ _ _ _ _ hi hs3 ho3) ho3 ((hSK.trans hs2).trans (hs3.mono fun _ h => .inr h)) ((World.putObj_heap_other (by omega)).trans hd) (Nat.le_refl _) e2

theorem At.setj {c : Col} {W : World} {b k : Nat} {vs : List Value} (h : At c W b k vs) {j : Nat} (hj : j < vs.length) (u : Value) : At c (W.setCell ⟨b, j, none⟩ u) b k (vs.set j u) := by
  refine ⟨h.col, by rw [size_setCell]; exact h.lt, fun i x hx => ?_⟩
  by_cases e : j = i
  · subst e
    rw [List.getElem?_set_self hj] at hx
    cases hx
    rw [Nat.zero_add]
    refine World.cell?_setCell_same' _ _ _ ?_
    have := h.cells j (vs[j]) (by simp [hj])
    rw [Nat.zero_add] at this
    rw [this]; rfl
  · rw [List.getElem?_set_ne e] at hx
    rw [World.cell?_setCell_other _ _ _ _ (by intro h; injection h with h1 h2; omega)]
    exact h.cells i x hx

theorem At.get {c : Col} {W : World} {b k : Nat} {vs : List Value} (h : At c W b k vs) (j : Nat) {u : Value} (hj : vs[j]? = some u) : W.cell? ⟨b, j, none⟩ = some u := by
  have := h.cells j u hj
  rwa [Nat.zero_add] at this

/-- Nothing of a block is frozen. -/
def Soft (W : World) (b : Nat) : Prop := ∀ o, W.frozen? ⟨b, o, none⟩ = false
theorem Soft.set {W : World} {b : Nat} (h : Soft W b) (a : Addr) (u : Value) : Soft (W.setCell a u) b := fun o => by rw [frozen?_setCell']; exact h o
theorem Soft.step {K : Nat → Prop} {c c' : Col} {W W' : World} {b : Nat} (h : Soft W b) (hs : Step K c W c' W') (hb : b < W.heap.size) (hk : ¬ K (c b)) : Soft W' b := fun o => (hs.frozen hb hk).trans (h o)
theorem soft_new (w : World) (vs : List Value) (e : TypeId) : Soft (w.alloc (.cells vs.toArray e)) w.heap.size := by
  intro o
  have hnew : (w.alloc (.cells vs.toArray e)).heap[w.heap.size]? = some (.cells vs.toArray e (0, 0)) := heap_alloc_new w _
  unfold World.frozen?; rw [hnew]; simp

/-- The frame under a name. -/
theorem wp_cap {P : Program} {Q : Exit → Act → World → Prop} {cd : Code} {a : Act} {w : World} (h : ∀ A, A = a → cd.wp P Q A w) : cd.wp P Q a w := h a rfl

/-- A region that does not draw, in a round: by the plain rules. -/
theorem region_roundL {P : Program} {Q : Exit → Act → World → Prop} {id : Nat} {a : Act} {w : World} {lp : Nat} {l : List Oper} (hd : noDefers l.toArray = true) (hq : ¬ LetsOut Q)
    (h : wpList P l.toArray Q l a w) : (Code.region id l.toArray false).wpIn (Fence.wide.inRound lp) 0 P Q a w := by
  refine wpIn_region (wpOpsIn_of_wpOps (noDefers_spec hd) hq lp _ _ _ ?_)
  rw [List.range_eq_range', ← Array.length_toList, wpOps_eq_wpList l.toArray.toList 0 (by simp)]
  simpa using h
end Go.Proofs.Ytcagfdmafelbkab
