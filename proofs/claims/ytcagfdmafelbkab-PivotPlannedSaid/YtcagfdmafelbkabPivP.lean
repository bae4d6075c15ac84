/- Pivot: what a plan answers (plain). -/
import Derived.Test.YtcagfdmafelbkabPiv5
import Derived.Test.YtcagfdmafelbkabPiv6
set_option linter.unusedVariables false
set_option linter.unusedSimpArgs false
namespace Go.Proofs.Ytcagfdmafelbkab

abbrev Pair := Int × Int

/-- The step that is tried. -/
def tri (holds : List Pair) (s : Stk) : Tri := ⟨s.low, topL s.l, decide ((s.low, topL s.l) ∈ holds)⟩

/-- What is tried from here on, what is asked for, whether all is done. -/
def planR (holds : List Pair) : Nat → Stk → List Tri × List Int × Bool
  | 0, _ => ([], [], true)
  | n + 1, s => if s.l = [] then ([], [], true) else
    if (tri holds s).held = true then ((tri holds s) :: (planR holds n (popS s)).1, (planR holds n (popS s)).2.1, (planR holds n (popS s)).2.2)
    else if splitE s = 0 then ((tri holds s) :: (planR holds n (splitS s)).1, splitH s :: (planR holds n (splitS s)).2.1, (planR holds n (splitS s)).2.2)
    else ([tri holds s], [], false)

/-- How much is left to do. -/
def muS (s : Stk) : Nat := (2 * (s.target - s.low) - s.l.length).toNat

structure Fine (s : Stk) : Prop where
  good : Good s
  all : ∀ x ∈ s.l, x ≤ s.target
  room : (s.l.length : Int) ≤ s.target - s.low

theorem desc_len : ∀ (l : List Int) (low t : Int), l.Pairwise (· > ·) → (∀ x ∈ l, low < x ∧ x ≤ t) → low ≤ t → (l.length : Int) ≤ t - low
  | [], low, t, _, _, h => by simp; omega
  | a :: l, low, t, hd, ha, h => by
    rw [List.pairwise_cons] at hd
    have h1 := ha a (by simp)
    have := desc_len l low (a - 1) hd.2 (fun x hx => ⟨(ha x (by simp [hx])).1, by have := hd.1 x hx; omega⟩) (by omega)
    simp only [List.length_cons]
    omega

theorem Fine.mk' {s : Stk} (g : Good s) (h : ∀ x ∈ s.l, x ≤ s.target) (hl : s.low ≤ s.target) : Fine s :=
  ⟨g, h, desc_len s.l s.low s.target g.desc (fun x hx => ⟨(g.all x hx).1, h x hx⟩) hl⟩

theorem popS_low {s : Stk} (h : s.l ≠ []) : popS s = { s with low := topL s.l, l := s.l.dropLast } := by simp [popS, h]

theorem Fine.pop {s : Stk} (f : Fine s) (h : s.l ≠ []) : Fine (popS s) := by
  have ht := f.all _ (topL_mem h)
  refine Fine.mk' f.good.pop ?_ ?_
  · rw [popS_low h]; exact fun x hx => f.all x ((List.dropLast_sublist _).subset hx)
  · rw [popS_low h]; exact ht

theorem muS_pop {s : Stk} (f : Fine s) (h : s.l ≠ []) : muS (popS s) < muS s := by
  have h1 := (f.good.top h).2
  have h2 := (f.pop h).room
  have h3 := f.room
  rw [popS_low h] at h2 ⊢
  unfold muS
  simp only [List.length_dropLast] at h2 ⊢
  have hp : 0 < s.l.length := List.length_pos_iff.2 h
  omega

theorem splitS_eq {s : Stk} (h : splitE s = 0) : s.l ≠ [] ∧ splitS s = { s with l := s.l ++ [mid s.low (topL s.l)] } ∧ topL s.l ≠ s.low + 1 ∧ splitH s = mid s.low (topL s.l) := by
  unfold splitE at h
  by_cases hc : s.l = [] ∨ topL s.l = s.low + 1
  · rw [if_pos hc] at h; cases h
  · exact ⟨fun e => hc (.inl e), by simp [splitS, hc], fun e => hc (.inr e), by simp [splitH, hc]⟩

theorem Fine.split {s : Stk} (f : Fine s) (h : splitE s = 0) : Fine (splitS s) := by
  obtain ⟨h1, h2, h3, _⟩ := splitS_eq h
  have hm := mid_lt (f.good.top h1).2 h3
  have ht := f.all _ (topL_mem h1)
  refine Fine.mk' f.good.split ?_ ?_
  · rw [h2]
    intro x hx
    rw [List.mem_append, List.mem_singleton] at hx
    rcases hx with hx | rfl
    · exact f.all x hx
    · show mid s.low (topL s.l) ≤ s.target; omega
  · rw [h2]; show s.low ≤ s.target; have := (f.good.top h1).2; omega

theorem muS_split {s : Stk} (f : Fine s) (h : splitE s = 0) : muS (splitS s) < muS s := by
  have h3 := (f.split h).room
  have h4 := f.room
  obtain ⟨h1, h2, _, _⟩ := splitS_eq h
  have hp : 0 < s.l.length := List.length_pos_iff.2 h1
  rw [h2] at h3 ⊢
  unfold muS
  simp only [List.length_append, List.length_cons, List.length_nil] at h3 ⊢
  omega

theorem planR_fuel (holds : List Pair) : ∀ (n m : Nat) (s : Stk), Fine s → muS s < n → n ≤ m → planR holds n s = planR holds m s
  | 0, _, _, _, h, _ => absurd h (Nat.not_lt_zero _)
  | n + 1, m, s, f, h, hm => by
    obtain ⟨m, rfl⟩ : ∃ m', m = m' + 1 := ⟨m - 1, by omega⟩
    simp only [planR]
    by_cases hl : s.l = []
    · simp [hl]
    · simp only [hl, if_false]
      by_cases hh : (tri holds s).held = true
      · simp only [hh, if_true]
        have := muS_pop f hl
        rw [planR_fuel holds n m (popS s) (f.pop hl) (by omega) (by omega)]
      · rw [Bool.not_eq_true] at hh
        simp only [hh, Bool.false_eq_true, if_false]
        by_cases he : splitE s = 0
        · have := muS_split f he
          simp only [he, if_true]
          rw [planR_fuel holds n m (splitS s) (f.split he) (by omega) (by omega)]
        · simp [he]

/-- The plan from a stack. -/
def plan (holds : List Pair) (s : Stk) : List Tri × List Int × Bool := planR holds (muS s + 1) s

theorem plan_nil {holds : List Pair} {s : Stk} (h : s.l = []) : plan holds s = ([], [], true) := by simp [plan, planR, h]

theorem plan_pop {holds : List Pair} {s : Stk} (f : Fine s) (h : s.l ≠ []) (hh : (tri holds s).held = true) : plan holds s = ((tri holds s) :: (plan holds (popS s)).1, (plan holds (popS s)).2.1, (plan holds (popS s)).2.2) := by
  have hm := muS_pop f h
  unfold plan
  rw [planR_fuel holds (muS (popS s) + 1) (muS s) (popS s) (f.pop h) (by omega) (by omega)]
  simp only [planR, h, if_false, hh, if_true]

theorem plan_split {holds : List Pair} {s : Stk} (f : Fine s) (hh : (tri holds s).held = false) (he : splitE s = 0) : plan holds s = ((tri holds s) :: (plan holds (splitS s)).1, splitH s :: (plan holds (splitS s)).2.1, (plan holds (splitS s)).2.2) := by
  have hm := muS_split f he
  have h := (splitS_eq he).1
  unfold plan
  rw [planR_fuel holds (muS (splitS s) + 1) (muS s) (splitS s) (f.split he) (by omega) (by omega)]
  simp only [planR, h, if_false, hh, he, if_true]
  simp

theorem plan_broken {holds : List Pair} {s : Stk} (h : s.l ≠ []) (hh : (tri holds s).held = false) (he : splitE s ≠ 0) : plan holds s = ([tri holds s], [], false) := by
  unfold plan
  simp only [planR, h, if_false, hh, he]
  simp

theorem plan_len (holds : List Pair) : ∀ (n : Nat) (s : Stk), (planR holds n s).1.length ≤ n ∧ (planR holds n s).2.1.length ≤ n
  | 0, _ => by simp [planR]
  | n + 1, s => by
    simp only [planR]
    have h1 := plan_len holds n (popS s)
    have h2 := plan_len holds n (splitS s)
    split
    · simp
    · split
      · simp; omega
      · split
        · simp; omega
        · simp

theorem newS_fine {r t : Int} (hr : isH r) (ht : isH t) (h : r < t) : Fine (newS r t) :=
  Fine.mk' ⟨hr, ht, h, hr, fun x hx => by simp [newS] at hx; subst hx; exact ⟨h, ht.2⟩, by simp [newS]⟩ (fun x hx => by simp [newS] at hx; subst hx; exact Int.le_refl _) (by simp [newS]; omega)
end Go.Proofs.Ytcagfdmafelbkab
