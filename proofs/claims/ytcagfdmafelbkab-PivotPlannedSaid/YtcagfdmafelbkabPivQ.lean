/- The law PivotPlanned: what a plan is (plain). -/
import Derived.Test.YtcagfdmafelbkabPivP
set_option linter.unusedVariables false
set_option linter.unusedSimpArgs false
namespace Go.Proofs.Ytcagfdmafelbkab

theorem plan_ind {hs : List Pair} {M : Stk → Prop} (h0 : ∀ s, Fine s → s.l = [] → M s) (hp : ∀ s, Fine s → s.l ≠ [] → (tri hs s).held = true → M (popS s) → M s)
    (hsp : ∀ s, Fine s → (tri hs s).held = false → splitE s = 0 → M (splitS s) → M s) (hb : ∀ s, Fine s → s.l ≠ [] → (tri hs s).held = false → splitE s ≠ 0 → M s) : ∀ s, Fine s → M s := by
  have main : ∀ (n : Nat) (s : Stk), Fine s → muS s < n → M s := by
    intro n
    induction n with
    | zero => intro s _ h; exact absurd h (Nat.not_lt_zero _)
    | succ n ih =>
      intro s f h
      by_cases hl : s.l = []
      · exact h0 s f hl
      · rcases hh : (tri hs s).held
        · by_cases he : splitE s = 0
          · have := muS_split f he
            exact hsp s f hh he (ih _ (f.split he) (by omega))
          · exact hb s f hl hh he
        · have := muS_pop f hl
          exact hp s f hl hh (ih _ (f.pop hl) (by omega))
  exact fun s f => main (muS s + 1) s f (by omega)

theorem plan_tries (hs : List Pair) : ∀ s, Fine s → (plan hs s).1.length ≤ muS s := by
  refine plan_ind (hs := hs) ?_ ?_ ?_ ?_
  · intro s f h; rw [plan_nil h]; simp
  · intro s f h hh ih; rw [plan_pop f h hh]; have := muS_pop f h; simp only [List.length_cons]; omega
  · intro s f hh he ih; rw [plan_split f hh he]; have := muS_split f he; simp only [List.length_cons]; omega
  · intro s f h hh he
    rw [plan_broken h hh he]
    have h1 := (f.good.top h).2
    have h2 := f.all _ (topL_mem h)
    have h3 := f.room
    simp only [List.length_singleton]
    unfold muS
    omega

theorem plan_asks (hs : List Pair) : ∀ s, Fine s → ((plan hs s).2.1.length : Int) + s.l.length ≤ s.target - s.low := by
  refine plan_ind (hs := hs) ?_ ?_ ?_ ?_
  · intro s f h
    have := f.room
    rw [plan_nil h, h]
    rw [h] at this
    simpa using this
  · intro s f h hh ih
    rw [plan_pop f h hh]
    have h1 := (f.good.top h).2
    have hp : 0 < s.l.length := List.length_pos_iff.2 h
    rw [popS_low h] at ih ⊢
    simp only [List.length_dropLast] at ih ⊢
    omega
  · intro s f hh he ih
    rw [plan_split f hh he]
    obtain ⟨h1, h2, _, _⟩ := splitS_eq he
    rw [h2] at ih ⊢
    simp only [List.length_append, List.length_cons, List.length_nil] at ih ⊢
    omega
  · intro s f h hh he
    rw [plan_broken h hh he]
    have h3 := f.room
    simpa using h3

theorem topL_split {l : List Int} (h : l ≠ []) : ∃ l', l = l' ++ [topL l] ∧ l.dropLast = l' := by
  rcases List.eq_nil_or_concat l with rfl | ⟨l', t, rfl⟩
  · exact absurd rfl h
  · refine ⟨l', ?_, ?_⟩
    · rw [List.concat_eq_append, topL_snoc]
    · rw [List.concat_eq_append, List.dropLast_concat]

theorem plan_asked (hs : List Pair) : ∀ s, Fine s → (∀ x ∈ (plan hs s).2.1, s.low < x ∧ x ≤ s.target ∧ x ∉ s.l) ∧ (plan hs s).2.1.Pairwise (· ≠ ·) := by
  refine plan_ind (hs := hs) ?_ ?_ ?_ ?_
  · intro s f h; rw [plan_nil h]; simp
  · intro s f h hh ih
    rw [plan_pop f h hh]
    have h1 := (f.good.top h).2
    obtain ⟨l', e1, e2⟩ := topL_split h
    obtain ⟨i1, i2⟩ := ih
    refine ⟨fun x hx => ?_, i2⟩
    obtain ⟨a1, a2, a3⟩ := i1 x hx
    rw [popS_low h] at a1 a2 a3
    refine ⟨Int.lt_trans h1 a1, a2, fun hm => ?_⟩
    rw [e1, List.mem_append, List.mem_singleton] at hm
    rcases hm with hm | rfl
    · exact a3 (by show x ∈ s.l.dropLast; rw [e2]; exact hm)
    · exact absurd a1 (Int.lt_irrefl _)
  · intro s f hh he ih
    rw [plan_split f hh he]
    obtain ⟨h1, h2, h3, h4⟩ := splitS_eq he
    have hm := mid_lt (f.good.top h1).2 h3
    have ht := f.all _ (topL_mem h1)
    obtain ⟨i1, i2⟩ := ih
    rw [h2] at i1 i2 ⊢
    rw [h4]
    have hn : mid s.low (topL s.l) ∉ s.l := fun hx => by
      have := desc_top f.good.desc _ hx
      omega
    refine ⟨fun x hx => ?_, List.pairwise_cons.2 ⟨fun y hy e => ?_, i2⟩⟩
    · rcases List.mem_cons.1 hx with rfl | hx
      · exact ⟨hm.1, by omega, hn⟩
      · obtain ⟨a1, a2, a3⟩ := i1 x hx
        exact ⟨a1, a2, fun hm => a3 (List.mem_append_left _ hm)⟩
    · subst e
      exact (i1 _ hy).2.2 (List.mem_append_right _ (List.mem_singleton.2 rfl))
  · intro s f h hh he; rw [plan_broken h hh he]; simp

theorem plan_tos (hs : List Pair) : ∀ s, Fine s → ∀ x ∈ (plan hs s).1, x.to_ ∈ s.l ∨ x.to_ ∈ (plan hs s).2.1 := by
  refine plan_ind (hs := hs) ?_ ?_ ?_ ?_
  · intro s f h; rw [plan_nil h]; simp
  · intro s f h hh ih
    rw [plan_pop f h hh]
    intro x hx
    rcases List.mem_cons.1 hx with rfl | hx
    · exact .inl (topL_mem h)
    · rcases ih x hx with h1 | h1
      · rw [popS_low h] at h1
        exact .inl ((List.dropLast_sublist _).subset h1)
      · exact .inr h1
  · intro s f hh he ih
    rw [plan_split f hh he]
    obtain ⟨h1, h2, h3, h4⟩ := splitS_eq he
    intro x hx
    rcases List.mem_cons.1 hx with rfl | hx
    · exact .inl (topL_mem h1)
    · rcases ih x hx with a | a
      · rw [h2] at a
        rcases List.mem_append.1 a with a | a
        · exact .inl a
        · rw [List.mem_singleton] at a
          exact .inr (by rw [a, ← h4]; exact List.mem_cons_self ..)
      · exact .inr (List.mem_cons_of_mem _ a)
  · intro s f h hh he
    rw [plan_broken h hh he]
    intro x hx
    rw [List.mem_singleton] at hx
    subst hx
    exact .inl (topL_mem h)

/-- Where tries lead from a base. -/
def endB (b : Int) : List Tri → Int
  | [] => b
  | x :: l => endB (if x.held = true then x.to_ else b) l
/-- Each try goes from where the one before it left the base. -/
def Chain (b : Int) : List Tri → Prop
  | [] => True
  | x :: l => x.from_ = b ∧ Chain (if x.held = true then x.to_ else b) l

theorem plan_chain (hs : List Pair) : ∀ s, Fine s → Chain s.low (plan hs s).1 := by
  refine plan_ind (hs := hs) ?_ ?_ ?_ ?_
  · intro s f h; rw [plan_nil h]; trivial
  · intro s f h hh ih
    rw [plan_pop f h hh]
    refine ⟨rfl, ?_⟩
    rw [if_pos hh]
    have e : (popS s).low = (tri hs s).to_ := by rw [popS_low h]; rfl
    rw [← e]; exact ih
  · intro s f hh he ih
    rw [plan_split f hh he]
    obtain ⟨h1, h2, h3, h4⟩ := splitS_eq he
    refine ⟨rfl, ?_⟩
    rw [if_neg (by rw [hh]; decide)]
    have e : (splitS s).low = s.low := by rw [h2]
    rw [← e]; exact ih
  · intro s f h hh he
    rw [plan_broken h hh he]
    exact ⟨rfl, trivial⟩

/-- The lowest height is the target. -/
def Bot (s : Stk) : Prop := (s.l = [] → s.low = s.target) ∧ (s.l ≠ [] → s.l[0]? = some s.target)

theorem Bot.pop {s : Stk} (b : Bot s) (h : s.l ≠ []) : Bot (popS s) := by
  obtain ⟨l', e1, e2⟩ := topL_split h
  have h0 := b.2 h
  rw [popS_low h]
  constructor
  · intro hn
    have hn : s.l.dropLast = [] := hn
    rw [e2] at hn
    rw [e1, hn] at h0
    simpa using h0
  · intro hn
    have hn : s.l.dropLast ≠ [] := hn
    show s.l.dropLast[0]? = some s.target
    rw [e2] at hn ⊢
    rw [e1, List.getElem?_append_left (List.length_pos_iff.2 hn)] at h0
    exact h0

theorem Bot.split {s : Stk} (b : Bot s) (h : splitE s = 0) : Bot (splitS s) := by
  obtain ⟨h1, h2, _, _⟩ := splitS_eq h
  have h0 := b.2 h1
  rw [h2]
  constructor
  · intro hn; simp at hn
  · intro _
    show (s.l ++ [mid s.low (topL s.l)])[0]? = some s.target
    rw [List.getElem?_append_left (List.length_pos_iff.2 h1)]
    exact h0

theorem plan_end (hs : List Pair) : ∀ s, Fine s → Bot s → ((plan hs s).2.2 = decide (endB s.low (plan hs s).1 = s.target)) ∧
    ((plan hs s).2.2 = false → ∃ pre x, (plan hs s).1 = pre ++ [x] ∧ x.to_ = x.from_ + 1 ∧ x.held = false) := by
  refine plan_ind (hs := hs) ?_ ?_ ?_ ?_
  · intro s f h b; rw [plan_nil h]; simp [endB, b.1 h]
  · intro s f h hh ih b
    obtain ⟨i1, i2⟩ := ih (b.pop h)
    rw [plan_pop f h hh]
    have e : (popS s).low = (tri hs s).to_ := by rw [popS_low h]; rfl
    have et : (popS s).target = s.target := by rw [popS_low h]
    refine ⟨?_, fun hf => ?_⟩
    · show (plan hs (popS s)).2.2 = decide (endB (if (tri hs s).held = true then (tri hs s).to_ else s.low) (plan hs (popS s)).1 = s.target)
      rw [if_pos hh, ← e, ← et]; exact i1
    · obtain ⟨pre, x, e1, e2⟩ := i2 hf
      exact ⟨tri hs s :: pre, x, by rw [e1]; rfl, e2⟩
  · intro s f hh he ih b
    obtain ⟨i1, i2⟩ := ih (b.split he)
    rw [plan_split f hh he]
    obtain ⟨h1, h2, h3, h4⟩ := splitS_eq he
    have e : (splitS s).low = s.low := by rw [h2]
    have et : (splitS s).target = s.target := by rw [h2]
    refine ⟨?_, fun hf => ?_⟩
    · show (plan hs (splitS s)).2.2 = decide (endB (if (tri hs s).held = true then (tri hs s).to_ else s.low) (plan hs (splitS s)).1 = s.target)
      rw [if_neg (by rw [hh]; decide), ← e, ← et]; exact i1
    · obtain ⟨pre, x, e1, e2⟩ := i2 hf
      exact ⟨tri hs s :: pre, x, by rw [e1]; rfl, e2⟩
  · intro s f h hh he b
    rw [plan_broken h hh he]
    have h1 := (f.good.top h).2
    have h2 := f.all _ (topL_mem h)
    refine ⟨?_, fun _ => ⟨[], tri hs s, rfl, ?_, hh⟩⟩
    · show false = decide (endB (if (tri hs s).held = true then (tri hs s).to_ else s.low) [] = s.target)
      rw [if_neg (by rw [hh]; decide)]
      have : ¬ s.low = s.target := by omega
      simp [endB, this]
    · rcases splitE_or s with e | e
      · exact absurd e he
      · rcases e with e | e
        · exact absurd e h
        · exact e
where
  splitE_or (s : Stk) : splitE s = 0 ∨ (s.l = [] ∨ topL s.l = s.low + 1) := by
    by_cases h : s.l = [] ∨ topL s.l = s.low + 1
    · exact .inr h
    · exact .inl (by simp [splitE, h])

theorem plan_adj {hs : List Pair} {root target : Int} (ha : ∀ h, root ≤ h → h < target → (h, h + 1) ∈ hs) : ∀ s, Fine s → root ≤ s.low → s.target = target → (plan hs s).2.2 = true := by
  refine plan_ind (hs := hs) ?_ ?_ ?_ ?_
  · intro s f h _ _; rw [plan_nil h]
  · intro s f h hh ih b1 b2
    rw [plan_pop f h hh]
    have h1 := (f.good.top h).2
    refine ih ?_ ?_
    · rw [popS_low h]; show root ≤ topL s.l; omega
    · rw [popS_low h]; exact b2
  · intro s f hh he ih b1 b2
    rw [plan_split f hh he]
    obtain ⟨h1, h2, h3, h4⟩ := splitS_eq he
    refine ih ?_ ?_
    · rw [h2]; exact b1
    · rw [h2]; exact b2
  · intro s f h hh he b1 b2
    have h1 := (f.good.top h).2
    have h2 := f.all _ (topL_mem h)
    have e : topL s.l = s.low + 1 := by
      rcases plan_end.splitE_or s with e | e | e
      · exact absurd e he
      · exact absurd e h
      · exact e
    have := ha s.low b1 (by omega)
    rw [← e] at this
    simp [tri, this] at hh

/-- What a plan is. -/
structure Planned (r t : Int) (tries : List Tri) (asked : List Int) (done : Bool) : Prop where
  some : 0 < tries.length
  few : (tries.length : Int) ≤ 2 * (t - r) - 1
  asks : (asked.length : Int) ≤ t - r
  range : ∀ x ∈ asked, r < x ∧ x ≤ t
  once : asked.Pairwise (· ≠ ·)
  chain : Chain r tries
  tos : ∀ x ∈ tries, x.to_ ∈ asked
  fin : done = decide (endB r tries = t)
  last : done = false → ∃ pre x, tries = pre ++ [x] ∧ x.to_ = x.from_ + 1 ∧ x.held = false

theorem planned (hs : List Pair) {r t : Int} (hr : isH r) (ht : isH t) (h : r < t) : Planned r t (plan hs (newS r t)).1 (t :: (plan hs (newS r t)).2.1) (plan hs (newS r t)).2.2 := by
  have f := newS_fine hr ht h
  have hb : Bot (newS r t) := ⟨fun e => by simp [newS] at e, fun _ => rfl⟩
  have hne : (newS r t).l ≠ [] := by simp [newS]
  obtain ⟨a1, a2⟩ := plan_asked hs _ f
  obtain ⟨e1, e2⟩ := plan_end hs _ f hb
  refine ⟨?_, ?_, ?_, ?_, ?_, plan_chain hs _ f, ?_, e1, e2⟩
  · rcases hh : (tri hs (newS r t)).held
    · by_cases he : splitE (newS r t) = 0
      · rw [plan_split f hh he]; simp
      · rw [plan_broken hne hh he]; simp
    · rw [plan_pop f hne hh]; simp
  · have h1 := plan_tries hs _ f
    simp only [muS, newS, List.length_singleton] at h1
    simp only [newS]
    omega
  · have h1 := plan_asks hs _ f
    simp only [newS, List.length_singleton] at h1
    simp only [newS, List.length_cons]
    push_cast
    omega
  · intro x hx
    rcases List.mem_cons.1 hx with rfl | hx
    · exact ⟨h, Int.le_refl _⟩
    · exact ⟨(a1 x hx).1, (a1 x hx).2.1⟩
  · refine List.pairwise_cons.2 ⟨fun y hy e => ?_, a2⟩
    subst e
    exact (a1 _ hy).2.2 (by simp [newS])
  · intro x hx
    rcases plan_tos hs _ f x hx with h1 | h1
    · simp [newS] at h1; rw [h1]; exact List.mem_cons_self ..
    · exact List.mem_cons_of_mem _ h1

theorem planned_adj {hs : List Pair} {r t : Int} (hr : isH r) (ht : isH t) (h : r < t) (ha : ∀ h, r ≤ h → h < t → (h, h + 1) ∈ hs) : (plan hs (newS r t)).2.2 = true :=
  plan_adj ha _ (newS_fine hr ht h) (Int.le_refl _) rfl
end Go.Proofs.Ytcagfdmafelbkab
