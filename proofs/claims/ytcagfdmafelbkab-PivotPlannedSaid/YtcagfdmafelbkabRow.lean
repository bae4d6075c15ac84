/- Own library: a row of values written at once. -/
import Derived.Test.YtcagfdmafelbkabByt
set_option linter.unusedVariables false
set_option linter.unusedSimpArgs false
namespace Go.Proofs.Ytcagfdmafelbkab
open Go.RowKit

def setMany (w : World) (b o : Nat) : List Value → World
  | [] => w
  | v :: vs => setMany (w.setCell ⟨b, o, none⟩ v) b (o + 1) vs

theorem setMany_other : ∀ (vs : List Value) (w : World) (b o : Nat) (p : Addr), (p.block ≠ b ∨ p.off < o ∨ o + vs.length ≤ p.off) → (setMany w b o vs).cell? p = w.cell? p
  | [], _, _, _, _, _ => rfl
  | v :: vs, w, b, o, p, h => by
    simp only [setMany]
    rw [setMany_other vs _ b (o + 1) p (by simp only [List.length_cons] at h; omega)]
    refine World.cell?_setCell_other _ _ _ _ (fun e => ?_)
    subst e
    simp only [List.length_cons, ne_eq, not_true_eq_false, false_or] at h
    omega

theorem setMany_cells : ∀ (vs : List Value) (w : World) (b o : Nat), (∀ j, j < vs.length → (w.cell? ⟨b, o + j, none⟩).isSome = true) → CellsAt (setMany w b o vs) b o vs
  | [], _, _, _, _ => by intro j u hu; simp at hu
  | v :: vs, w, b, o, h => by
    intro j u hu
    simp only [setMany]
    cases j with
    | zero =>
      simp at hu; subst hu
      rw [setMany_other vs _ b (o + 1) _ (by simp)]
      exact World.cell?_setCell_same' _ _ _ (h 0 (by simp))
    | succ j =>
      simp at hu
      have := setMany_cells vs (w.setCell ⟨b, o, none⟩ v) b (o + 1) (fun i hi => by
        rw [World.cell?_setCell_other _ _ _ _ (by intro e; injection e with e1 e2; omega)]
        have := h (i + 1) (by simp; omega)
        rwa [show o + 1 + i = o + (i + 1) by omega]) j u hu
      rwa [show o + (j + 1) = o + 1 + j by omega]

theorem setMany_step {K : Nat → Prop} {c0 : Col} {w0 : World} {c : Col} {b : Nat} (hb : w0.heap.size ≤ b ∨ K (c0 b)) : ∀ (vs : List Value) (w : World) (o : Nat), Step K c0 w0 c w → Step K c0 w0 c (setMany w b o vs)
  | [], _, _, h => h
  | v :: vs, w, o, h => setMany_step hb vs _ _ (h.setCell (a := ⟨b, o, none⟩) hb v)

theorem setMany_ok {c : Col} {b : Nat} : ∀ (vs : List Value) (w : World) (o : Nat), Ok c w → Ok c (setMany w b o vs)
  | [], _, _, h => h
  | v :: vs, w, o, h => setMany_ok vs _ _ (h.setCell _ _)

/-- An element written over. -/
theorem Sl.put {α : Type} {T : Ty α} {c : Col} {k k2 : Nat} {w : World} {b off len cap : Nat} {l : List α} (h : Sl T c k k2 w (.slice (some ⟨b, off, none⟩) len cap) l) (hk : k2 ≠ k) {j : Nat} (hj : j < l.length) {vs : List Value} {x : α} (hr : T.rd c k2 w vs x) :
    Sl T c k k2 (setMany w b (off + j * T.n) vs) (.slice (some ⟨b, off, none⟩) len cap) (l.set j x) := by
  rcases h with ⟨rfl, _⟩ | ⟨b', off', cap', hv, h1, h2, h3, h4, h5⟩
  · simp at hj
  · cases hv
    have hst : Step (One k) c w c (setMany w b (off + j * T.n) vs) := setMany_step (.inr h3) vs w _ Step.refl
    have hvl := T.len hr
    refine .inr ⟨b, off, cap, by simp, by simpa using h1, h2, h3, Nat.lt_of_lt_of_le h4 hst.size, fun i y hy => ?_⟩
    by_cases e : i = j
    · subst e
      rw [List.getElem?_set_self hj] at hy
      cases hy
      refine ⟨vs, T.keep hst hk hr, setMany_cells vs w b _ (fun i' hi' => ?_)⟩
      obtain ⟨vs0, hr0, hc0⟩ := h5 i l[i] (by simp [hj])
      have hl0 := T.len hr0
      have := hc0 i' (vs0[i']'(by omega)) (by simp)
      rw [this]; rfl
    · rw [List.getElem?_set_ne (fun h => e h.symm)] at hy
      obtain ⟨vs0, hr0, hc0⟩ := h5 i y hy
      refine ⟨vs0, T.keep hst hk hr0, fun i' u hu => ?_⟩
      have hi' : i' < vs0.length := (List.getElem?_eq_some_iff.1 hu).1
      have hl0 := T.len hr0
      rw [setMany_other vs w b _ _ ?_]
      · exact hc0 i' u hu
      · right
        show off + i * T.n + i' < off + j * T.n ∨ off + j * T.n + vs.length ≤ off + i * T.n + i'
        rcases Nat.lt_or_gt_of_ne e with h | h
        · left
          have : (i + 1) * T.n ≤ j * T.n := Nat.mul_le_mul_right _ h
          rw [Nat.succ_mul] at this; omega
        · right
          have : (j + 1) * T.n ≤ i * T.n := Nat.mul_le_mul_right _ h
          rw [Nat.succ_mul] at this; omega

/-- What the elements lead to was changed; each still reads as something. -/
theorem Sl.change {α : Type} {T : Ty α} {K : Nat → Prop} {c c' : Col} {k k2 : Nat} {w w' : World} {v : Value} {l : List α} (h : Sl T c k k2 w v l) (hs : Step K c w c' w') (hk : ¬ K k) (hr : ∀ vs x, T.rd c k2 w vs x → ∃ x', T.rd c' k2 w' vs x') :
    ∃ l', l'.length = l.length ∧ Sl T c' k k2 w' v l' := by
  rcases h with ⟨rfl, h⟩ | ⟨b, off, cap, hv, h1, h2, h3, h4, h5⟩
  · exact ⟨[], rfl, .inl ⟨rfl, h⟩⟩
  · by_cases hl0 : l = []
    · subst hl0
      exact ⟨[], rfl, .inr ⟨b, off, cap, hv, h1, h2, (hs.col b h4 (by rw [h3]; exact hk)).trans h3, Nat.lt_of_lt_of_le h4 hs.size, by simp⟩⟩
    obtain ⟨x0, hx0⟩ : ∃ x0, l[0]? = some x0 := by cases l with | nil => exact absurd rfl hl0 | cons a t => exact ⟨a, rfl⟩
    have key : ∀ i : Nat, ∃ y : α × List Value, i < l.length → T.rd c' k2 w' y.2 y.1 ∧ CellsAt w' b (off + i * T.n) y.2 := by
      intro i
      by_cases hi : i < l.length
      · obtain ⟨vs, a1, a2⟩ := h5 i l[i] (by simp [hi])
        obtain ⟨x', hx'⟩ := hr vs _ a1
        exact ⟨(x', vs), fun _ => ⟨hx', a2.keep hs h4 (by rw [h3]; exact hk)⟩⟩
      · exact ⟨(x0, []), fun h => absurd h hi⟩
    obtain ⟨f, hf⟩ := Classical.axiomOfChoice key
    refine ⟨(List.range l.length).map (fun i => (f i).1), by simp, .inr ⟨b, off, cap, by simpa using hv, by simpa using h1, h2, (hs.col b h4 (by rw [h3]; exact hk)).trans h3, Nat.lt_of_lt_of_le h4 hs.size, fun i x hx => ?_⟩⟩
    have hi : i < l.length := by have := (List.getElem?_eq_some_iff.1 hx).1; simpa using this
    simp [hi] at hx
    subst hx
    exact ⟨(f i).2, (hf i hi).1, (hf i hi).2⟩
end Go.Proofs.Ytcagfdmafelbkab
