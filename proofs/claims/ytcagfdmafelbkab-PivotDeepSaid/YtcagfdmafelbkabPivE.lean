/- The law PivotDeep: what splits and pops keep (plain). -/
import Derived.Test.YtcagfdmafelbkabPiv4
import Derived.Test.YtcagfdmafelbkabPiv7
set_option linter.unusedVariables false
set_option linter.unusedSimpArgs false
namespace Go.Proofs.Ytcagfdmafelbkab

theorem bits_mono {a b : Nat} (h : a ≤ b) (hb : b < 2 ^ 64) : bits 64 a ≤ bits 64 b := by
  refine Nat.le_of_not_lt fun hlt => ?_
  have h1 := (lt_bits 64 (bits 64 b) a (by omega)).2 hlt
  exact absurd ((lt_bits 64 (bits 64 b) b hb).1 (by omega)) (Nat.lt_irrefl _)

theorem bits_half {m n : Nat} (h : 2 * m ≤ n) (hn : 1 ≤ n) (hb : n < 2 ^ 64) : 1 + bits 64 m ≤ bits 64 n := by
  have hp : 0 < bits 64 n := (lt_bits 64 0 n hb).1 hn
  refine Nat.le_of_not_lt fun hlt => ?_
  obtain ⟨y, hy⟩ : ∃ y, bits 64 n = y + 1 := ⟨bits 64 n - 1, by omega⟩
  have h1 := (lt_bits 64 y m (by omega)).2 (by omega)
  have h2 : 2 ^ (y + 1) ≤ n := by rw [Nat.pow_succ]; omega
  have := (lt_bits 64 (y + 1) n hb).1 h2
  omega

theorem deepL_pos {d : Int} (h : 1 ≤ d) : 1 ≤ deepL d := by unfold deepL; rw [if_neg (by omega)]; omega

theorem deepL_mono {a b : Int} (ha : 1 ≤ a) (h : a ≤ b) (hb : b ≤ 1073741824) : deepL a ≤ deepL b := by
  unfold deepL
  rw [if_neg (by omega), if_neg (by omega)]
  have := bits_mono (a := (a - 1).toNat) (b := (b - 1).toNat) (by omega) (by omega)
  omega

theorem deepL_half {d : Int} (h : 2 ≤ d) (hb : d ≤ 1073741824) : 1 + deepL (d / 2) ≤ deepL d := by
  unfold deepL
  rw [if_neg (by omega), if_neg (by omega)]
  have := bits_half (m := (d / 2 - 1).toNat) (n := (d - 1).toNat) (by omega) (by omega) (by omega)
  omega

/-- Heights from the top down: each rises, and the room below is enough. -/
def Okd (D : Int) : Int → List Int → Prop
  | _, [] => True
  | low, t :: r => low < t ∧ (r.length : Int) + deepL (t - low) ≤ D ∧ Okd D t r

structure DInv (D target : Int) (s : Stk) (asked : List Int) : Prop where
  good : Good s
  head : s.l ≠ [] → s.l[0]? = some target
  done : s.l = [] → s.low = target
  asked : ∀ x ∈ asked, x ≤ s.low ∨ x ∈ s.l
  deep : Okd D s.low s.l.reverse

theorem DInv.new {r t : Int} (ha : isH r) (hb : isH t) (h : r < t) : DInv (deepL (t - r)) t ((⟨r, t, r, [t]⟩ : Stk)) [t] :=
  ⟨⟨ha, hb, h, ha, by intro x hx; simp  at hx; subst hx; exact ⟨h, hb.2⟩, by simp ⟩, fun _ => rfl, fun h => by simp  at h, fun x hx => by simp  at hx ⊢; exact .inr hx, by simp [Okd]; exact h⟩

theorem snoc_of {l : List Int} (h : l ≠ []) : ∃ l' t, l = l' ++ [t] := by
  rcases List.eq_nil_or_concat l with rfl | ⟨l', t, rfl⟩
  · exact absurd rfl h
  · exact ⟨l', t, by rw [List.concat_eq_append]⟩

theorem splitE_cases (s : Stk) : (splitE s = 11 ∧ splitS s = s) ∨ (splitE s = 0 ∧ s.l ≠ [] ∧ topL s.l ≠ s.low + 1 ∧ splitH s = mid s.low (topL s.l) ∧ splitS s = { s with l := s.l ++ [mid s.low (topL s.l)] }) := by
  by_cases h : s.l = [] ∨ topL s.l = s.low + 1
  · exact .inl ⟨by simp [splitE, h], by simp [splitS, h]⟩
  · exact .inr ⟨by simp only [splitE, h, if_false], fun e => h (.inl e), fun e => h (.inr e), by simp only [splitH, h, if_false], by simp only [splitS, h, if_false]⟩

theorem DInv.split {D target : Int} {s : Stk} {asked : List Int} (I : DInv D target s asked) (h0 : splitE s = 0) :
    DInv D target (splitS s) (asked ++ [splitH s]) ∧ (∀ x ∈ asked, x ≠ splitH s) ∧ IntKind.i64.has (splitH s) := by
  rcases splitE_cases s with ⟨e, _⟩ | ⟨_, h1, h2, h3, h4⟩
  · omega
  have gt := I.good.top h1
  have hm := mid_lt gt.2 h2
  obtain ⟨l', t, hl⟩ := snoc_of h1
  have ht : topL s.l = t := by rw [hl, topL_snoc]
  have G := I.good.split
  rw [h3]
  rw [h4] at G ⊢
  rw [ht] at gt hm h2 G ⊢
  have hge : ∀ x ∈ s.l, t ≤ x := fun x hx => by
    have := desc_top I.good.desc x hx
    rw [ht] at this
    omega
  refine ⟨⟨G, fun _ => ?_, fun e => by simp at e, fun x hx => ?_, ?_⟩, fun x hx e => ?_, ⟨?_, ?_⟩⟩
  · have := I.head h1
    show (s.l ++ [mid s.low t])[0]? = some target
    rw [List.getElem?_append_left (List.length_pos_iff.2 h1)]
    exact this
  · show x ≤ s.low ∨ x ∈ s.l ++ [mid s.low t]
    rw [List.mem_append, List.mem_singleton] at hx ⊢
    rcases hx with hx | hx
    · rcases I.asked x hx with h | h
      · exact .inl h
      · exact .inr (.inl h)
    · exact .inr (.inr hx)
  · have hd := I.deep
    show Okd D s.low (s.l ++ [mid s.low t]).reverse
    rw [hl, List.reverse_append] at hd
    rw [List.reverse_append, hl, List.reverse_append]
    simp only [List.reverse_cons, List.reverse_nil, List.nil_append, List.cons_append, Okd, List.length_cons] at hd ⊢
    obtain ⟨d1, d2, d3⟩ := hd
    have hlow := I.good.low.1
    have ht2 := gt.1.2
    have e1 : mid s.low t - s.low = (t - s.low) / 2 := by unfold mid; omega
    have e2 := deepL_half (d := t - s.low) (by omega) (by omega)
    have e3 := deepL_mono (a := t - mid s.low t) (b := t - s.low) (by omega) (by omega) (by omega)
    refine ⟨hm.1, ?_, hm.2, ?_, d3⟩
    · rw [e1]; push_cast; omega
    · omega
  · subst e
    rcases I.asked _ hx with h | h
    · omega
    · have := hge _ h; omega
  · have := I.good.low.1; simp only [IntKind.min, IntKind.signed, IntKind.bits]; simp; omega
  · have := gt.1.2; simp only [IntKind.max, IntKind.signed, IntKind.bits]; simp; omega

theorem DInv.pop {D target : Int} {s : Stk} {asked : List Int} (I : DInv D target s asked) : DInv D target (popS s) asked ∧ s.low ≤ (popS s).low := by
  have G := I.good.pop
  by_cases h1 : s.l = []
  · have e : popS s = s := by simp [popS, h1]
    rw [e]
    exact ⟨I, Int.le_refl _⟩
  have gt := I.good.top h1
  obtain ⟨l', t, hl⟩ := snoc_of h1
  have ht : topL s.l = t := by rw [hl, topL_snoc]
  have hd' : s.l.dropLast = l' := by rw [hl, List.dropLast_concat]
  have e : popS s = { s with low := t, l := l' } := by simp only [popS, h1, if_false, ht, hd']
  rw [e] at G ⊢
  rw [ht] at gt
  refine ⟨⟨G, fun h2 => ?_, fun h2 => ?_, fun x hx => ?_, ?_⟩, by have := gt.2; show s.low ≤ t; omega⟩
  · have h3 := I.head h1
    have h2 : l' ≠ [] := h2
    rw [hl, List.getElem?_append_left (List.length_pos_iff.2 h2)] at h3
    exact h3
  · have h3 := I.head h1
    have h2 : l' = [] := h2
    rw [hl, h2] at h3
    simpa using h3
  · show x ≤ t ∨ x ∈ l'
    rcases I.asked x hx with h | h
    · exact .inl (by have := gt.2; omega)
    · rw [hl, List.mem_append, List.mem_singleton] at h
      rcases h with h | h
      · exact .inr h
      · exact .inl (by omega)
  · have hd := I.deep
    rw [hl, List.reverse_append] at hd
    exact hd.2.2

theorem DInv.len {D target : Int} {s : Stk} {asked : List Int} (I : DInv D target s asked) (hD : 0 ≤ D) : (s.l.length : Int) ≤ D := by
  by_cases h1 : s.l = []
  · rw [h1]; exact hD
  obtain ⟨l', t, hl⟩ := snoc_of h1
  have hd := I.deep
  rw [hl, List.reverse_append, List.reverse_singleton, List.singleton_append] at hd
  obtain ⟨d1, d2, _⟩ := hd
  have := deepL_pos (d := t - s.low) (by omega)
  rw [hl]
  simp only [List.length_append, List.length_cons, List.length_nil]
  rw [List.length_reverse] at d2
  push_cast
  omega
end Go.Proofs.Ytcagfdmafelbkab
