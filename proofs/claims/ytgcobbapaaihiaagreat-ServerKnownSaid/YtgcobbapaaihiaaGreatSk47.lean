/- ServerKnown, part 47: lemmas, each with its own conditions. -/
import Derived.Test.YtgcobbapaaihiaaGreatSk01
import Derived.Test.YtgcobbapaaihiaaGreatSk46
import Derived.ProofKit
import Derived.OpenShut
set_option linter.unusedVariables false
set_option linter.unusedSimpArgs false
namespace Go.Proofs.YtgcobbapaaihiaaGreat
open Go.RowKit

theorem known29_law {w : World} : Calls Tryz.prog 4 #[] w fun r w' => r = .returned (.bool true) ∧ Below w.heap.size w w' :=
  (known29_any (Ok.zero w)).mono fun e w' h => by
    match e, h with
    | _, ⟨rfl, c', s, _⟩ => exact ⟨rfl, s.below (fun _ _ h => h)⟩
end Go.Proofs.YtgcobbapaaihiaaGreat

set_option linter.unusedVariables false
set_option linter.unusedSimpArgs false
namespace Go.Proofs.YtgcobbapaaihiaaGreat
open Go.RowKit

/-- Whatever reads as data of type t reads by T. -/
def TIn {α : Type} (P : Program) (t : TypeId) (T : Ty α) : Prop :=
  ∀ {H : Type} (enc : TypeId × Value → H) (w : World) (spare : Nat → Bool) (held : Bool) (fuel : Nat) (vs : List Value) (x : DataW H × List MemPlace), DataW.trod enc P w 0 spare held fuel t vs = some x → ∃ y, T.rd (fun _ => 0) 0 w vs y

section
variable {P : Program}

theorem TIn.int {t : TypeId} {k : IntKind} (ht : P.underlying t = some (.int k)) : TIn P t (TInt k) := by
  intro H enc w spare held fuel vs x h
  obtain ⟨n, rfl, _, hw⟩ := DataW.trod_int ht h
  refine ⟨n, rfl, ?_⟩
  simpa [Lit.wf, IntKind.has] using hw

theorem TIn.byte {t : TypeId} (ht : P.underlying t = some (.int .u8)) : TIn P t TByte := by
  intro H enc w spare held fuel vs x h
  obtain ⟨n, rfl, _, hw⟩ := DataW.trod_int ht h
  have hb : 0 ≤ n ∧ n ≤ 255 := by
    have : IntKind.u8.min ≤ n ∧ n ≤ IntKind.u8.max := by simpa [Lit.wf] using hw
    exact ⟨this.1, this.2⟩
  refine ⟨UInt8.ofNat n.toNat, ?_⟩
  show [Value.int .u8 n] = [Value.int .u8 ((UInt8.ofNat n.toNat).toNat : Int)]
  congr 2
  simp only [UInt8.toNat_ofNat']
  omega

/-- A slice that came in, or lies in memory. -/
theorem slice_in {α : Type} {t e : TypeId} {T : Ty α} (ht : P.underlying t = some (.slice e)) (he : TIn P e T) (hc : P.cellsOf e = T.n) (hn : 0 < T.n) {H : Type} {enc : TypeId × Value → H} {w : World} {spare : Nat → Bool} {held : Bool} {fuel : Nat} {vs : List Value} {x : DataW H × List MemPlace}
    (h : DataW.trod enc P w 0 spare held fuel t vs = some x) : ∃ v l, vs = [v] ∧ Sl T (fun _ => 0) 0 0 w v l := by
  rcases DataW.trod_slice ht h with ⟨rfl, _⟩ | ⟨a, len, cap, elems, rest, n, _, rfl, _, _, hlc, hcm, hel, hall, _⟩
  · exact ⟨_, [], rfl, Sl.nil _ _ _ _ _⟩
  · by_cases hl0 : len = 0
    · subst hl0
      exact ⟨_, [], rfl, .inl ⟨rfl, some a, cap, rfl, hcm, fun h => by cases h⟩⟩
    · have key : ∀ i, i < len → ∃ cs y, (∀ j, j < T.n → w.cell? (a.add (i * T.n + j)) = cs[j]?) ∧ cs.length = T.n ∧ T.rd (fun _ => 0) 0 w cs y := by
        intro i hi
        have hi' := hall i hi
        rw [hc] at hi'
        have hsome : ∃ z, elems[i]? = some z := ⟨elems[i]'(by omega), by simp [hel, hi]⟩
        obtain ⟨z, hz⟩ := hsome
        rw [hz] at hi'
        obtain ⟨cs, hcs, htr⟩ := Option.bind_eq_some_iff.1 hi'
        obtain ⟨_, hlen, hcell⟩ := World.cells?_some hcs
        obtain ⟨y, hy⟩ := he enc w spare held n cs z htr
        refine ⟨cs, y, fun j hj => ?_, hlen, hy⟩
        have hadd : (a.add (i * T.n)).add j = a.add (i * T.n + j) := by
          unfold Addr.add
          by_cases h1 : i * T.n = 0 <;> by_cases h2 : j = 0 <;> simp [h1, h2, Nat.add_assoc]
        rw [← hadd]; exact hcell j hj
      have hspot : a.spot = none ∧ a.block < w.heap.size := by
        obtain ⟨cs, y, hc1, hc2, _⟩ := key 0 (by omega)
        have h0 := hc1 0 hn
        have h1 : ∃ u, cs[0]? = some u := ⟨cs[0]'(by omega), by simp [hc2, hn]⟩
        obtain ⟨u, hu⟩ := h1
        rw [hu] at h0
        simp [Addr.add] at h0
        refine ⟨?_, World.block_lt_of_cell? w a h0⟩
        unfold World.cell? at h0
        split at h0
        · split at h0
          · cases h0
          · rename_i hs; simpa using hs
        · cases h0
      obtain ⟨b, off, sp⟩ := a
      obtain ⟨hsp, hbl⟩ := hspot
      dsimp only at hsp hbl
      subst hsp
      have key2 : ∀ i : Nat, ∃ y : Option α, i < len → ∃ y', y = some y' ∧ ∃ cs, T.rd (fun _ => 0) 0 w cs y' ∧ CellsAt w b (off + i * T.n) cs := by
        intro i
        by_cases hi : i < len
        · obtain ⟨cs, y, hc1, hc2, hr⟩ := key i hi
          refine ⟨some y, fun _ => ⟨y, rfl, cs, hr, fun j u hu => ?_⟩⟩
          have hj : j < cs.length := (List.getElem?_eq_some_iff.1 hu).1
          have := hc1 j (by omega)
          rw [hu] at this
          have hadd : (⟨b, off, none⟩ : Addr).add (i * T.n + j) = ⟨b, off + i * T.n + j, none⟩ := by unfold Addr.add; split <;> simp_all [Nat.add_assoc]
          rw [hadd] at this; exact this
        · exact ⟨none, fun h => absurd h hi⟩
      obtain ⟨f, hf⟩ := Classical.axiomOfChoice key2
      refine ⟨_, (List.range len).filterMap f, rfl, .inr ⟨b, off, cap, ?_, ?_, hcm, rfl, hbl, ?_⟩⟩
      all_goals
        have hmap : (List.range len).filterMap f = (List.range len).pmap (fun i (hi : i < len) => Classical.choose (hf i hi)) (fun i hi => List.mem_range.1 hi) := by
          have gen : ∀ (l : List Nat) (hl : ∀ i ∈ l, i < len), l.filterMap f = l.pmap (fun i (hi : i < len) => Classical.choose (hf i hi)) hl := by
            intro l
            induction l with
            | nil => intro _; rfl
            | cons i l ih =>
              intro hl
              have hi := hl i (by simp)
              have h1 := (Classical.choose_spec (hf i hi)).1
              rw [List.filterMap_cons_some h1, List.pmap_cons, ih (fun j hj => hl j (by simp [hj]))]
          exact gen _ _
        have hlen2 : ((List.range len).filterMap f).length = len := by rw [hmap]; simp
      · rw [hlen2]
      · rw [hlen2]; exact hlc
      · intro i y hy
        have hi : i < len := by have := (List.getElem?_eq_some_iff.1 hy).1; omega
        rw [hmap] at hy
        have hlp : i < ((List.range len).pmap (fun i (hi : i < len) => Classical.choose (hf i hi)) (fun i hi => List.mem_range.1 hi)).length := by simpa using hi
        rw [List.getElem?_eq_getElem hlp, List.getElem_pmap] at hy
        have hri : (List.range len)[i]'(by simpa using hi) = i := List.getElem_range _
        have hyy := Option.some.inj hy
        subst hyy
        have gen3 : ∀ (i' : Nat) (hi' : i' < len), i' = i → ∃ vs, T.rd (fun _ => 0) 0 w vs (Classical.choose (hf i' hi')) ∧ CellsAt w b (off + i * T.n) vs := by
          rintro i' hi' rfl
          exact (Classical.choose_spec (hf i' hi')).2
        exact gen3 _ (by rw [hri]; exact hi) hri
end
end Go.Proofs.YtgcobbapaaihiaaGreat
