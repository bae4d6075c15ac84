/- Own library: maps of an owner's. -/
import Derived.Test.YtcagfdmafelbkabLib3
import Derived.DeepKeys5
import Derived.Carry
import Derived.RangeFuncRecord
set_option linter.unusedVariables false
set_option linter.unusedSimpArgs false
namespace Go.Proofs.Ytcagfdmafelbkab
open Go.RowKit Go.WideMaps

/-- A map in memory, of colour k: what it tells of each key; at most n entries. -/
structure IsMap {κ ν : Type} (P : Program) (kt : TypeId) (kv : κ → Value) (vv : ν → Value) (c : Col) (k : Nat) (w : World) (b : Nat) (m : κ → Option ν) (n : Nat) : Prop where
  col : c b = k
  obj : ∃ es clock, w.heap[b]? = some (.map es clock) ∧ es.size ≤ n ∧ (es.toList.map (·.key)).Nodup ∧ (∀ x ∈ es.toList, ∃ l, keyOf P kt x.key = some l) ∧
    (∀ x ∈ es.toList, ∃ y z, x.key = kv y ∧ x.val = vv z ∧ m y = some z) ∧ (∀ y z, m y = some z → ∃ x ∈ es.toList, x.key = kv y ∧ x.val = vv z)

/-- What a look-up answers. -/
def getV {ν : Type} (vv : ν → Value) (zv : Value) : Option ν → Value
  | some z => vv z
  | none => zv

section
variable {κ ν : Type} {P : Program} {t kt e : TypeId} {kv : κ → Value} {vv : ν → Value} {c : Col} {k : Nat} {w : World} {b n : Nat} {m : κ → Option ν}

theorem IsMap.keep {K : Nat → Prop} {c' : Col} {w' : World} (h : IsMap P kt kv vv c k w b m n) (hs : Step K c w c' w') (hk : ¬ K k) : IsMap P kt kv vv c' k w' b m n := by
  obtain ⟨es, clock, h1, h2⟩ := h.obj
  have hb : b < w.heap.size := (Array.getElem?_eq_some_iff.1 h1).1
  have hkb : ¬ K (c b) := by rw [h.col]; exact hk
  exact ⟨(hs.col b hb hkb).trans h.col, es, clock, (hs.block b hb hkb).trans h1, h2⟩
theorem IsMap.kn {c' : Col} {w' : World} (h : IsMap P kt kv vv c k w b m n) (hs : Step No c w c' w') : IsMap P kt kv vv c' k w' b m n := h.keep hs (fun h => h)

theorem IsMap.lookup (h : IsMap P kt kv vv c k w b m n) (L : KeyLaw P kt) (inj : ∀ y y', kv y = kv y' → y = y') (ht : P.underlying t = some (.map kt e)) {zv : Value} (hz : (zeroValue e).run P w = .ok zv w) (y : κ) (hy : ∃ l, keyOf P kt (kv y) = some l) :
    (Instr.lookup t (.map (some b)) (kv y) true).run P w = .ok (.tuple #[getV vv zv (m y), .bool (m y).isSome]) w := by
  obtain ⟨es, clock, h1, h2, hd, h3, h4, h5⟩ := h.obj
  obtain ⟨l, hl⟩ := hy
  rcases L.find w hl es.toList h3 with ⟨f1, f2⟩ | ⟨j, x, f1, f2, f3⟩
  · have hm : m y = none := by
      cases hm : m y with
      | none => rfl
      | some z => obtain ⟨x, hx, hk, _⟩ := h5 y z hm; exact absurd hk (f2 x hx)
    simp [Instr.lookup, run_underlying ht, MapKept.run_getObj_map h1, L.check w _ hl, f1, hz, Result.andThen, hm, getV]
  · obtain ⟨y', z, g1, g2, g3⟩ := h4 x (List.mem_of_getElem? f2)
    have hyy : y' = y := inj _ _ (g1.symm.trans f3)
    subst hyy
    simp [Instr.lookup, run_underlying ht, MapKept.run_getObj_map h1, L.check w _ hl, f1, Result.andThen, g3, g2, getV]

theorem key_at {es : Array MapEntry} (hd : (es.toList.map (·.key)).Nodup) {i j : Nat} {x x' : MapEntry} (hi : es[i]? = some x) (hj : es[j]? = some x') (h : x.key = x'.key) : i = j := by
  have hi' : (es.toList.map (·.key))[i]? = some x.key := by simp [hi]
  have hj' : (es.toList.map (·.key))[j]? = some x'.key := by simp [hj]
  obtain ⟨li, ei⟩ := List.getElem?_eq_some_iff.1 hi'
  obtain ⟨lj, ej⟩ := List.getElem?_eq_some_iff.1 hj'
  have hp := List.pairwise_iff_getElem.1 hd
  rcases Nat.lt_trichotomy i j with hlt | he | hlt
  · exact absurd (by rw [ei, ej, h]) (hp i j li lj hlt)
  · exact he
  · exact absurd (by rw [ei, ej, h]) (hp j i lj li hlt)

theorem step_setObj (hk : c b = k) (o : Obj) : Step (One k) c w c { w with heap := w.heap.setIfInBounds b o } :=
  ⟨rfl, rfl, rfl, by simp, fun j hj hne => by
    have : j ≠ b := fun e => hne (by rw [e]; exact hk)
    simp [Array.getElem?_setIfInBounds, this.symm], fun _ _ _ => rfl⟩

theorem ok_setMap (hok : Ok c w) (b : Nat) (es : Array MapEntry) (clock : Nat) : Ok c { w with heap := w.heap.setIfInBounds b (.map es clock) } := by
  refine ⟨fun j hj => hok.fresh j (by simpa using hj), fun j o hc => ?_⟩
  by_cases e : j = b
  · subst e
    have hlt := hok.lt hc
    simp [World.frozen?, Array.getElem?_setIfInBounds, hlt]
  · rw [World.frozen?_of_block (w := w) (a := ⟨j, o, none⟩) (by simp only [Array.getElem?_setIfInBounds]; rw [if_neg (fun h => e (Eq.symm h))])]
    exact hok.soft j o hc

theorem IsMap.update [DecidableEq κ] (h : IsMap P kt kv vv c k w b m n) (hok : Ok c w) (L : KeyLaw P kt) (inj : ∀ y y', kv y = kv y' → y = y') (ht : P.underlying t = some (.map kt e)) (hn : n < maxLen) (y : κ) (z : ν) (hy : ∃ l, keyOf P kt (kv y) = some l) :
    ∃ w', (Instr.mapUpdate t (.map (some b)) (kv y) (vv z)).run P w = .ok () w' ∧ IsMap P kt kv vv c k w' b (fun y' => if y' = y then some z else m y') (n + 1) ∧ Step (One k) c w c w' ∧ Ok c w' := by
  obtain ⟨es, clock, h1, h2, hd, h3, h4, h5⟩ := h.obj
  have hb : b < w.heap.size := (Array.getElem?_eq_some_iff.1 h1).1
  obtain ⟨l, hl⟩ := hy
  rcases L.find w hl es.toList h3 with ⟨f1, f2⟩ | ⟨j, x, f1, f2, f3⟩
  · refine ⟨{ w with heap := w.heap.setIfInBounds b (.map (es.push ⟨kv y, vv z, clock⟩) (clock + 1)) }, ?_, ⟨h.col, es.push ⟨kv y, vv z, clock⟩, clock + 1, by simp [Array.getElem?_setIfInBounds, hb], by simp; omega, ?_, ?_, ?_, ?_⟩, step_setObj h.col _, ok_setMap hok _ _ _⟩
    · simp [Instr.mapUpdate, run_underlying ht, MapKept.run_getObj_map h1, L.check w false hl, f1, MapKept.run_setObj_map _ h1, Result.andThen]
    · rw [Array.toList_push, List.map_append, List.nodup_append]
      refine ⟨hd, by simp, fun a ha b hb => ?_⟩
      simp at hb; subst hb
      obtain ⟨x, hx, rfl⟩ := List.mem_map.1 ha
      exact f2 x hx
    · intro x hx
      simp only [Array.toList_push, List.mem_append, List.mem_singleton] at hx
      rcases hx with hx | rfl
      · exact h3 x hx
      · exact ⟨l, hl⟩
    · intro x hx
      simp only [Array.toList_push, List.mem_append, List.mem_singleton] at hx
      rcases hx with hx | rfl
      · obtain ⟨y', z', g1, g2, g3⟩ := h4 x hx
        refine ⟨y', z', g1, g2, ?_⟩
        rw [if_neg (fun e => f2 x hx (by rw [g1, e])), g3]
      · exact ⟨y, z, rfl, rfl, by simp⟩
    · intro y' z' hm
      by_cases e : y' = y
      · subst e
        simp at hm; subst hm
        exact ⟨⟨kv y', vv z, clock⟩, by simp, rfl, rfl⟩
      · simp only [e, if_false] at hm
        obtain ⟨x, hx, g1, g2⟩ := h5 y' z' hm
        exact ⟨x, by simp [hx], g1, g2⟩
  · have hj : es[j]? = some x := by simpa using f2
    refine ⟨{ w with heap := w.heap.setIfInBounds b (.map (es.modify j fun e' => { e' with key := kv y, val := vv z }) clock) }, ?_, ⟨h.col, es.modify j (fun e' => { e' with key := kv y, val := vv z }), clock, by simp [Array.getElem?_setIfInBounds, hb], by simp; omega, ?_, ?_, ?_, ?_⟩, step_setObj h.col _, ok_setMap hok _ _ _⟩
    · simp [Instr.mapUpdate, run_underlying ht, MapKept.run_getObj_map h1, L.check w false hl, f1, hj, f3, L.stays w hl, MapKept.run_setObj_map _ h1, Result.andThen]
    · have hkeys : (es.modify j (fun e' => { e' with key := kv y, val := vv z })).toList.map (·.key) = es.toList.map (·.key) := by
        refine List.ext_getElem? fun i => ?_
        simp only [List.getElem?_map, Array.getElem?_toList, Array.getElem?_modify]
        split
        · rename_i hij
          subst hij
          rw [hj]; simp [f3]
        · rfl
      rw [hkeys]; exact hd
    · intro x' hx
      rcases MapFrom.mem_modify hx with hx | ⟨e', _, rfl⟩
      · exact h3 x' hx
      · exact ⟨l, hl⟩
    · intro x' hx
      rw [Array.mem_toList_iff, Array.mem_iff_getElem?] at hx
      obtain ⟨i, hi⟩ := hx
      rw [Array.getElem?_modify] at hi
      by_cases hij : j = i
      · subst hij
        rw [if_pos rfl, hj] at hi
        simp at hi; subst hi
        exact ⟨y, z, rfl, rfl, by simp⟩
      · rw [if_neg hij] at hi
        have hx' : x' ∈ es.toList := by rw [Array.mem_toList_iff, Array.mem_iff_getElem?]; exact ⟨i, hi⟩
        obtain ⟨y', z', g1, g2, g3⟩ := h4 x' hx'
        refine ⟨y', z', g1, g2, ?_⟩
        rw [if_neg (fun e => hij (key_at hd hj hi (by rw [f3, g1, e]))), g3]
    · intro y' z' hm
      by_cases e : y' = y
      · subst e
        simp at hm; subst hm
        refine ⟨⟨kv y', vv z, x.born⟩, ?_, rfl, rfl⟩
        rw [Array.mem_toList_iff, Array.mem_iff_getElem?]
        exact ⟨j, by rw [Array.getElem?_modify, if_pos rfl, hj]; rfl⟩
      · simp only [e, if_false] at hm
        obtain ⟨x', hx, g1, g2⟩ := h5 y' z' hm
        refine ⟨x', ?_, g1, g2⟩
        rw [Array.mem_toList_iff, Array.mem_iff_getElem?] at hx ⊢
        obtain ⟨i, hi⟩ := hx
        refine ⟨i, ?_⟩
        rw [Array.getElem?_modify, if_neg, hi]
        intro hij
        subst hij
        rw [hj] at hi; cases hi
        exact e (inj _ _ (g1.symm.trans f3))

/-- A new map. -/
theorem IsMap.new (hok : Ok c w) (k : Nat) : IsMap P kt kv vv (c.put w.heap.size k) k (w.alloc (.map #[] 0)) w.heap.size (fun _ => none) 0 ∧ Ok (c.put w.heap.size k) (w.alloc (.map #[] 0)) ∧ Step No c w (c.put w.heap.size k) (w.alloc (.map #[] 0)) := by
  have hnew : (w.alloc (.map #[] 0)).heap[w.heap.size]? = some (.map #[] 0) := World.alloc_heap_new w _
  exact ⟨⟨by simp, #[], 0, hnew, Nat.le_refl _, by simp, by simp, by simp, by simp⟩, (hok.alloc _).put (by simp) (fun o => by unfold World.frozen?; rw [hnew]), (Step.refl.alloc _).put (.inl (Nat.le_refl _))⟩
end
end Go.Proofs.Ytcagfdmafelbkab
