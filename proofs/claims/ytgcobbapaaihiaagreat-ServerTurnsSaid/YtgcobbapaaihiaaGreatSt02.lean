/- ServerTurns, part 02: lemmas, each with its own conditions. -/
import Derived.Test.YtgcobbapaaihiaaGreatSt01
import Derived.Laws.IdiomStrings
set_option linter.unusedVariables false
set_option linter.unusedSimpArgs false
namespace Go.Proofs.YtgcobbapaaihiaaGreat
open Go.RowKit

section
variable {P : Program} {ops : Array Oper} {Q : Exit → Act → World → Prop} {S : World → Prop} {D : Nat → Bool}

/-- Number j waits for number i, or for one that waits for it. -/
def waits1 (ops : Array Oper) (j i : Nat) : Bool := match ops[j]? with | some o => o.after.any fun e => Region.binds .any e && e.on == i | none => false
def waits2 (ops : Array Oper) (j i : Nat) : Bool := waits1 ops j i || match ops[j]? with | some o => o.after.any fun e => Region.binds .any e && waits1 ops e.on i | none => false

/-- What is done waited for what is done. -/
def closedB (ops : Array Oper) (done : Array Bool) : Bool := (List.range ops.size).all fun d => !(done.getD d true) || match ops[d]? with | some o => o.after.all (fun e => !Region.binds .any e || done.getD e.on false) | none => true

def Closed (ops : Array Oper) (done : Array Bool) : Prop := ∀ (d : Nat) od, ops[d]? = some od → done.getD d true = true → ∀ e ∈ od.after, Region.binds .any e = true → done.getD e.on false = true

theorem closed_of {done : Array Bool} (h : closedB ops done = true) : Closed ops done := by
  intro d od hd hdn e he hb
  have hlt : d < ops.size := (Array.getElem?_eq_some_iff.1 hd).1
  have := List.all_eq_true.1 h d (List.mem_range.2 hlt)
  rw [hdn, hd] at this
  simp only [Bool.not_true, Bool.false_or] at this
  have := Array.all_eq_true'.1 this e he
  rw [hb] at this
  simpa using this

theorem getD_false_set {done : Array Bool} {i k : Nat} (h : done.getD k false = true) : (done.setIfInBounds i true).getD k false = true := by
  have hk : k < done.size := by
    rcases Nat.lt_or_ge k done.size with h' | h'
    · exact h'
    · simp [Array.getElem?_eq_none h'] at h
  by_cases e : i = k
  · subst e; simp [hk]
  · simp [Array.getElem?_setIfInBounds, e, hk] at h ⊢; exact h

theorem Closed.set {done : Array Bool} (h : Closed ops done) {j : Nat} {oj : Oper} (hoj : ops[j]? = some oj) (hall : ∀ e ∈ oj.after, Region.binds .any e = true → done.getD e.on false = true) : Closed ops (done.setIfInBounds j true) := by
  intro d od hd hdn e he hb
  by_cases hj : j = d
  · subst hj
    rw [hoj] at hd; cases hd
    exact getD_false_set (hall e he hb)
  · rw [getD_set_ne true hj] at hdn
    exact getD_false_set (h d od hd hdn e he hb)

theorem wpAnyM.takeT_aux {i : Nat} {oi : Oper} {v : Value} (hi : ops[i]? = some oi) (hsel : ∀ (j : Nat) (o : Oper) cs b, ops[j]? = some o → o.op ≠ .select cs b)
    (hQ : ∀ c a w, Q (.panic c) (a.put oi.dst v) w → Q (.panic c) a w) (hD : ∀ j, j < ops.size → j ≠ i → D j = true ∨ waits2 ops j i = true) :
    ∀ (n : Nat) (done : Array Bool) (a : Act) (w : World), Closed ops done →
      (∀ j oj, ops[j]? = some oj → j ≠ i → done.getD j true = false → (∀ e ∈ oj.after, Region.binds .any e = true → e.on ≠ i) → oi.apart ops oj = true) →
      i ∈ Region.ready .any ops done → YieldsIf P ops S oi v a → S w →
      wpAnyM P ops Q S D n (done.setIfInBounds i true) (a.put oi.dst v) w → wpAnyM P ops Q S D (n + 1) done a w := by
  intro n
  induction n with
  | zero =>
    intro done a w _ _ hr hy hS H
    refine ⟨fun h => (by rw [h] at hr; cases hr), fun j hj => ?_⟩
    by_cases e : j = i
    · subst e; exact hy.wpOp hi hS ⟨fun _ => hS, H⟩
    · have := ready_mono hj e
      rw [H.1] at this
      cases this
  | succ n ih =>
    intro done a w hcl hfree hr hy hS H
    refine ⟨fun h => (by rw [h] at hr; cases hr), fun j hj => ?_⟩
    by_cases e : j = i
    · subst e; exact hy.wpOp hi hS ⟨fun _ => hS, H⟩
    obtain ⟨hjun, oj, hoj, hall⟩ := mem_ready.1 hj
    have hi0 := (mem_ready.1 hr).1
    have hi00 : done.getD i false = false := by
      rcases Nat.lt_or_ge i done.size with h' | h'
      · simp [h'] at hi0 ⊢; exact hi0
      · simp [Array.getElem?_eq_none h']
    have hnot : ∀ x ∈ oj.after, Region.binds .any x = true → x.on ≠ i := fun x hx hb hxi => by
      have h1 := hall x hx hb
      rw [hxi, hi00] at h1
      cases h1
    have hDj : D j = true := by
      have hlt : j < ops.size := by
        rcases Nat.lt_or_ge j ops.size with h | h
        · exact h
        · rw [Array.getElem?_eq_none h] at hoj; cases hoj
      rcases hD j hlt e with h | h
      · exact h
      · exfalso
        unfold waits2 at h
        rw [Bool.or_eq_true] at h
        rcases h with h | h
        · unfold waits1 at h
          rw [hoj] at h
          obtain ⟨x, hx, hb⟩ := Array.any_eq_true'.1 h
          simp only [Bool.and_eq_true, beq_iff_eq] at hb
          exact absurd hb.2 (hnot x hx hb.1)
        · rw [hoj] at h
          obtain ⟨x, hx, hb⟩ := Array.any_eq_true'.1 h
          rw [Bool.and_eq_true] at hb
          have hdx := hall x hx hb.1
          have hxs : done.getD x.on true = true := by
            rcases Nat.lt_or_ge x.on done.size with h' | h'
            · simp [h'] at hdx ⊢; exact hdx
            · simp [Array.getElem?_eq_none h']
          have hw := hb.2
          unfold waits1 at hw
          cases hox : ops[x.on]? with
          | none => rw [hox] at hw; cases hw
          | some ox =>
            rw [hox] at hw
            obtain ⟨y, hy', hby⟩ := Array.any_eq_true'.1 hw
            simp only [Bool.and_eq_true, beq_iff_eq] at hby
            have := hcl x.on ox hox hxs y hy' hby.1
            rw [hby.2, hi00] at this
            cases this
    have step := wpOp_putIf hoj (hfree j oj hoj e hjun hnot) (fun cs b => hsel i oi cs b hi) (fun cs b => hsel j oj cs b hoj) hQ hy (H.2 j (ready_mono hj e))
    refine wpOp_mono (fun a' w' hh => ⟨fun _ => hh.2.1 hDj, ih (done.setIfInBounds j true) a' w' (hcl.set hoj hall) (fun k ok hk hki hun hno => hfree k ok hk hki ?_ hno) (ready_mono hr (Ne.symm e)) hh.1 (hh.2.1 hDj) ?_⟩) step
    · by_cases hjk : j = k
      · subst hjk; exact hjun
      · rw [getD_set_ne true hjk] at hun; exact hun
    · rw [Array.setIfInBounds_comm _ _ e]
      exact hh.2.2

theorem wpAnyM.takeT {i : Nat} {oi : Oper} {v : Value} {n : Nat} {done : Array Bool} {a : Act} {w : World} (d : Option Tmp) (hi : ops[i]? = some oi) (hd : oi.dst = d)
    (hs : Region.noSelect ops = true) (hf : Region.free .any ops done i = true) (hr : (Region.ready .any ops done).contains i = true) (hc : closedB ops done = true)
    (hD : (List.range ops.size).all (fun j => j == i || D j || waits2 ops j i) = true)
    (hQ : ∀ c a w, Q (.panic c) (a.put d v) w → Q (.panic c) a w) (hy : YieldsIf P ops S oi v a) (hS : S w)
    (h : wpAnyM P ops Q S D n (done.setIfInBounds i true) (a.put d v) w) : wpAnyM P ops Q S D (n + 1) done a w := by
  subst hd
  exact wpAnyM.takeT_aux hi (Region.noSelect_spec hs) hQ (fun j hj hji => by
    have := List.all_eq_true.1 hD j (List.mem_range.2 hj)
    simp only [Bool.or_eq_true, beq_iff_eq] at this
    rcases this with (h | h) | h
    · exact absurd h hji
    · exact .inl h
    · exact .inr h) n done a w (closed_of hc) (Region.free_spec hi hf) (by simpa using hr) hy hS h

theorem put_comm (a : Act) (i j : Nat) (v u : Value) (h : i ≠ j) : (a.put (some i) v).put (some j) u = (a.put (some j) u).put (some i) v := by
  simp only [Act.put]
  rw [Array.setIfInBounds_comm _ _ h]

/-- Two operations, in whichever order: what is put is the same either way, and of the world R is known. -/
theorem wpAnyM.two {i j n : Nat} {oi oj : Oper} {done : Array Bool} {a : Act} {w : World} (di dj : Nat) (hr : Region.ready .any ops done = [i, j]) (hi : ops[i]? = some oi) (hj : ops[j]? = some oj) (hdi : oi.dst = some di) (hdj : oj.dst = some dj) (hne : di ≠ dj)
    (hri : Region.ready .any ops (done.setIfInBounds i true) = [j]) (hrj : Region.ready .any ops (done.setIfInBounds j true) = [i]) (hij : i ≠ j) (vi vj : Value) (R : World → Prop)
    (h1 : ∀ K : Act → World → Prop, Shut (∀ w1, (D i = true → S w1) → (∀ K2 : Act → World → Prop, Shut (∀ w2, (D j = true → S w2) → R w2 → K2 ((a.put (some di) vi).put (some dj) vj) w2) → if Region.wanted oj (yielded ops (a.put (some di) vi).tmps) = true then Oper.wp P oj (a.put (some di) vi) w1 K2 Q else K2 ((a.put (some di) vi).put oj.dst undef) w1) → K (a.put (some di) vi) w1) →
      if Region.wanted oi (yielded ops a.tmps) = true then Oper.wp P oi a w K Q else K (a.put oi.dst undef) w)
    (h2 : ∀ K : Act → World → Prop, Shut (∀ w1, (D j = true → S w1) → (∀ K2 : Act → World → Prop, Shut (∀ w2, (D i = true → S w2) → R w2 → K2 ((a.put (some dj) vj).put (some di) vi) w2) → if Region.wanted oi (yielded ops (a.put (some dj) vj).tmps) = true then Oper.wp P oi (a.put (some dj) vj) w1 K2 Q else K2 ((a.put (some dj) vj).put oi.dst undef) w1) → K (a.put (some dj) vj) w1) →
      if Region.wanted oj (yielded ops a.tmps) = true then Oper.wp P oj a w K Q else K (a.put oj.dst undef) w)
    (hrest : ∀ w2, R w2 → wpAnyM P ops Q S D n ((done.setIfInBounds i true).setIfInBounds j true) ((a.put (some di) vi).put (some dj) vj) w2) :
    wpAnyM P ops Q S D (n + 1 + 1) done a w := by
  refine wpAnyM.all hr (by simp) (fun k hk => ?_)
  simp only [List.mem_cons, List.not_mem_nil, or_false] at hk
  rcases hk with rfl | rfl
  · refine wpOp_step hi (fun K hK => h1 K ?_)
    exact fun w1 hS hnext => hK _ _ ⟨hS, wpAnyM.one hri hj (fun K2 hK2 => hnext K2 (fun w2 hS2 hR => hK2.out _ _ hS2 (hrest w2 hR)))⟩
  · refine wpOp_step hj (fun K hK => h2 K ?_)
    exact fun w1 hS hnext => hK _ _ ⟨hS, wpAnyM.one hrj hi (fun K2 hK2 => hnext K2 (fun w2 hS2 hR => hK2.out _ _ hS2 (by
      rw [put_comm _ _ _ _ _ hne.symm, Array.setIfInBounds_comm _ _ hij.symm]
      exact hrest w2 hR)))⟩

/-- Operations in several orders, all of which come to one frame (what was put said in 'ps'), of whose world R is known. -/
theorem wpAnyM.forkR {n m : Nat} {done doneF : Array Bool} {a : Act} {w : World} (ps : List (Nat × Value)) (R : World → Prop)
    (h1 : (∀ W2, R W2 → wpAnyM P ops Q S D m doneF (ps.foldl (fun a p => a.put (some p.1) p.2) a) W2) → wpAnyM P ops Q S D n done a w)
    (h2 : ∀ W2, R W2 → wpAnyM P ops Q S D m doneF (ps.foldl (fun a p => a.put (some p.1) p.2) a) W2) : wpAnyM P ops Q S D n done a w := h1 h2

theorem wpAnyM.fork2 {i j n : Nat} {oi oj : Oper} {done : Array Bool} {a : Act} {w : World} (hr : Region.ready .any ops done = [i, j]) (hi : ops[i]? = some oi) (hj : ops[j]? = some oj)
    (h1 : ∀ K' : Act → World → Prop, Shut (∀ a w, (D i = true → S w) → wpAnyM P ops Q S D n (done.setIfInBounds i true) a w → K' a w) → if Region.wanted oi (yielded ops a.tmps) = true then Oper.wp P oi a w K' Q else K' (a.put oi.dst undef) w)
    (h2 : ∀ K' : Act → World → Prop, Shut (∀ a w, (D j = true → S w) → wpAnyM P ops Q S D n (done.setIfInBounds j true) a w → K' a w) → if Region.wanted oj (yielded ops a.tmps) = true then Oper.wp P oj a w K' Q else K' (a.put oj.dst undef) w) :
    wpAnyM P ops Q S D (n + 1) done a w := by
  refine wpAnyM.all hr (by simp) (fun k hk => ?_)
  simp only [List.mem_cons, List.not_mem_nil, or_false] at hk
  rcases hk with rfl | rfl
  · exact wpOp_step hi (fun K' hK => h1 K' (fun a w hS hW => hK a w ⟨hS, hW⟩))
  · exact wpOp_step hj (fun K' hK => h2 K' (fun a w hS hW => hK a w ⟨hS, hW⟩))

theorem wpAnyM.cast {n : Nat} {done done' : Array Bool} {a : Act} {w : World} (h : wpAnyM P ops Q S D n done' a w) (e : done' = done) : wpAnyM P ops Q S D n done a w := e ▸ h
end
theorem noPanic_normal {Q : Exit → Act → World → Prop} {a : Act} {w : World} (h : Q .normal a w) : NoPanic Q .normal a w := h
end Go.Proofs.YtgcobbapaaihiaaGreat

set_option linter.unusedVariables false
set_option linter.unusedSimpArgs false
namespace Go.Proofs.YtgcobbapaaihiaaGreat
open Go.RowKit

section
variable {P : Program} {ops : Array Oper} {Q : Exit → Act → World → Prop} {S : World → Prop} {D : Nat → Bool} {n : Nat} {done : Array Bool} {a : Act} {w : World}

/-- The yield is shown outright. -/
theorem tk (i : Nat) (v : Value) (d : Nat) {oi : Oper} (hi : ops[i]? = some oi) (hd : oi.dst = some d) (hy : YieldsIf P ops S oi v a) (hS : S w) {T : Act}
    (h : wpAnyM P ops Q S D n (done.setIfInBounds i true) T w)
    (hs : Region.noSelect ops = true := by kernel_rfl) (hf : Region.free .any ops done i = true := by kernel_rfl) (hr : (Region.ready .any ops done).contains i = true := by kernel_rfl) (hc : closedB ops done = true := by kernel_rfl)
    (hD : (List.range ops.size).all (fun j => j == i || D j || waits2 ops j i) = true := by kernel_rfl)
    (hQ : ∀ c a w, Q (.panic c) (a.put (some d) v) w → Q (.panic c) a w := by exact fun _ _ _ h => h)
    (hT : a.put (some d) v = T := by (try simp only [Act.put, List.setIfInBounds_toArray, List.set_cons_zero, List.set_cons_succ]); rfl) : wpAnyM P ops Q S D (n + 1) done a w := by
  subst hT
  exact wpAnyM.takeT (some d) hi hd hs hf hr hc hD hQ hy hS h

theorem tk0 (i : Nat) (v : Value) (d : Nat) {oi : Oper} (hi : ops[i]? = some oi) (hd : oi.dst = some d) (hS : S w) {T : Act}
    (h : wpAnyM P ops Q S D n (done.setIfInBounds i true) T w)
    (hy : YieldsIf P ops S oi v a := by exact Or.inl ⟨by rfl, fun W _ => by go_simp <;> rfl⟩)
    (hs : Region.noSelect ops = true := by kernel_rfl) (hf : Region.free .any ops done i = true := by kernel_rfl) (hr : (Region.ready .any ops done).contains i = true := by kernel_rfl) (hc : closedB ops done = true := by kernel_rfl)
    (hD : (List.range ops.size).all (fun j => j == i || D j || waits2 ops j i) = true := by kernel_rfl)
    (hQ : ∀ c a w, Q (.panic c) (a.put (some d) v) w → Q (.panic c) a w := by exact fun _ _ _ h => h)
    (hT : a.put (some d) v = T := by (try simp only [Act.put, List.setIfInBounds_toArray, List.set_cons_zero, List.set_cons_succ]); rfl) : wpAnyM P ops Q S D (n + 1) done a w :=
  tk i v d hi hd hy hS h hs hf hr hc hD hQ hT
theorem tk1 (i : Nat) (v : Value) (d : Nat) {oi : Oper} (hi : ops[i]? = some oi) (hd : oi.dst = some d) (hS : S w) {T : Act}
    (h : wpAnyM P ops Q S D n (done.setIfInBounds i true) T w)
    (hy : YieldsIf P ops S oi v a := by exact Or.inl ⟨by rfl, fun W hW => by first | (obtain q0 := hW; go_simp <;> rfl) | (obtain q0 := hW; go_simp; done)⟩)
    (hs : Region.noSelect ops = true := by kernel_rfl) (hf : Region.free .any ops done i = true := by kernel_rfl) (hr : (Region.ready .any ops done).contains i = true := by kernel_rfl) (hc : closedB ops done = true := by kernel_rfl)
    (hD : (List.range ops.size).all (fun j => j == i || D j || waits2 ops j i) = true := by kernel_rfl)
    (hQ : ∀ c a w, Q (.panic c) (a.put (some d) v) w → Q (.panic c) a w := by exact fun _ _ _ h => h)
    (hT : a.put (some d) v = T := by (try simp only [Act.put, List.setIfInBounds_toArray, List.set_cons_zero, List.set_cons_succ]); rfl) : wpAnyM P ops Q S D (n + 1) done a w :=
  tk i v d hi hd hy hS h hs hf hr hc hD hQ hT
theorem tk2 (i : Nat) (v : Value) (d : Nat) {oi : Oper} (hi : ops[i]? = some oi) (hd : oi.dst = some d) (hS : S w) {T : Act}
    (h : wpAnyM P ops Q S D n (done.setIfInBounds i true) T w)
    (hy : YieldsIf P ops S oi v a := by exact Or.inl ⟨by rfl, fun W hW => by first | (obtain ⟨q0, q1⟩ := hW; go_simp <;> rfl) | (obtain ⟨q0, q1⟩ := hW; go_simp; done)⟩)
    (hs : Region.noSelect ops = true := by kernel_rfl) (hf : Region.free .any ops done i = true := by kernel_rfl) (hr : (Region.ready .any ops done).contains i = true := by kernel_rfl) (hc : closedB ops done = true := by kernel_rfl)
    (hD : (List.range ops.size).all (fun j => j == i || D j || waits2 ops j i) = true := by kernel_rfl)
    (hQ : ∀ c a w, Q (.panic c) (a.put (some d) v) w → Q (.panic c) a w := by exact fun _ _ _ h => h)
    (hT : a.put (some d) v = T := by (try simp only [Act.put, List.setIfInBounds_toArray, List.set_cons_zero, List.set_cons_succ]); rfl) : wpAnyM P ops Q S D (n + 1) done a w :=
  tk i v d hi hd hy hS h hs hf hr hc hD hQ hT
theorem tk3 (i : Nat) (v : Value) (d : Nat) {oi : Oper} (hi : ops[i]? = some oi) (hd : oi.dst = some d) (hS : S w) {T : Act}
    (h : wpAnyM P ops Q S D n (done.setIfInBounds i true) T w)
    (hy : YieldsIf P ops S oi v a := by exact Or.inl ⟨by rfl, fun W hW => by first | (obtain ⟨q0, q1, q2⟩ := hW; go_simp <;> rfl) | (obtain ⟨q0, q1, q2⟩ := hW; go_simp; done)⟩)
    (hs : Region.noSelect ops = true := by kernel_rfl) (hf : Region.free .any ops done i = true := by kernel_rfl) (hr : (Region.ready .any ops done).contains i = true := by kernel_rfl) (hc : closedB ops done = true := by kernel_rfl)
    (hD : (List.range ops.size).all (fun j => j == i || D j || waits2 ops j i) = true := by kernel_rfl)
    (hQ : ∀ c a w, Q (.panic c) (a.put (some d) v) w → Q (.panic c) a w := by exact fun _ _ _ h => h)
    (hT : a.put (some d) v = T := by (try simp only [Act.put, List.setIfInBounds_toArray, List.set_cons_zero, List.set_cons_succ]); rfl) : wpAnyM P ops Q S D (n + 1) done a w :=
  tk i v d hi hd hy hS h hs hf hr hc hD hQ hT
theorem tk4 (i : Nat) (v : Value) (d : Nat) {oi : Oper} (hi : ops[i]? = some oi) (hd : oi.dst = some d) (hS : S w) {T : Act}
    (h : wpAnyM P ops Q S D n (done.setIfInBounds i true) T w)
    (hy : YieldsIf P ops S oi v a := by exact Or.inl ⟨by rfl, fun W hW => by first | (obtain ⟨q0, q1, q2, q3⟩ := hW; go_simp <;> rfl) | (obtain ⟨q0, q1, q2, q3⟩ := hW; go_simp; done)⟩)
    (hs : Region.noSelect ops = true := by kernel_rfl) (hf : Region.free .any ops done i = true := by kernel_rfl) (hr : (Region.ready .any ops done).contains i = true := by kernel_rfl) (hc : closedB ops done = true := by kernel_rfl)
    (hD : (List.range ops.size).all (fun j => j == i || D j || waits2 ops j i) = true := by kernel_rfl)
    (hQ : ∀ c a w, Q (.panic c) (a.put (some d) v) w → Q (.panic c) a w := by exact fun _ _ _ h => h)
    (hT : a.put (some d) v = T := by (try simp only [Act.put, List.setIfInBounds_toArray, List.set_cons_zero, List.set_cons_succ]); rfl) : wpAnyM P ops Q S D (n + 1) done a w :=
  tk i v d hi hd hy hS h hs hf hr hc hD hQ hT
theorem tk5 (i : Nat) (v : Value) (d : Nat) {oi : Oper} (hi : ops[i]? = some oi) (hd : oi.dst = some d) (hS : S w) {T : Act}
    (h : wpAnyM P ops Q S D n (done.setIfInBounds i true) T w)
    (hy : YieldsIf P ops S oi v a := by exact Or.inl ⟨by rfl, fun W hW => by first | (obtain ⟨q0, q1, q2, q3, q4⟩ := hW; go_simp <;> rfl) | (obtain ⟨q0, q1, q2, q3, q4⟩ := hW; go_simp; done)⟩)
    (hs : Region.noSelect ops = true := by kernel_rfl) (hf : Region.free .any ops done i = true := by kernel_rfl) (hr : (Region.ready .any ops done).contains i = true := by kernel_rfl) (hc : closedB ops done = true := by kernel_rfl)
    (hD : (List.range ops.size).all (fun j => j == i || D j || waits2 ops j i) = true := by kernel_rfl)
    (hQ : ∀ c a w, Q (.panic c) (a.put (some d) v) w → Q (.panic c) a w := by exact fun _ _ _ h => h)
    (hT : a.put (some d) v = T := by (try simp only [Act.put, List.setIfInBounds_toArray, List.set_cons_zero, List.set_cons_succ]); rfl) : wpAnyM P ops Q S D (n + 1) done a w :=
  tk i v d hi hd hy hS h hs hf hr hc hD hQ hT

/-- Not wanted. -/
theorem tku (i : Nat) (v : Value) (d : Nat) {oi : Oper} (hi : ops[i]? = some oi) (hd : oi.dst = some d) (hS : S w) {T : Act}
    (h : wpAnyM P ops Q S D n (done.setIfInBounds i true) T w)
    (hy : YieldsIf P ops S oi v a := by exact Or.inr ⟨by rfl, rfl⟩)
    (hs : Region.noSelect ops = true := by kernel_rfl) (hf : Region.free .any ops done i = true := by kernel_rfl) (hr : (Region.ready .any ops done).contains i = true := by kernel_rfl) (hc : closedB ops done = true := by kernel_rfl)
    (hD : (List.range ops.size).all (fun j => j == i || D j || waits2 ops j i) = true := by kernel_rfl)
    (hQ : ∀ c a w, Q (.panic c) (a.put (some d) v) w → Q (.panic c) a w := by exact fun _ _ _ h => h)
    (hT : a.put (some d) v = T := by (try simp only [Act.put, List.setIfInBounds_toArray, List.set_cons_zero, List.set_cons_succ]); rfl) : wpAnyM P ops Q S D (n + 1) done a w :=
  tk i v d hi hd hy hS h hs hf hr hc hD hQ hT
end
end Go.Proofs.YtgcobbapaaihiaaGreat

set_option linter.unusedVariables false
set_option linter.unusedSimpArgs false
namespace Go.Proofs.YtgcobbapaaihiaaGreat
open Go.RowKit

theorem conv_sl {P : Program} {c : Col} {k k2 : Nat} {w : World} {v : Value} {l : List UInt8} (h : Sl TByte c k k2 w v l) (src dst e : TypeId) (hs : P.underlying src = some (.slice e)) (he : P.underlying e = some (.int .u8)) (hd : P.underlying dst = some .string) :
    (convert src dst v).run P w = .ok (.string ⟨l.toArray⟩) w := by
  rcases h with ⟨rfl, a, cap, rfl, _, hcap⟩ | ⟨b, off, cap, rfl, _, _, _, _, h5⟩
  · cases a with
    | none =>
      obtain rfl := hcap rfl
      simp [convert, run_underlying hs, run_underlying he, run_underlying hd, Conv.bytesToString, Sem.run_pure]
      rfl
    | some ad => exact run_convert_bytes_back w src dst e ad cap [] hs he hd (by intro j hj; simp at hj)
  · refine run_convert_bytes_back w src dst e ⟨b, off, none⟩ cap l hs he hd (fun j hj => ?_)
    obtain ⟨vs, rfl, hc⟩ := h5 j l[j] (by simp [hj])
    have := hc 0 _ rfl
    have hadd : (⟨b, off, none⟩ : Addr).add j = ⟨b, off + j * TByte.n + 0, none⟩ := by unfold Addr.add; split <;> simp_all [TByte]
    rw [hadd]; exact this

/-- A byte cell. -/
def ByteCell (w : World) (a : Addr) : Prop := ∃ n : Int, w.cell? a = some (.int .u8 n) ∧ 0 ≤ n ∧ n ≤ 255
/-- Whatever was a byte is one still. -/
def ByteSafe (w w' : World) : Prop := ∀ b o, ByteCell w ⟨b, o, none⟩ → ByteCell w' ⟨b, o, none⟩
theorem ByteSafe.refl (w : World) : ByteSafe w w := fun _ _ h => h
theorem ByteSafe.trans {a b c : World} (h : ByteSafe a b) (k : ByteSafe b c) : ByteSafe a c := fun x o hx => k x o (h x o hx)
theorem ByteSafe.set {w : World} {a : Addr} (ha : ByteCell w a) {n : Int} (h0 : 0 ≤ n) (h1 : n ≤ 255) : ByteSafe w (w.setCell a (.int .u8 n)) := by
  intro b o ⟨m, hm, h2, h3⟩
  by_cases e : a = ⟨b, o, none⟩
  · subst e
    exact ⟨n, World.cell?_setCell_same' _ _ _ (by rw [hm]; rfl), h0, h1⟩
  · exact ⟨m, by rw [World.cell?_setCell_other _ _ _ _ e]; exact hm, h2, h3⟩

/-- A slice whose elements are bytes, whatever they are. -/
def BytesOf (c : Col) (k : Nat) (w : World) (v : Value) (n : Nat) : Prop := ∃ l : List UInt8, l.length = n ∧ Sl TByte c k k w v l

theorem BytesOf.cell {c : Col} {k : Nat} {w : World} {b off len cap n : Nat} (h : BytesOf c k w (.slice (some ⟨b, off, none⟩) len cap) n) {j : Nat} (hj : j < n) : ByteCell w ⟨b, off + j, none⟩ ∧ c b = k := by
  obtain ⟨l, hl, h⟩ := h
  rcases h with ⟨rfl, _⟩ | ⟨b', off', cap', hv, _, _, h3, _, h5⟩
  · simp at hl; omega
  · cases hv
    obtain ⟨vs, rfl, hc⟩ := h5 j (l[j]'(by omega)) (by simp [hl, hj])
    have := hc 0 _ rfl
    simp only [TByte, Nat.mul_one, Nat.add_zero] at this
    exact ⟨⟨_, this, by omega, by have := (l[j]'(by omega)).toNat_lt; omega⟩, h3⟩

theorem BytesOf.safe {c c' : Col} {k : Nat} {w w' : World} {v : Value} {n : Nat} (h : BytesOf c k w v n) (hs : ByteSafe w w') (hz : w.heap.size ≤ w'.heap.size) (hc : ∀ b, b < w.heap.size → c b = k → c' b = k) : BytesOf c' k w' v n := by
  obtain ⟨l, hl, h⟩ := h
  rcases h with h | ⟨b, off, cap, hv, h1, h2, h3, h4, h5⟩
  · exact ⟨l, hl, .inl h⟩
  · have key : ∀ i : Nat, ∃ y : UInt8, i < l.length → w'.cell? ⟨b, off + i, none⟩ = some (.int .u8 y.toNat) := by
      intro i
      by_cases hi : i < l.length
      · obtain ⟨vs, rfl, hcl⟩ := h5 i l[i] (by simp [hi])
        have := hcl 0 _ rfl
        simp only [TByte, Nat.mul_one, Nat.add_zero] at this
        obtain ⟨m, hm, m0, m1⟩ := hs b (off + i) ⟨_, this, by omega, by have := l[i].toNat_lt; omega⟩
        refine ⟨UInt8.ofNat m.toNat, fun _ => ?_⟩
        rw [hm]
        congr 2
        simp only [UInt8.toNat_ofNat']
        omega
      · exact ⟨0, fun h => absurd h hi⟩
    obtain ⟨f, hf⟩ := Classical.axiomOfChoice key
    refine ⟨(List.range l.length).map f, by simp [hl], .inr ⟨b, off, cap, by simpa using hv, by simpa using h1, h2, hc b h4 h3, Nat.lt_of_lt_of_le h4 hz, fun i x hx => ?_⟩⟩
    have hi : i < l.length := by have := (List.getElem?_eq_some_iff.1 hx).1; simpa using this
    simp [hi] at hx
    subst hx
    refine ⟨_, rfl, ?_⟩
    intro j u hu
    have hj : j = 0 := by have := (List.getElem?_eq_some_iff.1 hu).1; simp at this; omega
    subst hj
    simp at hu; subst hu
    simp only [TByte, Nat.mul_one, Nat.add_zero]
    exact hf i hi
end Go.Proofs.YtgcobbapaaihiaaGreat

set_option linter.unusedVariables false
set_option linter.unusedSimpArgs false
namespace Go.Proofs.YtgcobbapaaihiaaGreat
open Go.RowKit

def setMany (w : World) (b o : Nat) : List Value → World
  | [] => w
  | v :: vs => setMany (w.setCell ⟨b, o, none⟩ v) b (o + 1) vs

theorem setMany_other : ∀ (vs : List Value) (w : World) (b o : Nat) (p : Addr), (p.block ≠ b ∨ p.off < o ∨ o + vs.length ≤ p.off) → (setMany w b o vs).cell? p = w.cell? p
  | [], _, _, _, _, _ => rfl
  | v :: vs, w, b, o, p, h => by
    simp only [setMany]
    rw [setMany_other vs _ b (o + 1) p (by simp only [List.length_cons] at h; omega)]
    refine World.cell?_setCell_other _ _ _ _ (fun e => ?_)
    subst e
    simp only [List.length_cons, ne_eq, not_true_eq_false, false_or] at h
    omega

theorem setMany_cells : ∀ (vs : List Value) (w : World) (b o : Nat), (∀ j, j < vs.length → (w.cell? ⟨b, o + j, none⟩).isSome = true) → CellsAt (setMany w b o vs) b o vs
  | [], _, _, _, _ => by intro j u hu; simp at hu
  | v :: vs, w, b, o, h => by
    intro j u hu
    simp only [setMany]
    cases j with
    | zero =>
      simp at hu; subst hu
      rw [setMany_other vs _ b (o + 1) _ (by simp)]
      exact World.cell?_setCell_same' _ _ _ (h 0 (by simp))
    | succ j =>
      simp at hu
      have := setMany_cells vs (w.setCell ⟨b, o, none⟩ v) b (o + 1) (fun i hi => by
        rw [World.cell?_setCell_other _ _ _ _ (by intro e; injection e with e1 e2; omega)]
        have := h (i + 1) (by simp; omega)
        rwa [show o + 1 + i = o + (i + 1) by omega]) j u hu
      rwa [show o + (j + 1) = o + 1 + j by omega]

theorem setMany_step {K : Nat → Prop} {c0 : Col} {w0 : World} {c : Col} {b : Nat} (hb : w0.heap.size ≤ b ∨ K (c0 b)) : ∀ (vs : List Value) (w : World) (o : Nat), Step K c0 w0 c w → Step K c0 w0 c (setMany w b o vs)
  | [], _, _, h => h
  | v :: vs, w, o, h => setMany_step hb vs _ _ (h.setCell (a := ⟨b, o, none⟩) hb v)

theorem setMany_ok {c : Col} {b : Nat} : ∀ (vs : List Value) (w : World) (o : Nat), Ok c w → Ok c (setMany w b o vs)
  | [], _, _, h => h
  | v :: vs, w, o, h => setMany_ok vs _ _ (h.setCell _ _)

/-- An element written over. -/
theorem Sl.put {α : Type} {T : Ty α} {c : Col} {k k2 : Nat} {w : World} {b off len cap : Nat} {l : List α} (h : Sl T c k k2 w (.slice (some ⟨b, off, none⟩) len cap) l) (hk : k2 ≠ k) {j : Nat} (hj : j < l.length) {vs : List Value} {x : α} (hr : T.rd c k2 w vs x) :
    Sl T c k k2 (setMany w b (off + j * T.n) vs) (.slice (some ⟨b, off, none⟩) len cap) (l.set j x) := by
  rcases h with ⟨rfl, _⟩ | ⟨b', off', cap', hv, h1, h2, h3, h4, h5⟩
  · simp at hj
  · cases hv
    have hst : Step (One k) c w c (setMany w b (off + j * T.n) vs) := setMany_step (.inr h3) vs w _ Step.refl
    have hvl := T.len hr
    refine .inr ⟨b, off, cap, by simp, by simpa using h1, h2, h3, Nat.lt_of_lt_of_le h4 hst.size, fun i y hy => ?_⟩
    by_cases e : i = j
    · subst e
      rw [List.getElem?_set_self hj] at hy
      cases hy
      refine ⟨vs, T.keep hst hk hr, setMany_cells vs w b _ (fun i' hi' => ?_)⟩
      obtain ⟨vs0, hr0, hc0⟩ := h5 i l[i] (by simp [hj])
      have hl0 := T.len hr0
      have := hc0 i' (vs0[i']'(by omega)) (by simp)
      rw [this]; rfl
    · rw [List.getElem?_set_ne (fun h => e h.symm)] at hy
      obtain ⟨vs0, hr0, hc0⟩ := h5 i y hy
      refine ⟨vs0, T.keep hst hk hr0, fun i' u hu => ?_⟩
      have hi' : i' < vs0.length := (List.getElem?_eq_some_iff.1 hu).1
      have hl0 := T.len hr0
      rw [setMany_other vs w b _ _ ?_]
      · exact hc0 i' u hu
      · right
        show off + i * T.n + i' < off + j * T.n ∨ off + j * T.n + vs.length ≤ off + i * T.n + i'
        rcases Nat.lt_or_gt_of_ne e with h | h
        · left
          have : (i + 1) * T.n ≤ j * T.n := Nat.mul_le_mul_right _ h
          rw [Nat.succ_mul] at this; omega
        · right
          have : (j + 1) * T.n ≤ i * T.n := Nat.mul_le_mul_right _ h
          rw [Nat.succ_mul] at this; omega

/-- What the elements lead to was changed; each still reads as something. -/
theorem Sl.change {α : Type} {T : Ty α} {K : Nat → Prop} {c c' : Col} {k k2 : Nat} {w w' : World} {v : Value} {l : List α} (h : Sl T c k k2 w v l) (hs : Step K c w c' w') (hk : ¬ K k) (hr : ∀ vs x, T.rd c k2 w vs x → ∃ x', T.rd c' k2 w' vs x') :
    ∃ l', l'.length = l.length ∧ Sl T c' k k2 w' v l' := by
  rcases h with ⟨rfl, h⟩ | ⟨b, off, cap, hv, h1, h2, h3, h4, h5⟩
  · exact ⟨[], rfl, .inl ⟨rfl, h⟩⟩
  · by_cases hl0 : l = []
    · subst hl0
      exact ⟨[], rfl, .inr ⟨b, off, cap, hv, h1, h2, (hs.col b h4 (by rw [h3]; exact hk)).trans h3, Nat.lt_of_lt_of_le h4 hs.size, by simp⟩⟩
    obtain ⟨x0, hx0⟩ : ∃ x0, l[0]? = some x0 := by cases l with | nil => exact absurd rfl hl0 | cons a t => exact ⟨a, rfl⟩
    have key : ∀ i : Nat, ∃ y : α × List Value, i < l.length → T.rd c' k2 w' y.2 y.1 ∧ CellsAt w' b (off + i * T.n) y.2 := by
      intro i
      by_cases hi : i < l.length
      · obtain ⟨vs, a1, a2⟩ := h5 i l[i] (by simp [hi])
        obtain ⟨x', hx'⟩ := hr vs _ a1
        exact ⟨(x', vs), fun _ => ⟨hx', a2.keep hs h4 (by rw [h3]; exact hk)⟩⟩
      · exact ⟨(x0, []), fun h => absurd h hi⟩
    obtain ⟨f, hf⟩ := Classical.axiomOfChoice key
    refine ⟨(List.range l.length).map (fun i => (f i).1), by simp, .inr ⟨b, off, cap, by simpa using hv, by simpa using h1, h2, (hs.col b h4 (by rw [h3]; exact hk)).trans h3, Nat.lt_of_lt_of_le h4 hs.size, fun i x hx => ?_⟩⟩
    have hi : i < l.length := by have := (List.getElem?_eq_some_iff.1 hx).1; simpa using this
    simp [hi] at hx
    subst hx
    exact ⟨(f i).2, (hf i hi).1, (hf i hi).2⟩
end Go.Proofs.YtgcobbapaaihiaaGreat

set_option linter.unusedVariables false
set_option linter.unusedSimpArgs false
namespace Go.Proofs.YtgcobbapaaihiaaGreat
open Go.RowKit

/-- A slice that is not empty: its row. -/
theorem Sl.ex {α : Type} {T : Ty α} {c : Col} {k k2 : Nat} {w : World} {v : Value} {l : List α} (h : Sl T c k k2 w v l) (hl : 0 < l.length) : ∃ b off cap, v = .slice (some ⟨b, off, none⟩) l.length cap ∧ l.length ≤ cap ∧ cap ≤ maxLen ∧ c b = k ∧ b < w.heap.size := by
  rcases h with ⟨rfl, _⟩ | ⟨b, off, cap, hv, h1, h2, h3, h4, _⟩
  · simp at hl
  · exact ⟨b, off, cap, hv, h1, h2, h3, h4⟩

/-- Values without anything behind them: n cells each, laid out by f. -/
def TPlain {α : Type} (n : Nat) (f : α → List Value) (hl : ∀ x, (f x).length = n) (h1 : ∀ x, ∀ u ∈ f x, u.oneCell' = true) : Ty α where
  n := n
  rd := fun _ _ _ vs x => vs = f x
  len := by rintro _ _ _ _ x rfl; exact hl x
  one := by rintro _ _ _ _ x rfl; exact h1 x
  keep := by rintro _ _ _ _ _ _ _ _ _ _ h; exact h
  turn := by rintro _ _ _ _ _ _ h; exact h

/-- The cells of element j. -/
theorem Sl.at {α : Type} {T : Ty α} {c : Col} {k k2 : Nat} {w : World} {g off cap len : Nat} {l : List α} (h : Sl T c k k2 w (.slice (some ⟨g, off, none⟩) len cap) l) {j : Nat} {x : α} (hj : l[j]? = some x) :
    ∃ vs, T.rd c k2 w vs x ∧ CellsAt w g (off + j * T.n) vs := by
  rcases h with ⟨rfl, _⟩ | ⟨g', off', cap', hv, h1, h2, h3, h4, h5⟩
  · simp at hj
  · cases hv; exact h5 j x hj

theorem CellsAt.get {w : World} {b off : Nat} {vs : List Value} (h : CellsAt w b off vs) (j : Nat) {u : Value} (hj : vs[j]? = some u) : w.cell? ⟨b, off + j, none⟩ = some u := h j u hj
end Go.Proofs.YtgcobbapaaihiaaGreat
