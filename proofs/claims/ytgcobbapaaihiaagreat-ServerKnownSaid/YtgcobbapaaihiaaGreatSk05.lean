/- ServerKnown, part 05: lemmas, each with its own conditions. -/
import Derived.Test.YtgcobbapaaihiaaGreatSk04
set_option linter.unusedVariables false
set_option linter.unusedSimpArgs false
namespace Go.Proofs.YtgcobbapaaihiaaGreat
open Go.RowKit

section
variable {P : Program} {ops : Array Oper} {Q : Exit → Act → World → Prop} {S : World → Prop} {D : Nat → Bool}

/-- Whatever order: behind the operations that D marks, S holds. (An operation that waits for every load taken first need not be marked.) -/
def wpAnyM (P : Program) (ops : Array Oper) (Q : Exit → Act → World → Prop) (S : World → Prop) (D : Nat → Bool) : Nat → Array Bool → Act → World → Prop
  | 0, done, a, w => Region.ready .any ops done = [] ∧ Q .normal a w
  | n + 1, done, a, w => (Region.ready .any ops done = [] → Q .normal a w) ∧
      ∀ i ∈ Region.ready .any ops done, wpOp P ops Q i (fun a' w' => (D i = true → S w') ∧ wpAnyM P ops Q S D n (done.setIfInBounds i true) a' w') a w

theorem wpAnyM.any : ∀ (n : Nat) (done : Array Bool) (a : Act) (w : World), wpAnyM P ops Q S D n done a w → wpAny P .any ops Q n done a w
  | 0, _, _, _, h => h
  | n + 1, _, _, _, h => ⟨h.1, fun i hi => wpOp_mono (fun a' w' h' => wpAnyM.any n _ a' w' h'.2) (h.2 i hi)⟩

/-- Number j waits for number i. -/
def waitsFor (ops : Array Oper) (j i : Nat) : Bool := match ops[j]? with | some o => o.after.any fun e => Region.binds .any e && e.on == i | none => true

theorem wpAnyM.take_aux {i : Nat} {oi : Oper} {v : Value} (hi : ops[i]? = some oi) (hsel : ∀ (j : Nat) (o : Oper) cs b, ops[j]? = some o → o.op ≠ .select cs b)
    (hQ : ∀ c a w, Q (.panic c) (a.put oi.dst v) w → Q (.panic c) a w) (hD : ∀ j, j < ops.size → j ≠ i → D j = true ∨ waitsFor ops j i = true) :
    ∀ (n : Nat) (done : Array Bool) (a : Act) (w : World),
      (∀ j oj, ops[j]? = some oj → j ≠ i → done.getD j true = false → (∀ e ∈ oj.after, Region.binds .any e = true → e.on ≠ i) → oi.apart ops oj = true) →
      i ∈ Region.ready .any ops done → YieldsIf P ops S oi v a → S w →
      wpAnyM P ops Q S D n (done.setIfInBounds i true) (a.put oi.dst v) w → wpAnyM P ops Q S D (n + 1) done a w := by
  intro n
  induction n with
  | zero =>
    intro done a w _ hr hy hS H
    refine ⟨fun h => (by rw [h] at hr; cases hr), fun j hj => ?_⟩
    by_cases e : j = i
    · subst e; exact hy.wpOp hi hS ⟨fun _ => hS, H⟩
    · have := ready_mono hj e
      rw [H.1] at this
      cases this
  | succ n ih =>
    intro done a w hfree hr hy hS H
    refine ⟨fun h => (by rw [h] at hr; cases hr), fun j hj => ?_⟩
    by_cases e : j = i
    · subst e; exact hy.wpOp hi hS ⟨fun _ => hS, H⟩
    obtain ⟨hjun, oj, hoj, hall⟩ := mem_ready.1 hj
    have hi0 := (mem_ready.1 hr).1
    have hnot : ∀ x ∈ oj.after, Region.binds .any x = true → x.on ≠ i := fun x hx hb hxi => by
      have h1 := hall x hx hb
      rw [hxi] at h1
      rcases Nat.lt_or_ge i done.size with h' | h'
      · simp [h'] at hi0 h1; rw [hi0] at h1; cases h1
      · simp [Array.getElem?_eq_none h'] at h1
    have hDj : D j = true := by
      have hlt : j < ops.size := by
        rcases Nat.lt_or_ge j ops.size with h | h
        · exact h
        · rw [Array.getElem?_eq_none h] at hoj; cases hoj
      rcases hD j hlt e with h | h
      · exact h
      · unfold waitsFor at h
        rw [hoj] at h
        obtain ⟨x, hx, hb⟩ := Array.any_eq_true'.1 h
        simp only [Bool.and_eq_true, beq_iff_eq] at hb
        exact absurd hb.2 (hnot x hx hb.1)
    have step := wpOp_putIf hoj (hfree j oj hoj e hjun hnot) (fun cs b => hsel i oi cs b hi) (fun cs b => hsel j oj cs b hoj) hQ hy (H.2 j (ready_mono hj e))
    refine wpOp_mono (fun a' w' hh => ⟨fun _ => hh.2.1 hDj, ih (done.setIfInBounds j true) a' w' (fun k ok hk hki hun hno => hfree k ok hk hki ?_ hno) (ready_mono hr (Ne.symm e)) hh.1 (hh.2.1 hDj) ?_⟩) step
    · by_cases hjk : j = k
      · subst hjk; exact hjun
      · rw [getD_set_ne true hjk] at hun; exact hun
    · rw [Array.setIfInBounds_comm _ _ e]
      exact hh.2.2

theorem wpAnyM.take {i : Nat} {oi : Oper} {v : Value} {n : Nat} {done : Array Bool} {a : Act} {w : World} (hi : ops[i]? = some oi)
    (hs : Region.noSelect ops = true) (hf : Region.free .any ops done i = true) (hr : (Region.ready .any ops done).contains i = true)
    (hD : (List.range ops.size).all (fun j => j == i || D j || waitsFor ops j i) = true)
    (hQ : ∀ c a w, Q (.panic c) (a.put oi.dst v) w → Q (.panic c) a w) (hy : YieldsIf P ops S oi v a) (hS : S w)
    (h : wpAnyM P ops Q S D n (done.setIfInBounds i true) (a.put oi.dst v) w) : wpAnyM P ops Q S D (n + 1) done a w :=
  wpAnyM.take_aux hi (Region.noSelect_spec hs) hQ (fun j hj hji => by
    have := List.all_eq_true.1 hD j (List.mem_range.2 hj)
    simp only [Bool.or_eq_true, beq_iff_eq] at this
    rcases this with (h | h) | h
    · exact absurd h hji
    · exact .inl h
    · exact .inr h) n done a w (Region.free_spec hi hf) (by simpa using hr) hy hS h

/-- The same, where it puts its value said apart (so that the frame can be laid out). -/
theorem wpAnyM.take' {i : Nat} {oi : Oper} {v : Value} {n : Nat} {done : Array Bool} {a : Act} {w : World} (d : Option Tmp) (hi : ops[i]? = some oi) (hd : oi.dst = d)
    (hs : Region.noSelect ops = true) (hf : Region.free .any ops done i = true) (hr : (Region.ready .any ops done).contains i = true)
    (hD : (List.range ops.size).all (fun j => j == i || D j || waitsFor ops j i) = true)
    (hQ : ∀ c a w, Q (.panic c) (a.put d v) w → Q (.panic c) a w) (hy : YieldsIf P ops S oi v a) (hS : S w)
    (h : wpAnyM P ops Q S D n (done.setIfInBounds i true) (a.put d v) w) : wpAnyM P ops Q S D (n + 1) done a w := by
  subst hd
  exact wpAnyM.take hi hs hf hr hD hQ hy hS h

theorem wpAnyM.all {rs : List Nat} {n : Nat} {done : Array Bool} {a : Act} {w : World} (hr : Region.ready .any ops done = rs) (hne : rs ≠ [])
    (h : ∀ i ∈ rs, wpOp P ops Q i (fun a' w' => (D i = true → S w') ∧ wpAnyM P ops Q S D n (done.setIfInBounds i true) a' w') a w) : wpAnyM P ops Q S D (n + 1) done a w :=
  ⟨fun h0 => absurd (hr ▸ h0) hne, hr ▸ h⟩

theorem wpAnyM.one {i n : Nat} {o : Oper} {done : Array Bool} {a : Act} {w : World} (hr : Region.ready .any ops done = [i]) (ho : ops[i]? = some o)
    (h : ∀ K' : Act → World → Prop, Shut (∀ a w, (D i = true → S w) → wpAnyM P ops Q S D n (done.setIfInBounds i true) a w → K' a w) → if Region.wanted o (yielded ops a.tmps) = true then Oper.wp P o a w K' Q else K' (a.put o.dst undef) w) :
    wpAnyM P ops Q S D (n + 1) done a w :=
  wpAnyM.all hr (by simp) (fun j hj => by
    rcases List.mem_singleton.1 hj with rfl
    exact wpOp_step ho (fun K' hK => h K' (fun a w hS hW => hK a w ⟨hS, hW⟩)))

theorem wpAnyM.done {done : Array Bool} {a : Act} {w : World} (hr : Region.ready .any ops done = []) (h : Q .normal a w) : ∀ n, wpAnyM P ops Q S D n done a w
  | 0 => ⟨hr, h⟩
  | _ + 1 => ⟨fun _ => h, by rw [hr]; simp⟩

theorem region_roundM {id : Nat} {a : Act} {w : World} {lp : Nat} (S : World → Prop) (D : Nat → Bool) (hm : P.follows .mixedOrders = true) (hd : noDefers ops = true) (hq : ¬ LetsOut Q)
    (h : wpAnyM P ops Q S D ops.size (Array.replicate ops.size false) a w.drew) : (Code.region id ops true).wpIn (Fence.wide.inRound lp) 0 P Q a w :=
  region_round hm hd hq (wpAnyM.any _ _ _ _ h)

theorem region_planM {id : Nat} {a : Act} {w : World} (S : World → Prop) (D : Nat → Bool) (hm : P.follows .mixedOrders = true)
    (h : wpAnyM P ops Q S D ops.size (Array.replicate ops.size false) a w.drew) : (Code.region id ops true).wp P Q a w :=
  wp_region_any hm (wpAnyM.any _ _ _ _ h)
end
end Go.Proofs.YtgcobbapaaihiaaGreat

set_option linter.unusedVariables false
set_option linter.unusedSimpArgs false
namespace Go.Proofs.YtgcobbapaaihiaaGreat
open Go.RowKit

section
variable {P : Program} {ops : Array Oper} {Q : Exit → Act → World → Prop} {S : World → Prop} {D : Nat → Bool}

/-- Number j waits for number i, or for one that waits for it. -/
def waits1 (ops : Array Oper) (j i : Nat) : Bool := match ops[j]? with | some o => o.after.any fun e => Region.binds .any e && e.on == i | none => false
def waits2 (ops : Array Oper) (j i : Nat) : Bool := waits1 ops j i || match ops[j]? with | some o => o.after.any fun e => Region.binds .any e && waits1 ops e.on i | none => false

/-- What is done waited for what is done. -/
def closedB (ops : Array Oper) (done : Array Bool) : Bool := (List.range ops.size).all fun d => !(done.getD d true) || match ops[d]? with | some o => o.after.all (fun e => !Region.binds .any e || done.getD e.on false) | none => true

def Closed (ops : Array Oper) (done : Array Bool) : Prop := ∀ (d : Nat) od, ops[d]? = some od → done.getD d true = true → ∀ e ∈ od.after, Region.binds .any e = true → done.getD e.on false = true

theorem closed_of {done : Array Bool} (h : closedB ops done = true) : Closed ops done := by
  intro d od hd hdn e he hb
  have hlt : d < ops.size := (Array.getElem?_eq_some_iff.1 hd).1
  have := List.all_eq_true.1 h d (List.mem_range.2 hlt)
  rw [hdn, hd] at this
  simp only [Bool.not_true, Bool.false_or] at this
  have := Array.all_eq_true'.1 this e he
  rw [hb] at this
  simpa using this

theorem getD_false_set {done : Array Bool} {i k : Nat} (h : done.getD k false = true) : (done.setIfInBounds i true).getD k false = true := by
  have hk : k < done.size := by
    rcases Nat.lt_or_ge k done.size with h' | h'
    · exact h'
    · simp [Array.getElem?_eq_none h'] at h
  by_cases e : i = k
  · subst e; simp [hk]
  · simp [Array.getElem?_setIfInBounds, e, hk] at h ⊢; exact h

theorem Closed.set {done : Array Bool} (h : Closed ops done) {j : Nat} {oj : Oper} (hoj : ops[j]? = some oj) (hall : ∀ e ∈ oj.after, Region.binds .any e = true → done.getD e.on false = true) : Closed ops (done.setIfInBounds j true) := by
  intro d od hd hdn e he hb
  by_cases hj : j = d
  · subst hj
    rw [hoj] at hd; cases hd
    exact getD_false_set (hall e he hb)
  · rw [getD_set_ne true hj] at hdn
    exact getD_false_set (h d od hd hdn e he hb)

theorem wpAnyM.takeT_aux {i : Nat} {oi : Oper} {v : Value} (hi : ops[i]? = some oi) (hsel : ∀ (j : Nat) (o : Oper) cs b, ops[j]? = some o → o.op ≠ .select cs b)
    (hQ : ∀ c a w, Q (.panic c) (a.put oi.dst v) w → Q (.panic c) a w) (hD : ∀ j, j < ops.size → j ≠ i → D j = true ∨ waits2 ops j i = true) :
    ∀ (n : Nat) (done : Array Bool) (a : Act) (w : World), Closed ops done →
      (∀ j oj, ops[j]? = some oj → j ≠ i → done.getD j true = false → (∀ e ∈ oj.after, Region.binds .any e = true → e.on ≠ i) → oi.apart ops oj = true) →
      i ∈ Region.ready .any ops done → YieldsIf P ops S oi v a → S w →
      wpAnyM P ops Q S D n (done.setIfInBounds i true) (a.put oi.dst v) w → wpAnyM P ops Q S D (n + 1) done a w := by
  intro n
  induction n with
  | zero =>
    intro done a w _ _ hr hy hS H
    refine ⟨fun h => (by rw [h] at hr; cases hr), fun j hj => ?_⟩
    by_cases e : j = i
    · subst e; exact hy.wpOp hi hS ⟨fun _ => hS, H⟩
    · have := ready_mono hj e
      rw [H.1] at this
      cases this
  | succ n ih =>
    intro done a w hcl hfree hr hy hS H
    refine ⟨fun h => (by rw [h] at hr; cases hr), fun j hj => ?_⟩
    by_cases e : j = i
    · subst e; exact hy.wpOp hi hS ⟨fun _ => hS, H⟩
    obtain ⟨hjun, oj, hoj, hall⟩ := mem_ready.1 hj
    have hi0 := (mem_ready.1 hr).1
    have hi00 : done.getD i false = false := by
      rcases Nat.lt_or_ge i done.size with h' | h'
      · simp [h'] at hi0 ⊢; exact hi0
      · simp [Array.getElem?_eq_none h']
    have hnot : ∀ x ∈ oj.after, Region.binds .any x = true → x.on ≠ i := fun x hx hb hxi => by
      have h1 := hall x hx hb
      rw [hxi, hi00] at h1
      cases h1
    have hDj : D j = true := by
      have hlt : j < ops.size := by
        rcases Nat.lt_or_ge j ops.size with h | h
        · exact h
        · rw [Array.getElem?_eq_none h] at hoj; cases hoj
      rcases hD j hlt e with h | h
      · exact h
      · exfalso
        unfold waits2 at h
        rw [Bool.or_eq_true] at h
        rcases h with h | h
        · unfold waits1 at h
          rw [hoj] at h
          obtain ⟨x, hx, hb⟩ := Array.any_eq_true'.1 h
          simp only [Bool.and_eq_true, beq_iff_eq] at hb
          exact absurd hb.2 (hnot x hx hb.1)
        · rw [hoj] at h
          obtain ⟨x, hx, hb⟩ := Array.any_eq_true'.1 h
          rw [Bool.and_eq_true] at hb
          have hdx := hall x hx hb.1
          have hxs : done.getD x.on true = true := by
            rcases Nat.lt_or_ge x.on done.size with h' | h'
            · simp [h'] at hdx ⊢; exact hdx
            · simp [Array.getElem?_eq_none h']
          have hw := hb.2
          unfold waits1 at hw
          cases hox : ops[x.on]? with
          | none => rw [hox] at hw; cases hw
          | some ox =>
            rw [hox] at hw
            obtain ⟨y, hy', hby⟩ := Array.any_eq_true'.1 hw
            simp only [Bool.and_eq_true, beq_iff_eq] at hby
            have := hcl x.on ox hox hxs y hy' hby.1
            rw [hby.2, hi00] at this
            cases this
    have step := wpOp_putIf hoj (hfree j oj hoj e hjun hnot) (fun cs b => hsel i oi cs b hi) (fun cs b => hsel j oj cs b hoj) hQ hy (H.2 j (ready_mono hj e))
    refine wpOp_mono (fun a' w' hh => ⟨fun _ => hh.2.1 hDj, ih (done.setIfInBounds j true) a' w' (hcl.set hoj hall) (fun k ok hk hki hun hno => hfree k ok hk hki ?_ hno) (ready_mono hr (Ne.symm e)) hh.1 (hh.2.1 hDj) ?_⟩) step
    · by_cases hjk : j = k
      · subst hjk; exact hjun
      · rw [getD_set_ne true hjk] at hun; exact hun
    · rw [Array.setIfInBounds_comm _ _ e]
      exact hh.2.2

theorem wpAnyM.takeT {i : Nat} {oi : Oper} {v : Value} {n : Nat} {done : Array Bool} {a : Act} {w : World} (d : Option Tmp) (hi : ops[i]? = some oi) (hd : oi.dst = d)
    (hs : Region.noSelect ops = true) (hf : Region.free .any ops done i = true) (hr : (Region.ready .any ops done).contains i = true) (hc : closedB ops done = true)
    (hD : (List.range ops.size).all (fun j => j == i || D j || waits2 ops j i) = true)
    (hQ : ∀ c a w, Q (.panic c) (a.put d v) w → Q (.panic c) a w) (hy : YieldsIf P ops S oi v a) (hS : S w)
    (h : wpAnyM P ops Q S D n (done.setIfInBounds i true) (a.put d v) w) : wpAnyM P ops Q S D (n + 1) done a w := by
  subst hd
  exact wpAnyM.takeT_aux hi (Region.noSelect_spec hs) hQ (fun j hj hji => by
    have := List.all_eq_true.1 hD j (List.mem_range.2 hj)
    simp only [Bool.or_eq_true, beq_iff_eq] at this
    rcases this with (h | h) | h
    · exact absurd h hji
    · exact .inl h
    · exact .inr h) n done a w (closed_of hc) (Region.free_spec hi hf) (by simpa using hr) hy hS h

theorem put_comm (a : Act) (i j : Nat) (v u : Value) (h : i ≠ j) : (a.put (some i) v).put (some j) u = (a.put (some j) u).put (some i) v := by
  simp only [Act.put]
  rw [Array.setIfInBounds_comm _ _ h]

/-- Two operations, in whichever order: what is put is the same either way, and of the world R is known. -/
theorem wpAnyM.two {i j n : Nat} {oi oj : Oper} {done : Array Bool} {a : Act} {w : World} (di dj : Nat) (hr : Region.ready .any ops done = [i, j]) (hi : ops[i]? = some oi) (hj : ops[j]? = some oj) (hdi : oi.dst = some di) (hdj : oj.dst = some dj) (hne : di ≠ dj)
    (hri : Region.ready .any ops (done.setIfInBounds i true) = [j]) (hrj : Region.ready .any ops (done.setIfInBounds j true) = [i]) (hij : i ≠ j) (vi vj : Value) (R : World → Prop)
    (h1 : ∀ K : Act → World → Prop, Shut (∀ w1, (D i = true → S w1) → (∀ K2 : Act → World → Prop, Shut (∀ w2, (D j = true → S w2) → R w2 → K2 ((a.put (some di) vi).put (some dj) vj) w2) → if Region.wanted oj (yielded ops (a.put (some di) vi).tmps) = true then Oper.wp P oj (a.put (some di) vi) w1 K2 Q else K2 ((a.put (some di) vi).put oj.dst undef) w1) → K (a.put (some di) vi) w1) →
      if Region.wanted oi (yielded ops a.tmps) = true then Oper.wp P oi a w K Q else K (a.put oi.dst undef) w)
    (h2 : ∀ K : Act → World → Prop, Shut (∀ w1, (D j = true → S w1) → (∀ K2 : Act → World → Prop, Shut (∀ w2, (D i = true → S w2) → R w2 → K2 ((a.put (some dj) vj).put (some di) vi) w2) → if Region.wanted oi (yielded ops (a.put (some dj) vj).tmps) = true then Oper.wp P oi (a.put (some dj) vj) w1 K2 Q else K2 ((a.put (some dj) vj).put oi.dst undef) w1) → K (a.put (some dj) vj) w1) →
      if Region.wanted oj (yielded ops a.tmps) = true then Oper.wp P oj a w K Q else K (a.put oj.dst undef) w)
    (hrest : ∀ w2, R w2 → wpAnyM P ops Q S D n ((done.setIfInBounds i true).setIfInBounds j true) ((a.put (some di) vi).put (some dj) vj) w2) :
    wpAnyM P ops Q S D (n + 1 + 1) done a w := by
  refine wpAnyM.all hr (by simp) (fun k hk => ?_)
  simp only [List.mem_cons, List.not_mem_nil, or_false] at hk
  rcases hk with rfl | rfl
  · refine wpOp_step hi (fun K hK => h1 K ?_)
    exact fun w1 hS hnext => hK _ _ ⟨hS, wpAnyM.one hri hj (fun K2 hK2 => hnext K2 (fun w2 hS2 hR => hK2.out _ _ hS2 (hrest w2 hR)))⟩
  · refine wpOp_step hj (fun K hK => h2 K ?_)
    exact fun w1 hS hnext => hK _ _ ⟨hS, wpAnyM.one hrj hi (fun K2 hK2 => hnext K2 (fun w2 hS2 hR => hK2.out _ _ hS2 (by
      rw [put_comm _ _ _ _ _ hne.symm, Array.setIfInBounds_comm _ _ hij.symm]
      exact hrest w2 hR)))⟩

/-- Operations in several orders, all of which come to one frame (what was put said in 'ps'), of whose world R is known. -/
theorem wpAnyM.forkR {n m : Nat} {done doneF : Array Bool} {a : Act} {w : World} (ps : List (Nat × Value)) (R : World → Prop)
    (h1 : (∀ W2, R W2 → wpAnyM P ops Q S D m doneF (ps.foldl (fun a p => a.put (some p.1) p.2) a) W2) → wpAnyM P ops Q S D n done a w)
    (h2 : ∀ W2, R W2 → wpAnyM P ops Q S D m doneF (ps.foldl (fun a p => a.put (some p.1) p.2) a) W2) : wpAnyM P ops Q S D n done a w := h1 h2

theorem wpAnyM.fork2 {i j n : Nat} {oi oj : Oper} {done : Array Bool} {a : Act} {w : World} (hr : Region.ready .any ops done = [i, j]) (hi : ops[i]? = some oi) (hj : ops[j]? = some oj)
    (h1 : ∀ K' : Act → World → Prop, Shut (∀ a w, (D i = true → S w) → wpAnyM P ops Q S D n (done.setIfInBounds i true) a w → K' a w) → if Region.wanted oi (yielded ops a.tmps) = true then Oper.wp P oi a w K' Q else K' (a.put oi.dst undef) w)
    (h2 : ∀ K' : Act → World → Prop, Shut (∀ a w, (D j = true → S w) → wpAnyM P ops Q S D n (done.setIfInBounds j true) a w → K' a w) → if Region.wanted oj (yielded ops a.tmps) = true then Oper.wp P oj a w K' Q else K' (a.put oj.dst undef) w) :
    wpAnyM P ops Q S D (n + 1) done a w := by
  refine wpAnyM.all hr (by simp) (fun k hk => ?_)
  simp only [List.mem_cons, List.not_mem_nil, or_false] at hk
  rcases hk with rfl | rfl
  · exact wpOp_step hi (fun K' hK => h1 K' (fun a w hS hW => hK a w ⟨hS, hW⟩))
  · exact wpOp_step hj (fun K' hK => h2 K' (fun a w hS hW => hK a w ⟨hS, hW⟩))

theorem wpAnyM.cast {n : Nat} {done done' : Array Bool} {a : Act} {w : World} (h : wpAnyM P ops Q S D n done' a w) (e : done' = done) : wpAnyM P ops Q S D n done a w := e ▸ h
end
theorem noPanic_normal {Q : Exit → Act → World → Prop} {a : Act} {w : World} (h : Q .normal a w) : NoPanic Q .normal a w := h
end Go.Proofs.YtgcobbapaaihiaaGreat

set_option linter.unusedVariables false
set_option linter.unusedSimpArgs false
namespace Go.Proofs.YtgcobbapaaihiaaGreat
open Go.RowKit

/-- A reader: the struct, of colour k; its bytes are nobody's. -/
structure IsRd (c : Col) (k : Nat) (w : World) (p : Nat) (bs : List UInt8) (at_ : Nat) (f : Int × Int) : Prop where
  row : ∃ bv, At c w p k [bv, .int .i64 at_, .int .i64 f.1, .int .i64 f.2, .bool true] ∧ Own TByte 5 c 0 0 w bv bs
  le : at_ ≤ bs.length
  few : bs.length ≤ 1000000000

theorem IsRd.keep {K : Nat → Prop} {c c' : Col} {k : Nat} {w w' : World} {p : Nat} {bs : List UInt8} {a : Nat} {f : Int × Int} (h : IsRd c k w p bs a f) (hs : Step K c w c' w') (hk : ¬ K k) (h0 : ¬ K 0) : IsRd c' k w' p bs a f := by
  obtain ⟨bv, x, o⟩ := h.row
  exact ⟨⟨bv, x.keep hs hk, o.keep hs h0 h0⟩, h.le, h.few⟩
theorem IsRd.kn {c c' : Col} {k : Nat} {w w' : World} {p : Nat} {bs : List UInt8} {a : Nat} {f : Int × Int} (h : IsRd c k w p bs a f) (hs : Step No c w c' w') : IsRd c' k w' p bs a f := h.keep hs (fun h => h) (fun h => h)

/-- The place moves on. -/
theorem IsRd.move {c : Col} {k : Nat} {w : World} {p : Nat} {bs : List UInt8} {a : Nat} {f : Int × Int} (h : IsRd c k w p bs a f) (hk : k ≠ 0) {a' : Nat} (hl : a' ≤ bs.length) :
    IsRd c k (w.setCell ⟨p, 1, none⟩ (.int .i64 a')) p bs a' f := by
  obtain ⟨bv, x, o⟩ := h.row
  have hc : c p = k := x.col
  exact ⟨⟨bv, x.setN (i := 1) (by simp) (.int .i64 a'), o.set (a := ⟨p, 1, none⟩) (by show c p ≠ 0; omega) (by show c p ≠ 0; omega) _⟩, hl, h.few⟩

section
variable {c : Col} {w : World}

theorem newReader_any (hok : Ok c w) {kx : Nat} {v : Value} {bs : List UInt8} (hv : Sl TByte c kx 0 w v bs) (hl : bs.length ≤ 1000000000) (k : Nat) :
    Calls Tryz.prog 50 #[v] w fun r w' => ∃ p, r = .returned (.pointer (some ⟨p, 0, none⟩)) ∧ ∃ c', IsRd c' k w' p bs 0 (0, 0) ∧ Step No c w c' w' ∧ Ok c' w' ∧ w.heap.size ≤ p := by
  have C := clone_any hok 0 hv hl
  clear hv hok
  go_enter Tryz.func50, Tryz.ntmps50
  go_wp2_with fail
  with_reducible refine C.mono ?_
  rintro e w1 ⟨v1, c1, rfl, p1, s1, o1⟩
  obtain ⟨va, vc, rfl, _⟩ := p1.sl.form
  obtain ⟨a2, o2, s2⟩ := newAt o1 [.slice va bs.length vc, .int .i64 0, .int .i64 0, .int .i64 0, .bool true] 163 k
  have H := Lib.hid (And.intro a2 (And.intro o2 (And.intro (s1.trans s2) (And.intro (p1.kn s2) s1.size))))
  clear C p1 s1 o1 a2 o2 s2
  go_wp2_with fail
  go_ret
  obtain ⟨a2, o2, s2, sl, hz⟩ := H.out
  exact ⟨_, rfl, _, ⟨⟨_, a2, sl⟩, Nat.zero_le _, hl⟩, s2, o2, hz⟩

theorem Own.form2 {α : Type} {T : Ty α} {e : TypeId} {c : Col} {k k2 : Nat} {w : World} {v : Value} {l : List α} (h : Own T e c k k2 w v l) : (v = .slice none 0 0 ∧ l = []) ∨ ∃ g cap, v = .slice (some ⟨g, 0, none⟩) l.length cap ∧ l.length ≤ cap := by
  obtain ⟨xss, hx, _, _, hown, _⟩ := h
  rcases hown.2 with ⟨rfl, hn⟩ | ⟨g, cap, cur, rfl, _, _, h1, _⟩
  · exact .inl ⟨rfl, List.eq_nil_of_length_eq_zero hn⟩
  · exact .inr ⟨g, cap, rfl, h1⟩

theorem Sl.sub {c : Col} {k k2 : Nat} {w : World} {g off cap : Nat} {l : List UInt8} (h : Sl TByte c k k2 w (.slice (some ⟨g, off, none⟩) l.length cap) l) (i n : Nat) (hn : i + n ≤ l.length) :
    Sl TByte c k k2 w (.slice (some ⟨g, off + i, none⟩) n (cap - i)) ((l.drop i).take n) := by
  have hlen : ((l.drop i).take n).length = n := by rw [List.length_take, List.length_drop]; omega
  rcases h with ⟨rfl, a', cp, hv, h1, _⟩ | ⟨b, o, cp, hv, h1, h2, h3, h4, h5⟩
  · cases hv
    have : n = 0 := by simp at hn; omega
    subst this
    exact .inl ⟨by simp, _, _, rfl, by omega, fun h => by cases h⟩
  · cases hv
    refine .inr ⟨g, off + i, cap - i, by rw [hlen], by rw [hlen]; omega, by omega, h3, h4, fun j x hj => ?_⟩
    have hjn : j < n := by have := (List.getElem?_eq_some_iff.1 hj).1; omega
    rw [List.getElem?_take_of_lt hjn, List.getElem?_drop] at hj
    obtain ⟨vs, r1, r2⟩ := h5 (i + j) x hj
    exact ⟨vs, r1, by rw [show off + i + j * TByte.n = off + (i + j) * TByte.n by simp [TByte]; omega]; exact r2⟩

end
end Go.Proofs.YtgcobbapaaihiaaGreat
