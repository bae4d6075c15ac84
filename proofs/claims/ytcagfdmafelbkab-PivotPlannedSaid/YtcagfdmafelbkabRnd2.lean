/- Own library: loads taken first in a region that stores behind them. -/
import Derived.Test.YtcagfdmafelbkabRnd
set_option linter.unusedVariables false
set_option linter.unusedSimpArgs false
namespace Go.Proofs.Ytcagfdmafelbkab
open Go.RowKit

section
variable {P : Program} {ops : Array Oper} {Q : Exit → Act → World → Prop} {S : World → Prop} {D : Nat → Bool}

/-- Whatever order: behind the operations that D marks, S holds. (An operation that waits for every load taken first need not be marked.) -/
def wpAnyM (P : Program) (ops : Array Oper) (Q : Exit → Act → World → Prop) (S : World → Prop) (D : Nat → Bool) : Nat → Array Bool → Act → World → Prop
  | 0, done, a, w => Region.ready .any ops done = [] ∧ Q .normal a w
  | n + 1, done, a, w => (Region.ready .any ops done = [] → Q .normal a w) ∧
      ∀ i ∈ Region.ready .any ops done, wpOp P ops Q i (fun a' w' => (D i = true → S w') ∧ wpAnyM P ops Q S D n (done.setIfInBounds i true) a' w') a w

theorem wpAnyM.any : ∀ (n : Nat) (done : Array Bool) (a : Act) (w : World), wpAnyM P ops Q S D n done a w → wpAny P .any ops Q n done a w
  | 0, _, _, _, h => h
  | n + 1, _, _, _, h => ⟨h.1, fun i hi => wpOp_mono (fun a' w' h' => wpAnyM.any n _ a' w' h'.2) (h.2 i hi)⟩

/-- Number j waits for number i. -/
def waitsFor (ops : Array Oper) (j i : Nat) : Bool := match ops[j]? with | some o => o.after.any fun e => Region.binds .any e && e.on == i | none => true

theorem wpAnyM.take_aux {i : Nat} {oi : Oper} {v : Value} (hi : ops[i]? = some oi) (hsel : ∀ (j : Nat) (o : Oper) cs b, ops[j]? = some o → o.op ≠ .select cs b)
    (hQ : ∀ c a w, Q (.panic c) (a.put oi.dst v) w → Q (.panic c) a w) (hD : ∀ j, j < ops.size → j ≠ i → D j = true ∨ waitsFor ops j i = true) :
    ∀ (n : Nat) (done : Array Bool) (a : Act) (w : World),
      (∀ j oj, ops[j]? = some oj → j ≠ i → done.getD j true = false → (∀ e ∈ oj.after, Region.binds .any e = true → e.on ≠ i) → oi.apart ops oj = true) →
      i ∈ Region.ready .any ops done → YieldsIf P ops S oi v a → S w →
      wpAnyM P ops Q S D n (done.setIfInBounds i true) (a.put oi.dst v) w → wpAnyM P ops Q S D (n + 1) done a w := by
  intro n
  induction n with
  | zero =>
    intro done a w _ hr hy hS H
    refine ⟨fun h => (by rw [h] at hr; cases hr), fun j hj => ?_⟩
    by_cases e : j = i
    · subst e; exact hy.wpOp hi hS ⟨fun _ => hS, H⟩
    · have := ready_mono hj e
      rw [H.1] at this
      cases this
  | succ n ih =>
    intro done a w hfree hr hy hS H
    refine ⟨fun h => (by rw [h] at hr; cases hr), fun j hj => ?_⟩
    by_cases e : j = i
    · subst e; exact hy.wpOp hi hS ⟨fun _ => hS, H⟩
    obtain ⟨hjun, oj, hoj, hall⟩ := mem_ready.1 hj
    have hi0 := (mem_ready.1 hr).1
    have hnot : ∀ x ∈ oj.after, Region.binds .any x = true → x.on ≠ i := fun x hx hb hxi => by
      have h1 := hall x hx hb
      rw [hxi] at h1
      rcases Nat.lt_or_ge i done.size with h' | h'
      · simp [h'] at hi0 h1; rw [hi0] at h1; cases h1
      · simp [Array.getElem?_eq_none h'] at h1
    have hDj : D j = true := by
      have hlt : j < ops.size := by
        rcases Nat.lt_or_ge j ops.size with h | h
        · exact h
        · rw [Array.getElem?_eq_none h] at hoj; cases hoj
      rcases hD j hlt e with h | h
      · exact h
      · unfold waitsFor at h
        rw [hoj] at h
        obtain ⟨x, hx, hb⟩ := Array.any_eq_true'.1 h
        simp only [Bool.and_eq_true, beq_iff_eq] at hb
        exact absurd hb.2 (hnot x hx hb.1)
    have step := wpOp_putIf hoj (hfree j oj hoj e hjun hnot) (fun cs b => hsel i oi cs b hi) (fun cs b => hsel j oj cs b hoj) hQ hy (H.2 j (ready_mono hj e))
    refine wpOp_mono (fun a' w' hh => ⟨fun _ => hh.2.1 hDj, ih (done.setIfInBounds j true) a' w' (fun k ok hk hki hun hno => hfree k ok hk hki ?_ hno) (ready_mono hr (Ne.symm e)) hh.1 (hh.2.1 hDj) ?_⟩) step
    · by_cases hjk : j = k
      · subst hjk; exact hjun
      · rw [getD_set_ne true hjk] at hun; exact hun
    · rw [Array.setIfInBounds_comm _ _ e]
      exact hh.2.2

theorem wpAnyM.take {i : Nat} {oi : Oper} {v : Value} {n : Nat} {done : Array Bool} {a : Act} {w : World} (hi : ops[i]? = some oi)
    (hs : Region.noSelect ops = true) (hf : Region.free .any ops done i = true) (hr : (Region.ready .any ops done).contains i = true)
    (hD : (List.range ops.size).all (fun j => j == i || D j || waitsFor ops j i) = true)
    (hQ : ∀ c a w, Q (.panic c) (a.put oi.dst v) w → Q (.panic c) a w) (hy : YieldsIf P ops S oi v a) (hS : S w)
    (h : wpAnyM P ops Q S D n (done.setIfInBounds i true) (a.put oi.dst v) w) : wpAnyM P ops Q S D (n + 1) done a w :=
  wpAnyM.take_aux hi (Region.noSelect_spec hs) hQ (fun j hj hji => by
    have := List.all_eq_true.1 hD j (List.mem_range.2 hj)
    simp only [Bool.or_eq_true, beq_iff_eq] at this
    rcases this with (h | h) | h
    · exact absurd h hji
    · exact .inl h
    · exact .inr h) n done a w (Region.free_spec hi hf) (by simpa using hr) hy hS h

/-- The same, where it puts its value said apart (so that the frame can be laid out). -/
theorem wpAnyM.take' {i : Nat} {oi : Oper} {v : Value} {n : Nat} {done : Array Bool} {a : Act} {w : World} (d : Option Tmp) (hi : ops[i]? = some oi) (hd : oi.dst = d)
    (hs : Region.noSelect ops = true) (hf : Region.free .any ops done i = true) (hr : (Region.ready .any ops done).contains i = true)
    (hD : (List.range ops.size).all (fun j => j == i || D j || waitsFor ops j i) = true)
    (hQ : ∀ c a w, Q (.panic c) (a.put d v) w → Q (.panic c) a w) (hy : YieldsIf P ops S oi v a) (hS : S w)
    (h : wpAnyM P ops Q S D n (done.setIfInBounds i true) (a.put d v) w) : wpAnyM P ops Q S D (n + 1) done a w := by
  subst hd
  exact wpAnyM.take hi hs hf hr hD hQ hy hS h

theorem wpAnyM.all {rs : List Nat} {n : Nat} {done : Array Bool} {a : Act} {w : World} (hr : Region.ready .any ops done = rs) (hne : rs ≠ [])
    (h : ∀ i ∈ rs, wpOp P ops Q i (fun a' w' => (D i = true → S w') ∧ wpAnyM P ops Q S D n (done.setIfInBounds i true) a' w') a w) : wpAnyM P ops Q S D (n + 1) done a w :=
  ⟨fun h0 => absurd (hr ▸ h0) hne, hr ▸ h⟩

theorem wpAnyM.one {i n : Nat} {o : Oper} {done : Array Bool} {a : Act} {w : World} (hr : Region.ready .any ops done = [i]) (ho : ops[i]? = some o)
    (h : ∀ K' : Act → World → Prop, Shut (∀ a w, (D i = true → S w) → wpAnyM P ops Q S D n (done.setIfInBounds i true) a w → K' a w) → if Region.wanted o (yielded ops a.tmps) = true then Oper.wp P o a w K' Q else K' (a.put o.dst undef) w) :
    wpAnyM P ops Q S D (n + 1) done a w :=
  wpAnyM.all hr (by simp) (fun j hj => by
    rcases List.mem_singleton.1 hj with rfl
    exact wpOp_step ho (fun K' hK => h K' (fun a w hS hW => hK a w ⟨hS, hW⟩)))

theorem wpAnyM.done {done : Array Bool} {a : Act} {w : World} (hr : Region.ready .any ops done = []) (h : Q .normal a w) : ∀ n, wpAnyM P ops Q S D n done a w
  | 0 => ⟨hr, h⟩
  | _ + 1 => ⟨fun _ => h, by rw [hr]; simp⟩

theorem region_roundM {id : Nat} {a : Act} {w : World} {lp : Nat} (S : World → Prop) (D : Nat → Bool) (hm : P.follows .mixedOrders = true) (hd : noDefers ops = true) (hq : ¬ LetsOut Q)
    (h : wpAnyM P ops Q S D ops.size (Array.replicate ops.size false) a w.drew) : (Code.region id ops true).wpIn (Fence.wide.inRound lp) 0 P Q a w :=
  region_round hm hd hq (wpAnyM.any _ _ _ _ h)

theorem region_planM {id : Nat} {a : Act} {w : World} (S : World → Prop) (D : Nat → Bool) (hm : P.follows .mixedOrders = true)
    (h : wpAnyM P ops Q S D ops.size (Array.replicate ops.size false) a w.drew) : (Code.region id ops true).wp P Q a w :=
  wp_region_any hm (wpAnyM.any _ _ _ _ h)
end
end Go.Proofs.Ytcagfdmafelbkab
