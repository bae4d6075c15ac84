/- Pivot: the stack's functions that write. -/
import Derived.Test.YtcagfdmafelbkabPiv2
set_option linter.unusedVariables false
set_option linter.unusedSimpArgs false
namespace Go.Proofs.Ytcagfdmafelbkab
open Go.RowKit

theorem IsSt.out2 {c c1 : Col} {w w1 : World} {q q2 b : Nat} {s : Stk} (h : IsSt c1 q q2 w1 b s) (hs : Step (Two q q2) c w c1 w1) (ho : Ok c1 w1) (hq : ∀ b, c b ≠ q) (hq2 : ∀ b, c b ≠ q2) (h0 : q ≠ 0) (h02 : q2 ≠ 0) (hqq : q2 ≠ q)
    (k k2 : Nat) (hkq : k ≠ q2) : ∃ c', IsSt c' k k2 w1 b s ∧ Step No c w c' w1 ∧ Ok c' w1 := by
  refine ⟨(c1.turn q k).turn q2 k2, ?_, ((hs.turn (.inl rfl)).turn (.inr rfl)).own2 hq hq2, (ho.turn h0).turn h02⟩
  obtain ⟨v, h1, h2⟩ := h.row
  have t1 : Step (One q) c1 w1 (c1.turn q k) w1 := (Step.refl (K := One q)).turn rfl
  have e1 := h2.keep t1 hqq (fun e => h0 e.symm)
  have e2 := e1.turn (k := k2) (fun e => h02 e.symm)
  refine ⟨?_, h.c0, h.c1, h.c2, v, h1, e2⟩
  simp only [Col.turn, h.col, if_true]
  rw [if_neg hkq]

section
variable {c : Col} {w : World} {k kr b : Nat} {s : Stk}

/-- The heights turned, all else left. -/
theorem IsSt.turned (h : IsSt c k kr w b s) {c' : Col} {w' : World} {v' : Value} {l : List Int} (h3 : w'.cell? ⟨b, 3, none⟩ = some v') (hv : Own (TInt .i64) 3 c' kr 0 w' v' l) (ho : ∀ o, o ≠ 3 → w'.cell? ⟨b, o, none⟩ = w.cell? ⟨b, o, none⟩) (hc : c' b = c b) :
    IsSt c' k kr w' b { s with l := l } :=
  ⟨hc.trans h.col, (ho 0 (by decide)).trans h.c0, (ho 1 (by decide)).trans h.c1, (ho 2 (by decide)).trans h.c2, v', h3, hv⟩

theorem reset_any (hok : Ok c w) (h : IsSt c k kr w b s) (hr : 1 ≤ s.root) (ht : IntKind.i64.has s.target) (hk0 : k ≠ 0) (hr0 : kr ≠ 0) (hkr : kr ≠ k) :
    Calls Try.prog 25 #[.pointer (some ⟨b, 0, none⟩)] w fun r w' => r = .returned (.tuple #[]) ∧ ∃ c', IsSt c' k kr w' b { s with low := s.root, l := [s.target] } ∧ Step (Two k kr) c w c' w' ∧ Ok c' w' := by
  have y1 := stnone_no h.c1 hr
  obtain ⟨v, hv, ho⟩ := h.row
  have h0 := h.c0
  have h1 := h.c1
  have h2 := h.c2
  have hf : ∀ o, w.frozen? ⟨b, o, none⟩ = false := fun o => hok.soft b o (by rw [h.col]; exact hk0)
  have f0 := hf 0
  have f3 := hf 3
  have hb := h.lt
  have hcol := h.col
  subst hcol
  have st : Step (One (c b)) c w c (((w.setCell ⟨b, 0, none⟩ (.int .i64 s.root)).setCell ⟨b, 3, none⟩ (.slice none 0 0))) := (((Step.refl (K := One (c b))).setCell (a := ⟨b, 0, none⟩) (.inr (show One (c b) (c b) from rfl)) _)).setCell (a := ⟨b, 3, none⟩) (.inr (show One (c b) (c b) from rfl)) _
  have hok2 := (hok.setCell ⟨b, 0, none⟩ (.int .i64 s.root)).setCell ⟨b, 3, none⟩ (.slice none 0 0)
  have g3 : ((w.setCell ⟨b, 0, none⟩ (.int .i64 s.root)).setCell ⟨b, 3, none⟩ (.slice none 0 0)).cell? ⟨b, 3, none⟩ = some (.slice none 0 0) := World.cell?_setCell_same' _ _ _ (by rw [World.cell?_setCell_other _ _ _ _ (by intro e; injection e with e1 e2; cases e2), hv]; rfl)
  have g2 : ((w.setCell ⟨b, 0, none⟩ (.int .i64 s.root)).setCell ⟨b, 3, none⟩ (.slice none 0 0)).cell? ⟨b, 2, none⟩ = some (.int .i64 s.target) := by
    rw [World.cell?_setCell_other _ _ _ _ (by intro e; injection e with e1 e2; cases e2), World.cell?_setCell_other _ _ _ _ (by intro e; injection e with e1 e2; cases e2)]; exact h2
  have g1 : ((w.setCell ⟨b, 0, none⟩ (.int .i64 s.root)).setCell ⟨b, 3, none⟩ (.slice none 0 0)).cell? ⟨b, 1, none⟩ = some (.int .i64 s.root) := by
    rw [World.cell?_setCell_other _ _ _ _ (by intro e; injection e with e1 e2; cases e2), World.cell?_setCell_other _ _ _ _ (by intro e; injection e with e1 e2; cases e2)]; exact h1
  have g0 : ((w.setCell ⟨b, 0, none⟩ (.int .i64 s.root)).setCell ⟨b, 3, none⟩ (.slice none 0 0)).cell? ⟨b, 0, none⟩ = some (.int .i64 s.root) := by
    rw [World.cell?_setCell_other _ _ _ _ (by intro e; injection e with e1 e2; cases e2)]
    exact World.cell?_setCell_same' _ _ _ (by rw [h0]; rfl)
  have P : ∀ n, Calls Try.prog 28 #[.pointer (some ⟨b, 3, none⟩), .int .i64 s.target] (((w.setCell ⟨b, 0, none⟩ (.int .i64 s.root)).setCell ⟨b, 3, none⟩ (.slice none 0 0)).drewN n) _ := fun n =>
    hpush_any (hok2.drewN n) (b := b) (o := 3) (k := kr) (k2 := 0) (l := []) hk0 hr0 hkr (fun e => hr0 e.symm) (fun e => hk0 e.symm) g3 (Own.nil _ _ _ _ _ _) ht (by simp)
  have S2 := Lib.hid (And.intro st (And.intro hok2 (And.intro g0 (And.intro g1 (And.intro g2 g3)))))
  clear st hok2 hf h ho g3 g0 hok g1 hr hr0 hkr hk0 hb
  go_enter Try.func25, Try.ntmps25
  go_wp2_with fail
  with_reducible refine y1.mono ?_
  rintro e w1 ⟨rfl, rfl⟩
  go_wp2_with fail
  have K1 : (fun W => W.cell? ⟨b, 2, none⟩ = some (.int .i64 s.target)) (((w.setCell ⟨b, 0, none⟩ (.int .i64 s.root)).setCell ⟨b, 3, none⟩ (.slice none 0 0))).drew := g2
  refine region_planM (fun W => W.cell? ⟨b, 2, none⟩ = some (.int .i64 s.target)) (fun _ => true) (by kernel_rfl) ?_
  refine wpAnyM.takeT (i := 0) (v := _) (some 14) rfl rfl (by kernel_rfl) (by kernel_rfl) (by kernel_rfl) (by kernel_rfl) (by kernel_rfl) (fun _ _ _ h => h) (Or.inl ⟨by rfl, fun W hW => by first | (obtain q0 := hW; go_simp <;> rfl) | (obtain q0 := hW; go_simp; done)⟩) K1 ?_
  (try simp only [Act.put, List.setIfInBounds_toArray, List.set_cons_zero, List.set_cons_succ])
  refine wpAnyM.takeT (i := 1) (v := _) (some 15) rfl rfl (by kernel_rfl) (by kernel_rfl) (by kernel_rfl) (by kernel_rfl) (by kernel_rfl) (fun _ _ _ h => h) (Or.inl ⟨by rfl, fun W hW => by first | (obtain q0 := hW; go_simp <;> rfl) | (obtain q0 := hW; go_simp; done)⟩) K1 ?_
  (try simp only [Act.put, List.setIfInBounds_toArray, List.set_cons_zero, List.set_cons_succ])
  refine wpAnyM.takeT (i := 2) (v := _) (some 16) rfl rfl (by kernel_rfl) (by kernel_rfl) (by kernel_rfl) (by kernel_rfl) (by kernel_rfl) (fun _ _ _ h => h) (Or.inl ⟨by rfl, fun W hW => by first | (obtain q0 := hW; go_simp <;> rfl) | (obtain q0 := hW; go_simp; done)⟩) K1 ?_
  (try simp only [Act.put, List.setIfInBounds_toArray, List.set_cons_zero, List.set_cons_succ])
  refine wpAnyM.takeT (i := 3) (v := _) (some 17) rfl rfl (by kernel_rfl) (by kernel_rfl) (by kernel_rfl) (by kernel_rfl) (by kernel_rfl) (fun _ _ _ h => h) (Or.inl ⟨by rfl, fun W hW => by first | (obtain q0 := hW; go_simp <;> rfl) | (obtain q0 := hW; go_simp; done)⟩) K1 ?_
  (try simp only [Act.put, List.setIfInBounds_toArray, List.set_cons_zero, List.set_cons_succ])
  refine wpAnyM.takeT (i := 4) (v := _) (some 18) rfl rfl (by kernel_rfl) (by kernel_rfl) (by kernel_rfl) (by kernel_rfl) (by kernel_rfl) (fun _ _ _ h => h) (Or.inl ⟨by rfl, fun W hW => by first | (obtain q0 := hW; go_simp <;> rfl) | (obtain q0 := hW; go_simp; done)⟩) K1 ?_
  (try simp only [Act.put, List.setIfInBounds_toArray, List.set_cons_zero, List.set_cons_succ])
  refine wpAnyM.takeT (i := 5) (v := _) (some 19) rfl rfl (by kernel_rfl) (by kernel_rfl) (by kernel_rfl) (by kernel_rfl) (by kernel_rfl) (fun _ _ _ h => h) (Or.inl ⟨by rfl, fun W hW => by first | (obtain q0 := hW; go_simp <;> rfl) | (obtain q0 := hW; go_simp; done)⟩) K1 ?_
  (try simp only [Act.put, List.setIfInBounds_toArray, List.set_cons_zero, List.set_cons_succ])
  refine wpAnyM.takeT (i := 6) (v := _) (some 20) rfl rfl (by kernel_rfl) (by kernel_rfl) (by kernel_rfl) (by kernel_rfl) (by kernel_rfl) (fun _ _ _ h => h) (Or.inl ⟨by rfl, fun W hW => by first | (obtain q0 := hW; go_simp <;> rfl) | (obtain q0 := hW; go_simp; done)⟩) K1 ?_
  (try simp only [Act.put, List.setIfInBounds_toArray, List.set_cons_zero, List.set_cons_succ])
  refine wpAnyM.one (i := 7) (by kernel_rfl) rfl (fun KQ hK => ?_)
  go_simp
  refine (P 1).mono ?_
  rintro e w2 ⟨rfl, v', c', p1, p2, p3, p4, p5, p6⟩
  have K2 : w2.cell? ⟨b, 2, none⟩ = some (.int .i64 s.target) := (p5 2 (by decide)).trans g2
  refine hK.out _ _ (fun _ => K2) ?_
  clear hK KQ
  (try simp only [Act.put, List.setIfInBounds_toArray, List.set_cons_zero, List.set_cons_succ])
  refine wpAnyM.done (by kernel_rfl) ?_ _
  go_end0
  obtain ⟨st, hok2, g0, g1, g2, g3⟩ := S2.out
  refine ⟨rfl, c', ⟨p6, (p5 0 (by decide)).trans g0, (p5 1 (by decide)).trans g1, (p5 2 (by decide)).trans g2, v', p1, p2⟩, ?_, p4⟩
  exact ((st.drewN 1).mono fun j h => .inl h).trans p3
end
end Go.Proofs.Ytcagfdmafelbkab
