/- Pivot: Split, New. -/
import Derived.Test.YtcagfdmafelbkabPiv4
set_option linter.unusedVariables false
set_option linter.unusedSimpArgs false
namespace Go.Proofs.Ytcagfdmafelbkab
open Go.RowKit

section
variable {c : Col} {w : World} {k kr b : Nat} {s : Stk}

set_option maxHeartbeats 800000 in
theorem split_any (hok : Ok c w) (h : IsSt c k kr w b s) (g : Good s) (hk0 : k ≠ 0) (hr0 : kr ≠ 0) (hkr : kr ≠ k) (hlen : s.l.length ≤ 1000000000) :
    Calls Try.prog 9 #[.pointer (some ⟨b, 0, none⟩)] w fun r w' => r = .returned (.tuple #[.int .i64 (splitH s), .int .i64 (splitE s)]) ∧ ∃ c', IsSt c' k kr w' b (splitS s) ∧ Step (Two k kr) c w c' w' ∧ Ok c' w' := by
  have hr : 1 ≤ s.root := g.root.1
  have y1 := stnone_no h.c1 hr
  have h0 := h.c0
  by_cases hl : s.l = []
  · have y2 := fun n => done_yes (h.kn (Step.rf.drewN n)) hr hl
    have e1 : splitE s = 11 := by simp [splitE, hl]
    have e2 : splitS s = s := by simp [splitS, hl]
    have e3 : splitH s = 0 := by simp [splitH, hl]
    rw [e1, e2, e3]
    have H := Lib.hid (And.intro hok h)
    clear hok h e1 e2 e3 hl g
    go_enter Try.func9, Try.ntmps9
    go_wp2_with fail
    with_reducible refine y1.mono ?_
    rintro e w1 ⟨rfl, rfl⟩
    go_wp2_with fail
    have K1 : (fun W => W.cell? ⟨b, 0, none⟩ = some (.int .i64 s.low)) w.drew := h0
    refine region_planM (fun W => W.cell? ⟨b, 0, none⟩ = some (.int .i64 s.low)) (fun _ => true) (by kernel_rfl) ?_
    refine wpAnyM.takeT (i := 0) (v := _) (some 10) rfl rfl (by kernel_rfl) (by kernel_rfl) (by kernel_rfl) (by kernel_rfl) (by kernel_rfl) (fun _ _ _ h => h) (Or.inl ⟨by rfl, fun W hW => by first | (obtain q0 := hW; go_simp <;> rfl) | (obtain q0 := hW; go_simp; done)⟩) K1 ?_
    (try simp only [Act.put, List.setIfInBounds_toArray, List.set_cons_zero, List.set_cons_succ])
    refine wpAnyM.one (i := 1) (by kernel_rfl) rfl (fun KQ hK => ?_)
    go_simp
    refine (y2 1).mono ?_
    rintro e w2 ⟨rfl, rfl⟩
    refine hK.out _ _ (fun _ => K1) ?_
    clear hK KQ
    (try simp only [Act.put, List.setIfInBounds_toArray, List.set_cons_zero, List.set_cons_succ])
    refine wpAnyM.takeT (i := 2) (v := _) (some 12) rfl rfl (by kernel_rfl) (by kernel_rfl) (by kernel_rfl) (by kernel_rfl) (by kernel_rfl) (fun _ _ _ h => h) (Or.inl ⟨by rfl, fun W hW => by first | (obtain q0 := hW; go_simp <;> rfl) | (obtain q0 := hW; go_simp; done)⟩) K1 ?_
    (try simp only [Act.put, List.setIfInBounds_toArray, List.set_cons_zero, List.set_cons_succ])
    refine wpAnyM.takeT (i := 3) (v := _) (some 13) rfl rfl (by kernel_rfl) (by kernel_rfl) (by kernel_rfl) (by kernel_rfl) (by kernel_rfl) (fun _ _ _ h => h) (Or.inr ⟨by rfl, rfl⟩) K1 ?_
    (try simp only [Act.put, List.setIfInBounds_toArray, List.set_cons_zero, List.set_cons_succ])
    refine wpAnyM.takeT (i := 4) (v := _) (some 14) rfl rfl (by kernel_rfl) (by kernel_rfl) (by kernel_rfl) (by kernel_rfl) (by kernel_rfl) (fun _ _ _ h => h) (Or.inr ⟨by rfl, rfl⟩) K1 ?_
    (try simp only [Act.put, List.setIfInBounds_toArray, List.set_cons_zero, List.set_cons_succ])
    refine wpAnyM.takeT (i := 5) (v := _) (some 15) rfl rfl (by kernel_rfl) (by kernel_rfl) (by kernel_rfl) (by kernel_rfl) (by kernel_rfl) (fun _ _ _ h => h) (Or.inr ⟨by rfl, rfl⟩) K1 ?_
    (try simp only [Act.put, List.setIfInBounds_toArray, List.set_cons_zero, List.set_cons_succ])
    refine wpAnyM.takeT (i := 6) (v := _) (some 16) rfl rfl (by kernel_rfl) (by kernel_rfl) (by kernel_rfl) (by kernel_rfl) (by kernel_rfl) (fun _ _ _ h => h) (Or.inr ⟨by rfl, rfl⟩) K1 ?_
    (try simp only [Act.put, List.setIfInBounds_toArray, List.set_cons_zero, List.set_cons_succ])
    refine wpAnyM.takeT (i := 7) (v := _) (some 17) rfl rfl (by kernel_rfl) (by kernel_rfl) (by kernel_rfl) (by kernel_rfl) (by kernel_rfl) (fun _ _ _ h => h) (Or.inr ⟨by rfl, rfl⟩) K1 ?_
    (try simp only [Act.put, List.setIfInBounds_toArray, List.set_cons_zero, List.set_cons_succ])
    refine wpAnyM.takeT (i := 8) (v := _) (some 18) rfl rfl (by kernel_rfl) (by kernel_rfl) (by kernel_rfl) (by kernel_rfl) (by kernel_rfl) (fun _ _ _ h => h) (Or.inr ⟨by rfl, rfl⟩) K1 ?_
    (try simp only [Act.put, List.setIfInBounds_toArray, List.set_cons_zero, List.set_cons_succ])
    refine wpAnyM.takeT (i := 9) (v := _) (some 19) rfl rfl (by kernel_rfl) (by kernel_rfl) (by kernel_rfl) (by kernel_rfl) (by kernel_rfl) (fun _ _ _ h => h) (Or.inr ⟨by rfl, rfl⟩) K1 ?_
    (try simp only [Act.put, List.setIfInBounds_toArray, List.set_cons_zero, List.set_cons_succ])
    refine wpAnyM.takeT (i := 10) (v := _) (some 20) rfl rfl (by kernel_rfl) (by kernel_rfl) (by kernel_rfl) (by kernel_rfl) (by kernel_rfl) (fun _ _ _ h => h) (Or.inr ⟨by rfl, rfl⟩) K1 ?_
    (try simp only [Act.put, List.setIfInBounds_toArray, List.set_cons_zero, List.set_cons_succ])
    refine wpAnyM.takeT (i := 11) (v := _) (some 21) rfl rfl (by kernel_rfl) (by kernel_rfl) (by kernel_rfl) (by kernel_rfl) (by kernel_rfl) (fun _ _ _ h => h) (Or.inl ⟨by rfl, fun W hW => by first | (obtain q0 := hW; go_simp <;> rfl) | (obtain q0 := hW; go_simp; done)⟩) K1 ?_
    (try simp only [Act.put, List.setIfInBounds_toArray, List.set_cons_zero, List.set_cons_succ])
    refine wpAnyM.one (i := 12) (by kernel_rfl) rfl (fun KQ hK => ?_)
    go_simp
    refine hK.out _ _ (fun _ => K1) ?_
    clear hK KQ
    (try simp only [Act.put, List.setIfInBounds_toArray, List.set_cons_zero, List.set_cons_succ])
    refine wpAnyM.done (by kernel_rfl) ?_ _
    go_wp2
    go_ret2
    exact ⟨rfl, c, H.out.2.kn (Step.rf.drewN 1), Step.refl.drewN 1, H.out.1.drewN 1⟩
  · have y2 := fun n => done_no (h.kn (Step.rf.drewN n)) hr hl
    have y3 := fun n => sttop_any (h.kn (Step.rf.drewN n)) hr
    have hlo1 := g.low.1
    have hlo2 := g.low.2
    have hwr : IntKind.i64.wrap (s.low + 1) = s.low + 1 := IntWalk.i64_in _ (by omega)
    by_cases ht : topL s.l = s.low + 1
    · have e1 : splitE s = 11 := by simp [splitE, ht]
      have e2 : splitS s = s := by simp [splitS, ht]
      have e3 : splitH s = 0 := by simp [splitH, ht]
      rw [e1, e2, e3]
      have H := Lib.hid (And.intro hok h)
      have hb : (topL s.l == s.low + 1) = true := by simpa using ht
      clear hok h e1 e2 e3 hl g ht
      go_enter Try.func9, Try.ntmps9
      go_wp2_with fail
      with_reducible refine y1.mono ?_
      rintro e w1 ⟨rfl, rfl⟩
      go_wp2_with fail
      have K1 : (fun W => W.cell? ⟨b, 0, none⟩ = some (.int .i64 s.low)) w.drew := h0
      refine region_planM (fun W => W.cell? ⟨b, 0, none⟩ = some (.int .i64 s.low)) (fun _ => true) (by kernel_rfl) ?_
      refine wpAnyM.takeT (i := 0) (v := _) (some 10) rfl rfl (by kernel_rfl) (by kernel_rfl) (by kernel_rfl) (by kernel_rfl) (by kernel_rfl) (fun _ _ _ h => h) (Or.inl ⟨by rfl, fun W hW => by first | (obtain q0 := hW; go_simp <;> rfl) | (obtain q0 := hW; go_simp; done)⟩) K1 ?_
      (try simp only [Act.put, List.setIfInBounds_toArray, List.set_cons_zero, List.set_cons_succ])
      refine wpAnyM.one (i := 1) (by kernel_rfl) rfl (fun KQ hK => ?_)
      go_simp
      refine (y2 1).mono ?_
      rintro e w2 ⟨rfl, rfl⟩
      refine hK.out _ _ (fun _ => K1) ?_
      clear hK KQ
      (try simp only [Act.put, List.setIfInBounds_toArray, List.set_cons_zero, List.set_cons_succ])
      refine wpAnyM.takeT (i := 2) (v := _) (some 12) rfl rfl (by kernel_rfl) (by kernel_rfl) (by kernel_rfl) (by kernel_rfl) (by kernel_rfl) (fun _ _ _ h => h) (Or.inl ⟨by rfl, fun W hW => by first | (obtain q0 := hW; go_simp <;> rfl) | (obtain q0 := hW; go_simp; done)⟩) K1 ?_
      (try simp only [Act.put, List.setIfInBounds_toArray, List.set_cons_zero, List.set_cons_succ])
      refine wpAnyM.takeT (i := 3) (v := _) (some 13) rfl rfl (by kernel_rfl) (by kernel_rfl) (by kernel_rfl) (by kernel_rfl) (by kernel_rfl) (fun _ _ _ h => h) (Or.inl ⟨by rfl, fun W hW => by first | (obtain q0 := hW; go_simp <;> rfl) | (obtain q0 := hW; go_simp; done)⟩) K1 ?_
      (try simp only [Act.put, List.setIfInBounds_toArray, List.set_cons_zero, List.set_cons_succ])
      refine wpAnyM.takeT (i := 5) (v := _) (some 15) rfl rfl (by kernel_rfl) (by kernel_rfl) (by kernel_rfl) (by kernel_rfl) (by kernel_rfl) (fun _ _ _ h => h) (Or.inl ⟨by rfl, fun W hW => by first | (obtain q0 := hW; go_simp <;> rfl) | (obtain q0 := hW; go_simp; done)⟩) K1 ?_
      (try simp only [Act.put, List.setIfInBounds_toArray, List.set_cons_zero, List.set_cons_succ])
      refine wpAnyM.takeT (i := 6) (v := _) (some 16) rfl rfl (by kernel_rfl) (by kernel_rfl) (by kernel_rfl) (by kernel_rfl) (by kernel_rfl) (fun _ _ _ h => h) (Or.inl ⟨by rfl, fun W hW => by first | (obtain q0 := hW; go_simp <;> rfl) | (obtain q0 := hW; go_simp; done)⟩) K1 ?_
      (try simp only [Act.put, List.setIfInBounds_toArray, List.set_cons_zero, List.set_cons_succ])
      refine wpAnyM.takeT (i := 7) (v := _) (some 17) rfl rfl (by kernel_rfl) (by kernel_rfl) (by kernel_rfl) (by kernel_rfl) (by kernel_rfl) (fun _ _ _ h => h) (Or.inl ⟨by rfl, fun W hW => by first | (obtain q0 := hW; go_simp <;> rfl) | (obtain q0 := hW; go_simp; done)⟩) K1 ?_
      (try simp only [Act.put, List.setIfInBounds_toArray, List.set_cons_zero, List.set_cons_succ])
      refine wpAnyM.takeT (i := 8) (v := _) (some 18) rfl rfl (by kernel_rfl) (by kernel_rfl) (by kernel_rfl) (by kernel_rfl) (by kernel_rfl) (fun _ _ _ h => h) (Or.inl ⟨by rfl, fun W hW => by first | (obtain q0 := hW; go_simp <;> rfl) | (obtain q0 := hW; go_simp; done)⟩) K1 ?_
      (try simp only [Act.put, List.setIfInBounds_toArray, List.set_cons_zero, List.set_cons_succ])
      refine wpAnyM.takeT (i := 9) (v := _) (some 19) rfl rfl (by kernel_rfl) (by kernel_rfl) (by kernel_rfl) (by kernel_rfl) (by kernel_rfl) (fun _ _ _ h => h) (Or.inl ⟨by rfl, fun W hW => by first | (obtain q0 := hW; go_simp <;> rfl) | (obtain q0 := hW; go_simp; done)⟩) K1 ?_
      (try simp only [Act.put, List.setIfInBounds_toArray, List.set_cons_zero, List.set_cons_succ])
      refine wpAnyM.one (i := 4) (by kernel_rfl) rfl (fun KQ hK => ?_)
      go_simp
      refine (y3 1).mono ?_
      rintro e w3 ⟨rfl, n, rfl⟩
      have K2 : ((w.drewN 1).drewN n).cell? ⟨b, 0, none⟩ = some (.int .i64 s.low) := h0
      refine hK.out _ _ (fun _ => K2) ?_
      clear hK KQ
      (try simp only [Act.put, List.setIfInBounds_toArray, List.set_cons_zero, List.set_cons_succ])
      refine wpAnyM.takeT (i := 10) (v := _) (some 20) rfl rfl (by kernel_rfl) (by kernel_rfl) (by kernel_rfl) (by kernel_rfl) (by kernel_rfl) (fun _ _ _ h => h) (Or.inl ⟨by rfl, fun W hW => by first | (obtain q0 := hW; go_simp <;> rfl) | (obtain q0 := hW; go_simp; done)⟩) K2 ?_
      (try simp only [Act.put, List.setIfInBounds_toArray, List.set_cons_zero, List.set_cons_succ])
      refine wpAnyM.takeT (i := 11) (v := _) (some 21) rfl rfl (by kernel_rfl) (by kernel_rfl) (by kernel_rfl) (by kernel_rfl) (by kernel_rfl) (fun _ _ _ h => h) (Or.inl ⟨by rfl, fun W hW => by first | (obtain q0 := hW; go_simp <;> rfl) | (obtain q0 := hW; go_simp; done)⟩) K2 ?_
      (try simp only [Act.put, List.setIfInBounds_toArray, List.set_cons_zero, List.set_cons_succ])
      refine wpAnyM.one (i := 12) (by kernel_rfl) rfl (fun KQ hK => ?_)
      go_simp
      refine hK.out _ _ (fun _ => K2) ?_
      clear hK KQ
      (try simp only [Act.put, List.setIfInBounds_toArray, List.set_cons_zero, List.set_cons_succ])
      refine wpAnyM.done (by kernel_rfl) ?_ _
      go_wp2
      go_ret2
      exact ⟨rfl, c, H.out.2.kn (Step.rf.drewN (1 + n)), Step.refl.drewN (1 + n), H.out.1.drewN (1 + n)⟩
    · have e1 : splitE s = 0 := by simp [splitE, ht, hl]
      have e2 : splitS s = { s with l := s.l ++ [mid s.low (topL s.l)] } := by simp [splitS, ht, hl]
      have e3 : splitH s = mid s.low (topL s.l) := by simp [splitH, ht, hl]
      rw [e1, e2, e3]
      have hb : (topL s.l == s.low + 1) = false := by simpa using ht
      have htp := g.top hl
      have y5 := fun W => pivot_ok s.low (topL s.l) W g.low htp.1 htp.2
      obtain ⟨v, hv, ho⟩ := h.row
      have hcol := h.col
      subst hcol
      have hm := mid_lt htp.2 ht
      have y4 := fun n => hpush_any (hok.drewN n) (b := b) (o := 3) (k := kr) (k2 := 0) hk0 hr0 hkr (fun e => hr0 e.symm) (fun e => hk0 e.symm) (v := v) hv (ho.kn (Step.rf.drewN n)) (isH.has (h := mid s.low (topL s.l)) ⟨by have := g.low.1; omega, by have := htp.1.2; omega⟩) hlen
      have H := Lib.hid (And.intro hok (And.intro h hkr))
      clear hok h e1 e2 e3 hl g ht htp hm hkr hr0 hk0 ho hv
      go_enter Try.func9, Try.ntmps9
      go_wp2_with fail
      with_reducible refine y1.mono ?_
      rintro e w1 ⟨rfl, rfl⟩
      go_wp2_with fail
      have K1 : (fun W => W.cell? ⟨b, 0, none⟩ = some (.int .i64 s.low)) w.drew := h0
      refine region_planM (fun W => W.cell? ⟨b, 0, none⟩ = some (.int .i64 s.low)) (fun _ => true) (by kernel_rfl) ?_
      refine wpAnyM.takeT (i := 0) (v := _) (some 10) rfl rfl (by kernel_rfl) (by kernel_rfl) (by kernel_rfl) (by kernel_rfl) (by kernel_rfl) (fun _ _ _ h => h) (Or.inl ⟨by rfl, fun W hW => by first | (obtain q0 := hW; go_simp <;> rfl) | (obtain q0 := hW; go_simp; done)⟩) K1 ?_
      (try simp only [Act.put, List.setIfInBounds_toArray, List.set_cons_zero, List.set_cons_succ])
      refine wpAnyM.one (i := 1) (by kernel_rfl) rfl (fun KQ hK => ?_)
      go_simp
      refine (y2 1).mono ?_
      rintro e w2 ⟨rfl, rfl⟩
      refine hK.out _ _ (fun _ => K1) ?_
      clear hK KQ
      (try simp only [Act.put, List.setIfInBounds_toArray, List.set_cons_zero, List.set_cons_succ])
      refine wpAnyM.takeT (i := 2) (v := _) (some 12) rfl rfl (by kernel_rfl) (by kernel_rfl) (by kernel_rfl) (by kernel_rfl) (by kernel_rfl) (fun _ _ _ h => h) (Or.inl ⟨by rfl, fun W hW => by first | (obtain q0 := hW; go_simp <;> rfl) | (obtain q0 := hW; go_simp; done)⟩) K1 ?_
      (try simp only [Act.put, List.setIfInBounds_toArray, List.set_cons_zero, List.set_cons_succ])
      refine wpAnyM.takeT (i := 3) (v := _) (some 13) rfl rfl (by kernel_rfl) (by kernel_rfl) (by kernel_rfl) (by kernel_rfl) (by kernel_rfl) (fun _ _ _ h => h) (Or.inl ⟨by rfl, fun W hW => by first | (obtain q0 := hW; go_simp <;> rfl) | (obtain q0 := hW; go_simp; done)⟩) K1 ?_
      (try simp only [Act.put, List.setIfInBounds_toArray, List.set_cons_zero, List.set_cons_succ])
      refine wpAnyM.takeT (i := 5) (v := _) (some 15) rfl rfl (by kernel_rfl) (by kernel_rfl) (by kernel_rfl) (by kernel_rfl) (by kernel_rfl) (fun _ _ _ h => h) (Or.inl ⟨by rfl, fun W hW => by first | (obtain q0 := hW; go_simp <;> rfl) | (obtain q0 := hW; go_simp; done)⟩) K1 ?_
      (try simp only [Act.put, List.setIfInBounds_toArray, List.set_cons_zero, List.set_cons_succ])
      refine wpAnyM.takeT (i := 6) (v := _) (some 16) rfl rfl (by kernel_rfl) (by kernel_rfl) (by kernel_rfl) (by kernel_rfl) (by kernel_rfl) (fun _ _ _ h => h) (Or.inl ⟨by rfl, fun W hW => by first | (obtain q0 := hW; go_simp <;> rfl) | (obtain q0 := hW; go_simp; done)⟩) K1 ?_
      (try simp only [Act.put, List.setIfInBounds_toArray, List.set_cons_zero, List.set_cons_succ])
      refine wpAnyM.takeT (i := 7) (v := _) (some 17) rfl rfl (by kernel_rfl) (by kernel_rfl) (by kernel_rfl) (by kernel_rfl) (by kernel_rfl) (fun _ _ _ h => h) (Or.inl ⟨by rfl, fun W hW => by first | (obtain q0 := hW; go_simp <;> rfl) | (obtain q0 := hW; go_simp; done)⟩) K1 ?_
      (try simp only [Act.put, List.setIfInBounds_toArray, List.set_cons_zero, List.set_cons_succ])
      refine wpAnyM.takeT (i := 8) (v := _) (some 18) rfl rfl (by kernel_rfl) (by kernel_rfl) (by kernel_rfl) (by kernel_rfl) (by kernel_rfl) (fun _ _ _ h => h) (Or.inl ⟨by rfl, fun W hW => by first | (obtain q0 := hW; go_simp <;> rfl) | (obtain q0 := hW; go_simp; done)⟩) K1 ?_
      (try simp only [Act.put, List.setIfInBounds_toArray, List.set_cons_zero, List.set_cons_succ])
      refine wpAnyM.takeT (i := 9) (v := _) (some 19) rfl rfl (by kernel_rfl) (by kernel_rfl) (by kernel_rfl) (by kernel_rfl) (by kernel_rfl) (fun _ _ _ h => h) (Or.inl ⟨by rfl, fun W hW => by first | (obtain q0 := hW; go_simp <;> rfl) | (obtain q0 := hW; go_simp; done)⟩) K1 ?_
      (try simp only [Act.put, List.setIfInBounds_toArray, List.set_cons_zero, List.set_cons_succ])
      refine wpAnyM.one (i := 4) (by kernel_rfl) rfl (fun KQ hK => ?_)
      go_simp
      refine (y3 1).mono ?_
      rintro e w3 ⟨rfl, n, rfl⟩
      have K2 : ((w.drewN 1).drewN n).cell? ⟨b, 0, none⟩ = some (.int .i64 s.low) := h0
      refine hK.out _ _ (fun _ => K2) ?_
      clear hK KQ
      (try simp only [Act.put, List.setIfInBounds_toArray, List.set_cons_zero, List.set_cons_succ])
      refine wpAnyM.takeT (i := 10) (v := _) (some 20) rfl rfl (by kernel_rfl) (by kernel_rfl) (by kernel_rfl) (by kernel_rfl) (by kernel_rfl) (fun _ _ _ h => h) (Or.inl ⟨by rfl, fun W hW => by first | (obtain q0 := hW; go_simp <;> rfl) | (obtain q0 := hW; go_simp; done)⟩) K2 ?_
      (try simp only [Act.put, List.setIfInBounds_toArray, List.set_cons_zero, List.set_cons_succ])
      refine wpAnyM.takeT (i := 11) (v := _) (some 21) rfl rfl (by kernel_rfl) (by kernel_rfl) (by kernel_rfl) (by kernel_rfl) (by kernel_rfl) (fun _ _ _ h => h) (Or.inl ⟨by rfl, fun W hW => by first | (obtain q0 := hW; go_simp <;> rfl) | (obtain q0 := hW; go_simp; done)⟩) K2 ?_
      (try simp only [Act.put, List.setIfInBounds_toArray, List.set_cons_zero, List.set_cons_succ])
      refine wpAnyM.one (i := 12) (by kernel_rfl) rfl (fun KQ hK => ?_)
      go_simp
      refine hK.out _ _ (fun _ => K2) ?_
      clear hK KQ
      (try simp only [Act.put, List.setIfInBounds_toArray, List.set_cons_zero, List.set_cons_succ])
      refine wpAnyM.done (by kernel_rfl) ?_ _
      go_wp2_with fail
      have K3 : (fun W => W.cell? ⟨b, 0, none⟩ = some (.int .i64 s.low)) (w.drewN (1 + n)).drew := h0
      refine region_planM (fun W => W.cell? ⟨b, 0, none⟩ = some (.int .i64 s.low)) (fun _ => true) (by kernel_rfl) ?_
      refine wpAnyM.takeT (i := 0) (v := _) (some 23) rfl rfl (by kernel_rfl) (by kernel_rfl) (by kernel_rfl) (by kernel_rfl) (by kernel_rfl) (fun _ _ _ h => h) (Or.inl ⟨by rfl, fun W hW => by first | (obtain q0 := hW; go_simp <;> rfl) | (obtain q0 := hW; go_simp; done)⟩) K3 ?_
      (try simp only [Act.put, List.setIfInBounds_toArray, List.set_cons_zero, List.set_cons_succ])
      refine wpAnyM.takeT (i := 1) (v := _) (some 24) rfl rfl (by kernel_rfl) (by kernel_rfl) (by kernel_rfl) (by kernel_rfl) (by kernel_rfl) (fun _ _ _ h => h) (Or.inl ⟨by rfl, fun W hW => by first | (obtain q0 := hW; go_simp <;> rfl) | (obtain q0 := hW; go_simp; done)⟩) K3 ?_
      (try simp only [Act.put, List.setIfInBounds_toArray, List.set_cons_zero, List.set_cons_succ])
      refine wpAnyM.takeT (i := 2) (v := _) (some 25) rfl rfl (by kernel_rfl) (by kernel_rfl) (by kernel_rfl) (by kernel_rfl) (by kernel_rfl) (fun _ _ _ h => h) (Or.inl ⟨by rfl, fun W hW => by first | (obtain q0 := hW; go_simp <;> rfl) | (obtain q0 := hW; go_simp; done)⟩) K3 ?_
      (try simp only [Act.put, List.setIfInBounds_toArray, List.set_cons_zero, List.set_cons_succ])
      refine wpAnyM.takeT (i := 3) (v := _) (some 26) rfl rfl (by kernel_rfl) (by kernel_rfl) (by kernel_rfl) (by kernel_rfl) (by kernel_rfl) (fun _ _ _ h => h) (Or.inl ⟨by rfl, fun W hW => by first | (obtain q0 := hW; go_simp <;> rfl) | (obtain q0 := hW; go_simp; done)⟩) K3 ?_
      (try simp only [Act.put, List.setIfInBounds_toArray, List.set_cons_zero, List.set_cons_succ])
      refine wpAnyM.takeT (i := 4) (v := _) (some 27) rfl rfl (by kernel_rfl) (by kernel_rfl) (by kernel_rfl) (by kernel_rfl) (by kernel_rfl) (fun _ _ _ h => h) (Or.inl ⟨by rfl, fun W hW => by first | (obtain q0 := hW; go_simp <;> rfl) | (obtain q0 := hW; go_simp; done)⟩) K3 ?_
      (try simp only [Act.put, List.setIfInBounds_toArray, List.set_cons_zero, List.set_cons_succ])
      refine wpAnyM.one (i := 5) (by kernel_rfl) rfl (fun KQ hK => ?_)
      go_simp
      refine (y3 (1 + n + 1)).mono ?_
      rintro e w4 ⟨rfl, n2, rfl⟩
      have K4 : ((w.drewN (1 + n + 1)).drewN n2).cell? ⟨b, 0, none⟩ = some (.int .i64 s.low) := h0
      refine hK.out _ _ (fun _ => K4) ?_
      clear hK KQ
      (try simp only [Act.put, List.setIfInBounds_toArray, List.set_cons_zero, List.set_cons_succ])
      refine wpAnyM.one (i := 6) (by kernel_rfl) rfl (fun KQ hK => ?_)
      go_simp
      refine (y5 _).mono ?_
      rintro e w5 ⟨rfl, rfl⟩
      refine hK.out _ _ (fun _ => K4) ?_
      clear hK KQ
      (try simp only [Act.put, List.setIfInBounds_toArray, List.set_cons_zero, List.set_cons_succ])
      refine wpAnyM.takeT (i := 7) (v := _) (some 22) rfl rfl (by kernel_rfl) (by kernel_rfl) (by kernel_rfl) (by kernel_rfl) (by kernel_rfl) (fun _ _ _ h => h) (Or.inl ⟨by rfl, fun W hW => by first | (obtain q0 := hW; go_simp <;> rfl) | (obtain q0 := hW; go_simp; done)⟩) K4 ?_
      (try simp only [Act.put, List.setIfInBounds_toArray, List.set_cons_zero, List.set_cons_succ])
      refine wpAnyM.takeT (i := 8) (v := _) (some 30) rfl rfl (by kernel_rfl) (by kernel_rfl) (by kernel_rfl) (by kernel_rfl) (by kernel_rfl) (fun _ _ _ h => h) (Or.inl ⟨by rfl, fun W hW => by first | (obtain q0 := hW; go_simp <;> rfl) | (obtain q0 := hW; go_simp; done)⟩) K4 ?_
      (try simp only [Act.put, List.setIfInBounds_toArray, List.set_cons_zero, List.set_cons_succ])
      refine wpAnyM.takeT (i := 9) (v := _) (some 31) rfl rfl (by kernel_rfl) (by kernel_rfl) (by kernel_rfl) (by kernel_rfl) (by kernel_rfl) (fun _ _ _ h => h) (Or.inl ⟨by rfl, fun W hW => by first | (obtain q0 := hW; go_simp <;> rfl) | (obtain q0 := hW; go_simp; done)⟩) K4 ?_
      (try simp only [Act.put, List.setIfInBounds_toArray, List.set_cons_zero, List.set_cons_succ])
      refine wpAnyM.one (i := 10) (by kernel_rfl) rfl (fun KQ hK => ?_)
      go_simp
      refine hK.out _ _ (fun _ => K4) ?_
      clear hK KQ
      (try simp only [Act.put, List.setIfInBounds_toArray, List.set_cons_zero, List.set_cons_succ])
      refine wpAnyM.one (i := 11) (by kernel_rfl) rfl (fun KQ hK => ?_)
      go_simp
      refine hK.out _ _ (fun _ => K4) ?_
      clear hK KQ
      (try simp only [Act.put, List.setIfInBounds_toArray, List.set_cons_zero, List.set_cons_succ])
      refine wpAnyM.done (by kernel_rfl) ?_ _
      go_wp2_with fail
      refine (y4 (1 + n + 1 + n2)).mono ?_
      rintro e w6 ⟨rfl, v', c', p1, p2, p3, p4, p5, p6⟩
      go_wp2
      go_ret2
      exact ⟨rfl, c', H.out.2.1.turned p1 p2 p5 p6, (Step.refl.drewN (1 + n + 1 + n2)).trans p3, p4⟩

/-! ### New -/
theorem new_range (r t : Int) (w : World) (h : ¬ (isH r ∧ isH t)) : Calls Try.prog 7 #[.int .i64 r, .int .i64 t] w fun e w' => e = .returned (.tuple #[.pointer none, .int .i64 3]) ∧ w = w' := by
  by_cases ha : isH r
  · have hb : ¬ isH t := fun x => h ⟨ha, x⟩
    have y1 := is_yes r w ha
    have y2 := is_no t w hb
    clear h ha hb
    go_enter Try.func7, Try.ntmps7
    go_wp2_with fail
    with_reducible refine y1.mono ?_
    rintro e w1 ⟨rfl, rfl⟩
    go_wp2_with fail
    with_reducible refine y2.mono ?_
    rintro e w1 ⟨rfl, rfl⟩
    go_wp2
    go_ret2
    exact ⟨rfl, rfl⟩
  · have y1 := is_no r w ha
    clear h ha
    go_enter Try.func7, Try.ntmps7
    go_wp2_with fail
    with_reducible refine y1.mono ?_
    rintro e w1 ⟨rfl, rfl⟩
    go_wp2
    go_ret2
    exact ⟨rfl, rfl⟩

theorem new_height (r t : Int) (w : World) (ha : isH r) (hb : isH t) (h : t ≤ r) : Calls Try.prog 7 #[.int .i64 r, .int .i64 t] w fun e w' => e = .returned (.tuple #[.pointer none, .int .i64 13]) ∧ w = w' := by
  have y1 := is_yes r w ha
  have y2 := is_yes t w hb
  clear ha hb
  go_enter Try.func7, Try.ntmps7
  go_wp2_with fail
  with_reducible refine y1.mono ?_
  rintro e w1 ⟨rfl, rfl⟩
  go_wp2_with fail
  with_reducible refine y2.mono ?_
  rintro e w1 ⟨rfl, rfl⟩
  go_wp2
  go_ret2
  exact ⟨rfl, rfl⟩

def newS (r t : Int) : Stk := ⟨r, t, r, [t]⟩

set_option maxHeartbeats 800000 in
theorem newst_ok (hok : Ok c w) (r t : Int) (ha : isH r) (hb : isH t) (h : r < t) (k kr : Nat) :
    Calls Try.prog 7 #[.int .i64 r, .int .i64 t] w fun e w' => e = .returned (.tuple #[.pointer (some ⟨w.heap.size, 0, none⟩), .int .i64 0]) ∧ ∃ c', IsSt c' k kr w' w.heap.size (newS r t) ∧ Step No c w c' w' ∧ Ok c' w' := by
  have y1 := is_yes r w ha
  have y2 := is_yes t w hb
  have h' : ¬ t ≤ r := by omega
  obtain ⟨q, hq, hqc⟩ := hok.spare (k + kr)
  obtain ⟨q2, hq2, hqc2⟩ := hok.spare q
  obtain ⟨a1, o1, s1⟩ := newAt hok [.int .i64 0, .int .i64 r, .int .i64 t, .slice none 0 0] 53 q
  have i1 : IsSt (c.put w.heap.size q) q q2 (w.alloc (.cells #[.int .i64 0, .int .i64 r, .int .i64 t, .slice none 0 0] 53)) w.heap.size ⟨r, t, 0, []⟩ :=
    ⟨a1.col, a1.cells 0 _ rfl, a1.cells 1 _ rfl, a1.cells 2 _ rfl, _, a1.cells 3 _ rfl, Own.nil _ _ _ _ _ _⟩
  have y3 := reset_any o1 i1 ha.1 hb.has (by omega) (by omega) (by omega)
  have H := Lib.hid (And.intro s1 (And.intro hqc (And.intro hqc2 (And.intro hq hq2))))
  clear ha hb i1 a1 o1 s1 hqc hqc2 hq hq2 h
  go_enter Try.func7, Try.ntmps7
  go_wp2_with fail
  with_reducible refine y1.mono ?_
  rintro e w1 ⟨rfl, rfl⟩
  go_wp2_with fail
  with_reducible refine y2.mono ?_
  rintro e w1 ⟨rfl, rfl⟩
  go_wp2_with fail
  refine y3.mono ?_
  rintro e w2 ⟨rfl, c2, i2, s2, o2⟩
  go_wp2
  go_ret2
  obtain ⟨s1, hqc, hqc2, hq, hq2⟩ := H.out
  exact ⟨rfl, i2.out2 (s1.ofNo.trans s2) o2 hqc hqc2 (by omega) (by omega) (by omega) k kr (by omega)⟩
end
end Go.Proofs.Ytcagfdmafelbkab
