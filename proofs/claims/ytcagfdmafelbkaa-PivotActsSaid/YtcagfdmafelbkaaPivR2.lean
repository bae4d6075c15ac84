/- Pivot: the reference's Pop, Split, New. -/
import Derived.Test.YtcagfdmafelbkaaPivR1
namespace Go.Proofs.Ytcagfdmafelbkaa
open Go.RowKit

theorem Own.cap_le {α : Type} {T : Ty α} {e : TypeId} {c : Col} {k k2 : Nat} {w : World} {a : Addr} {m cap : Nat} {l : List α} (h : Own T e c k k2 w (.slice (some a) m cap) l) : l.length ≤ cap ∧ cap ≤ maxLen := by
  obtain ⟨_, _, _, _, ⟨_, hr⟩, _⟩ := h
  rcases hr with ⟨hv, _⟩ | ⟨g, cap', cur, hv, h0, hg, h1, h2, _⟩
  · cases hv
  · cases hv; exact ⟨h1, h2⟩

section
variable {c : Col} {w : World} {k kr b : Nat} {s : Stk}

set_option maxHeartbeats 800000 in
theorem rpop_any (hok : Ok c w) (h : IsSt c k kr w b s) (hk0 : k ≠ 0) (hkr : kr ≠ k) :
    Calls Try.prog 65 #[.pointer (some ⟨b, 0, none⟩)] w fun r w' => r = .returned (.tuple #[.int .i64 (popH s), .int .i64 (popE s)]) ∧ IsSt c k kr w' b (popS s) ∧ Step (One k) c w c w' ∧ Ok c w' := by
  obtain ⟨v, hv, ho⟩ := h.row
  by_cases hl : s.l = []
  · have e1 : popE s = 11 := by simp [popE, hl]
    have e2 : popS s = s := by simp [popS, hl]
    have e3 : popH s = 0 := by simp [popH, hl]
    rw [e1, e2, e3]
    have H := Lib.hid (And.intro hok h)
    obtain ⟨va, vc, rfl, _⟩ := ho.sl.form
    rw [hl] at hv
    simp only [List.length_nil] at hv
    clear hok h e1 e2 e3 hl ho
    go_enter Try.func65, Try.ntmps65
    go_wp2
    go_ret2
    exact ⟨rfl, H.out.2, Step.refl, H.out.1⟩
  · have y2 := rtop_any h
    rcases List.eq_nil_or_concat s.l with hl' | ⟨l, x, hl'⟩
    · exact absurd hl' hl
    rw [List.concat_eq_append] at hl'
    have e1 : popE s = 0 := by simp [popE, hl]
    have e2 : popS s = { s with low := x, l := l } := by simp [popS, hl', topL_snoc]
    have e3 : popH s = x := by simp [popH, hl', topL_snoc]
    rw [hl', topL_snoc] at y2
    rw [e1, e2, e3]
    rw [hl'] at ho
    have hcol := h.col
    subst hcol
    have h0 := h.c0
    have hf : ∀ o, w.frozen? ⟨b, o, none⟩ = false := fun o => hok.soft b o hk0
    have f0 := hf 0
    have f3 := hf 3
    have hm := ho.sl.length_le
    unfold maxLen at hm
    obtain ⟨g, off, cap, rfl, _, _⟩ := int_at ho.sl (j := l.length) (x := x) (by simp)
    obtain ⟨hcap, hcm⟩ := ho.cap_le
    unfold maxLen at hcm
    have hp := ho.pop
    obtain ⟨n, hn⟩ : ∃ n, n = l.length := ⟨_, rfl⟩
    rw [← hn] at hp
    have e : (l ++ [x]).length = n + 1 := by simp [hn]
    rw [e] at hv hm hcap
    have H := Lib.hid (And.intro hok (And.intro h (And.intro hkr (And.intro hk0 hp))))
    clear hok e1 e2 e3 hl hl' ho hkr hk0 hp hn e hf h
    have z2 : (((n + 1 : Nat) : Int) == 0) = false := by simp; omega
    have z2' : (((n : Int) + 1) == 0) = false := by simp; omega
    have z3 : IntKind.i64.wrap (n : Int) = (n : Int) := IntWalk.i64_in _ (by omega)
    have z4 : (0 : Int) ≤ (n : Int) := by omega
    have z5 : (n : Int) ≤ (cap : Int) := by omega
    have z6 : n ≤ cap := by omega
    have z7 : decide ((n : Int) ≤ (cap : Int)) = true := by simpa using z5
    clear hm hcap hcm
    go_enter Try.func65, Try.ntmps65
    go_wp2_with fail
    with_reducible refine y2.mono ?_
    rintro e w1 ⟨rfl, m, rfl⟩
    go_wp2_with fail
    have ne : ∀ {o o' : Nat}, o ≠ o' → (⟨b, o', none⟩ : Addr) ≠ ⟨b, o, none⟩ := fun h e => by injection e with e1 e2; exact h e2.symm
    obtain ⟨W, hW⟩ : ∃ W, (w.drewN m).setCell ⟨b, 0, none⟩ (.int .i64 x) = W := ⟨_, rfl⟩
    have q0 : W.cell? ⟨b, 0, none⟩ = some (.int .i64 x) := by rw [← hW]; exact World.cell?_setCell_same' _ _ _ (by rw [show (w.drewN m).cell? ⟨b, 0, none⟩ = w.cell? ⟨b, 0, none⟩ from rfl, h0]; rfl)
    have qo : ∀ o, o ≠ 0 → W.cell? ⟨b, o, none⟩ = w.cell? ⟨b, o, none⟩ := fun o ho => by rw [← hW]; exact (World.cell?_setCell_other _ _ _ _ (ne ho)).trans rfl
    have q3 := (qo 3 (by decide)).trans hv
    have qf : W.frozen? ⟨b, 3, none⟩ = false := by rw [← hW, frozen?_setCell']; exact f3
    have sW : Step (One (c b)) c w c W := by rw [← hW]; exact ((Step.refl (K := One (c b))).drewN m).setCell (a := ⟨b, 0, none⟩) (.inr (show One (c b) (c b) from rfl)) _
    have oW : Ok c W := by rw [← hW]; exact (H.out.1.drewN m).setCell _ _
    have X := Lib.hid (And.intro q0 (And.intro qo (And.intro sW oW)))
    rw [hW]
    clear hW sW oW qo h0 hv f0 f3
    have K1 : (fun W' => W'.cell? ⟨b, 3, none⟩ = some (.slice (some ⟨g, off, none⟩) (n + 1) cap) ∧ W'.frozen? ⟨b, 3, none⟩ = false) W.drew := ⟨q3, qf⟩
    refine region_planM (fun W => W.cell? ⟨b, 3, none⟩ = some (.slice (some ⟨g, off, none⟩) (n + 1) cap) ∧ W.frozen? ⟨b, 3, none⟩ = false) (fun i => !([14] : List Nat).contains i) (by kernel_rfl) ?_
    refine wpAnyM.takeT (i := 0) (v := _) (some 15) rfl rfl (by kernel_rfl) (by kernel_rfl) (by kernel_rfl) (by kernel_rfl) (by kernel_rfl) (fun _ _ _ h => h) (Or.inl ⟨by rfl, fun W hW => by first | (obtain ⟨q0, q1⟩ := hW; go_simp <;> rfl) | (obtain ⟨q0, q1⟩ := hW; go_simp; done)⟩) K1 ?_
    (try simp only [Act.put, List.setIfInBounds_toArray, List.set_cons_zero, List.set_cons_succ])
    refine wpAnyM.takeT (i := 1) (v := _) (some 16) rfl rfl (by kernel_rfl) (by kernel_rfl) (by kernel_rfl) (by kernel_rfl) (by kernel_rfl) (fun _ _ _ h => h) (Or.inl ⟨by rfl, fun W hW => by first | (obtain ⟨q0, q1⟩ := hW; go_simp <;> rfl) | (obtain ⟨q0, q1⟩ := hW; go_simp; done)⟩) K1 ?_
    (try simp only [Act.put, List.setIfInBounds_toArray, List.set_cons_zero, List.set_cons_succ])
    refine wpAnyM.takeT (i := 2) (v := _) (some 17) rfl rfl (by kernel_rfl) (by kernel_rfl) (by kernel_rfl) (by kernel_rfl) (by kernel_rfl) (fun _ _ _ h => h) (Or.inl ⟨by rfl, fun W hW => by first | (obtain ⟨q0, q1⟩ := hW; go_simp <;> rfl) | (obtain ⟨q0, q1⟩ := hW; go_simp; done)⟩) K1 ?_
    (try simp only [Act.put, List.setIfInBounds_toArray, List.set_cons_zero, List.set_cons_succ])
    refine wpAnyM.takeT (i := 3) (v := _) (some 18) rfl rfl (by kernel_rfl) (by kernel_rfl) (by kernel_rfl) (by kernel_rfl) (by kernel_rfl) (fun _ _ _ h => h) (Or.inl ⟨by rfl, fun W hW => by first | (obtain ⟨q0, q1⟩ := hW; go_simp <;> rfl) | (obtain ⟨q0, q1⟩ := hW; go_simp; done)⟩) K1 ?_
    (try simp only [Act.put, List.setIfInBounds_toArray, List.set_cons_zero, List.set_cons_succ])
    refine wpAnyM.takeT (i := 4) (v := _) (some 19) rfl rfl (by kernel_rfl) (by kernel_rfl) (by kernel_rfl) (by kernel_rfl) (by kernel_rfl) (fun _ _ _ h => h) (Or.inl ⟨by rfl, fun W hW => by first | (obtain ⟨q0, q1⟩ := hW; go_simp <;> rfl) | (obtain ⟨q0, q1⟩ := hW; go_simp; done)⟩) K1 ?_
    (try simp only [Act.put, List.setIfInBounds_toArray, List.set_cons_zero, List.set_cons_succ])
    refine wpAnyM.takeT (i := 5) (v := _) (some 20) rfl rfl (by kernel_rfl) (by kernel_rfl) (by kernel_rfl) (by kernel_rfl) (by kernel_rfl) (fun _ _ _ h => h) (Or.inl ⟨by rfl, fun W hW => by first | (obtain ⟨q0, q1⟩ := hW; go_simp <;> rfl) | (obtain ⟨q0, q1⟩ := hW; go_simp; done)⟩) K1 ?_
    (try simp only [Act.put, List.setIfInBounds_toArray, List.set_cons_zero, List.set_cons_succ])
    refine wpAnyM.takeT (i := 6) (v := _) (some 21) rfl rfl (by kernel_rfl) (by kernel_rfl) (by kernel_rfl) (by kernel_rfl) (by kernel_rfl) (fun _ _ _ h => h) (Or.inl ⟨by rfl, fun W hW => by first | (obtain ⟨q0, q1⟩ := hW; go_simp <;> rfl) | (obtain ⟨q0, q1⟩ := hW; go_simp; done)⟩) K1 ?_
    (try simp only [Act.put, List.setIfInBounds_toArray, List.set_cons_zero, List.set_cons_succ])
    refine wpAnyM.takeT (i := 7) (v := _) (some 22) rfl rfl (by kernel_rfl) (by kernel_rfl) (by kernel_rfl) (by kernel_rfl) (by kernel_rfl) (fun _ _ _ h => h) (Or.inl ⟨by rfl, fun W hW => by first | (obtain ⟨q0, q1⟩ := hW; go_simp <;> rfl) | (obtain ⟨q0, q1⟩ := hW; go_simp; done)⟩) K1 ?_
    (try simp only [Act.put, List.setIfInBounds_toArray, List.set_cons_zero, List.set_cons_succ])
    refine wpAnyM.takeT (i := 8) (v := _) (some 23) rfl rfl (by kernel_rfl) (by kernel_rfl) (by kernel_rfl) (by kernel_rfl) (by kernel_rfl) (fun _ _ _ h => h) (Or.inl ⟨by rfl, fun W hW => by first | (obtain ⟨q0, q1⟩ := hW; go_simp <;> rfl) | (obtain ⟨q0, q1⟩ := hW; go_simp; done)⟩) K1 ?_
    (try simp only [Act.put, List.setIfInBounds_toArray, List.set_cons_zero, List.set_cons_succ])
    refine wpAnyM.takeT (i := 9) (v := _) (some 24) rfl rfl (by kernel_rfl) (by kernel_rfl) (by kernel_rfl) (by kernel_rfl) (by kernel_rfl) (fun _ _ _ h => h) (Or.inl ⟨by rfl, fun W hW => by first | (obtain ⟨q0, q1⟩ := hW; go_simp <;> rfl) | (obtain ⟨q0, q1⟩ := hW; go_simp; done)⟩) K1 ?_
    (try simp only [Act.put, List.setIfInBounds_toArray, List.set_cons_zero, List.set_cons_succ])
    refine wpAnyM.takeT (i := 10) (v := _) (some 25) rfl rfl (by kernel_rfl) (by kernel_rfl) (by kernel_rfl) (by kernel_rfl) (by kernel_rfl) (fun _ _ _ h => h) (Or.inl ⟨by rfl, fun W hW => by first | (obtain ⟨q0, q1⟩ := hW; go_simp <;> rfl) | (obtain ⟨q0, q1⟩ := hW; go_simp; done)⟩) K1 ?_
    (try simp only [Act.put, List.setIfInBounds_toArray, List.set_cons_zero, List.set_cons_succ])
    refine wpAnyM.takeT (i := 11) (v := _) (some 26) rfl rfl (by kernel_rfl) (by kernel_rfl) (by kernel_rfl) (by kernel_rfl) (by kernel_rfl) (fun _ _ _ h => h) (Or.inl ⟨by rfl, fun W hW => by first | (obtain ⟨q0, q1⟩ := hW; go_simp <;> rfl) | (obtain ⟨q0, q1⟩ := hW; go_simp; done)⟩) K1 ?_
    (try simp only [Act.put, List.setIfInBounds_toArray, List.set_cons_zero, List.set_cons_succ])
    refine wpAnyM.takeT (i := 12) (v := _) (some 27) rfl rfl (by kernel_rfl) (by kernel_rfl) (by kernel_rfl) (by kernel_rfl) (by kernel_rfl) (fun _ _ _ h => h) (Or.inl ⟨by rfl, fun W hW => by first | (obtain ⟨q0, q1⟩ := hW; go_simp <;> rfl) | (obtain ⟨q0, q1⟩ := hW; go_simp; done)⟩) K1 ?_
    (try simp only [Act.put, List.setIfInBounds_toArray, List.set_cons_zero, List.set_cons_succ])
    refine wpAnyM.takeT (i := 13) (v := _) (some 28) rfl rfl (by kernel_rfl) (by kernel_rfl) (by kernel_rfl) (by kernel_rfl) (by kernel_rfl) (fun _ _ _ h => h) (Or.inl ⟨by rfl, fun W hW => by first | (obtain ⟨q0, q1⟩ := hW; go_simp <;> rfl) | (obtain ⟨q0, q1⟩ := hW; go_simp; done)⟩) K1 ?_
    (try simp only [Act.put, List.setIfInBounds_toArray, List.set_cons_zero, List.set_cons_succ])
    refine wpAnyM.one (i := 14) (by kernel_rfl) rfl (fun KQ hK => ?_)
    go_simp
    refine hK.out _ _ (fun h => absurd h (by decide)) ?_
    clear hK KQ
    (try simp only [Act.put, List.setIfInBounds_toArray, List.set_cons_zero, List.set_cons_succ])
    refine wpAnyM.done (by kernel_rfl) ?_ _
    go_wp2
    go_ret2
    obtain ⟨q0', qo, sW, oW⟩ := X.out
    obtain ⟨hok, h, hkr, hk0, hp⟩ := H.out
    have s3 : Step (One (c b)) c w c (W.drew.setCell ⟨b, 3, none⟩ (.slice (some ⟨g, off, none⟩) n cap)) := sW.drew.setCell (a := ⟨b, 3, none⟩) (.inr (show One (c b) (c b) from rfl)) _
    have oth : ∀ o, o ≠ 3 → (W.drew.setCell ⟨b, 3, none⟩ (.slice (some ⟨g, off, none⟩) n cap)).cell? ⟨b, o, none⟩ = W.cell? ⟨b, o, none⟩ := fun o ho => (World.cell?_setCell_other _ _ _ _ (ne ho)).trans rfl
    exact ⟨rfl, ⟨rfl, (oth 0 (by decide)).trans q0, ((oth 1 (by decide)).trans (qo 1 (by decide))).trans h.c1, ((oth 2 (by decide)).trans (qo 2 (by decide))).trans h.c2, _, World.cell?_setCell_same' _ _ _ (by show (W.cell? ⟨b, 3, none⟩).isSome = true; rw [q3]; rfl), hp.keep s3 hkr (fun e => hk0 e.symm)⟩, s3, oW.drew.setCell _ _⟩

set_option maxHeartbeats 800000 in
theorem rsplit_any (hok : Ok c w) (h : IsSt c k kr w b s) (g : Good s) (hk0 : k ≠ 0) (hkr : kr ≠ k) (hlen : s.l.length ≤ 1000000000) :
    Calls Try.prog 66 #[.pointer (some ⟨b, 0, none⟩)] w fun r w' => r = .returned (.tuple #[.int .i64 (splitH s), .int .i64 (splitE s)]) ∧ ∃ c', IsSt c' k kr w' b (splitS s) ∧ Step (One k) c w c' w' ∧ Ok c' w' := by
  have h0 := h.c0
  obtain ⟨v, hv, ho⟩ := h.row
  obtain ⟨va, vc, rfl, _⟩ := ho.sl.form
  clear ho
  by_cases hl : s.l = []
  · have e1 : splitE s = 11 := by simp [splitE, hl]
    have e2 : splitS s = s := by simp [splitS, hl]
    have e3 : splitH s = 0 := by simp [splitH, hl]
    rw [e1, e2, e3]
    have H := Lib.hid (And.intro hok h)
    rw [hl] at hv
    simp only [List.length_nil] at hv
    clear hok h e1 e2 e3 hl g
    go_enter Try.func66, Try.ntmps66
    go_wp2_with fail
    have K1 : (fun W => W.cell? ⟨b, 0, none⟩ = some (.int .i64 s.low) ∧ W.cell? ⟨b, 3, none⟩ = some (.slice va 0 vc)) w.drew := ⟨h0, hv⟩
    refine region_planM (fun W => W.cell? ⟨b, 0, none⟩ = some (.int .i64 s.low) ∧ W.cell? ⟨b, 3, none⟩ = some (.slice va 0 vc)) (fun _ => true) (by kernel_rfl) ?_
    refine wpAnyM.takeT (i := 0) (v := _) (some 6) rfl rfl (by kernel_rfl) (by kernel_rfl) (by kernel_rfl) (by kernel_rfl) (by kernel_rfl) (fun _ _ _ h => h) (Or.inl ⟨by rfl, fun W hW => by first | (obtain ⟨q0, q1⟩ := hW; go_simp <;> rfl) | (obtain ⟨q0, q1⟩ := hW; go_simp; done)⟩) K1 ?_
    (try simp only [Act.put, List.setIfInBounds_toArray, List.set_cons_zero, List.set_cons_succ])
    refine wpAnyM.takeT (i := 1) (v := _) (some 7) rfl rfl (by kernel_rfl) (by kernel_rfl) (by kernel_rfl) (by kernel_rfl) (by kernel_rfl) (fun _ _ _ h => h) (Or.inl ⟨by rfl, fun W hW => by first | (obtain ⟨q0, q1⟩ := hW; go_simp <;> rfl) | (obtain ⟨q0, q1⟩ := hW; go_simp; done)⟩) K1 ?_
    (try simp only [Act.put, List.setIfInBounds_toArray, List.set_cons_zero, List.set_cons_succ])
    refine wpAnyM.takeT (i := 2) (v := _) (some 8) rfl rfl (by kernel_rfl) (by kernel_rfl) (by kernel_rfl) (by kernel_rfl) (by kernel_rfl) (fun _ _ _ h => h) (Or.inl ⟨by rfl, fun W hW => by first | (obtain ⟨q0, q1⟩ := hW; go_simp <;> rfl) | (obtain ⟨q0, q1⟩ := hW; go_simp; done)⟩) K1 ?_
    (try simp only [Act.put, List.setIfInBounds_toArray, List.set_cons_zero, List.set_cons_succ])
    refine wpAnyM.takeT (i := 3) (v := _) (some 9) rfl rfl (by kernel_rfl) (by kernel_rfl) (by kernel_rfl) (by kernel_rfl) (by kernel_rfl) (fun _ _ _ h => h) (Or.inl ⟨by rfl, fun W hW => by first | (obtain ⟨q0, q1⟩ := hW; go_simp <;> rfl) | (obtain ⟨q0, q1⟩ := hW; go_simp; done)⟩) K1 ?_
    (try simp only [Act.put, List.setIfInBounds_toArray, List.set_cons_zero, List.set_cons_succ])
    refine wpAnyM.takeT (i := 4) (v := _) (some 10) rfl rfl (by kernel_rfl) (by kernel_rfl) (by kernel_rfl) (by kernel_rfl) (by kernel_rfl) (fun _ _ _ h => h) (Or.inl ⟨by rfl, fun W hW => by first | (obtain ⟨q0, q1⟩ := hW; go_simp <;> rfl) | (obtain ⟨q0, q1⟩ := hW; go_simp; done)⟩) K1 ?_
    (try simp only [Act.put, List.setIfInBounds_toArray, List.set_cons_zero, List.set_cons_succ])
    refine wpAnyM.takeT (i := 5) (v := _) (some 11) rfl rfl (by kernel_rfl) (by kernel_rfl) (by kernel_rfl) (by kernel_rfl) (by kernel_rfl) (fun _ _ _ h => h) (Or.inl ⟨by rfl, fun W hW => by first | (obtain ⟨q0, q1⟩ := hW; go_simp <;> rfl) | (obtain ⟨q0, q1⟩ := hW; go_simp; done)⟩) K1 ?_
    (try simp only [Act.put, List.setIfInBounds_toArray, List.set_cons_zero, List.set_cons_succ])
    refine wpAnyM.takeT (i := 6) (v := _) (some 12) rfl rfl (by kernel_rfl) (by kernel_rfl) (by kernel_rfl) (by kernel_rfl) (by kernel_rfl) (fun _ _ _ h => h) (Or.inl ⟨by rfl, fun W hW => by first | (obtain ⟨q0, q1⟩ := hW; go_simp <;> rfl) | (obtain ⟨q0, q1⟩ := hW; go_simp; done)⟩) K1 ?_
    (try simp only [Act.put, List.setIfInBounds_toArray, List.set_cons_zero, List.set_cons_succ])
    refine wpAnyM.takeT (i := 7) (v := _) (some 13) rfl rfl (by kernel_rfl) (by kernel_rfl) (by kernel_rfl) (by kernel_rfl) (by kernel_rfl) (fun _ _ _ h => h) (Or.inr ⟨by rfl, rfl⟩) K1 ?_
    (try simp only [Act.put, List.setIfInBounds_toArray, List.set_cons_zero, List.set_cons_succ])
    refine wpAnyM.takeT (i := 8) (v := _) (some 14) rfl rfl (by kernel_rfl) (by kernel_rfl) (by kernel_rfl) (by kernel_rfl) (by kernel_rfl) (fun _ _ _ h => h) (Or.inr ⟨by rfl, rfl⟩) K1 ?_
    (try simp only [Act.put, List.setIfInBounds_toArray, List.set_cons_zero, List.set_cons_succ])
    refine wpAnyM.takeT (i := 9) (v := _) (some 15) rfl rfl (by kernel_rfl) (by kernel_rfl) (by kernel_rfl) (by kernel_rfl) (by kernel_rfl) (fun _ _ _ h => h) (Or.inr ⟨by rfl, rfl⟩) K1 ?_
    (try simp only [Act.put, List.setIfInBounds_toArray, List.set_cons_zero, List.set_cons_succ])
    refine wpAnyM.takeT (i := 10) (v := _) (some 16) rfl rfl (by kernel_rfl) (by kernel_rfl) (by kernel_rfl) (by kernel_rfl) (by kernel_rfl) (fun _ _ _ h => h) (Or.inr ⟨by rfl, rfl⟩) K1 ?_
    (try simp only [Act.put, List.setIfInBounds_toArray, List.set_cons_zero, List.set_cons_succ])
    refine wpAnyM.takeT (i := 11) (v := _) (some 17) rfl rfl (by kernel_rfl) (by kernel_rfl) (by kernel_rfl) (by kernel_rfl) (by kernel_rfl) (fun _ _ _ h => h) (Or.inr ⟨by rfl, rfl⟩) K1 ?_
    (try simp only [Act.put, List.setIfInBounds_toArray, List.set_cons_zero, List.set_cons_succ])
    refine wpAnyM.takeT (i := 12) (v := _) (some 18) rfl rfl (by kernel_rfl) (by kernel_rfl) (by kernel_rfl) (by kernel_rfl) (by kernel_rfl) (fun _ _ _ h => h) (Or.inr ⟨by rfl, rfl⟩) K1 ?_
    (try simp only [Act.put, List.setIfInBounds_toArray, List.set_cons_zero, List.set_cons_succ])
    refine wpAnyM.takeT (i := 13) (v := _) (some 19) rfl rfl (by kernel_rfl) (by kernel_rfl) (by kernel_rfl) (by kernel_rfl) (by kernel_rfl) (fun _ _ _ h => h) (Or.inr ⟨by rfl, rfl⟩) K1 ?_
    (try simp only [Act.put, List.setIfInBounds_toArray, List.set_cons_zero, List.set_cons_succ])
    refine wpAnyM.takeT (i := 14) (v := _) (some 20) rfl rfl (by kernel_rfl) (by kernel_rfl) (by kernel_rfl) (by kernel_rfl) (by kernel_rfl) (fun _ _ _ h => h) (Or.inr ⟨by rfl, rfl⟩) K1 ?_
    (try simp only [Act.put, List.setIfInBounds_toArray, List.set_cons_zero, List.set_cons_succ])
    refine wpAnyM.takeT (i := 15) (v := _) (some 21) rfl rfl (by kernel_rfl) (by kernel_rfl) (by kernel_rfl) (by kernel_rfl) (by kernel_rfl) (fun _ _ _ h => h) (Or.inl ⟨by rfl, fun W hW => by first | (obtain ⟨q0, q1⟩ := hW; go_simp <;> rfl) | (obtain ⟨q0, q1⟩ := hW; go_simp; done)⟩) K1 ?_
    (try simp only [Act.put, List.setIfInBounds_toArray, List.set_cons_zero, List.set_cons_succ])
    refine wpAnyM.done (by kernel_rfl) ?_ _
    go_wp2
    go_ret2
    exact ⟨rfl, c, H.out.2.kn (Step.rf.drewN 1), Step.refl.drewN 1, H.out.1.drewN 1⟩
  · have y3 := fun n => rtop_any (h.kn (Step.rf.drewN n))
    have hp : 0 < s.l.length := List.length_pos_iff.2 hl
    have z1 : ((s.l.length : Int) == 0) = false := by simp; omega
    have hlo1 := g.low.1
    have hlo2 := g.low.2
    have hwr : IntKind.i64.wrap (s.low + 1) = s.low + 1 := IntWalk.i64_in _ (by omega)
    by_cases ht : topL s.l = s.low + 1
    · have e1 : splitE s = 11 := by simp [splitE, ht]
      have e2 : splitS s = s := by simp [splitS, ht]
      have e3 : splitH s = 0 := by simp [splitH, ht]
      rw [e1, e2, e3]
      have H := Lib.hid (And.intro hok h)
      have hb : (topL s.l == s.low + 1) = true := by simpa using ht
      clear hok h e1 e2 e3 hl g ht hp hlen
      go_enter Try.func66, Try.ntmps66
      go_wp2_with fail
      have K1 : (fun W => W.cell? ⟨b, 0, none⟩ = some (.int .i64 s.low) ∧ W.cell? ⟨b, 3, none⟩ = some (.slice va s.l.length vc)) w.drew := ⟨h0, hv⟩
      refine region_planM (fun W => W.cell? ⟨b, 0, none⟩ = some (.int .i64 s.low) ∧ W.cell? ⟨b, 3, none⟩ = some (.slice va s.l.length vc)) (fun _ => true) (by kernel_rfl) ?_
      refine wpAnyM.takeT (i := 0) (v := _) (some 6) rfl rfl (by kernel_rfl) (by kernel_rfl) (by kernel_rfl) (by kernel_rfl) (by kernel_rfl) (fun _ _ _ h => h) (Or.inl ⟨by rfl, fun W hW => by first | (obtain ⟨q0, q1⟩ := hW; go_simp <;> rfl) | (obtain ⟨q0, q1⟩ := hW; go_simp; done)⟩) K1 ?_
      (try simp only [Act.put, List.setIfInBounds_toArray, List.set_cons_zero, List.set_cons_succ])
      refine wpAnyM.takeT (i := 1) (v := _) (some 7) rfl rfl (by kernel_rfl) (by kernel_rfl) (by kernel_rfl) (by kernel_rfl) (by kernel_rfl) (fun _ _ _ h => h) (Or.inl ⟨by rfl, fun W hW => by first | (obtain ⟨q0, q1⟩ := hW; go_simp <;> rfl) | (obtain ⟨q0, q1⟩ := hW; go_simp; done)⟩) K1 ?_
      (try simp only [Act.put, List.setIfInBounds_toArray, List.set_cons_zero, List.set_cons_succ])
      refine wpAnyM.takeT (i := 2) (v := _) (some 8) rfl rfl (by kernel_rfl) (by kernel_rfl) (by kernel_rfl) (by kernel_rfl) (by kernel_rfl) (fun _ _ _ h => h) (Or.inl ⟨by rfl, fun W hW => by first | (obtain ⟨q0, q1⟩ := hW; go_simp <;> rfl) | (obtain ⟨q0, q1⟩ := hW; go_simp; done)⟩) K1 ?_
      (try simp only [Act.put, List.setIfInBounds_toArray, List.set_cons_zero, List.set_cons_succ])
      refine wpAnyM.takeT (i := 3) (v := _) (some 9) rfl rfl (by kernel_rfl) (by kernel_rfl) (by kernel_rfl) (by kernel_rfl) (by kernel_rfl) (fun _ _ _ h => h) (Or.inl ⟨by rfl, fun W hW => by first | (obtain ⟨q0, q1⟩ := hW; go_simp <;> rfl) | (obtain ⟨q0, q1⟩ := hW; go_simp; done)⟩) K1 ?_
      (try simp only [Act.put, List.setIfInBounds_toArray, List.set_cons_zero, List.set_cons_succ])
      refine wpAnyM.takeT (i := 4) (v := _) (some 10) rfl rfl (by kernel_rfl) (by kernel_rfl) (by kernel_rfl) (by kernel_rfl) (by kernel_rfl) (fun _ _ _ h => h) (Or.inl ⟨by rfl, fun W hW => by first | (obtain ⟨q0, q1⟩ := hW; go_simp <;> rfl) | (obtain ⟨q0, q1⟩ := hW; go_simp; done)⟩) K1 ?_
      (try simp only [Act.put, List.setIfInBounds_toArray, List.set_cons_zero, List.set_cons_succ])
      refine wpAnyM.takeT (i := 5) (v := _) (some 11) rfl rfl (by kernel_rfl) (by kernel_rfl) (by kernel_rfl) (by kernel_rfl) (by kernel_rfl) (fun _ _ _ h => h) (Or.inl ⟨by rfl, fun W hW => by first | (obtain ⟨q0, q1⟩ := hW; go_simp <;> rfl) | (obtain ⟨q0, q1⟩ := hW; go_simp; done)⟩) K1 ?_
      (try simp only [Act.put, List.setIfInBounds_toArray, List.set_cons_zero, List.set_cons_succ])
      refine wpAnyM.takeT (i := 6) (v := _) (some 12) rfl rfl (by kernel_rfl) (by kernel_rfl) (by kernel_rfl) (by kernel_rfl) (by kernel_rfl) (fun _ _ _ h => h) (Or.inl ⟨by rfl, fun W hW => by first | (obtain ⟨q0, q1⟩ := hW; go_simp <;> rfl) | (obtain ⟨q0, q1⟩ := hW; go_simp; done)⟩) K1 ?_
      (try simp only [Act.put, List.setIfInBounds_toArray, List.set_cons_zero, List.set_cons_succ])
      refine wpAnyM.takeT (i := 7) (v := _) (some 13) rfl rfl (by kernel_rfl) (by kernel_rfl) (by kernel_rfl) (by kernel_rfl) (by kernel_rfl) (fun _ _ _ h => h) (Or.inl ⟨by rfl, fun W hW => by first | (obtain ⟨q0, q1⟩ := hW; go_simp <;> rfl) | (obtain ⟨q0, q1⟩ := hW; go_simp; done)⟩) K1 ?_
      (try simp only [Act.put, List.setIfInBounds_toArray, List.set_cons_zero, List.set_cons_succ])
      refine wpAnyM.takeT (i := 9) (v := _) (some 15) rfl rfl (by kernel_rfl) (by kernel_rfl) (by kernel_rfl) (by kernel_rfl) (by kernel_rfl) (fun _ _ _ h => h) (Or.inl ⟨by rfl, fun W hW => by first | (obtain ⟨q0, q1⟩ := hW; go_simp <;> rfl) | (obtain ⟨q0, q1⟩ := hW; go_simp; done)⟩) K1 ?_
      (try simp only [Act.put, List.setIfInBounds_toArray, List.set_cons_zero, List.set_cons_succ])
      refine wpAnyM.takeT (i := 10) (v := _) (some 16) rfl rfl (by kernel_rfl) (by kernel_rfl) (by kernel_rfl) (by kernel_rfl) (by kernel_rfl) (fun _ _ _ h => h) (Or.inl ⟨by rfl, fun W hW => by first | (obtain ⟨q0, q1⟩ := hW; go_simp <;> rfl) | (obtain ⟨q0, q1⟩ := hW; go_simp; done)⟩) K1 ?_
      (try simp only [Act.put, List.setIfInBounds_toArray, List.set_cons_zero, List.set_cons_succ])
      refine wpAnyM.takeT (i := 11) (v := _) (some 17) rfl rfl (by kernel_rfl) (by kernel_rfl) (by kernel_rfl) (by kernel_rfl) (by kernel_rfl) (fun _ _ _ h => h) (Or.inl ⟨by rfl, fun W hW => by first | (obtain ⟨q0, q1⟩ := hW; go_simp <;> rfl) | (obtain ⟨q0, q1⟩ := hW; go_simp; done)⟩) K1 ?_
      (try simp only [Act.put, List.setIfInBounds_toArray, List.set_cons_zero, List.set_cons_succ])
      refine wpAnyM.takeT (i := 12) (v := _) (some 18) rfl rfl (by kernel_rfl) (by kernel_rfl) (by kernel_rfl) (by kernel_rfl) (by kernel_rfl) (fun _ _ _ h => h) (Or.inl ⟨by rfl, fun W hW => by first | (obtain ⟨q0, q1⟩ := hW; go_simp <;> rfl) | (obtain ⟨q0, q1⟩ := hW; go_simp; done)⟩) K1 ?_
      (try simp only [Act.put, List.setIfInBounds_toArray, List.set_cons_zero, List.set_cons_succ])
      refine wpAnyM.takeT (i := 13) (v := _) (some 19) rfl rfl (by kernel_rfl) (by kernel_rfl) (by kernel_rfl) (by kernel_rfl) (by kernel_rfl) (fun _ _ _ h => h) (Or.inl ⟨by rfl, fun W hW => by first | (obtain ⟨q0, q1⟩ := hW; go_simp <;> rfl) | (obtain ⟨q0, q1⟩ := hW; go_simp; done)⟩) K1 ?_
      (try simp only [Act.put, List.setIfInBounds_toArray, List.set_cons_zero, List.set_cons_succ])
      refine wpAnyM.one (i := 8) (by kernel_rfl) rfl (fun KQ hK => ?_)
      go_simp
      refine (y3 1).mono ?_
      rintro e w3 ⟨rfl, n, rfl⟩
      have K2 : ((w.drewN 1).drewN n).cell? ⟨b, 0, none⟩ = some (.int .i64 s.low) ∧ ((w.drewN 1).drewN n).cell? ⟨b, 3, none⟩ = some (.slice va s.l.length vc) := ⟨h0, hv⟩
      refine hK.out _ _ (fun _ => K2) ?_
      clear hK KQ
      (try simp only [Act.put, List.setIfInBounds_toArray, List.set_cons_zero, List.set_cons_succ])
      refine wpAnyM.takeT (i := 14) (v := _) (some 20) rfl rfl (by kernel_rfl) (by kernel_rfl) (by kernel_rfl) (by kernel_rfl) (by kernel_rfl) (fun _ _ _ h => h) (Or.inl ⟨by rfl, fun W hW => by first | (obtain ⟨q0, q1⟩ := hW; go_simp <;> rfl) | (obtain ⟨q0, q1⟩ := hW; go_simp; done)⟩) K2 ?_
      (try simp only [Act.put, List.setIfInBounds_toArray, List.set_cons_zero, List.set_cons_succ])
      refine wpAnyM.takeT (i := 15) (v := _) (some 21) rfl rfl (by kernel_rfl) (by kernel_rfl) (by kernel_rfl) (by kernel_rfl) (by kernel_rfl) (fun _ _ _ h => h) (Or.inl ⟨by rfl, fun W hW => by first | (obtain ⟨q0, q1⟩ := hW; go_simp <;> rfl) | (obtain ⟨q0, q1⟩ := hW; go_simp; done)⟩) K2 ?_
      (try simp only [Act.put, List.setIfInBounds_toArray, List.set_cons_zero, List.set_cons_succ])
      refine wpAnyM.done (by kernel_rfl) ?_ _
      go_wp2
      go_ret2
      exact ⟨rfl, c, H.out.2.kn (Step.rf.drewN (1 + n)), Step.refl.drewN (1 + n), H.out.1.drewN (1 + n)⟩
    · have e1 : splitE s = 0 := by simp [splitE, ht, hl]
      have e2 : splitS s = { s with l := s.l ++ [mid s.low (topL s.l)] } := by simp [splitS, ht, hl]
      have e3 : splitH s = mid s.low (topL s.l) := by simp [splitH, ht, hl]
      rw [e1, e2, e3]
      have hb : (topL s.l == s.low + 1) = false := by simpa using ht
      have htp := g.top hl
      have y5 := fun W => rpivot_ok s.low (topL s.l) W g.low htp.1 htp.2
      have hm := mid_lt htp.2 ht
      have hpe : pushE s (mid s.low (topL s.l)) = 0 := by simp only [pushE, hl, if_false]; rw [if_neg (by omega)]
      have hps : pushS s (mid s.low (topL s.l)) = { s with l := s.l ++ [mid s.low (topL s.l)] } := by simp [pushS, hpe]
      have y4 := fun n => rpush_any (hok.drewN n) (h.kn (Step.rf.drewN n)) hk0 hkr (mid s.low (topL s.l)) (isH.has (h := mid s.low (topL s.l)) ⟨by have := g.low.1; omega, by have := htp.1.2; omega⟩) hlen
      rw [hpe, hps] at y4
      clear hok h e1 e2 e3 hl g ht htp hm hkr hk0 hpe hps hlen hp
      go_enter Try.func66, Try.ntmps66
      go_wp2_with fail
      have K1 : (fun W => W.cell? ⟨b, 0, none⟩ = some (.int .i64 s.low) ∧ W.cell? ⟨b, 3, none⟩ = some (.slice va s.l.length vc)) w.drew := ⟨h0, hv⟩
      refine region_planM (fun W => W.cell? ⟨b, 0, none⟩ = some (.int .i64 s.low) ∧ W.cell? ⟨b, 3, none⟩ = some (.slice va s.l.length vc)) (fun _ => true) (by kernel_rfl) ?_
      refine wpAnyM.takeT (i := 0) (v := _) (some 6) rfl rfl (by kernel_rfl) (by kernel_rfl) (by kernel_rfl) (by kernel_rfl) (by kernel_rfl) (fun _ _ _ h => h) (Or.inl ⟨by rfl, fun W hW => by first | (obtain ⟨q0, q1⟩ := hW; go_simp <;> rfl) | (obtain ⟨q0, q1⟩ := hW; go_simp; done)⟩) K1 ?_
      (try simp only [Act.put, List.setIfInBounds_toArray, List.set_cons_zero, List.set_cons_succ])
      refine wpAnyM.takeT (i := 1) (v := _) (some 7) rfl rfl (by kernel_rfl) (by kernel_rfl) (by kernel_rfl) (by kernel_rfl) (by kernel_rfl) (fun _ _ _ h => h) (Or.inl ⟨by rfl, fun W hW => by first | (obtain ⟨q0, q1⟩ := hW; go_simp <;> rfl) | (obtain ⟨q0, q1⟩ := hW; go_simp; done)⟩) K1 ?_
      (try simp only [Act.put, List.setIfInBounds_toArray, List.set_cons_zero, List.set_cons_succ])
      refine wpAnyM.takeT (i := 2) (v := _) (some 8) rfl rfl (by kernel_rfl) (by kernel_rfl) (by kernel_rfl) (by kernel_rfl) (by kernel_rfl) (fun _ _ _ h => h) (Or.inl ⟨by rfl, fun W hW => by first | (obtain ⟨q0, q1⟩ := hW; go_simp <;> rfl) | (obtain ⟨q0, q1⟩ := hW; go_simp; done)⟩) K1 ?_
      (try simp only [Act.put, List.setIfInBounds_toArray, List.set_cons_zero, List.set_cons_succ])
      refine wpAnyM.takeT (i := 3) (v := _) (some 9) rfl rfl (by kernel_rfl) (by kernel_rfl) (by kernel_rfl) (by kernel_rfl) (by kernel_rfl) (fun _ _ _ h => h) (Or.inl ⟨by rfl, fun W hW => by first | (obtain ⟨q0, q1⟩ := hW; go_simp <;> rfl) | (obtain ⟨q0, q1⟩ := hW; go_simp; done)⟩) K1 ?_
      (try simp only [Act.put, List.setIfInBounds_toArray, List.set_cons_zero, List.set_cons_succ])
      refine wpAnyM.takeT (i := 4) (v := _) (some 10) rfl rfl (by kernel_rfl) (by kernel_rfl) (by kernel_rfl) (by kernel_rfl) (by kernel_rfl) (fun _ _ _ h => h) (Or.inl ⟨by rfl, fun W hW => by first | (obtain ⟨q0, q1⟩ := hW; go_simp <;> rfl) | (obtain ⟨q0, q1⟩ := hW; go_simp; done)⟩) K1 ?_
      (try simp only [Act.put, List.setIfInBounds_toArray, List.set_cons_zero, List.set_cons_succ])
      refine wpAnyM.takeT (i := 5) (v := _) (some 11) rfl rfl (by kernel_rfl) (by kernel_rfl) (by kernel_rfl) (by kernel_rfl) (by kernel_rfl) (fun _ _ _ h => h) (Or.inl ⟨by rfl, fun W hW => by first | (obtain ⟨q0, q1⟩ := hW; go_simp <;> rfl) | (obtain ⟨q0, q1⟩ := hW; go_simp; done)⟩) K1 ?_
      (try simp only [Act.put, List.setIfInBounds_toArray, List.set_cons_zero, List.set_cons_succ])
      refine wpAnyM.takeT (i := 6) (v := _) (some 12) rfl rfl (by kernel_rfl) (by kernel_rfl) (by kernel_rfl) (by kernel_rfl) (by kernel_rfl) (fun _ _ _ h => h) (Or.inl ⟨by rfl, fun W hW => by first | (obtain ⟨q0, q1⟩ := hW; go_simp <;> rfl) | (obtain ⟨q0, q1⟩ := hW; go_simp; done)⟩) K1 ?_
      (try simp only [Act.put, List.setIfInBounds_toArray, List.set_cons_zero, List.set_cons_succ])
      refine wpAnyM.takeT (i := 7) (v := _) (some 13) rfl rfl (by kernel_rfl) (by kernel_rfl) (by kernel_rfl) (by kernel_rfl) (by kernel_rfl) (fun _ _ _ h => h) (Or.inl ⟨by rfl, fun W hW => by first | (obtain ⟨q0, q1⟩ := hW; go_simp <;> rfl) | (obtain ⟨q0, q1⟩ := hW; go_simp; done)⟩) K1 ?_
      (try simp only [Act.put, List.setIfInBounds_toArray, List.set_cons_zero, List.set_cons_succ])
      refine wpAnyM.takeT (i := 9) (v := _) (some 15) rfl rfl (by kernel_rfl) (by kernel_rfl) (by kernel_rfl) (by kernel_rfl) (by kernel_rfl) (fun _ _ _ h => h) (Or.inl ⟨by rfl, fun W hW => by first | (obtain ⟨q0, q1⟩ := hW; go_simp <;> rfl) | (obtain ⟨q0, q1⟩ := hW; go_simp; done)⟩) K1 ?_
      (try simp only [Act.put, List.setIfInBounds_toArray, List.set_cons_zero, List.set_cons_succ])
      refine wpAnyM.takeT (i := 10) (v := _) (some 16) rfl rfl (by kernel_rfl) (by kernel_rfl) (by kernel_rfl) (by kernel_rfl) (by kernel_rfl) (fun _ _ _ h => h) (Or.inl ⟨by rfl, fun W hW => by first | (obtain ⟨q0, q1⟩ := hW; go_simp <;> rfl) | (obtain ⟨q0, q1⟩ := hW; go_simp; done)⟩) K1 ?_
      (try simp only [Act.put, List.setIfInBounds_toArray, List.set_cons_zero, List.set_cons_succ])
      refine wpAnyM.takeT (i := 11) (v := _) (some 17) rfl rfl (by kernel_rfl) (by kernel_rfl) (by kernel_rfl) (by kernel_rfl) (by kernel_rfl) (fun _ _ _ h => h) (Or.inl ⟨by rfl, fun W hW => by first | (obtain ⟨q0, q1⟩ := hW; go_simp <;> rfl) | (obtain ⟨q0, q1⟩ := hW; go_simp; done)⟩) K1 ?_
      (try simp only [Act.put, List.setIfInBounds_toArray, List.set_cons_zero, List.set_cons_succ])
      refine wpAnyM.takeT (i := 12) (v := _) (some 18) rfl rfl (by kernel_rfl) (by kernel_rfl) (by kernel_rfl) (by kernel_rfl) (by kernel_rfl) (fun _ _ _ h => h) (Or.inl ⟨by rfl, fun W hW => by first | (obtain ⟨q0, q1⟩ := hW; go_simp <;> rfl) | (obtain ⟨q0, q1⟩ := hW; go_simp; done)⟩) K1 ?_
      (try simp only [Act.put, List.setIfInBounds_toArray, List.set_cons_zero, List.set_cons_succ])
      refine wpAnyM.takeT (i := 13) (v := _) (some 19) rfl rfl (by kernel_rfl) (by kernel_rfl) (by kernel_rfl) (by kernel_rfl) (by kernel_rfl) (fun _ _ _ h => h) (Or.inl ⟨by rfl, fun W hW => by first | (obtain ⟨q0, q1⟩ := hW; go_simp <;> rfl) | (obtain ⟨q0, q1⟩ := hW; go_simp; done)⟩) K1 ?_
      (try simp only [Act.put, List.setIfInBounds_toArray, List.set_cons_zero, List.set_cons_succ])
      refine wpAnyM.one (i := 8) (by kernel_rfl) rfl (fun KQ hK => ?_)
      go_simp
      refine (y3 1).mono ?_
      rintro e w3 ⟨rfl, n, rfl⟩
      have K2 : ((w.drewN 1).drewN n).cell? ⟨b, 0, none⟩ = some (.int .i64 s.low) ∧ ((w.drewN 1).drewN n).cell? ⟨b, 3, none⟩ = some (.slice va s.l.length vc) := ⟨h0, hv⟩
      refine hK.out _ _ (fun _ => K2) ?_
      clear hK KQ
      (try simp only [Act.put, List.setIfInBounds_toArray, List.set_cons_zero, List.set_cons_succ])
      refine wpAnyM.takeT (i := 14) (v := _) (some 20) rfl rfl (by kernel_rfl) (by kernel_rfl) (by kernel_rfl) (by kernel_rfl) (by kernel_rfl) (fun _ _ _ h => h) (Or.inl ⟨by rfl, fun W hW => by first | (obtain ⟨q0, q1⟩ := hW; go_simp <;> rfl) | (obtain ⟨q0, q1⟩ := hW; go_simp; done)⟩) K2 ?_
      (try simp only [Act.put, List.setIfInBounds_toArray, List.set_cons_zero, List.set_cons_succ])
      refine wpAnyM.takeT (i := 15) (v := _) (some 21) rfl rfl (by kernel_rfl) (by kernel_rfl) (by kernel_rfl) (by kernel_rfl) (by kernel_rfl) (fun _ _ _ h => h) (Or.inl ⟨by rfl, fun W hW => by first | (obtain ⟨q0, q1⟩ := hW; go_simp <;> rfl) | (obtain ⟨q0, q1⟩ := hW; go_simp; done)⟩) K2 ?_
      (try simp only [Act.put, List.setIfInBounds_toArray, List.set_cons_zero, List.set_cons_succ])
      refine wpAnyM.done (by kernel_rfl) ?_ _
      go_wp2_with fail
      have K3 : (fun W => W.cell? ⟨b, 0, none⟩ = some (.int .i64 s.low)) (w.drewN (1 + n)).drew := h0
      refine region_planM (fun W => W.cell? ⟨b, 0, none⟩ = some (.int .i64 s.low)) (fun _ => true) (by kernel_rfl) ?_
      refine wpAnyM.takeT (i := 0) (v := _) (some 23) rfl rfl (by kernel_rfl) (by kernel_rfl) (by kernel_rfl) (by kernel_rfl) (by kernel_rfl) (fun _ _ _ h => h) (Or.inl ⟨by rfl, fun W hW => by first | (obtain q0 := hW; go_simp <;> rfl) | (obtain q0 := hW; go_simp; done)⟩) K3 ?_
      (try simp only [Act.put, List.setIfInBounds_toArray, List.set_cons_zero, List.set_cons_succ])
      refine wpAnyM.takeT (i := 1) (v := _) (some 24) rfl rfl (by kernel_rfl) (by kernel_rfl) (by kernel_rfl) (by kernel_rfl) (by kernel_rfl) (fun _ _ _ h => h) (Or.inl ⟨by rfl, fun W hW => by first | (obtain q0 := hW; go_simp <;> rfl) | (obtain q0 := hW; go_simp; done)⟩) K3 ?_
      (try simp only [Act.put, List.setIfInBounds_toArray, List.set_cons_zero, List.set_cons_succ])
      refine wpAnyM.takeT (i := 2) (v := _) (some 25) rfl rfl (by kernel_rfl) (by kernel_rfl) (by kernel_rfl) (by kernel_rfl) (by kernel_rfl) (fun _ _ _ h => h) (Or.inl ⟨by rfl, fun W hW => by first | (obtain q0 := hW; go_simp <;> rfl) | (obtain q0 := hW; go_simp; done)⟩) K3 ?_
      (try simp only [Act.put, List.setIfInBounds_toArray, List.set_cons_zero, List.set_cons_succ])
      refine wpAnyM.takeT (i := 3) (v := _) (some 26) rfl rfl (by kernel_rfl) (by kernel_rfl) (by kernel_rfl) (by kernel_rfl) (by kernel_rfl) (fun _ _ _ h => h) (Or.inl ⟨by rfl, fun W hW => by first | (obtain q0 := hW; go_simp <;> rfl) | (obtain q0 := hW; go_simp; done)⟩) K3 ?_
      (try simp only [Act.put, List.setIfInBounds_toArray, List.set_cons_zero, List.set_cons_succ])
      refine wpAnyM.takeT (i := 4) (v := _) (some 27) rfl rfl (by kernel_rfl) (by kernel_rfl) (by kernel_rfl) (by kernel_rfl) (by kernel_rfl) (fun _ _ _ h => h) (Or.inl ⟨by rfl, fun W hW => by first | (obtain q0 := hW; go_simp <;> rfl) | (obtain q0 := hW; go_simp; done)⟩) K3 ?_
      (try simp only [Act.put, List.setIfInBounds_toArray, List.set_cons_zero, List.set_cons_succ])
      refine wpAnyM.one (i := 5) (by kernel_rfl) rfl (fun KQ hK => ?_)
      go_simp
      refine (y3 (1 + n + 1)).mono ?_
      rintro e w4 ⟨rfl, n2, rfl⟩
      have K4 : ((w.drewN (1 + n + 1)).drewN n2).cell? ⟨b, 0, none⟩ = some (.int .i64 s.low) := h0
      refine hK.out _ _ (fun _ => K4) ?_
      clear hK KQ
      (try simp only [Act.put, List.setIfInBounds_toArray, List.set_cons_zero, List.set_cons_succ])
      refine wpAnyM.one (i := 6) (by kernel_rfl) rfl (fun KQ hK => ?_)
      go_simp
      refine (y5 _).mono ?_
      rintro e w5 ⟨rfl, rfl⟩
      refine hK.out _ _ (fun _ => K4) ?_
      clear hK KQ
      (try simp only [Act.put, List.setIfInBounds_toArray, List.set_cons_zero, List.set_cons_succ])
      refine wpAnyM.takeT (i := 7) (v := _) (some 22) rfl rfl (by kernel_rfl) (by kernel_rfl) (by kernel_rfl) (by kernel_rfl) (by kernel_rfl) (fun _ _ _ h => h) (Or.inl ⟨by rfl, fun W hW => by first | (obtain q0 := hW; go_simp <;> rfl) | (obtain q0 := hW; go_simp; done)⟩) K4 ?_
      (try simp only [Act.put, List.setIfInBounds_toArray, List.set_cons_zero, List.set_cons_succ])
      refine wpAnyM.takeT (i := 8) (v := _) (some 30) rfl rfl (by kernel_rfl) (by kernel_rfl) (by kernel_rfl) (by kernel_rfl) (by kernel_rfl) (fun _ _ _ h => h) (Or.inl ⟨by rfl, fun W hW => by first | (obtain q0 := hW; go_simp <;> rfl) | (obtain q0 := hW; go_simp; done)⟩) K4 ?_
      (try simp only [Act.put, List.setIfInBounds_toArray, List.set_cons_zero, List.set_cons_succ])
      refine wpAnyM.takeT (i := 9) (v := _) (some 31) rfl rfl (by kernel_rfl) (by kernel_rfl) (by kernel_rfl) (by kernel_rfl) (by kernel_rfl) (fun _ _ _ h => h) (Or.inl ⟨by rfl, fun W hW => by first | (obtain q0 := hW; go_simp <;> rfl) | (obtain q0 := hW; go_simp; done)⟩) K4 ?_
      (try simp only [Act.put, List.setIfInBounds_toArray, List.set_cons_zero, List.set_cons_succ])
      refine wpAnyM.one (i := 10) (by kernel_rfl) rfl (fun KQ hK => ?_)
      go_simp
      refine hK.out _ _ (fun _ => K4) ?_
      clear hK KQ
      (try simp only [Act.put, List.setIfInBounds_toArray, List.set_cons_zero, List.set_cons_succ])
      refine wpAnyM.one (i := 11) (by kernel_rfl) rfl (fun KQ hK => ?_)
      go_simp
      refine hK.out _ _ (fun _ => K4) ?_
      clear hK KQ
      (try simp only [Act.put, List.setIfInBounds_toArray, List.set_cons_zero, List.set_cons_succ])
      refine wpAnyM.done (by kernel_rfl) ?_ _
      go_wp2_with fail
      refine (y4 (1 + n + 1 + n2)).mono ?_
      rintro e w6 ⟨rfl, c', p1, p2, p3⟩
      go_wp2
      go_ret2
      exact ⟨rfl, c', p1, (Step.refl.drewN (1 + n + 1 + n2)).trans p2, p3⟩

theorem rnewst_range (r t : Int) (w : World) (h : ¬ (isH r ∧ isH t)) : Calls Try.prog 39 #[.int .i64 r, .int .i64 t] w fun e w' => e = .returned (.tuple #[.pointer none, .int .i64 3]) ∧ w = w' := by
  have y1 := rpivot_range r t w h
  clear h
  go_enter Try.func39, Try.ntmps39
  go_wp2_with fail
  with_reducible refine y1.mono ?_
  rintro e w1 ⟨rfl, rfl⟩
  go_wp2
  go_ret2
  exact ⟨rfl, rfl⟩

theorem rnewst_height (r t : Int) (w : World) (ha : isH r) (hb : isH t) (h : t ≤ r) : Calls Try.prog 39 #[.int .i64 r, .int .i64 t] w fun e w' => e = .returned (.tuple #[.pointer none, .int .i64 13]) ∧ w = w' := by
  have y1 := rpivot_height r t w ha hb h
  clear h ha hb
  go_enter Try.func39, Try.ntmps39
  go_wp2_with fail
  with_reducible refine y1.mono ?_
  rintro e w1 ⟨rfl, rfl⟩
  go_wp2
  go_ret2
  exact ⟨rfl, rfl⟩

theorem rnewst_ok (hok : Ok c w) (r t : Int) (ha : isH r) (hb : isH t) (h : r < t) (k kr : Nat) :
    Calls Try.prog 39 #[.int .i64 r, .int .i64 t] w fun e w' => ∃ b, e = .returned (.tuple #[.pointer (some ⟨b, 0, none⟩), .int .i64 0]) ∧ ∃ c', IsSt c' k kr w' b (newS r t) ∧ Step No c w c' w' ∧ Ok c' w' ∧ w.heap.size ≤ b := by
  have y1 := rpivot_ok r t w ha hb h
  obtain ⟨n1, n2, n3⟩ := Own.new (TInt .i64) 3 hok kr 0 [[.int .i64 t]] [t] rfl (by simp [maxLen]) (fun i x hi => by
    have h0 : i = 0 := by have := (List.getElem?_eq_some_iff.1 hi).1; simp at this; omega
    subst h0; simp at hi; subst hi; exact ⟨_, rfl, rfl, hb.has⟩) (by simp [TInt])
  have n1' : Own (TInt .i64) 3 (c.put w.heap.size kr) kr 0 (w.alloc (.cells #[.int .i64 t] 3)) (.slice (some ⟨w.heap.size, 0, none⟩) 1 1) [t] := n1
  have n2' : Ok (c.put w.heap.size kr) (w.alloc (.cells #[.int .i64 t] 3)) := n2
  have n3' : Step No c w (c.put w.heap.size kr) (w.alloc (.cells #[.int .i64 t] 3)) := n3
  obtain ⟨a1, o1, s1⟩ := newAt n2' [.int .i64 r, .int .i64 r, .int .i64 t, .slice (some ⟨w.heap.size, 0, none⟩) 1 1] 75 k
  rw [World.size_alloc] at a1 o1 s1
  have H := Lib.hid (And.intro a1 (And.intro o1 (And.intro s1 (And.intro n1' n3'))))
  clear a1 o1 s1 n1 n2 n3 n1' n2' n3' ha hb h
  go_enter Try.func39, Try.ntmps39
  go_wp2_with fail
  with_reducible refine y1.mono ?_
  rintro e w1 ⟨rfl, rfl⟩
  go_wp2
  go_ret2
  obtain ⟨a1, o1, s1, n1, n3⟩ := H.out
  exact ⟨_, rfl, _, ⟨a1.col, a1.cells 0 _ rfl, a1.cells 1 _ rfl, a1.cells 2 _ rfl, _, a1.cells 3 _ rfl, n1.kn s1⟩, n3.trans s1, o1, by simp⟩
end
end Go.Proofs.Ytcagfdmafelbkaa
