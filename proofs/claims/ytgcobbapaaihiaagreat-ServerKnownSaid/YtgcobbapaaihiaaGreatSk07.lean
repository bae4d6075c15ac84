/- ServerKnown, part 07: lemmas, each with its own conditions. -/
import Derived.Test.YtgcobbapaaihiaaGreatSk06
set_option linter.unusedVariables false
set_option linter.unusedSimpArgs false
namespace Go.Proofs.YtgcobbapaaihiaaGreat
open Go.RowKit

section
variable {c : Col} {w : World}

set_option maxRecDepth 100000 in
set_option maxHeartbeats 1600000 in
theorem takeB_any (hok : Ok c w) {k p : Nat} {bs : List UInt8} {a : Nat} {f : Int × Int} (h : IsRd c k w p bs a f) (hk0 : k ≠ 0) (n : Nat) (hn : a + n ≤ bs.length) (at0 : Int) :
    Calls Tryz.prog 102 #[.pointer (some ⟨p, 0, none⟩), .int .i64 n, .int .i64 at0, .func (.func 95) #[] #[]] w fun r w' => ∃ v, r = .returned v ∧ ∃ c', Own TByte 5 c' 0 0 w' v ((bs.drop a).take n) ∧ IsRd c' k w' p bs (a + n) f ∧ Step (One k) c w c' w' ∧ Ok c' w' := by
  obtain ⟨bv, x, ow⟩ := h.row
  have hle := h.le
  have hfew := h.few
  obtain ⟨va, vc, hbv, hcap, hcase⟩ : ∃ va vc, bv = .slice va bs.length vc ∧ bs.length ≤ vc ∧ ((va = none ∧ vc = 0) ∨ ∃ g, va = some ⟨g, 0, none⟩) := by
    rcases ow.form2 with ⟨rfl, rfl⟩ | ⟨g, cap, rfl, hc⟩
    · exact ⟨none, 0, rfl, Nat.le_refl _, .inl ⟨rfl, rfl⟩⟩
    · exact ⟨_, cap, rfl, hc, .inr ⟨g, rfl⟩⟩
  subst hbv
  have y0 := x.get (i := 0) rfl
  have y1 := x.get (i := 1) rfl
  have y1f := x.fz hok hk0 1
  have hcp : c p = k := x.col
  have hd : decide ((n : Int) ≤ (bs.length : Int) - (a : Int)) = true := by simp; omega
  have hw : IntKind.i64.wrap ((bs.length : Int) - (a : Int)) = (bs.length : Int) - (a : Int) := IntWalk.i64_in _ (by omega)
  have hw2 : IntKind.i64.wrap ((a : Int) + (n : Int)) = (a : Int) + (n : Int) := IntWalk.i64_in _ (by omega)
  have hw3 : IntKind.i64.wrap (a : Int) = (a : Int) := IntWalk.i64_in _ (by omega)
  have ht : ((a : Int) + (n : Int)).toNat - a = n := by omega
  have ha0 : (0 : Int) ≤ (a : Int) := by omega
  have ha1 : (a : Int) ≤ (a : Int) + (n : Int) := by omega
  have ha2 : (a : Int) + (n : Int) ≤ (vc : Int) := by omega
  have M := must_yes w.drew 6 at0
  have m1 := h.move hk0 (a' := a + n) hn
  rw [Int.natCast_add] at m1
  have z0 : (w.setCell ⟨p, 1, none⟩ (.int .i64 ((a : Int) + (n : Int)))).drew.drew.cell? ⟨p, 0, none⟩ = some (.slice va bs.length vc) := by
    show (w.setCell ⟨p, 1, none⟩ (.int .i64 ((a : Int) + (n : Int)))).cell? ⟨p, 0, none⟩ = _
    rw [World.cell?_setCell_other _ _ _ _ (by intro e; injection e with e1 e2; cases e2)]; exact y0
  have z1 : (w.setCell ⟨p, 1, none⟩ (.int .i64 ((a : Int) + (n : Int)))).drew.drew.cell? ⟨p, 1, none⟩ = some (.int .i64 ((a : Int) + (n : Int))) :=
    World.cell?_setCell_same' _ _ _ (by rw [y1]; rfl)
  have s1 : Step (One k) c w c ((w.setCell ⟨p, 1, none⟩ (.int .i64 ((a : Int) + (n : Int)))).drewN 2) := ((Step.refl (K := One k)).setCell (a := ⟨p, 1, none⟩) (.inr x.col) _).drewN 2
  have ok1 : Ok c ((w.setCell ⟨p, 1, none⟩ (.int .i64 ((a : Int) + (n : Int)))).drewN 2) := (hok.setCell _ _).drewN 2
  have ow1 : Own TByte 5 c 0 0 ((w.setCell ⟨p, 1, none⟩ (.int .i64 ((a : Int) + (n : Int)))).drewN 2) (.slice va bs.length vc) bs := (ow.set (a := ⟨p, 1, none⟩) (by show c p ≠ 0; omega) (by show c p ≠ 0; omega) _).kn (Step.rf.drewN 2)
  have hm2 := m1.kn (Step.rf.drewN 2)
  have HH := Lib.hid (And.intro hm2 s1)
  have OK := Lib.hid ok1
  have K1 : (fun W => W.cell? ⟨p, 0, none⟩ = some (.slice va bs.length vc) ∧ W.cell? ⟨p, 1, none⟩ = some (.int .i64 a)) w.drew := ⟨y0, y1⟩
  by_cases hca : vc = a
  · have HN := Lib.hid (show n = 0 by omega)
    have hca1 : (vc = a) = True := eq_true hca
    have hva : vc - a = 0 := by omega
    clear hca
    have HL := Lib.hid (show p < ((w.setCell ⟨p, 1, none⟩ (.int .i64 ((a : Int) + (n : Int)))).drewN 2).heap.size by obtain ⟨_, xx, _⟩ := hm2.row; exact xx.lt)
    have SL : Sl TByte c 0 0 ((w.setCell ⟨p, 1, none⟩ (.int .i64 ((a : Int) + (n : Int)))).drewN 2) (.slice va n 0) ((bs.drop a).take n) := by rw [HN.out]; exact .inl ⟨by simp, _, _, rfl, Nat.zero_le _, fun _ => rfl⟩
    have B := clone_any ok1 0 SL (by rw [List.length_take, List.length_drop]; omega)
    clear x ow hok h m1 hm2 s1 ok1 ow1 SL
    go_enter Tryz.func102, Tryz.ntmps102
    go_wp2_with fail
    refine region_planM (fun W => W.cell? ⟨p, 0, none⟩ = some (.slice va bs.length vc) ∧ W.cell? ⟨p, 1, none⟩ = some (.int .i64 a)) (fun _ => true) (by kernel_rfl) ?_
    refine wpAnyM.takeT (i := 0) (v := _) (some 9) rfl rfl (by kernel_rfl) (by kernel_rfl) (by kernel_rfl) (by kernel_rfl) (by kernel_rfl) (fun _ _ _ h => h) (Or.inl ⟨by rfl, fun W hW => by first | (obtain ⟨q0, q1⟩ := hW; go_simp <;> rfl) | (obtain ⟨q0, q1⟩ := hW; go_simp; done)⟩) K1 ?_
    (try simp only [Act.put, List.setIfInBounds_toArray, List.set_cons_zero, List.set_cons_succ])
    refine wpAnyM.takeT (i := 1) (v := _) (some 10) rfl rfl (by kernel_rfl) (by kernel_rfl) (by kernel_rfl) (by kernel_rfl) (by kernel_rfl) (fun _ _ _ h => h) (Or.inl ⟨by rfl, fun W hW => by first | (obtain ⟨q0, q1⟩ := hW; go_simp <;> rfl) | (obtain ⟨q0, q1⟩ := hW; go_simp; done)⟩) K1 ?_
    (try simp only [Act.put, List.setIfInBounds_toArray, List.set_cons_zero, List.set_cons_succ])
    refine wpAnyM.takeT (i := 2) (v := _) (some 11) rfl rfl (by kernel_rfl) (by kernel_rfl) (by kernel_rfl) (by kernel_rfl) (by kernel_rfl) (fun _ _ _ h => h) (Or.inl ⟨by rfl, fun W hW => by first | (obtain ⟨q0, q1⟩ := hW; go_simp <;> rfl) | (obtain ⟨q0, q1⟩ := hW; go_simp; done)⟩) K1 ?_
    (try simp only [Act.put, List.setIfInBounds_toArray, List.set_cons_zero, List.set_cons_succ])
    refine wpAnyM.takeT (i := 3) (v := _) (some 12) rfl rfl (by kernel_rfl) (by kernel_rfl) (by kernel_rfl) (by kernel_rfl) (by kernel_rfl) (fun _ _ _ h => h) (Or.inl ⟨by rfl, fun W hW => by first | (obtain ⟨q0, q1⟩ := hW; go_simp <;> rfl) | (obtain ⟨q0, q1⟩ := hW; go_simp; done)⟩) K1 ?_
    (try simp only [Act.put, List.setIfInBounds_toArray, List.set_cons_zero, List.set_cons_succ])
    refine wpAnyM.takeT (i := 4) (v := _) (some 13) rfl rfl (by kernel_rfl) (by kernel_rfl) (by kernel_rfl) (by kernel_rfl) (by kernel_rfl) (fun _ _ _ h => h) (Or.inl ⟨by rfl, fun W hW => by first | (obtain ⟨q0, q1⟩ := hW; go_simp <;> rfl) | (obtain ⟨q0, q1⟩ := hW; go_simp; done)⟩) K1 ?_
    (try simp only [Act.put, List.setIfInBounds_toArray, List.set_cons_zero, List.set_cons_succ])
    refine wpAnyM.takeT (i := 5) (v := _) (some 14) rfl rfl (by kernel_rfl) (by kernel_rfl) (by kernel_rfl) (by kernel_rfl) (by kernel_rfl) (fun _ _ _ h => h) (Or.inl ⟨by rfl, fun W hW => by first | (obtain ⟨q0, q1⟩ := hW; go_simp <;> rfl) | (obtain ⟨q0, q1⟩ := hW; go_simp; done)⟩) K1 ?_
    (try simp only [Act.put, List.setIfInBounds_toArray, List.set_cons_zero, List.set_cons_succ])
    refine wpAnyM.takeT (i := 6) (v := _) (some 15) rfl rfl (by kernel_rfl) (by kernel_rfl) (by kernel_rfl) (by kernel_rfl) (by kernel_rfl) (fun _ _ _ h => h) (Or.inl ⟨by rfl, fun W hW => by first | (obtain ⟨q0, q1⟩ := hW; go_simp <;> rfl) | (obtain ⟨q0, q1⟩ := hW; go_simp; done)⟩) K1 ?_
    (try simp only [Act.put, List.setIfInBounds_toArray, List.set_cons_zero, List.set_cons_succ])
    refine wpAnyM.takeT (i := 7) (v := _) (some 16) rfl rfl (by kernel_rfl) (by kernel_rfl) (by kernel_rfl) (by kernel_rfl) (by kernel_rfl) (fun _ _ _ h => h) (Or.inl ⟨by rfl, fun W hW => by first | (obtain ⟨q0, q1⟩ := hW; go_simp <;> rfl) | (obtain ⟨q0, q1⟩ := hW; go_simp; done)⟩) K1 ?_
    (try simp only [Act.put, List.setIfInBounds_toArray, List.set_cons_zero, List.set_cons_succ])
    refine wpAnyM.takeT (i := 8) (v := _) (some 17) rfl rfl (by kernel_rfl) (by kernel_rfl) (by kernel_rfl) (by kernel_rfl) (by kernel_rfl) (fun _ _ _ h => h) (Or.inl ⟨by rfl, fun W hW => by first | (obtain ⟨q0, q1⟩ := hW; go_simp <;> rfl) | (obtain ⟨q0, q1⟩ := hW; go_simp; done)⟩) K1 ?_
    (try simp only [Act.put, List.setIfInBounds_toArray, List.set_cons_zero, List.set_cons_succ])
    refine wpAnyM.takeT (i := 9) (v := _) (some 18) rfl rfl (by kernel_rfl) (by kernel_rfl) (by kernel_rfl) (by kernel_rfl) (by kernel_rfl) (fun _ _ _ h => h) (Or.inl ⟨by rfl, fun W hW => by first | (obtain ⟨q0, q1⟩ := hW; go_simp <;> rfl) | (obtain ⟨q0, q1⟩ := hW; go_simp; done)⟩) K1 ?_
    (try simp only [Act.put, List.setIfInBounds_toArray, List.set_cons_zero, List.set_cons_succ])
    refine wpAnyM.takeT (i := 10) (v := _) (some 19) rfl rfl (by kernel_rfl) (by kernel_rfl) (by kernel_rfl) (by kernel_rfl) (by kernel_rfl) (fun _ _ _ h => h) (Or.inl ⟨by rfl, fun W hW => by first | (obtain ⟨q0, q1⟩ := hW; go_simp <;> rfl) | (obtain ⟨q0, q1⟩ := hW; go_simp; done)⟩) K1 ?_
    (try simp only [Act.put, List.setIfInBounds_toArray, List.set_cons_zero, List.set_cons_succ])
    refine wpAnyM.takeT (i := 11) (v := .bool true) (some 20) rfl rfl (by kernel_rfl) (by kernel_rfl) (by kernel_rfl) (by kernel_rfl) (by kernel_rfl) (fun _ _ _ h => h) (Or.inl ⟨by rfl, fun W hW => by first | (obtain ⟨q0, q1⟩ := hW; go_simp <;> rfl) | (obtain ⟨q0, q1⟩ := hW; go_simp; done)⟩) K1 ?_
    (try simp only [Act.put, List.setIfInBounds_toArray, List.set_cons_zero, List.set_cons_succ])
    refine wpAnyM.takeT (i := 12) (v := _) (some 21) rfl rfl (by kernel_rfl) (by kernel_rfl) (by kernel_rfl) (by kernel_rfl) (by kernel_rfl) (fun _ _ _ h => h) (Or.inl ⟨by rfl, fun W hW => by first | (obtain ⟨q0, q1⟩ := hW; go_simp <;> rfl) | (obtain ⟨q0, q1⟩ := hW; go_simp; done)⟩) K1 ?_
    (try simp only [Act.put, List.setIfInBounds_toArray, List.set_cons_zero, List.set_cons_succ])
    refine wpAnyM.one (i := 13) (by kernel_rfl) rfl (fun KQ hK => ?_)
    go_simp
    refine M.mono ?_
    rintro e w1 ⟨rfl, rfl⟩
    refine hK.out _ _ (fun _ => K1) ?_
    clear hK KQ
    (try simp only [Act.put, List.setIfInBounds_toArray, List.set_cons_zero, List.set_cons_succ])
    refine wpAnyM.done (by kernel_rfl) ?_ _
    go_wp2_with fail
    clear y0 y1 K1 M hd hw
    have K2 : (fun W => W.cell? ⟨p, 0, none⟩ = some (.slice va bs.length vc) ∧ W.cell? ⟨p, 1, none⟩ = some (.int .i64 ((a : Int) + (n : Int)))) (w.setCell ⟨p, 1, none⟩ (.int .i64 ((a : Int) + (n : Int)))).drew.drew := ⟨z0, z1⟩
    refine region_planM (fun W => W.cell? ⟨p, 0, none⟩ = some (.slice va bs.length vc) ∧ W.cell? ⟨p, 1, none⟩ = some (.int .i64 ((a : Int) + (n : Int)))) (fun _ => true) (by kernel_rfl) ?_
    refine wpAnyM.takeT (i := 0) (v := _) (some 31) rfl rfl (by kernel_rfl) (by kernel_rfl) (by kernel_rfl) (by kernel_rfl) (by kernel_rfl) (fun _ _ _ h => h) (Or.inl ⟨by rfl, fun W hW => by first | (obtain ⟨q0, q1⟩ := hW; go_simp <;> rfl) | (obtain ⟨q0, q1⟩ := hW; go_simp; done)⟩) K2 ?_
    (try simp only [Act.put, List.setIfInBounds_toArray, List.set_cons_zero, List.set_cons_succ])
    refine wpAnyM.takeT (i := 1) (v := _) (some 32) rfl rfl (by kernel_rfl) (by kernel_rfl) (by kernel_rfl) (by kernel_rfl) (by kernel_rfl) (fun _ _ _ h => h) (Or.inl ⟨by rfl, fun W hW => by first | (obtain ⟨q0, q1⟩ := hW; go_simp <;> rfl) | (obtain ⟨q0, q1⟩ := hW; go_simp; done)⟩) K2 ?_
    (try simp only [Act.put, List.setIfInBounds_toArray, List.set_cons_zero, List.set_cons_succ])
    refine wpAnyM.takeT (i := 2) (v := _) (some 33) rfl rfl (by kernel_rfl) (by kernel_rfl) (by kernel_rfl) (by kernel_rfl) (by kernel_rfl) (fun _ _ _ h => h) (Or.inl ⟨by rfl, fun W hW => by first | (obtain ⟨q0, q1⟩ := hW; go_simp <;> rfl) | (obtain ⟨q0, q1⟩ := hW; go_simp; done)⟩) K2 ?_
    (try simp only [Act.put, List.setIfInBounds_toArray, List.set_cons_zero, List.set_cons_succ])
    refine wpAnyM.takeT (i := 3) (v := _) (some 34) rfl rfl (by kernel_rfl) (by kernel_rfl) (by kernel_rfl) (by kernel_rfl) (by kernel_rfl) (fun _ _ _ h => h) (Or.inl ⟨by rfl, fun W hW => by first | (obtain ⟨q0, q1⟩ := hW; go_simp <;> rfl) | (obtain ⟨q0, q1⟩ := hW; go_simp; done)⟩) K2 ?_
    (try simp only [Act.put, List.setIfInBounds_toArray, List.set_cons_zero, List.set_cons_succ])
    refine wpAnyM.takeT (i := 4) (v := _) (some 35) rfl rfl (by kernel_rfl) (by kernel_rfl) (by kernel_rfl) (by kernel_rfl) (by kernel_rfl) (fun _ _ _ h => h) (Or.inl ⟨by rfl, fun W hW => by first | (obtain ⟨q0, q1⟩ := hW; go_simp <;> rfl) | (obtain ⟨q0, q1⟩ := hW; go_simp; done)⟩) K2 ?_
    (try simp only [Act.put, List.setIfInBounds_toArray, List.set_cons_zero, List.set_cons_succ])
    refine wpAnyM.takeT (i := 5) (v := _) (some 36) rfl rfl (by kernel_rfl) (by kernel_rfl) (by kernel_rfl) (by kernel_rfl) (by kernel_rfl) (fun _ _ _ h => h) (Or.inl ⟨by rfl, fun W hW => by first | (obtain ⟨q0, q1⟩ := hW; go_simp <;> rfl) | (obtain ⟨q0, q1⟩ := hW; go_simp; done)⟩) K2 ?_
    (try simp only [Act.put, List.setIfInBounds_toArray, List.set_cons_zero, List.set_cons_succ])
    refine wpAnyM.takeT (i := 6) (v := _) (some 37) rfl rfl (by kernel_rfl) (by kernel_rfl) (by kernel_rfl) (by kernel_rfl) (by kernel_rfl) (fun _ _ _ h => h) (Or.inl ⟨by rfl, fun W hW => by first | (obtain ⟨q0, q1⟩ := hW; go_simp <;> rfl) | (obtain ⟨q0, q1⟩ := hW; go_simp; done)⟩) K2 ?_
    (try simp only [Act.put, List.setIfInBounds_toArray, List.set_cons_zero, List.set_cons_succ])
    refine wpAnyM.takeT (i := 7) (v := _) (some 38) rfl rfl (by kernel_rfl) (by kernel_rfl) (by kernel_rfl) (by kernel_rfl) (by kernel_rfl) (fun _ _ _ h => h) (Or.inl ⟨by rfl, fun W hW => by first | (obtain ⟨q0, q1⟩ := hW; go_simp <;> rfl) | (obtain ⟨q0, q1⟩ := hW; go_simp; done)⟩) K2 ?_
    (try simp only [Act.put, List.setIfInBounds_toArray, List.set_cons_zero, List.set_cons_succ])
    refine wpAnyM.takeT (i := 8) (v := _) (some 39) rfl rfl (by kernel_rfl) (by kernel_rfl) (by kernel_rfl) (by kernel_rfl) (by kernel_rfl) (fun _ _ _ h => h) (Or.inl ⟨by rfl, fun W hW => by first | (obtain ⟨q0, q1⟩ := hW; go_simp <;> rfl) | (obtain ⟨q0, q1⟩ := hW; go_simp; done)⟩) K2 ?_
    (try simp only [Act.put, List.setIfInBounds_toArray, List.set_cons_zero, List.set_cons_succ])
    refine wpAnyM.takeT (i := 9) (v := _) (some 40) rfl rfl (by kernel_rfl) (by kernel_rfl) (by kernel_rfl) (by kernel_rfl) (by kernel_rfl) (fun _ _ _ h => h) (Or.inl ⟨by rfl, fun W hW => by first | (obtain ⟨q0, q1⟩ := hW; go_simp <;> rfl) | (obtain ⟨q0, q1⟩ := hW; go_simp; done)⟩) K2 ?_
    (try simp only [Act.put, List.setIfInBounds_toArray, List.set_cons_zero, List.set_cons_succ])
    refine wpAnyM.takeT (i := 10) (v := .int .i64 a) (some 41) rfl rfl (by kernel_rfl) (by kernel_rfl) (by kernel_rfl) (by kernel_rfl) (by kernel_rfl) (fun _ _ _ h => h) (Or.inl ⟨by rfl, fun W hW => by first | (obtain ⟨q0, q1⟩ := hW; go_simp <;> rfl) | (obtain ⟨q0, q1⟩ := hW; go_simp; done)⟩) K2 ?_
    (try simp only [Act.put, List.setIfInBounds_toArray, List.set_cons_zero, List.set_cons_succ])
    refine wpAnyM.takeT (i := 11) (v := _) (some 42) rfl rfl (by kernel_rfl) (by kernel_rfl) (by kernel_rfl) (by kernel_rfl) (by kernel_rfl) (fun _ _ _ h => h) (Or.inl ⟨by rfl, fun W hW => by first | (obtain ⟨q0, q1⟩ := hW; go_simp <;> rfl) | (obtain ⟨q0, q1⟩ := hW; go_simp; done)⟩) K2 ?_
    (try simp only [Act.put, List.setIfInBounds_toArray, List.set_cons_zero, List.set_cons_succ])
    refine wpAnyM.takeT (i := 12) (v := _) (some 43) rfl rfl (by kernel_rfl) (by kernel_rfl) (by kernel_rfl) (by kernel_rfl) (by kernel_rfl) (fun _ _ _ h => h) (Or.inl ⟨by rfl, fun W hW => by first | (obtain ⟨q0, q1⟩ := hW; go_simp <;> rfl) | (obtain ⟨q0, q1⟩ := hW; go_simp; done)⟩) K2 ?_
    (try simp only [Act.put, List.setIfInBounds_toArray, List.set_cons_zero, List.set_cons_succ])
    refine wpAnyM.takeT (i := 13) (v := _) (some 44) rfl rfl (by kernel_rfl) (by kernel_rfl) (by kernel_rfl) (by kernel_rfl) (by kernel_rfl) (fun _ _ _ h => h) (Or.inl ⟨by rfl, fun W hW => by first | (obtain ⟨q0, q1⟩ := hW; go_simp <;> rfl) | (obtain ⟨q0, q1⟩ := hW; go_simp; done)⟩) K2 ?_
    (try simp only [Act.put, List.setIfInBounds_toArray, List.set_cons_zero, List.set_cons_succ])
    refine wpAnyM.takeT (i := 14) (v := _) (some 45) rfl rfl (by kernel_rfl) (by kernel_rfl) (by kernel_rfl) (by kernel_rfl) (by kernel_rfl) (fun _ _ _ h => h) (Or.inl ⟨by rfl, fun W hW => by first | (obtain ⟨q0, q1⟩ := hW; go_simp <;> rfl) | (obtain ⟨q0, q1⟩ := hW; go_simp; done)⟩) K2 ?_
    (try simp only [Act.put, List.setIfInBounds_toArray, List.set_cons_zero, List.set_cons_succ])
    refine wpAnyM.takeT (i := 15) (v := .slice va n 0) (some 46) rfl rfl (by kernel_rfl) (by kernel_rfl) (by kernel_rfl) (by kernel_rfl) (by kernel_rfl) (fun _ _ _ h => h) (Or.inl ⟨by rfl, fun W hW => by first | (obtain ⟨q0, q1⟩ := hW; go_simp <;> rfl) | (obtain ⟨q0, q1⟩ := hW; go_simp; done)⟩) K2 ?_
    (try simp only [Act.put, List.setIfInBounds_toArray, List.set_cons_zero, List.set_cons_succ])
    refine wpAnyM.one (i := 16) (by kernel_rfl) rfl (fun KQ hK => ?_)
    go_simp
    refine B.mono ?_
    rintro e w1 ⟨v1, c2, rfl, p1, s2, o2⟩
    have K3 : (fun W : World => W.cell? ⟨p, 0, none⟩ = some (.slice va bs.length vc) ∧ W.cell? ⟨p, 1, none⟩ = some (.int .i64 ((a : Int) + (n : Int)))) w1 := ⟨(s2.cell HL.out (fun h => h)).trans z0, (s2.cell HL.out (fun h => h)).trans z1⟩
    have HX := Lib.hid (And.intro p1 (And.intro (HH.out.1.kn s2) (And.intro (HH.out.2.trans s2.ofNo) o2)))
    clear p1 s2 o2
    refine hK.out _ _ (fun _ => K3) ?_
    clear hK KQ
    (try simp only [Act.put, List.setIfInBounds_toArray, List.set_cons_zero, List.set_cons_succ])
    refine wpAnyM.one (i := 17) (by kernel_rfl) rfl (fun KQ hK => ?_)
    go_simp
    refine hK.out _ _ (fun _ => K3) ?_
    clear hK KQ
    (try simp only [Act.put, List.setIfInBounds_toArray, List.set_cons_zero, List.set_cons_succ])
    refine wpAnyM.done (by kernel_rfl) ?_ _
    go_wp2_with fail
    go_ret
    exact ⟨_, rfl, c2, HX.out⟩
  · obtain ⟨g, rfl⟩ : ∃ g, va = some ⟨g, 0, none⟩ := by
      rcases hcase with ⟨rfl, rfl⟩ | h
      · exact absurd (by omega) hca
      · exact h
    have HL := Lib.hid (show p < ((w.setCell ⟨p, 1, none⟩ (.int .i64 ((a : Int) + (n : Int)))).drewN 2).heap.size by obtain ⟨_, xx, _⟩ := hm2.row; exact xx.lt)
    have SL : Sl TByte c 0 0 ((w.setCell ⟨p, 1, none⟩ (.int .i64 ((a : Int) + (n : Int)))).drewN 2) (.slice (some ⟨g, a, none⟩) n (vc - a)) ((bs.drop a).take n) := by have := ow1.sl.sub a n hn; rwa [Nat.zero_add] at this
    have B := clone_any ok1 0 SL (by rw [List.length_take, List.length_drop]; omega)
    clear x ow hok h m1 hm2 s1 ok1 ow1 SL
    go_enter Tryz.func102, Tryz.ntmps102
    go_wp2_with fail
    refine region_planM (fun W => W.cell? ⟨p, 0, none⟩ = some (.slice (some ⟨g, 0, none⟩) bs.length vc) ∧ W.cell? ⟨p, 1, none⟩ = some (.int .i64 a)) (fun _ => true) (by kernel_rfl) ?_
    refine wpAnyM.takeT (i := 0) (v := _) (some 9) rfl rfl (by kernel_rfl) (by kernel_rfl) (by kernel_rfl) (by kernel_rfl) (by kernel_rfl) (fun _ _ _ h => h) (Or.inl ⟨by rfl, fun W hW => by first | (obtain ⟨q0, q1⟩ := hW; go_simp <;> rfl) | (obtain ⟨q0, q1⟩ := hW; go_simp; done)⟩) K1 ?_
    (try simp only [Act.put, List.setIfInBounds_toArray, List.set_cons_zero, List.set_cons_succ])
    refine wpAnyM.takeT (i := 1) (v := _) (some 10) rfl rfl (by kernel_rfl) (by kernel_rfl) (by kernel_rfl) (by kernel_rfl) (by kernel_rfl) (fun _ _ _ h => h) (Or.inl ⟨by rfl, fun W hW => by first | (obtain ⟨q0, q1⟩ := hW; go_simp <;> rfl) | (obtain ⟨q0, q1⟩ := hW; go_simp; done)⟩) K1 ?_
    (try simp only [Act.put, List.setIfInBounds_toArray, List.set_cons_zero, List.set_cons_succ])
    refine wpAnyM.takeT (i := 2) (v := _) (some 11) rfl rfl (by kernel_rfl) (by kernel_rfl) (by kernel_rfl) (by kernel_rfl) (by kernel_rfl) (fun _ _ _ h => h) (Or.inl ⟨by rfl, fun W hW => by first | (obtain ⟨q0, q1⟩ := hW; go_simp <;> rfl) | (obtain ⟨q0, q1⟩ := hW; go_simp; done)⟩) K1 ?_
    (try simp only [Act.put, List.setIfInBounds_toArray, List.set_cons_zero, List.set_cons_succ])
    refine wpAnyM.takeT (i := 3) (v := _) (some 12) rfl rfl (by kernel_rfl) (by kernel_rfl) (by kernel_rfl) (by kernel_rfl) (by kernel_rfl) (fun _ _ _ h => h) (Or.inl ⟨by rfl, fun W hW => by first | (obtain ⟨q0, q1⟩ := hW; go_simp <;> rfl) | (obtain ⟨q0, q1⟩ := hW; go_simp; done)⟩) K1 ?_
    (try simp only [Act.put, List.setIfInBounds_toArray, List.set_cons_zero, List.set_cons_succ])
    refine wpAnyM.takeT (i := 4) (v := _) (some 13) rfl rfl (by kernel_rfl) (by kernel_rfl) (by kernel_rfl) (by kernel_rfl) (by kernel_rfl) (fun _ _ _ h => h) (Or.inl ⟨by rfl, fun W hW => by first | (obtain ⟨q0, q1⟩ := hW; go_simp <;> rfl) | (obtain ⟨q0, q1⟩ := hW; go_simp; done)⟩) K1 ?_
    (try simp only [Act.put, List.setIfInBounds_toArray, List.set_cons_zero, List.set_cons_succ])
    refine wpAnyM.takeT (i := 5) (v := _) (some 14) rfl rfl (by kernel_rfl) (by kernel_rfl) (by kernel_rfl) (by kernel_rfl) (by kernel_rfl) (fun _ _ _ h => h) (Or.inl ⟨by rfl, fun W hW => by first | (obtain ⟨q0, q1⟩ := hW; go_simp <;> rfl) | (obtain ⟨q0, q1⟩ := hW; go_simp; done)⟩) K1 ?_
    (try simp only [Act.put, List.setIfInBounds_toArray, List.set_cons_zero, List.set_cons_succ])
    refine wpAnyM.takeT (i := 6) (v := _) (some 15) rfl rfl (by kernel_rfl) (by kernel_rfl) (by kernel_rfl) (by kernel_rfl) (by kernel_rfl) (fun _ _ _ h => h) (Or.inl ⟨by rfl, fun W hW => by first | (obtain ⟨q0, q1⟩ := hW; go_simp <;> rfl) | (obtain ⟨q0, q1⟩ := hW; go_simp; done)⟩) K1 ?_
    (try simp only [Act.put, List.setIfInBounds_toArray, List.set_cons_zero, List.set_cons_succ])
    refine wpAnyM.takeT (i := 7) (v := _) (some 16) rfl rfl (by kernel_rfl) (by kernel_rfl) (by kernel_rfl) (by kernel_rfl) (by kernel_rfl) (fun _ _ _ h => h) (Or.inl ⟨by rfl, fun W hW => by first | (obtain ⟨q0, q1⟩ := hW; go_simp <;> rfl) | (obtain ⟨q0, q1⟩ := hW; go_simp; done)⟩) K1 ?_
    (try simp only [Act.put, List.setIfInBounds_toArray, List.set_cons_zero, List.set_cons_succ])
    refine wpAnyM.takeT (i := 8) (v := _) (some 17) rfl rfl (by kernel_rfl) (by kernel_rfl) (by kernel_rfl) (by kernel_rfl) (by kernel_rfl) (fun _ _ _ h => h) (Or.inl ⟨by rfl, fun W hW => by first | (obtain ⟨q0, q1⟩ := hW; go_simp <;> rfl) | (obtain ⟨q0, q1⟩ := hW; go_simp; done)⟩) K1 ?_
    (try simp only [Act.put, List.setIfInBounds_toArray, List.set_cons_zero, List.set_cons_succ])
    refine wpAnyM.takeT (i := 9) (v := _) (some 18) rfl rfl (by kernel_rfl) (by kernel_rfl) (by kernel_rfl) (by kernel_rfl) (by kernel_rfl) (fun _ _ _ h => h) (Or.inl ⟨by rfl, fun W hW => by first | (obtain ⟨q0, q1⟩ := hW; go_simp <;> rfl) | (obtain ⟨q0, q1⟩ := hW; go_simp; done)⟩) K1 ?_
    (try simp only [Act.put, List.setIfInBounds_toArray, List.set_cons_zero, List.set_cons_succ])
    refine wpAnyM.takeT (i := 10) (v := _) (some 19) rfl rfl (by kernel_rfl) (by kernel_rfl) (by kernel_rfl) (by kernel_rfl) (by kernel_rfl) (fun _ _ _ h => h) (Or.inl ⟨by rfl, fun W hW => by first | (obtain ⟨q0, q1⟩ := hW; go_simp <;> rfl) | (obtain ⟨q0, q1⟩ := hW; go_simp; done)⟩) K1 ?_
    (try simp only [Act.put, List.setIfInBounds_toArray, List.set_cons_zero, List.set_cons_succ])
    refine wpAnyM.takeT (i := 11) (v := .bool true) (some 20) rfl rfl (by kernel_rfl) (by kernel_rfl) (by kernel_rfl) (by kernel_rfl) (by kernel_rfl) (fun _ _ _ h => h) (Or.inl ⟨by rfl, fun W hW => by first | (obtain ⟨q0, q1⟩ := hW; go_simp <;> rfl) | (obtain ⟨q0, q1⟩ := hW; go_simp; done)⟩) K1 ?_
    (try simp only [Act.put, List.setIfInBounds_toArray, List.set_cons_zero, List.set_cons_succ])
    refine wpAnyM.takeT (i := 12) (v := _) (some 21) rfl rfl (by kernel_rfl) (by kernel_rfl) (by kernel_rfl) (by kernel_rfl) (by kernel_rfl) (fun _ _ _ h => h) (Or.inl ⟨by rfl, fun W hW => by first | (obtain ⟨q0, q1⟩ := hW; go_simp <;> rfl) | (obtain ⟨q0, q1⟩ := hW; go_simp; done)⟩) K1 ?_
    (try simp only [Act.put, List.setIfInBounds_toArray, List.set_cons_zero, List.set_cons_succ])
    refine wpAnyM.one (i := 13) (by kernel_rfl) rfl (fun KQ hK => ?_)
    go_simp
    refine M.mono ?_
    rintro e w1 ⟨rfl, rfl⟩
    refine hK.out _ _ (fun _ => K1) ?_
    clear hK KQ
    (try simp only [Act.put, List.setIfInBounds_toArray, List.set_cons_zero, List.set_cons_succ])
    refine wpAnyM.done (by kernel_rfl) ?_ _
    go_wp2_with fail
    clear y0 y1 K1 M hd hw
    have K2 : (fun W => W.cell? ⟨p, 0, none⟩ = some (.slice (some ⟨g, 0, none⟩) bs.length vc) ∧ W.cell? ⟨p, 1, none⟩ = some (.int .i64 ((a : Int) + (n : Int)))) (w.setCell ⟨p, 1, none⟩ (.int .i64 ((a : Int) + (n : Int)))).drew.drew := ⟨z0, z1⟩
    refine region_planM (fun W => W.cell? ⟨p, 0, none⟩ = some (.slice (some ⟨g, 0, none⟩) bs.length vc) ∧ W.cell? ⟨p, 1, none⟩ = some (.int .i64 ((a : Int) + (n : Int)))) (fun _ => true) (by kernel_rfl) ?_
    refine wpAnyM.takeT (i := 0) (v := _) (some 31) rfl rfl (by kernel_rfl) (by kernel_rfl) (by kernel_rfl) (by kernel_rfl) (by kernel_rfl) (fun _ _ _ h => h) (Or.inl ⟨by rfl, fun W hW => by first | (obtain ⟨q0, q1⟩ := hW; go_simp <;> rfl) | (obtain ⟨q0, q1⟩ := hW; go_simp; done)⟩) K2 ?_
    (try simp only [Act.put, List.setIfInBounds_toArray, List.set_cons_zero, List.set_cons_succ])
    refine wpAnyM.takeT (i := 1) (v := _) (some 32) rfl rfl (by kernel_rfl) (by kernel_rfl) (by kernel_rfl) (by kernel_rfl) (by kernel_rfl) (fun _ _ _ h => h) (Or.inl ⟨by rfl, fun W hW => by first | (obtain ⟨q0, q1⟩ := hW; go_simp <;> rfl) | (obtain ⟨q0, q1⟩ := hW; go_simp; done)⟩) K2 ?_
    (try simp only [Act.put, List.setIfInBounds_toArray, List.set_cons_zero, List.set_cons_succ])
    refine wpAnyM.takeT (i := 2) (v := _) (some 33) rfl rfl (by kernel_rfl) (by kernel_rfl) (by kernel_rfl) (by kernel_rfl) (by kernel_rfl) (fun _ _ _ h => h) (Or.inl ⟨by rfl, fun W hW => by first | (obtain ⟨q0, q1⟩ := hW; go_simp <;> rfl) | (obtain ⟨q0, q1⟩ := hW; go_simp; done)⟩) K2 ?_
    (try simp only [Act.put, List.setIfInBounds_toArray, List.set_cons_zero, List.set_cons_succ])
    refine wpAnyM.takeT (i := 3) (v := _) (some 34) rfl rfl (by kernel_rfl) (by kernel_rfl) (by kernel_rfl) (by kernel_rfl) (by kernel_rfl) (fun _ _ _ h => h) (Or.inl ⟨by rfl, fun W hW => by first | (obtain ⟨q0, q1⟩ := hW; go_simp <;> rfl) | (obtain ⟨q0, q1⟩ := hW; go_simp; done)⟩) K2 ?_
    (try simp only [Act.put, List.setIfInBounds_toArray, List.set_cons_zero, List.set_cons_succ])
    refine wpAnyM.takeT (i := 4) (v := _) (some 35) rfl rfl (by kernel_rfl) (by kernel_rfl) (by kernel_rfl) (by kernel_rfl) (by kernel_rfl) (fun _ _ _ h => h) (Or.inl ⟨by rfl, fun W hW => by first | (obtain ⟨q0, q1⟩ := hW; go_simp <;> rfl) | (obtain ⟨q0, q1⟩ := hW; go_simp; done)⟩) K2 ?_
    (try simp only [Act.put, List.setIfInBounds_toArray, List.set_cons_zero, List.set_cons_succ])
    refine wpAnyM.takeT (i := 5) (v := _) (some 36) rfl rfl (by kernel_rfl) (by kernel_rfl) (by kernel_rfl) (by kernel_rfl) (by kernel_rfl) (fun _ _ _ h => h) (Or.inl ⟨by rfl, fun W hW => by first | (obtain ⟨q0, q1⟩ := hW; go_simp <;> rfl) | (obtain ⟨q0, q1⟩ := hW; go_simp; done)⟩) K2 ?_
    (try simp only [Act.put, List.setIfInBounds_toArray, List.set_cons_zero, List.set_cons_succ])
    refine wpAnyM.takeT (i := 6) (v := _) (some 37) rfl rfl (by kernel_rfl) (by kernel_rfl) (by kernel_rfl) (by kernel_rfl) (by kernel_rfl) (fun _ _ _ h => h) (Or.inl ⟨by rfl, fun W hW => by first | (obtain ⟨q0, q1⟩ := hW; go_simp <;> rfl) | (obtain ⟨q0, q1⟩ := hW; go_simp; done)⟩) K2 ?_
    (try simp only [Act.put, List.setIfInBounds_toArray, List.set_cons_zero, List.set_cons_succ])
    refine wpAnyM.takeT (i := 7) (v := _) (some 38) rfl rfl (by kernel_rfl) (by kernel_rfl) (by kernel_rfl) (by kernel_rfl) (by kernel_rfl) (fun _ _ _ h => h) (Or.inl ⟨by rfl, fun W hW => by first | (obtain ⟨q0, q1⟩ := hW; go_simp <;> rfl) | (obtain ⟨q0, q1⟩ := hW; go_simp; done)⟩) K2 ?_
    (try simp only [Act.put, List.setIfInBounds_toArray, List.set_cons_zero, List.set_cons_succ])
    refine wpAnyM.takeT (i := 8) (v := _) (some 39) rfl rfl (by kernel_rfl) (by kernel_rfl) (by kernel_rfl) (by kernel_rfl) (by kernel_rfl) (fun _ _ _ h => h) (Or.inl ⟨by rfl, fun W hW => by first | (obtain ⟨q0, q1⟩ := hW; go_simp <;> rfl) | (obtain ⟨q0, q1⟩ := hW; go_simp; done)⟩) K2 ?_
    (try simp only [Act.put, List.setIfInBounds_toArray, List.set_cons_zero, List.set_cons_succ])
    refine wpAnyM.takeT (i := 9) (v := _) (some 40) rfl rfl (by kernel_rfl) (by kernel_rfl) (by kernel_rfl) (by kernel_rfl) (by kernel_rfl) (fun _ _ _ h => h) (Or.inl ⟨by rfl, fun W hW => by first | (obtain ⟨q0, q1⟩ := hW; go_simp <;> rfl) | (obtain ⟨q0, q1⟩ := hW; go_simp; done)⟩) K2 ?_
    (try simp only [Act.put, List.setIfInBounds_toArray, List.set_cons_zero, List.set_cons_succ])
    refine wpAnyM.takeT (i := 10) (v := .int .i64 a) (some 41) rfl rfl (by kernel_rfl) (by kernel_rfl) (by kernel_rfl) (by kernel_rfl) (by kernel_rfl) (fun _ _ _ h => h) (Or.inl ⟨by rfl, fun W hW => by first | (obtain ⟨q0, q1⟩ := hW; go_simp <;> rfl) | (obtain ⟨q0, q1⟩ := hW; go_simp; done)⟩) K2 ?_
    (try simp only [Act.put, List.setIfInBounds_toArray, List.set_cons_zero, List.set_cons_succ])
    refine wpAnyM.takeT (i := 11) (v := _) (some 42) rfl rfl (by kernel_rfl) (by kernel_rfl) (by kernel_rfl) (by kernel_rfl) (by kernel_rfl) (fun _ _ _ h => h) (Or.inl ⟨by rfl, fun W hW => by first | (obtain ⟨q0, q1⟩ := hW; go_simp <;> rfl) | (obtain ⟨q0, q1⟩ := hW; go_simp; done)⟩) K2 ?_
    (try simp only [Act.put, List.setIfInBounds_toArray, List.set_cons_zero, List.set_cons_succ])
    refine wpAnyM.takeT (i := 12) (v := _) (some 43) rfl rfl (by kernel_rfl) (by kernel_rfl) (by kernel_rfl) (by kernel_rfl) (by kernel_rfl) (fun _ _ _ h => h) (Or.inl ⟨by rfl, fun W hW => by first | (obtain ⟨q0, q1⟩ := hW; go_simp <;> rfl) | (obtain ⟨q0, q1⟩ := hW; go_simp; done)⟩) K2 ?_
    (try simp only [Act.put, List.setIfInBounds_toArray, List.set_cons_zero, List.set_cons_succ])
    refine wpAnyM.takeT (i := 13) (v := _) (some 44) rfl rfl (by kernel_rfl) (by kernel_rfl) (by kernel_rfl) (by kernel_rfl) (by kernel_rfl) (fun _ _ _ h => h) (Or.inl ⟨by rfl, fun W hW => by first | (obtain ⟨q0, q1⟩ := hW; go_simp <;> rfl) | (obtain ⟨q0, q1⟩ := hW; go_simp; done)⟩) K2 ?_
    (try simp only [Act.put, List.setIfInBounds_toArray, List.set_cons_zero, List.set_cons_succ])
    refine wpAnyM.takeT (i := 14) (v := _) (some 45) rfl rfl (by kernel_rfl) (by kernel_rfl) (by kernel_rfl) (by kernel_rfl) (by kernel_rfl) (fun _ _ _ h => h) (Or.inl ⟨by rfl, fun W hW => by first | (obtain ⟨q0, q1⟩ := hW; go_simp <;> rfl) | (obtain ⟨q0, q1⟩ := hW; go_simp; done)⟩) K2 ?_
    (try simp only [Act.put, List.setIfInBounds_toArray, List.set_cons_zero, List.set_cons_succ])
    refine wpAnyM.takeT (i := 15) (v := .slice (some ⟨g, a, none⟩) n (vc - a)) (some 46) rfl rfl (by kernel_rfl) (by kernel_rfl) (by kernel_rfl) (by kernel_rfl) (by kernel_rfl) (fun _ _ _ h => h) (Or.inl ⟨by rfl, fun W hW => by first | (obtain ⟨q0, q1⟩ := hW; go_simp <;> rfl) | (obtain ⟨q0, q1⟩ := hW; go_simp; done)⟩) K2 ?_
    (try simp only [Act.put, List.setIfInBounds_toArray, List.set_cons_zero, List.set_cons_succ])
    refine wpAnyM.one (i := 16) (by kernel_rfl) rfl (fun KQ hK => ?_)
    go_simp
    refine B.mono ?_
    rintro e w1 ⟨v1, c2, rfl, p1, s2, o2⟩
    have K3 : (fun W : World => W.cell? ⟨p, 0, none⟩ = some (.slice (some ⟨g, 0, none⟩) bs.length vc) ∧ W.cell? ⟨p, 1, none⟩ = some (.int .i64 ((a : Int) + (n : Int)))) w1 := ⟨(s2.cell HL.out (fun h => h)).trans z0, (s2.cell HL.out (fun h => h)).trans z1⟩
    have HX := Lib.hid (And.intro p1 (And.intro (HH.out.1.kn s2) (And.intro (HH.out.2.trans s2.ofNo) o2)))
    clear p1 s2 o2
    refine hK.out _ _ (fun _ => K3) ?_
    clear hK KQ
    (try simp only [Act.put, List.setIfInBounds_toArray, List.set_cons_zero, List.set_cons_succ])
    refine wpAnyM.one (i := 17) (by kernel_rfl) rfl (fun KQ hK => ?_)
    go_simp
    refine hK.out _ _ (fun _ => K3) ?_
    clear hK KQ
    (try simp only [Act.put, List.setIfInBounds_toArray, List.set_cons_zero, List.set_cons_succ])
    refine wpAnyM.done (by kernel_rfl) ?_ _
    go_wp2_with fail
    go_ret
    exact ⟨_, rfl, c2, HX.out⟩

theorem info_hash : (Tryz.prog.info? 51).map (·.size) = some 32 := by kernel_rfl

set_option maxRecDepth 100000 in
theorem hash11_any (hok : Ok c w) {kx : Nat} {g off cap : Nat} {l : List UInt8} (h : Sl TByte c kx 0 w (.slice (some ⟨g, off, none⟩) 32 cap) l) :
    Calls Tryz.prog 169 #[.slice (some ⟨g, off, none⟩) 32 cap] w fun r w' => r = .returned (.agg (bC l).toArray) ∧ l.length = 32 ∧ ∃ c', Step No c w c' w' ∧ Ok c' w' := by
  have hl : l.length = 32 := by
    obtain ⟨_, _, hv, _⟩ := h.form
    simp only [Value.slice.injEq] at hv
    exact hv.2.1.symm
  have hc : w.rangeAt g off (bC l) := fun j v hv => by
    obtain ⟨x, hx, rfl⟩ : ∃ x, l[j]? = some x ∧ v = .int .u8 x.toNat := by
      simp only [bC, List.getElem?_map, Option.map_eq_some_iff] at hv
      obtain ⟨x, h1, h2⟩ := hv
      exact ⟨x, h1, h2.symm⟩
    rw [← hl] at h
    obtain ⟨vs, rfl, hcs⟩ := h.at hx
    have := hcs.get 0 rfl
    simpa [TByte] using this
  have hlt : g < w.heap.size := by
    rcases h with ⟨rfl, _⟩ | ⟨b, o, cp, hv, _, _, _, h4, _⟩
    · simp at hl
    · simp only [Value.slice.injEq, Option.some.injEq, Addr.mk.injEq] at hv
      rw [hv.1.1]; exact h4
  obtain ⟨q, hq, hqc⟩ := hok.spare 0
  have hq0 : q ≠ 0 := by omega
  obtain ⟨a1, o1, s1⟩ := newAt hok (bC (List.replicate 32 0)) 51 q
  have hc2 : (w.alloc (.cells (bC (List.replicate 32 0)).toArray 51)).rangeAt g off (bC l) := fun j v hv => (s1.cell hlt (fun h => h)).trans (hc j v hv)
  have hB1 := bC_one l
  have hBl : (bC l).length = 32 := by rw [bC_len, hl]
  have hr : ∀ W, (Instr.arrayAt 51 (.slice (some ⟨g, off, none⟩) 32 cap)).run Tryz.prog W = .ok (.pointer (some ⟨g, off, none⟩)) W := fun W => by
    simp [Instr.arrayAt, run_underlying Tryz.underlying51]
  obtain ⟨B, hB⟩ : ∃ B, bC l = B := ⟨_, rfl⟩
  rw [hB] at hc2 hB1 hBl ⊢
  have hi0 : (Tryz.prog.info? 51).map (·.size) = some B.length := by rw [info_hash, hBl]
  have hi1 : (Tryz.prog.info? 51).map (·.size) = some B.toArray.size := by rw [info_hash]; simp [hBl]
  have ht0 := a1.there (o := 0) (n := B.toArray.size) o1 hq0 (by simp [bC_len, hBl])
  obtain ⟨S0, a2⟩ := a1.st o1 hq0 (ty := 51) (us := B) (by simp [bC_len, hBl]) hi0 hB1
  have s2 := Step.setCells (.inl (Nat.le_refl _)) B 0 _ s1
  have o2 := Ok.setCells (b := w.heap.size) B 0 _ o1
  have HH := Lib.hid (And.intro a2 (And.intro s2 (And.intro o2 (And.intro hl (And.intro hc2 (And.intro ht0 (And.intro hi0 (And.intro hi1 (all_oneCell_toArray hB1)))))))))
  clear hc hc2 a1 o1 s1 hqc hok h hB1 hBl hi0 hi1 ht0 S0 a2 s2 o2 hB hl
  go_enter Tryz.func169, Tryz.ntmps169
  go_wp2_with (first | (refine wpList_load_mid rfl 51 _ rfl g off rfl B _ HH.out.2.2.2.2.1 Tryz.underlying51 rfl HH.out.2.2.2.2.2.2.1 ?_) | (refine wpList_store_mid rfl 51 _ _ rfl w.heap.size 0 B.toArray rfl rfl HH.out.2.2.2.2.2.1 HH.out.2.2.2.2.2.2.2.1 HH.out.2.2.2.2.2.2.2.2 ?_))
  refine bodyPost_ret (results_cell_mid rfl _ _ w.heap.size 0 B _ rfl HH.out.1.cells Tryz.underlying51 rfl HH.out.2.2.2.2.2.2.1) rfl ⟨rfl, HH.out.2.2.2.1, _, HH.out.2.1, HH.out.2.2.1⟩

theorem info_key : (Tryz.prog.info? 91).map (·.size) = some 4 := by kernel_rfl

set_option maxRecDepth 100000 in
theorem key11_any (hok : Ok c w) {kx : Nat} {g off cap : Nat} {l : List UInt8} (h : Sl TByte c kx 0 w (.slice (some ⟨g, off, none⟩) 4 cap) l) :
    Calls Tryz.prog 177 #[.slice (some ⟨g, off, none⟩) 4 cap] w fun r w' => r = .returned (.agg (bC l).toArray) ∧ l.length = 4 ∧ ∃ c', Step No c w c' w' ∧ Ok c' w' := by
  have hl : l.length = 4 := by
    obtain ⟨_, _, hv, _⟩ := h.form
    simp only [Value.slice.injEq] at hv
    exact hv.2.1.symm
  have hc : w.rangeAt g off (bC l) := fun j v hv => by
    obtain ⟨x, hx, rfl⟩ : ∃ x, l[j]? = some x ∧ v = .int .u8 x.toNat := by
      simp only [bC, List.getElem?_map, Option.map_eq_some_iff] at hv
      obtain ⟨x, h1, h2⟩ := hv
      exact ⟨x, h1, h2.symm⟩
    rw [← hl] at h
    obtain ⟨vs, rfl, hcs⟩ := h.at hx
    have := hcs.get 0 rfl
    simpa [TByte] using this
  have hlt : g < w.heap.size := by
    rcases h with ⟨rfl, _⟩ | ⟨b, o, cp, hv, _, _, _, h4, _⟩
    · simp at hl
    · simp only [Value.slice.injEq, Option.some.injEq, Addr.mk.injEq] at hv
      rw [hv.1.1]; exact h4
  obtain ⟨q, hq, hqc⟩ := hok.spare 0
  have hq0 : q ≠ 0 := by omega
  obtain ⟨a1, o1, s1⟩ := newAt hok (bC (List.replicate 4 0)) 91 q
  have hc2 : (w.alloc (.cells (bC (List.replicate 4 0)).toArray 91)).rangeAt g off (bC l) := fun j v hv => (s1.cell hlt (fun h => h)).trans (hc j v hv)
  have hB1 := bC_one l
  have hBl : (bC l).length = 4 := by rw [bC_len, hl]
  have hr : ∀ W, (Instr.arrayAt 91 (.slice (some ⟨g, off, none⟩) 4 cap)).run Tryz.prog W = .ok (.pointer (some ⟨g, off, none⟩)) W := fun W => by
    simp [Instr.arrayAt, run_underlying Tryz.underlying91]
  obtain ⟨B, hB⟩ : ∃ B, bC l = B := ⟨_, rfl⟩
  rw [hB] at hc2 hB1 hBl ⊢
  have hi0 : (Tryz.prog.info? 91).map (·.size) = some B.length := by rw [info_key, hBl]
  have hi1 : (Tryz.prog.info? 91).map (·.size) = some B.toArray.size := by rw [info_key]; simp [hBl]
  have ht0 := a1.there (o := 0) (n := B.toArray.size) o1 hq0 (by simp [bC_len, hBl])
  obtain ⟨S0, a2⟩ := a1.st o1 hq0 (ty := 91) (us := B) (by simp [bC_len, hBl]) hi0 hB1
  have s2 := Step.setCells (.inl (Nat.le_refl _)) B 0 _ s1
  have o2 := Ok.setCells (b := w.heap.size) B 0 _ o1
  have HH := Lib.hid (And.intro a2 (And.intro s2 (And.intro o2 (And.intro hl (And.intro hc2 (And.intro ht0 (And.intro hi0 (And.intro hi1 (all_oneCell_toArray hB1)))))))))
  clear hc hc2 a1 o1 s1 hqc hok h hB1 hBl hi0 hi1 ht0 S0 a2 s2 o2 hB hl
  go_enter Tryz.func177, Tryz.ntmps177
  go_wp2_with (first | (refine wpList_load_mid rfl 91 _ rfl g off rfl B _ HH.out.2.2.2.2.1 Tryz.underlying91 rfl HH.out.2.2.2.2.2.2.1 ?_) | (refine wpList_store_mid rfl 91 _ _ rfl w.heap.size 0 B.toArray rfl rfl HH.out.2.2.2.2.2.1 HH.out.2.2.2.2.2.2.2.1 HH.out.2.2.2.2.2.2.2.2 ?_))
  refine bodyPost_ret (results_cell_mid rfl _ _ w.heap.size 0 B _ rfl HH.out.1.cells Tryz.underlying91 rfl HH.out.2.2.2.2.2.2.1) rfl ⟨rfl, HH.out.2.2.2.1, _, HH.out.2.1, HH.out.2.2.1⟩
end
end Go.Proofs.YtgcobbapaaihiaaGreat
