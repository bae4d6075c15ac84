/- ServerKnown, part 08: lemmas, each with its own conditions. -/
import Derived.Test.YtgcobbapaaihiaaGreatSk07
set_option linter.unusedVariables false
set_option linter.unusedSimpArgs false
namespace Go.Proofs.YtgcobbapaaihiaaGreat
open Go.RowKit

section
variable {P : Program}
/-- A store of many cells, as a step of a region that draws its order. -/
theorem step_store {ops : Array Oper} {o : Oper} {a : Act} {w : World} {K : Act → World → Prop} {Q : Exit → Act → World → Prop} {E : Prop} (hgd : o.guard = none) (ty : TypeId) (x y : Operand) (ho : o.op = .store ty x y)
    (b off : Nat) (cells : Array Value) (hx : a.eval x = .pointer (some ⟨b, off, none⟩)) (hy : a.eval y = .agg cells)
    (ht : w.there b off cells.size) (hi : (P.info? ty).map (·.size) = some cells.size) (h1 : cells.all (·.oneCell') = true)
    (h : K (a.put o.dst undef) (w.setCells b off cells.toList)) : if Region.wanted o (yielded ops a.tmps) = true then Oper.wp P o a w K Q else E := by
  rw [if_pos (by simp [Region.wanted, hgd])]
  exact wp_store_mid ty x y ho b off cells hx hy ht hi h1 h
end

section
variable {c : Col} {w : World}

theorem hash11n (hok : Ok c w) {kx : Nat} {g off cap n : Nat} {l : List UInt8} (hn : n = 32) (h : Sl TByte c kx 0 w (.slice (some ⟨g, off, none⟩) n cap) l) :
    Calls Tryz.prog 169 #[.slice (some ⟨g, off, none⟩) n cap] w fun r w' => r = .returned (.agg (bC l).toArray) ∧ l.length = 32 ∧ ∃ c', Step No c w c' w' ∧ Ok c' w' := by
  subst hn
  exact hash11_any hok h

set_option maxRecDepth 100000 in
set_option maxHeartbeats 1600000 in
theorem take_hash (hok : Ok c w) {k p : Nat} {bs : List UInt8} {a : Nat} {f : Int × Int} (h : IsRd c k w p bs a f) (hk0 : k ≠ 0) (n : Nat) (hn : a + n ≤ bs.length) (hN : n = 32) (at0 : Int) :
    Calls Tryz.prog 168 #[.pointer (some ⟨p, 0, none⟩), .int .i64 n, .int .i64 at0, .func (.func 169) #[] #[]] w fun r w' => r = .returned (.agg (bC ((bs.drop a).take n)).toArray) ∧ ∃ c', IsRd c' k w' p bs (a + n) f ∧ Step (One k) c w c' w' ∧ Ok c' w' := by
  obtain ⟨q, hq, hqc⟩ := hok.spare k
  have hq0 : q ≠ 0 := by omega
  obtain ⟨a0, ok0, s00⟩ := newAt hok (bC (List.replicate 32 0)) 51 q
  have h0 := h.kn s00
  rw [show (bC (List.replicate 32 0)).toArray = #[.int .u8 0, .int .u8 0, .int .u8 0, .int .u8 0, .int .u8 0, .int .u8 0, .int .u8 0, .int .u8 0, .int .u8 0, .int .u8 0, .int .u8 0, .int .u8 0, .int .u8 0, .int .u8 0, .int .u8 0, .int .u8 0, .int .u8 0, .int .u8 0, .int .u8 0, .int .u8 0, .int .u8 0, .int .u8 0, .int .u8 0, .int .u8 0, .int .u8 0, .int .u8 0, .int .u8 0, .int .u8 0, .int .u8 0, .int .u8 0, .int .u8 0, .int .u8 0] from rfl] at a0 ok0 s00 h0
  obtain ⟨w0, hw0⟩ : ∃ w0, w.alloc (.cells #[.int .u8 0, .int .u8 0, .int .u8 0, .int .u8 0, .int .u8 0, .int .u8 0, .int .u8 0, .int .u8 0, .int .u8 0, .int .u8 0, .int .u8 0, .int .u8 0, .int .u8 0, .int .u8 0, .int .u8 0, .int .u8 0, .int .u8 0, .int .u8 0, .int .u8 0, .int .u8 0, .int .u8 0, .int .u8 0, .int .u8 0, .int .u8 0, .int .u8 0, .int .u8 0, .int .u8 0, .int .u8 0, .int .u8 0, .int .u8 0, .int .u8 0, .int .u8 0] 51) = w0 := ⟨_, rfl⟩
  obtain ⟨c0, hc0⟩ : ∃ c0, c.put w.heap.size q = c0 := ⟨_, rfl⟩
  obtain ⟨b0, hbe⟩ : ∃ b0, w.heap.size = b0 := ⟨_, rfl⟩
  have hb0 : w.heap.size ≤ b0 := by omega
  rw [hw0, hc0] at a0 ok0 s00 h0
  rw [hbe] at a0
  have hpb : p ≠ b0 := fun e => by
    obtain ⟨_, xx, _⟩ := h0.row
    have e1 := xx.col
    have e2 := a0.col
    rw [e, e2] at e1
    omega
  have S00 := Lib.hid s00
  have HN := Lib.hid hN
  clear s00 h hok hqc hc0 hN
  obtain ⟨bv, x, ow⟩ := h0.row
  have hle := h0.le
  have hfew := h0.few
  obtain ⟨va, vc, hbv, hcap, hcase⟩ : ∃ va vc, bv = .slice va bs.length vc ∧ bs.length ≤ vc ∧ ((va = none ∧ vc = 0) ∨ ∃ g, va = some ⟨g, 0, none⟩) := by
    rcases ow.form2 with ⟨rfl, rfl⟩ | ⟨g, cap, rfl, hc⟩
    · exact ⟨none, 0, rfl, Nat.le_refl _, .inl ⟨rfl, rfl⟩⟩
    · exact ⟨_, cap, rfl, hc, .inr ⟨g, rfl⟩⟩
  subst hbv
  have y0 := x.get (i := 0) rfl
  have y1 := x.get (i := 1) rfl
  have y1f := x.fz ok0 hk0 1
  have hcp : c0 p = k := x.col
  have hd : decide ((n : Int) ≤ (bs.length : Int) - (a : Int)) = true := by simp; omega
  have hw : IntKind.i64.wrap ((bs.length : Int) - (a : Int)) = (bs.length : Int) - (a : Int) := IntWalk.i64_in _ (by omega)
  have hw2 : IntKind.i64.wrap ((a : Int) + (n : Int)) = (a : Int) + (n : Int) := IntWalk.i64_in _ (by omega)
  have hw3 : IntKind.i64.wrap (a : Int) = (a : Int) := IntWalk.i64_in _ (by omega)
  have ht : ((a : Int) + (n : Int)).toNat - a = n := by omega
  have ha0 : (0 : Int) ≤ (a : Int) := by omega
  have ha1 : (a : Int) ≤ (a : Int) + (n : Int) := by omega
  have ha2 : (a : Int) + (n : Int) ≤ (vc : Int) := by omega
  have M := must_yes w0.drew 6 at0
  have m1 := h0.move hk0 (a' := a + n) hn
  rw [Int.natCast_add] at m1
  have z0 : (w0.setCell ⟨p, 1, none⟩ (.int .i64 ((a : Int) + (n : Int)))).drew.drew.cell? ⟨p, 0, none⟩ = some (.slice va bs.length vc) := by
    show (w0.setCell ⟨p, 1, none⟩ (.int .i64 ((a : Int) + (n : Int)))).cell? ⟨p, 0, none⟩ = _
    rw [World.cell?_setCell_other _ _ _ _ (by intro e; injection e with e1 e2; cases e2)]; exact y0
  have z1 : (w0.setCell ⟨p, 1, none⟩ (.int .i64 ((a : Int) + (n : Int)))).drew.drew.cell? ⟨p, 1, none⟩ = some (.int .i64 ((a : Int) + (n : Int))) :=
    World.cell?_setCell_same' _ _ _ (by rw [y1]; rfl)
  have s1 : Step (One k) c0 w0 c0 ((w0.setCell ⟨p, 1, none⟩ (.int .i64 ((a : Int) + (n : Int)))).drewN 2) := ((Step.refl (K := One k)).setCell (a := ⟨p, 1, none⟩) (.inr x.col) _).drewN 2
  have ok1 : Ok c0 ((w0.setCell ⟨p, 1, none⟩ (.int .i64 ((a : Int) + (n : Int)))).drewN 2) := (ok0.setCell _ _).drewN 2
  have ow1 : Own TByte 5 c0 0 0 ((w0.setCell ⟨p, 1, none⟩ (.int .i64 ((a : Int) + (n : Int)))).drewN 2) (.slice va bs.length vc) bs := (ow.set (a := ⟨p, 1, none⟩) (by show c0 p ≠ 0; omega) (by show c0 p ≠ 0; omega) _).kn (Step.rf.drewN 2)
  have hm2 := m1.kn (Step.rf.drewN 2)
  have HH := Lib.hid (And.intro hm2 s1)
  have OK := Lib.hid ok1
  have K1 : (fun W => W.cell? ⟨p, 0, none⟩ = some (.slice va bs.length vc) ∧ W.cell? ⟨p, 1, none⟩ = some (.int .i64 a)) w0.drew := ⟨y0, y1⟩
  by_cases hca : vc = a
  · exact absurd hca (by have := HN.out; omega)
  · obtain ⟨g, rfl⟩ : ∃ g, va = some ⟨g, 0, none⟩ := by
      rcases hcase with ⟨rfl, rfl⟩ | h0
      · exact absurd (by omega) hca
      · exact h0
    have HL := Lib.hid (show p < ((w0.setCell ⟨p, 1, none⟩ (.int .i64 ((a : Int) + (n : Int)))).drewN 2).heap.size by obtain ⟨_, xx, _⟩ := hm2.row; exact xx.lt)
    have A0 := Lib.hid (show At c0 ((w0.setCell ⟨p, 1, none⟩ (.int .i64 ((a : Int) + (n : Int)))).drewN 2) b0 q (bC (List.replicate 32 0)) from (a0.offC p 1 _ (fun e => hpb e.symm)).keep (Step.rf.drewN 2) (fun h0 => h0))
    have SL : Sl TByte c0 0 0 ((w0.setCell ⟨p, 1, none⟩ (.int .i64 ((a : Int) + (n : Int)))).drewN 2) (.slice (some ⟨g, a, none⟩) n (vc - a)) ((bs.drop a).take n) := by have := ow1.sl.sub a n hn; rwa [Nat.zero_add] at this
    have B := hash11n ok1 HN.out SL
    clear x ow ok0 h0 m1 hm2 s1 ok1 ow1 SL
    go_enter Tryz.func168, Tryz.ntmps168
    go_wp2_with fail
    (try rw [hw0])
    (try rw [hbe])
    refine region_planM (fun W => W.cell? ⟨p, 0, none⟩ = some (.slice (some ⟨g, 0, none⟩) bs.length vc) ∧ W.cell? ⟨p, 1, none⟩ = some (.int .i64 a)) (fun _ => true) (by kernel_rfl) ?_
    refine wpAnyM.takeT (i := 0) (v := _) (some 9) rfl rfl (by kernel_rfl) (by kernel_rfl) (by kernel_rfl) (by kernel_rfl) (by kernel_rfl) (fun _ _ _ h => h) (Or.inl ⟨by rfl, fun W hW => by first | (obtain ⟨q0, q1⟩ := hW; go_simp <;> rfl) | (obtain ⟨q0, q1⟩ := hW; go_simp; done)⟩) K1 ?_
    (try simp only [Act.put, List.setIfInBounds_toArray, List.set_cons_zero, List.set_cons_succ])
    refine wpAnyM.takeT (i := 1) (v := _) (some 10) rfl rfl (by kernel_rfl) (by kernel_rfl) (by kernel_rfl) (by kernel_rfl) (by kernel_rfl) (fun _ _ _ h => h) (Or.inl ⟨by rfl, fun W hW => by first | (obtain ⟨q0, q1⟩ := hW; go_simp <;> rfl) | (obtain ⟨q0, q1⟩ := hW; go_simp; done)⟩) K1 ?_
    (try simp only [Act.put, List.setIfInBounds_toArray, List.set_cons_zero, List.set_cons_succ])
    refine wpAnyM.takeT (i := 2) (v := _) (some 11) rfl rfl (by kernel_rfl) (by kernel_rfl) (by kernel_rfl) (by kernel_rfl) (by kernel_rfl) (fun _ _ _ h => h) (Or.inl ⟨by rfl, fun W hW => by first | (obtain ⟨q0, q1⟩ := hW; go_simp <;> rfl) | (obtain ⟨q0, q1⟩ := hW; go_simp; done)⟩) K1 ?_
    (try simp only [Act.put, List.setIfInBounds_toArray, List.set_cons_zero, List.set_cons_succ])
    refine wpAnyM.takeT (i := 3) (v := _) (some 12) rfl rfl (by kernel_rfl) (by kernel_rfl) (by kernel_rfl) (by kernel_rfl) (by kernel_rfl) (fun _ _ _ h => h) (Or.inl ⟨by rfl, fun W hW => by first | (obtain ⟨q0, q1⟩ := hW; go_simp <;> rfl) | (obtain ⟨q0, q1⟩ := hW; go_simp; done)⟩) K1 ?_
    (try simp only [Act.put, List.setIfInBounds_toArray, List.set_cons_zero, List.set_cons_succ])
    refine wpAnyM.takeT (i := 4) (v := _) (some 13) rfl rfl (by kernel_rfl) (by kernel_rfl) (by kernel_rfl) (by kernel_rfl) (by kernel_rfl) (fun _ _ _ h => h) (Or.inl ⟨by rfl, fun W hW => by first | (obtain ⟨q0, q1⟩ := hW; go_simp <;> rfl) | (obtain ⟨q0, q1⟩ := hW; go_simp; done)⟩) K1 ?_
    (try simp only [Act.put, List.setIfInBounds_toArray, List.set_cons_zero, List.set_cons_succ])
    refine wpAnyM.takeT (i := 5) (v := _) (some 14) rfl rfl (by kernel_rfl) (by kernel_rfl) (by kernel_rfl) (by kernel_rfl) (by kernel_rfl) (fun _ _ _ h => h) (Or.inl ⟨by rfl, fun W hW => by first | (obtain ⟨q0, q1⟩ := hW; go_simp <;> rfl) | (obtain ⟨q0, q1⟩ := hW; go_simp; done)⟩) K1 ?_
    (try simp only [Act.put, List.setIfInBounds_toArray, List.set_cons_zero, List.set_cons_succ])
    refine wpAnyM.takeT (i := 6) (v := _) (some 15) rfl rfl (by kernel_rfl) (by kernel_rfl) (by kernel_rfl) (by kernel_rfl) (by kernel_rfl) (fun _ _ _ h => h) (Or.inl ⟨by rfl, fun W hW => by first | (obtain ⟨q0, q1⟩ := hW; go_simp <;> rfl) | (obtain ⟨q0, q1⟩ := hW; go_simp; done)⟩) K1 ?_
    (try simp only [Act.put, List.setIfInBounds_toArray, List.set_cons_zero, List.set_cons_succ])
    refine wpAnyM.takeT (i := 7) (v := _) (some 16) rfl rfl (by kernel_rfl) (by kernel_rfl) (by kernel_rfl) (by kernel_rfl) (by kernel_rfl) (fun _ _ _ h => h) (Or.inl ⟨by rfl, fun W hW => by first | (obtain ⟨q0, q1⟩ := hW; go_simp <;> rfl) | (obtain ⟨q0, q1⟩ := hW; go_simp; done)⟩) K1 ?_
    (try simp only [Act.put, List.setIfInBounds_toArray, List.set_cons_zero, List.set_cons_succ])
    refine wpAnyM.takeT (i := 8) (v := _) (some 17) rfl rfl (by kernel_rfl) (by kernel_rfl) (by kernel_rfl) (by kernel_rfl) (by kernel_rfl) (fun _ _ _ h => h) (Or.inl ⟨by rfl, fun W hW => by first | (obtain ⟨q0, q1⟩ := hW; go_simp <;> rfl) | (obtain ⟨q0, q1⟩ := hW; go_simp; done)⟩) K1 ?_
    (try simp only [Act.put, List.setIfInBounds_toArray, List.set_cons_zero, List.set_cons_succ])
    refine wpAnyM.takeT (i := 9) (v := _) (some 18) rfl rfl (by kernel_rfl) (by kernel_rfl) (by kernel_rfl) (by kernel_rfl) (by kernel_rfl) (fun _ _ _ h => h) (Or.inl ⟨by rfl, fun W hW => by first | (obtain ⟨q0, q1⟩ := hW; go_simp <;> rfl) | (obtain ⟨q0, q1⟩ := hW; go_simp; done)⟩) K1 ?_
    (try simp only [Act.put, List.setIfInBounds_toArray, List.set_cons_zero, List.set_cons_succ])
    refine wpAnyM.takeT (i := 10) (v := _) (some 19) rfl rfl (by kernel_rfl) (by kernel_rfl) (by kernel_rfl) (by kernel_rfl) (by kernel_rfl) (fun _ _ _ h => h) (Or.inl ⟨by rfl, fun W hW => by first | (obtain ⟨q0, q1⟩ := hW; go_simp <;> rfl) | (obtain ⟨q0, q1⟩ := hW; go_simp; done)⟩) K1 ?_
    (try simp only [Act.put, List.setIfInBounds_toArray, List.set_cons_zero, List.set_cons_succ])
    refine wpAnyM.takeT (i := 11) (v := .bool true) (some 20) rfl rfl (by kernel_rfl) (by kernel_rfl) (by kernel_rfl) (by kernel_rfl) (by kernel_rfl) (fun _ _ _ h => h) (Or.inl ⟨by rfl, fun W hW => by first | (obtain ⟨q0, q1⟩ := hW; go_simp <;> rfl) | (obtain ⟨q0, q1⟩ := hW; go_simp; done)⟩) K1 ?_
    (try simp only [Act.put, List.setIfInBounds_toArray, List.set_cons_zero, List.set_cons_succ])
    refine wpAnyM.takeT (i := 12) (v := _) (some 21) rfl rfl (by kernel_rfl) (by kernel_rfl) (by kernel_rfl) (by kernel_rfl) (by kernel_rfl) (fun _ _ _ h => h) (Or.inl ⟨by rfl, fun W hW => by first | (obtain ⟨q0, q1⟩ := hW; go_simp <;> rfl) | (obtain ⟨q0, q1⟩ := hW; go_simp; done)⟩) K1 ?_
    (try simp only [Act.put, List.setIfInBounds_toArray, List.set_cons_zero, List.set_cons_succ])
    refine wpAnyM.one (i := 13) (by kernel_rfl) rfl (fun KQ hK => ?_)
    go_simp
    refine M.mono ?_
    rintro e w1 ⟨rfl, rfl⟩
    refine hK.out _ _ (fun _ => K1) ?_
    clear hK KQ
    (try simp only [Act.put, List.setIfInBounds_toArray, List.set_cons_zero, List.set_cons_succ])
    refine wpAnyM.done (by kernel_rfl) ?_ _
    go_wp2_with fail
    clear y0 y1 K1 M hd hw
    have K2 : (fun W => W.cell? ⟨p, 0, none⟩ = some (.slice (some ⟨g, 0, none⟩) bs.length vc) ∧ W.cell? ⟨p, 1, none⟩ = some (.int .i64 ((a : Int) + (n : Int)))) (w0.setCell ⟨p, 1, none⟩ (.int .i64 ((a : Int) + (n : Int)))).drew.drew := ⟨z0, z1⟩
    refine region_planM (fun W => W.cell? ⟨p, 0, none⟩ = some (.slice (some ⟨g, 0, none⟩) bs.length vc) ∧ W.cell? ⟨p, 1, none⟩ = some (.int .i64 ((a : Int) + (n : Int)))) (fun _ => true) (by kernel_rfl) ?_
    refine wpAnyM.takeT (i := 0) (v := _) (some 31) rfl rfl (by kernel_rfl) (by kernel_rfl) (by kernel_rfl) (by kernel_rfl) (by kernel_rfl) (fun _ _ _ h => h) (Or.inl ⟨by rfl, fun W hW => by first | (obtain ⟨q0, q1⟩ := hW; go_simp <;> rfl) | (obtain ⟨q0, q1⟩ := hW; go_simp; done)⟩) K2 ?_
    (try simp only [Act.put, List.setIfInBounds_toArray, List.set_cons_zero, List.set_cons_succ])
    refine wpAnyM.takeT (i := 1) (v := _) (some 32) rfl rfl (by kernel_rfl) (by kernel_rfl) (by kernel_rfl) (by kernel_rfl) (by kernel_rfl) (fun _ _ _ h => h) (Or.inl ⟨by rfl, fun W hW => by first | (obtain ⟨q0, q1⟩ := hW; go_simp <;> rfl) | (obtain ⟨q0, q1⟩ := hW; go_simp; done)⟩) K2 ?_
    (try simp only [Act.put, List.setIfInBounds_toArray, List.set_cons_zero, List.set_cons_succ])
    refine wpAnyM.takeT (i := 2) (v := _) (some 33) rfl rfl (by kernel_rfl) (by kernel_rfl) (by kernel_rfl) (by kernel_rfl) (by kernel_rfl) (fun _ _ _ h => h) (Or.inl ⟨by rfl, fun W hW => by first | (obtain ⟨q0, q1⟩ := hW; go_simp <;> rfl) | (obtain ⟨q0, q1⟩ := hW; go_simp; done)⟩) K2 ?_
    (try simp only [Act.put, List.setIfInBounds_toArray, List.set_cons_zero, List.set_cons_succ])
    refine wpAnyM.takeT (i := 3) (v := _) (some 34) rfl rfl (by kernel_rfl) (by kernel_rfl) (by kernel_rfl) (by kernel_rfl) (by kernel_rfl) (fun _ _ _ h => h) (Or.inl ⟨by rfl, fun W hW => by first | (obtain ⟨q0, q1⟩ := hW; go_simp <;> rfl) | (obtain ⟨q0, q1⟩ := hW; go_simp; done)⟩) K2 ?_
    (try simp only [Act.put, List.setIfInBounds_toArray, List.set_cons_zero, List.set_cons_succ])
    refine wpAnyM.takeT (i := 4) (v := _) (some 35) rfl rfl (by kernel_rfl) (by kernel_rfl) (by kernel_rfl) (by kernel_rfl) (by kernel_rfl) (fun _ _ _ h => h) (Or.inl ⟨by rfl, fun W hW => by first | (obtain ⟨q0, q1⟩ := hW; go_simp <;> rfl) | (obtain ⟨q0, q1⟩ := hW; go_simp; done)⟩) K2 ?_
    (try simp only [Act.put, List.setIfInBounds_toArray, List.set_cons_zero, List.set_cons_succ])
    refine wpAnyM.takeT (i := 5) (v := _) (some 36) rfl rfl (by kernel_rfl) (by kernel_rfl) (by kernel_rfl) (by kernel_rfl) (by kernel_rfl) (fun _ _ _ h => h) (Or.inl ⟨by rfl, fun W hW => by first | (obtain ⟨q0, q1⟩ := hW; go_simp <;> rfl) | (obtain ⟨q0, q1⟩ := hW; go_simp; done)⟩) K2 ?_
    (try simp only [Act.put, List.setIfInBounds_toArray, List.set_cons_zero, List.set_cons_succ])
    refine wpAnyM.takeT (i := 6) (v := _) (some 37) rfl rfl (by kernel_rfl) (by kernel_rfl) (by kernel_rfl) (by kernel_rfl) (by kernel_rfl) (fun _ _ _ h => h) (Or.inl ⟨by rfl, fun W hW => by first | (obtain ⟨q0, q1⟩ := hW; go_simp <;> rfl) | (obtain ⟨q0, q1⟩ := hW; go_simp; done)⟩) K2 ?_
    (try simp only [Act.put, List.setIfInBounds_toArray, List.set_cons_zero, List.set_cons_succ])
    refine wpAnyM.takeT (i := 7) (v := _) (some 38) rfl rfl (by kernel_rfl) (by kernel_rfl) (by kernel_rfl) (by kernel_rfl) (by kernel_rfl) (fun _ _ _ h => h) (Or.inl ⟨by rfl, fun W hW => by first | (obtain ⟨q0, q1⟩ := hW; go_simp <;> rfl) | (obtain ⟨q0, q1⟩ := hW; go_simp; done)⟩) K2 ?_
    (try simp only [Act.put, List.setIfInBounds_toArray, List.set_cons_zero, List.set_cons_succ])
    refine wpAnyM.takeT (i := 8) (v := _) (some 39) rfl rfl (by kernel_rfl) (by kernel_rfl) (by kernel_rfl) (by kernel_rfl) (by kernel_rfl) (fun _ _ _ h => h) (Or.inl ⟨by rfl, fun W hW => by first | (obtain ⟨q0, q1⟩ := hW; go_simp <;> rfl) | (obtain ⟨q0, q1⟩ := hW; go_simp; done)⟩) K2 ?_
    (try simp only [Act.put, List.setIfInBounds_toArray, List.set_cons_zero, List.set_cons_succ])
    refine wpAnyM.takeT (i := 9) (v := _) (some 40) rfl rfl (by kernel_rfl) (by kernel_rfl) (by kernel_rfl) (by kernel_rfl) (by kernel_rfl) (fun _ _ _ h => h) (Or.inl ⟨by rfl, fun W hW => by first | (obtain ⟨q0, q1⟩ := hW; go_simp <;> rfl) | (obtain ⟨q0, q1⟩ := hW; go_simp; done)⟩) K2 ?_
    (try simp only [Act.put, List.setIfInBounds_toArray, List.set_cons_zero, List.set_cons_succ])
    refine wpAnyM.takeT (i := 10) (v := .int .i64 a) (some 41) rfl rfl (by kernel_rfl) (by kernel_rfl) (by kernel_rfl) (by kernel_rfl) (by kernel_rfl) (fun _ _ _ h => h) (Or.inl ⟨by rfl, fun W hW => by first | (obtain ⟨q0, q1⟩ := hW; go_simp <;> rfl) | (obtain ⟨q0, q1⟩ := hW; go_simp; done)⟩) K2 ?_
    (try simp only [Act.put, List.setIfInBounds_toArray, List.set_cons_zero, List.set_cons_succ])
    refine wpAnyM.takeT (i := 11) (v := _) (some 42) rfl rfl (by kernel_rfl) (by kernel_rfl) (by kernel_rfl) (by kernel_rfl) (by kernel_rfl) (fun _ _ _ h => h) (Or.inl ⟨by rfl, fun W hW => by first | (obtain ⟨q0, q1⟩ := hW; go_simp <;> rfl) | (obtain ⟨q0, q1⟩ := hW; go_simp; done)⟩) K2 ?_
    (try simp only [Act.put, List.setIfInBounds_toArray, List.set_cons_zero, List.set_cons_succ])
    refine wpAnyM.takeT (i := 12) (v := _) (some 43) rfl rfl (by kernel_rfl) (by kernel_rfl) (by kernel_rfl) (by kernel_rfl) (by kernel_rfl) (fun _ _ _ h => h) (Or.inl ⟨by rfl, fun W hW => by first | (obtain ⟨q0, q1⟩ := hW; go_simp <;> rfl) | (obtain ⟨q0, q1⟩ := hW; go_simp; done)⟩) K2 ?_
    (try simp only [Act.put, List.setIfInBounds_toArray, List.set_cons_zero, List.set_cons_succ])
    refine wpAnyM.takeT (i := 13) (v := _) (some 44) rfl rfl (by kernel_rfl) (by kernel_rfl) (by kernel_rfl) (by kernel_rfl) (by kernel_rfl) (fun _ _ _ h => h) (Or.inl ⟨by rfl, fun W hW => by first | (obtain ⟨q0, q1⟩ := hW; go_simp <;> rfl) | (obtain ⟨q0, q1⟩ := hW; go_simp; done)⟩) K2 ?_
    (try simp only [Act.put, List.setIfInBounds_toArray, List.set_cons_zero, List.set_cons_succ])
    refine wpAnyM.takeT (i := 14) (v := _) (some 45) rfl rfl (by kernel_rfl) (by kernel_rfl) (by kernel_rfl) (by kernel_rfl) (by kernel_rfl) (fun _ _ _ h => h) (Or.inl ⟨by rfl, fun W hW => by first | (obtain ⟨q0, q1⟩ := hW; go_simp <;> rfl) | (obtain ⟨q0, q1⟩ := hW; go_simp; done)⟩) K2 ?_
    (try simp only [Act.put, List.setIfInBounds_toArray, List.set_cons_zero, List.set_cons_succ])
    refine wpAnyM.takeT (i := 15) (v := .slice (some ⟨g, a, none⟩) n (vc - a)) (some 46) rfl rfl (by kernel_rfl) (by kernel_rfl) (by kernel_rfl) (by kernel_rfl) (by kernel_rfl) (fun _ _ _ h => h) (Or.inl ⟨by rfl, fun W hW => by first | (obtain ⟨q0, q1⟩ := hW; go_simp <;> rfl) | (obtain ⟨q0, q1⟩ := hW; go_simp; done)⟩) K2 ?_
    (try simp only [Act.put, List.setIfInBounds_toArray, List.set_cons_zero, List.set_cons_succ])
    refine wpAnyM.one (i := 16) (by kernel_rfl) rfl (fun KQ hK => ?_)
    go_simp
    refine B.mono ?_
    rintro e w1 ⟨rfl, hBl0, c2, s2, o2⟩
    have K3 : (fun W : World => W.cell? ⟨p, 0, none⟩ = some (.slice (some ⟨g, 0, none⟩) bs.length vc) ∧ W.cell? ⟨p, 1, none⟩ = some (.int .i64 ((a : Int) + (n : Int)))) w1 := ⟨(s2.cell HL.out (fun h0 => h0)).trans z0, (s2.cell HL.out (fun h0 => h0)).trans z1⟩
    obtain ⟨B, hB⟩ : ∃ B, bC ((bs.drop a).take n) = B := ⟨_, rfl⟩
    have hB1 : ∀ v ∈ B, v.oneCell' = true := by rw [← hB]; exact bC_one _
    have hBl : B.length = 32 := by rw [← hB, bC_len]; exact hBl0
    rw [hB]
    have a1 := A0.out.keep s2 (fun h0 => h0)
    have hi0 : (Tryz.prog.info? 51).map (·.size) = some B.length := by rw [info_hash, hBl]
    have hi1 : (Tryz.prog.info? 51).map (·.size) = some B.toArray.size := by rw [info_hash]; simp [hBl]
    have ht0 := a1.there (o := 0) (n := B.toArray.size) o2 hq0 (by simp [bC_len, hBl])
    obtain ⟨S0, a2⟩ := a1.st o2 hq0 (ty := 51) (us := B) (by simp [bC_len, hBl]) hi0 hB1
    have s3 : Step (One q) c2 w1 c2 (w1.setCells b0 0 B) := Step.setCells (.inr a1.col) _ _ _ Step.refl
    have K4 : (fun W : World => W.cell? ⟨p, 0, none⟩ = some (.slice (some ⟨g, 0, none⟩) bs.length vc) ∧ W.cell? ⟨p, 1, none⟩ = some (.int .i64 ((a : Int) + (n : Int)))) (w1.setCells b0 0 B) := ⟨(World.cell?_setCells_out b0 B 0 w1 ⟨p, 0, none⟩ (fun e _ => absurd e hpb)).trans K3.1, (World.cell?_setCells_out b0 B 0 w1 ⟨p, 1, none⟩ (fun e _ => absurd e hpb)).trans K3.2⟩
    have HX := Lib.hid (And.intro a2 (And.intro ((HH.out.1.kn s2).keep s3 (show ¬ k = q by omega) (show ¬ 0 = q by omega)) (And.intro (Step.setCells (.inl hb0) B 0 _ ((S00.out.ofNo.trans HH.out.2).trans s2.ofNo)) (And.intro (Ok.setCells (b := b0) B 0 _ o2) (And.intro hB (And.intro ht0 (And.intro hi0 (And.intro hi1 (all_oneCell_toArray hB1)))))))))
    clear a1 a2 s2 o2 s3 S0 hB hB1 hBl hBl0 ht0 hi0 hi1
    refine hK.out _ _ (fun _ => K3) ?_
    clear hK KQ
    (try simp only [Act.put, List.setIfInBounds_toArray, List.set_cons_zero, List.set_cons_succ])
    refine wpAnyM.one (i := 17) (by kernel_rfl) rfl (fun KQ hK => ?_)
    refine step_store rfl 51 _ _ rfl b0 0 B.toArray rfl rfl HX.out.2.2.2.2.2.1 HX.out.2.2.2.2.2.2.2.1 HX.out.2.2.2.2.2.2.2.2 ?_
    simp only [List.toList_toArray]
    refine hK.out _ _ (fun _ => K4) ?_
    clear hK KQ
    (try simp only [Act.put, List.setIfInBounds_toArray, List.set_cons_zero, List.set_cons_succ])
    refine wpAnyM.done (by kernel_rfl) ?_ _
    go_wp2_with fail
    refine bodyPost_ret (results_cell_mid rfl _ _ b0 0 B _ rfl HX.out.1.cells Tryz.underlying51 rfl HX.out.2.2.2.2.2.2.1) rfl ⟨by rw [HX.out.2.2.2.2.1], c2, HX.out.2.1, HX.out.2.2.1, HX.out.2.2.2.1⟩

theorem key11n (hok : Ok c w) {kx : Nat} {g off cap n : Nat} {l : List UInt8} (hn : n = 4) (h : Sl TByte c kx 0 w (.slice (some ⟨g, off, none⟩) n cap) l) :
    Calls Tryz.prog 177 #[.slice (some ⟨g, off, none⟩) n cap] w fun r w' => r = .returned (.agg (bC l).toArray) ∧ l.length = 4 ∧ ∃ c', Step No c w c' w' ∧ Ok c' w' := by
  subst hn
  exact key11_any hok h

set_option maxRecDepth 100000 in
set_option maxHeartbeats 1600000 in
theorem take_key (hok : Ok c w) {k p : Nat} {bs : List UInt8} {a : Nat} {f : Int × Int} (h : IsRd c k w p bs a f) (hk0 : k ≠ 0) (n : Nat) (hn : a + n ≤ bs.length) (hN : n = 4) (at0 : Int) :
    Calls Tryz.prog 176 #[.pointer (some ⟨p, 0, none⟩), .int .i64 n, .int .i64 at0, .func (.func 177) #[] #[]] w fun r w' => r = .returned (.agg (bC ((bs.drop a).take n)).toArray) ∧ ∃ c', IsRd c' k w' p bs (a + n) f ∧ Step (One k) c w c' w' ∧ Ok c' w' := by
  obtain ⟨q, hq, hqc⟩ := hok.spare k
  have hq0 : q ≠ 0 := by omega
  obtain ⟨a0, ok0, s00⟩ := newAt hok (bC (List.replicate 4 0)) 91 q
  have h0 := h.kn s00
  rw [show (bC (List.replicate 4 0)).toArray = #[.int .u8 0, .int .u8 0, .int .u8 0, .int .u8 0] from rfl] at a0 ok0 s00 h0
  obtain ⟨w0, hw0⟩ : ∃ w0, w.alloc (.cells #[.int .u8 0, .int .u8 0, .int .u8 0, .int .u8 0] 91) = w0 := ⟨_, rfl⟩
  obtain ⟨c0, hc0⟩ : ∃ c0, c.put w.heap.size q = c0 := ⟨_, rfl⟩
  obtain ⟨b0, hbe⟩ : ∃ b0, w.heap.size = b0 := ⟨_, rfl⟩
  have hb0 : w.heap.size ≤ b0 := by omega
  rw [hw0, hc0] at a0 ok0 s00 h0
  rw [hbe] at a0
  have hpb : p ≠ b0 := fun e => by
    obtain ⟨_, xx, _⟩ := h0.row
    have e1 := xx.col
    have e2 := a0.col
    rw [e, e2] at e1
    omega
  have S00 := Lib.hid s00
  have HN := Lib.hid hN
  clear s00 h hok hqc hc0 hN
  obtain ⟨bv, x, ow⟩ := h0.row
  have hle := h0.le
  have hfew := h0.few
  obtain ⟨va, vc, hbv, hcap, hcase⟩ : ∃ va vc, bv = .slice va bs.length vc ∧ bs.length ≤ vc ∧ ((va = none ∧ vc = 0) ∨ ∃ g, va = some ⟨g, 0, none⟩) := by
    rcases ow.form2 with ⟨rfl, rfl⟩ | ⟨g, cap, rfl, hc⟩
    · exact ⟨none, 0, rfl, Nat.le_refl _, .inl ⟨rfl, rfl⟩⟩
    · exact ⟨_, cap, rfl, hc, .inr ⟨g, rfl⟩⟩
  subst hbv
  have y0 := x.get (i := 0) rfl
  have y1 := x.get (i := 1) rfl
  have y1f := x.fz ok0 hk0 1
  have hcp : c0 p = k := x.col
  have hd : decide ((n : Int) ≤ (bs.length : Int) - (a : Int)) = true := by simp; omega
  have hw : IntKind.i64.wrap ((bs.length : Int) - (a : Int)) = (bs.length : Int) - (a : Int) := IntWalk.i64_in _ (by omega)
  have hw2 : IntKind.i64.wrap ((a : Int) + (n : Int)) = (a : Int) + (n : Int) := IntWalk.i64_in _ (by omega)
  have hw3 : IntKind.i64.wrap (a : Int) = (a : Int) := IntWalk.i64_in _ (by omega)
  have ht : ((a : Int) + (n : Int)).toNat - a = n := by omega
  have ha0 : (0 : Int) ≤ (a : Int) := by omega
  have ha1 : (a : Int) ≤ (a : Int) + (n : Int) := by omega
  have ha2 : (a : Int) + (n : Int) ≤ (vc : Int) := by omega
  have M := must_yes w0.drew 6 at0
  have m1 := h0.move hk0 (a' := a + n) hn
  rw [Int.natCast_add] at m1
  have z0 : (w0.setCell ⟨p, 1, none⟩ (.int .i64 ((a : Int) + (n : Int)))).drew.drew.cell? ⟨p, 0, none⟩ = some (.slice va bs.length vc) := by
    show (w0.setCell ⟨p, 1, none⟩ (.int .i64 ((a : Int) + (n : Int)))).cell? ⟨p, 0, none⟩ = _
    rw [World.cell?_setCell_other _ _ _ _ (by intro e; injection e with e1 e2; cases e2)]; exact y0
  have z1 : (w0.setCell ⟨p, 1, none⟩ (.int .i64 ((a : Int) + (n : Int)))).drew.drew.cell? ⟨p, 1, none⟩ = some (.int .i64 ((a : Int) + (n : Int))) :=
    World.cell?_setCell_same' _ _ _ (by rw [y1]; rfl)
  have s1 : Step (One k) c0 w0 c0 ((w0.setCell ⟨p, 1, none⟩ (.int .i64 ((a : Int) + (n : Int)))).drewN 2) := ((Step.refl (K := One k)).setCell (a := ⟨p, 1, none⟩) (.inr x.col) _).drewN 2
  have ok1 : Ok c0 ((w0.setCell ⟨p, 1, none⟩ (.int .i64 ((a : Int) + (n : Int)))).drewN 2) := (ok0.setCell _ _).drewN 2
  have ow1 : Own TByte 5 c0 0 0 ((w0.setCell ⟨p, 1, none⟩ (.int .i64 ((a : Int) + (n : Int)))).drewN 2) (.slice va bs.length vc) bs := (ow.set (a := ⟨p, 1, none⟩) (by show c0 p ≠ 0; omega) (by show c0 p ≠ 0; omega) _).kn (Step.rf.drewN 2)
  have hm2 := m1.kn (Step.rf.drewN 2)
  have HH := Lib.hid (And.intro hm2 s1)
  have OK := Lib.hid ok1
  have K1 : (fun W => W.cell? ⟨p, 0, none⟩ = some (.slice va bs.length vc) ∧ W.cell? ⟨p, 1, none⟩ = some (.int .i64 a)) w0.drew := ⟨y0, y1⟩
  by_cases hca : vc = a
  · exact absurd hca (by have := HN.out; omega)
  · obtain ⟨g, rfl⟩ : ∃ g, va = some ⟨g, 0, none⟩ := by
      rcases hcase with ⟨rfl, rfl⟩ | h0
      · exact absurd (by omega) hca
      · exact h0
    have HL := Lib.hid (show p < ((w0.setCell ⟨p, 1, none⟩ (.int .i64 ((a : Int) + (n : Int)))).drewN 2).heap.size by obtain ⟨_, xx, _⟩ := hm2.row; exact xx.lt)
    have A0 := Lib.hid (show At c0 ((w0.setCell ⟨p, 1, none⟩ (.int .i64 ((a : Int) + (n : Int)))).drewN 2) b0 q (bC (List.replicate 4 0)) from (a0.offC p 1 _ (fun e => hpb e.symm)).keep (Step.rf.drewN 2) (fun h0 => h0))
    have SL : Sl TByte c0 0 0 ((w0.setCell ⟨p, 1, none⟩ (.int .i64 ((a : Int) + (n : Int)))).drewN 2) (.slice (some ⟨g, a, none⟩) n (vc - a)) ((bs.drop a).take n) := by have := ow1.sl.sub a n hn; rwa [Nat.zero_add] at this
    have B := key11n ok1 HN.out SL
    clear x ow ok0 h0 m1 hm2 s1 ok1 ow1 SL
    go_enter Tryz.func176, Tryz.ntmps176
    go_wp2_with fail
    (try rw [hw0])
    (try rw [hbe])
    refine region_planM (fun W => W.cell? ⟨p, 0, none⟩ = some (.slice (some ⟨g, 0, none⟩) bs.length vc) ∧ W.cell? ⟨p, 1, none⟩ = some (.int .i64 a)) (fun _ => true) (by kernel_rfl) ?_
    refine wpAnyM.takeT (i := 0) (v := _) (some 9) rfl rfl (by kernel_rfl) (by kernel_rfl) (by kernel_rfl) (by kernel_rfl) (by kernel_rfl) (fun _ _ _ h => h) (Or.inl ⟨by rfl, fun W hW => by first | (obtain ⟨q0, q1⟩ := hW; go_simp <;> rfl) | (obtain ⟨q0, q1⟩ := hW; go_simp; done)⟩) K1 ?_
    (try simp only [Act.put, List.setIfInBounds_toArray, List.set_cons_zero, List.set_cons_succ])
    refine wpAnyM.takeT (i := 1) (v := _) (some 10) rfl rfl (by kernel_rfl) (by kernel_rfl) (by kernel_rfl) (by kernel_rfl) (by kernel_rfl) (fun _ _ _ h => h) (Or.inl ⟨by rfl, fun W hW => by first | (obtain ⟨q0, q1⟩ := hW; go_simp <;> rfl) | (obtain ⟨q0, q1⟩ := hW; go_simp; done)⟩) K1 ?_
    (try simp only [Act.put, List.setIfInBounds_toArray, List.set_cons_zero, List.set_cons_succ])
    refine wpAnyM.takeT (i := 2) (v := _) (some 11) rfl rfl (by kernel_rfl) (by kernel_rfl) (by kernel_rfl) (by kernel_rfl) (by kernel_rfl) (fun _ _ _ h => h) (Or.inl ⟨by rfl, fun W hW => by first | (obtain ⟨q0, q1⟩ := hW; go_simp <;> rfl) | (obtain ⟨q0, q1⟩ := hW; go_simp; done)⟩) K1 ?_
    (try simp only [Act.put, List.setIfInBounds_toArray, List.set_cons_zero, List.set_cons_succ])
    refine wpAnyM.takeT (i := 3) (v := _) (some 12) rfl rfl (by kernel_rfl) (by kernel_rfl) (by kernel_rfl) (by kernel_rfl) (by kernel_rfl) (fun _ _ _ h => h) (Or.inl ⟨by rfl, fun W hW => by first | (obtain ⟨q0, q1⟩ := hW; go_simp <;> rfl) | (obtain ⟨q0, q1⟩ := hW; go_simp; done)⟩) K1 ?_
    (try simp only [Act.put, List.setIfInBounds_toArray, List.set_cons_zero, List.set_cons_succ])
    refine wpAnyM.takeT (i := 4) (v := _) (some 13) rfl rfl (by kernel_rfl) (by kernel_rfl) (by kernel_rfl) (by kernel_rfl) (by kernel_rfl) (fun _ _ _ h => h) (Or.inl ⟨by rfl, fun W hW => by first | (obtain ⟨q0, q1⟩ := hW; go_simp <;> rfl) | (obtain ⟨q0, q1⟩ := hW; go_simp; done)⟩) K1 ?_
    (try simp only [Act.put, List.setIfInBounds_toArray, List.set_cons_zero, List.set_cons_succ])
    refine wpAnyM.takeT (i := 5) (v := _) (some 14) rfl rfl (by kernel_rfl) (by kernel_rfl) (by kernel_rfl) (by kernel_rfl) (by kernel_rfl) (fun _ _ _ h => h) (Or.inl ⟨by rfl, fun W hW => by first | (obtain ⟨q0, q1⟩ := hW; go_simp <;> rfl) | (obtain ⟨q0, q1⟩ := hW; go_simp; done)⟩) K1 ?_
    (try simp only [Act.put, List.setIfInBounds_toArray, List.set_cons_zero, List.set_cons_succ])
    refine wpAnyM.takeT (i := 6) (v := _) (some 15) rfl rfl (by kernel_rfl) (by kernel_rfl) (by kernel_rfl) (by kernel_rfl) (by kernel_rfl) (fun _ _ _ h => h) (Or.inl ⟨by rfl, fun W hW => by first | (obtain ⟨q0, q1⟩ := hW; go_simp <;> rfl) | (obtain ⟨q0, q1⟩ := hW; go_simp; done)⟩) K1 ?_
    (try simp only [Act.put, List.setIfInBounds_toArray, List.set_cons_zero, List.set_cons_succ])
    refine wpAnyM.takeT (i := 7) (v := _) (some 16) rfl rfl (by kernel_rfl) (by kernel_rfl) (by kernel_rfl) (by kernel_rfl) (by kernel_rfl) (fun _ _ _ h => h) (Or.inl ⟨by rfl, fun W hW => by first | (obtain ⟨q0, q1⟩ := hW; go_simp <;> rfl) | (obtain ⟨q0, q1⟩ := hW; go_simp; done)⟩) K1 ?_
    (try simp only [Act.put, List.setIfInBounds_toArray, List.set_cons_zero, List.set_cons_succ])
    refine wpAnyM.takeT (i := 8) (v := _) (some 17) rfl rfl (by kernel_rfl) (by kernel_rfl) (by kernel_rfl) (by kernel_rfl) (by kernel_rfl) (fun _ _ _ h => h) (Or.inl ⟨by rfl, fun W hW => by first | (obtain ⟨q0, q1⟩ := hW; go_simp <;> rfl) | (obtain ⟨q0, q1⟩ := hW; go_simp; done)⟩) K1 ?_
    (try simp only [Act.put, List.setIfInBounds_toArray, List.set_cons_zero, List.set_cons_succ])
    refine wpAnyM.takeT (i := 9) (v := _) (some 18) rfl rfl (by kernel_rfl) (by kernel_rfl) (by kernel_rfl) (by kernel_rfl) (by kernel_rfl) (fun _ _ _ h => h) (Or.inl ⟨by rfl, fun W hW => by first | (obtain ⟨q0, q1⟩ := hW; go_simp <;> rfl) | (obtain ⟨q0, q1⟩ := hW; go_simp; done)⟩) K1 ?_
    (try simp only [Act.put, List.setIfInBounds_toArray, List.set_cons_zero, List.set_cons_succ])
    refine wpAnyM.takeT (i := 10) (v := _) (some 19) rfl rfl (by kernel_rfl) (by kernel_rfl) (by kernel_rfl) (by kernel_rfl) (by kernel_rfl) (fun _ _ _ h => h) (Or.inl ⟨by rfl, fun W hW => by first | (obtain ⟨q0, q1⟩ := hW; go_simp <;> rfl) | (obtain ⟨q0, q1⟩ := hW; go_simp; done)⟩) K1 ?_
    (try simp only [Act.put, List.setIfInBounds_toArray, List.set_cons_zero, List.set_cons_succ])
    refine wpAnyM.takeT (i := 11) (v := .bool true) (some 20) rfl rfl (by kernel_rfl) (by kernel_rfl) (by kernel_rfl) (by kernel_rfl) (by kernel_rfl) (fun _ _ _ h => h) (Or.inl ⟨by rfl, fun W hW => by first | (obtain ⟨q0, q1⟩ := hW; go_simp <;> rfl) | (obtain ⟨q0, q1⟩ := hW; go_simp; done)⟩) K1 ?_
    (try simp only [Act.put, List.setIfInBounds_toArray, List.set_cons_zero, List.set_cons_succ])
    refine wpAnyM.takeT (i := 12) (v := _) (some 21) rfl rfl (by kernel_rfl) (by kernel_rfl) (by kernel_rfl) (by kernel_rfl) (by kernel_rfl) (fun _ _ _ h => h) (Or.inl ⟨by rfl, fun W hW => by first | (obtain ⟨q0, q1⟩ := hW; go_simp <;> rfl) | (obtain ⟨q0, q1⟩ := hW; go_simp; done)⟩) K1 ?_
    (try simp only [Act.put, List.setIfInBounds_toArray, List.set_cons_zero, List.set_cons_succ])
    refine wpAnyM.one (i := 13) (by kernel_rfl) rfl (fun KQ hK => ?_)
    go_simp
    refine M.mono ?_
    rintro e w1 ⟨rfl, rfl⟩
    refine hK.out _ _ (fun _ => K1) ?_
    clear hK KQ
    (try simp only [Act.put, List.setIfInBounds_toArray, List.set_cons_zero, List.set_cons_succ])
    refine wpAnyM.done (by kernel_rfl) ?_ _
    go_wp2_with fail
    clear y0 y1 K1 M hd hw
    have K2 : (fun W => W.cell? ⟨p, 0, none⟩ = some (.slice (some ⟨g, 0, none⟩) bs.length vc) ∧ W.cell? ⟨p, 1, none⟩ = some (.int .i64 ((a : Int) + (n : Int)))) (w0.setCell ⟨p, 1, none⟩ (.int .i64 ((a : Int) + (n : Int)))).drew.drew := ⟨z0, z1⟩
    refine region_planM (fun W => W.cell? ⟨p, 0, none⟩ = some (.slice (some ⟨g, 0, none⟩) bs.length vc) ∧ W.cell? ⟨p, 1, none⟩ = some (.int .i64 ((a : Int) + (n : Int)))) (fun _ => true) (by kernel_rfl) ?_
    refine wpAnyM.takeT (i := 0) (v := _) (some 31) rfl rfl (by kernel_rfl) (by kernel_rfl) (by kernel_rfl) (by kernel_rfl) (by kernel_rfl) (fun _ _ _ h => h) (Or.inl ⟨by rfl, fun W hW => by first | (obtain ⟨q0, q1⟩ := hW; go_simp <;> rfl) | (obtain ⟨q0, q1⟩ := hW; go_simp; done)⟩) K2 ?_
    (try simp only [Act.put, List.setIfInBounds_toArray, List.set_cons_zero, List.set_cons_succ])
    refine wpAnyM.takeT (i := 1) (v := _) (some 32) rfl rfl (by kernel_rfl) (by kernel_rfl) (by kernel_rfl) (by kernel_rfl) (by kernel_rfl) (fun _ _ _ h => h) (Or.inl ⟨by rfl, fun W hW => by first | (obtain ⟨q0, q1⟩ := hW; go_simp <;> rfl) | (obtain ⟨q0, q1⟩ := hW; go_simp; done)⟩) K2 ?_
    (try simp only [Act.put, List.setIfInBounds_toArray, List.set_cons_zero, List.set_cons_succ])
    refine wpAnyM.takeT (i := 2) (v := _) (some 33) rfl rfl (by kernel_rfl) (by kernel_rfl) (by kernel_rfl) (by kernel_rfl) (by kernel_rfl) (fun _ _ _ h => h) (Or.inl ⟨by rfl, fun W hW => by first | (obtain ⟨q0, q1⟩ := hW; go_simp <;> rfl) | (obtain ⟨q0, q1⟩ := hW; go_simp; done)⟩) K2 ?_
    (try simp only [Act.put, List.setIfInBounds_toArray, List.set_cons_zero, List.set_cons_succ])
    refine wpAnyM.takeT (i := 3) (v := _) (some 34) rfl rfl (by kernel_rfl) (by kernel_rfl) (by kernel_rfl) (by kernel_rfl) (by kernel_rfl) (fun _ _ _ h => h) (Or.inl ⟨by rfl, fun W hW => by first | (obtain ⟨q0, q1⟩ := hW; go_simp <;> rfl) | (obtain ⟨q0, q1⟩ := hW; go_simp; done)⟩) K2 ?_
    (try simp only [Act.put, List.setIfInBounds_toArray, List.set_cons_zero, List.set_cons_succ])
    refine wpAnyM.takeT (i := 4) (v := _) (some 35) rfl rfl (by kernel_rfl) (by kernel_rfl) (by kernel_rfl) (by kernel_rfl) (by kernel_rfl) (fun _ _ _ h => h) (Or.inl ⟨by rfl, fun W hW => by first | (obtain ⟨q0, q1⟩ := hW; go_simp <;> rfl) | (obtain ⟨q0, q1⟩ := hW; go_simp; done)⟩) K2 ?_
    (try simp only [Act.put, List.setIfInBounds_toArray, List.set_cons_zero, List.set_cons_succ])
    refine wpAnyM.takeT (i := 5) (v := _) (some 36) rfl rfl (by kernel_rfl) (by kernel_rfl) (by kernel_rfl) (by kernel_rfl) (by kernel_rfl) (fun _ _ _ h => h) (Or.inl ⟨by rfl, fun W hW => by first | (obtain ⟨q0, q1⟩ := hW; go_simp <;> rfl) | (obtain ⟨q0, q1⟩ := hW; go_simp; done)⟩) K2 ?_
    (try simp only [Act.put, List.setIfInBounds_toArray, List.set_cons_zero, List.set_cons_succ])
    refine wpAnyM.takeT (i := 6) (v := _) (some 37) rfl rfl (by kernel_rfl) (by kernel_rfl) (by kernel_rfl) (by kernel_rfl) (by kernel_rfl) (fun _ _ _ h => h) (Or.inl ⟨by rfl, fun W hW => by first | (obtain ⟨q0, q1⟩ := hW; go_simp <;> rfl) | (obtain ⟨q0, q1⟩ := hW; go_simp; done)⟩) K2 ?_
    (try simp only [Act.put, List.setIfInBounds_toArray, List.set_cons_zero, List.set_cons_succ])
    refine wpAnyM.takeT (i := 7) (v := _) (some 38) rfl rfl (by kernel_rfl) (by kernel_rfl) (by kernel_rfl) (by kernel_rfl) (by kernel_rfl) (fun _ _ _ h => h) (Or.inl ⟨by rfl, fun W hW => by first | (obtain ⟨q0, q1⟩ := hW; go_simp <;> rfl) | (obtain ⟨q0, q1⟩ := hW; go_simp; done)⟩) K2 ?_
    (try simp only [Act.put, List.setIfInBounds_toArray, List.set_cons_zero, List.set_cons_succ])
    refine wpAnyM.takeT (i := 8) (v := _) (some 39) rfl rfl (by kernel_rfl) (by kernel_rfl) (by kernel_rfl) (by kernel_rfl) (by kernel_rfl) (fun _ _ _ h => h) (Or.inl ⟨by rfl, fun W hW => by first | (obtain ⟨q0, q1⟩ := hW; go_simp <;> rfl) | (obtain ⟨q0, q1⟩ := hW; go_simp; done)⟩) K2 ?_
    (try simp only [Act.put, List.setIfInBounds_toArray, List.set_cons_zero, List.set_cons_succ])
    refine wpAnyM.takeT (i := 9) (v := _) (some 40) rfl rfl (by kernel_rfl) (by kernel_rfl) (by kernel_rfl) (by kernel_rfl) (by kernel_rfl) (fun _ _ _ h => h) (Or.inl ⟨by rfl, fun W hW => by first | (obtain ⟨q0, q1⟩ := hW; go_simp <;> rfl) | (obtain ⟨q0, q1⟩ := hW; go_simp; done)⟩) K2 ?_
    (try simp only [Act.put, List.setIfInBounds_toArray, List.set_cons_zero, List.set_cons_succ])
    refine wpAnyM.takeT (i := 10) (v := .int .i64 a) (some 41) rfl rfl (by kernel_rfl) (by kernel_rfl) (by kernel_rfl) (by kernel_rfl) (by kernel_rfl) (fun _ _ _ h => h) (Or.inl ⟨by rfl, fun W hW => by first | (obtain ⟨q0, q1⟩ := hW; go_simp <;> rfl) | (obtain ⟨q0, q1⟩ := hW; go_simp; done)⟩) K2 ?_
    (try simp only [Act.put, List.setIfInBounds_toArray, List.set_cons_zero, List.set_cons_succ])
    refine wpAnyM.takeT (i := 11) (v := _) (some 42) rfl rfl (by kernel_rfl) (by kernel_rfl) (by kernel_rfl) (by kernel_rfl) (by kernel_rfl) (fun _ _ _ h => h) (Or.inl ⟨by rfl, fun W hW => by first | (obtain ⟨q0, q1⟩ := hW; go_simp <;> rfl) | (obtain ⟨q0, q1⟩ := hW; go_simp; done)⟩) K2 ?_
    (try simp only [Act.put, List.setIfInBounds_toArray, List.set_cons_zero, List.set_cons_succ])
    refine wpAnyM.takeT (i := 12) (v := _) (some 43) rfl rfl (by kernel_rfl) (by kernel_rfl) (by kernel_rfl) (by kernel_rfl) (by kernel_rfl) (fun _ _ _ h => h) (Or.inl ⟨by rfl, fun W hW => by first | (obtain ⟨q0, q1⟩ := hW; go_simp <;> rfl) | (obtain ⟨q0, q1⟩ := hW; go_simp; done)⟩) K2 ?_
    (try simp only [Act.put, List.setIfInBounds_toArray, List.set_cons_zero, List.set_cons_succ])
    refine wpAnyM.takeT (i := 13) (v := _) (some 44) rfl rfl (by kernel_rfl) (by kernel_rfl) (by kernel_rfl) (by kernel_rfl) (by kernel_rfl) (fun _ _ _ h => h) (Or.inl ⟨by rfl, fun W hW => by first | (obtain ⟨q0, q1⟩ := hW; go_simp <;> rfl) | (obtain ⟨q0, q1⟩ := hW; go_simp; done)⟩) K2 ?_
    (try simp only [Act.put, List.setIfInBounds_toArray, List.set_cons_zero, List.set_cons_succ])
    refine wpAnyM.takeT (i := 14) (v := _) (some 45) rfl rfl (by kernel_rfl) (by kernel_rfl) (by kernel_rfl) (by kernel_rfl) (by kernel_rfl) (fun _ _ _ h => h) (Or.inl ⟨by rfl, fun W hW => by first | (obtain ⟨q0, q1⟩ := hW; go_simp <;> rfl) | (obtain ⟨q0, q1⟩ := hW; go_simp; done)⟩) K2 ?_
    (try simp only [Act.put, List.setIfInBounds_toArray, List.set_cons_zero, List.set_cons_succ])
    refine wpAnyM.takeT (i := 15) (v := .slice (some ⟨g, a, none⟩) n (vc - a)) (some 46) rfl rfl (by kernel_rfl) (by kernel_rfl) (by kernel_rfl) (by kernel_rfl) (by kernel_rfl) (fun _ _ _ h => h) (Or.inl ⟨by rfl, fun W hW => by first | (obtain ⟨q0, q1⟩ := hW; go_simp <;> rfl) | (obtain ⟨q0, q1⟩ := hW; go_simp; done)⟩) K2 ?_
    (try simp only [Act.put, List.setIfInBounds_toArray, List.set_cons_zero, List.set_cons_succ])
    refine wpAnyM.one (i := 16) (by kernel_rfl) rfl (fun KQ hK => ?_)
    go_simp
    refine B.mono ?_
    rintro e w1 ⟨rfl, hBl0, c2, s2, o2⟩
    have K3 : (fun W : World => W.cell? ⟨p, 0, none⟩ = some (.slice (some ⟨g, 0, none⟩) bs.length vc) ∧ W.cell? ⟨p, 1, none⟩ = some (.int .i64 ((a : Int) + (n : Int)))) w1 := ⟨(s2.cell HL.out (fun h0 => h0)).trans z0, (s2.cell HL.out (fun h0 => h0)).trans z1⟩
    obtain ⟨B, hB⟩ : ∃ B, bC ((bs.drop a).take n) = B := ⟨_, rfl⟩
    have hB1 : ∀ v ∈ B, v.oneCell' = true := by rw [← hB]; exact bC_one _
    have hBl : B.length = 4 := by rw [← hB, bC_len]; exact hBl0
    rw [hB]
    have a1 := A0.out.keep s2 (fun h0 => h0)
    have hi0 : (Tryz.prog.info? 91).map (·.size) = some B.length := by rw [info_key, hBl]
    have hi1 : (Tryz.prog.info? 91).map (·.size) = some B.toArray.size := by rw [info_key]; simp [hBl]
    have ht0 := a1.there (o := 0) (n := B.toArray.size) o2 hq0 (by simp [bC_len, hBl])
    obtain ⟨S0, a2⟩ := a1.st o2 hq0 (ty := 91) (us := B) (by simp [bC_len, hBl]) hi0 hB1
    have s3 : Step (One q) c2 w1 c2 (w1.setCells b0 0 B) := Step.setCells (.inr a1.col) _ _ _ Step.refl
    have K4 : (fun W : World => W.cell? ⟨p, 0, none⟩ = some (.slice (some ⟨g, 0, none⟩) bs.length vc) ∧ W.cell? ⟨p, 1, none⟩ = some (.int .i64 ((a : Int) + (n : Int)))) (w1.setCells b0 0 B) := ⟨(World.cell?_setCells_out b0 B 0 w1 ⟨p, 0, none⟩ (fun e _ => absurd e hpb)).trans K3.1, (World.cell?_setCells_out b0 B 0 w1 ⟨p, 1, none⟩ (fun e _ => absurd e hpb)).trans K3.2⟩
    have HX := Lib.hid (And.intro a2 (And.intro ((HH.out.1.kn s2).keep s3 (show ¬ k = q by omega) (show ¬ 0 = q by omega)) (And.intro (Step.setCells (.inl hb0) B 0 _ ((S00.out.ofNo.trans HH.out.2).trans s2.ofNo)) (And.intro (Ok.setCells (b := b0) B 0 _ o2) (And.intro hB (And.intro ht0 (And.intro hi0 (And.intro hi1 (all_oneCell_toArray hB1)))))))))
    clear a1 a2 s2 o2 s3 S0 hB hB1 hBl hBl0 ht0 hi0 hi1
    refine hK.out _ _ (fun _ => K3) ?_
    clear hK KQ
    (try simp only [Act.put, List.setIfInBounds_toArray, List.set_cons_zero, List.set_cons_succ])
    refine wpAnyM.one (i := 17) (by kernel_rfl) rfl (fun KQ hK => ?_)
    refine step_store rfl 91 _ _ rfl b0 0 B.toArray rfl rfl HX.out.2.2.2.2.2.1 HX.out.2.2.2.2.2.2.2.1 HX.out.2.2.2.2.2.2.2.2 ?_
    simp only [List.toList_toArray]
    refine hK.out _ _ (fun _ => K4) ?_
    clear hK KQ
    (try simp only [Act.put, List.setIfInBounds_toArray, List.set_cons_zero, List.set_cons_succ])
    refine wpAnyM.done (by kernel_rfl) ?_ _
    go_wp2_with fail
    refine bodyPost_ret (results_cell_mid rfl _ _ b0 0 B _ rfl HX.out.1.cells Tryz.underlying91 rfl HX.out.2.2.2.2.2.2.1) rfl ⟨by rw [HX.out.2.2.2.2.1], c2, HX.out.2.1, HX.out.2.2.1, HX.out.2.2.2.1⟩
end
end Go.Proofs.YtgcobbapaaihiaaGreat
