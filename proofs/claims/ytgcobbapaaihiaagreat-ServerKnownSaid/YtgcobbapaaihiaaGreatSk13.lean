/- ServerKnown, part 13: lemmas, each with its own conditions. -/
import Derived.Test.YtgcobbapaaihiaaGreatSk05
import Derived.Test.YtgcobbapaaihiaaGreatSk12
set_option linter.unusedVariables false
set_option linter.unusedSimpArgs false
namespace Go.Proofs.YtgcobbapaaihiaaGreat
open Go.RowKit

/-- A block of n words, whatever they are. -/
structure Wds (c : Col) (w : World) (b k n : Nat) : Prop where
  at_ : ∃ l, l.length = n ∧ (∀ x ∈ l, x < 4294967296) ∧ At c w b k (u32C l)

theorem Wds.cell {c : Col} {w : World} {b k n : Nat} (h : Wds c w b k n) {i : Nat} (hi : i < n) : ∃ x : Nat, x < 4294967296 ∧ w.cell? ⟨b, i, none⟩ = some (.int .u32 x) := by
  obtain ⟨l, hl, hx, a⟩ := h.at_
  exact ⟨l[i]'(by omega), hx _ (List.getElem_mem _), a.get (by simp only [u32C, List.getElem?_map]; rw [List.getElem?_eq_getElem (by omega)]; rfl)⟩
theorem Wds.keep {K : Nat → Prop} {c c' : Col} {w w' : World} {b k n : Nat} (h : Wds c w b k n) (hs : Step K c w c' w') (hk : ¬ K k) : Wds c' w' b k n := by
  obtain ⟨l, hl, hx, a⟩ := h.at_
  exact ⟨l, hl, hx, a.keep hs hk⟩
theorem Wds.set {c : Col} {w : World} {b k n : Nat} (h : Wds c w b k n) {i : Nat} (hi : i < n) (x : Nat) (hx : x < 4294967296) : Wds c (w.setCell ⟨b, i, none⟩ (.int .u32 x)) b k n := by
  obtain ⟨l, hl, hl2, a⟩ := h.at_
  refine ⟨l.set i x, by simp [hl], fun y hy => ?_, ?_⟩
  · rcases List.mem_or_eq_of_mem_set hy with h | rfl
    · exact hl2 y h
    · exact hx
  · have := a.setN (i := i) (by rw [u32C_len, hl]; exact hi) (.int .u32 (x : Int))
    rw [show (u32C l).set i (.int .u32 (x : Int)) = u32C (l.set i x) by simp [u32C, List.map_set]] at this
    exact this
theorem Wds.drewN {c : Col} {w : World} {b k n : Nat} (h : Wds c w b k n) (m : Nat) : Wds c (w.drewN m) b k n := h.keep (Step.rf.drewN m) (fun h => h)

theorem wrap32 (z : Int) : ∃ y : Nat, y < 4294967296 ∧ IntKind.u32.wrap z = (y : Int) := by
  refine ⟨(IntKind.u32.wrap z).toNat, ?_, ?_⟩ <;> rw [IntKind.wrap_u32'] <;> omega
theorem Wds.col {c : Col} {w : World} {b k n : Nat} (h : Wds c w b k n) : c b = k := by obtain ⟨l, _, _, a⟩ := h.at_; exact a.col
/-- A store of a word. -/
theorem Wds.next {c : Col} {w w1 : World} {b k n : Nat} (h : Wds c w1 b k n ∧ Step (One k) c w c w1 ∧ Ok c w1) {i : Nat} (hi : i < n) (x : Nat) (hx : x < 4294967296) :
    Wds c (w1.setCell ⟨b, i, none⟩ (.int .u32 x)).drew b k n ∧ Step (One k) c w c (w1.setCell ⟨b, i, none⟩ (.int .u32 x)).drew ∧ Ok c (w1.setCell ⟨b, i, none⟩ (.int .u32 x)).drew :=
  ⟨(h.1.set hi x hx).drewN 1, (h.2.1.setCell (a := ⟨b, i, none⟩) (.inr h.1.col) _).drew, (h.2.2.setCell _ _).drew⟩
theorem xor32 (x y : Nat) (hx : x < 4294967296) (hy : y < 4294967296) : ∃ z : Nat, z < 4294967296 ∧ bits .xor .u32 (x : Int) (y : Int) = (z : Int) :=
  ⟨x ^^^ y, Nat.xor_lt_two_pow (n := 32) hx hy, u32_xor_nat x y hx hy⟩

section
variable {c : Col} {w : World}

set_option maxRecDepth 100000 in
set_option maxHeartbeats 1600000 in
theorem mix_any (hok : Ok c w) {vb k : Nat} (hv : Wds c w vb k 16) (hk0 : k ≠ 0) (ia ib ic id : Nat) (ha : ia < 16) (hb : ib < 16) (hc : ic < 16) (hd : id < 16) (x y : Nat) (hx : x < 4294967296) (hy : y < 4294967296) :
    Calls Tryz.prog 211 #[.agg #[.pointer (some ⟨vb, ia, none⟩), .pointer (some ⟨vb, ib, none⟩), .pointer (some ⟨vb, ic, none⟩), .pointer (some ⟨vb, id, none⟩)], .int .u32 x, .int .u32 y] w fun r w' => r = .returned (.tuple #[]) ∧
      ∃ c', Wds c' w' vb k 16 ∧ Step (One k) c w c' w' ∧ Ok c' w' := by
  have a1 := At.new0 hok [.pointer (some ⟨vb, ia, none⟩), .pointer (some ⟨vb, ib, none⟩), .pointer (some ⟨vb, ic, none⟩), .pointer (some ⟨vb, id, none⟩)] 290
  have s1 : Step No c w c (w.alloc (.cells #[.pointer (some ⟨vb, ia, none⟩), .pointer (some ⟨vb, ib, none⟩), .pointer (some ⟨vb, ic, none⟩), .pointer (some ⟨vb, id, none⟩)] 290)) := Step.refl.alloc _
  have o1 := hok.alloc (.cells #[.pointer (some ⟨vb, ia, none⟩), .pointer (some ⟨vb, ib, none⟩), .pointer (some ⟨vb, ic, none⟩), .pointer (some ⟨vb, id, none⟩)] 290)
  have v1 := hv.keep s1 (fun h => h)
  obtain ⟨w1, hw1⟩ : ∃ w1, w.alloc (.cells #[.pointer (some ⟨vb, ia, none⟩), .pointer (some ⟨vb, ib, none⟩), .pointer (some ⟨vb, ic, none⟩), .pointer (some ⟨vb, id, none⟩)] 290) = w1 := ⟨_, rfl⟩
  obtain ⟨bx, hbx⟩ : ∃ b, w.heap.size = b := ⟨_, rfl⟩
  rw [hw1] at a1 s1 o1 v1
  rw [hbx] at a1
  have K1 : (fun W : World => W.cell? ⟨bx, 0, none⟩ = some (.pointer (some ⟨vb, ia, none⟩)) ∧ W.cell? ⟨bx, 1, none⟩ = some (.pointer (some ⟨vb, ib, none⟩)) ∧ W.cell? ⟨bx, 2, none⟩ = some (.pointer (some ⟨vb, ic, none⟩)) ∧ W.cell? ⟨bx, 3, none⟩ = some (.pointer (some ⟨vb, id, none⟩))) w1.drew := ⟨a1.get (i := 0) rfl, a1.get (i := 1) rfl, a1.get (i := 2) rfl, a1.get (i := 3) rfl⟩
  have X1 := Lib.hid (And.intro (v1.drewN 1) (And.intro (s1.ofNo (K := One k)).drew o1.drew))
  clear a1 s1 o1 v1 hv hok
  go_enter Tryz.func211, Tryz.ntmps211
  go_wp2_with fail
  (try rw [hw1])
  (try rw [hbx])
  refine region_planM (fun W => W.cell? ⟨bx, 0, none⟩ = some (.pointer (some ⟨vb, ia, none⟩)) ∧ W.cell? ⟨bx, 1, none⟩ = some (.pointer (some ⟨vb, ib, none⟩)) ∧ W.cell? ⟨bx, 2, none⟩ = some (.pointer (some ⟨vb, ic, none⟩)) ∧ W.cell? ⟨bx, 3, none⟩ = some (.pointer (some ⟨vb, id, none⟩))) (fun _ => true) (by kernel_rfl) ?_
  refine wpAnyM.takeT (i := 0) (v := _) (some 10) rfl rfl (by kernel_rfl) (by kernel_rfl) (by kernel_rfl) (by kernel_rfl) (by kernel_rfl) (fun _ _ _ h => h) (Or.inl ⟨by rfl, fun W hW => by first | (obtain ⟨q0, q1, q2, q3⟩ := hW; go_simp <;> rfl) | (obtain ⟨q0, q1, q2, q3⟩ := hW; go_simp; done)⟩) K1 ?_
  (try simp only [Act.put, List.setIfInBounds_toArray, List.set_cons_zero, List.set_cons_succ])
  refine wpAnyM.takeT (i := 1) (v := _) (some 11) rfl rfl (by kernel_rfl) (by kernel_rfl) (by kernel_rfl) (by kernel_rfl) (by kernel_rfl) (fun _ _ _ h => h) (Or.inl ⟨by rfl, fun W hW => by first | (obtain ⟨q0, q1, q2, q3⟩ := hW; go_simp <;> rfl) | (obtain ⟨q0, q1, q2, q3⟩ := hW; go_simp; done)⟩) K1 ?_
  (try simp only [Act.put, List.setIfInBounds_toArray, List.set_cons_zero, List.set_cons_succ])
  refine wpAnyM.takeT (i := 2) (v := _) (some 12) rfl rfl (by kernel_rfl) (by kernel_rfl) (by kernel_rfl) (by kernel_rfl) (by kernel_rfl) (fun _ _ _ h => h) (Or.inl ⟨by rfl, fun W hW => by first | (obtain ⟨q0, q1, q2, q3⟩ := hW; go_simp <;> rfl) | (obtain ⟨q0, q1, q2, q3⟩ := hW; go_simp; done)⟩) K1 ?_
  (try simp only [Act.put, List.setIfInBounds_toArray, List.set_cons_zero, List.set_cons_succ])
  refine wpAnyM.takeT (i := 3) (v := _) (some 13) rfl rfl (by kernel_rfl) (by kernel_rfl) (by kernel_rfl) (by kernel_rfl) (by kernel_rfl) (fun _ _ _ h => h) (Or.inl ⟨by rfl, fun W hW => by first | (obtain ⟨q0, q1, q2, q3⟩ := hW; go_simp <;> rfl) | (obtain ⟨q0, q1, q2, q3⟩ := hW; go_simp; done)⟩) K1 ?_
  (try simp only [Act.put, List.setIfInBounds_toArray, List.set_cons_zero, List.set_cons_succ])
  refine wpAnyM.takeT (i := 4) (v := _) (some 14) rfl rfl (by kernel_rfl) (by kernel_rfl) (by kernel_rfl) (by kernel_rfl) (by kernel_rfl) (fun _ _ _ h => h) (Or.inl ⟨by rfl, fun W hW => by first | (obtain ⟨q0, q1, q2, q3⟩ := hW; go_simp <;> rfl) | (obtain ⟨q0, q1, q2, q3⟩ := hW; go_simp; done)⟩) K1 ?_
  (try simp only [Act.put, List.setIfInBounds_toArray, List.set_cons_zero, List.set_cons_succ])
  refine wpAnyM.takeT (i := 5) (v := _) (some 15) rfl rfl (by kernel_rfl) (by kernel_rfl) (by kernel_rfl) (by kernel_rfl) (by kernel_rfl) (fun _ _ _ h => h) (Or.inl ⟨by rfl, fun W hW => by first | (obtain ⟨q0, q1, q2, q3⟩ := hW; go_simp <;> rfl) | (obtain ⟨q0, q1, q2, q3⟩ := hW; go_simp; done)⟩) K1 ?_
  (try simp only [Act.put, List.setIfInBounds_toArray, List.set_cons_zero, List.set_cons_succ])
  refine wpAnyM.takeT (i := 6) (v := _) (some 16) rfl rfl (by kernel_rfl) (by kernel_rfl) (by kernel_rfl) (by kernel_rfl) (by kernel_rfl) (fun _ _ _ h => h) (Or.inl ⟨by rfl, fun W hW => by first | (obtain ⟨q0, q1, q2, q3⟩ := hW; go_simp <;> rfl) | (obtain ⟨q0, q1, q2, q3⟩ := hW; go_simp; done)⟩) K1 ?_
  (try simp only [Act.put, List.setIfInBounds_toArray, List.set_cons_zero, List.set_cons_succ])
  refine wpAnyM.takeT (i := 7) (v := _) (some 17) rfl rfl (by kernel_rfl) (by kernel_rfl) (by kernel_rfl) (by kernel_rfl) (by kernel_rfl) (fun _ _ _ h => h) (Or.inl ⟨by rfl, fun W hW => by first | (obtain ⟨q0, q1, q2, q3⟩ := hW; go_simp <;> rfl) | (obtain ⟨q0, q1, q2, q3⟩ := hW; go_simp; done)⟩) K1 ?_
  (try simp only [Act.put, List.setIfInBounds_toArray, List.set_cons_zero, List.set_cons_succ])
  refine wpAnyM.one (i := 8) (by kernel_rfl) rfl (fun KQ hK => ?_)
  go_simp
  refine hK.out _ _ (fun _ => K1) ?_
  clear hK KQ
  (try simp only [Act.put, List.setIfInBounds_toArray, List.set_cons_zero, List.set_cons_succ])
  refine wpAnyM.one (i := 9) (by kernel_rfl) rfl (fun KQ hK => ?_)
  go_simp
  refine hK.out _ _ (fun _ => K1) ?_
  clear hK KQ
  (try simp only [Act.put, List.setIfInBounds_toArray, List.set_cons_zero, List.set_cons_succ])
  refine wpAnyM.one (i := 10) (by kernel_rfl) rfl (fun KQ hK => ?_)
  go_simp
  refine hK.out _ _ (fun _ => K1) ?_
  clear hK KQ
  (try simp only [Act.put, List.setIfInBounds_toArray, List.set_cons_zero, List.set_cons_succ])
  refine wpAnyM.one (i := 11) (by kernel_rfl) rfl (fun KQ hK => ?_)
  go_simp
  refine hK.out _ _ (fun _ => K1) ?_
  clear hK KQ
  (try simp only [Act.put, List.setIfInBounds_toArray, List.set_cons_zero, List.set_cons_succ])
  refine wpAnyM.done (by kernel_rfl) ?_ _
  clear K1
  have X1' : RowKit.Hid (Wds c w1.drew vb k 16 ∧ Step (One k) c w c w1.drew ∧ Ok c w1.drew) := X1
  clear X1 hw1
  generalize w1.drew = W1 at X1' ⊢
  have X1 := X1'
  clear X1'
  go_wp2_with fail
  obtain ⟨zp1, hzp1, yp1⟩ := X1.out.1.cell ha
  obtain ⟨zq1, hzq1, yq1⟩ := X1.out.1.cell hb
  have yf1 := X1.out.2.2.soft vb ia (by rw [X1.out.1.col]; exact hk0)
  have K1 : (fun W : World => W.cell? ⟨vb, ia, none⟩ = some (.int .u32 zp1) ∧ W.cell? ⟨vb, ib, none⟩ = some (.int .u32 zq1) ∧ W.frozen? ⟨vb, ia, none⟩ = false) W1.drew := ⟨yp1, yq1, yf1⟩
  refine region_planM (fun W => W.cell? ⟨vb, ia, none⟩ = some (.int .u32 zp1) ∧ W.cell? ⟨vb, ib, none⟩ = some (.int .u32 zq1) ∧ W.frozen? ⟨vb, ia, none⟩ = false) (fun i => !([10] : List Nat).contains i) (by kernel_rfl) ?_
  refine wpAnyM.takeT (i := 0) (v := _) (some 18) rfl rfl (by kernel_rfl) (by kernel_rfl) (by kernel_rfl) (by kernel_rfl) (by kernel_rfl) (fun _ _ _ h => h) (Or.inl ⟨by rfl, fun W hW => by first | (obtain ⟨q0, q1, q2⟩ := hW; go_simp <;> rfl) | (obtain ⟨q0, q1, q2⟩ := hW; go_simp; done)⟩) K1 ?_
  (try simp only [Act.put, List.setIfInBounds_toArray, List.set_cons_zero, List.set_cons_succ])
  refine wpAnyM.takeT (i := 1) (v := _) (some 19) rfl rfl (by kernel_rfl) (by kernel_rfl) (by kernel_rfl) (by kernel_rfl) (by kernel_rfl) (fun _ _ _ h => h) (Or.inl ⟨by rfl, fun W hW => by first | (obtain ⟨q0, q1, q2⟩ := hW; go_simp <;> rfl) | (obtain ⟨q0, q1, q2⟩ := hW; go_simp; done)⟩) K1 ?_
  (try simp only [Act.put, List.setIfInBounds_toArray, List.set_cons_zero, List.set_cons_succ])
  refine wpAnyM.takeT (i := 2) (v := _) (some 20) rfl rfl (by kernel_rfl) (by kernel_rfl) (by kernel_rfl) (by kernel_rfl) (by kernel_rfl) (fun _ _ _ h => h) (Or.inl ⟨by rfl, fun W hW => by first | (obtain ⟨q0, q1, q2⟩ := hW; go_simp <;> rfl) | (obtain ⟨q0, q1, q2⟩ := hW; go_simp; done)⟩) K1 ?_
  (try simp only [Act.put, List.setIfInBounds_toArray, List.set_cons_zero, List.set_cons_succ])
  refine wpAnyM.takeT (i := 3) (v := _) (some 21) rfl rfl (by kernel_rfl) (by kernel_rfl) (by kernel_rfl) (by kernel_rfl) (by kernel_rfl) (fun _ _ _ h => h) (Or.inl ⟨by rfl, fun W hW => by first | (obtain ⟨q0, q1, q2⟩ := hW; go_simp <;> rfl) | (obtain ⟨q0, q1, q2⟩ := hW; go_simp; done)⟩) K1 ?_
  (try simp only [Act.put, List.setIfInBounds_toArray, List.set_cons_zero, List.set_cons_succ])
  refine wpAnyM.takeT (i := 4) (v := _) (some 22) rfl rfl (by kernel_rfl) (by kernel_rfl) (by kernel_rfl) (by kernel_rfl) (by kernel_rfl) (fun _ _ _ h => h) (Or.inl ⟨by rfl, fun W hW => by first | (obtain ⟨q0, q1, q2⟩ := hW; go_simp <;> rfl) | (obtain ⟨q0, q1, q2⟩ := hW; go_simp; done)⟩) K1 ?_
  (try simp only [Act.put, List.setIfInBounds_toArray, List.set_cons_zero, List.set_cons_succ])
  refine wpAnyM.takeT (i := 5) (v := _) (some 23) rfl rfl (by kernel_rfl) (by kernel_rfl) (by kernel_rfl) (by kernel_rfl) (by kernel_rfl) (fun _ _ _ h => h) (Or.inl ⟨by rfl, fun W hW => by first | (obtain ⟨q0, q1, q2⟩ := hW; go_simp <;> rfl) | (obtain ⟨q0, q1, q2⟩ := hW; go_simp; done)⟩) K1 ?_
  (try simp only [Act.put, List.setIfInBounds_toArray, List.set_cons_zero, List.set_cons_succ])
  refine wpAnyM.takeT (i := 6) (v := _) (some 24) rfl rfl (by kernel_rfl) (by kernel_rfl) (by kernel_rfl) (by kernel_rfl) (by kernel_rfl) (fun _ _ _ h => h) (Or.inl ⟨by rfl, fun W hW => by first | (obtain ⟨q0, q1, q2⟩ := hW; go_simp <;> rfl) | (obtain ⟨q0, q1, q2⟩ := hW; go_simp; done)⟩) K1 ?_
  (try simp only [Act.put, List.setIfInBounds_toArray, List.set_cons_zero, List.set_cons_succ])
  refine wpAnyM.takeT (i := 7) (v := _) (some 25) rfl rfl (by kernel_rfl) (by kernel_rfl) (by kernel_rfl) (by kernel_rfl) (by kernel_rfl) (fun _ _ _ h => h) (Or.inl ⟨by rfl, fun W hW => by first | (obtain ⟨q0, q1, q2⟩ := hW; go_simp <;> rfl) | (obtain ⟨q0, q1, q2⟩ := hW; go_simp; done)⟩) K1 ?_
  (try simp only [Act.put, List.setIfInBounds_toArray, List.set_cons_zero, List.set_cons_succ])
  refine wpAnyM.takeT (i := 8) (v := _) (some 26) rfl rfl (by kernel_rfl) (by kernel_rfl) (by kernel_rfl) (by kernel_rfl) (by kernel_rfl) (fun _ _ _ h => h) (Or.inl ⟨by rfl, fun W hW => by first | (obtain ⟨q0, q1, q2⟩ := hW; go_simp <;> rfl) | (obtain ⟨q0, q1, q2⟩ := hW; go_simp; done)⟩) K1 ?_
  (try simp only [Act.put, List.setIfInBounds_toArray, List.set_cons_zero, List.set_cons_succ])
  refine wpAnyM.takeT (i := 9) (v := _) (some 27) rfl rfl (by kernel_rfl) (by kernel_rfl) (by kernel_rfl) (by kernel_rfl) (by kernel_rfl) (fun _ _ _ h => h) (Or.inl ⟨by rfl, fun W hW => by first | (obtain ⟨q0, q1, q2⟩ := hW; go_simp <;> rfl) | (obtain ⟨q0, q1, q2⟩ := hW; go_simp; done)⟩) K1 ?_
  (try simp only [Act.put, List.setIfInBounds_toArray, List.set_cons_zero, List.set_cons_succ])
  refine wpAnyM.one (i := 10) (by kernel_rfl) rfl (fun KQ hK => ?_)
  go_simp
  refine hK.out _ _ (fun h => absurd h (by decide)) ?_
  clear hK KQ
  (try simp only [Act.put, List.setIfInBounds_toArray, List.set_cons_zero, List.set_cons_succ])
  refine wpAnyM.done (by kernel_rfl) ?_ _
  clear K1
  obtain ⟨z1, hz1, ez1⟩ := wrap32 (zp1 + IntKind.u32.wrap (zq1 + (x : Int)))
  rw [ez1]
  have X2 := Lib.hid (Wds.next X1.out ha z1 hz1)
  clear yp1 yq1 yf1 X1
  generalize (W1.setCell ⟨vb, ia, none⟩ (.int .u32 z1)).drew = W2 at X2 ⊢
  go_wp2_with fail
  obtain ⟨zp2, hzp2, yp2⟩ := X2.out.1.cell hd
  obtain ⟨zq2, hzq2, yq2⟩ := X2.out.1.cell ha
  have yf2 := X2.out.2.2.soft vb id (by rw [X2.out.1.col]; exact hk0)
  have K2 : (fun W : World => W.cell? ⟨vb, id, none⟩ = some (.int .u32 zp2) ∧ W.cell? ⟨vb, ia, none⟩ = some (.int .u32 zq2) ∧ W.frozen? ⟨vb, id, none⟩ = false) W2.drew := ⟨yp2, yq2, yf2⟩
  obtain ⟨zx2, hzx2, ex2⟩ := xor32 zp2 zq2 hzp2 hzq2
  refine region_planM (fun W => W.cell? ⟨vb, id, none⟩ = some (.int .u32 zp2) ∧ W.cell? ⟨vb, ia, none⟩ = some (.int .u32 zq2) ∧ W.frozen? ⟨vb, id, none⟩ = false) (fun i => !([10] : List Nat).contains i) (by kernel_rfl) ?_
  refine wpAnyM.takeT (i := 0) (v := _) (some 28) rfl rfl (by kernel_rfl) (by kernel_rfl) (by kernel_rfl) (by kernel_rfl) (by kernel_rfl) (fun _ _ _ h => h) (Or.inl ⟨by rfl, fun W hW => by first | (obtain ⟨q0, q1, q2⟩ := hW; go_simp <;> rfl) | (obtain ⟨q0, q1, q2⟩ := hW; go_simp; done)⟩) K2 ?_
  (try simp only [Act.put, List.setIfInBounds_toArray, List.set_cons_zero, List.set_cons_succ])
  refine wpAnyM.takeT (i := 1) (v := _) (some 29) rfl rfl (by kernel_rfl) (by kernel_rfl) (by kernel_rfl) (by kernel_rfl) (by kernel_rfl) (fun _ _ _ h => h) (Or.inl ⟨by rfl, fun W hW => by first | (obtain ⟨q0, q1, q2⟩ := hW; go_simp <;> rfl) | (obtain ⟨q0, q1, q2⟩ := hW; go_simp; done)⟩) K2 ?_
  (try simp only [Act.put, List.setIfInBounds_toArray, List.set_cons_zero, List.set_cons_succ])
  refine wpAnyM.takeT (i := 2) (v := _) (some 30) rfl rfl (by kernel_rfl) (by kernel_rfl) (by kernel_rfl) (by kernel_rfl) (by kernel_rfl) (fun _ _ _ h => h) (Or.inl ⟨by rfl, fun W hW => by first | (obtain ⟨q0, q1, q2⟩ := hW; go_simp <;> rfl) | (obtain ⟨q0, q1, q2⟩ := hW; go_simp; done)⟩) K2 ?_
  (try simp only [Act.put, List.setIfInBounds_toArray, List.set_cons_zero, List.set_cons_succ])
  refine wpAnyM.takeT (i := 3) (v := _) (some 31) rfl rfl (by kernel_rfl) (by kernel_rfl) (by kernel_rfl) (by kernel_rfl) (by kernel_rfl) (fun _ _ _ h => h) (Or.inl ⟨by rfl, fun W hW => by first | (obtain ⟨q0, q1, q2⟩ := hW; go_simp <;> rfl) | (obtain ⟨q0, q1, q2⟩ := hW; go_simp; done)⟩) K2 ?_
  (try simp only [Act.put, List.setIfInBounds_toArray, List.set_cons_zero, List.set_cons_succ])
  refine wpAnyM.takeT (i := 4) (v := _) (some 32) rfl rfl (by kernel_rfl) (by kernel_rfl) (by kernel_rfl) (by kernel_rfl) (by kernel_rfl) (fun _ _ _ h => h) (Or.inl ⟨by rfl, fun W hW => by first | (obtain ⟨q0, q1, q2⟩ := hW; go_simp <;> rfl) | (obtain ⟨q0, q1, q2⟩ := hW; go_simp; done)⟩) K2 ?_
  (try simp only [Act.put, List.setIfInBounds_toArray, List.set_cons_zero, List.set_cons_succ])
  refine wpAnyM.takeT (i := 5) (v := _) (some 33) rfl rfl (by kernel_rfl) (by kernel_rfl) (by kernel_rfl) (by kernel_rfl) (by kernel_rfl) (fun _ _ _ h => h) (Or.inl ⟨by rfl, fun W hW => by first | (obtain ⟨q0, q1, q2⟩ := hW; go_simp <;> rfl) | (obtain ⟨q0, q1, q2⟩ := hW; go_simp; done)⟩) K2 ?_
  (try simp only [Act.put, List.setIfInBounds_toArray, List.set_cons_zero, List.set_cons_succ])
  refine wpAnyM.takeT (i := 6) (v := _) (some 34) rfl rfl (by kernel_rfl) (by kernel_rfl) (by kernel_rfl) (by kernel_rfl) (by kernel_rfl) (fun _ _ _ h => h) (Or.inl ⟨by rfl, fun W hW => by first | (obtain ⟨q0, q1, q2⟩ := hW; go_simp <;> rfl) | (obtain ⟨q0, q1, q2⟩ := hW; go_simp; done)⟩) K2 ?_
  (try simp only [Act.put, List.setIfInBounds_toArray, List.set_cons_zero, List.set_cons_succ])
  refine wpAnyM.takeT (i := 7) (v := _) (some 35) rfl rfl (by kernel_rfl) (by kernel_rfl) (by kernel_rfl) (by kernel_rfl) (by kernel_rfl) (fun _ _ _ h => h) (Or.inl ⟨by rfl, fun W hW => by first | (obtain ⟨q0, q1, q2⟩ := hW; go_simp <;> rfl) | (obtain ⟨q0, q1, q2⟩ := hW; go_simp; done)⟩) K2 ?_
  (try simp only [Act.put, List.setIfInBounds_toArray, List.set_cons_zero, List.set_cons_succ])
  refine wpAnyM.one (i := 8) (by kernel_rfl) rfl (fun KQ hK => ?_)
  go_simp
  (try rw [ex2])
  refine (rot_any zx2 hzx2 _ (by decide) _).mono ?_
  rintro r w2 ⟨⟨z2, hz2, rfl⟩, rfl⟩
  go_simp
  refine hK.out _ _ (fun _ => K2) ?_
  clear hK KQ
  (try simp only [Act.put, List.setIfInBounds_toArray, List.set_cons_zero, List.set_cons_succ])
  refine wpAnyM.takeT (i := 9) (v := _) (some 37) rfl rfl (by kernel_rfl) (by kernel_rfl) (by kernel_rfl) (by kernel_rfl) (by kernel_rfl) (fun _ _ _ h => h) (Or.inl ⟨by rfl, fun W hW => by first | (obtain ⟨q0, q1, q2⟩ := hW; go_simp <;> rfl) | (obtain ⟨q0, q1, q2⟩ := hW; go_simp; done)⟩) K2 ?_
  (try simp only [Act.put, List.setIfInBounds_toArray, List.set_cons_zero, List.set_cons_succ])
  refine wpAnyM.one (i := 10) (by kernel_rfl) rfl (fun KQ hK => ?_)
  go_simp
  refine hK.out _ _ (fun h => absurd h (by decide)) ?_
  clear hK KQ
  (try simp only [Act.put, List.setIfInBounds_toArray, List.set_cons_zero, List.set_cons_succ])
  refine wpAnyM.done (by kernel_rfl) ?_ _
  clear K2
  have X3 := Lib.hid (Wds.next X2.out hd z2 hz2)
  clear yp2 yq2 yf2 X2
  generalize (W2.setCell ⟨vb, id, none⟩ (.int .u32 z2)).drew = W3 at X3 ⊢
  go_wp2_with fail
  obtain ⟨zp3, hzp3, yp3⟩ := X3.out.1.cell hc
  obtain ⟨zq3, hzq3, yq3⟩ := X3.out.1.cell hd
  have yf3 := X3.out.2.2.soft vb ic (by rw [X3.out.1.col]; exact hk0)
  have K3 : (fun W : World => W.cell? ⟨vb, ic, none⟩ = some (.int .u32 zp3) ∧ W.cell? ⟨vb, id, none⟩ = some (.int .u32 zq3) ∧ W.frozen? ⟨vb, ic, none⟩ = false) W3.drew := ⟨yp3, yq3, yf3⟩
  refine region_planM (fun W => W.cell? ⟨vb, ic, none⟩ = some (.int .u32 zp3) ∧ W.cell? ⟨vb, id, none⟩ = some (.int .u32 zq3) ∧ W.frozen? ⟨vb, ic, none⟩ = false) (fun i => !([8] : List Nat).contains i) (by kernel_rfl) ?_
  refine wpAnyM.takeT (i := 0) (v := _) (some 38) rfl rfl (by kernel_rfl) (by kernel_rfl) (by kernel_rfl) (by kernel_rfl) (by kernel_rfl) (fun _ _ _ h => h) (Or.inl ⟨by rfl, fun W hW => by first | (obtain ⟨q0, q1, q2⟩ := hW; go_simp <;> rfl) | (obtain ⟨q0, q1, q2⟩ := hW; go_simp; done)⟩) K3 ?_
  (try simp only [Act.put, List.setIfInBounds_toArray, List.set_cons_zero, List.set_cons_succ])
  refine wpAnyM.takeT (i := 1) (v := _) (some 39) rfl rfl (by kernel_rfl) (by kernel_rfl) (by kernel_rfl) (by kernel_rfl) (by kernel_rfl) (fun _ _ _ h => h) (Or.inl ⟨by rfl, fun W hW => by first | (obtain ⟨q0, q1, q2⟩ := hW; go_simp <;> rfl) | (obtain ⟨q0, q1, q2⟩ := hW; go_simp; done)⟩) K3 ?_
  (try simp only [Act.put, List.setIfInBounds_toArray, List.set_cons_zero, List.set_cons_succ])
  refine wpAnyM.takeT (i := 2) (v := _) (some 40) rfl rfl (by kernel_rfl) (by kernel_rfl) (by kernel_rfl) (by kernel_rfl) (by kernel_rfl) (fun _ _ _ h => h) (Or.inl ⟨by rfl, fun W hW => by first | (obtain ⟨q0, q1, q2⟩ := hW; go_simp <;> rfl) | (obtain ⟨q0, q1, q2⟩ := hW; go_simp; done)⟩) K3 ?_
  (try simp only [Act.put, List.setIfInBounds_toArray, List.set_cons_zero, List.set_cons_succ])
  refine wpAnyM.takeT (i := 3) (v := _) (some 41) rfl rfl (by kernel_rfl) (by kernel_rfl) (by kernel_rfl) (by kernel_rfl) (by kernel_rfl) (fun _ _ _ h => h) (Or.inl ⟨by rfl, fun W hW => by first | (obtain ⟨q0, q1, q2⟩ := hW; go_simp <;> rfl) | (obtain ⟨q0, q1, q2⟩ := hW; go_simp; done)⟩) K3 ?_
  (try simp only [Act.put, List.setIfInBounds_toArray, List.set_cons_zero, List.set_cons_succ])
  refine wpAnyM.takeT (i := 4) (v := _) (some 42) rfl rfl (by kernel_rfl) (by kernel_rfl) (by kernel_rfl) (by kernel_rfl) (by kernel_rfl) (fun _ _ _ h => h) (Or.inl ⟨by rfl, fun W hW => by first | (obtain ⟨q0, q1, q2⟩ := hW; go_simp <;> rfl) | (obtain ⟨q0, q1, q2⟩ := hW; go_simp; done)⟩) K3 ?_
  (try simp only [Act.put, List.setIfInBounds_toArray, List.set_cons_zero, List.set_cons_succ])
  refine wpAnyM.takeT (i := 5) (v := _) (some 43) rfl rfl (by kernel_rfl) (by kernel_rfl) (by kernel_rfl) (by kernel_rfl) (by kernel_rfl) (fun _ _ _ h => h) (Or.inl ⟨by rfl, fun W hW => by first | (obtain ⟨q0, q1, q2⟩ := hW; go_simp <;> rfl) | (obtain ⟨q0, q1, q2⟩ := hW; go_simp; done)⟩) K3 ?_
  (try simp only [Act.put, List.setIfInBounds_toArray, List.set_cons_zero, List.set_cons_succ])
  refine wpAnyM.takeT (i := 6) (v := _) (some 44) rfl rfl (by kernel_rfl) (by kernel_rfl) (by kernel_rfl) (by kernel_rfl) (by kernel_rfl) (fun _ _ _ h => h) (Or.inl ⟨by rfl, fun W hW => by first | (obtain ⟨q0, q1, q2⟩ := hW; go_simp <;> rfl) | (obtain ⟨q0, q1, q2⟩ := hW; go_simp; done)⟩) K3 ?_
  (try simp only [Act.put, List.setIfInBounds_toArray, List.set_cons_zero, List.set_cons_succ])
  refine wpAnyM.takeT (i := 7) (v := _) (some 45) rfl rfl (by kernel_rfl) (by kernel_rfl) (by kernel_rfl) (by kernel_rfl) (by kernel_rfl) (fun _ _ _ h => h) (Or.inl ⟨by rfl, fun W hW => by first | (obtain ⟨q0, q1, q2⟩ := hW; go_simp <;> rfl) | (obtain ⟨q0, q1, q2⟩ := hW; go_simp; done)⟩) K3 ?_
  (try simp only [Act.put, List.setIfInBounds_toArray, List.set_cons_zero, List.set_cons_succ])
  refine wpAnyM.one (i := 8) (by kernel_rfl) rfl (fun KQ hK => ?_)
  go_simp
  refine hK.out _ _ (fun h => absurd h (by decide)) ?_
  clear hK KQ
  (try simp only [Act.put, List.setIfInBounds_toArray, List.set_cons_zero, List.set_cons_succ])
  refine wpAnyM.done (by kernel_rfl) ?_ _
  clear K3
  obtain ⟨z3, hz3, ez3⟩ := wrap32 (zp3 + zq3)
  rw [ez3]
  have X4 := Lib.hid (Wds.next X3.out hc z3 hz3)
  clear yp3 yq3 yf3 X3
  generalize (W3.setCell ⟨vb, ic, none⟩ (.int .u32 z3)).drew = W4 at X4 ⊢
  go_wp2_with fail
  obtain ⟨zp4, hzp4, yp4⟩ := X4.out.1.cell hb
  obtain ⟨zq4, hzq4, yq4⟩ := X4.out.1.cell hc
  have yf4 := X4.out.2.2.soft vb ib (by rw [X4.out.1.col]; exact hk0)
  have K4 : (fun W : World => W.cell? ⟨vb, ib, none⟩ = some (.int .u32 zp4) ∧ W.cell? ⟨vb, ic, none⟩ = some (.int .u32 zq4) ∧ W.frozen? ⟨vb, ib, none⟩ = false) W4.drew := ⟨yp4, yq4, yf4⟩
  obtain ⟨zx4, hzx4, ex4⟩ := xor32 zp4 zq4 hzp4 hzq4
  refine region_planM (fun W => W.cell? ⟨vb, ib, none⟩ = some (.int .u32 zp4) ∧ W.cell? ⟨vb, ic, none⟩ = some (.int .u32 zq4) ∧ W.frozen? ⟨vb, ib, none⟩ = false) (fun i => !([10] : List Nat).contains i) (by kernel_rfl) ?_
  refine wpAnyM.takeT (i := 0) (v := _) (some 46) rfl rfl (by kernel_rfl) (by kernel_rfl) (by kernel_rfl) (by kernel_rfl) (by kernel_rfl) (fun _ _ _ h => h) (Or.inl ⟨by rfl, fun W hW => by first | (obtain ⟨q0, q1, q2⟩ := hW; go_simp <;> rfl) | (obtain ⟨q0, q1, q2⟩ := hW; go_simp; done)⟩) K4 ?_
  (try simp only [Act.put, List.setIfInBounds_toArray, List.set_cons_zero, List.set_cons_succ])
  refine wpAnyM.takeT (i := 1) (v := _) (some 47) rfl rfl (by kernel_rfl) (by kernel_rfl) (by kernel_rfl) (by kernel_rfl) (by kernel_rfl) (fun _ _ _ h => h) (Or.inl ⟨by rfl, fun W hW => by first | (obtain ⟨q0, q1, q2⟩ := hW; go_simp <;> rfl) | (obtain ⟨q0, q1, q2⟩ := hW; go_simp; done)⟩) K4 ?_
  (try simp only [Act.put, List.setIfInBounds_toArray, List.set_cons_zero, List.set_cons_succ])
  refine wpAnyM.takeT (i := 2) (v := _) (some 48) rfl rfl (by kernel_rfl) (by kernel_rfl) (by kernel_rfl) (by kernel_rfl) (by kernel_rfl) (fun _ _ _ h => h) (Or.inl ⟨by rfl, fun W hW => by first | (obtain ⟨q0, q1, q2⟩ := hW; go_simp <;> rfl) | (obtain ⟨q0, q1, q2⟩ := hW; go_simp; done)⟩) K4 ?_
  (try simp only [Act.put, List.setIfInBounds_toArray, List.set_cons_zero, List.set_cons_succ])
  refine wpAnyM.takeT (i := 3) (v := _) (some 49) rfl rfl (by kernel_rfl) (by kernel_rfl) (by kernel_rfl) (by kernel_rfl) (by kernel_rfl) (fun _ _ _ h => h) (Or.inl ⟨by rfl, fun W hW => by first | (obtain ⟨q0, q1, q2⟩ := hW; go_simp <;> rfl) | (obtain ⟨q0, q1, q2⟩ := hW; go_simp; done)⟩) K4 ?_
  (try simp only [Act.put, List.setIfInBounds_toArray, List.set_cons_zero, List.set_cons_succ])
  refine wpAnyM.takeT (i := 4) (v := _) (some 50) rfl rfl (by kernel_rfl) (by kernel_rfl) (by kernel_rfl) (by kernel_rfl) (by kernel_rfl) (fun _ _ _ h => h) (Or.inl ⟨by rfl, fun W hW => by first | (obtain ⟨q0, q1, q2⟩ := hW; go_simp <;> rfl) | (obtain ⟨q0, q1, q2⟩ := hW; go_simp; done)⟩) K4 ?_
  (try simp only [Act.put, List.setIfInBounds_toArray, List.set_cons_zero, List.set_cons_succ])
  refine wpAnyM.takeT (i := 5) (v := _) (some 51) rfl rfl (by kernel_rfl) (by kernel_rfl) (by kernel_rfl) (by kernel_rfl) (by kernel_rfl) (fun _ _ _ h => h) (Or.inl ⟨by rfl, fun W hW => by first | (obtain ⟨q0, q1, q2⟩ := hW; go_simp <;> rfl) | (obtain ⟨q0, q1, q2⟩ := hW; go_simp; done)⟩) K4 ?_
  (try simp only [Act.put, List.setIfInBounds_toArray, List.set_cons_zero, List.set_cons_succ])
  refine wpAnyM.takeT (i := 6) (v := _) (some 52) rfl rfl (by kernel_rfl) (by kernel_rfl) (by kernel_rfl) (by kernel_rfl) (by kernel_rfl) (fun _ _ _ h => h) (Or.inl ⟨by rfl, fun W hW => by first | (obtain ⟨q0, q1, q2⟩ := hW; go_simp <;> rfl) | (obtain ⟨q0, q1, q2⟩ := hW; go_simp; done)⟩) K4 ?_
  (try simp only [Act.put, List.setIfInBounds_toArray, List.set_cons_zero, List.set_cons_succ])
  refine wpAnyM.takeT (i := 7) (v := _) (some 53) rfl rfl (by kernel_rfl) (by kernel_rfl) (by kernel_rfl) (by kernel_rfl) (by kernel_rfl) (fun _ _ _ h => h) (Or.inl ⟨by rfl, fun W hW => by first | (obtain ⟨q0, q1, q2⟩ := hW; go_simp <;> rfl) | (obtain ⟨q0, q1, q2⟩ := hW; go_simp; done)⟩) K4 ?_
  (try simp only [Act.put, List.setIfInBounds_toArray, List.set_cons_zero, List.set_cons_succ])
  refine wpAnyM.one (i := 8) (by kernel_rfl) rfl (fun KQ hK => ?_)
  go_simp
  (try rw [ex4])
  refine (rot_any zx4 hzx4 _ (by decide) _).mono ?_
  rintro r w2 ⟨⟨z4, hz4, rfl⟩, rfl⟩
  go_simp
  refine hK.out _ _ (fun _ => K4) ?_
  clear hK KQ
  (try simp only [Act.put, List.setIfInBounds_toArray, List.set_cons_zero, List.set_cons_succ])
  refine wpAnyM.takeT (i := 9) (v := _) (some 55) rfl rfl (by kernel_rfl) (by kernel_rfl) (by kernel_rfl) (by kernel_rfl) (by kernel_rfl) (fun _ _ _ h => h) (Or.inl ⟨by rfl, fun W hW => by first | (obtain ⟨q0, q1, q2⟩ := hW; go_simp <;> rfl) | (obtain ⟨q0, q1, q2⟩ := hW; go_simp; done)⟩) K4 ?_
  (try simp only [Act.put, List.setIfInBounds_toArray, List.set_cons_zero, List.set_cons_succ])
  refine wpAnyM.one (i := 10) (by kernel_rfl) rfl (fun KQ hK => ?_)
  go_simp
  refine hK.out _ _ (fun h => absurd h (by decide)) ?_
  clear hK KQ
  (try simp only [Act.put, List.setIfInBounds_toArray, List.set_cons_zero, List.set_cons_succ])
  refine wpAnyM.done (by kernel_rfl) ?_ _
  clear K4
  have X5 := Lib.hid (Wds.next X4.out hb z4 hz4)
  clear yp4 yq4 yf4 X4
  generalize (W4.setCell ⟨vb, ib, none⟩ (.int .u32 z4)).drew = W5 at X5 ⊢
  go_wp2_with fail
  obtain ⟨zp5, hzp5, yp5⟩ := X5.out.1.cell ha
  obtain ⟨zq5, hzq5, yq5⟩ := X5.out.1.cell hb
  have yf5 := X5.out.2.2.soft vb ia (by rw [X5.out.1.col]; exact hk0)
  have K5 : (fun W : World => W.cell? ⟨vb, ia, none⟩ = some (.int .u32 zp5) ∧ W.cell? ⟨vb, ib, none⟩ = some (.int .u32 zq5) ∧ W.frozen? ⟨vb, ia, none⟩ = false) W5.drew := ⟨yp5, yq5, yf5⟩
  refine region_planM (fun W => W.cell? ⟨vb, ia, none⟩ = some (.int .u32 zp5) ∧ W.cell? ⟨vb, ib, none⟩ = some (.int .u32 zq5) ∧ W.frozen? ⟨vb, ia, none⟩ = false) (fun i => !([10] : List Nat).contains i) (by kernel_rfl) ?_
  refine wpAnyM.takeT (i := 0) (v := _) (some 56) rfl rfl (by kernel_rfl) (by kernel_rfl) (by kernel_rfl) (by kernel_rfl) (by kernel_rfl) (fun _ _ _ h => h) (Or.inl ⟨by rfl, fun W hW => by first | (obtain ⟨q0, q1, q2⟩ := hW; go_simp <;> rfl) | (obtain ⟨q0, q1, q2⟩ := hW; go_simp; done)⟩) K5 ?_
  (try simp only [Act.put, List.setIfInBounds_toArray, List.set_cons_zero, List.set_cons_succ])
  refine wpAnyM.takeT (i := 1) (v := _) (some 57) rfl rfl (by kernel_rfl) (by kernel_rfl) (by kernel_rfl) (by kernel_rfl) (by kernel_rfl) (fun _ _ _ h => h) (Or.inl ⟨by rfl, fun W hW => by first | (obtain ⟨q0, q1, q2⟩ := hW; go_simp <;> rfl) | (obtain ⟨q0, q1, q2⟩ := hW; go_simp; done)⟩) K5 ?_
  (try simp only [Act.put, List.setIfInBounds_toArray, List.set_cons_zero, List.set_cons_succ])
  refine wpAnyM.takeT (i := 2) (v := _) (some 58) rfl rfl (by kernel_rfl) (by kernel_rfl) (by kernel_rfl) (by kernel_rfl) (by kernel_rfl) (fun _ _ _ h => h) (Or.inl ⟨by rfl, fun W hW => by first | (obtain ⟨q0, q1, q2⟩ := hW; go_simp <;> rfl) | (obtain ⟨q0, q1, q2⟩ := hW; go_simp; done)⟩) K5 ?_
  (try simp only [Act.put, List.setIfInBounds_toArray, List.set_cons_zero, List.set_cons_succ])
  refine wpAnyM.takeT (i := 3) (v := _) (some 59) rfl rfl (by kernel_rfl) (by kernel_rfl) (by kernel_rfl) (by kernel_rfl) (by kernel_rfl) (fun _ _ _ h => h) (Or.inl ⟨by rfl, fun W hW => by first | (obtain ⟨q0, q1, q2⟩ := hW; go_simp <;> rfl) | (obtain ⟨q0, q1, q2⟩ := hW; go_simp; done)⟩) K5 ?_
  (try simp only [Act.put, List.setIfInBounds_toArray, List.set_cons_zero, List.set_cons_succ])
  refine wpAnyM.takeT (i := 4) (v := _) (some 60) rfl rfl (by kernel_rfl) (by kernel_rfl) (by kernel_rfl) (by kernel_rfl) (by kernel_rfl) (fun _ _ _ h => h) (Or.inl ⟨by rfl, fun W hW => by first | (obtain ⟨q0, q1, q2⟩ := hW; go_simp <;> rfl) | (obtain ⟨q0, q1, q2⟩ := hW; go_simp; done)⟩) K5 ?_
  (try simp only [Act.put, List.setIfInBounds_toArray, List.set_cons_zero, List.set_cons_succ])
  refine wpAnyM.takeT (i := 5) (v := _) (some 61) rfl rfl (by kernel_rfl) (by kernel_rfl) (by kernel_rfl) (by kernel_rfl) (by kernel_rfl) (fun _ _ _ h => h) (Or.inl ⟨by rfl, fun W hW => by first | (obtain ⟨q0, q1, q2⟩ := hW; go_simp <;> rfl) | (obtain ⟨q0, q1, q2⟩ := hW; go_simp; done)⟩) K5 ?_
  (try simp only [Act.put, List.setIfInBounds_toArray, List.set_cons_zero, List.set_cons_succ])
  refine wpAnyM.takeT (i := 6) (v := _) (some 62) rfl rfl (by kernel_rfl) (by kernel_rfl) (by kernel_rfl) (by kernel_rfl) (by kernel_rfl) (fun _ _ _ h => h) (Or.inl ⟨by rfl, fun W hW => by first | (obtain ⟨q0, q1, q2⟩ := hW; go_simp <;> rfl) | (obtain ⟨q0, q1, q2⟩ := hW; go_simp; done)⟩) K5 ?_
  (try simp only [Act.put, List.setIfInBounds_toArray, List.set_cons_zero, List.set_cons_succ])
  refine wpAnyM.takeT (i := 7) (v := _) (some 63) rfl rfl (by kernel_rfl) (by kernel_rfl) (by kernel_rfl) (by kernel_rfl) (by kernel_rfl) (fun _ _ _ h => h) (Or.inl ⟨by rfl, fun W hW => by first | (obtain ⟨q0, q1, q2⟩ := hW; go_simp <;> rfl) | (obtain ⟨q0, q1, q2⟩ := hW; go_simp; done)⟩) K5 ?_
  (try simp only [Act.put, List.setIfInBounds_toArray, List.set_cons_zero, List.set_cons_succ])
  refine wpAnyM.takeT (i := 8) (v := _) (some 64) rfl rfl (by kernel_rfl) (by kernel_rfl) (by kernel_rfl) (by kernel_rfl) (by kernel_rfl) (fun _ _ _ h => h) (Or.inl ⟨by rfl, fun W hW => by first | (obtain ⟨q0, q1, q2⟩ := hW; go_simp <;> rfl) | (obtain ⟨q0, q1, q2⟩ := hW; go_simp; done)⟩) K5 ?_
  (try simp only [Act.put, List.setIfInBounds_toArray, List.set_cons_zero, List.set_cons_succ])
  refine wpAnyM.takeT (i := 9) (v := _) (some 65) rfl rfl (by kernel_rfl) (by kernel_rfl) (by kernel_rfl) (by kernel_rfl) (by kernel_rfl) (fun _ _ _ h => h) (Or.inl ⟨by rfl, fun W hW => by first | (obtain ⟨q0, q1, q2⟩ := hW; go_simp <;> rfl) | (obtain ⟨q0, q1, q2⟩ := hW; go_simp; done)⟩) K5 ?_
  (try simp only [Act.put, List.setIfInBounds_toArray, List.set_cons_zero, List.set_cons_succ])
  refine wpAnyM.one (i := 10) (by kernel_rfl) rfl (fun KQ hK => ?_)
  go_simp
  refine hK.out _ _ (fun h => absurd h (by decide)) ?_
  clear hK KQ
  (try simp only [Act.put, List.setIfInBounds_toArray, List.set_cons_zero, List.set_cons_succ])
  refine wpAnyM.done (by kernel_rfl) ?_ _
  clear K5
  obtain ⟨z5, hz5, ez5⟩ := wrap32 (zp5 + IntKind.u32.wrap (zq5 + (y : Int)))
  rw [ez5]
  have X6 := Lib.hid (Wds.next X5.out ha z5 hz5)
  clear yp5 yq5 yf5 X5
  generalize (W5.setCell ⟨vb, ia, none⟩ (.int .u32 z5)).drew = W6 at X6 ⊢
  go_wp2_with fail
  obtain ⟨zp6, hzp6, yp6⟩ := X6.out.1.cell hd
  obtain ⟨zq6, hzq6, yq6⟩ := X6.out.1.cell ha
  have yf6 := X6.out.2.2.soft vb id (by rw [X6.out.1.col]; exact hk0)
  have K6 : (fun W : World => W.cell? ⟨vb, id, none⟩ = some (.int .u32 zp6) ∧ W.cell? ⟨vb, ia, none⟩ = some (.int .u32 zq6) ∧ W.frozen? ⟨vb, id, none⟩ = false) W6.drew := ⟨yp6, yq6, yf6⟩
  obtain ⟨zx6, hzx6, ex6⟩ := xor32 zp6 zq6 hzp6 hzq6
  refine region_planM (fun W => W.cell? ⟨vb, id, none⟩ = some (.int .u32 zp6) ∧ W.cell? ⟨vb, ia, none⟩ = some (.int .u32 zq6) ∧ W.frozen? ⟨vb, id, none⟩ = false) (fun i => !([10] : List Nat).contains i) (by kernel_rfl) ?_
  refine wpAnyM.takeT (i := 0) (v := _) (some 66) rfl rfl (by kernel_rfl) (by kernel_rfl) (by kernel_rfl) (by kernel_rfl) (by kernel_rfl) (fun _ _ _ h => h) (Or.inl ⟨by rfl, fun W hW => by first | (obtain ⟨q0, q1, q2⟩ := hW; go_simp <;> rfl) | (obtain ⟨q0, q1, q2⟩ := hW; go_simp; done)⟩) K6 ?_
  (try simp only [Act.put, List.setIfInBounds_toArray, List.set_cons_zero, List.set_cons_succ])
  refine wpAnyM.takeT (i := 1) (v := _) (some 67) rfl rfl (by kernel_rfl) (by kernel_rfl) (by kernel_rfl) (by kernel_rfl) (by kernel_rfl) (fun _ _ _ h => h) (Or.inl ⟨by rfl, fun W hW => by first | (obtain ⟨q0, q1, q2⟩ := hW; go_simp <;> rfl) | (obtain ⟨q0, q1, q2⟩ := hW; go_simp; done)⟩) K6 ?_
  (try simp only [Act.put, List.setIfInBounds_toArray, List.set_cons_zero, List.set_cons_succ])
  refine wpAnyM.takeT (i := 2) (v := _) (some 68) rfl rfl (by kernel_rfl) (by kernel_rfl) (by kernel_rfl) (by kernel_rfl) (by kernel_rfl) (fun _ _ _ h => h) (Or.inl ⟨by rfl, fun W hW => by first | (obtain ⟨q0, q1, q2⟩ := hW; go_simp <;> rfl) | (obtain ⟨q0, q1, q2⟩ := hW; go_simp; done)⟩) K6 ?_
  (try simp only [Act.put, List.setIfInBounds_toArray, List.set_cons_zero, List.set_cons_succ])
  refine wpAnyM.takeT (i := 3) (v := _) (some 69) rfl rfl (by kernel_rfl) (by kernel_rfl) (by kernel_rfl) (by kernel_rfl) (by kernel_rfl) (fun _ _ _ h => h) (Or.inl ⟨by rfl, fun W hW => by first | (obtain ⟨q0, q1, q2⟩ := hW; go_simp <;> rfl) | (obtain ⟨q0, q1, q2⟩ := hW; go_simp; done)⟩) K6 ?_
  (try simp only [Act.put, List.setIfInBounds_toArray, List.set_cons_zero, List.set_cons_succ])
  refine wpAnyM.takeT (i := 4) (v := _) (some 70) rfl rfl (by kernel_rfl) (by kernel_rfl) (by kernel_rfl) (by kernel_rfl) (by kernel_rfl) (fun _ _ _ h => h) (Or.inl ⟨by rfl, fun W hW => by first | (obtain ⟨q0, q1, q2⟩ := hW; go_simp <;> rfl) | (obtain ⟨q0, q1, q2⟩ := hW; go_simp; done)⟩) K6 ?_
  (try simp only [Act.put, List.setIfInBounds_toArray, List.set_cons_zero, List.set_cons_succ])
  refine wpAnyM.takeT (i := 5) (v := _) (some 71) rfl rfl (by kernel_rfl) (by kernel_rfl) (by kernel_rfl) (by kernel_rfl) (by kernel_rfl) (fun _ _ _ h => h) (Or.inl ⟨by rfl, fun W hW => by first | (obtain ⟨q0, q1, q2⟩ := hW; go_simp <;> rfl) | (obtain ⟨q0, q1, q2⟩ := hW; go_simp; done)⟩) K6 ?_
  (try simp only [Act.put, List.setIfInBounds_toArray, List.set_cons_zero, List.set_cons_succ])
  refine wpAnyM.takeT (i := 6) (v := _) (some 72) rfl rfl (by kernel_rfl) (by kernel_rfl) (by kernel_rfl) (by kernel_rfl) (by kernel_rfl) (fun _ _ _ h => h) (Or.inl ⟨by rfl, fun W hW => by first | (obtain ⟨q0, q1, q2⟩ := hW; go_simp <;> rfl) | (obtain ⟨q0, q1, q2⟩ := hW; go_simp; done)⟩) K6 ?_
  (try simp only [Act.put, List.setIfInBounds_toArray, List.set_cons_zero, List.set_cons_succ])
  refine wpAnyM.takeT (i := 7) (v := _) (some 73) rfl rfl (by kernel_rfl) (by kernel_rfl) (by kernel_rfl) (by kernel_rfl) (by kernel_rfl) (fun _ _ _ h => h) (Or.inl ⟨by rfl, fun W hW => by first | (obtain ⟨q0, q1, q2⟩ := hW; go_simp <;> rfl) | (obtain ⟨q0, q1, q2⟩ := hW; go_simp; done)⟩) K6 ?_
  (try simp only [Act.put, List.setIfInBounds_toArray, List.set_cons_zero, List.set_cons_succ])
  refine wpAnyM.one (i := 8) (by kernel_rfl) rfl (fun KQ hK => ?_)
  go_simp
  (try rw [ex6])
  refine (rot_any zx6 hzx6 _ (by decide) _).mono ?_
  rintro r w2 ⟨⟨z6, hz6, rfl⟩, rfl⟩
  go_simp
  refine hK.out _ _ (fun _ => K6) ?_
  clear hK KQ
  (try simp only [Act.put, List.setIfInBounds_toArray, List.set_cons_zero, List.set_cons_succ])
  refine wpAnyM.takeT (i := 9) (v := _) (some 75) rfl rfl (by kernel_rfl) (by kernel_rfl) (by kernel_rfl) (by kernel_rfl) (by kernel_rfl) (fun _ _ _ h => h) (Or.inl ⟨by rfl, fun W hW => by first | (obtain ⟨q0, q1, q2⟩ := hW; go_simp <;> rfl) | (obtain ⟨q0, q1, q2⟩ := hW; go_simp; done)⟩) K6 ?_
  (try simp only [Act.put, List.setIfInBounds_toArray, List.set_cons_zero, List.set_cons_succ])
  refine wpAnyM.one (i := 10) (by kernel_rfl) rfl (fun KQ hK => ?_)
  go_simp
  refine hK.out _ _ (fun h => absurd h (by decide)) ?_
  clear hK KQ
  (try simp only [Act.put, List.setIfInBounds_toArray, List.set_cons_zero, List.set_cons_succ])
  refine wpAnyM.done (by kernel_rfl) ?_ _
  clear K6
  have X7 := Lib.hid (Wds.next X6.out hd z6 hz6)
  clear yp6 yq6 yf6 X6
  generalize (W6.setCell ⟨vb, id, none⟩ (.int .u32 z6)).drew = W7 at X7 ⊢
  go_wp2_with fail
  obtain ⟨zp7, hzp7, yp7⟩ := X7.out.1.cell hc
  obtain ⟨zq7, hzq7, yq7⟩ := X7.out.1.cell hd
  have yf7 := X7.out.2.2.soft vb ic (by rw [X7.out.1.col]; exact hk0)
  have K7 : (fun W : World => W.cell? ⟨vb, ic, none⟩ = some (.int .u32 zp7) ∧ W.cell? ⟨vb, id, none⟩ = some (.int .u32 zq7) ∧ W.frozen? ⟨vb, ic, none⟩ = false) W7.drew := ⟨yp7, yq7, yf7⟩
  refine region_planM (fun W => W.cell? ⟨vb, ic, none⟩ = some (.int .u32 zp7) ∧ W.cell? ⟨vb, id, none⟩ = some (.int .u32 zq7) ∧ W.frozen? ⟨vb, ic, none⟩ = false) (fun i => !([8] : List Nat).contains i) (by kernel_rfl) ?_
  refine wpAnyM.takeT (i := 0) (v := _) (some 76) rfl rfl (by kernel_rfl) (by kernel_rfl) (by kernel_rfl) (by kernel_rfl) (by kernel_rfl) (fun _ _ _ h => h) (Or.inl ⟨by rfl, fun W hW => by first | (obtain ⟨q0, q1, q2⟩ := hW; go_simp <;> rfl) | (obtain ⟨q0, q1, q2⟩ := hW; go_simp; done)⟩) K7 ?_
  (try simp only [Act.put, List.setIfInBounds_toArray, List.set_cons_zero, List.set_cons_succ])
  refine wpAnyM.takeT (i := 1) (v := _) (some 77) rfl rfl (by kernel_rfl) (by kernel_rfl) (by kernel_rfl) (by kernel_rfl) (by kernel_rfl) (fun _ _ _ h => h) (Or.inl ⟨by rfl, fun W hW => by first | (obtain ⟨q0, q1, q2⟩ := hW; go_simp <;> rfl) | (obtain ⟨q0, q1, q2⟩ := hW; go_simp; done)⟩) K7 ?_
  (try simp only [Act.put, List.setIfInBounds_toArray, List.set_cons_zero, List.set_cons_succ])
  refine wpAnyM.takeT (i := 2) (v := _) (some 78) rfl rfl (by kernel_rfl) (by kernel_rfl) (by kernel_rfl) (by kernel_rfl) (by kernel_rfl) (fun _ _ _ h => h) (Or.inl ⟨by rfl, fun W hW => by first | (obtain ⟨q0, q1, q2⟩ := hW; go_simp <;> rfl) | (obtain ⟨q0, q1, q2⟩ := hW; go_simp; done)⟩) K7 ?_
  (try simp only [Act.put, List.setIfInBounds_toArray, List.set_cons_zero, List.set_cons_succ])
  refine wpAnyM.takeT (i := 3) (v := _) (some 79) rfl rfl (by kernel_rfl) (by kernel_rfl) (by kernel_rfl) (by kernel_rfl) (by kernel_rfl) (fun _ _ _ h => h) (Or.inl ⟨by rfl, fun W hW => by first | (obtain ⟨q0, q1, q2⟩ := hW; go_simp <;> rfl) | (obtain ⟨q0, q1, q2⟩ := hW; go_simp; done)⟩) K7 ?_
  (try simp only [Act.put, List.setIfInBounds_toArray, List.set_cons_zero, List.set_cons_succ])
  refine wpAnyM.takeT (i := 4) (v := _) (some 80) rfl rfl (by kernel_rfl) (by kernel_rfl) (by kernel_rfl) (by kernel_rfl) (by kernel_rfl) (fun _ _ _ h => h) (Or.inl ⟨by rfl, fun W hW => by first | (obtain ⟨q0, q1, q2⟩ := hW; go_simp <;> rfl) | (obtain ⟨q0, q1, q2⟩ := hW; go_simp; done)⟩) K7 ?_
  (try simp only [Act.put, List.setIfInBounds_toArray, List.set_cons_zero, List.set_cons_succ])
  refine wpAnyM.takeT (i := 5) (v := _) (some 81) rfl rfl (by kernel_rfl) (by kernel_rfl) (by kernel_rfl) (by kernel_rfl) (by kernel_rfl) (fun _ _ _ h => h) (Or.inl ⟨by rfl, fun W hW => by first | (obtain ⟨q0, q1, q2⟩ := hW; go_simp <;> rfl) | (obtain ⟨q0, q1, q2⟩ := hW; go_simp; done)⟩) K7 ?_
  (try simp only [Act.put, List.setIfInBounds_toArray, List.set_cons_zero, List.set_cons_succ])
  refine wpAnyM.takeT (i := 6) (v := _) (some 82) rfl rfl (by kernel_rfl) (by kernel_rfl) (by kernel_rfl) (by kernel_rfl) (by kernel_rfl) (fun _ _ _ h => h) (Or.inl ⟨by rfl, fun W hW => by first | (obtain ⟨q0, q1, q2⟩ := hW; go_simp <;> rfl) | (obtain ⟨q0, q1, q2⟩ := hW; go_simp; done)⟩) K7 ?_
  (try simp only [Act.put, List.setIfInBounds_toArray, List.set_cons_zero, List.set_cons_succ])
  refine wpAnyM.takeT (i := 7) (v := _) (some 83) rfl rfl (by kernel_rfl) (by kernel_rfl) (by kernel_rfl) (by kernel_rfl) (by kernel_rfl) (fun _ _ _ h => h) (Or.inl ⟨by rfl, fun W hW => by first | (obtain ⟨q0, q1, q2⟩ := hW; go_simp <;> rfl) | (obtain ⟨q0, q1, q2⟩ := hW; go_simp; done)⟩) K7 ?_
  (try simp only [Act.put, List.setIfInBounds_toArray, List.set_cons_zero, List.set_cons_succ])
  refine wpAnyM.one (i := 8) (by kernel_rfl) rfl (fun KQ hK => ?_)
  go_simp
  refine hK.out _ _ (fun h => absurd h (by decide)) ?_
  clear hK KQ
  (try simp only [Act.put, List.setIfInBounds_toArray, List.set_cons_zero, List.set_cons_succ])
  refine wpAnyM.done (by kernel_rfl) ?_ _
  clear K7
  obtain ⟨z7, hz7, ez7⟩ := wrap32 (zp7 + zq7)
  rw [ez7]
  have X8 := Lib.hid (Wds.next X7.out hc z7 hz7)
  clear yp7 yq7 yf7 X7
  generalize (W7.setCell ⟨vb, ic, none⟩ (.int .u32 z7)).drew = W8 at X8 ⊢
  go_wp2_with fail
  obtain ⟨zp8, hzp8, yp8⟩ := X8.out.1.cell hb
  obtain ⟨zq8, hzq8, yq8⟩ := X8.out.1.cell hc
  have yf8 := X8.out.2.2.soft vb ib (by rw [X8.out.1.col]; exact hk0)
  have K8 : (fun W : World => W.cell? ⟨vb, ib, none⟩ = some (.int .u32 zp8) ∧ W.cell? ⟨vb, ic, none⟩ = some (.int .u32 zq8) ∧ W.frozen? ⟨vb, ib, none⟩ = false) W8.drew := ⟨yp8, yq8, yf8⟩
  obtain ⟨zx8, hzx8, ex8⟩ := xor32 zp8 zq8 hzp8 hzq8
  refine region_planM (fun W => W.cell? ⟨vb, ib, none⟩ = some (.int .u32 zp8) ∧ W.cell? ⟨vb, ic, none⟩ = some (.int .u32 zq8) ∧ W.frozen? ⟨vb, ib, none⟩ = false) (fun i => !([10] : List Nat).contains i) (by kernel_rfl) ?_
  refine wpAnyM.takeT (i := 0) (v := _) (some 84) rfl rfl (by kernel_rfl) (by kernel_rfl) (by kernel_rfl) (by kernel_rfl) (by kernel_rfl) (fun _ _ _ h => h) (Or.inl ⟨by rfl, fun W hW => by first | (obtain ⟨q0, q1, q2⟩ := hW; go_simp <;> rfl) | (obtain ⟨q0, q1, q2⟩ := hW; go_simp; done)⟩) K8 ?_
  (try simp only [Act.put, List.setIfInBounds_toArray, List.set_cons_zero, List.set_cons_succ])
  refine wpAnyM.takeT (i := 1) (v := _) (some 85) rfl rfl (by kernel_rfl) (by kernel_rfl) (by kernel_rfl) (by kernel_rfl) (by kernel_rfl) (fun _ _ _ h => h) (Or.inl ⟨by rfl, fun W hW => by first | (obtain ⟨q0, q1, q2⟩ := hW; go_simp <;> rfl) | (obtain ⟨q0, q1, q2⟩ := hW; go_simp; done)⟩) K8 ?_
  (try simp only [Act.put, List.setIfInBounds_toArray, List.set_cons_zero, List.set_cons_succ])
  refine wpAnyM.takeT (i := 2) (v := _) (some 86) rfl rfl (by kernel_rfl) (by kernel_rfl) (by kernel_rfl) (by kernel_rfl) (by kernel_rfl) (fun _ _ _ h => h) (Or.inl ⟨by rfl, fun W hW => by first | (obtain ⟨q0, q1, q2⟩ := hW; go_simp <;> rfl) | (obtain ⟨q0, q1, q2⟩ := hW; go_simp; done)⟩) K8 ?_
  (try simp only [Act.put, List.setIfInBounds_toArray, List.set_cons_zero, List.set_cons_succ])
  refine wpAnyM.takeT (i := 3) (v := _) (some 87) rfl rfl (by kernel_rfl) (by kernel_rfl) (by kernel_rfl) (by kernel_rfl) (by kernel_rfl) (fun _ _ _ h => h) (Or.inl ⟨by rfl, fun W hW => by first | (obtain ⟨q0, q1, q2⟩ := hW; go_simp <;> rfl) | (obtain ⟨q0, q1, q2⟩ := hW; go_simp; done)⟩) K8 ?_
  (try simp only [Act.put, List.setIfInBounds_toArray, List.set_cons_zero, List.set_cons_succ])
  refine wpAnyM.takeT (i := 4) (v := _) (some 88) rfl rfl (by kernel_rfl) (by kernel_rfl) (by kernel_rfl) (by kernel_rfl) (by kernel_rfl) (fun _ _ _ h => h) (Or.inl ⟨by rfl, fun W hW => by first | (obtain ⟨q0, q1, q2⟩ := hW; go_simp <;> rfl) | (obtain ⟨q0, q1, q2⟩ := hW; go_simp; done)⟩) K8 ?_
  (try simp only [Act.put, List.setIfInBounds_toArray, List.set_cons_zero, List.set_cons_succ])
  refine wpAnyM.takeT (i := 5) (v := _) (some 89) rfl rfl (by kernel_rfl) (by kernel_rfl) (by kernel_rfl) (by kernel_rfl) (by kernel_rfl) (fun _ _ _ h => h) (Or.inl ⟨by rfl, fun W hW => by first | (obtain ⟨q0, q1, q2⟩ := hW; go_simp <;> rfl) | (obtain ⟨q0, q1, q2⟩ := hW; go_simp; done)⟩) K8 ?_
  (try simp only [Act.put, List.setIfInBounds_toArray, List.set_cons_zero, List.set_cons_succ])
  refine wpAnyM.takeT (i := 6) (v := _) (some 90) rfl rfl (by kernel_rfl) (by kernel_rfl) (by kernel_rfl) (by kernel_rfl) (by kernel_rfl) (fun _ _ _ h => h) (Or.inl ⟨by rfl, fun W hW => by first | (obtain ⟨q0, q1, q2⟩ := hW; go_simp <;> rfl) | (obtain ⟨q0, q1, q2⟩ := hW; go_simp; done)⟩) K8 ?_
  (try simp only [Act.put, List.setIfInBounds_toArray, List.set_cons_zero, List.set_cons_succ])
  refine wpAnyM.takeT (i := 7) (v := _) (some 91) rfl rfl (by kernel_rfl) (by kernel_rfl) (by kernel_rfl) (by kernel_rfl) (by kernel_rfl) (fun _ _ _ h => h) (Or.inl ⟨by rfl, fun W hW => by first | (obtain ⟨q0, q1, q2⟩ := hW; go_simp <;> rfl) | (obtain ⟨q0, q1, q2⟩ := hW; go_simp; done)⟩) K8 ?_
  (try simp only [Act.put, List.setIfInBounds_toArray, List.set_cons_zero, List.set_cons_succ])
  refine wpAnyM.one (i := 8) (by kernel_rfl) rfl (fun KQ hK => ?_)
  go_simp
  (try rw [ex8])
  refine (rot_any zx8 hzx8 _ (by decide) _).mono ?_
  rintro r w2 ⟨⟨z8, hz8, rfl⟩, rfl⟩
  go_simp
  refine hK.out _ _ (fun _ => K8) ?_
  clear hK KQ
  (try simp only [Act.put, List.setIfInBounds_toArray, List.set_cons_zero, List.set_cons_succ])
  refine wpAnyM.takeT (i := 9) (v := _) (some 93) rfl rfl (by kernel_rfl) (by kernel_rfl) (by kernel_rfl) (by kernel_rfl) (by kernel_rfl) (fun _ _ _ h => h) (Or.inl ⟨by rfl, fun W hW => by first | (obtain ⟨q0, q1, q2⟩ := hW; go_simp <;> rfl) | (obtain ⟨q0, q1, q2⟩ := hW; go_simp; done)⟩) K8 ?_
  (try simp only [Act.put, List.setIfInBounds_toArray, List.set_cons_zero, List.set_cons_succ])
  refine wpAnyM.one (i := 10) (by kernel_rfl) rfl (fun KQ hK => ?_)
  go_simp
  refine hK.out _ _ (fun h => absurd h (by decide)) ?_
  clear hK KQ
  (try simp only [Act.put, List.setIfInBounds_toArray, List.set_cons_zero, List.set_cons_succ])
  refine wpAnyM.done (by kernel_rfl) ?_ _
  clear K8
  have X9 := Lib.hid (Wds.next X8.out hb z8 hz8)
  clear yp8 yq8 yf8 X8
  generalize (W8.setCell ⟨vb, ib, none⟩ (.int .u32 z8)).drew = W9 at X9 ⊢
  go_wp2_with fail
  first | go_end0 | refine bodyPost_ret (results_none rfl _ _ _) rfl ?_
  exact ⟨rfl, c, X9.out.1, X9.out.2.1, X9.out.2.2⟩
end
end Go.Proofs.YtgcobbapaaihiaaGreat
