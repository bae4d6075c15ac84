/- ServerKnown, part 34: lemmas, each with its own conditions. -/
import Derived.Test.YtgcobbapaaihiaaGreatSk05
import Derived.Test.YtgcobbapaaihiaaGreatSk33
import Derived.LoopN
set_option linter.unusedVariables false
set_option linter.unusedSimpArgs false
namespace Go.Proofs.YtgcobbapaaihiaaGreat
open Go.RowKit

/-- What is answered of the block of another height. -/
def offT (s : Srv) (h id : Int) : List UInt8 := if (getB s.chain (h + 1)).isSome = true then ansB (id, getD0 s.chain (h + 1)) else if (getB s.chain (h - 1)).isSome = true then ansB (id, getD0 s.chain (h - 1)) else []

section
variable {c : Col} {w : World}

set_option maxRecDepth 100000 in
set_option maxHeartbeats 1600000 in
theorem woff_any (hok : Ok c w) {s : Srv} {k kd db : Nat} {vc vo vm : Value} (hs : s.At c k w vc vo vm) {id h ticks : Int} (hid : idB id = true) (hh : 0 ≤ h ∧ h ≤ 4611686018427387904) (hd : At c w db kd (deskC s vc vo vm id h ticks)) (kx : Nat) :
    Calls Tryz.prog 64 #[.pointer (some ⟨db, 0, none⟩)] w fun r w' => ∃ v, r = .returned v ∧ ∃ c', Sl TByte c' kx 0 w' v (offT s h id) ∧ Step No c w c' w' ∧ Ok c' w' := by
  have hp : IntKind.i64.wrap (h + 1) = h + 1 := IntWalk.i64_in _ (by omega)
  have hm : IntKind.i64.wrap (h - 1) = h - 1 := IntWalk.i64_in _ (by omega)
  have hix0 := fun W => (index2 (h + 1) (h - 1) W).1
  have hix1 := fun W => (index2 (h + 1) (h - 1) W).2
  obtain ⟨vca, vcc, rfl, _⟩ := hs.chain.form
  have KK : (fun W : World => W.cell? ⟨db, 6, none⟩ = some (.int .i64 h)) w.drew := (hd.kn (Step.rf.drewN 1)).get (i := 6) rfl
  have y0 : w.drew.cell? ⟨db, 0, none⟩ = some (.slice vca s.chain.length vcc) := (hd.kn (Step.rf.drewN 1)).get (i := 0) rfl
  have s0 : Step No c w c w.drew := Step.rf.drewN 1
  have G1 := get_any (show Ok c w.drew from hok.drewN 1) (hs.chain.kn s0) hs.nchain (h + 1)
  have X := Lib.hid (And.intro (hs.kn s0) (And.intro (hd.kn s0) (And.intro s0 (And.intro (show Ok c w.drew from hok.drewN 1) hid))))
  clear hs hok hd hid s0
  have hO : offT s h id = if (getB s.chain (h + 1)).isSome = true then ansB (id, getD0 s.chain (h + 1)) else if (getB s.chain (h - 1)).isSome = true then ansB (id, getD0 s.chain (h - 1)) else [] := rfl
  obtain ⟨R, hR⟩ : ∃ R, offT s h id = R := ⟨_, rfl⟩
  rw [hR] at hO ⊢
  have HO := Lib.hid hO
  obtain ⟨Z, hZ, hz⟩ := zero_block
  clear hO hR
  go_enter Tryz.func64, Tryz.ntmps64
  go_wp2_with fail
  refine region_planM (fun W => W.cell? ⟨db, 6, none⟩ = some (.int .i64 h)) (fun _ => true) (by kernel_rfl) ?_
  refine wpAnyM.takeT (i := 0) (v := _) (some 7) rfl rfl (by kernel_rfl) (by kernel_rfl) (by kernel_rfl) (by kernel_rfl) (by kernel_rfl) (fun _ _ _ h => h) (Or.inl ⟨by rfl, fun W hW => by first | (obtain q0 := hW; go_simp <;> rfl) | (obtain q0 := hW; go_simp; done)⟩) KK ?_
  (try simp only [Act.put, List.setIfInBounds_toArray, List.set_cons_zero, List.set_cons_succ])
  refine wpAnyM.takeT (i := 1) (v := _) (some 8) rfl rfl (by kernel_rfl) (by kernel_rfl) (by kernel_rfl) (by kernel_rfl) (by kernel_rfl) (fun _ _ _ h => h) (Or.inl ⟨by rfl, fun W hW => by first | (obtain q0 := hW; go_simp <;> rfl) | (obtain q0 := hW; go_simp; done)⟩) KK ?_
  (try simp only [Act.put, List.setIfInBounds_toArray, List.set_cons_zero, List.set_cons_succ])
  refine wpAnyM.takeT (i := 2) (v := _) (some 9) rfl rfl (by kernel_rfl) (by kernel_rfl) (by kernel_rfl) (by kernel_rfl) (by kernel_rfl) (fun _ _ _ h => h) (Or.inl ⟨by rfl, fun W hW => by first | (obtain q0 := hW; go_simp <;> rfl) | (obtain q0 := hW; go_simp; done)⟩) KK ?_
  (try simp only [Act.put, List.setIfInBounds_toArray, List.set_cons_zero, List.set_cons_succ])
  refine wpAnyM.takeT (i := 3) (v := _) (some 10) rfl rfl (by kernel_rfl) (by kernel_rfl) (by kernel_rfl) (by kernel_rfl) (by kernel_rfl) (fun _ _ _ h => h) (Or.inl ⟨by rfl, fun W hW => by first | (obtain q0 := hW; go_simp <;> rfl) | (obtain q0 := hW; go_simp; done)⟩) KK ?_
  (try simp only [Act.put, List.setIfInBounds_toArray, List.set_cons_zero, List.set_cons_succ])
  refine wpAnyM.takeT (i := 4) (v := _) (some 11) rfl rfl (by kernel_rfl) (by kernel_rfl) (by kernel_rfl) (by kernel_rfl) (by kernel_rfl) (fun _ _ _ h => h) (Or.inl ⟨by rfl, fun W hW => by first | (obtain q0 := hW; go_simp <;> rfl) | (obtain q0 := hW; go_simp; done)⟩) KK ?_
  (try simp only [Act.put, List.setIfInBounds_toArray, List.set_cons_zero, List.set_cons_succ])
  refine wpAnyM.takeT (i := 5) (v := _) (some 12) rfl rfl (by kernel_rfl) (by kernel_rfl) (by kernel_rfl) (by kernel_rfl) (by kernel_rfl) (fun _ _ _ h => h) (Or.inl ⟨by rfl, fun W hW => by first | (obtain q0 := hW; go_simp <;> rfl) | (obtain q0 := hW; go_simp; done)⟩) KK ?_
  (try simp only [Act.put, List.setIfInBounds_toArray, List.set_cons_zero, List.set_cons_succ])
  refine wpAnyM.takeT (i := 6) (v := _) (some 13) rfl rfl (by kernel_rfl) (by kernel_rfl) (by kernel_rfl) (by kernel_rfl) (by kernel_rfl) (fun _ _ _ h => h) (Or.inl ⟨by rfl, fun W hW => by first | (obtain q0 := hW; go_simp <;> rfl) | (obtain q0 := hW; go_simp; done)⟩) KK ?_
  (try simp only [Act.put, List.setIfInBounds_toArray, List.set_cons_zero, List.set_cons_succ])
  refine wpAnyM.takeT (i := 7) (v := _) (some 14) rfl rfl (by kernel_rfl) (by kernel_rfl) (by kernel_rfl) (by kernel_rfl) (by kernel_rfl) (fun _ _ _ h => h) (Or.inl ⟨by rfl, fun W hW => by first | (obtain q0 := hW; go_simp <;> rfl) | (obtain q0 := hW; go_simp; done)⟩) KK ?_
  (try simp only [Act.put, List.setIfInBounds_toArray, List.set_cons_zero, List.set_cons_succ])
  refine wpAnyM.takeT (i := 8) (v := _) (some 15) rfl rfl (by kernel_rfl) (by kernel_rfl) (by kernel_rfl) (by kernel_rfl) (by kernel_rfl) (fun _ _ _ h => h) (Or.inl ⟨by rfl, fun W hW => by first | (obtain q0 := hW; go_simp <;> rfl) | (obtain q0 := hW; go_simp; done)⟩) KK ?_
  (try simp only [Act.put, List.setIfInBounds_toArray, List.set_cons_zero, List.set_cons_succ])
  refine wpAnyM.takeT (i := 9) (v := _) (some 16) rfl rfl (by kernel_rfl) (by kernel_rfl) (by kernel_rfl) (by kernel_rfl) (by kernel_rfl) (fun _ _ _ h => h) (Or.inl ⟨by rfl, fun W hW => by first | (obtain q0 := hW; go_simp <;> rfl) | (obtain q0 := hW; go_simp; done)⟩) KK ?_
  (try simp only [Act.put, List.setIfInBounds_toArray, List.set_cons_zero, List.set_cons_succ])
  refine wpAnyM.takeT (i := 10) (v := _) (some 17) rfl rfl (by kernel_rfl) (by kernel_rfl) (by kernel_rfl) (by kernel_rfl) (by kernel_rfl) (fun _ _ _ h => h) (Or.inl ⟨by rfl, fun W hW => by first | (obtain q0 := hW; go_simp <;> rfl) | (obtain q0 := hW; go_simp; done)⟩) KK ?_
  (try simp only [Act.put, List.setIfInBounds_toArray, List.set_cons_zero, List.set_cons_succ])
  refine wpAnyM.takeT (i := 11) (v := _) (some 18) rfl rfl (by kernel_rfl) (by kernel_rfl) (by kernel_rfl) (by kernel_rfl) (by kernel_rfl) (fun _ _ _ h => h) (Or.inl ⟨by rfl, fun W hW => by first | (obtain q0 := hW; go_simp <;> rfl) | (obtain q0 := hW; go_simp; done)⟩) KK ?_
  (try simp only [Act.put, List.setIfInBounds_toArray, List.set_cons_zero, List.set_cons_succ])
  refine wpAnyM.takeT (i := 12) (v := _) (some 19) rfl rfl (by kernel_rfl) (by kernel_rfl) (by kernel_rfl) (by kernel_rfl) (by kernel_rfl) (fun _ _ _ h => h) (Or.inl ⟨by rfl, fun W hW => by first | (obtain q0 := hW; go_simp <;> rfl) | (obtain q0 := hW; go_simp; done)⟩) KK ?_
  (try simp only [Act.put, List.setIfInBounds_toArray, List.set_cons_zero, List.set_cons_succ])
  refine wpAnyM.takeT (i := 13) (v := _) (some 20) rfl rfl (by kernel_rfl) (by kernel_rfl) (by kernel_rfl) (by kernel_rfl) (by kernel_rfl) (fun _ _ _ h => h) (Or.inl ⟨by rfl, fun W hW => by first | (obtain q0 := hW; go_simp <;> rfl) | (obtain q0 := hW; go_simp; done)⟩) KK ?_
  (try simp only [Act.put, List.setIfInBounds_toArray, List.set_cons_zero, List.set_cons_succ])
  refine wpAnyM.done (by kernel_rfl) ?_ _
  go_wp2_with fail
  refine wp_loop_rounds 3 ?_
  rw [rounds_succ]
  go_wp2_with fail
  with_reducible refine G1.mono ?_
  rintro e w1 ⟨bc, bv, rfl, c1, b1, s1, o1⟩
  clear G1
  obtain ⟨G, hG⟩ : ∃ G, getD0 s.chain (h + 1) = G := ⟨_, rfl⟩
  rw [hG] at b1 ⊢
  have hl := bloC_len b1.h b1.hash bc bv
  obtain ⟨W2, c2, hW2, a2, o2, s2, t1, t2, t3, t4⟩ := stnew o1 hZ hl (bloC_one b1) info_blo (q := 1) (by decide)
  obtain ⟨xb, hxb⟩ : ∃ b, w1.heap.size = b := ⟨_, rfl⟩
  rw [hxb] at hW2 a2 t1
  cases hT : (getB s.chain (h + 1)).isSome with
  | true =>
    have DA := deskAns_any o2 ((X.out.2.1.kn s1).kn s2) X.out.2.2.2.2 (b1.kn s2) stay_turns true kx
    have hRR : R = ansT true (gStay id G) := by rw [HO.out, if_pos hT, hG]; rfl
    have HR := Lib.hid hRR
    rw [← hRR] at DA
    obtain ⟨B, hB⟩ : ∃ B, bloC G bc bv = B := ⟨_, rfl⟩
    rw [hB] at DA hW2 a2 t1 t2 t3 t4 ⊢
    have SL := Lib.hid (And.intro t1 (And.intro t2 (And.intro t3 (And.intro a2.cells (And.intro t4 (And.intro hz (And.intro ((X.out.2.2.1.trans s1).trans s2) hW2)))))))
    clear t1 t2 t3 a2 t4 hz hW2 s1 s2 o1 o2 b1 hl hB hZ hG hT X hRR HO
    go_wp2_with (first | (refine wpList_alloc_zero rfl (some 5) rfl 59 rfl SL.out.2.2.2.2.2.1 ?_; rw [hxb]) | (refine wpList_store_mid rfl 59 _ _ rfl xb 0 B.toArray rfl rfl SL.out.1 SL.out.2.1 SL.out.2.2.1 ?_; rw [SL.out.2.2.2.2.2.2.2]) | (refine wpList_load_mid rfl 59 _ rfl xb 0 rfl B _ SL.out.2.2.2.1 Tryz.underlying59 rfl SL.out.2.2.2.2.1 ?_))
    with_reducible refine DA.mono ?_
    rintro e w3 ⟨v, rfl, c3, sl3, s3, o3⟩
    have X := Lib.hid (And.intro sl3 (And.intro (SL.out.2.2.2.2.2.2.1.trans s3) o3))
    clear DA sl3 s3 o3
    go_wp2_with fail
    go_ret
    exact ⟨v, rfl, c3, X.out⟩
  | false =>
    have G2 := get_any o2 (((X.out.1.kn s1).kn s2).chain) (X.out.1).nchain (h - 1)
    have y02 : W2.cell? ⟨db, 0, none⟩ = some (.slice vca s.chain.length vcc) := ((X.out.2.1.kn s1).kn s2).get (i := 0) rfl
    obtain ⟨B, hB⟩ : ∃ B, bloC G bc bv = B := ⟨_, rfl⟩
    rw [hB] at hW2 a2 t1 t2 t3 t4 ⊢
    have SL := Lib.hid (And.intro t1 (And.intro t2 (And.intro t3 (And.intro ((X.out.2.1.kn s1).kn s2) (And.intro (show R = if (getB s.chain (h - 1)).isSome = true then ansB (id, getD0 s.chain (h - 1)) else [] by rw [HO.out, if_neg (by simp [hT])]) (And.intro hz (And.intro ((X.out.2.2.1.trans s1).trans s2) (And.intro hW2 X.out.2.2.2.2))))))))
    clear t1 t2 t3 a2 t4 hW2 s1 s2 o1 o2 b1 hl hB hG hT X HO
    go_wp2_with (first | (refine wpList_alloc_zero rfl (some 5) rfl 59 rfl SL.out.2.2.2.2.2.1 ?_; rw [hxb]) | (refine wpList_store_mid rfl 59 _ _ rfl xb 0 B.toArray rfl rfl SL.out.1 SL.out.2.1 SL.out.2.2.1 ?_; rw [SL.out.2.2.2.2.2.2.2.1]))
    obtain ⟨t1, t2, t3, d2, hR2, hz, sAll, hW2, hid⟩ := SL.out
    clear SL t1 t2 t3 hW2
    have HO := Lib.hid hR2
    have X := Lib.hid (And.intro d2 (And.intro sAll hid))
    clear d2 hR2 sAll hid
    rw [rounds_succ]
    go_wp2_with fail
    with_reducible refine G2.mono ?_
    rintro e w3 ⟨bc, bv, rfl, c3, b3, s3, o3⟩
    clear G2
    obtain ⟨G, hG⟩ : ∃ G, getD0 s.chain (h - 1) = G := ⟨_, rfl⟩
    rw [hG] at b3 ⊢
    have hl := bloC_len b3.h b3.hash bc bv
    obtain ⟨W4, c4, hW4, a4, o4, s4, t1, t2, t3, t4⟩ := stnew o3 hZ hl (bloC_one b3) info_blo (q := 1) (by decide)
    obtain ⟨yb, hyb⟩ : ∃ b, w3.heap.size = b := ⟨_, rfl⟩
    rw [hyb] at hW4 a4 t1
    cases hT : (getB s.chain (h - 1)).isSome with
    | true =>
      have DA := deskAns_any o4 ((X.out.1.kn s3).kn s4) X.out.2.2 (b3.kn s4) stay_turns true kx
      have hRR : R = ansT true (gStay id G) := by rw [HO.out, if_pos hT, hG]; rfl
      have HR := Lib.hid hRR
      rw [← hRR] at DA
      obtain ⟨B4, hB⟩ : ∃ B, bloC G bc bv = B := ⟨_, rfl⟩
      rw [hB] at DA hW4 a4 t1 t2 t3 t4 ⊢
      have SL := Lib.hid (And.intro t1 (And.intro t2 (And.intro t3 (And.intro a4.cells (And.intro t4 (And.intro hz (And.intro ((X.out.2.1.trans s3).trans s4) hW4)))))))
      clear t1 t2 t3 a4 t4 hz hW4 s3 s4 o3 o4 b3 hl hB hZ hG hT X hRR HO
      go_wp2_with (first | (refine wpList_alloc_zero rfl (some 5) rfl 59 rfl SL.out.2.2.2.2.2.1 ?_; rw [hyb]) | (refine wpList_store_mid rfl 59 _ _ rfl yb 0 B4.toArray rfl rfl SL.out.1 SL.out.2.1 SL.out.2.2.1 ?_; rw [SL.out.2.2.2.2.2.2.2]) | (refine wpList_load_mid rfl 59 _ rfl yb 0 rfl B4 _ SL.out.2.2.2.1 Tryz.underlying59 rfl SL.out.2.2.2.2.1 ?_))
      with_reducible refine DA.mono ?_
      rintro e w5 ⟨v, rfl, c5, sl5, s5, o5⟩
      have X := Lib.hid (And.intro sl5 (And.intro (SL.out.2.2.2.2.2.2.1.trans s5) o5))
      clear DA sl5 s5 o5
      go_wp2_with fail
      go_ret
      exact ⟨v, rfl, c5, X.out⟩
    | false =>
      have hRR : R = [] := by rw [HO.out, if_neg (by simp [hT])]
      have HR := Lib.hid hRR
      obtain ⟨B4, hB⟩ : ∃ B, bloC G bc bv = B := ⟨_, rfl⟩
      rw [hB] at hW4 a4 t1 t2 t3 t4 ⊢
      have SL := Lib.hid (And.intro t1 (And.intro t2 (And.intro t3 (And.intro hz (And.intro ((X.out.2.1.trans s3).trans s4) (And.intro hW4 o4))))))
      clear t1 t2 t3 a4 t4 hz hW4 s3 s4 o3 o4 b3 hl hB hZ hG hT X hRR HO
      go_wp2_with (first | (refine wpList_alloc_zero rfl (some 5) rfl 59 rfl SL.out.2.2.2.1 ?_; rw [hyb]) | (refine wpList_store_mid rfl 59 _ _ rfl yb 0 B4.toArray rfl rfl SL.out.1 SL.out.2.1 SL.out.2.2.1 ?_; rw [SL.out.2.2.2.2.2.1]))
      rw [rounds_succ]
      go_wp2_with fail
      go_ret
      rw [HR.out]
      exact ⟨_, rfl, c4, Sl.nil _ _ _ _ _, SL.out.2.2.2.2.1, SL.out.2.2.2.2.2.2⟩
end
end Go.Proofs.YtgcobbapaaihiaaGreat

set_option linter.unusedVariables false
set_option linter.unusedSimpArgs false
namespace Go.Proofs.YtgcobbapaaihiaaGreat
open Go.RowKit

section
variable {P : Program} {ops : Array Oper} {Q : Exit → Act → World → Prop} {S : World → Prop} {D : Nat → Bool}
/-- Operations in several orders, all of which come to one frame but for what x says. -/
theorem wpAnyM.forkE {n m : Nat} {done doneF : Array Bool} {a : Act} {w : World} {ι : Type} (ps : ι → List (Nat × Value)) (R : ι → World → Prop)
    (h1 : (∀ x W2, R x W2 → wpAnyM P ops Q S D m doneF ((ps x).foldl (fun a p => a.put (some p.1) p.2) a) W2) → wpAnyM P ops Q S D n done a w)
    (h2 : ∀ x W2, R x W2 → wpAnyM P ops Q S D m doneF ((ps x).foldl (fun a p => a.put (some p.1) p.2) a) W2) : wpAnyM P ops Q S D n done a w := h1 h2
end

/-- What is answered of the other chain's block. -/
def otherT (s : Srv) (h id : Int) : List UInt8 := if (getB s.other h).isSome = true then ansB (id, getD0 s.other h) else wayT gStay s h id

section
variable {c : Col} {w : World}

set_option maxRecDepth 100000 in
set_option maxHeartbeats 1600000 in
theorem wother_any (hok : Ok c w) {s : Srv} {k kd db : Nat} {vc vo vm : Value} (hs : s.At c k w vc vo vm) {id h ticks : Int} (hid : idB id = true) (hd : At c w db kd (deskC s vc vo vm id h ticks)) (kx : Nat) :
    Calls Tryz.prog 67 #[.pointer (some ⟨db, 0, none⟩)] w fun r w' => ∃ v, r = .returned v ∧ ∃ c', Sl TByte c' kx 0 w' v (otherT s h id) ∧ Step No c w c' w' ∧ Ok c' w' := by
  obtain ⟨q, hq, hqc⟩ := hok.top (k + kd)
  have hq0 : q ≠ 0 := by omega
  obtain ⟨voa, voc, rfl, _⟩ := hs.other.form
  obtain ⟨Z, hZ, hz⟩ := zero_block
  have s0 : Step No c w c w.drew := Step.rf.drewN 1
  have o0 : Ok c w.drew := hok.drewN 1
  have K0 : (fun W : World => W.cell? ⟨db, 1, none⟩ = some (.slice voa s.other.length voc) ∧ W.cell? ⟨db, 6, none⟩ = some (.int .i64 h)) w.drew := ⟨(hd.kn s0).get (i := 1) rfl, (hd.kn s0).get (i := 6) rfl⟩
  have KN : ∀ {c2 : Col} {w2 : World}, Step No c w c2 w2 → (fun W : World => W.cell? ⟨db, 1, none⟩ = some (.slice voa s.other.length voc) ∧ W.cell? ⟨db, 6, none⟩ = some (.int .i64 h)) w2 := fun h2 => ⟨(hd.kn h2).get (i := 1) rfl, (hd.kn h2).get (i := 6) rfl⟩
  have G1 := get_any o0 (hs.kn s0).other hs.nother h
  obtain ⟨an, on, sn⟩ := newAt o0 Z 59 q
  have G2 := get_any on (((hs.kn s0).kn sn).other) hs.nother h
  have Ka := KN (s0.trans sn)
  have hO : otherT s h id = if (getB s.other h).isSome = true then ansB (id, getD0 s.other h) else wayT gStay s h id := rfl
  obtain ⟨R, hR⟩ : ∃ R, otherT s h id = R := ⟨_, rfl⟩
  rw [hR] at hO ⊢
  have HO := Lib.hid hO
  have X := Lib.hid (And.intro hs (And.intro hd (And.intro hid (And.intro s0 (And.intro o0 (And.intro an (And.intro sn hqc)))))))
  obtain ⟨T, hT⟩ : ∃ T, (getB s.other h).isSome = T := ⟨_, rfl⟩
  obtain ⟨G, hG⟩ : ∃ G, getD0 s.other h = G := ⟨_, rfl⟩
  rw [hT, hG] at G1 G2 HO
  clear hs hd hid s0 o0 an sn on hok hO hR hqc
  go_enter Tryz.func67, Tryz.ntmps67
  go_wp2_with fail
  refine region_planM (fun W => W.cell? ⟨db, 1, none⟩ = some (.slice voa s.other.length voc) ∧ W.cell? ⟨db, 6, none⟩ = some (.int .i64 h)) (fun _ => true) (by kernel_rfl) ?_
  refine wpAnyM.takeT (i := 0) (v := _) (some 6) rfl rfl (by kernel_rfl) (by kernel_rfl) (by kernel_rfl) (by kernel_rfl) (by kernel_rfl) (fun _ _ _ h => h) (Or.inl ⟨by rfl, fun W hW => by first | (obtain ⟨q0, q1⟩ := hW; go_simp <;> rfl) | (obtain ⟨q0, q1⟩ := hW; go_simp; done)⟩) K0 ?_
  (try simp only [Act.put, List.setIfInBounds_toArray, List.set_cons_zero, List.set_cons_succ])
  refine wpAnyM.takeT (i := 1) (v := _) (some 7) rfl rfl (by kernel_rfl) (by kernel_rfl) (by kernel_rfl) (by kernel_rfl) (by kernel_rfl) (fun _ _ _ h => h) (Or.inl ⟨by rfl, fun W hW => by first | (obtain ⟨q0, q1⟩ := hW; go_simp <;> rfl) | (obtain ⟨q0, q1⟩ := hW; go_simp; done)⟩) K0 ?_
  (try simp only [Act.put, List.setIfInBounds_toArray, List.set_cons_zero, List.set_cons_succ])
  refine wpAnyM.takeT (i := 2) (v := _) (some 8) rfl rfl (by kernel_rfl) (by kernel_rfl) (by kernel_rfl) (by kernel_rfl) (by kernel_rfl) (fun _ _ _ h => h) (Or.inl ⟨by rfl, fun W hW => by first | (obtain ⟨q0, q1⟩ := hW; go_simp <;> rfl) | (obtain ⟨q0, q1⟩ := hW; go_simp; done)⟩) K0 ?_
  (try simp only [Act.put, List.setIfInBounds_toArray, List.set_cons_zero, List.set_cons_succ])
  refine wpAnyM.takeT (i := 3) (v := _) (some 9) rfl rfl (by kernel_rfl) (by kernel_rfl) (by kernel_rfl) (by kernel_rfl) (by kernel_rfl) (fun _ _ _ h => h) (Or.inl ⟨by rfl, fun W hW => by first | (obtain ⟨q0, q1⟩ := hW; go_simp <;> rfl) | (obtain ⟨q0, q1⟩ := hW; go_simp; done)⟩) K0 ?_
  (try simp only [Act.put, List.setIfInBounds_toArray, List.set_cons_zero, List.set_cons_succ])
  refine wpAnyM.takeT (i := 4) (v := _) (some 10) rfl rfl (by kernel_rfl) (by kernel_rfl) (by kernel_rfl) (by kernel_rfl) (by kernel_rfl) (fun _ _ _ h => h) (Or.inl ⟨by rfl, fun W hW => by first | (obtain ⟨q0, q1⟩ := hW; go_simp <;> rfl) | (obtain ⟨q0, q1⟩ := hW; go_simp; done)⟩) K0 ?_
  (try simp only [Act.put, List.setIfInBounds_toArray, List.set_cons_zero, List.set_cons_succ])
  refine wpAnyM.takeT (i := 5) (v := _) (some 11) rfl rfl (by kernel_rfl) (by kernel_rfl) (by kernel_rfl) (by kernel_rfl) (by kernel_rfl) (fun _ _ _ h => h) (Or.inl ⟨by rfl, fun W hW => by first | (obtain ⟨q0, q1⟩ := hW; go_simp <;> rfl) | (obtain ⟨q0, q1⟩ := hW; go_simp; done)⟩) K0 ?_
  (try simp only [Act.put, List.setIfInBounds_toArray, List.set_cons_zero, List.set_cons_succ])
  refine wpAnyM.takeT (i := 6) (v := _) (some 12) rfl rfl (by kernel_rfl) (by kernel_rfl) (by kernel_rfl) (by kernel_rfl) (by kernel_rfl) (fun _ _ _ h => h) (Or.inl ⟨by rfl, fun W hW => by first | (obtain ⟨q0, q1⟩ := hW; go_simp <;> rfl) | (obtain ⟨q0, q1⟩ := hW; go_simp; done)⟩) K0 ?_
  (try simp only [Act.put, List.setIfInBounds_toArray, List.set_cons_zero, List.set_cons_succ])
  refine wpAnyM.takeT (i := 7) (v := _) (some 13) rfl rfl (by kernel_rfl) (by kernel_rfl) (by kernel_rfl) (by kernel_rfl) (by kernel_rfl) (fun _ _ _ h => h) (Or.inl ⟨by rfl, fun W hW => by first | (obtain ⟨q0, q1⟩ := hW; go_simp <;> rfl) | (obtain ⟨q0, q1⟩ := hW; go_simp; done)⟩) K0 ?_
  (try simp only [Act.put, List.setIfInBounds_toArray, List.set_cons_zero, List.set_cons_succ])
  refine wpAnyM.takeT (i := 8) (v := _) (some 14) rfl rfl (by kernel_rfl) (by kernel_rfl) (by kernel_rfl) (by kernel_rfl) (by kernel_rfl) (fun _ _ _ h => h) (Or.inl ⟨by rfl, fun W hW => by first | (obtain ⟨q0, q1⟩ := hW; go_simp <;> rfl) | (obtain ⟨q0, q1⟩ := hW; go_simp; done)⟩) K0 ?_
  (try simp only [Act.put, List.setIfInBounds_toArray, List.set_cons_zero, List.set_cons_succ])
  refine wpAnyM.takeT (i := 9) (v := _) (some 15) rfl rfl (by kernel_rfl) (by kernel_rfl) (by kernel_rfl) (by kernel_rfl) (by kernel_rfl) (fun _ _ _ h => h) (Or.inl ⟨by rfl, fun W hW => by first | (obtain ⟨q0, q1⟩ := hW; go_simp <;> rfl) | (obtain ⟨q0, q1⟩ := hW; go_simp; done)⟩) K0 ?_
  (try simp only [Act.put, List.setIfInBounds_toArray, List.set_cons_zero, List.set_cons_succ])
  refine wpAnyM.forkE (m := 2) (doneF := #[true, true, true, true, true, true, true, true, true, true, true, true, true, true, true, false, false]) (fun (x : Value × Value × Nat) => [(16, .tuple #[.agg (bloC G x.1 x.2.1).toArray, .bool T]), (5, .tuple #[.agg (bloC G x.1 x.2.1).toArray, .bool T]), (17, .agg (bloC G x.1 x.2.1).toArray), (18, .bool T), (3, .pointer (some ⟨x.2.2, 0, none⟩))]) (fun (x : Value × Value × Nat) => fun W => ∃ c', G.At c' 0 W x.1 x.2.1 ∧ At c' W x.2.2 q Z ∧ Step No c w c' W ∧ Ok c' W) (fun REST => ?_) (fun x W2 hR => ?_)
  · (try simp only [List.foldl_cons, List.foldl_nil, Act.put, List.setIfInBounds_toArray, List.set_cons_zero, List.set_cons_succ] at REST)
    refine wpAnyM.fork2 (i := 10) (j := 14) (by kernel_rfl) rfl rfl (fun KQ hK => ?_) (fun KQ hK => ?_)
    · go_simp
      refine G1.mono ?_
      rintro e w2 ⟨bc, bv, rfl, c2, b2, s2, o2⟩
      have Kb := KN (X.out.2.2.2.1.trans s2)
      obtain ⟨a3, o3, s3⟩ := newAt o2 Z 59 q
      go_simp
      refine hK.out _ _ (fun _ => Kb) ?_
      clear hK KQ
      (try simp only [Act.put, List.setIfInBounds_toArray, List.set_cons_zero, List.set_cons_succ])
      refine wpAnyM.takeT (i := 11) (v := _) (some 5) rfl rfl (by kernel_rfl) (by kernel_rfl) (by kernel_rfl) (by kernel_rfl) (by kernel_rfl) (fun _ _ _ h => h) (Or.inl ⟨by rfl, fun W hW => by first | (obtain ⟨q0, q1⟩ := hW; go_simp <;> rfl) | (obtain ⟨q0, q1⟩ := hW; go_simp; done)⟩) Kb ?_
      (try simp only [Act.put, List.setIfInBounds_toArray, List.set_cons_zero, List.set_cons_succ])
      refine wpAnyM.takeT (i := 12) (v := _) (some 17) rfl rfl (by kernel_rfl) (by kernel_rfl) (by kernel_rfl) (by kernel_rfl) (by kernel_rfl) (fun _ _ _ h => h) (Or.inl ⟨by rfl, fun W hW => by first | (obtain ⟨q0, q1⟩ := hW; go_simp <;> rfl) | (obtain ⟨q0, q1⟩ := hW; go_simp; done)⟩) Kb ?_
      (try simp only [Act.put, List.setIfInBounds_toArray, List.set_cons_zero, List.set_cons_succ])
      refine wpAnyM.takeT (i := 13) (v := _) (some 18) rfl rfl (by kernel_rfl) (by kernel_rfl) (by kernel_rfl) (by kernel_rfl) (by kernel_rfl) (fun _ _ _ h => h) (Or.inl ⟨by rfl, fun W hW => by first | (obtain ⟨q0, q1⟩ := hW; go_simp <;> rfl) | (obtain ⟨q0, q1⟩ := hW; go_simp; done)⟩) Kb ?_
      (try simp only [Act.put, List.setIfInBounds_toArray, List.set_cons_zero, List.set_cons_succ])
      refine wpAnyM.one (i := 14) (by kernel_rfl) rfl (fun KQ hK => ?_)
      have Kc := KN ((X.out.2.2.2.1.trans s2).trans s3)
      refine step_alloc rfl (dd := some 3) rfl 59 rfl hz ?_
      refine hK.out _ _ (fun _ => Kc) ?_
      clear hK KQ
      (try simp only [Act.put, List.setIfInBounds_toArray, List.set_cons_zero, List.set_cons_succ])
      exact (REST ((bc, bv, w2.heap.size)) _ (⟨_, b2.kn s3, a3, (X.out.2.2.2.1.trans s2).trans s3, o3⟩)).cast (by kernel_rfl)
    · skip
      refine step_alloc rfl (dd := some 3) rfl 59 rfl hz ?_
      refine hK.out _ _ (fun _ => Ka) ?_
      clear hK KQ
      (try simp only [Act.put, List.setIfInBounds_toArray, List.set_cons_zero, List.set_cons_succ])
      refine wpAnyM.one (i := 10) (by kernel_rfl) rfl (fun KQ hK => ?_)
      go_simp
      refine G2.mono ?_
      rintro e w2 ⟨bc, bv, rfl, c2, b2, s2, o2⟩
      have Kb := KN ((X.out.2.2.2.1.trans X.out.2.2.2.2.2.2.1).trans s2)
      go_simp
      refine hK.out _ _ (fun _ => Kb) ?_
      clear hK KQ
      (try simp only [Act.put, List.setIfInBounds_toArray, List.set_cons_zero, List.set_cons_succ])
      refine wpAnyM.takeT (i := 11) (v := _) (some 5) rfl rfl (by kernel_rfl) (by kernel_rfl) (by kernel_rfl) (by kernel_rfl) (by kernel_rfl) (fun _ _ _ h => h) (Or.inl ⟨by rfl, fun W hW => by first | (obtain ⟨q0, q1⟩ := hW; go_simp <;> rfl) | (obtain ⟨q0, q1⟩ := hW; go_simp; done)⟩) Kb ?_
      (try simp only [Act.put, List.setIfInBounds_toArray, List.set_cons_zero, List.set_cons_succ])
      refine wpAnyM.takeT (i := 12) (v := _) (some 17) rfl rfl (by kernel_rfl) (by kernel_rfl) (by kernel_rfl) (by kernel_rfl) (by kernel_rfl) (fun _ _ _ h => h) (Or.inl ⟨by rfl, fun W hW => by first | (obtain ⟨q0, q1⟩ := hW; go_simp <;> rfl) | (obtain ⟨q0, q1⟩ := hW; go_simp; done)⟩) Kb ?_
      (try simp only [Act.put, List.setIfInBounds_toArray, List.set_cons_zero, List.set_cons_succ])
      refine wpAnyM.takeT (i := 13) (v := _) (some 18) rfl rfl (by kernel_rfl) (by kernel_rfl) (by kernel_rfl) (by kernel_rfl) (by kernel_rfl) (fun _ _ _ h => h) (Or.inl ⟨by rfl, fun W hW => by first | (obtain ⟨q0, q1⟩ := hW; go_simp <;> rfl) | (obtain ⟨q0, q1⟩ := hW; go_simp; done)⟩) Kb ?_
      (try simp only [Act.put, List.setIfInBounds_toArray, List.set_cons_zero, List.set_cons_succ])
      exact (REST ((bc, bv, w.drew.heap.size)) _ (⟨_, b2, X.out.2.2.2.2.2.1.kn s2, (X.out.2.2.2.1.trans X.out.2.2.2.2.2.2.1).trans s2, o2⟩)).cast (by kernel_rfl)
  (try simp only [List.foldl_cons, List.foldl_nil, Act.put, List.setIfInBounds_toArray, List.set_cons_zero, List.set_cons_succ])
  obtain ⟨bc, bv, xb⟩ := x
  dsimp only at hR ⊢
  obtain ⟨cr, br, ar, sr, or_⟩ := hR
  have Kr := KN sr
  have hl := bloC_len br.h br.hash bc bv
  have h1 := bloC_one br
  obtain ⟨B, hB⟩ : ∃ B, bloC G bc bv = B := ⟨_, rfl⟩
  rw [hB] at hl h1 ⊢
  have hi0 : (Tryz.prog.info? 59).map (·.size) = some B.length := by rw [info_blo, hl]
  have hi1 : (Tryz.prog.info? 59).map (·.size) = some B.toArray.size := by rw [info_blo]; simp [hl]
  have ht0 := ar.there (o := 0) (n := B.toArray.size) or_ hq0 (by simp [hl, hZ])
  obtain ⟨_, a4⟩ := ar.st or_ hq0 (ty := 59) (us := B) (by rw [hl, hZ]) hi0 h1
  have s4 : Step (One q) cr W2 cr (W2.setCells xb 0 B) := Step.setCells (K := One q) (.inr ar.col) _ _ _ Step.refl
  have b4 := br.keep s4 (show ¬ 0 = q by omega)
  have o4 := Ok.setCells (b := xb) B 0 _ or_
  have hqc := X.out.2.2.2.2.2.2.2
  have sAll : Step No c w cr (W2.setCells xb 0 B) := ((sr.ofNo (K := One q)).trans s4).drop fun b _ (e : c b = q) => by have := hqc b; omega
  have Kz := KN sAll
  rw [← hB] at b4
  have FL := Lib.hid (And.intro ht0 (And.intro hi1 (And.intro (all_oneCell_toArray h1) (And.intro a4.cells (And.intro hi0 (And.intro b4 (And.intro sAll (And.intro o4 hB))))))))
  clear ar br sr or_ hl h1 hi0 hi1 ht0 a4 s4 b4 o4 sAll hqc
  refine wpAnyM.one (i := 15) (by kernel_rfl) rfl (fun KQ hK => ?_)
  refine step_store rfl 59 _ _ rfl xb 0 B.toArray rfl rfl FL.out.1 FL.out.2.1 FL.out.2.2.1 ?_
  simp only [List.toList_toArray]
  refine hK.out _ _ (fun _ => Kz) ?_
  clear hK KQ
  (try simp only [Act.put, List.setIfInBounds_toArray, List.set_cons_zero, List.set_cons_succ])
  refine wpAnyM.one (i := 16) (by kernel_rfl) rfl (fun KQ hK => ?_)
  go_simp
  refine hK.out _ _ (fun _ => Kz) ?_
  clear hK KQ
  (try simp only [Act.put, List.setIfInBounds_toArray, List.set_cons_zero, List.set_cons_succ])
  refine wpAnyM.done (by kernel_rfl) ?_ _
  obtain ⟨W3, hW3⟩ : ∃ W, W2.setCells xb 0 B = W := ⟨_, rfl⟩
  rw [hB] at FL
  rw [hW3] at FL ⊢
  obtain ⟨_, _, _, f4, f5, f6, f7, f8, _⟩ := FL.out
  have PL := wplain_any f8 (X.out.1.kn f7) X.out.2.2.1 (X.out.2.1.kn f7) kx
  have DA := deskAns_any f8 (X.out.2.1.kn f7) X.out.2.2.1 f6 stay_turns true kx
  rw [hB] at DA
  have FL2 := Lib.hid (And.intro f4 (And.intro f5 f7))
  have HO2 := Lib.hid (And.intro HO.out (show ansT true (gStay id G) = ansB (id, G) from rfl))
  clear FL f4 f5 f6 f7 f8 Kz Kr hB hW3 hT hG HO KN K0 X
  clear hz hZ
  obtain ⟨L1, hL1⟩ : ∃ L, ansT true (gStay id G) = L := ⟨_, rfl⟩
  obtain ⟨L2, hL2⟩ : ∃ L, wayT gStay s h id = L := ⟨_, rfl⟩
  obtain ⟨L3, hL3⟩ : ∃ L, ansB (id, G) = L := ⟨_, rfl⟩
  rw [hL1] at DA HO2
  rw [hL2] at PL HO2
  rw [hL3] at HO2
  clear hL1 hL2 hL3
  cases T with
  | true =>
    go_wp2_with (refine wpList_load_mid rfl 59 _ rfl xb 0 rfl B _ FL2.out.1 Tryz.underlying59 rfl FL2.out.2.1 ?_)
    with_reducible refine DA.mono ?_
    rintro e w4 ⟨v, rfl, c4, sl4, s4, o4⟩
    have X := Lib.hid (And.intro sl4 (And.intro (FL2.out.2.2.trans s4) o4))
    clear DA PL sl4 s4 o4
    go_wp2_with fail
    go_ret
    have e : R = L1 := by rw [HO2.out.2]; simpa using HO2.out.1
    rw [e]
    exact ⟨v, rfl, c4, X.out⟩
  | false =>
    go_wp2_with fail
    with_reducible refine PL.mono ?_
    rintro e w4 ⟨v, rfl, c4, sl4, s4, o4⟩
    have X := Lib.hid (And.intro sl4 (And.intro (FL2.out.2.2.trans s4) o4))
    clear DA PL sl4 s4 o4
    go_wp2_with fail
    go_ret
    have e : R = L2 := by simpa using HO2.out.1
    rw [e]
    exact ⟨v, rfl, c4, X.out⟩
end
end Go.Proofs.YtgcobbapaaihiaaGreat
