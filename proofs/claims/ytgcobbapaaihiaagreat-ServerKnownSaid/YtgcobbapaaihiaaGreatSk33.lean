/- ServerKnown, part 33: lemmas, each with its own conditions. -/
import Derived.Test.YtgcobbapaaihiaaGreatSk09
import Derived.Test.YtgcobbapaaihiaaGreatSk32
set_option linter.unusedVariables false
set_option linter.unusedSimpArgs false
namespace Go.Proofs.YtgcobbapaaihiaaGreat
open Go.RowKit

/-- An answer's bytes. -/
def ansB (x : Int × Blo) : List UInt8 := if ansE x.1 x.2 = 0 then encN x.1 x.2 else []
def ansT (t : Bool) (x : Int × Blo) : List UInt8 := if t = true then ansB x else []

section
variable {c : Col} {w : World}

set_option maxRecDepth 100000 in
set_option maxHeartbeats 1600000 in
theorem deskAns_any (hok : Ok c w) {s : Srv} {kd db : Nat} {vc vo vm : Value} {id h ticks : Int} (hd : At c w db kd (deskC s vc vo vm id h ticks)) (hid : idB id = true) {b : Blo} {k : Nat} {bc bv : Value} (hb : b.At c k w bc bv)
    {f : Nat} {g : Int → Blo → Int × Blo} (hT : Turns f g) (t : Bool) (kx : Nat) :
    Calls Tryz.prog 110 #[.pointer (some ⟨db, 0, none⟩), .agg (bloC b bc bv).toArray, .bool t, .func (.func f) #[] #[]] w fun r w' => ∃ v, r = .returned v ∧ ∃ c', Sl TByte c' kx 0 w' v (ansT t (g id b)) ∧ Step No c w c' w' ∧ Ok c' w' := by
  obtain ⟨q, hq, hqc⟩ := hok.top (k + kd)
  have hq0 : q ≠ 0 := by omega
  have a0 := At.new0 hok (bloC b bc bv) 59
  have o0 := hok.alloc (.cells (bloC b bc bv).toArray 59)
  have s0 : Step No c w c (w.alloc (.cells (bloC b bc bv).toArray 59)) := Step.refl.alloc _
  obtain ⟨xb, hxb⟩ : ∃ b, w.heap.size = b := ⟨_, rfl⟩
  rw [hxb] at a0
  have hl := bloC_len hb.h hb.hash bc bv
  have h1 := bloC_one hb
  have hd0 := hd.kn s0
  have hb0 := hb.kn s0
  obtain ⟨B, hB⟩ : ∃ B, bloC b bc bv = B := ⟨_, rfl⟩
  rw [hB] at a0 o0 s0 hd0 hb0 hl h1 ⊢
  obtain ⟨W0, hW0⟩ : ∃ W, w.alloc (.cells B.toArray 59) = W := ⟨_, rfl⟩
  rw [hW0] at a0 o0 s0 hd0 hb0
  cases t with
  | false =>
    have X := Lib.hid (And.intro s0 o0)
    clear a0 o0 s0 hd0 hb0 hd hb hok hT hid hB
    go_enter Tryz.func110, Tryz.ntmps110
    go_wp2_with fail
    go_ret
    exact ⟨_, rfl, c, Sl.nil _ _ _ _ _, X.out⟩
  | true =>
    have hi5 : (deskC s vc vo vm id h ticks)[5]? = some (.int .i64 id) := rfl
    have KK : (fun W : World => W.cell? ⟨db, 5, none⟩ = some (.int .i64 id) ∧ (Instr.loadAt 59 (.pointer (some ⟨xb, 0, none⟩))).run Tryz.prog W = .ok (.agg B.toArray) W) W0.drew := ⟨(hd0.kn (Step.rf.drewN 1)).get hi5, (a0.kn (Step.rf.drewN 1)).ld (ty := 59) Tryz.underlying59 rfl (by rw [info_blo, hl])⟩
    have hbu := answer_built id hl
    obtain ⟨Z, hZ, hz⟩ := zero_answer
    have sA : Step No c W0 c (W0.drew.alloc (.cells Z.toArray 61)) := (Step.rf.drewN (K := No) 1).alloc _
    have KA : (fun W : World => W.cell? ⟨db, 5, none⟩ = some (.int .i64 id) ∧ (Instr.loadAt 59 (.pointer (some ⟨xb, 0, none⟩))).run Tryz.prog W = .ok (.agg B.toArray) W) (W0.drew.alloc (.cells Z.toArray 61)) := ⟨(hd0.kn sA).get hi5, (a0.kn sA).ld (ty := 59) Tryz.underlying59 rfl (by rw [info_blo, hl])⟩
    obtain ⟨W1, c1, hW1, a1, o1, s1, t1, t2, t3, t4⟩ := stnew (o0.drewN 1) hZ (show (ansC id B).length = 167 by simp [ansC, hl]) (ansC_one h1) info_answer (q := q) hq0
    obtain ⟨yb, hyb⟩ : ∃ b, W0.heap.size = b := ⟨_, rfl⟩
    have hyb2 : (W0.drewN 1).heap.size = yb := hyb
    rw [hyb2] at hW1 a1 t1
    have hst : Step No c W0 c1 W1 := (Step.rf.drewN (K := No) 1).trans s1
    have a1' := a1
    rw [← hB] at a1'
    have hcf := hT.1
    have C := hT.2 c1 W1 yb q k id b bc bv o1 hid hq0 (by omega) (hb0.kn hst) a1'
    have SL := Lib.hid (And.intro t1 (And.intro t2 (And.intro t3 hz)))
    have X := Lib.hid (And.intro s0 (And.intro hst o1))
    have HW := Lib.hid (show (W0.alloc (.cells Z.toArray 61)).drew.setCells yb 0 (ansC id B) = W1 from hW1)
    clear a0 o0 s0 hd0 hb0 hd hb hok hT hid hB hZ hz sA a1 o1 s1 t1 t2 t3 t4 hst a1' hi5 hyb2 hW1 h1 hl
    go_enter Tryz.func110, Tryz.ntmps110
    go_wp2_with fail
    (try rw [hW0])
    (try rw [hxb])
    refine region_planM (fun W => W.cell? ⟨db, 5, none⟩ = some (.int .i64 id) ∧ (Instr.loadAt 59 (.pointer (some ⟨xb, 0, none⟩))).run Tryz.prog W = .ok (.agg B.toArray) W) (fun i => !([8] : List Nat).contains i) (by kernel_rfl) ?_
    refine wpAnyM.takeT (i := 0) (v := _) (some 14) rfl rfl (by kernel_rfl) (by kernel_rfl) (by kernel_rfl) (by kernel_rfl) (by kernel_rfl) (fun _ _ _ h => h) (Or.inl ⟨by rfl, fun W hW => by first | (obtain ⟨q0, q1⟩ := hW; go_simp <;> rfl) | (obtain ⟨q0, q1⟩ := hW; go_simp; done)⟩) KK ?_
    (try simp only [Act.put, List.setIfInBounds_toArray, List.set_cons_zero, List.set_cons_succ])
    refine wpAnyM.takeT (i := 1) (v := _) (some 15) rfl rfl (by kernel_rfl) (by kernel_rfl) (by kernel_rfl) (by kernel_rfl) (by kernel_rfl) (fun _ _ _ h => h) (Or.inl ⟨by rfl, fun W hW => by first | (obtain ⟨q0, q1⟩ := hW; go_simp <;> rfl) | (obtain ⟨q0, q1⟩ := hW; go_simp; done)⟩) KK ?_
    (try simp only [Act.put, List.setIfInBounds_toArray, List.set_cons_zero, List.set_cons_succ])
    refine wpAnyM.takeT (i := 2) (v := _) (some 16) rfl rfl (by kernel_rfl) (by kernel_rfl) (by kernel_rfl) (by kernel_rfl) (by kernel_rfl) (fun _ _ _ h => h) (Or.inl ⟨by rfl, fun W hW => by first | (obtain ⟨q0, q1⟩ := hW; go_simp <;> rfl) | (obtain ⟨q0, q1⟩ := hW; go_simp; done)⟩) KK ?_
    (try simp only [Act.put, List.setIfInBounds_toArray, List.set_cons_zero, List.set_cons_succ])
    refine wpAnyM.takeT (i := 3) (v := _) (some 17) rfl rfl (by kernel_rfl) (by kernel_rfl) (by kernel_rfl) (by kernel_rfl) (by kernel_rfl) (fun _ _ _ h => h) (Or.inl ⟨by rfl, fun W hW => by first | (obtain ⟨q0, q1⟩ := hW; go_simp <;> rfl) | (obtain ⟨q0, q1⟩ := hW; go_simp; done)⟩) KK ?_
    (try simp only [Act.put, List.setIfInBounds_toArray, List.set_cons_zero, List.set_cons_succ])
    refine wpAnyM.takeT (i := 4) (v := _) (some 18) rfl rfl (by kernel_rfl) (by kernel_rfl) (by kernel_rfl) (by kernel_rfl) (by kernel_rfl) (fun _ _ _ h => h) (Or.inl ⟨by rfl, fun W hW => by first | (obtain ⟨q0, q1⟩ := hW; go_simp <;> rfl) | (obtain ⟨q0, q1⟩ := hW; go_simp; done)⟩) KK ?_
    (try simp only [Act.put, List.setIfInBounds_toArray, List.set_cons_zero, List.set_cons_succ])
    refine wpAnyM.takeT (i := 5) (v := _) (some 19) rfl rfl (by kernel_rfl) (by kernel_rfl) (by kernel_rfl) (by kernel_rfl) (by kernel_rfl) (fun _ _ _ h => h) (Or.inl ⟨by rfl, fun W hW => by obtain ⟨q0, q1⟩ := hW; exact y_load 59 q1 (.tmp 5) rfl rfl⟩) KK ?_
    (try simp only [Act.put, List.setIfInBounds_toArray, List.set_cons_zero, List.set_cons_succ])
    refine wpAnyM.takeT (i := 6) (v := _) (some 20) rfl rfl (by kernel_rfl) (by kernel_rfl) (by kernel_rfl) (by kernel_rfl) (by kernel_rfl) (fun _ _ _ h => h) (Or.inl ⟨by rfl, fun W hW => by obtain ⟨q0, q1⟩ := hW; exact y_build 61 hbu #[(0, .tmp 18), (1, .tmp 19)] rfl rfl⟩) KK ?_
    (try simp only [Act.put, List.setIfInBounds_toArray, List.set_cons_zero, List.set_cons_succ])
    refine wpAnyM.one (i := 7) (by kernel_rfl) rfl (fun KQ hK => ?_)
    refine step_alloc rfl (dd := some 9) rfl 61 rfl SL.out.2.2.2 ?_
    refine hK.out _ _ (fun _ => KA) ?_
    clear hK KQ
    (try simp only [Act.put, List.setIfInBounds_toArray, List.set_cons_zero, List.set_cons_succ])
    refine wpAnyM.one (i := 8) (by kernel_rfl) rfl (fun KQ hK => ?_)
    refine step_store rfl 61 _ _ rfl yb 0 (ansC id B).toArray (by rw [← hyb]; rfl) rfl SL.out.1 SL.out.2.1 SL.out.2.2.1 ?_
    simp only [List.toList_toArray]
    refine hK.out _ _ (fun h => absurd h (by decide)) ?_
    clear hK KQ
    (try simp only [Act.put, List.setIfInBounds_toArray, List.set_cons_zero, List.set_cons_succ])
    refine wpAnyM.done (by kernel_rfl) ?_ _
    go_wp2_with fail
    (try rw [HW.out])
    with_reducible refine C.mono ?_
    rintro e w3 ⟨rfl, c2, vc2, vv2, a2, b2, s2, o2⟩
    have SA := Lib.hid (fun b (h : ¬ c b = q) => h)
    have hqq := Lib.hid hqc
    have AA := answer_any o2 (g id b).1 b2 kx
    have hl2 : (ansC (g id b).1 (bloC (g id b).2 vc2 vv2)).length = 167 := by simp [ansC, bloC_len b2.h b2.hash]
    have hsum : Step No c w c2 w3 := ((((X.out.1.trans X.out.2.1).ofNo (K := One q)).trans s2).drop fun b _ (e : c b = q) => by have := hqq.out b; omega)
    have hE : ansT true (g id b) = if ansE (g id b).1 (g id b).2 = 0 then encN (g id b).1 (g id b).2 else [] := rfl
    rw [← hE] at AA
    obtain ⟨L, hL⟩ : ∃ L, ansT true (g id b) = L := ⟨_, rfl⟩
    rw [hL] at AA
    have HL := Lib.hid hL
    obtain ⟨e0, he0⟩ : ∃ e, ansE (g id b).1 (g id b).2 = e := ⟨_, rfl⟩
    rw [he0] at AA
    obtain ⟨B2, hB2⟩ : ∃ B2, ansC (g id b).1 (bloC (g id b).2 vc2 vv2) = B2 := ⟨_, rfl⟩
    rw [hB2] at AA hl2 a2
    have SL2 := Lib.hid (And.intro a2.cells (And.intro (show (Tryz.prog.info? 61).map (·.size) = some B2.length by rw [info_answer, hl2]) hsum))
    clear a2 b2 s2 o2 hsum hE hL he0 hB2 hl2 SA hqq X SL HW C
    go_wp2_with (refine wpList_load_mid rfl 61 _ rfl yb 0 rfl B2 _ SL2.out.1 Tryz.underlying61 rfl SL2.out.2.1 ?_)
    with_reducible refine AA.mono ?_
    rintro e w4 ⟨v, rfl, c4, sl4, s4, o4⟩
    have X := Lib.hid (And.intro sl4 (And.intro (SL2.out.2.2.trans s4) o4))
    clear AA sl4 s4 o4
    go_wp2_with fail
    go_ret
    rw [HL.out]
    exact ⟨v, rfl, c4, X.out⟩
end
end Go.Proofs.YtgcobbapaaihiaaGreat

set_option linter.unusedVariables false
set_option linter.unusedSimpArgs false
namespace Go.Proofs.YtgcobbapaaihiaaGreat
open Go.RowKit

/-- What is answered of the block that the chain has. -/
def wayT (g : Int → Blo → Int × Blo) (s : Srv) (h id : Int) : List UInt8 := ansT (getB s.chain h).isSome (g id (getD0 s.chain h))

section
variable {c : Col} {w : World}

theorem Sl.fst {k : Nat} {va : Option Addr} {vn : Nat} {l : List UInt8} (h : Sl TByte c k 0 w (.slice va l.length vn) l) (n : Nat) (hn : n ≤ l.length) : Sl TByte c k 0 w (.slice va n vn) (l.take n) ∧ n ≤ vn := by
  rcases h with ⟨rfl, a, cap, e, h1, h2⟩ | ⟨b, off, cap, e, h1, h2, h3, h4, h5⟩
  · have : n = 0 := by simpa using hn
    subst this
    cases e
    exact ⟨.inl ⟨rfl, _, _, rfl, h1, h2⟩, Nat.zero_le _⟩
  · cases e
    have hl : (l.take n).length = n := by rw [List.length_take]; omega
    refine ⟨.inr ⟨b, off, vn, by rw [hl], by omega, h2, h3, h4, fun i x hx => h5 i x ?_⟩, by omega⟩
    rw [List.getElem?_take] at hx
    split at hx
    · exact hx
    · cases hx

set_option maxRecDepth 100000 in
set_option maxHeartbeats 1600000 in
theorem wplain_any (hok : Ok c w) {s : Srv} {k kd db : Nat} {vc vo vm : Value} (hs : s.At c k w vc vo vm) {id h ticks : Int} (hid : idB id = true) (hd : At c w db kd (deskC s vc vo vm id h ticks)) (kx : Nat) :
    Calls Tryz.prog 61 #[.pointer (some ⟨db, 0, none⟩)] w fun r w' => ∃ v, r = .returned v ∧ ∃ c', Sl TByte c' kx 0 w' v (wayT gStay s h id) ∧ Step No c w c' w' ∧ Ok c' w' := by
  have OW := own_any hok hs hd
  have X := Lib.hid (And.intro hd hid)
  clear hok hs hd hid
  go_enter Tryz.func61, Tryz.ntmps61
  go_wp2_with fail
  with_reducible refine OW.mono ?_
  rintro e w1 ⟨bc, bv, rfl, c1, b1, s1, o1⟩
  clear OW
  obtain ⟨G, hG⟩ : ∃ G, getD0 s.chain h = G := ⟨_, rfl⟩
  obtain ⟨T, hT⟩ : ∃ T, (getB s.chain h).isSome = T := ⟨_, rfl⟩
  have hW : wayT gStay s h id = ansT T (gStay id G) := by unfold wayT; rw [hG, hT]
  rw [hG] at b1 ⊢
  rw [hT]
  obtain ⟨Z, hZ, hz⟩ := zero_block
  have hl := bloC_len b1.h b1.hash bc bv
  obtain ⟨W2, c2, hW2, a2, o2, s2, t1, t2, t3, t4⟩ := stnew o1 hZ hl (bloC_one b1) info_blo (q := 1) (by decide)
  obtain ⟨xb, hxb⟩ : ∃ b, w1.heap.size = b := ⟨_, rfl⟩
  rw [hxb] at hW2 a2 t1
  have DA := deskAns_any o2 ((X.out.1.kn s1).kn s2) X.out.2 (b1.kn s2) stay_turns T kx
  rw [← hW] at DA
  obtain ⟨B, hB⟩ : ∃ B, bloC G bc bv = B := ⟨_, rfl⟩
  rw [hB] at DA hW2 a2 t1 t2 t3 t4 ⊢
  have SL := Lib.hid (And.intro t1 (And.intro t2 (And.intro t3 (And.intro a2.cells (And.intro t4 (And.intro hz (And.intro (s1.trans s2) hW2)))))))
  clear t1 t2 t3 a2 t4 hz hW2 s1 s2 o1 o2 b1 hl hB hZ hW hG hT X
  go_wp2_with (first | (refine wpList_alloc_zero rfl (some 3) rfl 59 rfl SL.out.2.2.2.2.2.1 ?_; rw [hxb]) | (refine wpList_store_mid rfl 59 _ _ rfl xb 0 B.toArray rfl rfl SL.out.1 SL.out.2.1 SL.out.2.2.1 ?_; rw [SL.out.2.2.2.2.2.2.2]) | (refine wpList_load_mid rfl 59 _ rfl xb 0 rfl B _ SL.out.2.2.2.1 Tryz.underlying59 rfl SL.out.2.2.2.2.1 ?_))
  with_reducible refine DA.mono ?_
  rintro e w3 ⟨v, rfl, c3, sl3, s3, o3⟩
  have X := Lib.hid (And.intro sl3 (And.intro (SL.out.2.2.2.2.2.2.1.trans s3) o3))
  clear DA sl3 s3 o3
  go_wp2_with fail
  go_ret
  exact ⟨v, rfl, c3, X.out⟩

set_option maxRecDepth 100000 in
set_option maxHeartbeats 1600000 in
theorem wbroken_any (hok : Ok c w) {s : Srv} {k kd db : Nat} {vc vo vm : Value} (hs : s.At c k w vc vo vm) {id h ticks : Int} (hid : idB id = true) (hd : At c w db kd (deskC s vc vo vm id h ticks)) (kx : Nat) :
    Calls Tryz.prog 65 #[.pointer (some ⟨db, 0, none⟩)] w fun r w' => ∃ v, r = .returned v ∧ ∃ c', Sl TByte c' kx 0 w' v (wayT gBroken s h id) ∧ Step No c w c' w' ∧ Ok c' w' := by
  have OW := own_any hok hs hd
  have X := Lib.hid (And.intro hd hid)
  clear hok hs hd hid
  go_enter Tryz.func65, Tryz.ntmps65
  go_wp2_with fail
  with_reducible refine OW.mono ?_
  rintro e w1 ⟨bc, bv, rfl, c1, b1, s1, o1⟩
  clear OW
  obtain ⟨G, hG⟩ : ∃ G, getD0 s.chain h = G := ⟨_, rfl⟩
  obtain ⟨T, hT⟩ : ∃ T, (getB s.chain h).isSome = T := ⟨_, rfl⟩
  have hW : wayT gBroken s h id = ansT T (gBroken id G) := by unfold wayT; rw [hG, hT]
  rw [hG] at b1 ⊢
  rw [hT]
  obtain ⟨Z, hZ, hz⟩ := zero_block
  have hl := bloC_len b1.h b1.hash bc bv
  obtain ⟨W2, c2, hW2, a2, o2, s2, t1, t2, t3, t4⟩ := stnew o1 hZ hl (bloC_one b1) info_blo (q := 1) (by decide)
  obtain ⟨xb, hxb⟩ : ∃ b, w1.heap.size = b := ⟨_, rfl⟩
  rw [hxb] at hW2 a2 t1
  have DA := deskAns_any o2 ((X.out.1.kn s1).kn s2) X.out.2 (b1.kn s2) broken_turns T kx
  rw [← hW] at DA
  obtain ⟨B, hB⟩ : ∃ B, bloC G bc bv = B := ⟨_, rfl⟩
  rw [hB] at DA hW2 a2 t1 t2 t3 t4 ⊢
  have SL := Lib.hid (And.intro t1 (And.intro t2 (And.intro t3 (And.intro a2.cells (And.intro t4 (And.intro hz (And.intro (s1.trans s2) hW2)))))))
  clear t1 t2 t3 a2 t4 hz hW2 s1 s2 o1 o2 b1 hl hB hZ hW hG hT X
  go_wp2_with (first | (refine wpList_alloc_zero rfl (some 3) rfl 59 rfl SL.out.2.2.2.2.2.1 ?_; rw [hxb]) | (refine wpList_store_mid rfl 59 _ _ rfl xb 0 B.toArray rfl rfl SL.out.1 SL.out.2.1 SL.out.2.2.1 ?_; rw [SL.out.2.2.2.2.2.2.2]) | (refine wpList_load_mid rfl 59 _ rfl xb 0 rfl B _ SL.out.2.2.2.1 Tryz.underlying59 rfl SL.out.2.2.2.2.1 ?_))
  with_reducible refine DA.mono ?_
  rintro e w3 ⟨v, rfl, c3, sl3, s3, o3⟩
  have X := Lib.hid (And.intro sl3 (And.intro (SL.out.2.2.2.2.2.2.1.trans s3) o3))
  clear DA sl3 s3 o3
  go_wp2_with fail
  go_ret
  exact ⟨v, rfl, c3, X.out⟩

set_option maxRecDepth 100000 in
set_option maxHeartbeats 1600000 in
theorem wpoor_any (hok : Ok c w) {s : Srv} {k kd db : Nat} {vc vo vm : Value} (hs : s.At c k w vc vo vm) {id h ticks : Int} (hid : idB id = true) (hd : At c w db kd (deskC s vc vo vm id h ticks)) (kx : Nat) :
    Calls Tryz.prog 66 #[.pointer (some ⟨db, 0, none⟩)] w fun r w' => ∃ v, r = .returned v ∧ ∃ c', Sl TByte c' kx 0 w' v (wayT gPoor s h id) ∧ Step No c w c' w' ∧ Ok c' w' := by
  have OW := own_any hok hs hd
  have X := Lib.hid (And.intro hd hid)
  clear hok hs hd hid
  go_enter Tryz.func66, Tryz.ntmps66
  go_wp2_with fail
  with_reducible refine OW.mono ?_
  rintro e w1 ⟨bc, bv, rfl, c1, b1, s1, o1⟩
  clear OW
  obtain ⟨G, hG⟩ : ∃ G, getD0 s.chain h = G := ⟨_, rfl⟩
  obtain ⟨T, hT⟩ : ∃ T, (getB s.chain h).isSome = T := ⟨_, rfl⟩
  have hW : wayT gPoor s h id = ansT T (gPoor id G) := by unfold wayT; rw [hG, hT]
  rw [hG] at b1 ⊢
  rw [hT]
  obtain ⟨Z, hZ, hz⟩ := zero_block
  have hl := bloC_len b1.h b1.hash bc bv
  obtain ⟨W2, c2, hW2, a2, o2, s2, t1, t2, t3, t4⟩ := stnew o1 hZ hl (bloC_one b1) info_blo (q := 1) (by decide)
  obtain ⟨xb, hxb⟩ : ∃ b, w1.heap.size = b := ⟨_, rfl⟩
  rw [hxb] at hW2 a2 t1
  have DA := deskAns_any o2 ((X.out.1.kn s1).kn s2) X.out.2 (b1.kn s2) poor_turns T kx
  rw [← hW] at DA
  obtain ⟨B, hB⟩ : ∃ B, bloC G bc bv = B := ⟨_, rfl⟩
  rw [hB] at DA hW2 a2 t1 t2 t3 t4 ⊢
  have SL := Lib.hid (And.intro t1 (And.intro t2 (And.intro t3 (And.intro a2.cells (And.intro t4 (And.intro hz (And.intro (s1.trans s2) hW2)))))))
  clear t1 t2 t3 a2 t4 hz hW2 s1 s2 o1 o2 b1 hl hB hZ hW hG hT X
  go_wp2_with (first | (refine wpList_alloc_zero rfl (some 3) rfl 59 rfl SL.out.2.2.2.2.2.1 ?_; rw [hxb]) | (refine wpList_store_mid rfl 59 _ _ rfl xb 0 B.toArray rfl rfl SL.out.1 SL.out.2.1 SL.out.2.2.1 ?_; rw [SL.out.2.2.2.2.2.2.2]) | (refine wpList_load_mid rfl 59 _ rfl xb 0 rfl B _ SL.out.2.2.2.1 Tryz.underlying59 rfl SL.out.2.2.2.2.1 ?_))
  with_reducible refine DA.mono ?_
  rintro e w3 ⟨v, rfl, c3, sl3, s3, o3⟩
  have X := Lib.hid (And.intro sl3 (And.intro (SL.out.2.2.2.2.2.2.1.trans s3) o3))
  clear DA sl3 s3 o3
  go_wp2_with fail
  go_ret
  exact ⟨v, rfl, c3, X.out⟩

set_option maxRecDepth 100000 in
set_option maxHeartbeats 1600000 in
theorem wodd_any (hok : Ok c w) {s : Srv} {k kd db : Nat} {vc vo vm : Value} (hs : s.At c k w vc vo vm) {id h ticks : Int} (hid : idB id = true) (hd : At c w db kd (deskC s vc vo vm id h ticks)) (kx : Nat) :
    Calls Tryz.prog 68 #[.pointer (some ⟨db, 0, none⟩)] w fun r w' => ∃ v, r = .returned v ∧ ∃ c', Sl TByte c' kx 0 w' v (wayT gOdd s h id) ∧ Step No c w c' w' ∧ Ok c' w' := by
  have OW := own_any hok hs hd
  have X := Lib.hid (And.intro hd hid)
  clear hok hs hd hid
  go_enter Tryz.func68, Tryz.ntmps68
  go_wp2_with fail
  with_reducible refine OW.mono ?_
  rintro e w1 ⟨bc, bv, rfl, c1, b1, s1, o1⟩
  clear OW
  obtain ⟨G, hG⟩ : ∃ G, getD0 s.chain h = G := ⟨_, rfl⟩
  obtain ⟨T, hT⟩ : ∃ T, (getB s.chain h).isSome = T := ⟨_, rfl⟩
  have hW : wayT gOdd s h id = ansT T (gOdd id G) := by unfold wayT; rw [hG, hT]
  rw [hG] at b1 ⊢
  rw [hT]
  obtain ⟨Z, hZ, hz⟩ := zero_block
  have hl := bloC_len b1.h b1.hash bc bv
  obtain ⟨W2, c2, hW2, a2, o2, s2, t1, t2, t3, t4⟩ := stnew o1 hZ hl (bloC_one b1) info_blo (q := 1) (by decide)
  obtain ⟨xb, hxb⟩ : ∃ b, w1.heap.size = b := ⟨_, rfl⟩
  rw [hxb] at hW2 a2 t1
  have DA := deskAns_any o2 ((X.out.1.kn s1).kn s2) X.out.2 (b1.kn s2) odd_turns T kx
  rw [← hW] at DA
  obtain ⟨B, hB⟩ : ∃ B, bloC G bc bv = B := ⟨_, rfl⟩
  rw [hB] at DA hW2 a2 t1 t2 t3 t4 ⊢
  have SL := Lib.hid (And.intro t1 (And.intro t2 (And.intro t3 (And.intro a2.cells (And.intro t4 (And.intro hz (And.intro (s1.trans s2) hW2)))))))
  clear t1 t2 t3 a2 t4 hz hW2 s1 s2 o1 o2 b1 hl hB hZ hW hG hT X
  go_wp2_with (first | (refine wpList_alloc_zero rfl (some 3) rfl 59 rfl SL.out.2.2.2.2.2.1 ?_; rw [hxb]) | (refine wpList_store_mid rfl 59 _ _ rfl xb 0 B.toArray rfl rfl SL.out.1 SL.out.2.1 SL.out.2.2.1 ?_; rw [SL.out.2.2.2.2.2.2.2]) | (refine wpList_load_mid rfl 59 _ rfl xb 0 rfl B _ SL.out.2.2.2.1 Tryz.underlying59 rfl SL.out.2.2.2.2.1 ?_))
  with_reducible refine DA.mono ?_
  rintro e w3 ⟨v, rfl, c3, sl3, s3, o3⟩
  have X := Lib.hid (And.intro sl3 (And.intro (SL.out.2.2.2.2.2.2.1.trans s3) o3))
  clear DA sl3 s3 o3
  go_wp2_with fail
  go_ret
  exact ⟨v, rfl, c3, X.out⟩

set_option maxRecDepth 100000 in
theorem wquiet_any (hok : Ok c w) (db kx : Nat) :
    Calls Tryz.prog 60 #[.pointer (some ⟨db, 0, none⟩)] w fun r w' => ∃ v, r = .returned v ∧ ∃ c', Sl TByte c' kx 0 w' v [] ∧ Step No c w c' w' ∧ Ok c' w' := by
  go_enter Tryz.func60, Tryz.ntmps60
  go_wp2_with fail
  go_ret
  exact ⟨_, rfl, c, Sl.nil _ _ _ _ _, Step.refl, hok⟩

set_option maxRecDepth 100000 in
set_option maxHeartbeats 1600000 in
theorem wcut_any (hok : Ok c w) {s : Srv} {k kd db : Nat} {vc vo vm : Value} (hs : s.At c k w vc vo vm) {id h ticks : Int} (hid : idB id = true) (hd : At c w db kd (deskC s vc vo vm id h ticks)) (kx : Nat) :
    Calls Tryz.prog 63 #[.pointer (some ⟨db, 0, none⟩)] w fun r w' => ∃ v, r = .returned v ∧ ∃ c', Sl TByte c' kx 0 w' v ((wayT gStay s h id).take ((wayT gStay s h id).length - 1)) ∧ Step No c w c' w' ∧ Ok c' w' := by
  have PL := wplain_any hok hs hid hd kx
  obtain ⟨L, hL⟩ : ∃ L, wayT gStay s h id = L := ⟨_, rfl⟩
  rw [hL] at PL ⊢
  clear hok hs hd hid hL
  go_enter Tryz.func63, Tryz.ntmps63
  go_wp2_with fail
  with_reducible refine PL.mono ?_
  rintro e w1 ⟨v, rfl, c1, sl1, s1, o1⟩
  obtain ⟨va, vn, rfl, hv⟩ := sl1.form
  have hfs := sl1.fst (L.length - 1) (by omega)
  have hw : max (wrap64 ((L.length : Int) - 1)) 0 = ((L.length - 1 : Nat) : Int) := by
    have hle := sl1.length_le
    simp only [maxLen] at hle
    have : wrap64 ((L.length : Int) - 1) = (L.length : Int) - 1 := by unfold wrap64; omega
    rw [this]; omega
  have hc : ((L.length - 1 : Nat) : Int) ≤ (vn : Int) := by
    have := hfs.2
    omega
  have hx : Sl TByte c1 kx 0 w1 (.slice va (L.length - 1) vn) (L.take (L.length - 1)) := hfs.1
  have X := Lib.hid (And.intro hx (And.intro s1 o1))
  clear PL sl1 s1 o1 hv hx hfs
  have h0 : (0 : Int) ≤ ((L.length - 1 : Nat) : Int) := by omega
  obtain ⟨M, hM⟩ : ∃ M, L.length - 1 = M := ⟨_, rfl⟩
  rw [hM] at hw hc X h0
  have hM2 := Lib.hid hM
  clear hM
  go_wp2_with fail
  go_ret
  rw [hM2.out]
  exact ⟨_, rfl, c1, X.out⟩

set_option maxRecDepth 100000 in
set_option maxHeartbeats 1600000 in
theorem wlate_any (hok : Ok c w) {s : Srv} {k kd db : Nat} (hk : ¬ k = kd) (hkd : kd ≠ 0) {vc vo vm : Value} (hs : s.At c k w vc vo vm) {id h ticks : Int} (hid : idB id = true) (hd : At c w db kd (deskC s vc vo vm id h ticks)) (ht : IntKind.i64.wrap (ticks + s.slow) = ticks + s.slow) (kx : Nat) :
    Calls Tryz.prog 62 #[.pointer (some ⟨db, 0, none⟩)] w fun r w' => ∃ v, r = .returned v ∧ ∃ c', Sl TByte c' kx 0 w' v (wayT gStay s h id) ∧ At c' w' db kd (deskC s vc vo vm id h (ticks + s.slow)) ∧ Step (One kd) c w c' w' ∧ Ok c' w' := by
  have a2 := hd.setN (i := 7) (by simp [deskC]) (.int .i64 (ticks + s.slow))
  have e2 : (deskC s vc vo vm id h ticks).set 7 (.int .i64 (ticks + s.slow)) = deskC s vc vo vm id h (ticks + s.slow) := rfl
  rw [e2] at a2
  have s2 : Step (One kd) c w c (w.setCell ⟨db, 7, none⟩ (.int .i64 (ticks + s.slow))) := (Step.refl (K := One kd)).setCell (a := ⟨db, 7, none⟩) (.inr hd.col) _
  have o2 := hok.setCell ⟨db, 7, none⟩ (.int .i64 (ticks + s.slow))
  have yf := hd.fz hok hkd 7
  have KK : (fun W : World => W.cell? ⟨db, 7, none⟩ = some (.int .i64 ticks) ∧ W.cell? ⟨db, 4, none⟩ = some (.int .i64 s.slow) ∧ W.frozen? ⟨db, 7, none⟩ = false) w.drew := ⟨(hd.kn (Step.rf.drewN 1)).get (i := 7) rfl, (hd.kn (Step.rf.drewN 1)).get (i := 4) rfl, yf⟩
  have a3 := a2.kn (Step.rf.drewN 1)
  have PL := wplain_any (o2.drewN 1) ((hs.keep s2 hk).kn (Step.rf.drewN 1)) hid a3 kx
  have X := Lib.hid (And.intro a3 (s2.drewN 1))
  obtain ⟨S, hS⟩ : ∃ S, s.slow = S := ⟨_, rfl⟩
  rw [hS] at KK PL X ht
  have X2 := Lib.hid hS
  clear hok hs hd hid a2 e2 s2 o2 yf a3 hk hS
  go_enter Tryz.func62, Tryz.ntmps62
  go_wp2_with fail
  refine region_planM (fun W => W.cell? ⟨db, 7, none⟩ = some (.int .i64 ticks) ∧ W.cell? ⟨db, 4, none⟩ = some (.int .i64 S) ∧ W.frozen? ⟨db, 7, none⟩ = false) (fun i => !([12] : List Nat).contains i) (by kernel_rfl) ?_
  refine wpAnyM.takeT (i := 0) (v := _) (some 3) rfl rfl (by kernel_rfl) (by kernel_rfl) (by kernel_rfl) (by kernel_rfl) (by kernel_rfl) (fun _ _ _ h => h) (Or.inl ⟨by rfl, fun W hW => by first | (obtain ⟨q0, q1, q2⟩ := hW; go_simp <;> rfl) | (obtain ⟨q0, q1, q2⟩ := hW; go_simp; done)⟩) KK ?_
  (try simp only [Act.put, List.setIfInBounds_toArray, List.set_cons_zero, List.set_cons_succ])
  refine wpAnyM.takeT (i := 1) (v := _) (some 4) rfl rfl (by kernel_rfl) (by kernel_rfl) (by kernel_rfl) (by kernel_rfl) (by kernel_rfl) (fun _ _ _ h => h) (Or.inl ⟨by rfl, fun W hW => by first | (obtain ⟨q0, q1, q2⟩ := hW; go_simp <;> rfl) | (obtain ⟨q0, q1, q2⟩ := hW; go_simp; done)⟩) KK ?_
  (try simp only [Act.put, List.setIfInBounds_toArray, List.set_cons_zero, List.set_cons_succ])
  refine wpAnyM.takeT (i := 2) (v := _) (some 5) rfl rfl (by kernel_rfl) (by kernel_rfl) (by kernel_rfl) (by kernel_rfl) (by kernel_rfl) (fun _ _ _ h => h) (Or.inl ⟨by rfl, fun W hW => by first | (obtain ⟨q0, q1, q2⟩ := hW; go_simp <;> rfl) | (obtain ⟨q0, q1, q2⟩ := hW; go_simp; done)⟩) KK ?_
  (try simp only [Act.put, List.setIfInBounds_toArray, List.set_cons_zero, List.set_cons_succ])
  refine wpAnyM.takeT (i := 3) (v := _) (some 6) rfl rfl (by kernel_rfl) (by kernel_rfl) (by kernel_rfl) (by kernel_rfl) (by kernel_rfl) (fun _ _ _ h => h) (Or.inl ⟨by rfl, fun W hW => by first | (obtain ⟨q0, q1, q2⟩ := hW; go_simp <;> rfl) | (obtain ⟨q0, q1, q2⟩ := hW; go_simp; done)⟩) KK ?_
  (try simp only [Act.put, List.setIfInBounds_toArray, List.set_cons_zero, List.set_cons_succ])
  refine wpAnyM.one (i := 4) (by kernel_rfl) rfl (fun KQ hK => ?_)
  go_simp
  refine hK.out _ _ (fun _ => KK) ?_
  clear hK KQ
  (try simp only [Act.put, List.setIfInBounds_toArray, List.set_cons_zero, List.set_cons_succ])
  refine wpAnyM.one (i := 5) (by kernel_rfl) rfl (fun KQ hK => ?_)
  go_simp
  refine hK.out _ _ (fun _ => KK) ?_
  clear hK KQ
  (try simp only [Act.put, List.setIfInBounds_toArray, List.set_cons_zero, List.set_cons_succ])
  refine wpAnyM.one (i := 6) (by kernel_rfl) rfl (fun KQ hK => ?_)
  go_simp
  refine hK.out _ _ (fun _ => KK) ?_
  clear hK KQ
  (try simp only [Act.put, List.setIfInBounds_toArray, List.set_cons_zero, List.set_cons_succ])
  refine wpAnyM.one (i := 7) (by kernel_rfl) rfl (fun KQ hK => ?_)
  go_simp
  refine hK.out _ _ (fun _ => KK) ?_
  clear hK KQ
  (try simp only [Act.put, List.setIfInBounds_toArray, List.set_cons_zero, List.set_cons_succ])
  refine wpAnyM.one (i := 8) (by kernel_rfl) rfl (fun KQ hK => ?_)
  go_simp
  refine hK.out _ _ (fun _ => KK) ?_
  clear hK KQ
  (try simp only [Act.put, List.setIfInBounds_toArray, List.set_cons_zero, List.set_cons_succ])
  refine wpAnyM.one (i := 9) (by kernel_rfl) rfl (fun KQ hK => ?_)
  go_simp
  refine hK.out _ _ (fun _ => KK) ?_
  clear hK KQ
  (try simp only [Act.put, List.setIfInBounds_toArray, List.set_cons_zero, List.set_cons_succ])
  refine wpAnyM.one (i := 10) (by kernel_rfl) rfl (fun KQ hK => ?_)
  go_simp
  refine hK.out _ _ (fun _ => KK) ?_
  clear hK KQ
  (try simp only [Act.put, List.setIfInBounds_toArray, List.set_cons_zero, List.set_cons_succ])
  refine wpAnyM.one (i := 11) (by kernel_rfl) rfl (fun KQ hK => ?_)
  go_simp
  refine hK.out _ _ (fun _ => KK) ?_
  clear hK KQ
  (try simp only [Act.put, List.setIfInBounds_toArray, List.set_cons_zero, List.set_cons_succ])
  refine wpAnyM.one (i := 12) (by kernel_rfl) rfl (fun KQ hK => ?_)
  go_simp
  refine hK.out _ _ (fun h => absurd h (by decide)) ?_
  clear hK KQ
  (try simp only [Act.put, List.setIfInBounds_toArray, List.set_cons_zero, List.set_cons_succ])
  refine wpAnyM.done (by kernel_rfl) ?_ _
  go_wp2_with fail
  refine PL.mono ?_
  rintro e w3 ⟨v, rfl, c3, sl3, s3, o3⟩
  have X := Lib.hid (And.intro sl3 (And.intro (X.out.1.kn s3) (And.intro (X.out.2.trans s3.ofNo) o3)))
  clear PL sl3 s3 o3
  go_wp2_with fail
  go_ret
  rw [X2.out]
  exact ⟨v, rfl, c3, X.out⟩
end
end Go.Proofs.YtgcobbapaaihiaaGreat
