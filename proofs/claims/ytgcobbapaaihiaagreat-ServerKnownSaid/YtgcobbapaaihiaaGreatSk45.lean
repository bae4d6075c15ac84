/- ServerKnown, part 45: lemmas, each with its own conditions. -/
import Derived.Test.YtgcobbapaaihiaaGreatSk36
import Derived.Test.YtgcobbapaaihiaaGreatSk44
set_option linter.unusedVariables false
set_option linter.unusedSimpArgs false
namespace Go.Proofs.YtgcobbapaaihiaaGreat
open Go.RowKit

theorem decAsk {id h : Int} (hid : idB id = true) (hh : heightB h = true) : Decodes (encA id h) 1 0 0 (fun M => M = msgA 1 id h) := by
  refine ⟨?_, fun c w kx v ho hs => (decodeAsk_ok ho id h hid hh hs).mono (by rintro r w' ⟨rfl, c', st, o⟩; exact ⟨_, rfl, rfl, c', st, o⟩)⟩
  rintro M rfl
  refine ⟨rfl, ?_, rfl⟩
  intro v hv
  simp only [msgA, zeroAC, List.mem_cons] at hv
  rcases hv with rfl | rfl | rfl | rfl | hv
  · rfl
  · rfl
  · rfl
  · rfl
  · exact bloC_one (zeroB_at (fun _ => 0) 0 default) v hv
theorem decAns {id h : Int} {b : Blo} (hid : idB id = true) (hh : 1 ≤ h ∧ h ≤ 3) (hf : Fit h b) : Decodes (encN id b) 2 0 0 (ansM id b.h.height) :=
  ⟨fun M hM => ⟨hM.1, hM.2.1, hM.2.2.1⟩, fun c w kx v ho hs => decodeAns_ok ho hid hh hf hs⟩

section
variable {c : Col} {w : World}

set_option maxRecDepth 100000 in
set_option maxHeartbeats 1600000 in
theorem silent_any (hok : Ok c w) {s : Srv} {k : Nat} {vc vo vm : Value} (hs : s.At c k w vc vo vm) (nth : Int) {bs : List UInt8} {kx : Nat} {v : Value} (hv : Sl TByte c kx 0 w v bs)
    {k1 e0 e1 : Int} {PM : List Value → Prop} (D : Decodes bs k1 e0 e1 PM) {id h : Int} (hask : k1 = 1 → (∀ M, PM M → M = msgA 1 id h) ∧ idB id = true ∧ heightB h = true) (hn : replyT s nth k1 e0 e1 id h = []) :
    Calls Tryz.prog 24 #[.agg #[vc, vo, vm, .int .i64 s.delay, .int .i64 s.slow], v, .int .i64 nth] w fun r w' => r = .returned (.bool true) ∧ ∃ c', Step No c w c' w' ∧ Ok c' w' := by
  obtain ⟨vca, vcc, rfl, _⟩ := hs.chain.form
  obtain ⟨voa, voc, rfl, _⟩ := hs.other.form
  obtain ⟨vma, vmc, rfl, _⟩ := hs.moods.form
  obtain ⟨va, vn, rfl, _⟩ := hv.form
  have a0 := At.new0 hok [.slice vca s.chain.length vcc, .slice voa s.other.length voc, .slice vma s.moods.length vmc, .int .i64 s.delay, .int .i64 s.slow] 25
  have s0 : Step No c w c (w.alloc (.cells #[.slice vca s.chain.length vcc, .slice voa s.other.length voc, .slice vma s.moods.length vmc, .int .i64 s.delay, .int .i64 s.slow] 25)) := Step.refl.alloc _
  have o0 := hok.alloc (.cells #[.slice vca s.chain.length vcc, .slice voa s.other.length voc, .slice vma s.moods.length vmc, .int .i64 s.delay, .int .i64 s.slow] 25)
  have RP := reply_any o0 (hs.kn s0) nth (hv.kn s0) D hask 0
  rw [hn] at RP
  have hw : waitT s nth [] = 0 := rfl
  have hi : isT [] = false := rfl
  rw [hw, hi] at RP
  have X := Lib.hid s0
  obtain ⟨bx, hbx⟩ : ∃ b, w.heap.size = b := ⟨_, rfl⟩
  rw [hbx] at a0
  obtain ⟨W0, hW0⟩ : ∃ W, w.alloc (.cells #[.slice vca s.chain.length vcc, .slice voa s.other.length voc, .slice vma s.moods.length vmc, .int .i64 s.delay, .int .i64 s.slow] 25) = W := ⟨_, rfl⟩
  have hW0' : w.alloc (.cells ([Value.slice vca s.chain.length vcc, .slice voa s.other.length voc, .slice vma s.moods.length vmc, .int .i64 s.delay, .int .i64 s.slow] : List Value).toArray 25) = W0 := hW0
  rw [hW0] at RP X
  rw [hW0'] at a0
  have y0 := a0.get (i := 0) rfl
  have y1 := a0.get (i := 1) rfl
  have y2 := a0.get (i := 2) rfl
  have y3 := a0.get (i := 3) rfl
  have y4 := a0.get (i := 4) rfl
  clear a0 s0 o0 hs hv D hask hok hn hw hi hW0'
  go_enter Tryz.func24, Tryz.ntmps24
  go_wp2_with fail
  (try rw [hW0])
  (try rw [hbx])
  refine RP.mono ?_
  rintro e w1 ⟨x, rfl, c1, sl, s1, o1⟩
  obtain ⟨xa, xn, rfl, _⟩ := sl.form
  have F := Lib.hid (And.intro (X.out.trans s1) o1)
  clear RP sl s1 o1
  go_wp2_with fail
  go_ret
  exact ⟨rfl, c1, F.out⟩

set_option maxRecDepth 100000 in
set_option maxHeartbeats 3200000 in
theorem told_yes (hok : Ok c w) {s : Srv} {k : Nat} {vc vo vm : Value} (hs : s.At c k w vc vo vm) (nth h id hb ticks : Int) {b : Blo} (hh : heightB h = true) (hid : idB id = true) (hbb : 1 ≤ hb ∧ hb ≤ 3) (hf : Fit hb b)
    (hr : replyT s nth 1 0 0 7 h = encN id b) (ht : tickS (moodS s nth) s = ticks) :
    Calls Tryz.prog 26 #[.agg #[vc, vo, vm, .int .i64 s.delay, .int .i64 s.slow], .int .i64 h, .int .i64 nth, .int .i64 id, .int .i64 b.h.height, .int .i64 ticks] w fun r w' => r = .returned (.bool true) ∧ ∃ c', Step No c w c' w' ∧ Ok c' w' := by
  obtain ⟨vca, vcc, rfl, _⟩ := hs.chain.form
  obtain ⟨voa, voc, rfl, _⟩ := hs.other.form
  obtain ⟨vma, vmc, rfl, _⟩ := hs.moods.form
  have a0 := At.new0 hok [.slice vca s.chain.length vcc, .slice voa s.other.length voc, .slice vma s.moods.length vmc, .int .i64 s.delay, .int .i64 s.slow] 25
  have s0 : Step No c w c (w.alloc (.cells #[.slice vca s.chain.length vcc, .slice voa s.other.length voc, .slice vma s.moods.length vmc, .int .i64 s.delay, .int .i64 s.slow] 25)) := Step.refl.alloc _
  have o0 := hok.alloc (.cells #[.slice vca s.chain.length vcc, .slice voa s.other.length voc, .slice vma s.moods.length vmc, .int .i64 s.delay, .int .i64 s.slow] 25)
  have hs0 := hs.kn s0
  obtain ⟨bx, hbx⟩ : ∃ b, w.heap.size = b := ⟨_, rfl⟩
  rw [hbx] at a0
  obtain ⟨C, hC⟩ : ∃ C : List Value, [.slice vca s.chain.length vcc, .slice voa s.other.length voc, .slice vma s.moods.length vmc, .int .i64 s.delay, .int .i64 s.slow] = C := ⟨_, rfl⟩
  have hCl : (Tryz.prog.info? 25).map (·.size) = some C.length := by rw [← hC]; kernel_rfl
  have e0 : (#[.slice vca s.chain.length vcc, .slice voa s.other.length voc, .slice vma s.moods.length vmc, .int .i64 s.delay, .int .i64 s.slow] : Array Value) = C.toArray := by rw [← hC]
  rw [e0] at s0 o0 hs0 ⊢
  rw [hC] at a0
  obtain ⟨W0, hW0⟩ : ∃ W, w.alloc (.cells C.toArray 25) = W := ⟨_, rfl⟩
  rw [hW0] at s0 o0 hs0 a0
  have sd : Step No c W0 c W0.drew := Step.rf.drewN 1
  have od : Ok c W0.drew := o0.drewN 1
  have KN : ∀ {c2 : Col} {w2 : World}, Step No c W0 c2 w2 → (fun W : World => (Instr.loadAt 25 (.pointer (some ⟨bx, 0, none⟩))).run Tryz.prog W = .ok (.agg C.toArray) W) w2 := fun h2 => (a0.kn h2).ld (ty := 25) Tryz.underlying25 rfl hCl
  have KK := KN sd
  have AK := askL_any od 7 h (by decide) hh 0
  have hne : encN id b ≠ [] := by
    intro e
    have := congrArg List.length e
    have h2 : (numB 2).length = 2 := by decide
    simp [encN, h2] at this
  have X := Lib.hid (And.intro hs0 (And.intro (s0.trans sd) (And.intro sd (And.intro hh (And.intro hid (And.intro hbb (And.intro hf (And.intro hr (And.intro ht (And.intro hne e0))))))))))
  clear a0 s0 o0 hs0 hs hok od hh hid hbb hf hr ht hne hC hCl e0
  go_enter Tryz.func26, Tryz.ntmps26
  go_wp2_with fail
  (try rw [hW0])
  (try rw [hbx])
  refine region_planM (fun W => (Instr.loadAt 25 (.pointer (some ⟨bx, 0, none⟩))).run Tryz.prog W = .ok (.agg C.toArray) W) (fun _ => true) (by kernel_rfl) ?_
  refine wpAnyM.takeT (i := 0) (v := _) (some 19) rfl rfl (by kernel_rfl) (by kernel_rfl) (by kernel_rfl) (by kernel_rfl) (by kernel_rfl) (fun _ _ _ h => h) (Or.inl ⟨by rfl, fun W hW => by have q0 := hW; exact y_load 25 q0 (.tmp 6) rfl rfl⟩) KK ?_
  (try simp only [Act.put, List.setIfInBounds_toArray, List.set_cons_zero, List.set_cons_succ])
  refine wpAnyM.takeT (i := 1) (v := _) (some 20) rfl rfl (by kernel_rfl) (by kernel_rfl) (by kernel_rfl) (by kernel_rfl) (by kernel_rfl) (fun _ _ _ h => h) (Or.inl ⟨by rfl, fun W hW => by first | (obtain q0 := hW; go_simp <;> rfl) | (obtain q0 := hW; go_simp; done)⟩) KK ?_
  (try simp only [Act.put, List.setIfInBounds_toArray, List.set_cons_zero, List.set_cons_succ])
  refine wpAnyM.takeT (i := 3) (v := _) (some 22) rfl rfl (by kernel_rfl) (by kernel_rfl) (by kernel_rfl) (by kernel_rfl) (by kernel_rfl) (fun _ _ _ h => h) (Or.inl ⟨by rfl, fun W hW => by first | (obtain q0 := hW; go_simp <;> rfl) | (obtain q0 := hW; go_simp; done)⟩) KK ?_
  (try simp only [Act.put, List.setIfInBounds_toArray, List.set_cons_zero, List.set_cons_succ])
  refine wpAnyM.one (i := 2) (by kernel_rfl) rfl (fun KQ hK => ?_)
  go_simp
  refine AK.mono ?_
  rintro e w2 ⟨v2, rfl, c2, sl2, s2, o2⟩
  have KK := KN (sd.trans s2)
  obtain ⟨va2, vn2, rfl, _⟩ := sl2.form
  obtain ⟨hs0, st0, _, hh, hid, hbb, hf, hr, ht, hne, e0⟩ := X.out
  have RP := reply_any o2 ((hs0.kn sd).kn s2) nth sl2 (decAsk (id := 7) (by decide) hh) (id := 7) (h := h) (fun _ => ⟨fun M hM => hM, by decide, hh⟩) 0
  rw [hr, e0, show waitT s nth (encN id b) = ticks by unfold waitT; rw [if_neg hne]; exact ht, show isT (encN id b) = true by unfold isT; rw [if_neg hne]] at RP
  have X2 := Lib.hid (And.intro (st0.trans s2) (sd.trans s2))
  clear AK sl2 s2 o2 hs0 st0 hh hid hbb hf hr ht hne e0
  go_simp
  refine hK.out _ _ (fun _ => KK) ?_
  clear hK KQ
  (try simp only [Act.put, List.setIfInBounds_toArray, List.set_cons_zero, List.set_cons_succ])
  refine wpAnyM.one (i := 4) (by kernel_rfl) rfl (fun KQ hK => ?_)
  go_simp
  refine RP.mono ?_
  rintro e w3 ⟨v3, rfl, c3, sl3, s3, o3⟩
  have KK := KN (X2.out.2.trans s3)
  obtain ⟨va3, vn3, rfl, _⟩ := sl3.form
  have X3 := Lib.hid (And.intro sl3 (And.intro (X2.out.1.trans s3) o3))
  clear RP sl3 s3 o3
  go_simp
  refine hK.out _ _ (fun _ => KK) ?_
  clear hK KQ
  (try simp only [Act.put, List.setIfInBounds_toArray, List.set_cons_zero, List.set_cons_succ])
  refine wpAnyM.takeT (i := 5) (v := _) (some 18) rfl rfl (by kernel_rfl) (by kernel_rfl) (by kernel_rfl) (by kernel_rfl) (by kernel_rfl) (fun _ _ _ h => h) (Or.inl ⟨by rfl, fun W hW => by first | (obtain q0 := hW; go_simp <;> rfl) | (obtain q0 := hW; go_simp; done)⟩) KK ?_
  (try simp only [Act.put, List.setIfInBounds_toArray, List.set_cons_zero, List.set_cons_succ])
  refine wpAnyM.takeT (i := 6) (v := _) (some 24) rfl rfl (by kernel_rfl) (by kernel_rfl) (by kernel_rfl) (by kernel_rfl) (by kernel_rfl) (fun _ _ _ h => h) (Or.inl ⟨by rfl, fun W hW => by first | (obtain q0 := hW; go_simp <;> rfl) | (obtain q0 := hW; go_simp; done)⟩) KK ?_
  (try simp only [Act.put, List.setIfInBounds_toArray, List.set_cons_zero, List.set_cons_succ])
  refine wpAnyM.takeT (i := 7) (v := _) (some 25) rfl rfl (by kernel_rfl) (by kernel_rfl) (by kernel_rfl) (by kernel_rfl) (by kernel_rfl) (fun _ _ _ h => h) (Or.inl ⟨by rfl, fun W hW => by first | (obtain q0 := hW; go_simp <;> rfl) | (obtain q0 := hW; go_simp; done)⟩) KK ?_
  (try simp only [Act.put, List.setIfInBounds_toArray, List.set_cons_zero, List.set_cons_succ])
  refine wpAnyM.takeT (i := 8) (v := _) (some 26) rfl rfl (by kernel_rfl) (by kernel_rfl) (by kernel_rfl) (by kernel_rfl) (by kernel_rfl) (fun _ _ _ h => h) (Or.inl ⟨by rfl, fun W hW => by first | (obtain q0 := hW; go_simp <;> rfl) | (obtain q0 := hW; go_simp; done)⟩) KK ?_
  (try simp only [Act.put, List.setIfInBounds_toArray, List.set_cons_zero, List.set_cons_succ])
  refine wpAnyM.one (i := 9) (by kernel_rfl) rfl (fun KQ hK => ?_)
  go_simp
  refine hK.out _ _ (fun _ => KK) ?_
  clear hK KQ
  (try simp only [Act.put, List.setIfInBounds_toArray, List.set_cons_zero, List.set_cons_succ])
  refine wpAnyM.one (i := 10) (by kernel_rfl) rfl (fun KQ hK => ?_)
  go_simp
  refine hK.out _ _ (fun _ => KK) ?_
  clear hK KQ
  (try simp only [Act.put, List.setIfInBounds_toArray, List.set_cons_zero, List.set_cons_succ])
  refine wpAnyM.one (i := 11) (by kernel_rfl) rfl (fun KQ hK => ?_)
  go_simp
  refine hK.out _ _ (fun _ => KK) ?_
  clear hK KQ
  (try simp only [Act.put, List.setIfInBounds_toArray, List.set_cons_zero, List.set_cons_succ])
  refine wpAnyM.done (by kernel_rfl) ?_ _
  obtain ⟨_, _, _, hh, hid, hbb, hf, _⟩ := X.out
  have DC := (decAns hid hbb hf).2 c3 w3 0 _ X3.out.2.2 X3.out.1
  clear X KK KN X2 hh hid hbb hf
  go_wp2_with fail
  with_reducible refine DC.mono ?_
  rintro e w4 ⟨M, ⟨hMl, hM1, hM0, hM3, hM5⟩, rfl, c4, s4, o4⟩
  obtain ⟨ZM, hZM, zM⟩ := zero_msg
  obtain ⟨ZF, hZF, zF⟩ := zero_fault
  obtain ⟨W5, W6, c6, hW5, hW6, am, af, o6, s6, t1, t2, t3, t4, t5, t6⟩ := stnew2 o4 hZM hMl hM1 info_msg hZF (B2 := [.int .i64 0, .int .i64 0]) rfl (by intro v hv; simp only [List.mem_cons, List.not_mem_nil, or_false] at hv; rcases hv with rfl | rfl <;> rfl) info_fault2 (q := 1) (q2 := 1) (by decide) (by decide)
  obtain ⟨mb, hmb⟩ : ∃ b, w4.heap.size = b := ⟨_, rfl⟩
  rw [hmb] at hW5 hW6 am af t1 t4
  have y0 := am.get hM0
  have y3 := am.get hM3
  have y5 := am.get hM5
  have g0 := af.get (i := 0) rfl
  have g1 := af.get (i := 1) rfl
  have F := Lib.hid (And.intro ((X3.out.2.1.trans s4).trans s6) o6)
  have TT := Lib.hid (And.intro t1 (And.intro t2 (And.intro t3 (And.intro t4 (And.intro t5 (And.intro t6 (And.intro zM (And.intro zF (And.intro hW5 hW6)))))))))
  clear DC X3 s4 o4 hMl hM1 hM0 hM3 hM5 hZM zM hZF zF hW5 hW6 am af o6 s6 t1 t2 t3 t4 t5 t6
  go_wp2_with (first | (refine wpList_alloc_zero rfl (some 16) rfl 72 rfl TT.out.2.2.2.2.2.2.1 ?_; rw [hmb]) | (refine wpList_alloc_zero rfl (some 17) rfl 74 rfl TT.out.2.2.2.2.2.2.2.1 ?_; rw [World.size_alloc, hmb]) | (refine wpList_store_mid rfl 72 _ _ rfl mb 0 M.toArray rfl rfl TT.out.1 TT.out.2.1 TT.out.2.2.1 ?_; rw [TT.out.2.2.2.2.2.2.2.2.1]) | (refine wpList_store_mid rfl 74 _ _ rfl (mb + 1) 0 _ rfl rfl TT.out.2.2.2.1 TT.out.2.2.2.2.1 TT.out.2.2.2.2.2.1 ?_; rw [TT.out.2.2.2.2.2.2.2.2.2]))
  go_ret
  exact ⟨by first | rfl | simp, c6, F.out⟩
end
end Go.Proofs.YtgcobbapaaihiaaGreat

set_option linter.unusedVariables false
set_option linter.unusedSimpArgs false
namespace Go.Proofs.YtgcobbapaaihiaaGreat
open Go.RowKit

theorem Fit.height {h : Int} {b : Blo} (hf : Fit h b) : b.h.height = h := by obtain ⟨p, z, x, y, _, _, _, _, rfl⟩ := hf; rfl
theorem Fit.check {h : Int} (hh : 1 ≤ h ∧ h ≤ 3) {b : Blo} (hf : Fit h b) : checkB b = 0 := by
  obtain ⟨p, z, x, y, hp, hz, hx, hy, rfl⟩ := hf
  have h1 : checkH (blo3 h p z x y).h = 0 := hdr1_check hh p z
  have h2 : checkV (blo3 h p z x y).vals = 0 := l1_ok.check
  have h3 : checkC (blo3 h p z x y).cm = 0 := by
    unfold checkC
    rw [if_neg (by show ¬ (h < 1 ∨ 1073741824 < h); omega), if_neg (by show ¬ 64 < 1; omega)]
    rfl
  simp [checkB, partsE, firstE, h1, h2, h3]
theorem Fit.ans {h id : Int} (hh : 1 ≤ h ∧ h ≤ 3) {b : Blo} (hf : Fit h b) (hid : idB id = true) : ansB (id, b) = encN id b := by
  unfold ansB ansE
  rw [if_pos (by show (if idB id = true then checkB b else 3) = 0; rw [if_pos hid]; exact hf.check hh)]

/-- Three blocks. -/
theorem FitL.three {L : List Blo} (h : FitL 3 L) : ∃ b1 b2 b3, L = [b1, b2, b3] ∧ Fit 1 b1 ∧ Fit 2 b2 ∧ Fit 3 b3 := by
  obtain ⟨h1, h2⟩ := h
  match L, h1 with
  | [b1, b2, b3], _ => exact ⟨b1, b2, b3, rfl, h2 0 b1 rfl, h2 1 b2 rfl, h2 2 b3 rfl⟩

def srvK (L : List Blo) (ms : List Int) (d s : Int) : Srv := ⟨L, [], ms, d, s⟩

section
variable {b1 b2 b3 : Blo}
theorem get3 (h1 : Fit 1 b1) (h2 : Fit 2 b2) (h3 : Fit 3 b3) : getB [b1, b2, b3] 1 = some b1 ∧ getB [b1, b2, b3] 2 = some b2 ∧ getB [b1, b2, b3] 3 = some b3 ∧ getB [b1, b2, b3] 4 = none := by
  have e1 := h1.height
  have e2 := h2.height
  have e3 := h3.height
  refine ⟨?_, ?_, ?_, ?_⟩ <;> simp [getB, e1, e2, e3]
theorem gd {L : List Blo} {h : Int} {b : Blo} (e : getB L h = some b) : getD0 L h = b := by unfold getD0; rw [e]; rfl
theorem rep {s : Srv} {nth h id m : Int} (hm : moodS s nth = m) (h0 : m ≠ 0) : replyT s nth 1 0 0 id h = outS m s h id := by
  unfold replyT noB
  rw [hm, if_neg (by simp [h0])]
variable (h1 : Fit 1 b1) (h2 : Fit 2 b2) (h3 : Fit 3 b3)
include h1 h2 h3
theorem kA1 : replyT (srvK [b1, b2, b3] [] 3 0) 0 1 0 0 7 2 = encN 7 b2 ∧ tickS (moodS (srvK [b1, b2, b3] [] 3 0) 0) (srvK [b1, b2, b3] [] 3 0) = 3 := by
  have hm : moodS (srvK [b1, b2, b3] [] 3 0) 0 = 1 := rfl
  refine ⟨?_, by rw [hm]; rfl⟩
  rw [rep hm (by decide)]
  have e := (get3 h1 h2 h3).2.1
  show wayT gStay (srvK [b1, b2, b3] [] 3 0) 2 7 = _
  unfold wayT
  rw [show (srvK [b1, b2, b3] [] 3 0).chain = [b1, b2, b3] from rfl, gd e, e]
  exact h2.ans (by omega) (by decide)
theorem kA2 : replyT (srvK [b1, b2, b3] [] 0 0) 0 1 0 0 7 4 = [] := by
  have hm : moodS (srvK [b1, b2, b3] [] 0 0) 0 = 1 := rfl
  rw [rep hm (by decide)]
  have e := (get3 h1 h2 h3).2.2.2
  show wayT gStay (srvK [b1, b2, b3] [] 0 0) 4 7 = _
  unfold wayT
  rw [show (srvK [b1, b2, b3] [] 0 0).chain = [b1, b2, b3] from rfl, e]
  rfl
omit h1 h2 h3 in
theorem k1 : replyT (srvK [b1, b2, b3] [2, 3] 3 5) 0 1 0 0 7 1 = [] := by
  have hm : moodS (srvK [b1, b2, b3] [2, 3] 3 5) 0 = 2 := rfl
  rw [rep hm (by decide)]
  rfl
theorem k2 : replyT (srvK [b1, b2, b3] [2, 3] 3 5) 1 1 0 0 7 1 = encN 7 b1 ∧ tickS (moodS (srvK [b1, b2, b3] [2, 3] 3 5) 1) (srvK [b1, b2, b3] [2, 3] 3 5) = 8 := by
  have hm : moodS (srvK [b1, b2, b3] [2, 3] 3 5) 1 = 3 := rfl
  refine ⟨?_, by rw [hm]; rfl⟩
  rw [rep hm (by decide)]
  have e := (get3 h1 h2 h3).1
  show wayT gStay (srvK [b1, b2, b3] [2, 3] 3 5) 1 7 = _
  unfold wayT
  rw [show (srvK [b1, b2, b3] [2, 3] 3 5).chain = [b1, b2, b3] from rfl, gd e, e]
  exact h1.ans (by omega) (by decide)
omit h1 h2 h3 in
theorem k3 : replyT (srvK [b1, b2, b3] [2, 3] 3 5) 2 1 0 0 7 1 = [] := by
  have hm : moodS (srvK [b1, b2, b3] [2, 3] 3 5) 2 = 2 := by simp [moodS, checkS, srvK, badW, badM]
  rw [rep hm (by decide)]
  rfl
theorem k4 : replyT (srvK [b1, b2, b3] [5] 0 0) 0 1 0 0 7 2 = encN 7 b3 ∧ tickS (moodS (srvK [b1, b2, b3] [5] 0 0) 0) (srvK [b1, b2, b3] [5] 0 0) = 0 := by
  have hm : moodS (srvK [b1, b2, b3] [5] 0 0) 0 = 5 := rfl
  refine ⟨?_, by rw [hm]; rfl⟩
  rw [rep hm (by decide)]
  have e := (get3 h1 h2 h3).2.2.1
  show offT (srvK [b1, b2, b3] [5] 0 0) 2 7 = _
  unfold offT
  rw [show (srvK [b1, b2, b3] [5] 0 0).chain = [b1, b2, b3] from rfl, show (2 : Int) + 1 = 3 from rfl, e, if_pos (show (some b3).isSome = true from rfl), gd e]
  exact h3.ans (by omega) (by decide)
theorem k5 : replyT (srvK [b1, b2, b3] [5] 0 0) 0 1 0 0 7 3 = encN 7 b2 ∧ tickS (moodS (srvK [b1, b2, b3] [5] 0 0) 0) (srvK [b1, b2, b3] [5] 0 0) = 0 := by
  have hm : moodS (srvK [b1, b2, b3] [5] 0 0) 0 = 5 := rfl
  refine ⟨?_, by rw [hm]; rfl⟩
  rw [rep hm (by decide)]
  have e4 := (get3 h1 h2 h3).2.2.2
  have e := (get3 h1 h2 h3).2.1
  show offT (srvK [b1, b2, b3] [5] 0 0) 3 7 = _
  unfold offT
  rw [show (srvK [b1, b2, b3] [5] 0 0).chain = [b1, b2, b3] from rfl, show (3 : Int) + 1 = 4 from rfl, show (3 : Int) - 1 = 2 from rfl, e4, if_neg (by decide), e, if_pos (show (some b2).isSome = true from rfl), gd e]
  exact h2.ans (by omega) (by decide)
theorem k6 : replyT (srvK [b1, b2, b3] [9] 0 0) 0 1 0 0 7 1 = encN 8 b1 ∧ tickS (moodS (srvK [b1, b2, b3] [9] 0 0) 0) (srvK [b1, b2, b3] [9] 0 0) = 0 := by
  have hm : moodS (srvK [b1, b2, b3] [9] 0 0) 0 = 9 := rfl
  refine ⟨?_, by rw [hm]; rfl⟩
  rw [rep hm (by decide)]
  have e := (get3 h1 h2 h3).1
  show wayT gOdd (srvK [b1, b2, b3] [9] 0 0) 1 7 = _
  unfold wayT
  rw [show (srvK [b1, b2, b3] [9] 0 0).chain = [b1, b2, b3] from rfl, gd e, e]
  exact h1.ans (by omega) (by decide)
theorem k7 : replyT (srvK [b1, b2, b3] [8] 0 0) 0 1 0 0 7 1 = encN 7 b1 ∧ tickS (moodS (srvK [b1, b2, b3] [8] 0 0) 0) (srvK [b1, b2, b3] [8] 0 0) = 0 := by
  have hm : moodS (srvK [b1, b2, b3] [8] 0 0) 0 = 8 := rfl
  refine ⟨?_, by rw [hm]; rfl⟩
  rw [rep hm (by decide)]
  have e := (get3 h1 h2 h3).1
  show otherT (srvK [b1, b2, b3] [8] 0 0) 1 7 = _
  unfold otherT
  rw [show (srvK [b1, b2, b3] [8] 0 0).other = [] from rfl, if_neg (by decide)]
  unfold wayT
  rw [show (srvK [b1, b2, b3] [8] 0 0).chain = [b1, b2, b3] from rfl, gd e, e]
  exact h1.ans (by omega) (by decide)
end
theorem k8 (s : Srv) (nth id h : Int) : replyT s nth 2 0 0 id h = [] := by
  unfold replyT noB
  rw [if_pos (by simp)]
end Go.Proofs.YtgcobbapaaihiaaGreat

set_option linter.unusedVariables false
set_option linter.unusedSimpArgs false
namespace Go.Proofs.YtgcobbapaaihiaaGreat
open Go.RowKit

section
variable {c : Col} {w : World}

theorem srvAt {L : List Blo} {v : Value} (hl : Sl TBlo c 0 0 w v L) (hL : L.length ≤ 1000) {ms : List Int} {vm : Value} (hm : Sl (TInt .i64) c 0 0 w vm ms) (hms : ms.length ≤ 1000) {d s : Int} (hd : IntKind.i64.has d) (hs : IntKind.i64.has s) :
    (srvK L ms d s).At c 0 w v (.slice none 0 0) vm := ⟨hl, Sl.nil _ _ _ _ _, hm, by show L.length ≤ 1000000000; omega, by show (0 : Nat) ≤ 1000000000; omega, by show ms.length ≤ 1000000000; omega, hd, hs⟩

set_option maxRecDepth 100000 in
set_option maxHeartbeats 3200000 in
theorem awake29_any (hok : Ok c w) :
    Calls Tryz.prog 7 #[] w fun r w' => r = .returned (.bool true) ∧ ∃ c', Step No c w c' w' ∧ Ok c' w' := by
  have TH := three_any hok
  clear hok
  go_enter Tryz.func7, Tryz.ntmps7
  go_wp2_with fail
  with_reducible refine TH.mono ?_
  rintro e w1 ⟨v, sv, rfl, c1, L, hL, sl, s1, o1⟩
  obtain ⟨b1, b2, b3, rfl, h1, h2, h3⟩ := hL.three
  obtain ⟨va, vn, rfl, _⟩ := sl.form
  have A0 := srvAt sl (by simp) (Sl.nil (TInt .i64) c1 0 0 w1) (by simp) (d := 3) (s := 0) ⟨by decide, by decide⟩ ⟨by decide, by decide⟩
  have TD := told_yes o1 A0 0 2 7 2 3 (by decide) (by decide) (by omega) h2 (kA1 h1 h2 h3).1 (kA1 h1 h2 h3).2
  rw [h2.height] at TD
  have X := Lib.hid (And.intro sl (And.intro s1 (And.intro h1 (And.intro h2 h3))))
  clear TH hL sl s1 o1 h1 h2 h3 A0
  go_wp2_with fail
  refine TD.mono ?_
  rintro e w2 ⟨rfl, c2, s2, o2⟩
  obtain ⟨sl, s1, h1, h2, h3⟩ := X.out
  have AK := askL_any o2 7 4 (by decide) (by decide) 0
  have X2 := Lib.hid (And.intro (sl.kn s2) (And.intro (s1.trans s2) (And.intro h1 (And.intro h2 h3))))
  clear TD X sl s1 h1 h2 h3 s2 o2
  go_wp2_with fail
  with_reducible refine AK.mono ?_
  rintro e w3 ⟨vk, rfl, c3, sk, s3, o3⟩
  obtain ⟨sl, s1, h1, h2, h3⟩ := X2.out
  have A0 := srvAt (sl.kn s3) (by simp) (Sl.nil (TInt .i64) c3 0 0 w3) (by simp) (d := 0) (s := 0) ⟨by decide, by decide⟩ ⟨by decide, by decide⟩
  have SI := silent_any o3 A0 0 sk (decAsk (id := 7) (h := 4) (by decide) (by decide)) (id := 7) (h := 4) (fun _ => ⟨fun M hM => hM, by decide, by decide⟩) (kA2 h1 h2 h3)
  have X3 := Lib.hid (s1.trans s3)
  clear AK X2 sl s1 h1 h2 h3 s3 o3 sk A0
  go_wp2_with fail
  refine SI.mono ?_
  rintro e w4 ⟨rfl, c4, s4, o4⟩
  have SF := sfault_any 4 w4
  rw [show faultS 4 = 1 from rfl] at SF
  have X4 := Lib.hid (And.intro (X3.out.trans s4) o4)
  clear SI X3 s4 o4
  go_wp2_with fail
  with_reducible refine SF.mono ?_
  rintro e w5 ⟨rfl, rfl⟩
  go_wp2_with fail
  go_ret
  exact ⟨by first | rfl | simp, c4, X4.out⟩
end
end Go.Proofs.YtgcobbapaaihiaaGreat
