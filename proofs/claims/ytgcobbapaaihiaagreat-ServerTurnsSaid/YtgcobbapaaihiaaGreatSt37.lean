/- ServerTurns, part 37: lemmas, each with its own conditions. -/
import Derived.Test.YtgcobbapaaihiaaGreatSt02
import Derived.Test.YtgcobbapaaihiaaGreatSt28
import Derived.Test.YtgcobbapaaihiaaGreatSt36
import Derived.Deep.CutRange
set_option linter.unusedVariables false
set_option linter.unusedSimpArgs false
namespace Go.Proofs.YtgcobbapaaihiaaGreat
open Go.RowKit

/-- Another server, which answers at 0 as one answers at n. -/
structure AsS (s s' : Srv) (n : Int) : Prop where
  chain : s'.chain = s.chain
  other : s'.other = s.other
  delay : s'.delay = s.delay
  slow : s'.slow = s.slow
  mood : moodS s' 0 = moodS s n

theorem AsS.reply {s s' : Srv} {n : Int} (h : AsS s s' n) (k1 e0 e1 id x : Int) : replyT s' 0 k1 e0 e1 id x = replyT s n k1 e0 e1 id x := replyT_mood h.mood h.chain h.other k1 e0 e1 id x
theorem AsS.wait {s s' : Srv} {n : Int} (h : AsS s s' n) (l : List UInt8) : waitT s' 0 l = waitT s n l := waitT_mood h.mood h.delay h.slow l
theorem waitT_nil (s : Srv) (n : Int) : waitT s n [] = 0 := rfl

theorem Srv.Raw.kn {s : Srv} {c c' : Col} {k : Nat} {w w' : World} {vc vo vm : Value} (h : s.Raw c k w vc vo vm) (hs : Step No c w c' w') : s.Raw c' k w' vc vo vm :=
  ⟨h.chain.kn hs, h.other.kn hs, h.moods.kn hs, h.delay, h.slow⟩

section
variable {c : Col} {w : World}

set_option maxRecDepth 100000 in
set_option maxHeartbeats 6400000 in
theorem turns_any (hok : Ok c w) {s : Srv} {vc vo vm : Value} (hs : s.Raw c 0 w vc vo vm) (xh xi xn : Int) :
    Calls Tryz.prog 5 #[.agg #[vc, vo, vm, .int .i64 s.delay, .int .i64 s.slow], .int .i64 xh, .int .i64 xi, .int .i64 xn] w fun r w' => r = .returned (.bool true) ∧ ∃ c', Step No c w c' w' ∧ Ok c' w' := by
  obtain ⟨q, hq, hqc⟩ := hok.spare 0
  have hq0 : q ≠ 0 := by omega
  obtain ⟨vca, vcc, rfl, _⟩ := hs.chain.form
  obtain ⟨voa, voc, rfl, _⟩ := hs.other.form
  obtain ⟨vma, vmc, rfl, _⟩ := hs.moods.form
  have a0 := At.new0 hok [.slice vca s.chain.length vcc, .slice voa s.other.length voc, .slice vma s.moods.length vmc, .int .i64 s.delay, .int .i64 s.slow] 25
  have s0 : Step No c w c (w.alloc (.cells #[.slice vca s.chain.length vcc, .slice voa s.other.length voc, .slice vma s.moods.length vmc, .int .i64 s.delay, .int .i64 s.slow] 25)) := Step.refl.alloc _
  have o0 := hok.alloc (.cells #[.slice vca s.chain.length vcc, .slice voa s.other.length voc, .slice vma s.moods.length vmc, .int .i64 s.delay, .int .i64 s.slow] 25)
  have hs0 := hs.kn s0
  obtain ⟨b4, hb4⟩ : ∃ b, w.heap.size = b := ⟨_, rfl⟩
  rw [hb4] at a0
  have X := Lib.hid (And.intro hs0 (And.intro a0 s0))
  have HQ := Lib.hid hqc
  obtain ⟨cl, hcl⟩ : ∃ n, s.chain.length = n := ⟨_, rfl⟩
  obtain ⟨ol, hol⟩ : ∃ n, s.other.length = n := ⟨_, rfl⟩
  obtain ⟨ml, hml⟩ : ∃ n, s.moods.length = n := ⟨_, rfl⟩
  obtain ⟨DE, hDE⟩ : ∃ n, s.delay = n := ⟨_, rfl⟩
  obtain ⟨SL, hSL⟩ : ∃ n, s.slow = n := ⟨_, rfl⟩
  rw [hcl, hol, hml, hDE, hSL] at X o0 ⊢
  obtain ⟨W0, hW0⟩ : ∃ W, w.alloc (.cells #[.slice vca cl vcc, .slice voa ol voc, .slice vma ml vmc, .int .i64 DE, .int .i64 SL] 25) = W := ⟨_, rfl⟩
  have hW0' : w.alloc (.cells ([.slice vca cl vcc, .slice voa ol voc, .slice vma ml vmc, .int .i64 DE, .int .i64 SL] : List Value).toArray 25) = W0 := hW0
  rw [hW0] at o0
  rw [hW0] at X
  have HN := Lib.hid (And.intro hcl (And.intro hol (And.intro hml (And.intro hDE hSL))))
  have KN := known29_any o0
  clear a0 s0 o0 hs0 hs hok hqc hcl hol hml hDE hSL hW0'
  go_enter Tryz.func5, Tryz.ntmps5
  go_wp2_with fail
  (try rw [hW0])
  (try rw [hb4])
  with_reducible refine KN.mono ?_
  rintro e w1 ⟨rfl, c1, s1, o1⟩
  have LG := long29_any o1 (X.out.1.kn s1)
  rw [HN.out.2.2.2.1, HN.out.2.2.2.2] at LG
  have a1 := X.out.2.1.kn s1
  have y0 := a1.get (i := 0) rfl
  have y1 := a1.get (i := 1) rfl
  have y2 := a1.get (i := 2) rfl
  have y3 := a1.get (i := 3) rfl
  have y4 := a1.get (i := 4) rfl
  have X1 := Lib.hid (And.intro (X.out.1.kn s1) (And.intro a1 (X.out.2.2.trans s1)))
  clear KN X s1 o1 a1 hW0 hb4
  go_wp2_with fail
  with_reducible refine LG.mono ?_
  rintro e w2 ⟨⟨t, rfl, ht⟩, c2, s2, o2⟩
  have X2 := Lib.hid (And.intro (X1.out.1.kn s2) (And.intro (X1.out.2.1.kn s2) (And.intro (X1.out.2.2.trans s2) o2)))
  clear LG X1 s2 o2 y0 y1 y2 y3 y4
  cases t with
  | true =>
    go_wp2_with fail
    go_ret
    exact ⟨rfl, c2, X2.out.2.2⟩
  | false =>
  have hS := Lib.hid (ht rfl)
  clear ht
  have CK := scheck_any X2.out.2.2.2 (X2.out.1.at hS.out)
  rw [HN.out.2.2.2.1, HN.out.2.2.2.2] at CK
  have y0 := X2.out.2.1.get (i := 0) rfl
  have y1 := X2.out.2.1.get (i := 1) rfl
  have y2 := X2.out.2.1.get (i := 2) rfl
  have y3 := X2.out.2.1.get (i := 3) rfl
  have y4 := X2.out.2.1.get (i := 4) rfl
  obtain ⟨ck, hck⟩ : ∃ x, checkS s = x := ⟨_, rfl⟩
  rw [hck] at CK
  go_wp2_with fail
  with_reducible refine CK.mono ?_
  rintro e w3 ⟨rfl, c3, s3, o3⟩
  have X3 := Lib.hid (And.intro ((X2.out.1.at hS.out).kn s3) (And.intro (X2.out.2.1.kn s3) (And.intro (X2.out.2.2.1.trans s3) o3)))
  clear CK X2 s3 o3 y0 y1 y2 y3 y4
  by_cases hc0 : ck = 0
  rotate_left
  · have hcb : (ck != 0) = true := by simpa using hc0
    clear hck
    go_wp2_with fail
    go_ret
    exact ⟨rfl, c3, X3.out.2.2⟩
  subst hc0
  have HCK := Lib.hid hck
  clear hck
  have P1 := pick_any xh 20 w3 (by decide) (by decide)
  have P2 := pick_any xi 1000 w3 (by decide) (by decide)
  have P3 := pick_any xn 1073741824 w3 (by decide) (by decide)
  go_wp2_with fail
  with_reducible refine P1.mono ?_
  rintro e w4 ⟨⟨p1, rfl, p10, p11⟩, rfl⟩
  obtain ⟨H, hH⟩ : ∃ H, 1 + p1 = H := ⟨_, rfl⟩
  have hw1 : IntKind.i64.wrap (1 + p1) = H := by rw [IntWalk.i64_in _ (by omega), hH]
  have hHH : heightB H = true := by simp [heightB]; omega
  clear P1
  go_wp2_with fail
  with_reducible refine P2.mono ?_
  rintro e w4 ⟨⟨p2, rfl, p20, p21⟩, rfl⟩
  obtain ⟨I, hI⟩ : ∃ I, 1 + p2 = I := ⟨_, rfl⟩
  have hw2 : IntKind.i64.wrap (1 + p2) = I := by rw [IntWalk.i64_in _ (by omega), hI]
  have hII : idB I = true := by simp [idB]; omega
  clear P2
  go_wp2_with fail
  with_reducible refine P3.mono ?_
  rintro e w4 ⟨⟨n, rfl, n0, n1⟩, rfl⟩
  have HH := Lib.hid (And.intro hHH (And.intro hII (And.intro n0 n1)))
  clear P3 hHH hII hH hI p10 p11 p20 p21
  obtain ⟨hsA, a3, S3, o3⟩ := X3.out
  have KN : ∀ (c2 : Col) (w2 : World), Step No c3 w3 c2 w2 → (fun W : World => (Instr.loadAt 25 (.pointer (some ⟨b4, 0, none⟩))).run Tryz.prog W = .ok (.agg #[.slice vca cl vcc, .slice voa ol voc, .slice vma ml vmc, .int .i64 DE, .int .i64 SL]) W ∧ W.cell? ⟨b4, 2, none⟩ = some (.slice vma ml vmc)) w2 :=
    fun _ _ h2 => ⟨(a3.kn h2).ld (ty := 25) Tryz.underlying25 rfl info_srv, (a3.kn h2).get (i := 2) rfl⟩
  have sd : Step No c3 w3 c3 w3.drew := Step.rf.drewN 1
  have okk : Ok c3 w3.drew := o3.drewN 1
  have KK := KN _ _ sd
  have KNH := Lib.hid KN
  obtain ⟨R, hR⟩ : ∃ R, replyT s n 1 0 0 I H = R := ⟨_, rfl⟩
  obtain ⟨wt, hwt⟩ : ∃ x, waitT s n R = x := ⟨_, rfl⟩
  obtain ⟨it, hit⟩ : ∃ x, isT R = x := ⟨_, rfl⟩
  have RR := Lib.hid (And.intro hR (And.intro hwt hit))
  have hml70 : (ml : Int) ≤ 70 := by have := hS.out.2.2; rw [HN.out.2.2.1] at this; omega
  have hwn : IntKind.i64.wrap (n + (ml : Int)) = n + (ml : Int) := IntWalk.i64_in _ (by omega)
  have HML := Lib.hid hml70
  clear hR hwt hit KN hsA a3 S3 o3 n0 n1 hml70
  go_wp2_with fail
  refine region_planM (fun W => (Instr.loadAt 25 (.pointer (some ⟨b4, 0, none⟩))).run Tryz.prog W = .ok (.agg #[.slice vca cl vcc, .slice voa ol voc, .slice vma ml vmc, .int .i64 DE, .int .i64 SL]) W ∧ W.cell? ⟨b4, 2, none⟩ = some (.slice vma ml vmc)) (fun _ => true) (by kernel_rfl) ?_
  refine tk 0 _ 45 rfl rfl (Or.inl ⟨by rfl, fun W hW => by obtain ⟨q0, q1⟩ := hW; exact y_load 25 q0 (.tmp 4) rfl rfl⟩) KK ?_
  refine tk2 1 _ 46 rfl rfl KK ?_
  refine tk2 2 _ 47 rfl rfl KK ?_
  refine tk2 4 _ 49 rfl rfl KK ?_
  refine wpAnyM.one (i := 3) (by kernel_rfl) rfl (fun KQ hK => ?_)
  go_simp
  refine (askL_any okk I H HH.out.2.1 HH.out.1 0).mono ?_
  rintro e wC ⟨vk, rfl, cC, sk, sC, okk⟩
  have sd := sd.trans sC
  have KK := KNH.out _ _ sd
  obtain ⟨ka, kn, rfl, _⟩ := sk.form
  have SK := Lib.hid sk
  clear sC sk
  go_simp
  refine hK.out _ _ (fun _ => KK) ?_
  clear hK KQ
  (try simp only [Act.put, List.setIfInBounds_toArray, List.set_cons_zero, List.set_cons_succ])
  refine wpAnyM.one (i := 5) (by kernel_rfl) rfl (fun KQ hK => ?_)
  go_simp
  have RP := reply_any okk (X3.out.1.kn sd) n SK.out (decAsk HH.out.2.1 HH.out.1) (id := I) (h := H) (fun _ => ⟨fun M hM => hM, HH.out.2.1, HH.out.1⟩) 0
  rw [RR.out.1, RR.out.2.1, RR.out.2.2, HN.out.2.2.2.1, HN.out.2.2.2.2] at RP
  refine RP.mono ?_
  rintro e wC ⟨xv, rfl, cC, sx, sC, okk⟩
  have sd := sd.trans sC
  have KK := KNH.out _ _ sd
  obtain ⟨xa, xc, rfl, _⟩ := sx.form
  have SX := Lib.hid sx
  clear sC sx RP SK
  go_simp
  refine hK.out _ _ (fun _ => KK) ?_
  clear hK KQ
  (try simp only [Act.put, List.setIfInBounds_toArray, List.set_cons_zero, List.set_cons_succ])
  refine tk2 6 _ 44 rfl rfl KK ?_
  refine tk2 7 _ 51 rfl rfl KK ?_
  refine tk2 8 _ 52 rfl rfl KK ?_
  refine tk2 9 _ 53 rfl rfl KK ?_
  refine wpAnyM.one (i := 10) (by kernel_rfl) rfl (fun KQ hK => ?_)
  go_simp
  refine hK.out _ _ (fun _ => KK) ?_
  clear hK KQ
  (try simp only [Act.put, List.setIfInBounds_toArray, List.set_cons_zero, List.set_cons_succ])
  refine wpAnyM.one (i := 11) (by kernel_rfl) rfl (fun KQ hK => ?_)
  go_simp
  refine hK.out _ _ (fun _ => KK) ?_
  clear hK KQ
  (try simp only [Act.put, List.setIfInBounds_toArray, List.set_cons_zero, List.set_cons_succ])
  refine wpAnyM.one (i := 12) (by kernel_rfl) rfl (fun KQ hK => ?_)
  go_simp
  refine hK.out _ _ (fun _ => KK) ?_
  clear hK KQ
  (try simp only [Act.put, List.setIfInBounds_toArray, List.set_cons_zero, List.set_cons_succ])
  refine wpAnyM.done (by kernel_rfl) ?_ _
  go_wp2_with fail
  -- the second request
  have sd6 := sd.trans ((Step.rf (c := cC) (w := wC)).drewN 1)
  have SB := Lib.hid (SX.out.kn ((Step.rf (c := cC) (w := wC)).drewN 1))
  have okk := okk.drewN 1
  have KK := KNH.out _ _ sd6
  have sd : Step No cC wC.drew cC wC.drew := Step.rf
  clear SX
  refine region_planM (fun W => (Instr.loadAt 25 (.pointer (some ⟨b4, 0, none⟩))).run Tryz.prog W = .ok (.agg #[.slice vca cl vcc, .slice voa ol voc, .slice vma ml vmc, .int .i64 DE, .int .i64 SL]) W ∧ W.cell? ⟨b4, 2, none⟩ = some (.slice vma ml vmc)) (fun _ => true) (by kernel_rfl) ?_
  refine tk 0 _ 55 rfl rfl (Or.inl ⟨by rfl, fun W hW => by obtain ⟨q0, q1⟩ := hW; exact y_load 25 q0 (.tmp 4) rfl rfl⟩) KK ?_
  refine tk2 1 _ 56 rfl rfl KK ?_
  refine tk2 2 _ 57 rfl rfl KK ?_
  refine tk2 4 _ 59 rfl rfl KK ?_
  refine tk2 5 _ 60 rfl rfl KK ?_
  refine tk2 6 _ 61 rfl rfl KK ?_
  refine tk2 7 _ 62 rfl rfl KK ?_
  refine tk2 8 _ 63 rfl rfl KK ?_
  refine wpAnyM.one (i := 3) (by kernel_rfl) rfl (fun KQ hK => ?_)
  go_simp
  refine (askL_any okk I H HH.out.2.1 HH.out.1 0).mono ?_
  rintro e wC ⟨vk, rfl, cC, sk, sC, okk⟩
  have sd := sd.trans sC
  have KK := KNH.out _ _ (sd6.trans sd)
  obtain ⟨ka, kn, rfl, _⟩ := sk.form
  have SK := Lib.hid sk
  clear sC sk
  go_simp
  refine hK.out _ _ (fun _ => KK) ?_
  clear hK KQ
  (try simp only [Act.put, List.setIfInBounds_toArray, List.set_cons_zero, List.set_cons_succ])
  refine wpAnyM.one (i := 9) (by kernel_rfl) rfl (fun KQ hK => ?_)
  go_simp
  have RP := reply_any okk (X3.out.1.kn (sd6.trans sd)) (n + (ml : Int)) SK.out (decAsk HH.out.2.1 HH.out.1) (id := I) (h := H) (fun _ => ⟨fun M hM => hM, HH.out.2.1, HH.out.1⟩) 0
  have hmt : moodS s (n + (ml : Int)) = moodS s n := by have := moodS_turn (s := s) HH.out.2.2.1; rw [HN.out.2.2.1] at this; exact this
  rw [replyT_mood hmt rfl rfl, RR.out.1, waitT_mood hmt rfl rfl, RR.out.2.1, RR.out.2.2, HN.out.2.2.2.1, HN.out.2.2.2.2] at RP
  refine RP.mono ?_
  rintro e wC ⟨xv, rfl, cC, sx, sC, okk⟩
  have sd := sd.trans sC
  have KK := KNH.out _ _ (sd6.trans sd)
  obtain ⟨xa2, xc2, rfl, _⟩ := sx.form
  have SX := Lib.hid sx
  clear sC sx RP SK hmt
  go_simp
  refine hK.out _ _ (fun _ => KK) ?_
  clear hK KQ
  (try simp only [Act.put, List.setIfInBounds_toArray, List.set_cons_zero, List.set_cons_succ])
  refine tk2 10 _ 54 rfl rfl KK ?_
  refine tk2 11 _ 65 rfl rfl KK ?_
  refine tk2 12 _ 66 rfl rfl KK ?_
  refine tk2 13 _ 67 rfl rfl KK ?_
  refine wpAnyM.one (i := 14) (by kernel_rfl) rfl (fun KQ hK => ?_)
  go_simp
  refine hK.out _ _ (fun _ => KK) ?_
  clear hK KQ
  (try simp only [Act.put, List.setIfInBounds_toArray, List.set_cons_zero, List.set_cons_succ])
  refine wpAnyM.one (i := 15) (by kernel_rfl) rfl (fun KQ hK => ?_)
  go_simp
  refine hK.out _ _ (fun _ => KK) ?_
  clear hK KQ
  (try simp only [Act.put, List.setIfInBounds_toArray, List.set_cons_zero, List.set_cons_succ])
  refine wpAnyM.one (i := 16) (by kernel_rfl) rfl (fun KQ hK => ?_)
  go_simp
  refine hK.out _ _ (fun _ => KK) ?_
  clear hK KQ
  (try simp only [Act.put, List.setIfInBounds_toArray, List.set_cons_zero, List.set_cons_succ])
  refine wpAnyM.done (by kernel_rfl) ?_ _
  have SB2 := Lib.hid (And.intro (SB.out.kn sd) SX.out)
  have hsB := X3.out.1.kn (sd6.trans sd)
  have CP := copied29_any okk hsB (by have := hS.out.1.1; omega) (by have := hS.out.2.1.1; omega)
  rw [HN.out.2.2.2.1, HN.out.2.2.2.2] at CP
  have aB := X3.out.2.1.kn (sd6.trans sd)
  have y0 := aB.get (i := 0) rfl
  have y1 := aB.get (i := 1) rfl
  have y2 := aB.get (i := 2) rfl
  have y3 := aB.get (i := 3) rfl
  have y4 := aB.get (i := 4) rfl
  have XB := Lib.hid (And.intro hsB (And.intro aB (And.intro (X3.out.2.2.1.trans (sd6.trans sd)) SB2.out)))
  clear sd6 sd SB SX SB2 hsB aB KK okk KNH X3
  go_wp2_with fail
  with_reducible refine CP.mono ?_
  rintro e w7 ⟨vc7, vo7, vm7, c7, rfl, hs7, s7, o7⟩
  obtain ⟨ca, cc, rfl, _⟩ := hs7.chain.form
  obtain ⟨oa, oc, rfl, _⟩ := hs7.other.form
  obtain ⟨ma, mc, rfl, _⟩ := hs7.moods.form
  rw [HN.out.1, HN.out.2.1, HN.out.2.2.1] at hs7 ⊢
  obtain ⟨a8, o8, s8⟩ := newAt o7 [.slice ca cl cc, .slice oa ol oc, .slice ma ml mc, .int .i64 DE, .int .i64 SL] 25 q
  obtain ⟨b16, hb16⟩ : ∃ b, w7.heap.size = b := ⟨_, rfl⟩
  obtain ⟨W8, hW8⟩ : ∃ W, w7.alloc (.cells #[.slice ca cl cc, .slice oa ol oc, .slice ma ml mc, .int .i64 DE, .int .i64 SL] 25) = W := ⟨_, rfl⟩
  have hW8' : w7.alloc (.cells ([.slice ca cl cc, .slice oa ol oc, .slice ma ml mc, .int .i64 DE, .int .i64 SL] : List Value).toArray 25) = W8 := hW8
  obtain ⟨c8, hc8⟩ : ∃ c, c7.put w7.heap.size q = c := ⟨_, rfl⟩
  rw [hW8', hc8] at a8 o8 s8
  rw [hb16] at a8
  have s78 := s7.trans s8
  have hs8 := hs7.kn s8
  have aB := XB.out.2.1.kn s78
  have y2 := aB.get (i := 2) rfl
  have X8 := Lib.hid (And.intro (XB.out.1.kn s78) (And.intro aB (And.intro (XB.out.2.2.1.trans s78) (And.intro (XB.out.2.2.2.1.kn s78) (And.intro (XB.out.2.2.2.2.kn s78) (And.intro hs8 (And.intro a8 o8)))))))
  clear CP XB s7 o7 a8 o8 s8 s78 hs8 hs7 aB y0 y1 y3 y4 hW8' hc8
  go_upto_if 73 with (fail)
  go_cut [] from 73 to 84 (fun wr => ∃ (c9 : Col) (S1 : Srv) (mv : Value), AsS s S1 n ∧ S1.At c9 0 wr (.slice ca cl cc) (.slice oa ol oc) mv ∧ At c9 wr b16 q [.slice ca cl cc, .slice oa ol oc, mv, .int .i64 DE, .int .i64 SL] ∧ Step (One q) c8 W8 c9 wr ∧ Ok c9 wr)
  case first =>
    by_cases hml0 : 0 < ml
    rotate_left
    · have hd : decide ((0 : Int) < (ml : Int)) = false := decide_eq_false (by omega)
      have Y := Lib.hid hml0
      clear hml0
      go_wp2_with fail
      go_meet
      case rel =>
        obtain ⟨_, _, _, _, _, hs8, a8, o8⟩ := X8.out
        exact ⟨c8, s, _, ⟨rfl, rfl, rfl, rfl, same_mood HH.out.2.2.1 (by rw [HN.out.2.2.1]; have := Y.out; omega)⟩, hs8, a8, Step.refl, o8⟩
    · have hd : decide ((0 : Int) < (ml : Int)) = true := decide_eq_true (by omega)
      obtain ⟨g, off, mcap, hme, _, _⟩ := X8.out.1.moods.ex (by rw [HN.out.2.2.1]; exact hml0)
      injection hme with hm1 hm2 hm3
      subst hm1 hm3
      clear hm2
      obtain ⟨k, hk⟩ : ∃ k : Nat, n % (ml : Int) = (k : Int) := ⟨(n % (ml : Int)).toNat, by have := Int.emod_nonneg n (b := (ml : Int)) (by omega); omega⟩
      have hkl : (k : Int) < (ml : Int) := by rw [← hk]; exact Int.emod_lt_of_pos n (by omega)
      have hrem : Int.tmod n (ml : Int) = (k : Int) := by rw [Int.tmod_eq_emod_of_nonneg HH.out.2.2.1, hk]
      have hrem2 : IntKind.i64.wrap (k : Int) = (k : Int) := IntWalk.i64_in _ (by have := HML.out; omega)
      obtain ⟨M, hM⟩ : ∃ M, s.moods[k]? = some M := ⟨s.moods[k]'(by rw [HN.out.2.2.1]; omega), by simp⟩
      obtain ⟨vs, ⟨rfl, hMh⟩, hcs⟩ := X8.out.1.moods.at hM
      have yM := hcs.get 0 rfl
      simp only [TInt, Nat.mul_one, Nat.add_zero] at yM
      have hk0 : (0 : Int) ≤ (k : Int) := by omega
      have hml1 : ¬ ml = 0 := by omega
      obtain ⟨x1, x2, x3⟩ := put_one (T := TInt .i64) (x := M) (vs := [.int .i64 M]) (k2 := 0) X8.out.2.2.2.2.2.2.2 ⟨rfl, hMh⟩ 3
      have sW : Step No c8 W8 c8 (W8.alloc (.cells #[.int .i64 M] 3)).drew := x3.drewN 1
      have oN : Ok c8 (W8.alloc (.cells #[.int .i64 M] 3)).drew := x1.drewN 1
      have aN := X8.out.2.2.2.2.2.2.1.kn sW
      have fN := aN.fz oN hq0 2
      have a9 := aN.setN (i := 2) (by simp) (.slice (some ⟨W8.heap.size, 0, none⟩) 1 1)
      have st9 : Step (One q) c8 W8 c8 ((W8.alloc (.cells #[.int .i64 M] 3)).drew.setCell ⟨b16, 2, none⟩ (.slice (some ⟨W8.heap.size, 0, none⟩) 1 1)) := sW.ofNo.setCell (a := ⟨b16, 2, none⟩) (.inr X8.out.2.2.2.2.2.2.1.col) _
      have sq : Step (One q) c8 (W8.alloc (.cells #[.int .i64 M] 3)).drew c8 ((W8.alloc (.cells #[.int .i64 M] 3)).drew.setCell ⟨b16, 2, none⟩ (.slice (some ⟨W8.heap.size, 0, none⟩) 1 1)) := (Step.refl (K := One q)).setCell (a := ⟨b16, 2, none⟩) (.inr aN.col) _
      have hqn : ¬ One q 0 := fun e => hq0 e.symm
      have hs9 := X8.out.2.2.2.2.2.1
      have x2' : Sl (TInt .i64) c8 0 0 (W8.alloc (.cells #[.int .i64 M] 3)).drew (.slice (some ⟨W8.heap.size, 0, none⟩) 1 1) [M] := x2.kn (Step.rf.drewN 1)
      have HR9 := Lib.hid (And.intro a9 (And.intro st9 (And.intro (oN.setCell ⟨b16, 2, none⟩ (.slice (some ⟨W8.heap.size, 0, none⟩) 1 1)) (And.intro (x2'.keep sq hqn hqn) (And.intro ((hs9.chain.kn sW).keep sq hqn hqn) ((hs9.other.kn sW).keep sq hqn hqn))))))
      have yN := aN.get (i := 2) rfl
      have HM := Lib.hid (And.intro hM (And.intro hk (And.intro hml0 hMh)))
      have KK : (fun W : World => W.cell? ⟨b4, 2, none⟩ = some (.slice (some ⟨g, off, none⟩) ml vmc) ∧ W.cell? ⟨g, off + k, none⟩ = some (.int .i64 M)) W8.drew := ⟨y2, yM⟩
      have KD : (fun W : World => W.cell? ⟨b4, 2, none⟩ = some (.slice (some ⟨g, off, none⟩) ml vmc) ∧ W.cell? ⟨g, off + k, none⟩ = some (.int .i64 M)) (W8.alloc (.cells #[.int .i64 M] 3)).drew := by
        have h1 := (X8.out.2.1.kn sW).get (i := 2) rfl
        obtain ⟨vs, ⟨rfl, _⟩, hcs2⟩ := (X8.out.1.moods.kn sW).at hM
        have h2 := hcs2.get 0 rfl
        simp only [TInt, Nat.mul_one, Nat.add_zero] at h2
        exact ⟨h1, h2⟩
      clear x1 x2 x3 x2' sW oN aN a9 st9 sq hs9 hM hk hml0 hcs hMh yM y2
      go_wp2_with fail
      refine region_planM (fun W => W.cell? ⟨b4, 2, none⟩ = some (.slice (some ⟨g, off, none⟩) ml vmc) ∧ W.cell? ⟨g, off + k, none⟩ = some (.int .i64 M)) (fun i => !([11] : List Nat).contains i) (by kernel_rfl) ?_
      refine tk2 0 _ 74 rfl rfl KK ?_
      refine tk2 1 _ 75 rfl rfl KK ?_
      refine tk2 2 _ 76 rfl rfl KK ?_
      refine tk2 3 _ 77 rfl rfl KK ?_
      refine tk2 4 _ 78 rfl rfl KK ?_
      refine tk2 5 _ 79 rfl rfl KK ?_
      refine tk2 6 (.int .i64 k) 80 rfl rfl KK ?_
      refine tk2 7 (.pointer (some ⟨g, off + k, none⟩)) 81 rfl rfl KK ?_
      refine tk2 8 _ 82 rfl rfl KK ?_
      refine wpAnyM.one (i := 9) (by kernel_rfl) rfl (fun KQ hK => ?_)
      go_simp
      refine hK.out _ _ (fun _ => KD) ?_
      clear hK KQ
      (try simp only [Act.put, List.setIfInBounds_toArray, List.set_cons_zero, List.set_cons_succ])
      refine tk2 10 _ 84 rfl rfl KD ?_
      refine wpAnyM.one (i := 11) (by kernel_rfl) rfl (fun KQ hK => ?_)
      go_simp
      refine hK.out _ _ (fun h => absurd h (by decide)) ?_
      clear hK KQ
      (try simp only [Act.put, List.setIfInBounds_toArray, List.set_cons_zero, List.set_cons_succ])
      refine wpAnyM.done (by kernel_rfl) ?_ _
      go_wp2_with fail
      go_meet
      case rel =>
        obtain ⟨a9, st9, o9, m9, ch9, ot9⟩ := HR9.out
        obtain ⟨hM, hk, hml0, hMh⟩ := HM.out
        have hS8 := X8.out.2.2.2.2.2.1
        have e : (onlyS s n).moods = [M] := by
          show [s.moods.getD (n % (s.moods.length : Int)).toNat 0] = [M]
          rw [HN.out.2.2.1, hk, Int.toNat_natCast, List.getD_eq_getElem?_getD, hM]
          rfl
        exact ⟨c8, onlyS s n, _, ⟨rfl, rfl, rfl, rfl, only_mood HCK.out HH.out.2.2.1 (by rw [HN.out.2.2.1]; exact hml0)⟩, ⟨ch9, ot9, by rw [e]; exact m9, hS8.nchain, hS8.nother, by rw [e]; simp, hS8.delay, hS8.slow⟩, a9, st9, o9⟩
  case rest =>
    obtain ⟨c9, S1, mv, hAs, hs9, a9, st9, o9⟩ := hcut
    obtain ⟨mva, mvc, rfl, _⟩ := hs9.moods.form
    obtain ⟨m1, hm1⟩ : ∃ m, S1.moods.length = m := ⟨_, rfl⟩
    rw [hm1] at hs9 a9
    have hqn : ¬ One q 0 := fun e => hq0 e.symm
    have X9 := Lib.hid (And.intro (X8.out.1.keep st9 hqn) (And.intro (X8.out.2.1.keep st9 hqn) (And.intro (X8.out.2.2.1.ofNo.trans st9) (And.intro (X8.out.2.2.2.1.keep st9 hqn hqn) (X8.out.2.2.2.2.1.keep st9 hqn hqn)))))
    have KN : ∀ (c2 : Col) (w2 : World), Step No c9 wc c2 w2 → (fun W : World => (Instr.loadAt 25 (.pointer (some ⟨b16, 0, none⟩))).run Tryz.prog W = .ok (.agg #[.slice ca cl cc, .slice oa ol oc, .slice mva m1 mvc, .int .i64 DE, .int .i64 SL]) W) w2 :=
      fun _ _ h2 => (a9.kn h2).ld (ty := 25) Tryz.underlying25 rfl info_srv
    have sd : Step No c9 wc c9 wc.drew := Step.rf.drewN 1
    have okk : Ok c9 wc.drew := o9.drewN 1
    have KK := KN _ _ sd
    have KNH := Lib.hid KN
    have H9 := Lib.hid (And.intro hs9 (And.intro a9 (And.intro hAs hm1)))
    clear X8 KN hs9 a9 st9 o9 hAs hm1
    go_wp2_with fail
    refine region_planM (fun W => (Instr.loadAt 25 (.pointer (some ⟨b16, 0, none⟩))).run Tryz.prog W = .ok (.agg #[.slice ca cl cc, .slice oa ol oc, .slice mva m1 mvc, .int .i64 DE, .int .i64 SL]) W) (fun _ => true) (by kernel_rfl) ?_
    refine tk 0 _ 86 rfl rfl (Or.inl ⟨by rfl, fun W hW => by have q0 := hW; exact y_load 25 q0 (.tmp 16) rfl rfl⟩) KK ?_
    refine tk1 1 _ 87 rfl rfl KK ?_
    refine tk1 2 _ 88 rfl rfl KK ?_
    refine wpAnyM.one (i := 3) (by kernel_rfl) rfl (fun KQ hK => ?_)
    go_simp
    refine (askL_any okk I H HH.out.2.1 HH.out.1 0).mono ?_
    rintro e wC ⟨vk, rfl, cC, sk, sC, okk⟩
    have sd := sd.trans sC
    have KK := KNH.out _ _ sd
    obtain ⟨ka, kn, rfl, _⟩ := sk.form
    have SK := Lib.hid sk
    clear sC sk
    go_simp
    refine hK.out _ _ (fun _ => KK) ?_
    clear hK KQ
    (try simp only [Act.put, List.setIfInBounds_toArray, List.set_cons_zero, List.set_cons_succ])
    refine wpAnyM.one (i := 4) (by kernel_rfl) rfl (fun KQ hK => ?_)
    go_simp
    have RP := reply_any okk (H9.out.1.kn sd) 0 SK.out (decAsk HH.out.2.1 HH.out.1) (id := I) (h := H) (fun _ => ⟨fun M hM => hM, HH.out.2.1, HH.out.1⟩) 0
    rw [H9.out.2.2.1.reply, RR.out.1, H9.out.2.2.1.wait, RR.out.2.1, RR.out.2.2, H9.out.2.2.1.delay, H9.out.2.2.1.slow, HN.out.2.2.2.1, HN.out.2.2.2.2] at RP
    refine RP.mono ?_
    rintro e wC ⟨xv, rfl, cC, sx, sC, okk⟩
    have sd := sd.trans sC
    have KK := KNH.out _ _ sd
    obtain ⟨xa3, xc3, rfl, _⟩ := sx.form
    have SX := Lib.hid sx
    clear sC sx RP SK
    go_simp
    refine hK.out _ _ (fun _ => KK) ?_
    clear hK KQ
    (try simp only [Act.put, List.setIfInBounds_toArray, List.set_cons_zero, List.set_cons_succ])
    refine tk1 5 _ 85 rfl rfl KK ?_
    refine tk1 6 _ 91 rfl rfl KK ?_
    refine tk1 7 _ 92 rfl rfl KK ?_
    refine tk1 8 _ 93 rfl rfl KK ?_
    refine wpAnyM.one (i := 9) (by kernel_rfl) rfl (fun KQ hK => ?_)
    go_simp
    refine hK.out _ _ (fun _ => KK) ?_
    clear hK KQ
    (try simp only [Act.put, List.setIfInBounds_toArray, List.set_cons_zero, List.set_cons_succ])
    refine wpAnyM.one (i := 10) (by kernel_rfl) rfl (fun KQ hK => ?_)
    go_simp
    refine hK.out _ _ (fun _ => KK) ?_
    clear hK KQ
    (try simp only [Act.put, List.setIfInBounds_toArray, List.set_cons_zero, List.set_cons_succ])
    refine wpAnyM.one (i := 11) (by kernel_rfl) rfl (fun KQ hK => ?_)
    go_simp
    refine hK.out _ _ (fun _ => KK) ?_
    clear hK KQ
    (try simp only [Act.put, List.setIfInBounds_toArray, List.set_cons_zero, List.set_cons_succ])
    refine wpAnyM.done (by kernel_rfl) ?_ _
    have XA := Lib.hid (And.intro (X9.out.1.kn sd) (And.intro (X9.out.2.1.kn sd) (And.intro (X9.out.2.2.1.trans sd.ofNo) (And.intro (X9.out.2.2.2.1.kn sd) (And.intro (X9.out.2.2.2.2.kn sd) (And.intro SX.out (And.intro (H9.out.2.1.kn sd) (And.intro (H9.out.1.kn sd) okk))))))))
    have HAs := Lib.hid H9.out.2.2.1
    clear X9 SX H9 sd okk KK KNH
    go_upto_region 11 with fail
    have E1 := sameB_any XA.out.2.2.2.1 XA.out.2.2.2.2.1
    have E2 := sameB_any XA.out.2.2.2.1 XA.out.2.2.2.2.2.1
    rw [beq_self_eq_true] at E1 E2
    go_cut [136] from 94 to 135 (fun v wr => v = .bool false ∧ wr = wC)
    case first =>
      rcases it with _ | _
      · have hR0 : R = [] := by
          have := RR.out.2.2
          unfold isT at this
          split at this
          · assumption
          · cases this
        have hwt0 : wt = 0 := by rw [← RR.out.2.1, hR0]; rfl
        clear RR
        subst hR0 hwt0
        simp only [List.length_nil] at E1 E2
        go_wp2_with fail
        with_reducible refine E1.mono ?_
        rintro e w2 ⟨rfl, rfl⟩
        go_wp2_with fail
        with_reducible refine E2.mono ?_
        rintro e w2 ⟨rfl, rfl⟩
        go_wp2_with fail
        go_meet
        case rel => exact ⟨rfl, rfl⟩
      · clear RR
        go_wp2_with fail
        with_reducible refine E1.mono ?_
        rintro e w2 ⟨rfl, rfl⟩
        go_wp2_with fail
        with_reducible refine E2.mono ?_
        rintro e w2 ⟨rfl, rfl⟩
        go_wp2_with fail
        go_meet
        case rel => exact ⟨rfl, rfl⟩
    case rest =>
      obtain ⟨rfl, rfl⟩ := hcut
      clear E1 E2
      have hqn : ¬ One q 0 := fun e => hq0 e.symm
      obtain ⟨hsA, aB, SA, -, -, -, aC, hs9, oC⟩ := XA.out
      have yC := aC.get (i := 2) rfl
      have fC := aC.fz oC hq0 2
      have aD := aC.setN (i := 2) (by simp) (.slice none 0 0)
      have stD : Step (One q) cC wc cC (wc.setCell ⟨b16, 2, none⟩ (.slice none 0 0)) := (Step.refl (K := One q)).setCell (a := ⟨b16, 2, none⟩) (.inr aC.col) _
      have oD : Ok cC (wc.setCell ⟨b16, 2, none⟩ (.slice none 0 0)) := oC.setCell _ _
      have hch := hs9.chain.keep stD hqn hqn
      have hot := hs9.other.keep stD hqn hqn
      rw [HAs.out.chain] at hch
      rw [HAs.out.other] at hot
      have hsD : (noneS s).At cC 0 (wc.setCell ⟨b16, 2, none⟩ (.slice none 0 0)) (.slice ca cl cc) (.slice oa ol oc) (.slice none 0 0) := ⟨hch, hot, Sl.nil _ _ _ _ _, hsA.nchain, hsA.nother, by simp [noneS], hsA.delay, hsA.slow⟩
      have hsA' := hsA.keep stD hqn
      have aB' := aB.keep stD hqn
      have SA' := SA.trans stD
      obtain ⟨WD, hWD⟩ : ∃ W, wc.setCell ⟨b16, 2, none⟩ (.slice none 0 0) = W := ⟨_, rfl⟩
      rw [hWD] at aD oD hsD hsA' aB' SA'
      have aD' : At cC WD b16 q [.slice ca cl cc, .slice oa ol oc, .slice none 0 0, .int .i64 DE, .int .i64 SL] := aD
      have KN : ∀ (c2 : Col) (w2 : World), Step No cC WD c2 w2 → (fun W : World => (Instr.loadAt 25 (.pointer (some ⟨b16, 0, none⟩))).run Tryz.prog W = .ok (.agg #[.slice ca cl cc, .slice oa ol oc, .slice none 0 0, .int .i64 DE, .int .i64 SL]) W) w2 :=
        fun _ _ h2 => (aD'.kn h2).ld (ty := 25) Tryz.underlying25 rfl info_srv
      have sd : Step No cC WD cC WD.drew := Step.rf.drewN 1
      have okk : Ok cC WD.drew := oD.drewN 1
      have KK := KN _ _ sd
      have KNH := Lib.hid KN
      have XD := Lib.hid (And.intro hsA' (And.intro aB' (And.intro SA' hsD)))
      obtain ⟨R2, hR2⟩ : ∃ R, replyT (noneS s) n 1 0 0 I H = R := ⟨_, rfl⟩
      obtain ⟨wt2, hwt2⟩ : ∃ x, waitT (noneS s) n R2 = x := ⟨_, rfl⟩
      obtain ⟨it2, hit2⟩ : ∃ x, isT R2 = x := ⟨_, rfl⟩
      have R2H := Lib.hid (And.intro hR2 (And.intro hwt2 hit2))
      clear XA hsA aB SA aC hs9 oC aD stD oD hch hot hsD hsA' aB' SA' aD' KN hR2 hwt2 hit2
      go_wp2_with fail
      (try rw [hWD])
      refine region_planM (fun W => (Instr.loadAt 25 (.pointer (some ⟨b16, 0, none⟩))).run Tryz.prog W = .ok (.agg #[.slice ca cl cc, .slice oa ol oc, .slice none 0 0, .int .i64 DE, .int .i64 SL]) W) (fun _ => true) (by kernel_rfl) ?_
      refine tk 0 _ 139 rfl rfl (Or.inl ⟨by rfl, fun W hW => by have q0 := hW; exact y_load 25 q0 (.tmp 16) rfl rfl⟩) KK ?_
      refine tk1 1 _ 140 rfl rfl KK ?_
      refine tk1 2 _ 141 rfl rfl KK ?_
      refine tk1 4 _ 143 rfl rfl KK ?_
      refine wpAnyM.one (i := 3) (by kernel_rfl) rfl (fun KQ hK => ?_)
      go_simp
      refine (askL_any okk I H HH.out.2.1 HH.out.1 0).mono ?_
      rintro e wC ⟨vk, rfl, cC, sk, sC, okk⟩
      have sd := sd.trans sC
      have KK := KNH.out _ _ sd
      obtain ⟨ka, kn, rfl, _⟩ := sk.form
      have SK := Lib.hid sk
      clear sC sk
      go_simp
      refine hK.out _ _ (fun _ => KK) ?_
      clear hK KQ
      (try simp only [Act.put, List.setIfInBounds_toArray, List.set_cons_zero, List.set_cons_succ])
      refine wpAnyM.one (i := 5) (by kernel_rfl) rfl (fun KQ hK => ?_)
      go_simp
      have RP := reply_any okk (XD.out.2.2.2.kn sd) n SK.out (decAsk HH.out.2.1 HH.out.1) (id := I) (h := H) (fun _ => ⟨fun M hM => hM, HH.out.2.1, HH.out.1⟩) 0
      rw [R2H.out.1, R2H.out.2.1, R2H.out.2.2, show (noneS s).delay = DE from HN.out.2.2.2.1, show (noneS s).slow = SL from HN.out.2.2.2.2] at RP
      refine RP.mono ?_
      rintro e wC ⟨xv, rfl, cC, sx, sC, okk⟩
      have sd := sd.trans sC
      have KK := KNH.out _ _ sd
      obtain ⟨xa4, xc4, rfl, _⟩ := sx.form
      have SX := Lib.hid sx
      clear sC sx RP SK
      go_simp
      refine hK.out _ _ (fun _ => KK) ?_
      clear hK KQ
      (try simp only [Act.put, List.setIfInBounds_toArray, List.set_cons_zero, List.set_cons_succ])
      refine tk1 6 _ 138 rfl rfl KK ?_
      refine tk1 7 _ 145 rfl rfl KK ?_
      refine tk1 8 _ 146 rfl rfl KK ?_
      refine tk1 9 _ 147 rfl rfl KK ?_
      refine wpAnyM.one (i := 10) (by kernel_rfl) rfl (fun KQ hK => ?_)
      go_simp
      refine hK.out _ _ (fun _ => KK) ?_
      clear hK KQ
      (try simp only [Act.put, List.setIfInBounds_toArray, List.set_cons_zero, List.set_cons_succ])
      refine wpAnyM.one (i := 11) (by kernel_rfl) rfl (fun KQ hK => ?_)
      go_simp
      refine hK.out _ _ (fun _ => KK) ?_
      clear hK KQ
      (try simp only [Act.put, List.setIfInBounds_toArray, List.set_cons_zero, List.set_cons_succ])
      refine wpAnyM.one (i := 12) (by kernel_rfl) rfl (fun KQ hK => ?_)
      go_simp
      refine hK.out _ _ (fun _ => KK) ?_
      clear hK KQ
      (try simp only [Act.put, List.setIfInBounds_toArray, List.set_cons_zero, List.set_cons_succ])
      refine wpAnyM.done (by kernel_rfl) ?_ _
      have hsE := XD.out.1.kn sd
      have GT := get_any okk hsE.chain hsE.nchain H
      have aE := XD.out.2.1.kn sd
      have y0 := aE.get (i := 0) rfl
      have XE := Lib.hid (And.intro (XD.out.2.2.1.trans sd.ofNo) SX.out)
      clear XD SX sd okk KK KNH hsE aE hWD
      go_wp2_with fail
      with_reducible refine GT.mono ?_
      rintro e w5 ⟨uc, uv, rfl, c5, hb5, s5, o5⟩
      obtain ⟨ZB, hZB, zB⟩ := zero_block
      have hbl := bloC_len hb5.h hb5.hash uc uv
      have hb1 := bloC_one hb5
      obtain ⟨hz, hhz⟩ : ∃ t, (getB s.chain H).isSome = t := ⟨_, rfl⟩
      obtain ⟨X, hX⟩ : ∃ X, getD0 s.chain H = X := ⟨_, rfl⟩
      rw [hX] at hb5 hbl hb1 ⊢
      rw [hhz]
      obtain ⟨WE, cE, hWE, aE, oE, sE, t1, t2, t3, t4⟩ := stnew o5 hZB hbl hb1 info_blo hq0
      have AA := answer_any oE I (hb5.kn sE) 0
      have hbu := answer_built I hbl
      obtain ⟨b23, hb23⟩ : ∃ b, w5.heap.size = b := ⟨_, rfl⟩
      rw [hb23] at hWE aE t1
      obtain ⟨B, hB⟩ : ∃ B, bloC X uc uv = B := ⟨_, rfl⟩
      rw [hB] at hbl hWE aE t1 t2 t3 t4 AA hbu ⊢
      obtain ⟨AN, hAN⟩ : ∃ AN : List Value, .int .i64 I :: B = AN := ⟨_, rfl⟩
      rw [show ansC I B = AN from hAN] at AA
      rw [hAN] at hbu
      obtain ⟨ev, hev⟩ : ∃ x, ansE I X = x := ⟨_, rfl⟩
      rw [hev] at AA
      have TT := Lib.hid (And.intro zB (And.intro hWE (And.intro aE.cells (And.intro t1 (And.intro t2 (And.intro t3 t4))))))
      have XF := Lib.hid (And.intro (XE.out.1.trans (s5.trans sE).ofNo) (And.intro ((XE.out.2.kn s5).kn sE) (And.intro hhz (And.intro hX hev))))
      clear GT XE hZB zB hb5 hb1 hWE aE oE sE t1 t2 t3 t4 hbl hB hAN hev hX hhz s5 o5 y0
      go_wp2_with (first | (refine wpList_alloc_zero rfl (some 23) rfl 59 rfl TT.out.1 ?_; rw [hb23]) | (refine wpList_store_mid rfl 59 _ _ rfl b23 0 B.toArray rfl rfl TT.out.2.2.2.1 TT.out.2.2.2.2.1 TT.out.2.2.2.2.2.1 ?_; rw [TT.out.2.1]) | (refine wpList_load_mid rfl 59 _ rfl b23 0 rfl B _ TT.out.2.2.1 Tryz.underlying59 rfl TT.out.2.2.2.2.2.2 ?_) | (refine wpList_build_ps rfl (some 158) rfl 61 #[(0, .tmp 156), (1, .tmp 157)] rfl AN (ps := [(0, .int .i64 I), (1, .agg B.toArray)]) (by first | rfl | (simp [Act.eval]; done) | (simp [Act.eval, Act.put]; done) | kernel_rfl) hbu ?_))
      with_reducible refine AA.mono ?_
      rintro e w6 ⟨vN, rfl, c6, slN, s6, o6⟩
      obtain ⟨na, nn, rfl, _⟩ := slN.form
      have SF := XF.out.1.trans s6.ofNo
      have FIN := Lib.hid (And.intro (SF.own HQ.out) o6)
      have SLH := Lib.hid (And.intro (XF.out.2.1.kn s6) slN)
      have HC := Lib.hid (And.intro XF.out.2.2.1 (And.intro XF.out.2.2.2.1 XF.out.2.2.2.2))
      clear AA XF slN s6 o6 SF TT hbu
      by_cases hyes : hz = true ∧ ev = 0
      rotate_left
      · have hno : R2 = [] := by
          rw [← R2H.out.1, none_reply HCK.out HH.out.2.2.1]
          refine honest_no fun h => hyes ⟨?_, ?_⟩
          · rw [← HC.out.1]; exact h.1
          · rw [← HC.out.2.2, ← HC.out.2.1]; exact h.2
        have hif : it2 = false := by rw [← R2H.out.2.2, hno]; rfl
        clear hno R2H
        subst hif
        obtain ⟨LN, hLN⟩ : ∃ L, (if ev = 0 then encN I X else []) = L := ⟨_, rfl⟩
        rw [hLN]
        clear hLN SLH
        rcases hz with _ | _
        · clear hyes HC
          go_wp2_with fail
          go_ret
          exact ⟨by first | rfl | simp, c6, FIN.out⟩
        · have hev0 : (ev != 0) = true := by rw [bne_iff_ne]; exact fun e => hyes ⟨rfl, e⟩
          clear hyes HC
          go_wp2_with fail
          go_ret
          exact ⟨by first | rfl | simp, c6, FIN.out⟩
      · obtain ⟨rfl, rfl⟩ := hyes
        have hR2 : R2 = encN I X := by
          rw [← R2H.out.1, none_reply HCK.out HH.out.2.2.1, honest_yes HC.out.1 (by rw [HC.out.2.1]; exact HC.out.2.2), HC.out.2.1]
        have hit : it2 = true := by
          rw [← R2H.out.2.2, hR2]
          unfold isT
          rw [if_neg (encN_ne I X)]
        clear R2H HC
        subst hR2 hit
        have E := sameB_any SLH.out.1 SLH.out.2
        rw [if_pos rfl, beq_self_eq_true] at E
        go_wp2_with fail
        with_reducible refine E.mono ?_
        rintro e w7 ⟨rfl, rfl⟩
        go_wp2_with fail
        go_ret
        exact ⟨by first | rfl | simp, c6, FIN.out⟩
end
end Go.Proofs.YtgcobbapaaihiaaGreat
