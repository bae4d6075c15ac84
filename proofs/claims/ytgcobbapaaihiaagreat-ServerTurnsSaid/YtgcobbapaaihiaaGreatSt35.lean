/- ServerTurns, part 35: lemmas, each with its own conditions. -/
import Derived.Test.YtgcobbapaaihiaaGreatSt34
set_option linter.unusedVariables false
set_option linter.unusedSimpArgs false
namespace Go.Proofs.YtgcobbapaaihiaaGreat
open Go.RowKit

theorem Fit.height {h : Int} {b : Blo} (hf : Fit h b) : b.h.height = h := by obtain ⟨p, z, x, y, _, _, _, _, rfl⟩ := hf; rfl
theorem Fit.check {h : Int} (hh : 1 ≤ h ∧ h ≤ 3) {b : Blo} (hf : Fit h b) : checkB b = 0 := by
  obtain ⟨p, z, x, y, hp, hz, hx, hy, rfl⟩ := hf
  have h1 : checkH (blo3 h p z x y).h = 0 := hdr1_check hh p z
  have h2 : checkV (blo3 h p z x y).vals = 0 := l1_ok.check
  have h3 : checkC (blo3 h p z x y).cm = 0 := by
    unfold checkC
    rw [if_neg (by show ¬ (h < 1 ∨ 1073741824 < h); omega), if_neg (by show ¬ 64 < 1; omega)]
    rfl
  simp [checkB, partsE, firstE, h1, h2, h3]
theorem Fit.ans {h id : Int} (hh : 1 ≤ h ∧ h ≤ 3) {b : Blo} (hf : Fit h b) (hid : idB id = true) : ansB (id, b) = encN id b := by
  unfold ansB ansE
  rw [if_pos (by show (if idB id = true then checkB b else 3) = 0; rw [if_pos hid]; exact hf.check hh)]

/-- Three blocks. -/
theorem FitL.three {L : List Blo} (h : FitL 3 L) : ∃ b1 b2 b3, L = [b1, b2, b3] ∧ Fit 1 b1 ∧ Fit 2 b2 ∧ Fit 3 b3 := by
  obtain ⟨h1, h2⟩ := h
  match L, h1 with
  | [b1, b2, b3], _ => exact ⟨b1, b2, b3, rfl, h2 0 b1 rfl, h2 1 b2 rfl, h2 2 b3 rfl⟩

def srvK (L : List Blo) (ms : List Int) (d s : Int) : Srv := ⟨L, [], ms, d, s⟩

section
variable {b1 b2 b3 : Blo}
theorem get3 (h1 : Fit 1 b1) (h2 : Fit 2 b2) (h3 : Fit 3 b3) : getB [b1, b2, b3] 1 = some b1 ∧ getB [b1, b2, b3] 2 = some b2 ∧ getB [b1, b2, b3] 3 = some b3 ∧ getB [b1, b2, b3] 4 = none := by
  have e1 := h1.height
  have e2 := h2.height
  have e3 := h3.height
  refine ⟨?_, ?_, ?_, ?_⟩ <;> simp [getB, e1, e2, e3]
theorem gd {L : List Blo} {h : Int} {b : Blo} (e : getB L h = some b) : getD0 L h = b := by unfold getD0; rw [e]; rfl
theorem rep {s : Srv} {nth h id m : Int} (hm : moodS s nth = m) (h0 : m ≠ 0) : replyT s nth 1 0 0 id h = outS m s h id := by
  unfold replyT noB
  rw [hm, if_neg (by simp [h0])]
variable (h1 : Fit 1 b1) (h2 : Fit 2 b2) (h3 : Fit 3 b3)
include h1 h2 h3
theorem kA1 : replyT (srvK [b1, b2, b3] [] 3 0) 0 1 0 0 7 2 = encN 7 b2 ∧ tickS (moodS (srvK [b1, b2, b3] [] 3 0) 0) (srvK [b1, b2, b3] [] 3 0) = 3 := by
  have hm : moodS (srvK [b1, b2, b3] [] 3 0) 0 = 1 := rfl
  refine ⟨?_, by rw [hm]; rfl⟩
  rw [rep hm (by decide)]
  have e := (get3 h1 h2 h3).2.1
  show wayT gStay (srvK [b1, b2, b3] [] 3 0) 2 7 = _
  unfold wayT
  rw [show (srvK [b1, b2, b3] [] 3 0).chain = [b1, b2, b3] from rfl, gd e, e]
  exact h2.ans (by omega) (by decide)
theorem kA2 : replyT (srvK [b1, b2, b3] [] 0 0) 0 1 0 0 7 4 = [] := by
  have hm : moodS (srvK [b1, b2, b3] [] 0 0) 0 = 1 := rfl
  rw [rep hm (by decide)]
  have e := (get3 h1 h2 h3).2.2.2
  show wayT gStay (srvK [b1, b2, b3] [] 0 0) 4 7 = _
  unfold wayT
  rw [show (srvK [b1, b2, b3] [] 0 0).chain = [b1, b2, b3] from rfl, e]
  rfl
omit h1 h2 h3 in
theorem k1 : replyT (srvK [b1, b2, b3] [2, 3] 3 5) 0 1 0 0 7 1 = [] := by
  have hm : moodS (srvK [b1, b2, b3] [2, 3] 3 5) 0 = 2 := rfl
  rw [rep hm (by decide)]
  rfl
theorem k2 : replyT (srvK [b1, b2, b3] [2, 3] 3 5) 1 1 0 0 7 1 = encN 7 b1 ∧ tickS (moodS (srvK [b1, b2, b3] [2, 3] 3 5) 1) (srvK [b1, b2, b3] [2, 3] 3 5) = 8 := by
  have hm : moodS (srvK [b1, b2, b3] [2, 3] 3 5) 1 = 3 := rfl
  refine ⟨?_, by rw [hm]; rfl⟩
  rw [rep hm (by decide)]
  have e := (get3 h1 h2 h3).1
  show wayT gStay (srvK [b1, b2, b3] [2, 3] 3 5) 1 7 = _
  unfold wayT
  rw [show (srvK [b1, b2, b3] [2, 3] 3 5).chain = [b1, b2, b3] from rfl, gd e, e]
  exact h1.ans (by omega) (by decide)
omit h1 h2 h3 in
theorem k3 : replyT (srvK [b1, b2, b3] [2, 3] 3 5) 2 1 0 0 7 1 = [] := by
  have hm : moodS (srvK [b1, b2, b3] [2, 3] 3 5) 2 = 2 := by simp [moodS, checkS, srvK, badW, badM]
  rw [rep hm (by decide)]
  rfl
theorem k4 : replyT (srvK [b1, b2, b3] [5] 0 0) 0 1 0 0 7 2 = encN 7 b3 ∧ tickS (moodS (srvK [b1, b2, b3] [5] 0 0) 0) (srvK [b1, b2, b3] [5] 0 0) = 0 := by
  have hm : moodS (srvK [b1, b2, b3] [5] 0 0) 0 = 5 := rfl
  refine ⟨?_, by rw [hm]; rfl⟩
  rw [rep hm (by decide)]
  have e := (get3 h1 h2 h3).2.2.1
  show offT (srvK [b1, b2, b3] [5] 0 0) 2 7 = _
  unfold offT
  rw [show (srvK [b1, b2, b3] [5] 0 0).chain = [b1, b2, b3] from rfl, show (2 : Int) + 1 = 3 from rfl, e, if_pos (show (some b3).isSome = true from rfl), gd e]
  exact h3.ans (by omega) (by decide)
theorem k5 : replyT (srvK [b1, b2, b3] [5] 0 0) 0 1 0 0 7 3 = encN 7 b2 ∧ tickS (moodS (srvK [b1, b2, b3] [5] 0 0) 0) (srvK [b1, b2, b3] [5] 0 0) = 0 := by
  have hm : moodS (srvK [b1, b2, b3] [5] 0 0) 0 = 5 := rfl
  refine ⟨?_, by rw [hm]; rfl⟩
  rw [rep hm (by decide)]
  have e4 := (get3 h1 h2 h3).2.2.2
  have e := (get3 h1 h2 h3).2.1
  show offT (srvK [b1, b2, b3] [5] 0 0) 3 7 = _
  unfold offT
  rw [show (srvK [b1, b2, b3] [5] 0 0).chain = [b1, b2, b3] from rfl, show (3 : Int) + 1 = 4 from rfl, show (3 : Int) - 1 = 2 from rfl, e4, if_neg (by decide), e, if_pos (show (some b2).isSome = true from rfl), gd e]
  exact h2.ans (by omega) (by decide)
theorem k6 : replyT (srvK [b1, b2, b3] [9] 0 0) 0 1 0 0 7 1 = encN 8 b1 ∧ tickS (moodS (srvK [b1, b2, b3] [9] 0 0) 0) (srvK [b1, b2, b3] [9] 0 0) = 0 := by
  have hm : moodS (srvK [b1, b2, b3] [9] 0 0) 0 = 9 := rfl
  refine ⟨?_, by rw [hm]; rfl⟩
  rw [rep hm (by decide)]
  have e := (get3 h1 h2 h3).1
  show wayT gOdd (srvK [b1, b2, b3] [9] 0 0) 1 7 = _
  unfold wayT
  rw [show (srvK [b1, b2, b3] [9] 0 0).chain = [b1, b2, b3] from rfl, gd e, e]
  exact h1.ans (by omega) (by decide)
theorem k7 : replyT (srvK [b1, b2, b3] [8] 0 0) 0 1 0 0 7 1 = encN 7 b1 ∧ tickS (moodS (srvK [b1, b2, b3] [8] 0 0) 0) (srvK [b1, b2, b3] [8] 0 0) = 0 := by
  have hm : moodS (srvK [b1, b2, b3] [8] 0 0) 0 = 8 := rfl
  refine ⟨?_, by rw [hm]; rfl⟩
  rw [rep hm (by decide)]
  have e := (get3 h1 h2 h3).1
  show otherT (srvK [b1, b2, b3] [8] 0 0) 1 7 = _
  unfold otherT
  rw [show (srvK [b1, b2, b3] [8] 0 0).other = [] from rfl, if_neg (by decide)]
  unfold wayT
  rw [show (srvK [b1, b2, b3] [8] 0 0).chain = [b1, b2, b3] from rfl, gd e, e]
  exact h1.ans (by omega) (by decide)
end
theorem k8 (s : Srv) (nth id h : Int) : replyT s nth 2 0 0 id h = [] := by
  unfold replyT noB
  rw [if_pos (by simp)]
end Go.Proofs.YtgcobbapaaihiaaGreat

set_option linter.unusedVariables false
set_option linter.unusedSimpArgs false
namespace Go.Proofs.YtgcobbapaaihiaaGreat
open Go.RowKit

section
variable {c : Col} {w : World}

theorem srvAt {L : List Blo} {v : Value} (hl : Sl TBlo c 0 0 w v L) (hL : L.length ≤ 1000) {ms : List Int} {vm : Value} (hm : Sl (TInt .i64) c 0 0 w vm ms) (hms : ms.length ≤ 1000) {d s : Int} (hd : IntKind.i64.has d) (hs : IntKind.i64.has s) :
    (srvK L ms d s).At c 0 w v (.slice none 0 0) vm := ⟨hl, Sl.nil _ _ _ _ _, hm, by show L.length ≤ 1000000000; omega, by show (0 : Nat) ≤ 1000000000; omega, by show ms.length ≤ 1000000000; omega, hd, hs⟩

set_option maxRecDepth 100000 in
set_option maxHeartbeats 3200000 in
theorem awake29_any (hok : Ok c w) :
    Calls Tryz.prog 7 #[] w fun r w' => r = .returned (.bool true) ∧ ∃ c', Step No c w c' w' ∧ Ok c' w' := by
  have TH := three_any hok
  clear hok
  go_enter Tryz.func7, Tryz.ntmps7
  go_wp2_with fail
  with_reducible refine TH.mono ?_
  rintro e w1 ⟨v, sv, rfl, c1, L, hL, sl, s1, o1⟩
  obtain ⟨b1, b2, b3, rfl, h1, h2, h3⟩ := hL.three
  obtain ⟨va, vn, rfl, _⟩ := sl.form
  have A0 := srvAt sl (by simp) (Sl.nil (TInt .i64) c1 0 0 w1) (by simp) (d := 3) (s := 0) ⟨by decide, by decide⟩ ⟨by decide, by decide⟩
  have TD := told_yes o1 A0 0 2 7 2 3 (by decide) (by decide) (by omega) h2 (kA1 h1 h2 h3).1 (kA1 h1 h2 h3).2
  rw [h2.height] at TD
  have X := Lib.hid (And.intro sl (And.intro s1 (And.intro h1 (And.intro h2 h3))))
  clear TH hL sl s1 o1 h1 h2 h3 A0
  go_wp2_with fail
  refine TD.mono ?_
  rintro e w2 ⟨rfl, c2, s2, o2⟩
  obtain ⟨sl, s1, h1, h2, h3⟩ := X.out
  have AK := askL_any o2 7 4 (by decide) (by decide) 0
  have X2 := Lib.hid (And.intro (sl.kn s2) (And.intro (s1.trans s2) (And.intro h1 (And.intro h2 h3))))
  clear TD X sl s1 h1 h2 h3 s2 o2
  go_wp2_with fail
  with_reducible refine AK.mono ?_
  rintro e w3 ⟨vk, rfl, c3, sk, s3, o3⟩
  obtain ⟨sl, s1, h1, h2, h3⟩ := X2.out
  have A0 := srvAt (sl.kn s3) (by simp) (Sl.nil (TInt .i64) c3 0 0 w3) (by simp) (d := 0) (s := 0) ⟨by decide, by decide⟩ ⟨by decide, by decide⟩
  have SI := silent_any o3 A0 0 sk (decAsk (id := 7) (h := 4) (by decide) (by decide)) (id := 7) (h := 4) (fun _ => ⟨fun M hM => hM, by decide, by decide⟩) (kA2 h1 h2 h3)
  have X3 := Lib.hid (s1.trans s3)
  clear AK X2 sl s1 h1 h2 h3 s3 o3 sk A0
  go_wp2_with fail
  refine SI.mono ?_
  rintro e w4 ⟨rfl, c4, s4, o4⟩
  have SF := sfault_any 4 w4
  rw [show faultS 4 = 1 from rfl] at SF
  have X4 := Lib.hid (And.intro (X3.out.trans s4) o4)
  clear SI X3 s4 o4
  go_wp2_with fail
  with_reducible refine SF.mono ?_
  rintro e w5 ⟨rfl, rfl⟩
  go_wp2_with fail
  go_ret
  exact ⟨by first | rfl | simp, c4, X4.out⟩
end
end Go.Proofs.YtgcobbapaaihiaaGreat
