/- ServerTurns, part 04: lemmas, each with its own conditions. -/
import Derived.Test.YtgcobbapaaihiaaGreatSt01
import Derived.Test.YtgcobbapaaihiaaGreatSt02
import Derived.Test.YtgcobbapaaihiaaGreatSt03
import Derived.Deep.DeepFit
import Derived.BigQuiet
import Derived.Deep.QuietTactic
import Derived.Lib.ConvBytes
set_option linter.unusedVariables false
set_option linter.unusedSimpArgs false
namespace Go.Proofs.YtgcobbapaaihiaaGreat
open Go.RowKit

/-- A header. -/
structure Hdr where
  name : List UInt8
  height : Int
  time : Int
  prev : List UInt8
  vals : List UInt8
  next : List UInt8
  app : List UInt8

structure Hdr.Wf (h : Hdr) : Prop where
  name : h.name.length ≤ 1000000000
  height : IntKind.i64.has h.height
  time : IntKind.i64.has h.time
  prev : h.prev.length = 32
  vals : h.vals.length = 32
  next : h.next.length = 32
  app : h.app.length = 32

/-- Its cells. -/
def hdrC (h : Hdr) : List Value := .string ⟨h.name.toArray⟩ :: .int .i64 h.height :: .int .i64 h.time :: (bC h.prev ++ (bC h.vals ++ (bC h.next ++ bC h.app)))

theorem hdrC_len {h : Hdr} (hw : h.Wf) : (hdrC h).length = 131 := by
  obtain ⟨_, _, _, h1, h2, h3, h4⟩ := hw
  simp [hdrC, bC_len, h1, h2, h3, h4]
theorem hdrC_one (h : Hdr) : ∀ v ∈ hdrC h, v.oneCell' = true := by
  intro v hv
  simp only [hdrC, List.mem_cons, List.mem_append] at hv
  rcases hv with rfl | rfl | rfl | hv | hv | hv | hv
  · rfl
  · rfl
  · rfl
  all_goals exact bC_one _ v hv

theorem info_hdr : (Tryz.prog.info? 53).map (·.size) = some 131 := by kernel_rfl

def heightB (n : Int) : Bool := decide (1 ≤ n) && decide (n ≤ 1073741824)
def timeB (n : Int) : Bool := decide (0 ≤ n) && decide (n ≤ 1099511627776)

section
variable {c : Col} {w : World}

theorem iter_step (s : ByteArray) (pos : Nat) : Step No c w c (w.iter s pos) := Step.refl.alloc _
theorem iter_ok (hok : Ok c w) (s : ByteArray) (pos : Nat) : Ok c (w.iter s pos) := hok.alloc _

theorem rule1_any (hok : Ok c w) (h : Hdr) (hw : h.Wf) :
    Calls Tryz.prog 195 #[.agg (hdrC h).toArray] w fun r w' => r = .returned (.bool (nameB h.name)) ∧ ∃ c', Step No c w c' w' ∧ Ok c' w' := by
  have a1 := At.new0 hok (hdrC h) 53
  have o1 := hok.alloc (.cells (hdrC h).toArray 53)
  have s1 : Step No c w c (w.alloc (.cells (hdrC h).toArray 53)) := Step.refl.alloc _
  have y0 := a1.get (i := 0) (u := .string ⟨h.name.toArray⟩) rfl
  have N := name_any h.name hw.name (w.alloc (.cells (hdrC h).toArray 53))
  obtain ⟨B, hB⟩ : ∃ B, hdrC h = B := ⟨_, rfl⟩
  rw [hB] at a1 o1 s1 y0 N ⊢
  have H := Lib.hid (And.intro o1 s1)
  clear a1 o1 s1 hok hB
  go_enter Tryz.func195, Tryz.ntmps195
  go_wp2_with fail
  with_reducible refine N.mono ?_
  rintro e w1 ⟨rfl, hw1⟩
  have HW := Lib.hid hw1
  clear hw1 N
  go_wp2_with fail
  go_ret
  obtain ⟨o1, s1⟩ := H.out
  rcases HW.out with rfl | ⟨pos, rfl⟩
  · exact ⟨rfl, c, s1, o1⟩
  · exact ⟨rfl, c, s1.trans (iter_step _ _), iter_ok o1 _ _⟩

theorem rule2_any (hok : Ok c w) (h : Hdr) :
    Calls Tryz.prog 196 #[.agg (hdrC h).toArray] w fun r w' => r = .returned (.bool (heightB h.height)) ∧ ∃ c', Step No c w c' w' ∧ Ok c' w' := by
  have a1 := At.new0 hok (hdrC h) 53
  have o1 := hok.alloc (.cells (hdrC h).toArray 53)
  have s1 : Step No c w c (w.alloc (.cells (hdrC h).toArray 53)) := Step.refl.alloc _
  have y0 := a1.get (i := 1) (u := .int .i64 h.height) rfl
  have hb := Lib.hid (show heightB h.height = (decide (1 ≤ h.height) && decide (h.height ≤ 1073741824)) from rfl)
  obtain ⟨B, hB⟩ : ∃ B, hdrC h = B := ⟨_, rfl⟩
  rw [hB] at a1 o1 s1 y0 ⊢
  have H := Lib.hid (And.intro s1 o1)
  clear a1 o1 s1 hok hB
  by_cases h1 : 1 ≤ h.height
  · go_enter Tryz.func196, Tryz.ntmps196
    go_wp2_with fail
    go_ret
    exact ⟨by (rw [hb.out]; simp [h1]), c, H.out⟩
  · go_enter Tryz.func196, Tryz.ntmps196
    go_wp2_with fail
    go_ret
    exact ⟨by (rw [hb.out]; simp; omega), c, H.out⟩

theorem rule3_any (hok : Ok c w) (h : Hdr) :
    Calls Tryz.prog 197 #[.agg (hdrC h).toArray] w fun r w' => r = .returned (.bool (timeB h.time)) ∧ ∃ c', Step No c w c' w' ∧ Ok c' w' := by
  have a1 := At.new0 hok (hdrC h) 53
  have o1 := hok.alloc (.cells (hdrC h).toArray 53)
  have s1 : Step No c w c (w.alloc (.cells (hdrC h).toArray 53)) := Step.refl.alloc _
  have y0 := a1.get (i := 2) (u := .int .i64 h.time) rfl
  have hb := Lib.hid (show timeB h.time = (decide (0 ≤ h.time) && decide (h.time ≤ 1099511627776)) from rfl)
  obtain ⟨B, hB⟩ : ∃ B, hdrC h = B := ⟨_, rfl⟩
  rw [hB] at a1 o1 s1 y0 ⊢
  have H := Lib.hid (And.intro s1 o1)
  clear a1 o1 s1 hok hB
  by_cases h1 : 0 ≤ h.time
  · go_enter Tryz.func197, Tryz.ntmps197
    go_wp2_with fail
    go_ret
    exact ⟨by (rw [hb.out]; simp [h1]), c, H.out⟩
  · go_enter Tryz.func197, Tryz.ntmps197
    go_wp2_with fail
    go_ret
    exact ⟨by (rw [hb.out]; simp; omega), c, H.out⟩
end
end Go.Proofs.YtgcobbapaaihiaaGreat

set_option linter.unusedVariables false
set_option linter.unusedSimpArgs false
namespace Go.Proofs.YtgcobbapaaihiaaGreat
open Go.RowKit

/-- Why a header may not be. -/
def checkH (h : Hdr) : Int := if nameB h.name = false then 5 else if heightB h.height = false then 3 else if timeB h.time = false then 3 else 0

theorem info_rule : (Tryz.prog.info? 247).map (·.size) = some 2 := by kernel_rfl

section
variable {c : Col} {w : World}

theorem rules_any (w : World) : Calls Tryz.prog 170 #[] w fun r w' => r = .returned (.slice (some ⟨w.heap.size, 0, none⟩) 3 3) ∧ w' = w.alloc (.cells #[.func (.func 195) #[] #[], .int .i64 5, .func (.func 196) #[] #[], .int .i64 3, .func (.func 197) #[] #[], .int .i64 3] 247) := by
  go_enter Tryz.func170, Tryz.ntmps170
  go_wp2
  go_ret
  exact ⟨rfl, rfl⟩

set_option maxRecDepth 100000 in
set_option maxHeartbeats 1600000 in
theorem check_any (hok : Ok c w) (h : Hdr) (hw : h.Wf) :
    Calls Tryz.prog 141 #[.agg (hdrC h).toArray] w fun r w' => r = .returned (.int .i64 (checkH h)) ∧ ∃ c', Step No c w c' w' ∧ Ok c' w' := by
  have a1 := At.new0 hok (hdrC h) 53
  have o1 := hok.alloc (.cells (hdrC h).toArray 53)
  have s1 : Step No c w c (w.alloc (.cells (hdrC h).toArray 53)) := Step.refl.alloc _
  have a2 := At.new0 o1 [.func (.func 195) #[] #[], .int .i64 5, .func (.func 196) #[] #[], .int .i64 3, .func (.func 197) #[] #[], .int .i64 3] 247
  have s2 : Step No c (w.alloc (.cells (hdrC h).toArray 53)) c ((w.alloc (.cells (hdrC h).toArray 53)).alloc (.cells #[.func (.func 195) #[] #[], .int .i64 5, .func (.func 196) #[] #[], .int .i64 3, .func (.func 197) #[] #[], .int .i64 3] 247)) := Step.refl.alloc _
  have o2 := o1.alloc (.cells #[.func (.func 195) #[] #[], .int .i64 5, .func (.func 196) #[] #[], .int .i64 3, .func (.func 197) #[] #[], .int .i64 3] 247)
  have a12 := a1.keep s2 (fun h => h)
  rw [World.size_alloc] at a2
  have RU := rules_any (w.alloc (.cells (hdrC h).toArray 53))
  have R1 := fun {c' : Col} {w' : World} (ho : Ok c' w') => rule1_any ho h hw
  have R2 := fun {c' : Col} {w' : World} (ho : Ok c' w') => rule2_any ho h
  have R3 := fun {c' : Col} {w' : World} (ho : Ok c' w') => rule3_any ho h
  have hl := hdrC_len hw
  have hC := Lib.hid (show checkH h = if nameB h.name = false then 5 else if heightB h.height = false then 3 else if timeB h.time = false then 3 else 0 from rfl)
  obtain ⟨B, hB⟩ : ∃ B, hdrC h = B := ⟨_, rfl⟩
  rw [hB] at a1 o1 s1 a2 s2 o2 a12 RU hl R1 R2 R3 ⊢
  have hi : Hid ((Tryz.prog.info? 53).map (·.size) = some B.length) := Lib.hid (by rw [info_hdr, hl])
  obtain ⟨b1, hb1⟩ : ∃ b, w.heap.size = b := ⟨_, rfl⟩
  have S12 := s1.trans s2
  have H0 := Lib.hid (And.intro S12 (And.intro o2 (And.intro a12 (And.intro a2 hb1))))
  have HR := Lib.hid (And.intro @R1 (And.intro @R2 @R3))
  clear a1 o1 s1 a2 s2 o2 a12 R1 R2 R3 hl hB hok S12 hb1
  go_enter Tryz.func141, Tryz.ntmps141
  go_wp2_with fail
  with_reducible refine RU.mono ?_
  rintro e w1 ⟨rfl, rfl⟩
  clear RU
  go_wp2_with fail
  go_loopw [7] (fun vi wr => ∃ (i : Nat) (cr : Col), i ≤ 3 ∧ vi = .int .i64 i ∧ Step No c w cr wr ∧ Ok cr wr ∧ At cr wr w.heap.size 0 B ∧ At cr wr (w.heap.size + 1) 0 [.func (.func 195) #[] #[], .int .i64 5, .func (.func 196) #[] #[], .int .i64 3, .func (.func 197) #[] #[], .int .i64 3] ∧ (0 < i → nameB h.name = true) ∧ (1 < i → heightB h.height = true) ∧ (2 < i → timeB h.time = true)) (fun vi _ => 3 - (intOf vi).toNat)
  case atStart => exact ⟨0, c, by omega, rfl, H0.out.1, H0.out.2.1, H0.out.2.2.1, H0.out.2.2.2.1, by omega, by omega, by omega⟩
  case round =>
    obtain ⟨i, cr, hi3, rfl, st, ok, ah, ar, k1, k2, k3⟩ := hrel
    have e0 := ar.get (i := 0) rfl
    have e1 := ar.get (i := 1) rfl
    have e2 := ar.get (i := 2) rfl
    have e3 := ar.get (i := 3) rfl
    have e4 := ar.get (i := 4) rfl
    have e5 := ar.get (i := 5) rfl
    rcases (by omega : i = 0 ∨ i = 1 ∨ i = 2 ∨ i = 3) with rfl | rfl | rfl | rfl
    · obtain ⟨q, hq, hqc⟩ := ok.spare 0
      have hq0 : q ≠ 0 := by omega
      obtain ⟨az, oz, sz⟩ := newAt ok [.nilFunc, .int .i64 0] 247 q
      have hi2 : Hid ((Tryz.prog.info? 247).map (·.size) = some 2) := Lib.hid info_rule
      obtain ⟨S0, a4⟩ := az.st oz hq0 (ty := 247) (us := [.func (.func 195) #[] #[], .int .i64 5]) rfl hi2.out (by intro u hu; simp at hu; rcases hu with rfl | rfl <;> rfl)
      have ht := Lib.hid (az.there (o := 0) (n := ([.func (.func 195) #[] #[], .int .i64 5] : List Value).toArray.size) oz hq0 (by simp))
      have hall := Lib.hid (all_oneCell_toArray (cs := [.func (.func 195) #[] #[], .int .i64 5]) (by intro u hu; simp at hu; rcases hu with rfl | rfl <;> rfl))
      have hi3 : Hid ((Tryz.prog.info? 247).map (·.size) = some ([.func (.func 195) #[] #[], .int .i64 5] : List Value).toArray.size) := Lib.hid info_rule
      have sx : Step No cr wr (cr.put wr.heap.size q) ((wr.alloc (.cells #[.nilFunc, .int .i64 0] 247)).setCells wr.heap.size 0 [.func (.func 195) #[] #[], .int .i64 5]) := Step.setCells (.inl (Nat.le_refl _)) _ _ _ sz
      have ox : Ok (cr.put wr.heap.size q) ((wr.alloc (.cells #[.nilFunc, .int .i64 0] 247)).setCells wr.heap.size 0 [.func (.func 195) #[] #[], .int .i64 5]) := Ok.setCells _ _ _ oz
      have R := (HR.out.1) ox
      have ahx := ah.keep sx (fun h => h)
      have arx := ar.keep sx (fun h => h)
      have e6 := a4.get (i := 0) rfl
      have e7 := a4.get (i := 1) rfl
      have HX := Lib.hid (And.intro ahx (And.intro arx (And.intro (st.trans sx) (And.intro k1 (And.intro k2 (And.intro k3 a4))))))
      have HA := Lib.hid ahx.cells
      obtain ⟨v, hv⟩ : ∃ v, nameB h.name = v := ⟨_, rfl⟩
      rw [hv] at R
      have HV := Lib.hid hv
      clear st ok ah ar k1 k2 k3 ahx arx sx hv az oz sz S0 a4 ox hqc
      go_wp2_with (first | (refine wpList_load_mid rfl 53 _ rfl w.heap.size 0 rfl B _ HA.out Tryz.underlying53 rfl hi.out ?_) | (refine wpList_store_mid rfl 247 _ _ rfl wr.heap.size 0 ([.func (.func 195) #[] #[], .int .i64 5] : List Value).toArray rfl rfl ht.out hi3.out hall.out ?_))
      with_reducible refine R.mono ?_
      rintro e w2 ⟨rfl, c2, s2, o2⟩
      have P := Lib.hid (And.intro s2 (And.intro o2 (HX.out.2.2.2.2.2.2.keep s2 (fun h => h))))
      have e8 := P.out.2.2.get (i := 1) rfl
      clear R s2 o2 e0 e1 e2 e3 e4 e5 e6 e7
      rcases v with _ | _
      · go_wp2_with fail
        go_ret
        obtain ⟨s2, o2, _⟩ := P.out
        refine ⟨?_, c2, HX.out.2.2.1.trans s2, o2⟩
        rw [hC.out, if_pos HV.out]
        rfl
      · go_wp2_with fail
        go_roundw
        case rel =>
          obtain ⟨s2, o2, _⟩ := P.out
          exact ⟨1, c2, by omega, by first | rfl | go_num, HX.out.2.2.1.trans s2, o2, HX.out.1.keep s2 (fun h => h), HX.out.2.1.keep s2 (fun h => h), fun _ => HV.out, fun h => absurd h (by decide), fun h => absurd h (by decide)⟩
        case measure => simp [intOf]
    · obtain ⟨q, hq, hqc⟩ := ok.spare 0
      have hq0 : q ≠ 0 := by omega
      obtain ⟨az, oz, sz⟩ := newAt ok [.nilFunc, .int .i64 0] 247 q
      have hi2 : Hid ((Tryz.prog.info? 247).map (·.size) = some 2) := Lib.hid info_rule
      obtain ⟨S0, a4⟩ := az.st oz hq0 (ty := 247) (us := [.func (.func 196) #[] #[], .int .i64 3]) rfl hi2.out (by intro u hu; simp at hu; rcases hu with rfl | rfl <;> rfl)
      have ht := Lib.hid (az.there (o := 0) (n := ([.func (.func 196) #[] #[], .int .i64 3] : List Value).toArray.size) oz hq0 (by simp))
      have hall := Lib.hid (all_oneCell_toArray (cs := [.func (.func 196) #[] #[], .int .i64 3]) (by intro u hu; simp at hu; rcases hu with rfl | rfl <;> rfl))
      have hi3 : Hid ((Tryz.prog.info? 247).map (·.size) = some ([.func (.func 196) #[] #[], .int .i64 3] : List Value).toArray.size) := Lib.hid info_rule
      have sx : Step No cr wr (cr.put wr.heap.size q) ((wr.alloc (.cells #[.nilFunc, .int .i64 0] 247)).setCells wr.heap.size 0 [.func (.func 196) #[] #[], .int .i64 3]) := Step.setCells (.inl (Nat.le_refl _)) _ _ _ sz
      have ox : Ok (cr.put wr.heap.size q) ((wr.alloc (.cells #[.nilFunc, .int .i64 0] 247)).setCells wr.heap.size 0 [.func (.func 196) #[] #[], .int .i64 3]) := Ok.setCells _ _ _ oz
      have R := (HR.out.2.1) ox
      have ahx := ah.keep sx (fun h => h)
      have arx := ar.keep sx (fun h => h)
      have e6 := a4.get (i := 0) rfl
      have e7 := a4.get (i := 1) rfl
      have HX := Lib.hid (And.intro ahx (And.intro arx (And.intro (st.trans sx) (And.intro k1 (And.intro k2 (And.intro k3 a4))))))
      have HA := Lib.hid ahx.cells
      obtain ⟨v, hv⟩ : ∃ v, heightB h.height = v := ⟨_, rfl⟩
      rw [hv] at R
      have HV := Lib.hid hv
      clear st ok ah ar k1 k2 k3 ahx arx sx hv az oz sz S0 a4 ox hqc
      go_wp2_with (first | (refine wpList_load_mid rfl 53 _ rfl w.heap.size 0 rfl B _ HA.out Tryz.underlying53 rfl hi.out ?_) | (refine wpList_store_mid rfl 247 _ _ rfl wr.heap.size 0 ([.func (.func 196) #[] #[], .int .i64 3] : List Value).toArray rfl rfl ht.out hi3.out hall.out ?_))
      with_reducible refine R.mono ?_
      rintro e w2 ⟨rfl, c2, s2, o2⟩
      have P := Lib.hid (And.intro s2 (And.intro o2 (HX.out.2.2.2.2.2.2.keep s2 (fun h => h))))
      have e8 := P.out.2.2.get (i := 1) rfl
      clear R s2 o2 e0 e1 e2 e3 e4 e5 e6 e7
      rcases v with _ | _
      · go_wp2_with fail
        go_ret
        obtain ⟨s2, o2, _⟩ := P.out
        refine ⟨?_, c2, HX.out.2.2.1.trans s2, o2⟩
        rw [hC.out, if_neg (by rw [HX.out.2.2.2.1 (by decide)]; decide), if_pos HV.out]
        rfl
      · go_wp2_with fail
        go_roundw
        case rel =>
          obtain ⟨s2, o2, _⟩ := P.out
          exact ⟨2, c2, by omega, by first | rfl | go_num, HX.out.2.2.1.trans s2, o2, HX.out.1.keep s2 (fun h => h), HX.out.2.1.keep s2 (fun h => h), fun _ => HX.out.2.2.2.1 (by decide), fun _ => HV.out, fun h => absurd h (by decide)⟩
        case measure => simp [intOf]
    · obtain ⟨q, hq, hqc⟩ := ok.spare 0
      have hq0 : q ≠ 0 := by omega
      obtain ⟨az, oz, sz⟩ := newAt ok [.nilFunc, .int .i64 0] 247 q
      have hi2 : Hid ((Tryz.prog.info? 247).map (·.size) = some 2) := Lib.hid info_rule
      obtain ⟨S0, a4⟩ := az.st oz hq0 (ty := 247) (us := [.func (.func 197) #[] #[], .int .i64 3]) rfl hi2.out (by intro u hu; simp at hu; rcases hu with rfl | rfl <;> rfl)
      have ht := Lib.hid (az.there (o := 0) (n := ([.func (.func 197) #[] #[], .int .i64 3] : List Value).toArray.size) oz hq0 (by simp))
      have hall := Lib.hid (all_oneCell_toArray (cs := [.func (.func 197) #[] #[], .int .i64 3]) (by intro u hu; simp at hu; rcases hu with rfl | rfl <;> rfl))
      have hi3 : Hid ((Tryz.prog.info? 247).map (·.size) = some ([.func (.func 197) #[] #[], .int .i64 3] : List Value).toArray.size) := Lib.hid info_rule
      have sx : Step No cr wr (cr.put wr.heap.size q) ((wr.alloc (.cells #[.nilFunc, .int .i64 0] 247)).setCells wr.heap.size 0 [.func (.func 197) #[] #[], .int .i64 3]) := Step.setCells (.inl (Nat.le_refl _)) _ _ _ sz
      have ox : Ok (cr.put wr.heap.size q) ((wr.alloc (.cells #[.nilFunc, .int .i64 0] 247)).setCells wr.heap.size 0 [.func (.func 197) #[] #[], .int .i64 3]) := Ok.setCells _ _ _ oz
      have R := (HR.out.2.2) ox
      have ahx := ah.keep sx (fun h => h)
      have arx := ar.keep sx (fun h => h)
      have e6 := a4.get (i := 0) rfl
      have e7 := a4.get (i := 1) rfl
      have HX := Lib.hid (And.intro ahx (And.intro arx (And.intro (st.trans sx) (And.intro k1 (And.intro k2 (And.intro k3 a4))))))
      have HA := Lib.hid ahx.cells
      obtain ⟨v, hv⟩ : ∃ v, timeB h.time = v := ⟨_, rfl⟩
      rw [hv] at R
      have HV := Lib.hid hv
      clear st ok ah ar k1 k2 k3 ahx arx sx hv az oz sz S0 a4 ox hqc
      go_wp2_with (first | (refine wpList_load_mid rfl 53 _ rfl w.heap.size 0 rfl B _ HA.out Tryz.underlying53 rfl hi.out ?_) | (refine wpList_store_mid rfl 247 _ _ rfl wr.heap.size 0 ([.func (.func 197) #[] #[], .int .i64 3] : List Value).toArray rfl rfl ht.out hi3.out hall.out ?_))
      with_reducible refine R.mono ?_
      rintro e w2 ⟨rfl, c2, s2, o2⟩
      have P := Lib.hid (And.intro s2 (And.intro o2 (HX.out.2.2.2.2.2.2.keep s2 (fun h => h))))
      have e8 := P.out.2.2.get (i := 1) rfl
      clear R s2 o2 e0 e1 e2 e3 e4 e5 e6 e7
      rcases v with _ | _
      · go_wp2_with fail
        go_ret
        obtain ⟨s2, o2, _⟩ := P.out
        refine ⟨?_, c2, HX.out.2.2.1.trans s2, o2⟩
        rw [hC.out, if_neg (by rw [HX.out.2.2.2.1 (by decide)]; decide), if_neg (by rw [HX.out.2.2.2.2.1 (by decide)]; decide), if_pos HV.out]
        rfl
      · go_wp2_with fail
        go_roundw
        case rel =>
          obtain ⟨s2, o2, _⟩ := P.out
          exact ⟨3, c2, by omega, by first | rfl | go_num, HX.out.2.2.1.trans s2, o2, HX.out.1.keep s2 (fun h => h), HX.out.2.1.keep s2 (fun h => h), fun _ => HX.out.2.2.2.1 (by decide), fun _ => HX.out.2.2.2.2.1 (by decide), fun _ => HV.out⟩
        case measure => simp [intOf]
    · have P := Lib.hid (And.intro st (And.intro ok (And.intro k1 (And.intro k2 k3))))
      clear st ok ah ar k1 k2 k3
      go_wp2_with fail
      go_ret
      obtain ⟨st, ok, k1, k2, k3⟩ := P.out
      refine ⟨?_, cr, st, ok⟩
      rw [hC.out, if_neg (by rw [k1 (by decide)]; decide), if_neg (by rw [k2 (by decide)]; decide), if_neg (by rw [k3 (by decide)]; decide)]
      rfl
end
end Go.Proofs.YtgcobbapaaihiaaGreat

set_option linter.unusedVariables false
set_option linter.unusedSimpArgs false
namespace Go.Proofs.YtgcobbapaaihiaaGreat
open Go.RowKit

/-- A writer: the struct, of colour k, its row, of colour kb. -/
structure IsWr (c : Col) (k kb : Nat) (w : World) (p : Nat) (lim : Int) (s : List UInt8 × Int) : Prop where
  row : ∃ bv, At c w p k [.int .i64 lim, bv, .int .i64 s.2, .bool true] ∧ Own TByte 5 c kb 0 w bv s.1

theorem IsWr.keep {K : Nat → Prop} {c c' : Col} {k kb : Nat} {w w' : World} {p : Nat} {lim : Int} {s : List UInt8 × Int} (h : IsWr c k kb w p lim s) (hs : Step K c w c' w') (hk : ¬ K k) (hb : ¬ K kb) (h0 : ¬ K 0) : IsWr c' k kb w' p lim s := by
  obtain ⟨bv, a, o⟩ := h.row
  exact ⟨bv, a.keep hs hk, o.keep hs hb h0⟩
theorem IsWr.kn {c c' : Col} {k kb : Nat} {w w' : World} {p : Nat} {lim : Int} {s : List UInt8 × Int} (h : IsWr c k kb w p lim s) (hs : Step No c w c' w') : IsWr c' k kb w' p lim s := h.keep hs (fun h => h) (fun h => h) (fun h => h)

/-- What is put. -/
def putS (lim : Int) (s : List UInt8 × Int) (may : Bool) (x : List UInt8) : List UInt8 × Int :=
  if s.2 ≠ 0 then s else if may = false then (s.1, 3) else if lim < (s.1.length : Int) + x.length then (s.1, 4) else (s.1 ++ x, 0)

section
variable {c : Col} {w : World}

theorem At.set2 {c : Col} {W : World} {b k : Nat} {v0 v1 v2 v3 : Value} (h : At c W b k [v0, v1, v2, v3]) (u : Value) : At c (W.setCell ⟨b, 2, none⟩ u) b k [v0, v1, u, v3] := h.setN (i := 2) (by simp) u
theorem At.set1 {c : Col} {W : World} {b k : Nat} {v0 v1 v2 v3 : Value} (h : At c W b k [v0, v1, v2, v3]) (u : Value) : At c (W.setCell ⟨b, 1, none⟩ u) b k [v0, u, v2, v3] := h.setN (i := 1) (by simp) u

set_option maxRecDepth 100000 in
set_option maxHeartbeats 1600000 in
theorem put_any (hok : Ok c w) {k kb : Nat} {p : Nat} {lim : Int} {s : List UInt8 × Int} (h : IsWr c k kb w p lim s) (hk0 : k ≠ 0) (hb0 : kb ≠ 0) (hkb : kb ≠ k) (hlim : lim ≤ 1048576) (hl0 : (s.1.length : Int) ≤ lim)
    (may : Bool) {v : Value} {ls : List (List UInt8)} (hv : Sl TBs c 0 0 w v ls) (hn0 : 0 < ls.length) (hn : ls.length ≤ 1000) (ht : ls.flatten.length ≤ 1000000000) :
    Calls Tryz.prog 200 #[.pointer (some ⟨p, 0, none⟩), .bool may, v] w fun r w' => r = .returned (.int .i64 (putS lim s may ls.flatten).2) ∧
      ∃ c', IsWr c' k kb w' p lim (putS lim s may ls.flatten) ∧ Step (Two k kb) c w c' w' ∧ Ok c' w' := by
  obtain ⟨bs, e⟩ := s
  obtain ⟨bv, a, ow⟩ := h.row
  obtain ⟨ba, bc, rfl, _⟩ := ow.sl.form
  have y0 := a.get (i := 0) rfl
  have y2 := a.get (i := 2) rfl
  have y3 := a.get (i := 3) rfl
  have C := concat_any hok hv hn0 hn ht 0
  have HA := Lib.hid (And.intro a ow)
  clear h a ow hv
  obtain ⟨fl, hfl⟩ : ∃ fl, ls.flatten = fl := ⟨_, rfl⟩
  rw [hfl] at C ht ⊢
  clear hfl
  have fin : ∀ {c1 w1}, Step No c w c1 w1 → Ok c1 w1 → IsWr c1 k kb w1 p lim (bs, e) := fun hs ho => ⟨_, (HA.out.1).keep hs (fun h => h), (HA.out.2).kn hs⟩
  go_enter Tryz.func200, Tryz.ntmps200
  go_wp2_with fail
  with_reducible refine C.mono ?_
  rintro e1 w1 ⟨v1, rfl, c1, p1, s1, o1⟩
  obtain ⟨va, vc, rfl, _⟩ := p1.sl.form
  have a1 := HA.out.1.keep s1 (fun h => h)
  have ow1 := HA.out.2.kn s1
  have x0 := a1.get (i := 0) rfl
  have x1 := a1.get (i := 1) rfl
  have x2 := a1.get (i := 2) rfl
  have x2f := a1.fz o1 hk0 2
  have x1f := a1.fz o1 hk0 1
  clear C y0 y2 y3
  have T1 := s1.ofNo (K := Two k kb)
  have hk2 : c1 p = k := a1.col
  have D1 : ∀ n u, At c1 ((w1.drewN n).setCell ⟨p, 2, none⟩ u) p k [.int .i64 lim, .slice ba bs.length bc, u, .bool true] := fun n u => (a1.keep (Step.rf.drewN (K := No) n) (fun h => h)).set2 u
  have E1 : ∀ n u, Own TByte 5 c1 kb 0 ((w1.drewN n).setCell ⟨p, 2, none⟩ u) (.slice ba bs.length bc) bs := fun n u => (ow1.kn (Step.rf.drewN n)).set (a := ⟨p, 2, none⟩) (by show c1 p ≠ kb; omega) (by show c1 p ≠ 0; omega) u
  have F1 : ∀ n u, Step (Two k kb) c w c1 ((w1.drewN n).setCell ⟨p, 2, none⟩ u) := fun n u => (T1.drewN n).setCell (.inr (.inl HA.out.1.col)) u
  by_cases he : e = 0
  · subst he
    rcases may with _ | _
    · have P1 := Lib.hid (And.intro D1 (And.intro E1 (And.intro F1 o1)))
      clear a1 ow1 s1 o1 p1 D1 E1 F1 T1 hk2
      go_wp2_with fail
      go_ret
      obtain ⟨D1, E1, F1, o1⟩ := P1.out
      exact ⟨rfl, c1, ⟨_, D1 0 _, E1 0 _⟩, F1 0 _, o1.setCell _ _⟩
    · by_cases hlong : lim < (bs.length : Int) + fl.length
      · have hp : putS lim (bs, 0) true fl = (bs, 4) := by simp [putS, hlong]
        have HP := Lib.hid hp
        have hw : IntKind.i64.wrap ((bs.length : Int) + fl.length) = (bs.length : Int) + fl.length := IntWalk.i64_in _ (by omega)
        have P1 := Lib.hid (And.intro D1 (And.intro E1 (And.intro F1 o1)))
        clear a1 ow1 s1 o1 p1 D1 E1 F1 T1 hk2 hp
        go_wp2_with fail
        go_quiet (fail)
        go_wp2_with fail
        go_ret
        obtain ⟨D1, E1, F1, o1⟩ := P1.out
        rw [HP.out]
        exact ⟨rfl, c1, ⟨_, D1 _ _, E1 _ _⟩, F1 _ _, (o1.drewN _).setCell _ _⟩
      · have hp : putS lim (bs, 0) true fl = (bs ++ fl, 0) := by simp [putS, hlong]
        have HP := Lib.hid hp
        have hw : IntKind.i64.wrap ((bs.length : Int) + fl.length) = (bs.length : Int) + fl.length := IntWalk.i64_in _ (by omega)
        have hn1 : bs.length + fl.length ≤ maxLen := by simp only [maxLen]; omega
        have hn2 : (bs.length + fl.length) * 1 ≤ 140737488355328 := by omega
        have hb1 : 0 ≠ kb := fun e => hb0 e.symm
        have hsl := p1.sl
        have P1 := Lib.hid (And.intro a1 (And.intro T1 hk2))
        clear a1 s1 D1 E1 F1 T1 hk2 hp p1
        go_wp2_with fail
        go_quiet (fail)
        go_wp2_with (at_builtin; refine wpList_app TByte (o1.drewN _) rfl _ _ 26 rfl 5 Tryz.underlying26 infoU8 rfl (by decide) rfl rfl (ow1.kn (Step.rf.drewN _)) (hsl.kn (Step.rf.drewN _)) hb1 hn1 hn2 ?_; rintro v6 w6 c6 b1 b2 b3 -; obtain ⟨va6, vc6, rfl, _⟩ := b1.sl.form; have a6 := (P1.out.1.keep (Step.rf.drewN (K := No) _) (fun h => h)).keep b2 (show ¬ k = kb by omega); have z1 := a6.get (i := 1) rfl; have z2 := a6.get (i := 2) rfl; have z1f := a6.fz b3 hk0 1; rw [show (bs ++ fl).length = bs.length + fl.length by simp] at b1 ⊢; have P6 := Lib.hid (And.intro a6 (And.intro b1 (And.intro b2 b3))); clear a6 b1 b2 b3 ow1 hsl)
        go_ret
        obtain ⟨a6, b1, b2, b3⟩ := P6.out
        obtain ⟨a1, T1, hk2⟩ := P1.out
        rw [HP.out]
        have hc6 : c6 p = k := a6.col
        exact ⟨rfl, c6, ⟨_, a6.set1 _, b1.set (a := ⟨p, 1, none⟩) (by show c6 p ≠ kb; omega) (by show c6 p ≠ 0; omega) _⟩, ((T1.drewN _).trans (b2.mono fun _ h => .inr h)).setCell (.inr (.inl HA.out.1.col)) _, b3.setCell _ _⟩
  · have hp : putS lim (bs, e) may fl = (bs, e) := by simp [putS, he]
    have HP := Lib.hid hp
    have P1 := Lib.hid (And.intro a1 (And.intro ow1 (And.intro T1 o1)))
    have he' : (e == 0) = false := beq_eq_false_iff_ne.2 he
    clear a1 ow1 s1 o1 p1 D1 E1 F1 T1 hk2 hp
    go_wp2_with fail
    go_ret
    obtain ⟨a1, ow1, T1, o1⟩ := P1.out
    rw [HP.out]
    exact ⟨rfl, c1, ⟨_, a1, ow1⟩, T1, o1⟩
end
end Go.Proofs.YtgcobbapaaihiaaGreat

set_option linter.unusedVariables false
set_option linter.unusedSimpArgs false
namespace Go.Proofs.YtgcobbapaaihiaaGreat
open Go.RowKit

section
variable {c : Col} {w : World}

theorem Col.put_fresh (hok : Ok c w) : c.put w.heap.size 0 = c := by
  funext b
  unfold Col.put
  split
  · next h => subst h; exact (hok.fresh _ (Nat.le_refl _)).symm
  · rfl

/-- Rows of cells that read as a list. -/
def Rds {α : Type} (T : Ty α) (c : Col) (k2 : Nat) (w : World) : List (List Value) → List α → Prop
  | [], [] => True
  | v :: vs, x :: xs => T.rd c k2 w v x ∧ Rds T c k2 w vs xs
  | _, _ => False

theorem Rds.get {α : Type} {T : Ty α} {k2 : Nat} : ∀ {vs : List (List Value)} {xs : List α}, Rds T c k2 w vs xs → ∀ (i : Nat) x, xs[i]? = some x → ∃ v, vs[i]? = some v ∧ T.rd c k2 w v x
  | [], [], _, i, x, h => by simp at h
  | [], _ :: _, h, _, _, _ => h.elim
  | _ :: _, [], h, _, _, _ => h.elim
  | v :: vs, y :: ys, h, 0, x, hi => by simp at hi; subst hi; exact ⟨v, rfl, h.1⟩
  | v :: vs, y :: ys, h, i + 1, x, hi => by
    obtain ⟨u, h1, h2⟩ := Rds.get h.2 i x (by simpa using hi)
    exact ⟨u, by simpa using h1, h2⟩

theorem Rds.len {α : Type} {T : Ty α} {k2 : Nat} : ∀ {vs : List (List Value)} {xs : List α}, Rds T c k2 w vs xs → vs.length = xs.length ∧ ∀ v ∈ vs, v.length = T.n
  | [], [], _ => ⟨rfl, by simp⟩
  | [], _ :: _, h => h.elim
  | _ :: _, [], h => h.elim
  | v :: vs, y :: ys, h => by
    obtain ⟨h1, h2⟩ := Rds.len h.2
    exact ⟨by simp [h1], fun u hu => by
      rcases List.mem_cons.1 hu with rfl | hu
      · exact T.len h.1
      · exact h2 u hu⟩

/-- A new row that is built out of parts. -/
theorem put_list {α : Type} {T : Ty α} (hok : Ok c w) (k2 : Nat) {xss : List (List Value)} {l : List α} (hr : Rds T c k2 w xss l) {cs : Array Value} (hcs : xss.flatten.toArray = cs) {n : Nat} (hn : l.length = n) (hm : n ≤ 1000) (e : TypeId) :
    Ok c (w.alloc (.cells cs e)) ∧ Sl T c 0 k2 (w.alloc (.cells cs e)) (.slice (some ⟨w.heap.size, 0, none⟩) n n) l ∧ Step No c w c (w.alloc (.cells cs e)) := by
  subst hcs hn
  obtain ⟨a1, a2, a3⟩ := Own.new T e hok 0 k2 xss l hr.len.1 (by simp [maxLen]; omega) hr.get hr.len.2
  rw [Col.put_fresh hok] at a1 a2 a3
  exact ⟨a2, a1.sl, a3⟩
end
end Go.Proofs.YtgcobbapaaihiaaGreat

set_option linter.unusedVariables false
set_option linter.unusedSimpArgs false
namespace Go.Proofs.YtgcobbapaaihiaaGreat
open Go.RowKit

section
variable {c : Col} {w : World}

theorem newWriter_any (hok : Ok c w) (lim : Int) (h0 : 0 ≤ lim) (h1 : lim ≤ 1048576) (k kb : Nat) :
    Calls Tryz.prog 90 #[.int .i64 lim] w fun r w' => r = .returned (.tuple #[.pointer (some ⟨w.heap.size, 0, none⟩), .int .i64 0]) ∧
      ∃ c', IsWr c' k kb w' w.heap.size lim ([], 0) ∧ Step No c w c' w' ∧ Ok c' w' := by
  obtain ⟨a1, o1, s1⟩ := newAt hok [.int .i64 lim, .slice none 0 0, .int .i64 0, .bool true] 204 k
  have H := Lib.hid (And.intro a1 (And.intro o1 s1))
  clear a1 o1 s1 hok
  go_enter Tryz.func90, Tryz.ntmps90
  go_wp2_with fail
  go_ret2
  obtain ⟨a1, o1, s1⟩ := H.out
  exact ⟨rfl, _, ⟨_, a1, Own.nil _ _ _ _ _ _⟩, s1, o1⟩

theorem putS_le {lim : Int} {s : List UInt8 × Int} (h : (s.1.length : Int) ≤ lim) (may : Bool) (x : List UInt8) : ((putS lim s may x).1.length : Int) ≤ lim := by
  unfold putS
  split
  · exact h
  · split
    · exact h
    · split
      · exact h
      · simp only [List.length_append]; push_cast; omega

/-- A writer that puts one thing that is there already. -/
theorem put1 (hok : Ok c w) {k kb : Nat} {p : Nat} {lim : Int} {s : List UInt8 × Int} (h : IsWr c k kb w p lim s) (hk0 : k ≠ 0) (hb0 : kb ≠ 0) (hkb : kb ≠ k) (hlim : lim ≤ 1048576) (hl0 : (s.1.length : Int) ≤ lim)
    {v : Value} {x : List UInt8} (hv : Sl TByte c 0 0 w v x) (hx : x.length ≤ 1000000000) :
    Calls Tryz.prog 200 #[.pointer (some ⟨p, 0, none⟩), .bool true, .slice (some ⟨w.heap.size, 0, none⟩) 1 1] (w.alloc (.cells #[v] 26)) fun r w' => r = .returned (.int .i64 (putS lim s true x).2) ∧
      ∃ c', IsWr c' k kb w' p lim (putS lim s true x) ∧ Step (Two k kb) c w c' w' ∧ Ok c' w' := by
  obtain ⟨x1, x2, x3⟩ := put_one (T := TBs) (x := x) (vs := [v]) (k2 := 0) hok ⟨v, rfl, hv⟩ 26
  refine (put_any x1 (h.kn x3) hk0 hb0 hkb hlim hl0 true x2 (by simp) (by simp) (by simpa using hx)).mono ?_
  rintro e w' ⟨rfl, c', i, s', o⟩
  rw [show [x].flatten = x by simp] at i ⊢
  exact ⟨rfl, c', i, x3.ofNo.trans s', o⟩

theorem numB_len (n : Nat) : (numB n).length ≤ 9 := by
  have := minF_len 8 n
  simp [numB, minB]; omega

set_option maxRecDepth 100000 in
theorem num_any (hok : Ok c w) {k kb : Nat} {p : Nat} {lim : Int} {s : List UInt8 × Int} (h : IsWr c k kb w p lim s) (hk0 : k ≠ 0) (hb0 : kb ≠ 0) (hkb : kb ≠ k) (hlim : lim ≤ 1048576) (hl0 : (s.1.length : Int) ≤ lim)
    (n : Nat) (hn : n < 9223372036854775808) :
    Calls Tryz.prog 189 #[.pointer (some ⟨p, 0, none⟩), .int .i64 n] w fun r w' => r = .returned (.int .i64 (putS lim s true (numB n)).2) ∧
      ∃ c', IsWr c' k kb w' p lim (putS lim s true (numB n)) ∧ Step (Two k kb) c w c' w' ∧ Ok c' w' := by
  have N := number_any hok n hn 0
  have hm0 : (0 : Int) ≤ (n : Int) := by omega
  have hmx : max (n : Int) 0 = (n : Int) := by omega
  have H := Lib.hid h
  clear h
  go_enter Tryz.func189, Tryz.ntmps189
  go_wp2_with fail
  with_reducible refine N.mono ?_
  rintro e w1 ⟨v1, rfl, c1, p1, s1, o1⟩
  obtain ⟨va, vc, rfl, _⟩ := p1.form
  have P := put1 o1 (H.out.kn s1) hk0 hb0 hkb hlim hl0 p1 (Nat.le_trans (numB_len n) (by omega))
  obtain ⟨nl, hnl⟩ : ∃ nl, (numB n).length = nl := ⟨_, rfl⟩
  rw [hnl] at P ⊢
  have S := Lib.hid s1
  clear N p1 s1 o1 hnl
  go_wp2_with fail
  with_reducible refine P.mono ?_
  rintro e w2 ⟨rfl, c2, i2, s2, o2⟩
  have P2 := Lib.hid (And.intro i2 (And.intro s2 o2))
  clear P i2 s2 o2
  go_wp2_with fail
  go_ret
  obtain ⟨i2, s2, o2⟩ := P2.out
  exact ⟨rfl, c2, i2, S.out.ofNo.trans s2, o2⟩

set_option maxRecDepth 100000 in
theorem bytes_any (hok : Ok c w) {k kb : Nat} {p : Nat} {lim : Int} {s : List UInt8 × Int} (h : IsWr c k kb w p lim s) (hk0 : k ≠ 0) (hb0 : kb ≠ 0) (hkb : kb ≠ k) (hlim : lim ≤ 1048576) (hl0 : (s.1.length : Int) ≤ lim)
    {v : Value} {x : List UInt8} (hv : Sl TByte c 0 0 w v x) (hx : x.length ≤ 100000000) :
    Calls Tryz.prog 213 #[.pointer (some ⟨p, 0, none⟩), v] w fun r w' => r = .returned (.int .i64 (putS lim s true (numB x.length ++ x)).2) ∧
      ∃ c', IsWr c' k kb w' p lim (putS lim s true (numB x.length ++ x)) ∧ Step (Two k kb) c w c' w' ∧ Ok c' w' := by
  have N := number_any hok x.length (by omega) 0
  obtain ⟨va, vc, rfl, _⟩ := hv.form
  have H := Lib.hid (And.intro h hv)
  clear h hv
  go_enter Tryz.func213, Tryz.ntmps213
  go_wp2_with fail
  with_reducible refine N.mono ?_
  rintro e w1 ⟨v1, rfl, c1, p1, s1, o1⟩
  obtain ⟨va1, vc1, rfl, _⟩ := p1.form
  have h1 := H.out.1.kn s1
  have hv1 := H.out.2.kn s1
  have hln := numB_len x.length
  obtain ⟨nb, hnb⟩ : ∃ nb, numB x.length = nb := ⟨_, rfl⟩
  rw [hnb] at p1 hln
  obtain ⟨x1, x2, x3⟩ := put_list (T := TBs) o1 0 (xss := [[.slice va1 nb.length vc1], [.slice va x.length vc]]) (l := [nb, x]) ⟨⟨_, rfl, by rw [hnb] at *; exact p1⟩, ⟨_, rfl, hv1⟩, trivial⟩ (cs := #[.slice va1 nb.length vc1, .slice va x.length vc]) rfl (n := 2) rfl (by omega) 26
  have P := put_any x1 (h1.kn x3) hk0 hb0 hkb hlim hl0 true x2 (by simp) (by simp) (by simp; omega)
  rw [show [nb, x].flatten = nb ++ x by simp] at P
  have sx := s1.trans x3
  obtain ⟨nl, hnl⟩ : ∃ nl, nb.length = nl := ⟨_, rfl⟩
  rw [hnl] at P sx
  have S := Lib.hid (And.intro sx hnb)
  rw [hnb, hnl]
  clear N p1 s1 o1 h1 hv1 x1 x2 x3 hnb hnl hln sx
  go_wp2_with fail
  with_reducible refine P.mono ?_
  rintro e w2 ⟨rfl, c2, i2, s2, o2⟩
  have P2 := Lib.hid (And.intro i2 (And.intro s2 o2))
  clear P i2 s2 o2
  go_wp2_with fail
  go_ret
  obtain ⟨i2, s2, o2⟩ := P2.out
  obtain ⟨sx, hnb⟩ := S.out
  rw [hnb]
  exact ⟨rfl, c2, i2, sx.ofNo.trans s2, o2⟩

/-- []byte(s). -/
theorem conv_any (hok : Ok c w) (l : List UInt8) (hl : l.length ≤ 100000000) (e : TypeId) (k2 : Nat) :
    Sl TByte c 0 k2 (Go.Lib.bytesWorld w e ⟨l.toArray⟩) (.slice (some ⟨w.heap.size, 0, none⟩) l.length (grownCap w l.length 0 e)) l ∧ Step No c w c (Go.Lib.bytesWorld w e ⟨l.toArray⟩) ∧ Ok c (Go.Lib.bytesWorld w e ⟨l.toArray⟩) := by
  have hsz : (Go.Lib.bytesWorld w e ⟨l.toArray⟩).heap.size = w.heap.size + 1 := Go.Lib.bytesWorld_size _ _ _
  have hst : Step No c w c (Go.Lib.bytesWorld w e ⟨l.toArray⟩) := ⟨rfl, rfl, rfl, by omega, fun b hb _ => Go.Lib.bytesWorld_at_old w e _ b hb, fun _ _ _ => rfl⟩
  refine ⟨.inr ⟨w.heap.size, 0, _, rfl, grownCap_ge .., grownCap_le_maxLen _ _ _ _ (by simp only [maxLen]; omega), hok.fresh _ (Nat.le_refl _), by omega, fun i x hi => ⟨_, rfl, ?_⟩⟩, hst, ⟨fun b hb => hok.fresh b (by omega), fun b o hc => ?_⟩⟩
  · intro i' u hu
    have hi0 : i' = 0 := by have := (List.getElem?_eq_some_iff.1 hu).1; simp at this; omega
    subst hi0
    simp at hu
    subst hu
    have hil := (List.getElem?_eq_some_iff.1 hi).1
    have := Go.Lib.bytesWorld_cell w e ⟨l.toArray⟩ i (by show i < l.toArray.size; simpa using hil)
    rw [show (0 + i * TByte.n + 0) = i by simp [TByte]]
    rw [this]
    simp [List.getD, hi]
  · have hb : b < w.heap.size := hok.lt hc
    rw [← hok.soft b o hc]
    exact World.frozen?_of_block (w := w) (a := ⟨b, o, none⟩) (Go.Lib.bytesWorld_at_old w e _ b hb)

theorem text_any (hok : Ok c w) {k kb : Nat} {p : Nat} {lim : Int} {s : List UInt8 × Int} (h : IsWr c k kb w p lim s) (hk0 : k ≠ 0) (hb0 : kb ≠ 0) (hkb : kb ≠ k) (hlim : lim ≤ 1048576) (hl0 : (s.1.length : Int) ≤ lim)
    (x : List UInt8) (hx : x.length ≤ 100000000) :
    Calls Tryz.prog 207 #[.pointer (some ⟨p, 0, none⟩), .string ⟨x.toArray⟩] w fun r w' => r = .returned (.int .i64 (putS lim s true (numB x.length ++ x)).2) ∧
      ∃ c', IsWr c' k kb w' p lim (putS lim s true (numB x.length ++ x)) ∧ Step (Two k kb) c w c' w' ∧ Ok c' w' := by
  obtain ⟨x1, x2, x3⟩ := conv_any hok x hx 5 0
  have P := bytes_any x3 (h.kn x2) hk0 hb0 hkb hlim hl0 x1 hx
  have hr := Go.Lib.run_convert_string_bytes (P := Tryz.prog) w 9 26 5 ⟨x.toArray⟩ Tryz.underlying9 Tryz.underlying26 Tryz.underlying5
  have hsz : (⟨x.toArray⟩ : ByteArray).size = x.length := by simp [ByteArray.size]
  rw [hsz] at hr
  have S := Lib.hid x2
  clear x1 x2 x3 h hok hsz
  go_enter Tryz.func207, Tryz.ntmps207
  go_wp2_with fail
  with_reducible refine P.mono ?_
  rintro e w2 ⟨rfl, c2, i2, s2, o2⟩
  have P2 := Lib.hid (And.intro i2 (And.intro s2 o2))
  clear P i2 s2 o2
  go_wp2_with fail
  go_ret
  obtain ⟨i2, s2, o2⟩ := P2.out
  exact ⟨rfl, c2, i2, S.out.ofNo.trans s2, o2⟩
end
end Go.Proofs.YtgcobbapaaihiaaGreat
