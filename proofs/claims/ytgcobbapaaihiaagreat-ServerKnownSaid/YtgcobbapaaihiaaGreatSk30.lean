/- ServerKnown, part 30: lemmas, each with its own conditions. -/
import Derived.Test.YtgcobbapaaihiaaGreatSk02
import Derived.Test.YtgcobbapaaihiaaGreatSk20
import Derived.Test.YtgcobbapaaihiaaGreatSk29
set_option linter.unusedVariables false
set_option linter.unusedSimpArgs false
namespace Go.Proofs.YtgcobbapaaihiaaGreat
open Go.RowKit

/-- Which fault a mood's answer has. -/
def faultS (m : Int) : Int := if m = 4 then 1 else if m = 5 then 3 else if m = 6 then 4 else if m = 7 then 5 else if m = 9 then 2 else 0

theorem index10 (a0 a1 a2 a3 a4 a5 a6 a7 a8 a9 : Int) (i : Nat) (hi : i < 10) (W : World) :
    (Instr.index 86 (.agg #[.int .i64 a0, .int .i64 a1, .int .i64 a2, .int .i64 a3, .int .i64 a4, .int .i64 a5, .int .i64 a6, .int .i64 a7, .int .i64 a8, .int .i64 a9]) (.int .i64 i)).run Tryz.prog W = .ok (#[.int .i64 a0, .int .i64 a1, .int .i64 a2, .int .i64 a3, .int .i64 a4, .int .i64 a5, .int .i64 a6, .int .i64 a7, .int .i64 a8, .int .i64 a9].getD i undef) W := by
  have hs : (sizeOf 3).run Tryz.prog W = .ok 1 W := by
    cases hq : Tryz.prog.info? 3 with
    | none => have := intI; rw [hq] at this; cases this
    | some i =>
      have : i.size = 1 := by have := intI; rw [hq] at this; simpa using this
      simp [sizeOf, typeInfo, hq, this]
  have hu := run_underlying Tryz.underlying86 W
  have hu2 := run_underlying Tryz.underlying3 W
  rcases (by omega : i = 0 ∨ i = 1 ∨ i = 2 ∨ i = 3 ∨ i = 4 ∨ i = 5 ∨ i = 6 ∨ i = 7 ∨ i = 8 ∨ i = 9) with rfl | rfl | rfl | rfl | rfl | rfl | rfl | rfl | rfl | rfl <;> simp [Instr.index, asIntOf, hu, hu2, part, isAgg, hs, Value.cells]

set_option maxRecDepth 100000 in
theorem sfault_any (m : Int) (w : World) :
    Calls Tryz.prog 17 #[.int .i64 m] w fun r w' => r = .returned (.int .i64 (faultS m)) ∧ w' = w := by
  by_cases h0 : m ≤ 0
  · have hf : faultS m = 0 := by unfold faultS; rw [if_neg, if_neg, if_neg, if_neg, if_neg] <;> omega
    rw [hf]
    clear hf
    go_enter Tryz.func17, Tryz.ntmps17
    go_wp2_with fail
    go_ret
    exact ⟨rfl, rfl⟩
  · by_cases h10 : 10 ≤ m
    · have hf : faultS m = 0 := by unfold faultS; rw [if_neg, if_neg, if_neg, if_neg, if_neg] <;> omega
      rw [hf]
      clear hf
      go_enter Tryz.func17, Tryz.ntmps17
      go_wp2_with fail
      go_ret
      exact ⟨rfl, rfl⟩
    · rcases (by omega : m = 1 ∨ m = 2 ∨ m = 3 ∨ m = 4 ∨ m = 5 ∨ m = 6 ∨ m = 7 ∨ m = 8 ∨ m = 9) with rfl | rfl | rfl | rfl | rfl | rfl | rfl | rfl | rfl
      · have hx : ∀ (a0 a1 a2 a3 a4 a5 a6 a7 a8 a9 : Int) (W : World), (Instr.index 86 (.agg #[.int .i64 a0, .int .i64 a1, .int .i64 a2, .int .i64 a3, .int .i64 a4, .int .i64 a5, .int .i64 a6, .int .i64 a7, .int .i64 a8, .int .i64 a9]) (.int .i64 1)).run Tryz.prog W = .ok (.int .i64 a1) W := fun a0 a1 a2 a3 a4 a5 a6 a7 a8 a9 W => index10 a0 a1 a2 a3 a4 a5 a6 a7 a8 a9 1 (by omega) W
        go_enter Tryz.func17, Tryz.ntmps17
        go_wp2_with fail
        go_ret
        exact ⟨rfl, rfl⟩
      · have hx : ∀ (a0 a1 a2 a3 a4 a5 a6 a7 a8 a9 : Int) (W : World), (Instr.index 86 (.agg #[.int .i64 a0, .int .i64 a1, .int .i64 a2, .int .i64 a3, .int .i64 a4, .int .i64 a5, .int .i64 a6, .int .i64 a7, .int .i64 a8, .int .i64 a9]) (.int .i64 2)).run Tryz.prog W = .ok (.int .i64 a2) W := fun a0 a1 a2 a3 a4 a5 a6 a7 a8 a9 W => index10 a0 a1 a2 a3 a4 a5 a6 a7 a8 a9 2 (by omega) W
        go_enter Tryz.func17, Tryz.ntmps17
        go_wp2_with fail
        go_ret
        exact ⟨rfl, rfl⟩
      · have hx : ∀ (a0 a1 a2 a3 a4 a5 a6 a7 a8 a9 : Int) (W : World), (Instr.index 86 (.agg #[.int .i64 a0, .int .i64 a1, .int .i64 a2, .int .i64 a3, .int .i64 a4, .int .i64 a5, .int .i64 a6, .int .i64 a7, .int .i64 a8, .int .i64 a9]) (.int .i64 3)).run Tryz.prog W = .ok (.int .i64 a3) W := fun a0 a1 a2 a3 a4 a5 a6 a7 a8 a9 W => index10 a0 a1 a2 a3 a4 a5 a6 a7 a8 a9 3 (by omega) W
        go_enter Tryz.func17, Tryz.ntmps17
        go_wp2_with fail
        go_ret
        exact ⟨rfl, rfl⟩
      · have hx : ∀ (a0 a1 a2 a3 a4 a5 a6 a7 a8 a9 : Int) (W : World), (Instr.index 86 (.agg #[.int .i64 a0, .int .i64 a1, .int .i64 a2, .int .i64 a3, .int .i64 a4, .int .i64 a5, .int .i64 a6, .int .i64 a7, .int .i64 a8, .int .i64 a9]) (.int .i64 4)).run Tryz.prog W = .ok (.int .i64 a4) W := fun a0 a1 a2 a3 a4 a5 a6 a7 a8 a9 W => index10 a0 a1 a2 a3 a4 a5 a6 a7 a8 a9 4 (by omega) W
        go_enter Tryz.func17, Tryz.ntmps17
        go_wp2_with fail
        go_ret
        exact ⟨rfl, rfl⟩
      · have hx : ∀ (a0 a1 a2 a3 a4 a5 a6 a7 a8 a9 : Int) (W : World), (Instr.index 86 (.agg #[.int .i64 a0, .int .i64 a1, .int .i64 a2, .int .i64 a3, .int .i64 a4, .int .i64 a5, .int .i64 a6, .int .i64 a7, .int .i64 a8, .int .i64 a9]) (.int .i64 5)).run Tryz.prog W = .ok (.int .i64 a5) W := fun a0 a1 a2 a3 a4 a5 a6 a7 a8 a9 W => index10 a0 a1 a2 a3 a4 a5 a6 a7 a8 a9 5 (by omega) W
        go_enter Tryz.func17, Tryz.ntmps17
        go_wp2_with fail
        go_ret
        exact ⟨rfl, rfl⟩
      · have hx : ∀ (a0 a1 a2 a3 a4 a5 a6 a7 a8 a9 : Int) (W : World), (Instr.index 86 (.agg #[.int .i64 a0, .int .i64 a1, .int .i64 a2, .int .i64 a3, .int .i64 a4, .int .i64 a5, .int .i64 a6, .int .i64 a7, .int .i64 a8, .int .i64 a9]) (.int .i64 6)).run Tryz.prog W = .ok (.int .i64 a6) W := fun a0 a1 a2 a3 a4 a5 a6 a7 a8 a9 W => index10 a0 a1 a2 a3 a4 a5 a6 a7 a8 a9 6 (by omega) W
        go_enter Tryz.func17, Tryz.ntmps17
        go_wp2_with fail
        go_ret
        exact ⟨rfl, rfl⟩
      · have hx : ∀ (a0 a1 a2 a3 a4 a5 a6 a7 a8 a9 : Int) (W : World), (Instr.index 86 (.agg #[.int .i64 a0, .int .i64 a1, .int .i64 a2, .int .i64 a3, .int .i64 a4, .int .i64 a5, .int .i64 a6, .int .i64 a7, .int .i64 a8, .int .i64 a9]) (.int .i64 7)).run Tryz.prog W = .ok (.int .i64 a7) W := fun a0 a1 a2 a3 a4 a5 a6 a7 a8 a9 W => index10 a0 a1 a2 a3 a4 a5 a6 a7 a8 a9 7 (by omega) W
        go_enter Tryz.func17, Tryz.ntmps17
        go_wp2_with fail
        go_ret
        exact ⟨rfl, rfl⟩
      · have hx : ∀ (a0 a1 a2 a3 a4 a5 a6 a7 a8 a9 : Int) (W : World), (Instr.index 86 (.agg #[.int .i64 a0, .int .i64 a1, .int .i64 a2, .int .i64 a3, .int .i64 a4, .int .i64 a5, .int .i64 a6, .int .i64 a7, .int .i64 a8, .int .i64 a9]) (.int .i64 8)).run Tryz.prog W = .ok (.int .i64 a8) W := fun a0 a1 a2 a3 a4 a5 a6 a7 a8 a9 W => index10 a0 a1 a2 a3 a4 a5 a6 a7 a8 a9 8 (by omega) W
        go_enter Tryz.func17, Tryz.ntmps17
        go_wp2_with fail
        go_ret
        exact ⟨rfl, rfl⟩
      · have hx : ∀ (a0 a1 a2 a3 a4 a5 a6 a7 a8 a9 : Int) (W : World), (Instr.index 86 (.agg #[.int .i64 a0, .int .i64 a1, .int .i64 a2, .int .i64 a3, .int .i64 a4, .int .i64 a5, .int .i64 a6, .int .i64 a7, .int .i64 a8, .int .i64 a9]) (.int .i64 9)).run Tryz.prog W = .ok (.int .i64 a9) W := fun a0 a1 a2 a3 a4 a5 a6 a7 a8 a9 W => index10 a0 a1 a2 a3 a4 a5 a6 a7 a8 a9 9 (by omega) W
        go_enter Tryz.func17, Tryz.ntmps17
        go_wp2_with fail
        go_ret
        exact ⟨rfl, rfl⟩
end Go.Proofs.YtgcobbapaaihiaaGreat

set_option linter.unusedVariables false
set_option linter.unusedSimpArgs false
namespace Go.Proofs.YtgcobbapaaihiaaGreat
open Go.RowKit
attribute [local go_sem] Oper.semAt_some

def errA (x : Int) (c : Col) (W : World) (ar : Array Value) : Prop := ar = #[.int .i64 x]

set_option maxRecDepth 100000 in
set_option maxHeartbeats 1600000 in
theorem errors_iter {c : Col} {w : World} {K : Nat → Prop} {B1 bx g k : Nat} {b : Blo} {vc vv : Value} (h1 : At c w B1 0 [.slice (some ⟨g, 0, none⟩) 3 3]) (hg : At c w g 0 (partsF bx)) (hx : At c w bx 0 (bloC b vc vv)) (hb : b.At c k w vc vv) (hK : ¬ K k) (h0 : ¬ K 0) :
    Iter Tryz.prog 248 #[.pointer (some ⟨B1, 0, none⟩)] K c w errA (partsE b) := by
  intro lb J Jx c0 W0 hst hok hJ hJx hY hJ0
  have g1 := h1.keep hst h0
  have y1 := g1.c0
  refine callsIn_of_wp Tryz.func248 rfl trivial ?_
  simp only [Tryz.ntmps248, List.size_toArray, List.length_cons, List.length_nil, Nat.reduceAdd, Nat.reduceSub, Array.replicate_succ, Array.replicate_zero, List.push_toArray, List.append_toArray, List.nil_append, List.cons_append]
  gi_wp2
  gi_loopw [7] (fun i wr => ∃ (j : Nat) (cr : Col), j ≤ 3 ∧ i = .int .i64 j ∧ Step K c0 W0 cr wr ∧ Ok cr wr ∧ J ((partsE b).take j) cr wr) (fun i _ => 3 - (intOf i).toNat)
  case atStart => exact ⟨0, c0, Nat.zero_le _, rfl, Step.refl, hok, by simpa using hJ0⟩
  case round =>
    obtain ⟨j, cr, hj, rfl, s1, o1, j1⟩ := hrel
    have gr := hg.keep (hst.trans s1) h0
    have xr := hx.keep (hst.trans s1) h0
    have br := hb.keep (hst.trans s1) hK
    rcases (by omega : j = 0 ∨ j = 1 ∨ j = 2 ∨ j = 3) with rfl | rfl | rfl | rfl
    · have C := parts1_any o1 br xr
      have z := gr.get (i := 0) rfl
      have j1' : J [] cr wr := j1
      have XX := Lib.hid (And.intro j1' (And.intro s1 o1))
      clear j1 j1' s1 o1 gr xr br
      gi_wp2
      refine ⟨trivial, rfl, (callsIn_wide (n := 0)).2 (C.mono ?_)⟩
      rintro e w2 ⟨rfl, c2, s2, o2⟩
      have hpre : ([] ++ [checkH b.h]) <+: partsE b := ⟨[checkV b.vals, checkC b.cm], rfl⟩
      have YA := hY [] (checkH b.h) c2 w2 #[.int .i64 (checkH b.h)] hpre (hJ _ _ _ _ _ XX.out.1 s2 o2) o2 ((hst.trans XX.out.2.1).trans s2.ofNo) rfl
      have X2 := Lib.hid ((XX.out.2.1).trans s2.ofNo)
      have HP := Lib.hid hpre
      obtain ⟨ev, hev⟩ : ∃ e, checkH b.h = e := ⟨_, rfl⟩
      rw [hev] at YA ⊢
      have HE := Lib.hid hev
      clear C s2 o2 XX hpre hev
      obtain ⟨fn, tmps, assign, body, hy, hR⟩ := YA
      gi_wp2
      refine ⟨rfl, hR.mono ?_⟩
      rintro e W3 ⟨c3, o3, s3, (⟨rfl, hJ3⟩ | ⟨rfl, hJx3⟩)⟩
      · gi_wp2
        go_roundw
        case rel => exact ⟨1, c3, by omega, by first | rfl | go_num, X2.out.trans s3, o3, by rw [← HE.out] at hJ3; exact hJ3⟩
        case measure => simp [intOf]
      · gi_wp2
        refine bodyPost_ret (results_none rfl _ _ _) rfl ?_
        exact ⟨⟨_, rfl⟩, c3, o3, X2.out.trans s3, .inr ⟨_, HP.out, by rw [HE.out]; exact hJx3⟩⟩
    · have C := parts2_any o1 br xr
      have z := gr.get (i := 1) rfl
      have j1' : J [checkH b.h] cr wr := j1
      have XX := Lib.hid (And.intro j1' (And.intro s1 o1))
      clear j1 j1' s1 o1 gr xr br
      gi_wp2
      refine ⟨trivial, rfl, (callsIn_wide (n := 0)).2 (C.mono ?_)⟩
      rintro e w2 ⟨rfl, c2, s2, o2⟩
      have hpre : ([checkH b.h] ++ [checkV b.vals]) <+: partsE b := ⟨[checkC b.cm], rfl⟩
      have YA := hY [checkH b.h] (checkV b.vals) c2 w2 #[.int .i64 (checkV b.vals)] hpre (hJ _ _ _ _ _ XX.out.1 s2 o2) o2 ((hst.trans XX.out.2.1).trans s2.ofNo) rfl
      have X2 := Lib.hid ((XX.out.2.1).trans s2.ofNo)
      have HP := Lib.hid hpre
      obtain ⟨ev, hev⟩ : ∃ e, checkV b.vals = e := ⟨_, rfl⟩
      rw [hev] at YA ⊢
      have HE := Lib.hid hev
      clear C s2 o2 XX hpre hev
      obtain ⟨fn, tmps, assign, body, hy, hR⟩ := YA
      gi_wp2
      refine ⟨rfl, hR.mono ?_⟩
      rintro e W3 ⟨c3, o3, s3, (⟨rfl, hJ3⟩ | ⟨rfl, hJx3⟩)⟩
      · gi_wp2
        go_roundw
        case rel => exact ⟨2, c3, by omega, by first | rfl | go_num, X2.out.trans s3, o3, by rw [← HE.out] at hJ3; exact hJ3⟩
        case measure => simp [intOf]
      · gi_wp2
        refine bodyPost_ret (results_none rfl _ _ _) rfl ?_
        exact ⟨⟨_, rfl⟩, c3, o3, X2.out.trans s3, .inr ⟨_, HP.out, by rw [HE.out]; exact hJx3⟩⟩
    · have C := parts3_any o1 br xr
      have z := gr.get (i := 2) rfl
      have j1' : J [checkH b.h, checkV b.vals] cr wr := j1
      have XX := Lib.hid (And.intro j1' (And.intro s1 o1))
      clear j1 j1' s1 o1 gr xr br
      gi_wp2
      refine ⟨trivial, rfl, (callsIn_wide (n := 0)).2 (C.mono ?_)⟩
      rintro e w2 ⟨rfl, c2, s2, o2⟩
      have hpre : ([checkH b.h, checkV b.vals] ++ [checkC b.cm]) <+: partsE b := ⟨[], rfl⟩
      have YA := hY [checkH b.h, checkV b.vals] (checkC b.cm) c2 w2 #[.int .i64 (checkC b.cm)] hpre (hJ _ _ _ _ _ XX.out.1 s2 o2) o2 ((hst.trans XX.out.2.1).trans s2.ofNo) rfl
      have X2 := Lib.hid ((XX.out.2.1).trans s2.ofNo)
      have HP := Lib.hid hpre
      obtain ⟨ev, hev⟩ : ∃ e, checkC b.cm = e := ⟨_, rfl⟩
      rw [hev] at YA ⊢
      have HE := Lib.hid hev
      clear C s2 o2 XX hpre hev
      obtain ⟨fn, tmps, assign, body, hy, hR⟩ := YA
      gi_wp2
      refine ⟨rfl, hR.mono ?_⟩
      rintro e W3 ⟨c3, o3, s3, (⟨rfl, hJ3⟩ | ⟨rfl, hJx3⟩)⟩
      · gi_wp2
        go_roundw
        case rel => exact ⟨3, c3, by omega, by first | rfl | go_num, X2.out.trans s3, o3, by rw [← HE.out] at hJ3; exact hJ3⟩
        case measure => simp [intOf]
      · gi_wp2
        refine bodyPost_ret (results_none rfl _ _ _) rfl ?_
        exact ⟨⟨_, rfl⟩, c3, o3, X2.out.trans s3, .inr ⟨_, HP.out, by rw [HE.out]; exact hJx3⟩⟩
    · have X2 := Lib.hid (And.intro s1 (And.intro o1 j1))
      clear s1 o1 j1 gr xr br
      gi_wp2
      go_end0
      exact ⟨⟨_, rfl⟩, cr, X2.out.2.1, X2.out.1, .inl X2.out.2.2⟩
end Go.Proofs.YtgcobbapaaihiaaGreat

set_option linter.unusedVariables false
set_option linter.unusedSimpArgs false
namespace Go.Proofs.YtgcobbapaaihiaaGreat
open Go.RowKit Go.Shelf
attribute [local go_sem] Oper.semAt_some

theorem firstE_app : ∀ {l m : List Int}, (∀ e ∈ l, e = 0) → firstE (l ++ m) = firstE m
  | [], _, _ => rfl
  | e :: r, m, h => by
    rw [List.cons_append, firstE, if_neg (by simp [h e (by simp)])]
    exact firstE_app fun x hx => h x (by simp [hx])

section
variable {c : Col} {w : World}

theorem errors_any (hok : Ok c w) {v : Value} (hv : v.oneCell' = true) :
    Calls Tryz.prog 245 #[v] w fun r w' => ∃ B1, r = .returned (.func (.func 248) #[] #[.pointer (some ⟨B1, 0, none⟩)]) ∧ At c w' B1 0 [v] ∧ Step No c w c w' ∧ Ok c w' := by
  have a0 := At.new0 hok [v] 314
  have o0 := hok.alloc (.cells [v].toArray 314)
  have s0 : Step No c w c (w.alloc (.cells [v].toArray 314)) := Step.refl.alloc _
  have X := Lib.hid (And.intro a0 (And.intro s0 o0))
  have hmf : ∀ (fn : Fn) (first cap : Array Value) (w : World), (Instr.makeFunc fn first cap).run Tryz.prog w = .ok (.func fn first cap) w := fun _ _ _ _ => rfl
  clear a0 o0 s0 hok
  cases v <;> simp [Value.oneCell'] at hv
  all_goals
    go_enter Tryz.func245, Tryz.ntmps245
    go_wp2
    go_ret
    exact ⟨_, rfl, X.out⟩

set_option maxRecDepth 100000 in
set_option maxHeartbeats 1600000 in
theorem first_any (hok : Ok c w) {B1 bx g k : Nat} {b : Blo} {vc vv : Value} (h1 : At c w B1 0 [.slice (some ⟨g, 0, none⟩) 3 3]) (hg : At c w g 0 (partsF bx)) (hx : At c w bx 0 (bloC b vc vv)) (hb : b.At c k w vc vv) :
    Calls Tryz.prog 244 #[.func (.func 248) #[] #[.pointer (some ⟨B1, 0, none⟩)]] w fun r w' => r = .returned (.int .i64 (firstE (partsE b))) ∧ ∃ c', Step No c w c' w' ∧ Ok c' w' := by
  obtain ⟨kn, hkn, hknc⟩ := hok.spare k
  obtain ⟨kl, hkl, hklc⟩ := hok.spare kn
  obtain ⟨a1, o1, s1⟩ := newAt hok [.int .i64 0] 34 kn
  refine calls_of_wp_marks Tryz.func244 rfl ?_
  simp only [Tryz.ntmps244, List.size_toArray, List.length_cons, List.length_nil, Nat.reduceAdd, Nat.reduceSub, Array.replicate_succ, Array.replicate_zero, List.push_toArray, List.append_toArray, List.nil_append, List.cons_append]
  have hkl0 : ∀ b, (Col.put c w.heap.size kn) b ≠ kl := by
    intro b; unfold Col.put; split
    · omega
    · exact hklc b
  obtain ⟨W, hW⟩ : ∃ W, w.alloc (.cells #[.int .i64 0] 34) = W := ⟨_, rfl⟩
  obtain ⟨rb, hrb⟩ : ∃ b, w.heap.size = b := ⟨_, rfl⟩
  obtain ⟨c1, hc1⟩ : ∃ c1, c.put w.heap.size kn = c1 := ⟨_, rfl⟩
  have a1' : At c1 W rb kn [.int .i64 0] := by rw [← hW, ← hc1, ← hrb]; exact a1
  have o1' : Ok c1 W := by rw [← hW, ← hc1]; exact o1
  have s1' : Step No c w c1 W := by rw [← hW, ← hc1]; exact s1
  rw [hc1] at hkl0
  have hI := errors_iter (K := And1 (One kn) kl) (h1.keep s1' (fun h => h)) (hg.keep s1' (fun h => h)) (hx.keep s1' (fun h => h)) (hb.kn s1') (by rintro (h | h) <;> first | (have : k = kn := h; omega) | omega) (by rintro (h | h) <;> first | (have : 0 = kn := h; omega) | omega)
  have H := Lib.hid (And.intro a1' (And.intro o1' (And.intro s1' hI)))
  clear a1 o1 s1 a1' o1' s1' hI h1 hg hx hb hc1
  go_wp2_with fail
  (try rw [hW])
  (try rw [hrb])
  obtain ⟨a1, o1, s1, hI⟩ := H.out
  clear hW hrb
  refine wp_range o1 rfl (enters_of Tryz.func248 (by kernel_rfl) rfl) (K := One kn) kl hkl0 (by omega) (by show ¬ kl = kn; omega) hI ?_
    (fun pre c1 W1 => At c1 W1 rb kn [.int .i64 0] ∧ ∀ e ∈ pre, e = 0) (fun j pre c1 W1 => j = .ret ∧ ∃ e : Int, At c1 W1 rb kn [.int .i64 e] ∧ firstE (partsE b) = e)
    (fun pre x a1 c1 W1 => At c1 W1 rb kn [.int .i64 0] ∧ (∀ e ∈ pre, e = 0) ∧ (pre ++ [x]) <+: partsE b ∧
      a1 = { tmps := #[.func (.func 248) #[] #[.pointer (some ⟨B1, 0, none⟩)], undef, .pointer (some ⟨rb, 0, none⟩), .int .i64 x, .func (.func 248) #[] #[.pointer (some ⟨B1, 0, none⟩)], .int .i64 x, undef, undef, undef], defers := [] })
    ?_ ?_ ?_ ?_ ?assign ?body ?done ?stop
  · rintro x c1 W1 _ rfl; rfl
  · rintro pre c1 W1 c2 W2 ⟨h1, h2⟩ hs _
    exact ⟨h1.keep hs (by show ¬ kn = kl; omega), h2⟩
  · rintro j pre c1 W1 c2 W2 ⟨h0, e, h1, h2⟩ hs _
    exact ⟨h0, e, h1.keep hs (by show ¬ kn = kl; omega), h2⟩
  · rintro pre x a1 c1 W1 c2 W2 ⟨h1, h2, h3⟩ hs _
    exact ⟨h1.keep hs (by show ¬ kn = kl; omega), h2, h3⟩
  · exact ⟨a1, by simp⟩
  case assign =>
    rintro lp pre x c1 W1 _ hpre ⟨h1, h2⟩ ho hs rfl KK hK
    simp only []
    gi_wp2
    exact hK _ _ _ ho Step.refl ⟨h1, h2, hpre, rfl⟩
  case body =>
    rintro lp pre x a1 c2 W2 ⟨h1, h2, hpre, rfl⟩ ho
    have y0 := h1.c0
    have yf := h1.fz ho (by omega) 0
    by_cases hx0 : x = 0
    · have X := Lib.hid (And.intro h1 h2)
      subst hx0
      gi_wp2
      exact ⟨c2, ho, Step.refl, X.out.1, fun e he => by rcases List.mem_append.1 he with h | h; exact X.out.2 e h; simpa using h⟩
    · have hxb : (x != 0) = true := by rw [bne_iff_ne]; exact hx0
      have X := Lib.hid (And.intro h1 (And.intro h2 (And.intro hpre hx0)))
      clear hx0 h2 hpre
      gi_wp2
      obtain ⟨h1, h2, ⟨suf, hsuf⟩, hx0⟩ := X.out
      refine ⟨c2, ho.setCell _ _, Step.refl.setCell (.inr h1.col) _, by first | rfl | trivial, x, h1.set0, ?_⟩
      rw [← hsuf, List.append_assoc, firstE_app h2, List.cons_append, firstE, if_pos hx0]
  case done =>
    rintro D c' W' ⟨h1, h2⟩ ho hs hD hDs hDc
    have yf := h1.fz ho (by omega) 0
    have y6 := h1.c0
    have hne : D ≠ rb := by
      intro e; rw [e, h1.col] at hDc; omega
    have q1 : Step (And1 (One kn) kl) c' W' c' (W'.setCell ⟨rb, 0, none⟩ (.int .i64 0)) := Step.refl.setCell (.inr (.inl h1.col)) _
    have q2 : Step (And1 (One kn) kl) c' W' c' ((W'.setCell ⟨rb, 0, none⟩ (.int .i64 0)).putObj D (.deferred none)) := q1.putObj (.inr (.inr hDc)) _
    have q3 : At c' ((W'.setCell ⟨rb, 0, none⟩ (.int .i64 0)).putObj D (.deferred none)) rb kn [.int .i64 0] :=
      h1.set0.keep ((Step.refl (K := One kl)).putObj (.inr hDc) _) (by show ¬ kn = kl; omega)
    have q4 : Ok c' ((W'.setCell ⟨rb, 0, none⟩ (.int .i64 0)).putObj D (.deferred none)) := (ho.setCell _ _).putObj _ (fun a ha => frozen_def a ha)
    have q5 := q3.c0
    have q6 : (W'.setCell ⟨rb, 0, none⟩ (.int .i64 0)).heap[D]? = some (.deferred (some [])) := (Below.heap_setCell _ _ _ _ hne).trans hD
    have hf : firstE (partsE b) = 0 := by have := firstE_app (m := []) h2; rw [List.append_nil] at this; exact this
    go_wp2
    refine leaveM q6 rfl (v := .int .i64 0) (by simp [results, Tryz.results244, go_sem, q5]) ⟨by rw [hf], c', ?_, q4⟩
    refine ((s1.ofNo.trans hs).trans q2).drop fun b _ h => ?_
    rcases h with h | h
    · exact hknc b h
    · exact hklc b h
  case stop =>
    rintro D j pre c' W' hpre ⟨rfl, e, h1, h2⟩ ho hs hD hDs hDc
    have q2 : Step (And1 (One kn) kl) c' W' c' (W'.putObj D (.deferred none)) := Step.refl.putObj (.inr (.inr hDc)) _
    have q3 : At c' (W'.putObj D (.deferred none)) rb kn [.int .i64 e] := h1.keep ((Step.refl (K := One kl)).putObj (.inr hDc) _) (by show ¬ kn = kl; omega)
    have q4 : Ok c' (W'.putObj D (.deferred none)) := ho.putObj _ (fun a ha => frozen_def a ha)
    have q5 := q3.c0
    go_wp2
    refine leaveM hD rfl (v := .int .i64 e) (by simp [results, Tryz.results244, go_sem, q5]) ⟨by rw [h2], c', ?_, q4⟩
    refine ((s1.ofNo.trans hs).trans q2).drop fun b _ h => ?_
    rcases h with h | h
    · exact hknc b h
    · exact hklc b h
end
end Go.Proofs.YtgcobbapaaihiaaGreat
