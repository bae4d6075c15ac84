/- Pivot: plans and pivots at whatever arguments; the law PivotPlans: its walk. -/
import Derived.Test.YtcagfdmafelbkaaPivA
import Derived.Test.YtcagfdmafelbkaaPivR4
import Derived.Sort.CutIn
import Derived.Deep.Cut
namespace Go.Proofs.Ytcagfdmafelbkaa
open Go.RowKit

/-- What Plan answers. -/
def ansP (r t : Int) (hs : List Pair) : List Tri × List Int × Bool × Int :=
  if ¬ (1 ≤ r ∧ r ≤ 1073741824 ∧ 1 ≤ t ∧ t ≤ 1073741824) then ([], [], false, 3)
  else if t ≤ r then ([], [], false, 13)
  else if 4096 < t - r then ([], [], false, 4)
  else ((plan hs (newS r t)).1, t :: (plan hs (newS r t)).2.1, (plan hs (newS r t)).2.2, 0)

theorem ansP_cases (r t : Int) (hs : List Pair) :
    (¬ (isH r ∧ isH t) ∧ ansP r t hs = ([], [], false, 3)) ∨ (isH r ∧ isH t ∧ t ≤ r ∧ ansP r t hs = ([], [], false, 13)) ∨ (isH r ∧ isH t ∧ r < t ∧ 4096 < t - r ∧ ansP r t hs = ([], [], false, 4)) ∨
      (isH r ∧ isH t ∧ r < t ∧ t - r ≤ 4096 ∧ ansP r t hs = ((plan hs (newS r t)).1, t :: (plan hs (newS r t)).2.1, (plan hs (newS r t)).2.2, 0)) := by
  by_cases h : isH r ∧ isH t
  · obtain ⟨⟨a, b⟩, ⟨c, d⟩⟩ := h
    have h' : (1 ≤ r ∧ r ≤ 1073741824 ∧ 1 ≤ t ∧ t ≤ 1073741824) := ⟨a, b, c, d⟩
    by_cases h1 : t ≤ r
    · exact .inr (.inl ⟨⟨a, b⟩, ⟨c, d⟩, h1, by unfold ansP; rw [if_neg (fun x => x h'), if_pos h1]⟩)
    · by_cases h2 : 4096 < t - r
      · exact .inr (.inr (.inl ⟨⟨a, b⟩, ⟨c, d⟩, by omega, h2, by unfold ansP; rw [if_neg (fun x => x h'), if_neg h1, if_pos h2]⟩))
      · exact .inr (.inr (.inr ⟨⟨a, b⟩, ⟨c, d⟩, by omega, by omega, by unfold ansP; rw [if_neg (fun x => x h'), if_neg h1, if_neg h2]⟩))
  · exact .inl ⟨h, by unfold ansP; rw [if_pos (fun x => h ⟨⟨x.1, x.2.1⟩, ⟨x.2.2.1, x.2.2.2⟩⟩)]⟩

/-- What Pivot answers. -/
def ansV (r t : Int) : Int × Int := if ¬ (1 ≤ r ∧ r ≤ 1073741824 ∧ 1 ≤ t ∧ t ≤ 1073741824) then (0, 3) else if t ≤ r then (0, 13) else (mid r t, 0)

section
variable {c : Col} {w : World}

theorem plan_any (hok : Ok c w) (r t : Int) {kx kx2 : Nat} {v : Value} {hs : List Pair} (hv : Sl TPair c kx kx2 w v hs) (hlen : hs.length ≤ 1000000000) (ka kb : Nat) :
    Calls Try.prog 28 #[.int .i64 r, .int .i64 t, v] w fun e w' => ∃ va vb, e = .returned (.tuple #[va, vb, .bool (ansP r t hs).2.2.1, .int .i64 (ansP r t hs).2.2.2]) ∧
      ∃ c', Sl TTri c' ka 0 w' va (ansP r t hs).1 ∧ Sl (TInt .i64) c' kb 0 w' vb (ansP r t hs).2.1 ∧ Step No c w c' w' ∧ Ok c' w' := by
  rcases ansP_cases r t hs with ⟨h, e⟩ | ⟨h1, h2, h, e⟩ | ⟨h1, h2, h, h3, e⟩ | ⟨h1, h2, h, h3, e⟩
  · rw [e]; exact (plan_range hok r t v h).mono fun e w' ⟨he, s, o⟩ => ⟨_, _, he, c, Sl.nil _ _ _ _ _, Sl.nil _ _ _ _ _, s, o⟩
  · rw [e]; exact (plan_height hok r t v h1 h2 h).mono fun e w' ⟨he, s, o⟩ => ⟨_, _, he, c, Sl.nil _ _ _ _ _, Sl.nil _ _ _ _ _, s, o⟩
  · rw [e]; exact (plan_far hok r t v h1 h2 h h3).mono fun e w' ⟨he, c', s, o⟩ => ⟨_, _, he, c', Sl.nil _ _ _ _ _, Sl.nil _ _ _ _ _, s, o⟩
  · rw [e]; exact plan_main hok r t hv h1 h2 h h3 hlen ka kb

theorem rplan_any (hok : Ok c w) (r t : Int) {kx kx2 : Nat} {v : Value} {hs : List Pair} (hv : Sl TPair c kx kx2 w v hs) (ka kb : Nat) :
    Calls Try.prog 29 #[.int .i64 r, .int .i64 t, v] w fun e w' => ∃ va vb, e = .returned (.tuple #[va, vb, .bool (ansP r t hs).2.2.1, .int .i64 (ansP r t hs).2.2.2]) ∧
      ∃ c', Sl TTri c' ka 0 w' va (ansP r t hs).1 ∧ Sl (TInt .i64) c' kb 0 w' vb (ansP r t hs).2.1 ∧ Step No c w c' w' ∧ Ok c' w' := by
  rcases ansP_cases r t hs with ⟨h, e⟩ | ⟨h1, h2, h, e⟩ | ⟨h1, h2, h, h3, e⟩ | ⟨h1, h2, h, h3, e⟩
  · rw [e]; exact (rplan_range hok r t v h).mono fun e w' ⟨he, s, o⟩ => ⟨_, _, he, c, Sl.nil _ _ _ _ _, Sl.nil _ _ _ _ _, s, o⟩
  · rw [e]; exact (rplan_height hok r t v h1 h2 h).mono fun e w' ⟨he, s, o⟩ => ⟨_, _, he, c, Sl.nil _ _ _ _ _, Sl.nil _ _ _ _ _, s, o⟩
  · rw [e]; exact (rplan_far hok r t v h1 h2 h h3).mono fun e w' ⟨he, c', s, o⟩ => ⟨_, _, he, c', Sl.nil _ _ _ _ _, Sl.nil _ _ _ _ _, s, o⟩
  · rw [e]; exact rplan_main hok r t hv h1 h2 h h3 ka kb

theorem pivot_any (r t : Int) (w : World) : Calls Try.prog 30 #[.int .i64 r, .int .i64 t] w fun e w' => e = .returned (.tuple #[.int .i64 (ansV r t).1, .int .i64 (ansV r t).2]) ∧ w = w' := by
  by_cases h : isH r ∧ isH t
  · obtain ⟨⟨a, b⟩, ⟨c, d⟩⟩ := h
    have h' : (1 ≤ r ∧ r ≤ 1073741824 ∧ 1 ≤ t ∧ t ≤ 1073741824) := ⟨a, b, c, d⟩
    by_cases h1 : t ≤ r
    · rw [show ansV r t = (0, 13) by unfold ansV; rw [if_neg (fun x => x h'), if_pos h1]]
      exact pivot_height r t w ⟨a, b⟩ ⟨c, d⟩ h1
    · rw [show ansV r t = (mid r t, 0) by unfold ansV; rw [if_neg (fun x => x h'), if_neg h1]]
      exact pivot_ok r t w ⟨a, b⟩ ⟨c, d⟩ (by omega)
  · rw [show ansV r t = (0, 3) by unfold ansV; rw [if_pos (fun x => h ⟨⟨x.1, x.2.1⟩, ⟨x.2.2.1, x.2.2.2⟩⟩)]]
    exact pivot_range r t w h

theorem rpivot_any (r t : Int) (w : World) : Calls Try.prog 31 #[.int .i64 r, .int .i64 t] w fun e w' => e = .returned (.tuple #[.int .i64 (ansV r t).1, .int .i64 (ansV r t).2]) ∧ w = w' := by
  by_cases h : isH r ∧ isH t
  · obtain ⟨⟨a, b⟩, ⟨c, d⟩⟩ := h
    have h' : (1 ≤ r ∧ r ≤ 1073741824 ∧ 1 ≤ t ∧ t ≤ 1073741824) := ⟨a, b, c, d⟩
    by_cases h1 : t ≤ r
    · rw [show ansV r t = (0, 13) by unfold ansV; rw [if_neg (fun x => x h'), if_pos h1]]
      exact rpivot_height r t w ⟨a, b⟩ ⟨c, d⟩ h1
    · rw [show ansV r t = (mid r t, 0) by unfold ansV; rw [if_neg (fun x => x h'), if_neg h1]]
      exact rpivot_ok r t w ⟨a, b⟩ ⟨c, d⟩ (by omega)
  · rw [show ansV r t = (0, 3) by unfold ansV; rw [if_pos (fun x => h ⟨⟨x.1, x.2.1⟩, ⟨x.2.2.1, x.2.2.2⟩⟩)]]
    exact rpivot_range r t w h
end

theorem infoPair : (Try.prog.info? 63).map (fun i => (i.zero, i.size, i.bytes)) = some (some (.agg #[.int .i64 0, .int .i64 0]), 2, 16) := by kernel_rfl

private theorem nOne {a b : Nat} (h : b ≠ a) : ¬ One a b := h

set_option maxRecDepth 100000 in
set_option maxHeartbeats 1600000 in
theorem plans_law {w : World} {v : Value} {hs : List Pair} (h : Sl TPair (fun _ => 0) 0 0 w v hs) (r t n : Int) (hn : IntKind.i64.has n) (hr : IntKind.i64.has r) (ht : IntKind.i64.has t) :
    Calls Try.prog 5 #[.int .i64 r, .int .i64 t, v, .int .i64 n] w fun r w' => r = .returned (.bool true) ∧ Below w.heap.size w w' := by
  have hok : Ok (fun _ => 0) w := Ok.zero w
  have bel : ∀ {K : Nat → Prop} {c' : Col} {w' : World}, Step K (fun _ => 0) w c' w' → ¬ K 0 → Below w.heap.size w w' := fun h k0 => h.below (fun _ _ => k0)
  have hr1 : -9223372036854775808 ≤ r := hr.1
  have hr2 : r ≤ 9223372036854775807 := hr.2
  have ht1 : -9223372036854775808 ≤ t := ht.1
  have ht2 : t ≤ 9223372036854775807 := ht.2
  have hm := h.length_le
  unfold maxLen at hm
  obtain ⟨va, vc, rfl, _⟩ := h.form
  have AW := awake23_any hok
  by_cases hlong : 200 < hs.length
  · clear h hr ht hr1 hr2 ht1 ht2
    go_enter Try.func5, Try.ntmps5
    go_wp2_with fail
    with_reducible refine AW.mono ?_
    rintro e w2 ⟨rfl, c2, s2, _⟩
    go_wp2_with fail
    go_ret
    exact ⟨rfl, bel s2 (fun h => h)⟩
  by_cases hfar : 1 ≤ r ∧ r ≤ t ∧ 300 < t - r ∧ t - r ≤ 4096
  · obtain ⟨f1, f2, f3, f4⟩ := hfar
    clear h hr ht
    go_enter Try.func5, Try.ntmps5
    go_wp2_with fail
    with_reducible refine AW.mono ?_
    rintro e w2 ⟨rfl, c2, s2, _⟩
    go_wp2_with fail
    go_ret
    exact ⟨rfl, bel s2 (fun h => h)⟩
  clear AW
  have hcase : r < 1 ∨ (1 ≤ r ∧ t < r) ∨ (1 ≤ r ∧ r ≤ t ∧ t - r ≤ 300) ∨ (1 ≤ r ∧ r ≤ t ∧ 300 < t - r ∧ 4096 < t - r) := by omega
  have hlen : hs.length ≤ 1000000000 := by omega
  obtain ⟨o1, o2, o3⟩ := Own.new0 TPair 63 hok 1 0
  have hx' := h.keep o3 (fun h => h) (fun h => h)
  have hml : ([] : List Pair).length + hs.length ≤ maxLen := by simp [maxLen]; omega
  have hbl : (([] : List Pair).length + hs.length) * 16 ≤ 140737488355328 := by simp; omega
  have h01 : (0 : Nat) ≠ 1 := by decide
  have D1 := fun W => deep_any n W hn
  have D2 := fun W => rdeep_any n W hn
  have V1 := fun W => pivot_any r t W
  have V2 := fun W => rpivot_any r t W
  have HH := Lib.hid h
  have HP := Lib.hid hr
  clear h hr ht hfar hn
  rcases hcase with f1 | ⟨f1, f2⟩ | ⟨f1, f2, f3⟩ | ⟨f1, f2, f3, f4⟩
  all_goals
    go_enter Try.func5, Try.ntmps5
    go_upto_region 4 with fail
    go_wp2_with (at_builtin; refine wpList_app TPair o2 rfl _ _ 52 rfl 63 Try.underlying52 infoPair rfl (by decide) rfl rfl o1 hx' h01 hml hbl ?_; rintro v' w1 c1 a1 a2 a3 -; rw [List.nil_append] at a1; obtain ⟨va', vc', rfl, _⟩ := a1.sl.form)
    have T1 := o3.ofNo.trans a2
    have P1 := plan_any a3 r t a1.sl hlen 2 3
    with_reducible refine P1.mono ?_
    rintro e w2 ⟨vt, vi, rfl, c2, x1, x2, s2, b2⟩
    obtain ⟨e1, m1, rfl, _⟩ := x1.form
    obtain ⟨e2, m2, rfl, _⟩ := x2.form
    have P2 := rplan_any b2 r t ((HH.out.keep T1 (nOne (by decide)) (nOne (by decide))).kn s2) 4 5
    have T2 := T1.trans (s2.ofNo (K := One 1))
    have a12 := a1.kn s2
    clear P1 a1 a2 a3 s2 T1
    go_wp2_with fail
    with_reducible refine P2.mono ?_
    rintro e w3 ⟨vt', vi', rfl, c3, x3, x4, s3, b3⟩
    obtain ⟨e3, m3, rfl, _⟩ := x3.form
    obtain ⟨e4, m4, rfl, _⟩ := x4.form
    have x1' := x1.kn s3
    have x2' := x2.kn s3
    have a13 := a12.kn s3
    have T3 := T2.trans (s3.ofNo (K := One 1))
    clear P2 x1 x2 a12 s3 T2 b2
    go_wp2_with fail
    with_reducible refine (V1 _).mono ?_
    rintro e w4 ⟨rfl, rfl⟩
    go_wp2_with fail
    with_reducible refine (V2 _).mono ?_
    rintro e w4 ⟨rfl, rfl⟩
    have P3 := sameTries_eq x1' x3
    have P4 := fun n => sameInts_eq (x2'.kn (Step.rf.drewN n)) (x4.kn (Step.rf.drewN n))
    clear x3 x4
    go_wp2_with fail
    with_reducible refine P3.mono ?_
    rintro e w4 ⟨rfl, d1, rfl⟩
    go_wp2_with fail
    with_reducible refine (P4 d1).mono ?_
    rintro e w4 ⟨rfl, d2, rfl⟩
    go_wp2_with fail
    with_reducible refine (D1 _).mono ?_
    rintro e w4 ⟨rfl, rfl⟩
    go_wp2_with fail
    with_reducible refine (D2 _).mono ?_
    rintro e w4 ⟨rfl, rfl⟩
    have y1 := x1'.kn (Step.rf.drewN (d1 + d2))
    have y2 := x2'.kn (Step.rf.drewN (d1 + d2))
    have P5 := overTries_any (b3.drewN (d1 + d2)) (by decide) (by decide) y1
    have a14 := a13.kn (Step.rf.drewN (d1 + d2))
    have T4 := T3.trans (Step.refl.drewN (d1 + d2))
    clear x1' x2' a13 T3 b3 P3 P4 D1 D2 V1 V2
    go_wp2_with fail
    refine P5.mono ?_
    rintro e w5 ⟨rfl, s5, b5⟩
    have y3 := y2.keep s5 (nOne (by decide)) (nOne (by decide))
    have P6 := overInts_any b5 (by decide) (by decide) y3
    have a15 := a14.keep s5 (nOne (by decide)) (nOne (by decide))
    have T5 := (T4.mono (K' := fun j => j ≠ 0) fun j h => by cases h; decide).trans (s5.mono (K' := fun j => j ≠ 0) fun j h => by cases h; decide)
    clear y1 y2 P5 a14 T4
    go_wp2_with fail
    with_reducible refine P6.mono ?_
    rintro e w6 ⟨rfl, s6, b6⟩
    have a16 := a15.keep s6 (nOne (by decide)) (nOne (by decide))
    have T6 := T5.trans (s6.mono (K' := fun j => j ≠ 0) fun j h => by cases h; decide)
    have h6 := HH.out.keep T6 (by simp) (by simp)
    clear y3 P6 a15 T5 s5 s6 b5
    go_wp2_with fail
    go_loopw [23, 24] (fun s i wr => ∃ (j m : Nat), j ≤ hs.length ∧ i = .int .i64 j ∧ s = .bool true ∧ wr = w6.drewN m) (fun _ i _ => hs.length - (intOf i).toNat)
    case atStart => exact ⟨0, 0, Nat.zero_le _, rfl, by simp, rfl⟩
    case round =>
      obtain ⟨j, m, hj, rfl, rfl, hwr⟩ := hrel
      by_cases hlt : j < hs.length
      · obtain ⟨x, hx⟩ : ∃ x, hs[j]? = some x := ⟨hs[j], by simp [hlt]⟩
        obtain ⟨g, off, cap, hva, _⟩ := h6.ex (by omega)
        cases hva
        obtain ⟨g', off', cap', hva', _⟩ := a16.sl.ex (by omega)
        cases hva'
        obtain ⟨y0, y1, q1, q2⟩ := pair_at h6 hx
        obtain ⟨u0, u1, _, _⟩ := pair_at a16.sl hx
        have heq := fun W => pair_eq x x q1 q2 q1 q2 W
        simp only [decide_true] at heq
        have z : ∀ a, wr.cell? a = w6.cell? a := fun a => by rw [hwr]; rfl
        rw [← z] at y0 y1 u0 u1
        have HW := Lib.hid hwr
        have hj0 : (0 : Int) ≤ (j : Int) := by omega
        have hj1 : (j : Int) < (hs.length : Int) := by omega
        clear hwr z hx q1 q2
        go_wp2_with fail
        go_quiet (fail)
        go_wp2_with fail
        go_roundw
        case rel => exact ⟨j + 1, _, by omega, by go_num, rfl, by rw [HW.out]; exact World.drewN_drewN _ _ _⟩
        case measure => simp [intOf]; omega
      · have AW := awake23_any (w := wr) (by rw [hwr]; exact b6.drewN m)
        have T7 : Step (fun j => j ≠ 0) (fun _ => 0) w c3 wr := by rw [hwr]; exact T6.drewN m
        clear hwr
        go_wp2_with fail
        with_reducible refine AW.mono ?_
        rintro e w7 ⟨rfl, c7, s7, _⟩
        go_wp2_with fail
        go_ret
        exact ⟨rfl, bel (T7.trans s7.ofNo) (by simp)⟩
end Go.Proofs.Ytcagfdmafelbkaa
