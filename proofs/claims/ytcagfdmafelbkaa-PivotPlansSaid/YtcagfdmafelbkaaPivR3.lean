/- Pivot: the reference's among, Plan. -/
import Derived.Test.YtcagfdmafelbkaaPivR2
import Derived.Test.YtcagfdmafelbkaaPiv8
namespace Go.Proofs.Ytcagfdmafelbkaa
open Go.RowKit

section
variable {c : Col} {w : World}

theorem pair_eq (p q : Pair) (h1 : IntKind.i64.has p.1) (h2 : IntKind.i64.has p.2) (h3 : IntKind.i64.has q.1) (h4 : IntKind.i64.has q.2) (w : World) :
    (Op.equalIn 10000 63 (.agg #[.int .i64 p.1, .int .i64 p.2]) (.agg #[.int .i64 q.1, .int .i64 q.2])).run Try.prog w = .ok (decide (p = q)) w := by
  obtain ⟨lp, hp⟩ := pair_key h1 h2
  obtain ⟨lq, hq⟩ := pair_key h3 h4
  obtain ⟨r, hr, hiff⟩ := run_equal_deep (P := Try.prog) w (m := 2) (by decide) (k := 63) (by kernel_rfl) (by kernel_rfl) hp hq
  have e : r = decide (p = q) := by
    by_cases h : p = q
    · subst h
      rw [hp] at hq; cases hq
      simp [hiff.2 rfl]
    · have : ¬ r = true := fun hr => by
        have := hiff.1 hr
        subst this
        exact h (pairV_inj _ _ (pairLaw.inj hp hq))
      simp [h, Bool.eq_false_iff.2 this]
  rw [← e]; exact hr

set_option maxHeartbeats 800000 in
theorem among_any {k k2 : Nat} {v : Value} {hs : List Pair} (hv : Sl TPair c k k2 w v hs) (a b : Int) (ha : IntKind.i64.has a) (hb : IntKind.i64.has b) :
    Calls Try.prog 64 #[v, .int .i64 a, .int .i64 b] w fun r w' => r = .returned (.bool (decide ((a, b) ∈ hs))) ∧ w = w' := by
  have hm := hv.length_le
  unfold maxLen at hm
  by_cases hl : 0 < hs.length
  · obtain ⟨g, off, cap, rfl, hlc, hcm, hgc, hgl⟩ := hv.ex hl
    have HV := Lib.hid hv
    clear hv hl
    go_enter Try.func64, Try.ntmps64
    go_wp2
    go_loop [7] (fun i => ∃ (j : Nat), i = .int .i64 j ∧ Hid (j ≤ hs.length ∧ (a, b) ∉ hs.take j)) (fun i => hs.length - (intOf i).toNat)
    case atStart => exact ⟨0, rfl, ⟨Nat.zero_le _, by simp⟩⟩
    case round =>
      obtain ⟨j, rfl, hJ⟩ := hrel
      have hj := hJ.out.1
      by_cases hlt : j < hs.length
      · obtain ⟨x, hx⟩ : ∃ x, hs[j]? = some x := ⟨hs[j], by simp [hlt]⟩
        obtain ⟨y0, y1, g1, g2⟩ := pair_at HV.out hx
        have heq := pair_eq x (a, b) g1 g2 ha hb w
        dsimp only at heq
        have HX := Lib.hid hx
        have hj0 : (0 : Int) ≤ (j : Int) := by omega
        have hj1 : (j : Int) < (hs.length : Int) := by omega
        clear hx hj g1 g2
        by_cases e : x = (a, b)
        · have hin : (a, b) ∈ hs := e ▸ List.mem_of_getElem? HX.out
          rw [decide_eq_true e] at heq
          have HI := Lib.hid hin
          clear e hin
          go_wp2
          go_ret
          exact ⟨by rw [decide_eq_true HI.out]; rfl, rfl⟩
        · rw [decide_eq_false e] at heq
          have HE := Lib.hid e
          clear e
          go_wp2
          go_round
          case rel =>
            refine ⟨j + 1, by go_num, ⟨by omega, ?_⟩⟩
            rw [List.take_add_one, HX.out, List.mem_append]
            rintro (h | h)
            · exact hJ.out.2 h
            · simp at h; exact HE.out h.symm
          case measure => simp [intOf]; omega
      · have hjl : j = hs.length := by omega
        have hnot := hJ.out.2
        rw [hjl, List.take_length] at hnot
        have HN := Lib.hid hnot
        clear hnot hjl hj
        go_wp2
        go_ret
        exact ⟨by rw [decide_eq_false HN.out]; rfl, rfl⟩
  · have hl0 : hs = [] := List.eq_nil_of_length_eq_zero (by omega)
    subst hl0
    obtain ⟨aa, n, rfl, _⟩ := hv.form
    clear hv
    simp only [List.length_nil]
    go_enter Try.func64, Try.ntmps64
    go_wp2
    refine wp_loop_once ?_
    go_wp2
    go_ret
    exact ⟨by simp, rfl⟩
end
end Go.Proofs.Ytcagfdmafelbkaa
