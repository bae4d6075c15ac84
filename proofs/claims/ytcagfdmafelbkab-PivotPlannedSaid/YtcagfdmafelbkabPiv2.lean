/- Pivot: the stack's functions. -/
import Derived.Test.YtcagfdmafelbkabPiv1
set_option linter.unusedVariables false
set_option linter.unusedSimpArgs false
namespace Go.Proofs.Ytcagfdmafelbkab
open Go.RowKit

/-- Is a number a height? -/
def isH (h : Int) : Prop := 1 ≤ h ∧ h ≤ 1073741824

theorem is_yes (h : Int) (w : World) (hh : isH h) : Calls Try.prog 24 #[.int .i64 h] w fun r w' => r = .returned (.bool true) ∧ w = w' := by
  obtain ⟨h1, h2⟩ := hh
  go_enter Try.func24, Try.ntmps24
  go_wp2
  go_ret
  exact ⟨rfl, rfl⟩

theorem is_no (h : Int) (w : World) (hh : ¬ isH h) : Calls Try.prog 24 #[.int .i64 h] w fun r w' => r = .returned (.bool false) ∧ w = w' := by
  by_cases h1 : 1 ≤ h
  · have h2 : ¬ h ≤ 1073741824 := fun x => hh ⟨h1, x⟩
    clear hh
    go_enter Try.func24, Try.ntmps24
    go_wp2
    go_ret
    exact ⟨rfl, rfl⟩
  · clear hh
    go_enter Try.func24, Try.ntmps24
    go_wp2
    go_ret
    exact ⟨rfl, rfl⟩

/-! ### Pivot -/
theorem pivot_range (a b : Int) (w : World) (h : ¬ (isH a ∧ isH b)) : Calls Try.prog 21 #[.int .i64 a, .int .i64 b] w fun r w' => r = .returned (.tuple #[.int .i64 0, .int .i64 3]) ∧ w = w' := by
  by_cases ha : isH a
  · have hb : ¬ isH b := fun x => h ⟨ha, x⟩
    have y1 := is_yes a w ha
    have y2 := is_no b w hb
    clear h ha hb
    go_enter Try.func21, Try.ntmps21
    go_wp2_with fail
    with_reducible refine y1.mono ?_
    rintro e w1 ⟨rfl, rfl⟩
    go_wp2_with fail
    with_reducible refine y2.mono ?_
    rintro e w1 ⟨rfl, rfl⟩
    go_wp2
    go_ret2
    exact ⟨rfl, rfl⟩
  · have y1 := is_no a w ha
    clear h ha
    go_enter Try.func21, Try.ntmps21
    go_wp2_with fail
    with_reducible refine y1.mono ?_
    rintro e w1 ⟨rfl, rfl⟩
    go_wp2
    go_ret2
    exact ⟨rfl, rfl⟩

theorem pivot_height (a b : Int) (w : World) (ha : isH a) (hb : isH b) (h : b ≤ a) : Calls Try.prog 21 #[.int .i64 a, .int .i64 b] w fun r w' => r = .returned (.tuple #[.int .i64 0, .int .i64 13]) ∧ w = w' := by
  have y1 := is_yes a w ha
  have y2 := is_yes b w hb
  clear ha hb
  go_enter Try.func21, Try.ntmps21
  go_wp2_with fail
  with_reducible refine y1.mono ?_
  rintro e w1 ⟨rfl, rfl⟩
  go_wp2_with fail
  with_reducible refine y2.mono ?_
  rintro e w1 ⟨rfl, rfl⟩
  go_wp2
  go_ret2
  exact ⟨rfl, rfl⟩

def mid (a b : Int) : Int := a + (b - a) / 2

theorem pivot_ok (a b : Int) (w : World) (ha : isH a) (hb : isH b) (h : a < b) : Calls Try.prog 21 #[.int .i64 a, .int .i64 b] w fun r w' => r = .returned (.tuple #[.int .i64 (mid a b), .int .i64 0]) ∧ w = w' := by
  have y1 := is_yes a w ha
  have y2 := is_yes b w hb
  obtain ⟨a1, a2⟩ := ha
  obtain ⟨b1, b2⟩ := hb
  unfold mid
  have h' : ¬ b ≤ a := by omega
  have h2 : 0 ≤ b - a := by omega
  have h3 : b - a ≤ 1073741824 := by omega
  have h4 : 0 ≤ (b - a) / 2 := by omega
  have h5 : (b - a) / 2 ≤ 1073741824 := by omega
  go_enter Try.func21, Try.ntmps21
  go_wp2_with fail
  with_reducible refine y1.mono ?_
  rintro e w1 ⟨rfl, rfl⟩
  go_wp2_with fail
  with_reducible refine y2.mono ?_
  rintro e w1 ⟨rfl, rfl⟩
  go_wp2
  go_ret2
  exact ⟨rfl, rfl⟩

/-! ### The stack -/
section
variable {c : Col} {w : World} {k kr b : Nat} {s : Stk}

theorem stnone_no (h : w.cell? ⟨b, 1, none⟩ = some (.int .i64 s.root)) (hr : 1 ≤ s.root) : Calls Try.prog 26 #[.pointer (some ⟨b, 0, none⟩)] w fun r w' => r = .returned (.bool false) ∧ w = w' := by
  have e : (s.root == 0) = false := by simp; omega
  go_enter Try.func26, Try.ntmps26
  go_wp2
  go_ret
  exact ⟨rfl, rfl⟩

theorem base_any (h : IsSt c k kr w b s) (hr : 1 ≤ s.root) : Calls Try.prog 8 #[.pointer (some ⟨b, 0, none⟩)] w fun r w' => r = .returned (.int .i64 s.low) ∧ w = w' := by
  have y1 := stnone_no h.c1 hr
  have h0 := h.c0
  clear h
  go_enter Try.func8, Try.ntmps8
  go_wp2_with fail
  with_reducible refine y1.mono ?_
  rintro e w1 ⟨rfl, rfl⟩
  go_wp2
  go_ret
  exact ⟨rfl, rfl⟩

theorem sttop_any (h : IsSt c k kr w b s) (hr : 1 ≤ s.root) : Calls Try.prog 27 #[.pointer (some ⟨b, 0, none⟩)] w fun r w' => r = .returned (.int .i64 (topL s.l)) ∧ ∃ n, w' = w.drewN n := by
  have y1 := stnone_no h.c1 hr
  obtain ⟨v, hv, ho⟩ := h.row
  rcases List.eq_nil_or_concat s.l with hl | ⟨l, x, hl⟩
  · have y2 := htop_none hl hv ho.sl
    rw [hl]
    clear h ho hl hr
    go_enter Try.func27, Try.ntmps27
    go_wp2_with fail
    with_reducible refine y1.mono ?_
    rintro e w1 ⟨rfl, rfl⟩
    go_wp2_with fail
    with_reducible refine y2.mono ?_
    rintro e w1 ⟨rfl, rfl⟩
    go_wp2
    go_ret
    exact ⟨rfl, 0, rfl⟩
  · rw [List.concat_eq_append] at hl
    rw [hl] at ho
    have y2 := htop_some hv ho.sl
    rw [hl, topL_snoc]
    clear h ho hl hr
    go_enter Try.func27, Try.ntmps27
    go_wp2_with fail
    with_reducible refine y1.mono ?_
    rintro e w1 ⟨rfl, rfl⟩
    go_wp2_with fail
    with_reducible refine y2.mono ?_
    rintro e w1 ⟨rfl, n, rfl⟩
    go_wp2
    go_ret
    exact ⟨rfl, n, rfl⟩

theorem done_yes (h : IsSt c k kr w b s) (hr : 1 ≤ s.root) (hl : s.l = []) : Calls Try.prog 13 #[.pointer (some ⟨b, 0, none⟩)] w fun r w' => r = .returned (.bool true) ∧ w = w' := by
  have y1 := stnone_no h.c1 hr
  obtain ⟨v, hv, ho⟩ := h.row
  rw [hl] at ho
  obtain ⟨va, vc, rfl, _⟩ := ho.sl.form
  clear h ho hl hr
  simp only [List.length_nil] at hv
  go_enter Try.func13, Try.ntmps13
  go_wp2_with fail
  with_reducible refine y1.mono ?_
  rintro e w1 ⟨rfl, rfl⟩
  go_wp2
  go_ret
  exact ⟨rfl, rfl⟩

theorem done_no (h : IsSt c k kr w b s) (hr : 1 ≤ s.root) (hl : s.l ≠ []) : Calls Try.prog 13 #[.pointer (some ⟨b, 0, none⟩)] w fun r w' => r = .returned (.bool false) ∧ w = w' := by
  have y1 := stnone_no h.c1 hr
  obtain ⟨v, hv, ho⟩ := h.row
  obtain ⟨va, vc, rfl, _⟩ := ho.sl.form
  have hp : 0 < s.l.length := List.length_pos_iff.2 hl
  obtain ⟨n, hn⟩ : ∃ n, s.l.length = n + 1 := ⟨s.l.length - 1, by omega⟩
  rw [hn] at hv
  have e2 : (((n + 1 : Nat) : Int) == 0) = false := by simp; omega
  have e3 : (((n : Int) + 1) == 0) = false := by simp; omega
  clear h ho hl hr hn hp
  go_enter Try.func13, Try.ntmps13
  go_wp2_with fail
  with_reducible refine y1.mono ?_
  rintro e w1 ⟨rfl, rfl⟩
  go_wp2
  go_ret
  exact ⟨rfl, rfl⟩
end
end Go.Proofs.Ytcagfdmafelbkab
