/- The reference's ledger: Add in full; New. -/
import Derived.Test.YtcagfdmafelbkaaRef3
namespace Go.Proofs.Ytcagfdmafelbkaa
open Go.RowKit

theorem radd_any {c : Col} {w : World} (hok : Ok c w) {k kr b : Nat} (hk0 : k ≠ 0) (hkr0 : kr ≠ 0) (hkk : k ≠ kr) {n : Int} {l : List Entry} (hL : IsLed c k kr w b n l) {kx : Nat} {vs : List Value} {e : Entry} (he : TEntry.rd c kx w vs e) (hlen : e.bytes.length ≤ 1000000000) :
    Calls Try.prog 15 #[.pointer (some ⟨b, 0, none⟩), .agg vs.toArray] w fun r w' => r = .returned (.int .i64 (addErr n l e)) ∧ ∃ c', IsLed c' k kr w' b n (addNew n l e) ∧ Step (Two k kr) c w c' w' ∧ Ok c' w' := by
  have key : ∀ {r : Ending} {w' : World} {x : Int}, x ≠ 0 → addErr n l e = x → (r = .returned (.int .i64 x) ∧ Step No c w c w' ∧ Ok c w') → r = .returned (.int .i64 (addErr n l e)) ∧ ∃ c', IsLed c' k kr w' b n (addNew n l e) ∧ Step (Two k kr) c w c' w' ∧ Ok c' w' := by
    intro r w' x hx ha ⟨h1, h2, h3⟩
    refine ⟨by rw [ha]; exact h1, c, ?_, h2.ofNo, h3⟩
    simp only [addNew, ha, if_neg hx]
    exact hL.keep h2 (fun h => h) (fun h => h) (fun h => h)
  by_cases h1 : e.who < 0
  · exact (radd_r1 hok hk0 hkr0 hkk hL he h1).mono fun _ _ h => key (by decide) (by simp [addErr, h1]) h
  by_cases h2 : n ≤ e.who
  · exact (radd_r2 hok hk0 hkr0 hkk hL he (by omega) h2).mono fun _ _ h => key (by decide) (by simp [addErr, h2]) h
  by_cases h3 : e.now < 0
  · exact (radd_r3 hok hk0 hkr0 hkk hL he (by omega) (by omega) h3).mono fun _ _ h => key (by decide) (by simp [addErr, h3]) h
  by_cases h4 : 1099511627776 < e.now
  · exact (radd_r4 hok hk0 hkr0 hkk hL he (by omega) (by omega) (by omega) h4).mono fun _ _ h => key (by decide) (by simp [addErr, h4]) h
  have hr : ¬ (e.who < 0 ∨ n ≤ e.who ∨ e.now < 0 ∨ 1099511627776 < e.now) := by omega
  by_cases h5 : e.kind < 1
  · exact (radd_f1 hok hk0 hkr0 hkk hL he (by omega) (by omega) (by omega) (by omega) h5).mono fun _ _ h => key (by decide) (by simp only [addErr, if_neg hr, h5, true_or, if_true]) h
  by_cases h6 : 3 < e.kind
  · exact (radd_f2 hok hk0 hkr0 hkk hL he (by omega) (by omega) (by omega) (by omega) (by omega) h6).mono fun _ _ h => key (by decide) (by simp only [addErr, if_neg hr, h6, or_true, if_true]) h
  have hq : ¬ (e.kind < 1 ∨ 3 < e.kind) := by omega
  rcases List.eq_nil_or_concat l with h7 | ⟨l0, x, h7⟩
  · have ha : addErr n l e = 0 := by simp only [addErr, if_neg hr, if_neg hq]; subst h7; simp
    simp only [addNew, ha, if_true]
    rcases (by omega : e.kind = 1 ∨ e.kind = 2 ∨ e.kind = 3) with hk | hk | hk
    · exact radd_ok0_1 hok hk0 hkr0 hkk hL he (by omega) (by omega) (by omega) (by omega) hk hlen h7
    · exact radd_ok0_2 hok hk0 hkr0 hkk hL he (by omega) (by omega) (by omega) (by omega) hk hlen h7
    · exact radd_ok0_3 hok hk0 hkr0 hkk hL he (by omega) (by omega) (by omega) (by omega) hk hlen h7
  · rw [List.concat_eq_append] at h7
    have hg : (l.getLast?.map (·.now)) = some x.now := by subst h7; simp
    by_cases h8 : e.now < x.now
    · exact (radd_ord hok hk0 hkr0 hkk hL he (by omega) (by omega) (by omega) (by omega) (by omega) (by omega) h7 h8).mono fun _ _ h => key (by decide) (by simp only [addErr, if_neg hr, if_neg hq, hg]; simp [h8]) h
    by_cases h9 : 65536 ≤ l.length
    · exact (radd_full hok hk0 hkr0 hkk hL he (by omega) (by omega) (by omega) (by omega) (by omega) (by omega) h7 (by omega) h9).mono fun _ _ h => key (by decide) (by simp only [addErr, if_neg hr, if_neg hq, hg]; simp [h8, h9]) h
    · have ha : addErr n l e = 0 := by simp only [addErr, if_neg hr, if_neg hq, hg]; simp [h8]; omega
      simp only [addNew, ha, if_true]
      rcases (by omega : e.kind = 1 ∨ e.kind = 2 ∨ e.kind = 3) with hk | hk | hk
      · exact radd_ok1_1 hok hk0 hkr0 hkk hL he (by omega) (by omega) (by omega) (by omega) hk hlen h7 (by omega) (by omega)
      · exact radd_ok1_2 hok hk0 hkr0 hkk hL he (by omega) (by omega) (by omega) (by omega) hk hlen h7 (by omega) (by omega)
      · exact radd_ok1_3 hok hk0 hkr0 hkk hL he (by omega) (by omega) (by omega) (by omega) hk hlen h7 (by omega) (by omega)

theorem rnew_bad (n : Int) (w : World) (h : n < 1 ∨ 16 < n) : Calls Try.prog 12 #[.int .i64 n] w fun e w' => e = .returned (.tuple #[.pointer none, .int .i64 3]) ∧ Below w.heap.size w w' := by
  by_cases h1 : n < 1
  · have d1 : decide (n < 1) = true := by simpa using h1
    go_enter Try.func12, Try.ntmps12
    go_wp2
    go_ret2
    exact ⟨rfl, Below.refl _ _⟩
  · have d1 : decide (n < 1) = false := by simpa using h1
    have h2 : 16 < n := by omega
    have d2 : decide (16 < n) = true := by simpa using h2
    go_enter Try.func12, Try.ntmps12
    go_wp2
    go_ret2
    exact ⟨rfl, Below.refl _ _⟩

theorem rnew_ok {c : Col} {w : World} (hok : Ok c w) (n : Int) (h1 : 1 ≤ n) (h2 : n ≤ 16) (k kr : Nat) : Calls Try.prog 12 #[.int .i64 n] w fun e w' => e = .returned (.tuple #[.pointer (some ⟨w.heap.size, 0, none⟩), .int .i64 0]) ∧
    ∃ c', IsLed c' k kr w' w.heap.size n [] ∧ Step No c w c' w' ∧ Ok c' w' := by
  obtain ⟨a1, a2, a3⟩ := newAt hok [.int .i64 n, .slice none 0 0] 43 k
  have d1 : decide (n < 1) = false := by simpa using h1
  have d2 : decide (16 < n) = false := by simpa using h2
  go_enter Try.func12, Try.ntmps12
  go_wp2
  go_ret2
  exact ⟨rfl, _, ⟨a1.col, a1.c0, _, a1.cells 1 _ rfl, Own.nil _ _ _ _ _ _⟩, a3, a2⟩
end Go.Proofs.Ytcagfdmafelbkaa
