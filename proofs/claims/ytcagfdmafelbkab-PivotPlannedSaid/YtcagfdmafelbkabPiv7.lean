/- Pivot: Deep. -/
import Derived.Test.YtcagfdmafelbkabPiv6
set_option linter.unusedVariables false
set_option linter.unusedSimpArgs false
namespace Go.Proofs.Ytcagfdmafelbkab
open Go.RowKit

theorem u64_in (n : Int) (h0 : 0 ≤ n) (h1 : n ≤ 18446744073709551615) : IntKind.u64.wrap n = n := by
  unfold IntKind.wrap
  simp only [IntKind.bits, IntKind.signed]
  simp
  omega
theorem ret_int {k : IntKind} {a b : Int} (h : a = b) : Ending.returned (.int k a) = .returned (.int k b) := by rw [h]

/-- How deep a number is: the number of binary digits of n - 1, and one. -/
def bits : Nat → Nat → Nat
  | 0, _ => 0
  | f + 1, n => if n = 0 then 0 else 1 + bits f (n / 2)
def deepL (n : Int) : Int := if n < 1 then 0 else 1 + (bits 64 (n - 1).toNat : Nat)

theorem bits_zero (f : Nat) : bits f 0 = 0 := by cases f <;> simp [bits]
theorem bits_le (f n : Nat) : bits f n ≤ f := by
  induction f generalizing n with
  | zero => simp [bits]
  | succ f ih =>
    simp only [bits]
    split
    · omega
    · have := ih (n / 2); omega
theorem bits_fuel (f g n : Nat) (h1 : n < 2 ^ f) (h2 : f ≤ g) : bits f n = bits g n := by
  induction f generalizing g n with
  | zero =>
    have : n = 0 := by simpa using h1
    subst this; rw [bits_zero, bits_zero]
  | succ f ih =>
    obtain ⟨g, rfl⟩ : ∃ g', g = g' + 1 := ⟨g - 1, by omega⟩
    simp only [bits]
    split
    · rfl
    · rw [ih g (n / 2) (by rw [Nat.pow_succ] at h1; omega) (by omega)]

set_option maxHeartbeats 800000 in
theorem deep_any (n : Int) (w : World) (hn : IntKind.i64.has n) :
    Calls Try.prog 12 #[.int .i64 n] w fun r w' => r = .returned (.int .i64 (deepL n)) ∧ w = w' := by
  have hn2 : n ≤ 9223372036854775807 := hn.2
  by_cases h1 : n < 1
  · have e : deepL n = 0 := by simp [deepL, h1]
    rw [e]
    clear e
    go_enter Try.func12, Try.ntmps12
    go_wp2
    go_ret
    exact ⟨rfl, rfl⟩
  · obtain ⟨m, hm⟩ : ∃ m : Nat, n = (m : Int) + 1 := ⟨(n - 1).toNat, by omega⟩
    have e : deepL n = 1 + (bits 64 m : Nat) := by
      unfold deepL
      rw [if_neg h1, hm]
      congr 3
      omega
    rw [e]
    subst hm
    have hm63 : m < 2 ^ 63 := by omega
    clear e hn
    go_enter Try.func12, Try.ntmps12
    go_wp2
    go_loop [0, 3] (fun a d => ∃ (x y : Nat), a = .int .i64 x ∧ d = .int .i64 y ∧ x < 2 ^ 63 ∧ y + bits 64 x = 1 + bits 64 m) (fun a _ => (intOf a).toNat)
    case atStart => exact ⟨m, 1, by go_num, rfl, hm63, rfl⟩
    case round =>
      obtain ⟨x, y, rfl, rfl, hx, hy⟩ := hrel
      have hb := bits_le 64 m
      by_cases h0 : 0 < x
      · have hs : bits 64 x = 1 + bits 64 (x / 2) := by
          rw [show bits 64 x = if x = 0 then 0 else 1 + bits 63 (x / 2) from rfl, if_neg (by omega), bits_fuel 63 64 (x / 2) (by omega) (by omega)]
        have hy2 : y + 1 + bits 64 (x / 2) = 1 + bits 64 m := by omega
        have hyl : y ≤ 1000 := by omega
        have HY := Lib.hid hy2
        clear hs hy hy2
        have z1 : (0 : Int) < (x : Int) := by omega
        have z2 : (x : Int) ≤ 9223372036854775807 := by omega
        clear hm63 hb
        go_wp2
        go_round
        case rel => exact ⟨x / 2, y + 1, by simp [Int.shiftRight_eq_div_pow], by go_num, by omega, HY.out⟩
        case measure => simp [intOf, Int.shiftRight_eq_div_pow]; omega
      · have hx0 : x = 0 := by omega
        subst hx0
        rw [bits_zero] at hy
        have HY := Lib.hid hy
        clear hy hb
        go_wp2
        go_ret
        exact ⟨ret_int (by have := HY.out; omega), rfl⟩

theorem lt_bits (f y m : Nat) (hm : m < 2 ^ f) : 2 ^ y ≤ m ↔ y < bits f m := by
  induction f generalizing y m with
  | zero =>
    have : m = 0 := by simpa using hm
    subst this
    have := Nat.two_pow_pos y
    simp [bits]
  | succ f ih =>
    by_cases h0 : m = 0
    · subst h0
      have := Nat.two_pow_pos y
      rw [bits_zero]
      omega
    · rw [show bits (f + 1) m = 1 + bits f (m / 2) by simp [bits, h0]]
      have hm2 : m / 2 < 2 ^ f := by rw [Nat.pow_succ] at hm; omega
      cases y with
      | zero => simp; omega
      | succ y =>
        have := ih y (m / 2) hm2
        rw [Nat.pow_succ]
        omega

end Go.Proofs.Ytcagfdmafelbkab
