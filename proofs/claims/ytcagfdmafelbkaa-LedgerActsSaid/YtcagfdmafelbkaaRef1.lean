/- The reference's ledger: Add. -/
import Derived.Test.YtcagfdmafelbkaaLed3
import Derived.Test.YtcagfdmafelbkaaKit1
import Derived.Test.YtcagfdmafelbkaaLib2
namespace Go.Proofs.Ytcagfdmafelbkaa
open Go.RowKit

set_option maxRecDepth 100000 in
set_option maxHeartbeats 800000 in
theorem radd_r1 {c : Col} {w : World} (hok : Ok c w) {k kr b : Nat} (hk0 : k ≠ 0) (hkr0 : kr ≠ 0) (hkk : k ≠ kr) {n : Int} {l : List Entry} (hL : IsLed c k kr w b n l) {kx : Nat} {vs : List Value} {e : Entry} (he : TEntry.rd c kx w vs e) (h1 : e.who < 0) :
    Calls Try.prog 15 #[.pointer (some ⟨b, 0, none⟩), .agg vs.toArray] w fun r w' => r = .returned (.int .i64 3) ∧ Step No c w c w' ∧ Ok c w' := by
  obtain ⟨now, who, kind, fault, id, bytes⟩ := e
  have he' := he
  obtain ⟨bv, rfl, hb⟩ := he
  dsimp only at *
  obtain ⟨a, cap, rfl, hform⟩ := hb.form
  have hL2 := Lib.hid hL
  obtain ⟨hcol, hnum, v, hv, hown⟩ := hL
  have hblt := World.block_lt_of_cell? w _ hnum
  have hf := hok.soft b 1 (by rw [hcol]; exact hk0)
  obtain ⟨va, vc, rfl, _⟩ := hown.sl.form
  have d1 : decide (who < 0) = true := by simpa using h1
  go_enter Try.func15, Try.ntmps15
  go_wp2_with fail
  go_quiet (fail)
  go_wp2_with fail
  go_ret
  exact ⟨rfl, by repeat (first | exact Step.refl | refine Step.drewN ?_ _ | refine Step.drew ?_ | refine Step.alloc ?_ _), by repeat (first | exact hok | refine Ok.drewN ?_ _ | refine Ok.drew ?_ | refine Ok.alloc ?_ _)⟩

set_option maxRecDepth 100000 in
set_option maxHeartbeats 800000 in
theorem radd_r2 {c : Col} {w : World} (hok : Ok c w) {k kr b : Nat} (hk0 : k ≠ 0) (hkr0 : kr ≠ 0) (hkk : k ≠ kr) {n : Int} {l : List Entry} (hL : IsLed c k kr w b n l) {kx : Nat} {vs : List Value} {e : Entry} (he : TEntry.rd c kx w vs e) (h1 : 0 ≤ e.who) (h2 : n ≤ e.who) :
    Calls Try.prog 15 #[.pointer (some ⟨b, 0, none⟩), .agg vs.toArray] w fun r w' => r = .returned (.int .i64 3) ∧ Step No c w c w' ∧ Ok c w' := by
  obtain ⟨now, who, kind, fault, id, bytes⟩ := e
  have he' := he
  obtain ⟨bv, rfl, hb⟩ := he
  dsimp only at *
  obtain ⟨a, cap, rfl, hform⟩ := hb.form
  have hL2 := Lib.hid hL
  obtain ⟨hcol, hnum, v, hv, hown⟩ := hL
  have hblt := World.block_lt_of_cell? w _ hnum
  have hf := hok.soft b 1 (by rw [hcol]; exact hk0)
  obtain ⟨va, vc, rfl, _⟩ := hown.sl.form
  have d1 : decide (who < 0) = false := by simpa using h1
  have d2 : decide (n ≤ who) = true := by simpa using h2
  go_enter Try.func15, Try.ntmps15
  go_wp2_with fail
  go_quiet (fail)
  go_wp2_with fail
  go_ret
  exact ⟨rfl, by repeat (first | exact Step.refl | refine Step.drewN ?_ _ | refine Step.drew ?_ | refine Step.alloc ?_ _), by repeat (first | exact hok | refine Ok.drewN ?_ _ | refine Ok.drew ?_ | refine Ok.alloc ?_ _)⟩

set_option maxRecDepth 100000 in
set_option maxHeartbeats 800000 in
theorem radd_r3 {c : Col} {w : World} (hok : Ok c w) {k kr b : Nat} (hk0 : k ≠ 0) (hkr0 : kr ≠ 0) (hkk : k ≠ kr) {n : Int} {l : List Entry} (hL : IsLed c k kr w b n l) {kx : Nat} {vs : List Value} {e : Entry} (he : TEntry.rd c kx w vs e) (h1 : 0 ≤ e.who) (h2 : e.who < n) (h3 : e.now < 0) :
    Calls Try.prog 15 #[.pointer (some ⟨b, 0, none⟩), .agg vs.toArray] w fun r w' => r = .returned (.int .i64 3) ∧ Step No c w c w' ∧ Ok c w' := by
  obtain ⟨now, who, kind, fault, id, bytes⟩ := e
  have he' := he
  obtain ⟨bv, rfl, hb⟩ := he
  dsimp only at *
  obtain ⟨a, cap, rfl, hform⟩ := hb.form
  have hL2 := Lib.hid hL
  obtain ⟨hcol, hnum, v, hv, hown⟩ := hL
  have hblt := World.block_lt_of_cell? w _ hnum
  have hf := hok.soft b 1 (by rw [hcol]; exact hk0)
  obtain ⟨va, vc, rfl, _⟩ := hown.sl.form
  have d1 : decide (who < 0) = false := by simpa using h1
  have d2 : decide (n ≤ who) = false := by simpa using h2
  have d3 : decide (now < 0) = true := by simpa using h3
  go_enter Try.func15, Try.ntmps15
  go_wp2_with fail
  go_quiet (fail)
  go_wp2_with fail
  go_ret
  exact ⟨rfl, by repeat (first | exact Step.refl | refine Step.drewN ?_ _ | refine Step.drew ?_ | refine Step.alloc ?_ _), by repeat (first | exact hok | refine Ok.drewN ?_ _ | refine Ok.drew ?_ | refine Ok.alloc ?_ _)⟩

set_option maxRecDepth 100000 in
set_option maxHeartbeats 800000 in
theorem radd_r4 {c : Col} {w : World} (hok : Ok c w) {k kr b : Nat} (hk0 : k ≠ 0) (hkr0 : kr ≠ 0) (hkk : k ≠ kr) {n : Int} {l : List Entry} (hL : IsLed c k kr w b n l) {kx : Nat} {vs : List Value} {e : Entry} (he : TEntry.rd c kx w vs e) (h1 : 0 ≤ e.who) (h2 : e.who < n) (h3 : 0 ≤ e.now) (h4 : 1099511627776 < e.now) :
    Calls Try.prog 15 #[.pointer (some ⟨b, 0, none⟩), .agg vs.toArray] w fun r w' => r = .returned (.int .i64 3) ∧ Step No c w c w' ∧ Ok c w' := by
  obtain ⟨now, who, kind, fault, id, bytes⟩ := e
  have he' := he
  obtain ⟨bv, rfl, hb⟩ := he
  dsimp only at *
  obtain ⟨a, cap, rfl, hform⟩ := hb.form
  have hL2 := Lib.hid hL
  obtain ⟨hcol, hnum, v, hv, hown⟩ := hL
  have hblt := World.block_lt_of_cell? w _ hnum
  have hf := hok.soft b 1 (by rw [hcol]; exact hk0)
  obtain ⟨va, vc, rfl, _⟩ := hown.sl.form
  have d1 : decide (who < 0) = false := by simpa using h1
  have d2 : decide (n ≤ who) = false := by simpa using h2
  have d3 : decide (now < 0) = false := by simpa using h3
  have d4 : decide (1099511627776 < now) = true := by simpa using h4
  go_enter Try.func15, Try.ntmps15
  go_wp2_with fail
  go_quiet (fail)
  go_wp2_with fail
  go_ret
  exact ⟨rfl, by repeat (first | exact Step.refl | refine Step.drewN ?_ _ | refine Step.drew ?_ | refine Step.alloc ?_ _), by repeat (first | exact hok | refine Ok.drewN ?_ _ | refine Ok.drew ?_ | refine Ok.alloc ?_ _)⟩

set_option maxRecDepth 100000 in
set_option maxHeartbeats 800000 in
theorem radd_f1 {c : Col} {w : World} (hok : Ok c w) {k kr b : Nat} (hk0 : k ≠ 0) (hkr0 : kr ≠ 0) (hkk : k ≠ kr) {n : Int} {l : List Entry} (hL : IsLed c k kr w b n l) {kx : Nat} {vs : List Value} {e : Entry} (he : TEntry.rd c kx w vs e) (h1 : 0 ≤ e.who) (h2 : e.who < n) (h3 : 0 ≤ e.now) (h4 : e.now ≤ 1099511627776) (h5 : e.kind < 1) :
    Calls Try.prog 15 #[.pointer (some ⟨b, 0, none⟩), .agg vs.toArray] w fun r w' => r = .returned (.int .i64 5) ∧ Step No c w c w' ∧ Ok c w' := by
  obtain ⟨now, who, kind, fault, id, bytes⟩ := e
  have he' := he
  obtain ⟨bv, rfl, hb⟩ := he
  dsimp only at *
  obtain ⟨a, cap, rfl, hform⟩ := hb.form
  have hL2 := Lib.hid hL
  obtain ⟨hcol, hnum, v, hv, hown⟩ := hL
  have hblt := World.block_lt_of_cell? w _ hnum
  have hf := hok.soft b 1 (by rw [hcol]; exact hk0)
  obtain ⟨va, vc, rfl, _⟩ := hown.sl.form
  have d1 : decide (who < 0) = false := by simpa using h1
  have d2 : decide (n ≤ who) = false := by simpa using h2
  have d3 : decide (now < 0) = false := by simpa using h3
  have d4 : decide (1099511627776 < now) = false := by simpa using h4
  have d5 : decide (kind < 1) = true := by simpa using h5
  go_enter Try.func15, Try.ntmps15
  go_wp2_with fail
  go_quiet (fail)
  go_wp2_with fail
  go_ret
  exact ⟨rfl, by repeat (first | exact Step.refl | refine Step.drewN ?_ _ | refine Step.drew ?_ | refine Step.alloc ?_ _), by repeat (first | exact hok | refine Ok.drewN ?_ _ | refine Ok.drew ?_ | refine Ok.alloc ?_ _)⟩

set_option maxRecDepth 100000 in
set_option maxHeartbeats 800000 in
theorem radd_f2 {c : Col} {w : World} (hok : Ok c w) {k kr b : Nat} (hk0 : k ≠ 0) (hkr0 : kr ≠ 0) (hkk : k ≠ kr) {n : Int} {l : List Entry} (hL : IsLed c k kr w b n l) {kx : Nat} {vs : List Value} {e : Entry} (he : TEntry.rd c kx w vs e) (h1 : 0 ≤ e.who) (h2 : e.who < n) (h3 : 0 ≤ e.now) (h4 : e.now ≤ 1099511627776) (h5 : 1 ≤ e.kind) (h6 : 3 < e.kind) :
    Calls Try.prog 15 #[.pointer (some ⟨b, 0, none⟩), .agg vs.toArray] w fun r w' => r = .returned (.int .i64 5) ∧ Step No c w c w' ∧ Ok c w' := by
  obtain ⟨now, who, kind, fault, id, bytes⟩ := e
  have he' := he
  obtain ⟨bv, rfl, hb⟩ := he
  dsimp only at *
  obtain ⟨a, cap, rfl, hform⟩ := hb.form
  have hL2 := Lib.hid hL
  obtain ⟨hcol, hnum, v, hv, hown⟩ := hL
  have hblt := World.block_lt_of_cell? w _ hnum
  have hf := hok.soft b 1 (by rw [hcol]; exact hk0)
  obtain ⟨va, vc, rfl, _⟩ := hown.sl.form
  have d1 : decide (who < 0) = false := by simpa using h1
  have d2 : decide (n ≤ who) = false := by simpa using h2
  have d3 : decide (now < 0) = false := by simpa using h3
  have d4 : decide (1099511627776 < now) = false := by simpa using h4
  have d5 : decide (kind < 1) = false := by simpa using h5
  have d6 : decide (3 < kind) = true := by simpa using h6
  go_enter Try.func15, Try.ntmps15
  go_wp2_with fail
  go_quiet (fail)
  go_wp2_with fail
  go_ret
  exact ⟨rfl, by repeat (first | exact Step.refl | refine Step.drewN ?_ _ | refine Step.drew ?_ | refine Step.alloc ?_ _), by repeat (first | exact hok | refine Ok.drewN ?_ _ | refine Ok.drew ?_ | refine Ok.alloc ?_ _)⟩

set_option maxRecDepth 100000 in
set_option maxHeartbeats 800000 in
theorem radd_ord {c : Col} {w : World} (hok : Ok c w) {k kr b : Nat} (hk0 : k ≠ 0) (hkr0 : kr ≠ 0) (hkk : k ≠ kr) {n : Int} {l : List Entry} (hL : IsLed c k kr w b n l) {kx : Nat} {vs : List Value} {e : Entry} (he : TEntry.rd c kx w vs e) (h1 : 0 ≤ e.who) (h2 : e.who < n) (h3 : 0 ≤ e.now) (h4 : e.now ≤ 1099511627776) (h5 : 1 ≤ e.kind) (h6 : e.kind ≤ 3) {l0 : List Entry} {x : Entry} (h7 : l = l0 ++ [x]) (h8 : e.now < x.now) :
    Calls Try.prog 15 #[.pointer (some ⟨b, 0, none⟩), .agg vs.toArray] w fun r w' => r = .returned (.int .i64 9) ∧ Step No c w c w' ∧ Ok c w' := by
  obtain ⟨now, who, kind, fault, id, bytes⟩ := e
  have he' := he
  obtain ⟨bv, rfl, hb⟩ := he
  dsimp only at *
  obtain ⟨a, cap, rfl, hform⟩ := hb.form
  have hL2 := Lib.hid hL
  obtain ⟨hcol, hnum, v, hv, hown⟩ := hL
  have hblt := World.block_lt_of_cell? w _ hnum
  have hf := hok.soft b 1 (by rw [hcol]; exact hk0)
  obtain ⟨va, vc, rfl, _⟩ := hown.sl.form
  have d1 : decide (who < 0) = false := by simpa using h1
  have d2 : decide (n ≤ who) = false := by simpa using h2
  have d3 : decide (now < 0) = false := by simpa using h3
  have d4 : decide (1099511627776 < now) = false := by simpa using h4
  have d5 : decide (kind < 1) = false := by simpa using h5
  have d6 : decide (3 < kind) = false := by simpa using h6
  obtain ⟨g, off, cp, hcp, hlc, hcm, hgl, hlast⟩ := led_last h7 hown.sl
  cases hcp
  obtain ⟨m, hm⟩ : ∃ m, l.length = m + 1 := ⟨l0.length, by rw [h7]; simp⟩
  rw [hm] at hlast hlc
  simp only [hm] at hv hown
  have HM := Lib.hid hm
  
  clear hm h7
  simp only [Nat.add_sub_cancel] at hlast
  have hm0 : (0 : Int) ≤ m := by omega
  have hm1 : (m : Int) < (m : Int) + 1 := by omega
  unfold maxLen at hcm
  have hw1 : IntKind.i64.wrap (m : Int) = (m : Int) := IntWalk.i64_in _ (by omega)
  go_enter Try.func15, Try.ntmps15
  go_wp2_with fail
  go_quiet (fail)
  go_wp2_with fail
  go_quiet (fail)
  go_wp2_with fail
  go_ret
  exact ⟨rfl, by repeat (first | exact Step.refl | refine Step.drewN ?_ _ | refine Step.drew ?_ | refine Step.alloc ?_ _), by repeat (first | exact hok | refine Ok.drewN ?_ _ | refine Ok.drew ?_ | refine Ok.alloc ?_ _)⟩

set_option maxRecDepth 100000 in
set_option maxHeartbeats 800000 in
theorem radd_full {c : Col} {w : World} (hok : Ok c w) {k kr b : Nat} (hk0 : k ≠ 0) (hkr0 : kr ≠ 0) (hkk : k ≠ kr) {n : Int} {l : List Entry} (hL : IsLed c k kr w b n l) {kx : Nat} {vs : List Value} {e : Entry} (he : TEntry.rd c kx w vs e) (h1 : 0 ≤ e.who) (h2 : e.who < n) (h3 : 0 ≤ e.now) (h4 : e.now ≤ 1099511627776) (h5 : 1 ≤ e.kind) (h6 : e.kind ≤ 3) {l0 : List Entry} {x : Entry} (h7 : l = l0 ++ [x]) (h8 : x.now ≤ e.now) (h9 : 65536 ≤ l.length) :
    Calls Try.prog 15 #[.pointer (some ⟨b, 0, none⟩), .agg vs.toArray] w fun r w' => r = .returned (.int .i64 7) ∧ Step No c w c w' ∧ Ok c w' := by
  obtain ⟨now, who, kind, fault, id, bytes⟩ := e
  have he' := he
  obtain ⟨bv, rfl, hb⟩ := he
  dsimp only at *
  obtain ⟨a, cap, rfl, hform⟩ := hb.form
  have hL2 := Lib.hid hL
  obtain ⟨hcol, hnum, v, hv, hown⟩ := hL
  have hblt := World.block_lt_of_cell? w _ hnum
  have hf := hok.soft b 1 (by rw [hcol]; exact hk0)
  obtain ⟨va, vc, rfl, _⟩ := hown.sl.form
  have d1 : decide (who < 0) = false := by simpa using h1
  have d2 : decide (n ≤ who) = false := by simpa using h2
  have d3 : decide (now < 0) = false := by simpa using h3
  have d4 : decide (1099511627776 < now) = false := by simpa using h4
  have d5 : decide (kind < 1) = false := by simpa using h5
  have d6 : decide (3 < kind) = false := by simpa using h6
  obtain ⟨g, off, cp, hcp, hlc, hcm, hgl, hlast⟩ := led_last h7 hown.sl
  cases hcp
  obtain ⟨m, hm⟩ : ∃ m, l.length = m + 1 := ⟨l0.length, by rw [h7]; simp⟩
  rw [hm] at hlast hlc
  simp only [hm] at hv hown
  have HM := Lib.hid hm
  have hd7 : decide ((65536 : Int) ≤ (m : Int) + 1) = true := by simp; omega
  clear h9
  clear hm h7
  simp only [Nat.add_sub_cancel] at hlast
  have hm0 : (0 : Int) ≤ m := by omega
  have hm1 : (m : Int) < (m : Int) + 1 := by omega
  unfold maxLen at hcm
  have hw1 : IntKind.i64.wrap (m : Int) = (m : Int) := IntWalk.i64_in _ (by omega)
  go_enter Try.func15, Try.ntmps15
  go_wp2_with fail
  go_quiet (fail)
  go_wp2_with fail
  go_quiet (fail)
  go_wp2_with fail
  go_ret
  exact ⟨rfl, by repeat (first | exact Step.refl | refine Step.drewN ?_ _ | refine Step.drew ?_ | refine Step.alloc ?_ _), by repeat (first | exact hok | refine Ok.drewN ?_ _ | refine Ok.drew ?_ | refine Ok.alloc ?_ _)⟩

end Go.Proofs.Ytcagfdmafelbkaa
